/- Parts of the proof, joined. Each part says what it proves, and under which conditions it does: those that its theorems name. -/
import Derived.Test.YtfbodefnblpflaaGreatDoorMczb
set_option linter.unusedVariables false
set_option linter.unusedSimpArgs false
set_option maxHeartbeats 4000000
namespace Go.Proofs.YtfbodefnblpflaaGreatDoor
set_option maxRecDepth 100000
set_option maxHeartbeats 4000000
theorem rpgcheck_call (p : PG) (hl : p.items.length ≤ 1000000) : MCalls Tryz.prog 35 [.agg p.c] St.none (fun r _ => r = .bool (pageOk p)) := by
 refine MCalls.drops (MCalls.body 77 [.tmp 2] Tryz.func35 rfl rfl rfl rfl ?_)
 have h1 := rtcheck_call p.fr
 have h2 := rtcheck_call p.to
 have h3 := rtgoes_call p.fr p.to
 have h4 := rcitems_call p.items false hl
 have h5 : mbin Tryz.prog 34 .eql (.agg p.to.c) (.agg [.int .i64 0, .int .i64 0, .int .i64 0, .int .i64 0]) = some (True, .bool (decide (p.to = tk0))) := mbe_token p.to tk0
 have hie := items_empty (p := p)
 obtain ⟨res, hres⟩ : ∃ b, pageOk p = b := ⟨_, rfl⟩
 have e : pageOk p = res := hres
 rw [hres]
 clear hres
 unfold pageOk at e
 cases hb1 : tokOk p.fr <;> rw [hb1] at h1 e
 ·rw [Bool.false_and] at e
  subst e
  repeat' (first | (with_reducible first | refine up h1 ?_ | refine up h2 ?_ | refine up h3 ?_ | refine up h4 ?_) | (with_reducible first | (refine wN fun _ hnl => ?_; revert hnl; (repeat refine wS fun _ _ => ?_); intro hnl) | refine wE ?_ | (refine wK ?_ ?_ <;> intro h) | (refine wB ?_ ?_ <;> intro h <;> simp only [h])) | simp (maxSteps := 4000000) (disch := first | decide | assumption | omega | (simp only [wL]; omega)) only [go_sem, simprocAttr, Tryz.f35])
  all_goals (first | exact ⟨_, St.le_refl _, rfl⟩ | exact ⟨_, St.le_refl _⟩ | (exfalso; omega) | skip)
 ·rw [Bool.true_and] at e
  by_cases hc : p.code = 0
  ·rw [if_neg (by omega)] at e
   cases hr : p.reset
   ·rw [if_neg (by rw [hr]; simp)] at e
    cases hb3 : tokGo p.fr p.to <;> rw [hb3] at h3 e
    ·simp only [Bool.false_and] at e
     subst e
     repeat' (first | (with_reducible first | refine up h1 ?_ | refine up h2 ?_ | refine up h3 ?_ | refine up h4 ?_) | (with_reducible first | (refine wN fun _ hnl => ?_; revert hnl; (repeat refine wS fun _ _ => ?_); intro hnl) | refine wE ?_ | (refine wK ?_ ?_ <;> intro h) | (refine wB ?_ ?_ <;> intro h <;> simp only [h])) | simp (maxSteps := 4000000) (disch := first | decide | assumption | omega | (simp only [wL]; omega)) only [go_sem, simprocAttr, Tryz.f35, hr])
     all_goals (first | exact ⟨_, St.le_refl _, rfl⟩ | exact ⟨_, St.le_refl _⟩ | (exfalso; omega) | skip)
    ·cases hb4 : itemsOk 0 p.items <;> rw [hb4] at h4 e
     all_goals
      simp only [Bool.true_and, Bool.and_false, Bool.false_and] at e
      subst e
      repeat' (first | (with_reducible first | refine up h1 ?_ | refine up h2 ?_ | refine up h3 ?_ | refine up h4 ?_) | (with_reducible first | (refine wN fun _ hnl => ?_; revert hnl; (repeat refine wS fun _ _ => ?_); intro hnl) | refine wE ?_ | (refine wK ?_ ?_ <;> intro h) | (refine wB ?_ ?_ <;> intro h <;> simp only [h])) | simp (maxSteps := 4000000) (disch := first | decide | assumption | omega | (simp only [wL]; omega)) only [go_sem, simprocAttr, Tryz.f35, hr])
      all_goals first | refine ⟨_, St.le_refl _, ?_⟩ | refine ⟨_, St.le_refl _⟩ | skip
      all_goals first | done | (exact decide_eq_decide.mpr (by omega)) | (congr 1; exact decide_eq_decide.mpr (by omega))
   ·rw [if_pos hr] at e
    cases hb2 : tokOk p.to <;> rw [hb2] at h2 e
    all_goals
     simp only [Bool.true_and, Bool.and_false, Bool.false_and, Bool.and_true, ← hie] at e
     have e' : Unit → _ := fun _ => e
     clear e hie
     repeat' (first | (with_reducible first | refine up h1 ?_ | refine up h2 ?_ | refine up h3 ?_ | refine up h4 ?_) | (with_reducible first | (refine wN fun _ hnl => ?_; revert hnl; (repeat refine wS fun _ _ => ?_); intro hnl) | refine wE ?_ | (refine wK ?_ ?_ <;> intro h) | (refine wB ?_ ?_ <;> intro h <;> simp only [h])) | simp (maxSteps := 4000000) (disch := first | decide | assumption | omega | (simp only [wL]; omega)) only [go_sem, simprocAttr, Tryz.f35, hr])
     all_goals first | refine ⟨_, St.le_refl _, ?_⟩ | refine ⟨_, St.le_refl _⟩ | skip
     all_goals rw [← e' ()]
     all_goals (first | (simp [*]; done) | (simp only [*, not_false_eq_true, decide_false, decide_true, Bool.false_and, Bool.true_and, Bool.and_false]; done) | skip)
  ·rw [if_pos hc] at e
   obtain ⟨bt, hbt⟩ : ∃ b, decide (p.to = tk0) = b := ⟨_, rfl⟩
   rw [hbt] at h5
   have ht : p.to = tk0 ↔ bt = true := by rw [← hbt, decide_eq_true_iff]
   have e' : Unit → _ := fun _ => e
   simp only [ht, ← hie] at e'
   clear e ht hbt hie
   cases bt
   all_goals
    cases hr : p.reset
    all_goals
     repeat' (first | (with_reducible first | refine up h1 ?_ | refine up h2 ?_ | refine up h3 ?_ | refine up h4 ?_) | (with_reducible first | (refine wN fun _ hnl => ?_; revert hnl; (repeat refine wS fun _ _ => ?_); intro hnl) | refine wE ?_ | (refine wK ?_ ?_ <;> intro h) | (refine wB ?_ ?_ <;> intro h <;> simp only [h])) | simp (maxSteps := 4000000) (disch := first | decide | assumption | omega | (simp only [wL]; omega)) only [go_sem, simprocAttr, Tryz.f35, hr, h5])
     all_goals first | refine ⟨_, St.le_refl _, ?_⟩ | refine ⟨_, St.le_refl _⟩ | skip
     all_goals rw [← e' ()]
     all_goals (first | (simp [*]; done) | (simp only [*, not_false_eq_true, decide_false, decide_true, Bool.false_and, Bool.true_and, Bool.and_false]; done) | skip)
theorem rpgsame_call (a b : PG) (hl : a.items.length ≤ 1000000) : MCalls Tryz.prog 41 [.agg a.c, .agg b.c] St.none (fun r _ => r = .bool (decide (a = b))) := by
 refine MCalls.drops (MCalls.body 38 [.tmp 4] Tryz.func41 rfl rfl rfl rfl ?_)
 have hs := isame_call a.items b.items false false hl
 have h1 := mbe_token a.fr b.fr
 have h2 := mbe_token a.to b.to
 obtain ⟨bi, hbi⟩ : ∃ x, decide (a.items = b.items) = x := ⟨_, rfl⟩
 obtain ⟨b1, hb1⟩ : ∃ x, decide (a.fr = b.fr) = x := ⟨_, rfl⟩
 obtain ⟨b2, hb2⟩ : ∃ x, decide (a.to = b.to) = x := ⟨_, rfl⟩
 obtain ⟨res, hres⟩ : ∃ r, decide (a = b) = r := ⟨_, rfl⟩
 have e : Unit → decide (a.code = b.code ∧ a.reset = b.reset ∧ b1 = true ∧ b2 = true ∧ bi = true) = res := fun _ => by
  rw [← hres, ← hb1, ← hb2, ← hbi]
  refine decide_eq_decide.mpr ?_
  rw [pg_iff, decide_eq_true_iff, decide_eq_true_iff, decide_eq_true_iff]
 rw [hbi] at hs
 rw [hb1] at h1
 rw [hb2] at h2
 rw [hres]
 clear hres hbi hb1 hb2
 cases b1 <;> cases b2 <;> cases bi
 all_goals
  repeat' (first | (with_reducible first | refine up hs ?_) | (with_reducible first | (refine wN fun _ hnl => ?_; revert hnl; (repeat refine wS fun _ _ => ?_); intro hnl) | refine wE ?_ | (refine wK ?_ ?_ <;> intro h) | (refine wB ?_ ?_ <;> intro h <;> simp only [h])) | simp (maxSteps := 4000000) (disch := first | decide | assumption | omega | (simp only [wL]; omega)) only [go_sem, simprocAttr, Tryz.f41, h1, h2])
 all_goals first | refine ⟨_, St.le_refl _, ?_⟩ | skip
 all_goals rw [← e ()]
 all_goals clear e
 all_goals (first | (simp [*]; done) | (simp_all; done) | skip)
end Go.Proofs.YtfbodefnblpflaaGreatDoor
