/- Parts of the proof, joined. Each part says what it proves, and under which conditions it does: those that its theorems name. -/
import Derived.Test.YtfbodefnblpflaaGreatDoorMcv
import Derived.Test.YtfbodefnblpflaaGreatDoorMczb
set_option linter.unusedVariables false
set_option linter.unusedSimpArgs false
set_option maxHeartbeats 4000000
section
namespace Go.Proofs.YtfbodefnblpflaaGreatDoor
set_option maxRecDepth 100000
set_option maxHeartbeats 4000000
theorem pcitems_call (l : List IT) (tt : Bool) (hl : l.length ≤ 1000000) : MCalls Tryz.prog 121 [.lst 28 (IT.ks l) tt] St.none (fun r _ => r = .bool (itemsOk 0 l)) := by
 refine MCalls.drops (MCalls.body 43 [.tmp 2] Tryz.func121 rfl rfl rfl rfl ?_)
 repeat' (first | (with_reducible first | (refine wN fun _ hnl => ?_; revert hnl; (repeat refine wS fun _ _ => ?_); intro hnl) | refine wE ?_ | (refine wK ?_ ?_ <;> intro h) | (refine wB ?_ ?_ <;> intro h <;> simp only [h])) | simp (maxSteps := 4000000) (disch := first | decide | assumption | omega | (simp only [wL]; omega)) only [go_sem, simprocAttr, Tryz.f121])
 refine mloop_intro (α := Nat) (fun i => ⟨43, [(8, .int .i64 (i : Int)), (7, .int .i64 (l.length : Int)), (6, .lst 28 (IT.ks l) tt), (3, .int .i64 (lastI l i))], []⟩) (fun _ => St.none) (fun i => i ≤ l.length ∧ 0 ≤ lastI l i ∧ itemsOk 0 l = itemsOk (lastI l i) (l.drop i)) (fun i => l.length - i) (.of (.less ?_ (St.le_refl _)) ⟨0, rfl, rfl, Nat.zero_le _, Int.le_refl _, rfl⟩) ?_
 ·simp (maxSteps := 4000000) (disch := first | decide | assumption | omega | (simp only [wL]; omega)) only [go_sem, simprocAttr, weak_int, weak_same]
  all_goals rfl
 ·rintro i ⟨hi, hp, hq⟩
  by_cases hlt : i < l.length
  ·rw [drop_getD it0 hlt, itemsOk] at hq
   have hnext : lastI l (i + 1) = (l.getD i it0).c.id := by unfold lastI; rw [if_neg (by omega)]; rfl
   obtain ⟨x, hx⟩ : ∃ x, l.getD i it0 = x := ⟨_, rfl⟩
   obtain ⟨last, hlast⟩ : ∃ k, lastI l i = k := ⟨_, rfl⟩
   rw [hx] at hnext hq
   rw [hlast] at hq hp ⊢
   obtain ⟨res, hres⟩ : ∃ b, itemsOk 0 l = b := ⟨_, rfl⟩
   have hc := pccheck_call x.c
   have hm : mbin Tryz.prog 117 .neq (.agg x.c.c) (.agg (.int .i64 x.c.id :: .int .i64 0 :: .int .u32 0 :: fc f80)) = some (True, .bool (!decide (x.c = { ca0 with id := x.c.id }))) := mbn_card x.c { ca0 with id := x.c.id }
   by_cases hr : last < x.c.id ∧ 1 ≤ x.c.id ∧ x.c.id < 1073741824
   ·have hk := itOk_kind hr
    rw [hk] at hq
    obtain ⟨hr1, hr2, hr3⟩ := hr
    clear hk
    by_cases hk1 : x.kd = 1 ∨ x.kd = 3
    ·rw [if_pos hk1] at hq
     cases hb : cardOk x.c <;> rw [hb] at hc hq
     ·rw [hq, Bool.false_and]
      clear hm hq hres
      repeat' (first | (with_reducible first | refine up hc ?_) | (with_reducible first | (refine wN fun _ hnl => ?_; revert hnl; (repeat refine wS fun _ _ => ?_); intro hnl) | refine wE ?_ | (refine wK ?_ ?_ <;> intro h) | (refine wB ?_ ?_ <;> intro h <;> simp only [h])) | simp (maxSteps := 4000000) (disch := first | decide | assumption | omega | (simp only [wL]; omega)) only [go_sem, simprocAttr, FXs, getD_mapd it0, hx])
      all_goals (first | exact ⟨_, St.le_refl _, rfl⟩ | exact ⟨_, St.le_refl _⟩ | (exfalso; omega) | skip)
     ·rw [Bool.true_and] at hq
      rw [hres] at hq ⊢
      repeat' (first | (with_reducible first | refine up hc ?_) | (with_reducible first | (refine wN fun _ hnl => ?_; revert hnl; (repeat refine wS fun _ _ => ?_); intro hnl) | refine wE ?_ | (refine wK ?_ ?_ <;> intro h) | (refine wB ?_ ?_ <;> intro h <;> simp only [h])) | simp (maxSteps := 4000000) (disch := first | decide | assumption | omega | (simp only [wL]; omega)) only [go_sem, simprocAttr, FXs, getD_mapd it0, hx])
      all_goals (try (exfalso; omega))
      all_goals
       refine .of (.less ?_ (St.none_le _)) ⟨i + 1, rfl, rfl, ⟨by omega, by rw [hnext]; omega, by rw [hnext]; exact hq⟩, by omega⟩
       rw [hnext]
       simp (maxSteps := 4000000) (disch := first | decide | assumption | omega | (simp only [wL]; omega)) only [go_sem, simprocAttr, weak_int, weak_same]
       all_goals rfl
    ·rw [if_neg hk1] at hq
     by_cases hk2 : x.kd = 2
     ·rw [if_pos hk2] at hq
      obtain ⟨b, hb⟩ : ∃ b, decide (x.c = { ca0 with id := x.c.id }) = b := ⟨_, rfl⟩
      rw [hb] at hm hq
      cases b
      ·rw [hq, Bool.false_and]
       clear hq hres
       repeat' (first | (with_reducible first | refine up hc ?_) | (with_reducible first | (refine wN fun _ hnl => ?_; revert hnl; (repeat refine wS fun _ _ => ?_); intro hnl) | refine wE ?_ | (refine wK ?_ ?_ <;> intro h) | (refine wB ?_ ?_ <;> intro h <;> simp only [h])) | simp (maxSteps := 4000000) (disch := first | decide | assumption | omega | (simp only [wL]; omega)) only [go_sem, simprocAttr, FXs, getD_mapd it0, hx, hm])
       all_goals (first | exact ⟨_, St.le_refl _, rfl⟩ | exact ⟨_, St.le_refl _⟩ | (exfalso; omega) | skip)
      ·rw [Bool.true_and] at hq
       rw [hres] at hq ⊢
       repeat' (first | (with_reducible first | refine up hc ?_) | (with_reducible first | (refine wN fun _ hnl => ?_; revert hnl; (repeat refine wS fun _ _ => ?_); intro hnl) | refine wE ?_ | (refine wK ?_ ?_ <;> intro h) | (refine wB ?_ ?_ <;> intro h <;> simp only [h])) | simp (maxSteps := 4000000) (disch := first | decide | assumption | omega | (simp only [wL]; omega)) only [go_sem, simprocAttr, FXs, getD_mapd it0, hx, hm])
       all_goals (try (exfalso; omega))
       all_goals
        refine .of (.less ?_ (St.none_le _)) ⟨i + 1, rfl, rfl, ⟨by omega, by rw [hnext]; omega, by rw [hnext]; exact hq⟩, by omega⟩
        rw [hnext]
        simp (maxSteps := 4000000) (disch := first | decide | assumption | omega | (simp only [wL]; omega)) only [go_sem, simprocAttr, weak_int, weak_same]
        all_goals rfl
     ·rw [if_neg hk2, Bool.false_and] at hq
      rw [hq]
      clear hq hres hm
      repeat' (first | (with_reducible first | refine up hc ?_) | (with_reducible first | (refine wN fun _ hnl => ?_; revert hnl; (repeat refine wS fun _ _ => ?_); intro hnl) | refine wE ?_ | (refine wK ?_ ?_ <;> intro h) | (refine wB ?_ ?_ <;> intro h <;> simp only [h])) | simp (maxSteps := 4000000) (disch := first | decide | assumption | omega | (simp only [wL]; omega)) only [go_sem, simprocAttr, FXs, getD_mapd it0, hx])
      all_goals (first | exact ⟨_, St.le_refl _, rfl⟩ | exact ⟨_, St.le_refl _⟩ | (exfalso; omega) | skip)
   ·rw [itOk_range hr, Bool.false_and] at hq
    rw [hq]
    clear hq hres hm
    repeat' (first | (with_reducible first | refine up hc ?_) | (with_reducible first | (refine wN fun _ hnl => ?_; revert hnl; (repeat refine wS fun _ _ => ?_); intro hnl) | refine wE ?_ | (refine wK ?_ ?_ <;> intro h) | (refine wB ?_ ?_ <;> intro h <;> simp only [h])) | simp (maxSteps := 4000000) (disch := first | decide | assumption | omega | (simp only [wL]; omega)) only [go_sem, simprocAttr, FXs, getD_mapd it0, hx])
    all_goals (first | exact ⟨_, St.le_refl _, rfl⟩ | exact ⟨_, St.le_refl _⟩ | (exfalso; omega) | skip)
  ·have : i = l.length := by omega
   subst this
   rw [List.drop_length, itemsOk] at hq
   rw [hq]
   repeat' (first | (with_reducible first | (refine wN fun _ hnl => ?_; revert hnl; (repeat refine wS fun _ _ => ?_); intro hnl) | refine wE ?_ | (refine wK ?_ ?_ <;> intro h) | (refine wB ?_ ?_ <;> intro h <;> simp only [h])) | simp (maxSteps := 4000000) (disch := first | decide | assumption | omega | (simp only [wL]; omega)) only [go_sem, simprocAttr])
   all_goals first | exact ⟨_, St.le_refl _, rfl⟩ | exact ⟨_, St.le_refl _⟩
theorem pequalI_call (a b : List IT) (ta tb : Bool) (hl : a.length ≤ 1000000) : MCalls Tryz.prog 144 [.lst 28 (IT.ks a) ta, .lst 28 (IT.ks b) tb] St.none (fun r _ => r = .bool (decide (a = b))) := by
 refine (MCalls.body 26 [.tmp 4] Tryz.func144 rfl rfl rfl rfl ?_)
 by_cases hlen : a.length = b.length
 ·repeat' (first | (with_reducible first | (refine wN fun _ hnl => ?_; revert hnl; (repeat refine wS fun _ _ => ?_); intro hnl) | refine wE ?_ | (refine wK ?_ ?_ <;> intro h) | (refine wB ?_ ?_ <;> intro h <;> simp only [h])) | simp (maxSteps := 4000000) (disch := first | decide | assumption | omega | (simp only [wL]; omega)) only [go_sem, simprocAttr, Tryz.f144])
  refine mloop_intro (α := Nat) (fun i => ⟨26, [(13, .int .i64 (i : Int)), (12, .int .i64 (a.length : Int)), (0, .lst 28 (IT.ks a) ta), (1, .lst 28 (IT.ks b) tb)], []⟩) (fun _ => St.none) (fun i => i ≤ a.length ∧ a.take i = b.take i) (fun i => a.length - i) (.of (.less ?_ (St.le_refl _)) ⟨0, rfl, rfl, Nat.zero_le _, rfl⟩) ?_
  ·simp (maxSteps := 4000000) (disch := first | decide | assumption | omega | (simp only [wL]; omega)) only [go_sem, simprocAttr, weak_int, weak_same]
   all_goals rfl
  ·rintro i ⟨hi, hq⟩
   by_cases hlt : i < a.length
   ·have hm := mbn_item (a.getD i it0) (b.getD i it0)
    have hsa := List.take_succ_eq_append_getElem (l := a) hlt
    have hib : i < b.length := by omega
    have hsb := List.take_succ_eq_append_getElem (l := b) hib
    rw [← getD_of_lt it0 hlt] at hsa
    rw [← getD_of_lt it0 hib] at hsb
    obtain ⟨x, hx⟩ : ∃ x, a.getD i it0 = x := ⟨_, rfl⟩
    obtain ⟨y, hy⟩ : ∃ y, b.getD i it0 = y := ⟨_, rfl⟩
    rw [hx] at hm hsa
    rw [hy] at hm hsb
    by_cases he : x = y
    ·rw [decide_eq_true he] at hm
     repeat' (first | (with_reducible first | (refine wN fun _ hnl => ?_; revert hnl; (repeat refine wS fun _ _ => ?_); intro hnl) | refine wE ?_ | (refine wK ?_ ?_ <;> intro h) | (refine wB ?_ ?_ <;> intro h <;> simp only [h])) | simp (maxSteps := 4000000) (disch := first | decide | assumption | omega | (simp only [wL]; omega)) only [go_sem, simprocAttr, FXs, getD_mapd it0, hx, hy, hm])
     refine .of (.less ?_ (St.le_refl _)) ⟨i + 1, rfl, rfl, ⟨by omega, by rw [hsa, hsb, hq, he]⟩, by omega⟩
     simp (maxSteps := 4000000) (disch := first | decide | assumption | omega | (simp only [wL]; omega)) only [go_sem, simprocAttr, weak_int, weak_same]
     all_goals rfl
    ·rw [decide_eq_false he] at hm
     have hne : ¬ a = b := fun e => he (by rw [← hx, ← hy, e])
     rw [decide_eq_false hne]
     repeat' (first | (with_reducible first | (refine wN fun _ hnl => ?_; revert hnl; (repeat refine wS fun _ _ => ?_); intro hnl) | refine wE ?_ | (refine wK ?_ ?_ <;> intro h) | (refine wB ?_ ?_ <;> intro h <;> simp only [h])) | simp (maxSteps := 4000000) (disch := first | decide | assumption | omega | (simp only [wL]; omega)) only [go_sem, simprocAttr, FXs, getD_mapd it0, hx, hy, hm])
     all_goals done
   ·have : i = a.length := by omega
    subst this
    rw [List.take_length, hlen, List.take_length] at hq
    rw [decide_eq_true hq]
    repeat' (first | (with_reducible first | (refine wN fun _ hnl => ?_; revert hnl; (repeat refine wS fun _ _ => ?_); intro hnl) | refine wE ?_ | (refine wK ?_ ?_ <;> intro h) | (refine wB ?_ ?_ <;> intro h <;> simp only [h])) | simp (maxSteps := 4000000) (disch := first | decide | assumption | omega | (simp only [wL]; omega)) only [go_sem, simprocAttr])
    all_goals done
 ·rw [decide_eq_false fun e => hlen (by rw [e])]
  repeat' (first | (with_reducible first | (refine wN fun _ hnl => ?_; revert hnl; (repeat refine wS fun _ _ => ?_); intro hnl) | refine wE ?_ | (refine wK ?_ ?_ <;> intro h) | (refine wB ?_ ?_ <;> intro h <;> simp only [h])) | simp (maxSteps := 4000000) (disch := first | decide | assumption | omega | (simp only [wL]; omega)) only [go_sem, simprocAttr, Tryz.f144])
  all_goals (first | rfl | (exfalso; omega))
theorem pisame_call (a b : List IT) (ta tb : Bool) (hl : a.length ≤ 1000000) : MCalls Tryz.prog 86 [.lst 28 (IT.ks a) ta, .lst 28 (IT.ks b) tb] St.none (fun r _ => r = .bool (decide (a = b))) := by
 refine (MCalls.body 8 [.tmp 4] Tryz.func86 rfl rfl rfl rfl ?_)
 have h := pequalI_call a b ta tb hl
 repeat' (first | (with_reducible first | refine up h ?_) | (with_reducible first | (refine wN fun _ hnl => ?_; revert hnl; (repeat refine wS fun _ _ => ?_); intro hnl) | refine wE ?_ | (refine wK ?_ ?_ <;> intro h) | (refine wB ?_ ?_ <;> intro h <;> simp only [h])) | simp (maxSteps := 4000000) (disch := first | decide | assumption | omega | (simp only [wL]; omega)) only [go_sem, simprocAttr, Tryz.f86])
theorem ppgsame_call (a b : PG) (hl : a.items.length ≤ 1000000) : MCalls Tryz.prog 38 [.agg a.c, .agg b.c] St.none (fun r _ => r = .bool (decide (a = b))) := by
 refine MCalls.drops (MCalls.body 38 [.tmp 4] Tryz.func38 rfl rfl rfl rfl ?_)
 have hs := pisame_call a.items b.items false false hl
 have h1 := mbe_token a.fr b.fr
 have h2 := mbe_token a.to b.to
 obtain ⟨bi, hbi⟩ : ∃ x, decide (a.items = b.items) = x := ⟨_, rfl⟩
 obtain ⟨b1, hb1⟩ : ∃ x, decide (a.fr = b.fr) = x := ⟨_, rfl⟩
 obtain ⟨b2, hb2⟩ : ∃ x, decide (a.to = b.to) = x := ⟨_, rfl⟩
 obtain ⟨res, hres⟩ : ∃ r, decide (a = b) = r := ⟨_, rfl⟩
 have e : Unit → decide (a.code = b.code ∧ a.reset = b.reset ∧ b1 = true ∧ b2 = true ∧ bi = true) = res := fun _ => by
  rw [← hres, ← hb1, ← hb2, ← hbi]
  refine decide_eq_decide.mpr ?_
  rw [pg_iff, decide_eq_true_iff, decide_eq_true_iff, decide_eq_true_iff]
 rw [hbi] at hs
 rw [hb1] at h1
 rw [hb2] at h2
 rw [hres]
 clear hres hbi hb1 hb2
 cases b1 <;> cases b2 <;> cases bi
 all_goals
  repeat' (first | (with_reducible first | refine up hs ?_) | (with_reducible first | (refine wN fun _ hnl => ?_; revert hnl; (repeat refine wS fun _ _ => ?_); intro hnl) | refine wE ?_ | (refine wK ?_ ?_ <;> intro h) | (refine wB ?_ ?_ <;> intro h <;> simp only [h])) | simp (maxSteps := 4000000) (disch := first | decide | assumption | omega | (simp only [wL]; omega)) only [go_sem, simprocAttr, Tryz.f38, h1, h2])
 all_goals first | refine ⟨_, St.le_refl _, ?_⟩ | skip
 all_goals rw [← e ()]
 all_goals clear e
 all_goals (first | (simp [*]; done) | (simp_all; done) | skip)
theorem ppgcheck_call (p : PG) (hl : p.items.length ≤ 1000000) : MCalls Tryz.prog 67 [.agg p.c] St.none (fun r _ => r = .bool (pageOk p)) := by
 refine MCalls.drops (MCalls.body 80 [.tmp 2] Tryz.func67 rfl rfl rfl rfl ?_)
 have h1 := ptcheck_call p.fr
 have h2 := ptcheck_call p.to
 have h3 := ptgoes_call p.fr p.to
 have h4 := pcitems_call p.items false hl
 have h5 : mbin Tryz.prog 34 .eql (.agg p.to.c) (.agg [.int .i64 0, .int .i64 0, .int .i64 0, .int .i64 0]) = some (True, .bool (decide (p.to = tk0))) := mbe_token p.to tk0
 have hie := items_empty (p := p)
 obtain ⟨res, hres⟩ : ∃ b, pageOk p = b := ⟨_, rfl⟩
 have e : pageOk p = res := hres
 rw [hres]
 clear hres
 unfold pageOk at e
 cases hb1 : tokOk p.fr <;> rw [hb1] at h1 e
 ·rw [Bool.false_and] at e
  subst e
  repeat' (first | (with_reducible first | refine up h1 ?_ | refine up h2 ?_ | refine up h3 ?_ | refine up h4 ?_) | (with_reducible first | (refine wN fun _ hnl => ?_; revert hnl; (repeat refine wS fun _ _ => ?_); intro hnl) | refine wE ?_ | (refine wK ?_ ?_ <;> intro h) | (refine wB ?_ ?_ <;> intro h <;> simp only [h])) | simp (maxSteps := 4000000) (disch := first | decide | assumption | omega | (simp only [wL]; omega)) only [go_sem, simprocAttr, Tryz.f67])
  all_goals (first | exact ⟨_, St.le_refl _, rfl⟩ | exact ⟨_, St.le_refl _⟩ | (exfalso; omega) | skip)
 ·rw [Bool.true_and] at e
  by_cases hc : p.code = 0
  ·rw [if_neg (by omega)] at e
   cases hr : p.reset
   ·rw [if_neg (by rw [hr]; simp)] at e
    cases hb3 : tokGo p.fr p.to <;> rw [hb3] at h3 e
    ·simp only [Bool.false_and] at e
     subst e
     repeat' (first | (with_reducible first | refine up h1 ?_ | refine up h2 ?_ | refine up h3 ?_ | refine up h4 ?_) | (with_reducible first | (refine wN fun _ hnl => ?_; revert hnl; (repeat refine wS fun _ _ => ?_); intro hnl) | refine wE ?_ | (refine wK ?_ ?_ <;> intro h) | (refine wB ?_ ?_ <;> intro h <;> simp only [h])) | simp (maxSteps := 4000000) (disch := first | decide | assumption | omega | (simp only [wL]; omega)) only [go_sem, simprocAttr, Tryz.f67, hr])
     all_goals (first | exact ⟨_, St.le_refl _, rfl⟩ | exact ⟨_, St.le_refl _⟩ | (exfalso; omega) | skip)
    ·cases hb4 : itemsOk 0 p.items <;> rw [hb4] at h4 e
     all_goals
      simp only [Bool.true_and, Bool.and_false, Bool.false_and] at e
      subst e
      repeat' (first | (with_reducible first | refine up h1 ?_ | refine up h2 ?_ | refine up h3 ?_ | refine up h4 ?_) | (with_reducible first | (refine wN fun _ hnl => ?_; revert hnl; (repeat refine wS fun _ _ => ?_); intro hnl) | refine wE ?_ | (refine wK ?_ ?_ <;> intro h) | (refine wB ?_ ?_ <;> intro h <;> simp only [h])) | simp (maxSteps := 4000000) (disch := first | decide | assumption | omega | (simp only [wL]; omega)) only [go_sem, simprocAttr, Tryz.f67, hr])
      all_goals first | refine ⟨_, St.le_refl _, ?_⟩ | refine ⟨_, St.le_refl _⟩ | skip
      all_goals first | done | (exact decide_eq_decide.mpr (by omega)) | (congr 1; exact decide_eq_decide.mpr (by omega)) | (exact (decide_eq_true (by omega)).symm) | (exact (decide_eq_false (by omega)).symm)
   ·rw [if_pos hr] at e
    cases hb2 : tokOk p.to <;> rw [hb2] at h2 e
    all_goals
     simp only [Bool.true_and, Bool.and_false, Bool.false_and, Bool.and_true, ← hie] at e
     have e' : Unit → _ := fun _ => e
     clear e hie
     repeat' (first | (with_reducible first | refine up h1 ?_ | refine up h2 ?_ | refine up h3 ?_ | refine up h4 ?_) | (with_reducible first | (refine wN fun _ hnl => ?_; revert hnl; (repeat refine wS fun _ _ => ?_); intro hnl) | refine wE ?_ | (refine wK ?_ ?_ <;> intro h) | (refine wB ?_ ?_ <;> intro h <;> simp only [h])) | simp (maxSteps := 4000000) (disch := first | decide | assumption | omega | (simp only [wL]; omega)) only [go_sem, simprocAttr, Tryz.f67, hr])
     all_goals first | refine ⟨_, St.le_refl _, ?_⟩ | refine ⟨_, St.le_refl _⟩ | skip
     all_goals rw [← e' ()]
     all_goals (first | (simp [*]; done) | (simp only [*, not_false_eq_true, decide_false, decide_true, Bool.false_and, Bool.true_and, Bool.and_false]; done) | skip)
  ·rw [if_pos hc] at e
   obtain ⟨bt, hbt⟩ : ∃ b, decide (p.to = tk0) = b := ⟨_, rfl⟩
   rw [hbt] at h5
   have ht : p.to = tk0 ↔ bt = true := by rw [← hbt, decide_eq_true_iff]
   have e' : Unit → _ := fun _ => e
   simp only [ht, ← hie] at e'
   clear e ht hbt hie
   cases bt
   all_goals
    cases hr : p.reset
    all_goals
     repeat' (first | (with_reducible first | refine up h1 ?_ | refine up h2 ?_ | refine up h3 ?_ | refine up h4 ?_) | (with_reducible first | (refine wN fun _ hnl => ?_; revert hnl; (repeat refine wS fun _ _ => ?_); intro hnl) | refine wE ?_ | (refine wK ?_ ?_ <;> intro h) | (refine wB ?_ ?_ <;> intro h <;> simp only [h])) | simp (maxSteps := 4000000) (disch := first | decide | assumption | omega | (simp only [wL]; omega)) only [go_sem, simprocAttr, Tryz.f67, hr, h5])
     all_goals first | refine ⟨_, St.le_refl _, ?_⟩ | refine ⟨_, St.le_refl _⟩ | skip
     all_goals rw [← e' ()]
     all_goals (first | (simp [*]; done) | (simp only [*, not_false_eq_true, decide_false, decide_true, Bool.false_and, Bool.true_and, Bool.and_false]; done) | skip)
end Go.Proofs.YtfbodefnblpflaaGreatDoor
end

section
namespace Go.Proofs.YtfbodefnblpflaaGreatDoor
set_option maxRecDepth 100000
set_option maxHeartbeats 4000000
def hasL (f : F8) (k : Nat) : List Nat := (List.range k).filter fun i => decide ((f.get i).kd ≠ 0)
theorem hasL_succ (f : F8) (k : Nat) : hasL f (k + 1) = if (f.get k).kd = 0 then hasL f k else hasL f k ++ [k] := by
 unfold hasL
 rw [List.range_succ, List.filter_append, List.filter_cons]
 by_cases h : (f.get k).kd = 0 <;> simp [h]
theorem hasL_lt {f : F8} {k i : Nat} (h : i ∈ hasL f k) : i < k := List.mem_range.1 (List.mem_filter.1 h).1
theorem hasL_len (f : F8) (k : Nat) : (hasL f k).length ≤ k := by
 have := List.length_filter_le (fun i => decide ((f.get i).kd ≠ 0)) (List.range k)
 rwa [List.length_range] at this
theorem hasL_bits (f : F8) : bitsL (hasM f) = hasL f 8 := by
 unfold bitsL hasL
 exact List.filter_congr fun i hi => hasM_bit f (List.mem_range.1 hi)
theorem hasL_fold (f : F8) : (hasL f 8).foldl (fun s n => s ||| 2 ^ n) 0 = hasM f := by
 unfold hasM hasL
 rw [ors_fold]
theorem intsL_at {L : List Nat} {ex : List (List MV)} {k : Nat} (h : k < L.length) : (intsL L ++ ex).getD k [] = [.int .i64 ((L.getD k 0 : Nat) : Int)] := by
 have h' : k < (intsL L).length := by simpa [intsL] using h
 rw [List.getD_eq_getElem?_getD, List.getElem?_append_left h', List.getElem?_map, List.getElem?_eq_getElem h, getD_of_lt 0 h]; rfl
theorem pputcard_call (bs : BL) (hb : bs.length ≤ 400000) (t : Bool) (c : CA) (hok : cardOk c = true) : MCalls Tryz.prog 123 [.lst 1 (bs.map bc) t, .agg c.c] St.none (fun r _ => r = .lst 1 ((bs ++ cardB c).map bc) false) := by
 refine MCalls.drops (MCalls.body 59 [.tmp 4] Tryz.func123 rfl rfl rfl rfl ?_)
 have hc := pccheck_call c
 rw [hok] at hc
 repeat' (first | (with_reducible first | refine up hc ?_) | (with_reducible first | (refine wT ?_; (first | ((fail_if_success (have := nl1)); refine wN fun nl1 hnl => ?_) | ((fail_if_success (have := nl2)); refine wN fun nl2 hnl => ?_) | ((fail_if_success (have := nl3)); refine wN fun nl3 hnl => ?_) | ((fail_if_success (have := nl4)); refine wN fun nl4 hnl => ?_) | refine wN fun _ hnl => ?_); revert hnl; (repeat refine wS fun _ _ => ?_); intro hnl) | refine wE ?_ | (refine wK ?_ ?_ <;> intro h) | (refine wB ?_ ?_ <;> intro h <;> simp only [h])) | simp (maxSteps := 4000000) (disch := first | decide | assumption | omega | (simp only [wL]; omega)) only [go_sem, simprocAttr, Tryz.f123, FYs])
 refine mloop_intro (α := Nat × Nat × List (List MV)) (fun a => ⟨59, [(17, .int .i64 (a.1 : Int)), (16, .agg (fc c.f)), (5, .vec 1 a.2.1 0 (hasL c.f a.1).length), (3, .ptr nl1 0 0), (0, .lst 1 (bs.map bc) t)], []⟩)
  (fun a => (St.none.set nl1 (.row 117 27 [c.c])).set a.2.1 (.row 3 1 (intsL (hasL c.f a.1) ++ a.2.2))) (fun a => a.1 ≤ 8 ∧ a.2.1 ≠ nl1) (fun a => 8 - a.1) ?_ ?_
 ·refine Gh.rowNew 3 1 (fun q => [(17, .int .i64 0), (16, .agg (fc c.f)), (5, .vec 1 q 0 0), (3, .ptr nl1 0 0), (0, .lst 1 (bs.map bc) t)]) (fun k => by (repeat' (refine And.intro ?_ ?_)) <;> first | exact trivial | exact .inl rfl | exact .inr ⟨rfl, .inl rfl⟩ | exact .inr ⟨rfl, .inr rfl⟩) fun q hq => ?_
  have q1 : q ≠ nl1 := fun e => by subst e; simp [St.set] at hq
  exact .done ⟨(0, q, []), rfl, rfl, Nat.zero_le _, q1⟩
 ·rintro ⟨k, q, ex⟩ ⟨hk, q1⟩
  simp only at hk q1 ⊢
  have q2 := Ne.symm q1
  by_cases h8 : k < 8
  ·have hsn := hasL_succ c.f k
   have hat := fc_at (f := c.f) h8
   have hll := hasL_len c.f k
   obtain ⟨x, hx⟩ : ∃ x, c.f.get k = x := ⟨_, rfl⟩
   rw [hx] at hsn hat
   obtain ⟨L, hL⟩ : ∃ L, hasL c.f k = L := ⟨_, rfl⟩
   rw [hL] at hsn hll ⊢
   by_cases h0 : x.kd = 0
   ·rw [if_pos h0] at hsn
    repeat' (first | (with_reducible first | (refine wT ?_; (first | ((fail_if_success (have := nl1)); refine wN fun nl1 hnl => ?_) | ((fail_if_success (have := nl2)); refine wN fun nl2 hnl => ?_) | ((fail_if_success (have := nl3)); refine wN fun nl3 hnl => ?_) | ((fail_if_success (have := nl4)); refine wN fun nl4 hnl => ?_) | refine wN fun _ hnl => ?_); revert hnl; (repeat refine wS fun _ _ => ?_); intro hnl) | refine wE ?_ | (refine wK ?_ ?_ <;> intro h) | (refine wB ?_ ?_ <;> intro h <;> simp only [h])) | simp (maxSteps := 4000000) (disch := first | decide | assumption | omega | (simp only [wL]; omega)) only [go_sem, simprocAttr, FYs, hat])
    refine .of (.less ?_ (σ1 := (St.none.set nl1 (.row 117 27 [c.c])).set q (.row 3 1 (intsL L ++ ex))) (le2 (by simp [St.set, *]) (by simp [St.set, *]))) ⟨(k + 1, q, ex), rfl, by rw [hsn], ⟨by simp only; omega, q1⟩, by simp only; omega⟩
    rw [hsn]
    simp (maxSteps := 4000000) (disch := first | decide | assumption | omega | (simp only [wL]; omega)) only [go_sem, simprocAttr, weak_int, weak_same]
    all_goals rfl
   ·rw [if_neg h0] at hsn
    have htk : (intsL L ++ ex).take L.length = intsL L := tk_app
    have hdr : (intsL L ++ ex).drop (L.length + 1) = ex.drop 1 := dr_app
    repeat' (first | (with_reducible first | (refine wT ?_; (first | ((fail_if_success (have := nl1)); refine wN fun nl1 hnl => ?_) | ((fail_if_success (have := nl2)); refine wN fun nl2 hnl => ?_) | ((fail_if_success (have := nl3)); refine wN fun nl3 hnl => ?_) | ((fail_if_success (have := nl4)); refine wN fun nl4 hnl => ?_) | refine wN fun _ hnl => ?_); revert hnl; (repeat refine wS fun _ _ => ?_); intro hnl) | refine wE ?_ | (refine wK ?_ ?_ <;> intro h) | (refine wB ?_ ?_ <;> intro h <;> simp only [h])) | simp (maxSteps := 4000000) (disch := first | decide | assumption | omega | (simp only [wL]; omega)) only [go_sem, simprocAttr, FYs, hat, htk, hdr])
    ·have hex : ex = [] := List.eq_nil_of_length_eq_zero (by omega)
     subst hex
     clear h
     refine .of (.less ?_ (σ1 := (St.none.set nl1 (.row 117 27 [c.c])).set nl4 (.row 3 1 (intsL (L ++ [k]) ++ []))) (le2 (by simp [St.set, *]) (by simp [St.set, *]))) ⟨(k + 1, nl4, []), rfl, by rw [hsn], ⟨by simp only; omega, by assumption⟩, by simp only; omega⟩
     rw [hsn]
     simp (maxSteps := 4000000) (disch := first | decide | assumption | omega | (simp only [wL]; omega)) only [go_sem, simprocAttr, weak_int, weak_same]
     all_goals first | rfl | (simp; done)
    ·refine .of (.less ?_ (σ1 := (St.none.set nl1 (.row 117 27 [c.c])).set nl4 (.row 3 1 (intsL (L ++ [k]) ++ ex.drop 1))) (le2 (by simp [St.set, *]) (by simp [St.set, *]))) ⟨(k + 1, nl4, ex.drop 1), rfl, by rw [hsn], ⟨by simp only; omega, by assumption⟩, by simp only; omega⟩
     rw [hsn]
     simp (maxSteps := 4000000) (disch := first | decide | assumption | omega | (simp only [wL]; omega)) only [go_sem, simprocAttr, weak_int, weak_same]
     all_goals first | rfl | (simp; done)
  ·have : k = 8 := by omega
   subst this
   have e : cardB c = numB c.id ++ numB c.ver ++ numB c.lab.toNat ++ numB (hasM c.f) ++ vbs c.f (hasL c.f 8) := by rw [cardB, if_pos hok, fieldsB_bits, hasL_bits]; rfl
   rw [e]
   have hmk := pmake_call (hasL c.f 8) (fun i hi => hasL_lt hi) false (by have := hasL_len c.f 8; omega) (by rw [hasL_fold]; exact hasM_lt c.f)
   rw [hasL_fold] at hmk
   have hml := hasM_lt c.f
   have hll := hasL_len c.f 8
   have hlt8 := fun i => hasL_lt (f := c.f) (k := 8) (i := i)
   have hva := ((cardOk_iff c).1 hok).2
   have hlab := c.lab.toNat_lt
   obtain ⟨L, hL⟩ : ∃ L, hasL c.f 8 = L := ⟨_, rfl⟩
   rw [hL] at hmk hll hlt8 ⊢
   obtain ⟨mm, hmm⟩ : ∃ m, hasM c.f = m := ⟨_, rfl⟩
   rw [hmm] at hmk hml ⊢
   have h1 := numB_len c.id
   have h2 := numB_len c.ver
   have h3 := numB_len (c.lab.toNat : Int)
   have h4 := numB_len (mm : Int)
   have n1 := pnum_call bs t c.id (by omega)
   have n2 := pnum_call (bs ++ numB c.id) false c.ver (by rw [List.length_append]; omega)
   have n3 := pnum_call (bs ++ numB c.id ++ numB c.ver) false (c.lab.toNat : Int) (by simp only [List.length_append]; omega)
   have n4 := pnum_call (bs ++ numB c.id ++ numB c.ver ++ numB (c.lab.toNat : Int)) false (mm : Int) (by simp only [List.length_append]; omega)
   repeat' (first | ((with_reducible refine mdraw_know mixed ?chk (pnumK (fun _ _ => none)) ?_); (case chk => decide +kernel)) | (with_reducible refine know_pure pnumK_hit n1 ?_) | (with_reducible refine know_pure pnumK_hit n2 ?_) | (with_reducible refine know_pure pnumK_hit n3 ?_) | (with_reducible refine use_lend [.bool false, .lst 1 (intsL L) false] hmk (.int _ _) rfl (views_two (.same _) (viewR (set_hit _ _ _))) ?_) | (with_reducible first | refine up n4 ?_) | (with_reducible first | (refine wT ?_; (first | ((fail_if_success (have := nl1)); refine wN fun nl1 hnl => ?_) | ((fail_if_success (have := nl2)); refine wN fun nl2 hnl => ?_) | ((fail_if_success (have := nl3)); refine wN fun nl3 hnl => ?_) | ((fail_if_success (have := nl4)); refine wN fun nl4 hnl => ?_) | refine wN fun _ hnl => ?_); revert hnl; (repeat refine wS fun _ _ => ?_); intro hnl) | refine wE ?_ | (refine wK ?_ ?_ <;> intro h) | (refine wB ?_ ?_ <;> intro h <;> simp only [h])) | simp (maxSteps := 4000000) (disch := first | decide | assumption | omega | (simp only [wL]; omega)) only [go_sem, simprocAttr, FYs])
   obtain ⟨hd, hhd⟩ : ∃ hd, bs ++ numB c.id ++ numB c.ver ++ numB (c.lab.toNat : Int) ++ numB (mm : Int) = hd := ⟨_, rfl⟩
   have hdl : hd.length ≤ 400024 := by rw [← hhd]; simp only [List.length_append]; omega
   have e2 : bs ++ (numB c.id ++ numB c.ver ++ numB (c.lab.toNat : Int) ++ numB (mm : Int) ++ vbs c.f L) = hd ++ vbs c.f L := by rw [← hhd]; simp only [List.append_assoc]
   rw [e2, hhd]
   refine mloop_intro (α := Nat) (fun j => ⟨59, [(47, .int .i64 (j : Int)), (46, .int .i64 (L.length : Int)), (45, .vec 1 q 0 L.length), (3, .ptr nl1 0 0), (0, .lst 1 ((hd ++ vbs c.f (L.take j)).map bc) false)], []⟩) (fun _ => (St.none.set nl1 (.row 117 27 [c.c])).set q (.row 3 1 (intsL L ++ ex))) (fun j => j ≤ L.length) (fun j => L.length - j) (.of (.less ?_ (St.le_refl _)) ⟨0, rfl, rfl, Nat.zero_le _⟩) ?_
   ·rw [show vbs c.f (L.take 0) = [] from rfl, List.append_nil]
    simp (maxSteps := 4000000) (disch := first | decide | assumption | omega | (simp only [wL]; omega)) only [go_sem, simprocAttr, weak_int, weak_same]
    all_goals rfl
   ·intro j hj
    have hj : j ≤ L.length := hj
    by_cases hjl : j < L.length
    ·have hi8 := hlt8 _ (getD_mem 0 hjl)
     have hsn := vbs_snoc (f := c.f) hjl
     have hvl := vbs_len c.f (L.take j)
     rw [List.length_take, Nat.min_eq_left hj] at hvl
     have hga := intsL_at (ex := ex) hjl
     obtain ⟨i, hi⟩ : ∃ i, L.getD j 0 = i := ⟨_, rfl⟩
     rw [hi] at hi8 hsn hga
     obtain ⟨pre, hpre⟩ : ∃ pre, vbs c.f (L.take j) = pre := ⟨_, rfl⟩
     rw [hpre] at hsn hvl ⊢
     have hv := pputval_call (hd ++ pre) (by rw [List.length_append]; omega) false (c.f.get i) (hva i hi8)
     have hat := fc_at (f := c.f) hi8
     repeat' (first | (with_reducible first | refine up hv ?_) | (with_reducible first | (refine wT ?_; (first | ((fail_if_success (have := nl1)); refine wN fun nl1 hnl => ?_) | ((fail_if_success (have := nl2)); refine wN fun nl2 hnl => ?_) | ((fail_if_success (have := nl3)); refine wN fun nl3 hnl => ?_) | ((fail_if_success (have := nl4)); refine wN fun nl4 hnl => ?_) | refine wN fun _ hnl => ?_); revert hnl; (repeat refine wS fun _ _ => ?_); intro hnl) | refine wE ?_ | (refine wK ?_ ?_ <;> intro h) | (refine wB ?_ ?_ <;> intro h <;> simp only [h])) | simp (maxSteps := 4000000) (disch := first | decide | assumption | omega | (simp only [wL]; omega)) only [go_sem, simprocAttr, FYs, hga, hat])
     refine .of (.less (l1 := [(47, .int .i64 ((j + 1 : Nat) : Int)), (46, .int .i64 (L.length : Int)), (45, .vec 1 q 0 L.length), (3, .ptr nl1 0 0), (0, .lst 1 ((hd ++ vbs c.f (L.take (j + 1))).map bc) false)]) ?_ (St.le_refl _)) ⟨j + 1, rfl, rfl, by omega, by omega⟩
     rw [hsn, ← List.append_assoc]
     simp (maxSteps := 4000000) (disch := first | decide | assumption | omega | (simp only [wL]; omega)) only [go_sem, simprocAttr, weak_int, weak_same]
     all_goals rfl
    ·have : j = L.length := by omega
     subst this
     rw [List.take_length]
     repeat' (first | (with_reducible first | (refine wT ?_; (first | ((fail_if_success (have := nl1)); refine wN fun nl1 hnl => ?_) | ((fail_if_success (have := nl2)); refine wN fun nl2 hnl => ?_) | ((fail_if_success (have := nl3)); refine wN fun nl3 hnl => ?_) | ((fail_if_success (have := nl4)); refine wN fun nl4 hnl => ?_) | refine wN fun _ hnl => ?_); revert hnl; (repeat refine wS fun _ _ => ?_); intro hnl) | refine wE ?_ | (refine wK ?_ ?_ <;> intro h) | (refine wB ?_ ?_ <;> intro h <;> simp only [h])) | simp (maxSteps := 4000000) (disch := first | decide | assumption | omega | (simp only [wL]; omega)) only [go_sem, simprocAttr])
     all_goals first | exact ⟨_, St.le_refl _, rfl⟩ | exact ⟨_, St.le_refl _⟩
end Go.Proofs.YtfbodefnblpflaaGreatDoor
end

section
namespace Go.Proofs.YtfbodefnblpflaaGreatDoor
set_option maxRecDepth 100000
set_option maxHeartbeats 4000000
theorem flagB_pos (b : Bool) : 0 < (flagB b).length := by
 unfold flagB
 cases b <;> decide
theorem pputpg_call (bs : BL) (hb : bs.length ≤ 300000) (tt : Bool) (p : PG) (hl : p.items.length ≤ 1000000) (hok : pageOk p = true) : MCalls Tryz.prog 68 [.lst 1 (bs.map bc) tt, .agg p.c] St.none (fun r _ => r = .lst 1 ((bs ++ pageB p).map bc) false) := by
 refine MCalls.drops (MCalls.body 63 [.tmp 4] Tryz.func68 rfl rfl rfl rfl ?_)
 have hc := ppgcheck_call p hl
 rw [hok] at hc
 have hfr : tokOk p.fr = true := by
  unfold pageOk at hok
  rw [Bool.and_eq_true] at hok
  exact hok.1
 have l1 := numB_len p.code
 have l2 := (inferInstance : LB (tokB p.fr) 24).h
 have l3 := (inferInstance : LB (tokB p.to) 24).h
 have l4 := (inferInstance : LB (flagB p.reset) 6).h
 have l5 := numB_len (p.items.length : Int)
 have n1 := pnum_call bs tt p.code (by omega)
 have n2 := pputtok_call (bs ++ numB p.code) (by simp only [List.length_append]; omega) false p.fr hfr
 obtain ⟨hd, hhd⟩ : ∃ hd, bs ++ numB p.code ++ tokB p.fr = hd := ⟨_, rfl⟩
 have hdl : hd.length ≤ 300100 := by rw [← hhd]; simp only [List.length_append]; omega
 have e1 : bs ++ pageB p = hd ++ (if p.code = 0 then flagB p.reset ++ tokB p.to ++ (if p.reset = true then [] else numB p.items.length ++ (p.items.map itemB).flatten) else []) := by
  unfold pageB
  rw [if_pos hok, ← hhd]
  simp only [List.append_assoc]
 rw [e1]
 clear e1
 rw [hhd] at n2
 obtain ⟨C, hN, hT, hD1, hD2⟩ : ∃ C : Know, (∀ (bs : BL) t n, C 21 [.lst 1 (bs.map bc) t, .int .i64 n] = some ⟨[], fun v => v = .lst 1 ((bs ++ numB n).map bc) false, none⟩) ∧ C 62 [.lst 1 ((bs ++ numB p.code).map bc) false, .agg p.fr.c] = some ⟨[], fun w => w = .lst 1 (hd.map bc) false, none⟩
   ∧ C 122 [.lst 1 (hd.map bc) false, .bool p.reset] = some ⟨[], fun w => w = .lst 1 ((hd ++ flagB p.reset).map bc) false, none⟩ ∧ C 62 [.lst 1 ((hd ++ flagB p.reset).map bc) false, .agg p.to.c] = some ⟨[], fun w => w = .lst 1 ((hd ++ flagB p.reset ++ tokB p.to).map bc) false, none⟩ := by
  refine ⟨pnumK (kn [(62, [.lst 1 ((bs ++ numB p.code).map bc) false, .agg p.fr.c], ⟨[], fun w => w = .lst 1 (hd.map bc) false, none⟩), (122, [.lst 1 (hd.map bc) false, .bool p.reset], ⟨[], fun w => w = .lst 1 ((hd ++ flagB p.reset).map bc) false, none⟩), (62, [.lst 1 ((hd ++ flagB p.reset).map bc) false, .agg p.to.c], ⟨[], fun w => w = .lst 1 ((hd ++ flagB p.reset ++ tokB p.to).map bc) false, none⟩)]), fun _ _ _ => pnumK_hit, pnumK_skip kn_hit rfl, pnumK_skip (kn_skip (fun h => absurd h.1 (by decide)) kn_hit) rfl, pnumK_skip (kn_skip (fun h => ?_) (kn_skip (fun h => absurd h.1 (by decide)) kn_hit)) rfl⟩
  have h := h.2
  rw [List.cons.injEq, MV.lst.injEq] at h
  have h := congrArg List.length h.1.2.1
  rw [List.length_map, List.length_map, ← hhd] at h
  simp only [List.length_append] at h
  have := flagB_pos p.reset
  omega
 by_cases h0 : p.code = 0
 ·rw [if_pos h0]
  have htt := pageOk_to hok h0
  have n3 := pflag_call hd false p.reset (by omega)
  have n4 := pputtok_call (hd ++ flagB p.reset) (by simp only [List.length_append]; omega) false p.to htt
  cases hr : p.reset
  ·rw [if_neg (by simp)]
   obtain ⟨-, hio, hi16⟩ := pageOk_items hok h0 hr
   rw [hr] at n3 n4 hD1 hD2 l4
   simp only [PG.c, PG.k, hr] at hc
   have n5 := pnum_call (hd ++ flagB false ++ tokB p.to) false (p.items.length : Int) (by simp only [List.length_append]; omega)
   repeat' (first | ((with_reducible refine mdraw_know mixed ?chk C ?_); (case chk => decide +kernel)) | (with_reducible refine know_pure (hN _ _ _) n1 ?_) | (with_reducible refine know_pure hT n2 ?_) | (with_reducible refine know_pure hD1 n3 ?_) | (with_reducible refine know_pure hD2 n4 ?_) | (with_reducible first | refine up hc ?_ | refine up n5 ?_) | (with_reducible first | (refine wN fun _ hnl => ?_; revert hnl; (repeat refine wS fun _ _ => ?_); intro hnl) | refine wE ?_ | (refine wK ?_ ?_ <;> intro h) | (refine wB ?_ ?_ <;> intro h <;> simp only [h])) | simp (maxSteps := 4000000) (disch := first | decide | assumption | omega | (simp only [wL]; omega)) only [go_sem, simprocAttr, Tryz.f68, hr])
   obtain ⟨hf, hhf⟩ : ∃ hf, hd ++ flagB false ++ tokB p.to ++ numB p.items.length = hf := ⟨_, rfl⟩
   have hfl : hf.length ≤ 300200 := by rw [← hhf]; simp only [List.length_append]; omega
   have e2 : hd ++ (flagB false ++ tokB p.to ++ (numB p.items.length ++ (p.items.map itemB).flatten)) = hf ++ (p.items.map itemB).flatten := by rw [← hhf]; simp only [List.append_assoc]
   rw [e2, hhf]
   clear e2 hhf n1 n2 n3 n4 n5 hD1 hD2 hT hN hc hhd
   refine mloop_intro (α := Nat) (fun i => ⟨63, [(41, .int .i64 (i : Int)), (40, .int .i64 (p.items.length : Int)), (39, .lst 28 (IT.ks p.items) false), (0, .lst 1 ((hf ++ ((p.items.take i).map itemB).flatten).map bc) false)], []⟩) (fun _ => St.none) (fun i => i ≤ p.items.length) (fun i => p.items.length - i) (.of (.less ?_ (St.none_le _)) ⟨0, rfl, rfl, Nat.zero_le _⟩) ?_
   ·rw [List.take_zero, List.map_nil, List.flatten_nil, List.append_nil]
    simp (maxSteps := 4000000) (disch := first | decide | assumption | omega | (simp only [wL]; omega)) only [go_sem, simprocAttr, weak_int, weak_same]
    all_goals rfl
   ·intro i hi
    have hi : i ≤ p.items.length := hi
    have hle := items_len (p.items.take i)
    rw [List.length_take, Nat.min_eq_left hi] at hle
    by_cases hlt : i < p.items.length
    ·have hsn := items_snoc hlt
     obtain ⟨k, hk⟩ := itemsOk_at hio hlt
     obtain ⟨x, hx⟩ : ∃ x, p.items.getD i it0 = x := ⟨_, rfl⟩
     rw [hx] at hsn hk
     have k1 := numB_len x.kd
     obtain ⟨pre, hpre⟩ : ∃ pre, hf ++ ((p.items.take i).map itemB).flatten = pre := ⟨_, rfl⟩
     have hpl : pre.length ≤ 310000 := by rw [← hpre, List.length_append]; omega
     have hsn' : hf ++ ((p.items.take (i + 1)).map itemB).flatten = pre ++ itemB x := by rw [hsn, ← hpre, List.append_assoc]
     rw [hpre]
     clear hsn hpre
     have hn1 := pnum_call pre false x.kd (by omega)
     have hn2 := pnum_call (pre ++ numB x.kd) false x.c.id (by simp only [List.length_append]; omega)
     have hcd := fun h => pputcard_call (pre ++ numB x.kd) (by simp only [List.length_append]; omega) false x.c (itOk_card hk h)
     by_cases h2 : x.kd = 2
     ·have e : pre ++ itemB x = pre ++ numB x.kd ++ numB x.c.id := by
       rw [itemB, if_pos h2]; simp only [List.append_assoc]
      repeat' (first | (with_reducible first | refine up hn1 ?_ | refine up hn2 ?_) | (with_reducible first | (refine wN fun _ hnl => ?_; revert hnl; (repeat refine wS fun _ _ => ?_); intro hnl) | refine wE ?_ | (refine wK ?_ ?_ <;> intro h) | (refine wB ?_ ?_ <;> intro h <;> simp only [h])) | simp (maxSteps := 4000000) (disch := first | decide | assumption | omega | (simp only [wL]; omega)) only [go_sem, simprocAttr, FXs, getD_mapd it0, hx])
      refine .of (.less (l1 := [(41, .int .i64 ((i + 1 : Nat) : Int)), (40, .int .i64 (p.items.length : Int)), (39, .lst 28 (IT.ks p.items) false), (0, .lst 1 ((hf ++ ((p.items.take (i + 1)).map itemB).flatten).map bc) false)]) ?_ (St.none_le _)) ⟨i + 1, rfl, rfl, by omega, by omega⟩
      rw [hsn', e]
      simp (maxSteps := 4000000) (disch := first | decide | assumption | omega | (simp only [wL]; omega)) only [go_sem, simprocAttr, weak_int, weak_same]
      all_goals rfl
     ·have hcd := hcd h2
      have e : pre ++ itemB x = pre ++ numB x.kd ++ cardB x.c := by
       rw [itemB, if_neg h2]; simp only [List.append_assoc]
      repeat' (first | (with_reducible first | refine up hn1 ?_ | refine up hcd ?_) | (with_reducible first | (refine wN fun _ hnl => ?_; revert hnl; (repeat refine wS fun _ _ => ?_); intro hnl) | refine wE ?_ | (refine wK ?_ ?_ <;> intro h) | (refine wB ?_ ?_ <;> intro h <;> simp only [h])) | simp (maxSteps := 4000000) (disch := first | decide | assumption | omega | (simp only [wL]; omega)) only [go_sem, simprocAttr, FXs, getD_mapd it0, hx])
      refine .of (.less (l1 := [(41, .int .i64 ((i + 1 : Nat) : Int)), (40, .int .i64 (p.items.length : Int)), (39, .lst 28 (IT.ks p.items) false), (0, .lst 1 ((hf ++ ((p.items.take (i + 1)).map itemB).flatten).map bc) false)]) ?_ (St.none_le _)) ⟨i + 1, rfl, rfl, by omega, by omega⟩
      rw [hsn', e]
      simp (maxSteps := 4000000) (disch := first | decide | assumption | omega | (simp only [wL]; omega)) only [go_sem, simprocAttr, weak_int, weak_same]
      all_goals rfl
    ·have : i = p.items.length := by omega
     subst this
     rw [List.take_length]
     repeat' (first | (with_reducible first | (refine wN fun _ hnl => ?_; revert hnl; (repeat refine wS fun _ _ => ?_); intro hnl) | refine wE ?_ | (refine wK ?_ ?_ <;> intro h) | (refine wB ?_ ?_ <;> intro h <;> simp only [h])) | simp (maxSteps := 4000000) (disch := first | decide | assumption | omega | (simp only [wL]; omega)) only [go_sem, simprocAttr])
     all_goals first | exact ⟨_, St.le_refl _, rfl⟩ | exact ⟨_, St.le_refl _⟩
  ·rw [if_pos rfl]
   rw [hr] at n3 n4 hD1 hD2 l4
   simp only [PG.c, PG.k, hr] at hc
   repeat' (first | ((with_reducible refine mdraw_know mixed ?chk C ?_); (case chk => decide +kernel)) | (with_reducible refine know_pure (hN _ _ _) n1 ?_) | (with_reducible refine know_pure hT n2 ?_) | (with_reducible refine know_pure hD1 n3 ?_) | (with_reducible refine know_pure hD2 n4 ?_) | (with_reducible first | refine up hc ?_) | (with_reducible first | (refine wN fun _ hnl => ?_; revert hnl; (repeat refine wS fun _ _ => ?_); intro hnl) | refine wE ?_ | (refine wK ?_ ?_ <;> intro h) | (refine wB ?_ ?_ <;> intro h <;> simp only [h])) | simp (maxSteps := 4000000) (disch := first | decide | assumption | omega | (simp only [wL]; omega)) only [go_sem, simprocAttr, Tryz.f68, hr])
   all_goals first | refine ⟨_, St.le_refl _, ?_⟩ | refine ⟨_, St.le_refl _⟩
   all_goals simp
 ·rw [if_neg h0]
  repeat' (first | ((with_reducible refine mdraw_know mixed ?chk C ?_); (case chk => decide +kernel)) | (with_reducible refine know_pure (hN _ _ _) n1 ?_) | (with_reducible refine know_pure hT n2 ?_) | (with_reducible first | refine up hc ?_) | (with_reducible first | (refine wN fun _ hnl => ?_; revert hnl; (repeat refine wS fun _ _ => ?_); intro hnl) | refine wE ?_ | (refine wK ?_ ?_ <;> intro h) | (refine wB ?_ ?_ <;> intro h <;> simp only [h])) | simp (maxSteps := 4000000) (disch := first | decide | assumption | omega | (simp only [wL]; omega)) only [go_sem, simprocAttr, Tryz.f68])
  all_goals first | refine ⟨_, St.le_refl _, ?_⟩ | refine ⟨_, St.le_refl _⟩
  all_goals simp
end Go.Proofs.YtfbodefnblpflaaGreatDoor
end
