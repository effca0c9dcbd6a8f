/- Parts of the proof, joined. Each part says what it proves, and under which conditions it does: those that its theorems name. -/
import Derived.Test.YtfbodefnblpflaaGreatDoorMbza
import Derived.Test.YtfbodefnblpflaaGreatDoorMbzd
import Derived.Test.YtfbodefnblpflaaGreatDoorMbze
import Derived.Test.YtfbodefnblpflaaGreatDoorMbzf
import Derived.Lib.LaidTab
import Derived.LaidLaws
import Derived.LaidHandle
import Derived.Stop.Joined
set_option linter.unusedVariables false
set_option linter.unusedSimpArgs false
set_option maxHeartbeats 4000000
section
namespace Go.Proofs.YtfbodefnblpflaaGreatDoor
set_option maxRecDepth 100000
set_option maxHeartbeats 4000000
theorem pcitems_call (l : List IT) (tt : Bool) (hl : l.length ≤ 1000000) : MCalls Tryz.prog 121 [.lst 28 (IT.ks l) tt] St.none (fun r _ => r = .bool (itemsOk 0 l)) := by
 refine MCalls.drops (MCalls.body 43 [.tmp 2] Tryz.func121 rfl rfl rfl rfl ?_)
 repeat' (first | (with_reducible first | (refine wN fun _ hnl => ?_; revert hnl; (repeat refine wS fun _ _ => ?_); intro hnl) | refine wE ?_ | (refine wK ?_ ?_ <;> intro h) | (refine wB ?_ ?_ <;> intro h <;> simp only [h])) | simp (maxSteps := 4000000) (disch := first | decide | assumption | omega | (simp only [wL]; omega)) only [go_sem, simprocAttr, Tryz.f121])
 refine mloop_intro (α := Nat) (fun i => ⟨43, [(8, .int .i64 (i : Int)), (7, .int .i64 (l.length : Int)), (6, .lst 28 (IT.ks l) tt), (3, .int .i64 (lastI l i))], []⟩) (fun _ => St.none) (fun i => i ≤ l.length ∧ 0 ≤ lastI l i ∧ itemsOk 0 l = itemsOk (lastI l i) (l.drop i)) (fun i => l.length - i) (.of (.less ?_ (St.le_refl _)) ⟨0, rfl, rfl, Nat.zero_le _, Int.le_refl _, rfl⟩) ?_
 ·simp (maxSteps := 4000000) (disch := first | decide | assumption | omega | (simp only [wL]; omega)) only [go_sem, simprocAttr, weak_int, weak_same]
  all_goals rfl
 ·rintro i ⟨hi, hp, hq⟩
  by_cases hlt : i < l.length
  ·rw [drop_getD it0 hlt, itemsOk] at hq
   have hnext : lastI l (i + 1) = (l.getD i it0).c.id := by unfold lastI; rw [if_neg (by omega)]; rfl
   obtain ⟨x, hx⟩ : ∃ x, l.getD i it0 = x := ⟨_, rfl⟩
   obtain ⟨last, hlast⟩ : ∃ k, lastI l i = k := ⟨_, rfl⟩
   rw [hx] at hnext hq
   rw [hlast] at hq hp ⊢
   obtain ⟨res, hres⟩ : ∃ b, itemsOk 0 l = b := ⟨_, rfl⟩
   have hc := pccheck_call x.c
   have hm : mbin Tryz.prog 117 .neq (.agg x.c.c) (.agg (.int .i64 x.c.id :: .int .i64 0 :: .int .u32 0 :: fc f80)) = some (True, .bool (!decide (x.c = { ca0 with id := x.c.id }))) := mbn_card x.c { ca0 with id := x.c.id }
   by_cases hr : last < x.c.id ∧ 1 ≤ x.c.id ∧ x.c.id < 1073741824
   ·have hk := itOk_kind hr
    rw [hk] at hq
    obtain ⟨hr1, hr2, hr3⟩ := hr
    clear hk
    by_cases hk1 : x.kd = 1 ∨ x.kd = 3
    ·rw [if_pos hk1] at hq
     cases hb : cardOk x.c <;> rw [hb] at hc hq
     ·rw [hq, Bool.false_and]
      clear hm hq hres
      repeat' (first | (with_reducible first | refine up hc ?_) | (with_reducible first | (refine wN fun _ hnl => ?_; revert hnl; (repeat refine wS fun _ _ => ?_); intro hnl) | refine wE ?_ | (refine wK ?_ ?_ <;> intro h) | (refine wB ?_ ?_ <;> intro h <;> simp only [h])) | simp (maxSteps := 4000000) (disch := first | decide | assumption | omega | (simp only [wL]; omega)) only [go_sem, simprocAttr, FXs, getD_mapd it0, hx])
      all_goals (first | exact ⟨_, St.le_refl _, rfl⟩ | exact ⟨_, St.le_refl _⟩ | (exfalso; omega) | skip)
     ·rw [Bool.true_and] at hq
      rw [hres] at hq ⊢
      repeat' (first | (with_reducible first | refine up hc ?_) | (with_reducible first | (refine wN fun _ hnl => ?_; revert hnl; (repeat refine wS fun _ _ => ?_); intro hnl) | refine wE ?_ | (refine wK ?_ ?_ <;> intro h) | (refine wB ?_ ?_ <;> intro h <;> simp only [h])) | simp (maxSteps := 4000000) (disch := first | decide | assumption | omega | (simp only [wL]; omega)) only [go_sem, simprocAttr, FXs, getD_mapd it0, hx])
      all_goals (try (exfalso; omega))
      all_goals
       refine .of (.less ?_ (St.none_le _)) ⟨i + 1, rfl, rfl, ⟨by omega, by rw [hnext]; omega, by rw [hnext]; exact hq⟩, by omega⟩
       rw [hnext]
       simp (maxSteps := 4000000) (disch := first | decide | assumption | omega | (simp only [wL]; omega)) only [go_sem, simprocAttr, weak_int, weak_same]
       all_goals rfl
    ·rw [if_neg hk1] at hq
     by_cases hk2 : x.kd = 2
     ·rw [if_pos hk2] at hq
      obtain ⟨b, hb⟩ : ∃ b, decide (x.c = { ca0 with id := x.c.id }) = b := ⟨_, rfl⟩
      rw [hb] at hm hq
      cases b
      ·rw [hq, Bool.false_and]
       clear hq hres
       repeat' (first | (with_reducible first | refine up hc ?_) | (with_reducible first | (refine wN fun _ hnl => ?_; revert hnl; (repeat refine wS fun _ _ => ?_); intro hnl) | refine wE ?_ | (refine wK ?_ ?_ <;> intro h) | (refine wB ?_ ?_ <;> intro h <;> simp only [h])) | simp (maxSteps := 4000000) (disch := first | decide | assumption | omega | (simp only [wL]; omega)) only [go_sem, simprocAttr, FXs, getD_mapd it0, hx, hm])
       all_goals (first | exact ⟨_, St.le_refl _, rfl⟩ | exact ⟨_, St.le_refl _⟩ | (exfalso; omega) | skip)
      ·rw [Bool.true_and] at hq
       rw [hres] at hq ⊢
       repeat' (first | (with_reducible first | refine up hc ?_) | (with_reducible first | (refine wN fun _ hnl => ?_; revert hnl; (repeat refine wS fun _ _ => ?_); intro hnl) | refine wE ?_ | (refine wK ?_ ?_ <;> intro h) | (refine wB ?_ ?_ <;> intro h <;> simp only [h])) | simp (maxSteps := 4000000) (disch := first | decide | assumption | omega | (simp only [wL]; omega)) only [go_sem, simprocAttr, FXs, getD_mapd it0, hx, hm])
       all_goals (try (exfalso; omega))
       all_goals
        refine .of (.less ?_ (St.none_le _)) ⟨i + 1, rfl, rfl, ⟨by omega, by rw [hnext]; omega, by rw [hnext]; exact hq⟩, by omega⟩
        rw [hnext]
        simp (maxSteps := 4000000) (disch := first | decide | assumption | omega | (simp only [wL]; omega)) only [go_sem, simprocAttr, weak_int, weak_same]
        all_goals rfl
     ·rw [if_neg hk2, Bool.false_and] at hq
      rw [hq]
      clear hq hres hm
      repeat' (first | (with_reducible first | refine up hc ?_) | (with_reducible first | (refine wN fun _ hnl => ?_; revert hnl; (repeat refine wS fun _ _ => ?_); intro hnl) | refine wE ?_ | (refine wK ?_ ?_ <;> intro h) | (refine wB ?_ ?_ <;> intro h <;> simp only [h])) | simp (maxSteps := 4000000) (disch := first | decide | assumption | omega | (simp only [wL]; omega)) only [go_sem, simprocAttr, FXs, getD_mapd it0, hx])
      all_goals (first | exact ⟨_, St.le_refl _, rfl⟩ | exact ⟨_, St.le_refl _⟩ | (exfalso; omega) | skip)
   ·rw [itOk_range hr, Bool.false_and] at hq
    rw [hq]
    clear hq hres hm
    repeat' (first | (with_reducible first | refine up hc ?_) | (with_reducible first | (refine wN fun _ hnl => ?_; revert hnl; (repeat refine wS fun _ _ => ?_); intro hnl) | refine wE ?_ | (refine wK ?_ ?_ <;> intro h) | (refine wB ?_ ?_ <;> intro h <;> simp only [h])) | simp (maxSteps := 4000000) (disch := first | decide | assumption | omega | (simp only [wL]; omega)) only [go_sem, simprocAttr, FXs, getD_mapd it0, hx])
    all_goals (first | exact ⟨_, St.le_refl _, rfl⟩ | exact ⟨_, St.le_refl _⟩ | (exfalso; omega) | skip)
  ·have : i = l.length := by omega
   subst this
   rw [List.drop_length, itemsOk] at hq
   rw [hq]
   repeat' (first | (with_reducible first | (refine wN fun _ hnl => ?_; revert hnl; (repeat refine wS fun _ _ => ?_); intro hnl) | refine wE ?_ | (refine wK ?_ ?_ <;> intro h) | (refine wB ?_ ?_ <;> intro h <;> simp only [h])) | simp (maxSteps := 4000000) (disch := first | decide | assumption | omega | (simp only [wL]; omega)) only [go_sem, simprocAttr])
   all_goals first | exact ⟨_, St.le_refl _, rfl⟩ | exact ⟨_, St.le_refl _⟩
theorem pequalI_call (a b : List IT) (ta tb : Bool) (hl : a.length ≤ 1000000) : MCalls Tryz.prog 144 [.lst 28 (IT.ks a) ta, .lst 28 (IT.ks b) tb] St.none (fun r _ => r = .bool (decide (a = b))) := by
 refine (MCalls.body 26 [.tmp 4] Tryz.func144 rfl rfl rfl rfl ?_)
 by_cases hlen : a.length = b.length
 ·repeat' (first | (with_reducible first | (refine wN fun _ hnl => ?_; revert hnl; (repeat refine wS fun _ _ => ?_); intro hnl) | refine wE ?_ | (refine wK ?_ ?_ <;> intro h) | (refine wB ?_ ?_ <;> intro h <;> simp only [h])) | simp (maxSteps := 4000000) (disch := first | decide | assumption | omega | (simp only [wL]; omega)) only [go_sem, simprocAttr, Tryz.f144])
  refine mloop_intro (α := Nat) (fun i => ⟨26, [(13, .int .i64 (i : Int)), (12, .int .i64 (a.length : Int)), (0, .lst 28 (IT.ks a) ta), (1, .lst 28 (IT.ks b) tb)], []⟩) (fun _ => St.none) (fun i => i ≤ a.length ∧ a.take i = b.take i) (fun i => a.length - i) (.of (.less ?_ (St.le_refl _)) ⟨0, rfl, rfl, Nat.zero_le _, rfl⟩) ?_
  ·simp (maxSteps := 4000000) (disch := first | decide | assumption | omega | (simp only [wL]; omega)) only [go_sem, simprocAttr, weak_int, weak_same]
   all_goals rfl
  ·rintro i ⟨hi, hq⟩
   by_cases hlt : i < a.length
   ·have hm := mbn_item (a.getD i it0) (b.getD i it0)
    have hsa := List.take_succ_eq_append_getElem (l := a) hlt
    have hib : i < b.length := by omega
    have hsb := List.take_succ_eq_append_getElem (l := b) hib
    rw [← getD_of_lt it0 hlt] at hsa
    rw [← getD_of_lt it0 hib] at hsb
    obtain ⟨x, hx⟩ : ∃ x, a.getD i it0 = x := ⟨_, rfl⟩
    obtain ⟨y, hy⟩ : ∃ y, b.getD i it0 = y := ⟨_, rfl⟩
    rw [hx] at hm hsa
    rw [hy] at hm hsb
    by_cases he : x = y
    ·rw [decide_eq_true he] at hm
     repeat' (first | (with_reducible first | (refine wN fun _ hnl => ?_; revert hnl; (repeat refine wS fun _ _ => ?_); intro hnl) | refine wE ?_ | (refine wK ?_ ?_ <;> intro h) | (refine wB ?_ ?_ <;> intro h <;> simp only [h])) | simp (maxSteps := 4000000) (disch := first | decide | assumption | omega | (simp only [wL]; omega)) only [go_sem, simprocAttr, FXs, getD_mapd it0, hx, hy, hm])
     refine .of (.less ?_ (St.le_refl _)) ⟨i + 1, rfl, rfl, ⟨by omega, by rw [hsa, hsb, hq, he]⟩, by omega⟩
     simp (maxSteps := 4000000) (disch := first | decide | assumption | omega | (simp only [wL]; omega)) only [go_sem, simprocAttr, weak_int, weak_same]
     all_goals rfl
    ·rw [decide_eq_false he] at hm
     have hne : ¬ a = b := fun e => he (by rw [← hx, ← hy, e])
     rw [decide_eq_false hne]
     repeat' (first | (with_reducible first | (refine wN fun _ hnl => ?_; revert hnl; (repeat refine wS fun _ _ => ?_); intro hnl) | refine wE ?_ | (refine wK ?_ ?_ <;> intro h) | (refine wB ?_ ?_ <;> intro h <;> simp only [h])) | simp (maxSteps := 4000000) (disch := first | decide | assumption | omega | (simp only [wL]; omega)) only [go_sem, simprocAttr, FXs, getD_mapd it0, hx, hy, hm])
     all_goals done
   ·have : i = a.length := by omega
    subst this
    rw [List.take_length, hlen, List.take_length] at hq
    rw [decide_eq_true hq]
    repeat' (first | (with_reducible first | (refine wN fun _ hnl => ?_; revert hnl; (repeat refine wS fun _ _ => ?_); intro hnl) | refine wE ?_ | (refine wK ?_ ?_ <;> intro h) | (refine wB ?_ ?_ <;> intro h <;> simp only [h])) | simp (maxSteps := 4000000) (disch := first | decide | assumption | omega | (simp only [wL]; omega)) only [go_sem, simprocAttr])
    all_goals done
 ·rw [decide_eq_false fun e => hlen (by rw [e])]
  repeat' (first | (with_reducible first | (refine wN fun _ hnl => ?_; revert hnl; (repeat refine wS fun _ _ => ?_); intro hnl) | refine wE ?_ | (refine wK ?_ ?_ <;> intro h) | (refine wB ?_ ?_ <;> intro h <;> simp only [h])) | simp (maxSteps := 4000000) (disch := first | decide | assumption | omega | (simp only [wL]; omega)) only [go_sem, simprocAttr, Tryz.f144])
  all_goals (first | rfl | (exfalso; omega))
theorem pisame_call (a b : List IT) (ta tb : Bool) (hl : a.length ≤ 1000000) : MCalls Tryz.prog 86 [.lst 28 (IT.ks a) ta, .lst 28 (IT.ks b) tb] St.none (fun r _ => r = .bool (decide (a = b))) := by
 refine (MCalls.body 8 [.tmp 4] Tryz.func86 rfl rfl rfl rfl ?_)
 have h := pequalI_call a b ta tb hl
 repeat' (first | (with_reducible first | refine up h ?_) | (with_reducible first | (refine wN fun _ hnl => ?_; revert hnl; (repeat refine wS fun _ _ => ?_); intro hnl) | refine wE ?_ | (refine wK ?_ ?_ <;> intro h) | (refine wB ?_ ?_ <;> intro h <;> simp only [h])) | simp (maxSteps := 4000000) (disch := first | decide | assumption | omega | (simp only [wL]; omega)) only [go_sem, simprocAttr, Tryz.f86])
theorem ppgsame_call (a b : PG) (hl : a.items.length ≤ 1000000) : MCalls Tryz.prog 38 [.agg a.c, .agg b.c] St.none (fun r _ => r = .bool (decide (a = b))) := by
 refine MCalls.drops (MCalls.body 38 [.tmp 4] Tryz.func38 rfl rfl rfl rfl ?_)
 have hs := pisame_call a.items b.items false false hl
 have h1 := mbe_token a.fr b.fr
 have h2 := mbe_token a.to b.to
 obtain ⟨bi, hbi⟩ : ∃ x, decide (a.items = b.items) = x := ⟨_, rfl⟩
 obtain ⟨b1, hb1⟩ : ∃ x, decide (a.fr = b.fr) = x := ⟨_, rfl⟩
 obtain ⟨b2, hb2⟩ : ∃ x, decide (a.to = b.to) = x := ⟨_, rfl⟩
 obtain ⟨res, hres⟩ : ∃ r, decide (a = b) = r := ⟨_, rfl⟩
 have e : Unit → decide (a.code = b.code ∧ a.reset = b.reset ∧ b1 = true ∧ b2 = true ∧ bi = true) = res := fun _ => by
  rw [← hres, ← hb1, ← hb2, ← hbi]
  refine decide_eq_decide.mpr ?_
  rw [pg_iff, decide_eq_true_iff, decide_eq_true_iff, decide_eq_true_iff]
 rw [hbi] at hs
 rw [hb1] at h1
 rw [hb2] at h2
 rw [hres]
 clear hres hbi hb1 hb2
 cases b1 <;> cases b2 <;> cases bi
 all_goals
  repeat' (first | (with_reducible first | refine up hs ?_) | (with_reducible first | (refine wN fun _ hnl => ?_; revert hnl; (repeat refine wS fun _ _ => ?_); intro hnl) | refine wE ?_ | (refine wK ?_ ?_ <;> intro h) | (refine wB ?_ ?_ <;> intro h <;> simp only [h])) | simp (maxSteps := 4000000) (disch := first | decide | assumption | omega | (simp only [wL]; omega)) only [go_sem, simprocAttr, Tryz.f38, h1, h2])
 all_goals first | refine ⟨_, St.le_refl _, ?_⟩ | skip
 all_goals rw [← e ()]
 all_goals clear e
 all_goals (first | (simp [*]; done) | (simp_all; done) | skip)
theorem ppgcheck_call (p : PG) (hl : p.items.length ≤ 1000000) : MCalls Tryz.prog 67 [.agg p.c] St.none (fun r _ => r = .bool (pageOk p)) := by
 refine MCalls.drops (MCalls.body 80 [.tmp 2] Tryz.func67 rfl rfl rfl rfl ?_)
 have h1 := ptcheck_call p.fr
 have h2 := ptcheck_call p.to
 have h3 := ptgoes_call p.fr p.to
 have h4 := pcitems_call p.items false hl
 have h5 : mbin Tryz.prog 34 .eql (.agg p.to.c) (.agg [.int .i64 0, .int .i64 0, .int .i64 0, .int .i64 0]) = some (True, .bool (decide (p.to = tk0))) := mbe_token p.to tk0
 have hie := items_empty (p := p)
 obtain ⟨res, hres⟩ : ∃ b, pageOk p = b := ⟨_, rfl⟩
 have e : pageOk p = res := hres
 rw [hres]
 clear hres
 unfold pageOk at e
 cases hb1 : tokOk p.fr <;> rw [hb1] at h1 e
 ·rw [Bool.false_and] at e
  subst e
  repeat' (first | (with_reducible first | refine up h1 ?_ | refine up h2 ?_ | refine up h3 ?_ | refine up h4 ?_) | (with_reducible first | (refine wN fun _ hnl => ?_; revert hnl; (repeat refine wS fun _ _ => ?_); intro hnl) | refine wE ?_ | (refine wK ?_ ?_ <;> intro h) | (refine wB ?_ ?_ <;> intro h <;> simp only [h])) | simp (maxSteps := 4000000) (disch := first | decide | assumption | omega | (simp only [wL]; omega)) only [go_sem, simprocAttr, Tryz.f67])
  all_goals (first | exact ⟨_, St.le_refl _, rfl⟩ | exact ⟨_, St.le_refl _⟩ | (exfalso; omega) | skip)
 ·rw [Bool.true_and] at e
  by_cases hc : p.code = 0
  ·rw [if_neg (by omega)] at e
   cases hr : p.reset
   ·rw [if_neg (by rw [hr]; simp)] at e
    cases hb3 : tokGo p.fr p.to <;> rw [hb3] at h3 e
    ·simp only [Bool.false_and] at e
     subst e
     repeat' (first | (with_reducible first | refine up h1 ?_ | refine up h2 ?_ | refine up h3 ?_ | refine up h4 ?_) | (with_reducible first | (refine wN fun _ hnl => ?_; revert hnl; (repeat refine wS fun _ _ => ?_); intro hnl) | refine wE ?_ | (refine wK ?_ ?_ <;> intro h) | (refine wB ?_ ?_ <;> intro h <;> simp only [h])) | simp (maxSteps := 4000000) (disch := first | decide | assumption | omega | (simp only [wL]; omega)) only [go_sem, simprocAttr, Tryz.f67, hr])
     all_goals (first | exact ⟨_, St.le_refl _, rfl⟩ | exact ⟨_, St.le_refl _⟩ | (exfalso; omega) | skip)
    ·cases hb4 : itemsOk 0 p.items <;> rw [hb4] at h4 e
     all_goals
      simp only [Bool.true_and, Bool.and_false, Bool.false_and] at e
      subst e
      repeat' (first | (with_reducible first | refine up h1 ?_ | refine up h2 ?_ | refine up h3 ?_ | refine up h4 ?_) | (with_reducible first | (refine wN fun _ hnl => ?_; revert hnl; (repeat refine wS fun _ _ => ?_); intro hnl) | refine wE ?_ | (refine wK ?_ ?_ <;> intro h) | (refine wB ?_ ?_ <;> intro h <;> simp only [h])) | simp (maxSteps := 4000000) (disch := first | decide | assumption | omega | (simp only [wL]; omega)) only [go_sem, simprocAttr, Tryz.f67, hr])
      all_goals first | refine ⟨_, St.le_refl _, ?_⟩ | refine ⟨_, St.le_refl _⟩ | skip
      all_goals first | done | (exact decide_eq_decide.mpr (by omega)) | (congr 1; exact decide_eq_decide.mpr (by omega)) | (exact (decide_eq_true (by omega)).symm) | (exact (decide_eq_false (by omega)).symm)
   ·rw [if_pos hr] at e
    cases hb2 : tokOk p.to <;> rw [hb2] at h2 e
    all_goals
     simp only [Bool.true_and, Bool.and_false, Bool.false_and, Bool.and_true, ← hie] at e
     have e' : Unit → _ := fun _ => e
     clear e hie
     repeat' (first | (with_reducible first | refine up h1 ?_ | refine up h2 ?_ | refine up h3 ?_ | refine up h4 ?_) | (with_reducible first | (refine wN fun _ hnl => ?_; revert hnl; (repeat refine wS fun _ _ => ?_); intro hnl) | refine wE ?_ | (refine wK ?_ ?_ <;> intro h) | (refine wB ?_ ?_ <;> intro h <;> simp only [h])) | simp (maxSteps := 4000000) (disch := first | decide | assumption | omega | (simp only [wL]; omega)) only [go_sem, simprocAttr, Tryz.f67, hr])
     all_goals first | refine ⟨_, St.le_refl _, ?_⟩ | refine ⟨_, St.le_refl _⟩ | skip
     all_goals rw [← e' ()]
     all_goals (first | (simp [*]; done) | (simp only [*, not_false_eq_true, decide_false, decide_true, Bool.false_and, Bool.true_and, Bool.and_false]; done) | skip)
  ·rw [if_pos hc] at e
   obtain ⟨bt, hbt⟩ : ∃ b, decide (p.to = tk0) = b := ⟨_, rfl⟩
   rw [hbt] at h5
   have ht : p.to = tk0 ↔ bt = true := by rw [← hbt, decide_eq_true_iff]
   have e' : Unit → _ := fun _ => e
   simp only [ht, ← hie] at e'
   clear e ht hbt hie
   cases bt
   all_goals
    cases hr : p.reset
    all_goals
     repeat' (first | (with_reducible first | refine up h1 ?_ | refine up h2 ?_ | refine up h3 ?_ | refine up h4 ?_) | (with_reducible first | (refine wN fun _ hnl => ?_; revert hnl; (repeat refine wS fun _ _ => ?_); intro hnl) | refine wE ?_ | (refine wK ?_ ?_ <;> intro h) | (refine wB ?_ ?_ <;> intro h <;> simp only [h])) | simp (maxSteps := 4000000) (disch := first | decide | assumption | omega | (simp only [wL]; omega)) only [go_sem, simprocAttr, Tryz.f67, hr, h5])
     all_goals first | refine ⟨_, St.le_refl _, ?_⟩ | refine ⟨_, St.le_refl _⟩ | skip
     all_goals rw [← e' ()]
     all_goals (first | (simp [*]; done) | (simp only [*, not_false_eq_true, decide_false, decide_true, Bool.false_and, Bool.true_and, Bool.and_false]; done) | skip)
end Go.Proofs.YtfbodefnblpflaaGreatDoor
end

section
namespace Go.Proofs.YtfbodefnblpflaaGreatDoor
set_option maxRecDepth 100000
set_option maxHeartbeats 4000000
theorem pxsame_call (a b : MS) (hs : Sm a) (ht : Sm b) : MCalls Tryz.prog 13 [.agg a.c, .agg b.c] St.none (fun r _ => r = .bool (decide (a = b))) := by
 refine MCalls.drops (MCalls.body 50 [.tmp 4] Tryz.func13 rfl rfl rfl rfl ?_)
 have h1 := pcmsame_call a.cmd b.cmd hs.f ht.f
 have h2 := prsame_call a.rep b.rep hs.g ht.g
 have h3 := ppgsame_call a.page b.page hs.i
 have h4 := mbn_token a.tok b.tok
 obtain ⟨b1, hb1⟩ : ∃ x, decide (a.cmd = b.cmd) = x := ⟨_, rfl⟩
 obtain ⟨b2, hb2⟩ : ∃ x, decide (a.rep = b.rep) = x := ⟨_, rfl⟩
 obtain ⟨b3, hb3⟩ : ∃ x, decide (a.page = b.page) = x := ⟨_, rfl⟩
 obtain ⟨b4, hb4⟩ : ∃ x, decide (a.tok = b.tok) = x := ⟨_, rfl⟩
 obtain ⟨res, hres⟩ : ∃ r, decide (a = b) = r := ⟨_, rfl⟩
 have e : Unit → decide (a.kd = b.kd ∧ a.size = b.size ∧ b1 = true ∧ b4 = true ∧ b2 = true ∧ b3 = true ∧ a.code = b.code) = res := fun _ => by
  rw [← hres, ← hb1, ← hb2, ← hb3, ← hb4]
  refine decide_eq_decide.mpr ?_
  rw [ms_iff, decide_eq_true_iff, decide_eq_true_iff, decide_eq_true_iff, decide_eq_true_iff]
 rw [hb1] at h1
 rw [hb2] at h2
 rw [hb3] at h3
 rw [hb4] at h4
 rw [hres]
 clear hres hb1 hb2 hb3 hb4
 cases b1
 case' true => cases b4
 case' true.true => cases b2
 case' true.true.true => cases b3
 all_goals
  repeat' (first | (with_reducible first | refine up h1 ?_ | refine up h2 ?_ | refine up h3 ?_) | (with_reducible first | (refine wN fun _ hnl => ?_; revert hnl; (repeat refine wS fun _ _ => ?_); intro hnl) | refine wE ?_ | (refine wK ?_ ?_ <;> intro h) | (refine wB ?_ ?_ <;> intro h <;> simp only [h])) | simp (maxSteps := 4000000) (disch := first | decide | assumption | omega | (simp only [wL]; omega)) only [go_sem, simprocAttr, Tryz.f13, FYs, h4])
  all_goals first | refine ⟨_, St.le_refl _, ?_⟩ | skip
  all_goals rw [← e ()]
  all_goals clear e
  all_goals (first | (simp [*]; done) | (simp_all; done) | exact decide_eq_decide.mpr (by omega) | skip)
abbrev fnP (g : FuncId) : MV := .fn (.func g) [] []
theorem pasks_call : MCalls Tryz.prog 22 [] St.none (fun r _ => r = .agg [fnP 57, fnP 59, fnP 60]) := by
 refine MCalls.drops (MCalls.body 4 [.cell 0 68] Tryz.func22 rfl rfl rfl rfl ?_)
 repeat' (first | (with_reducible first | (refine wN fun _ hnl => ?_; revert hnl; (repeat refine wS fun _ _ => ?_); intro hnl) | refine wE ?_ | (refine wK ?_ ?_ <;> intro h) | (refine wB ?_ ?_ <;> intro h <;> simp only [h])) | simp (maxSteps := 4000000) (disch := first | decide | assumption | omega | (simp only [wL]; omega)) only [go_sem, simprocAttr, Tryz.f22])
 all_goals first | exact ⟨_, St.le_refl _, rfl⟩ | exact ⟨_, St.le_refl _⟩
theorem ptokens_call : MCalls Tryz.prog 23 [] St.none (fun r _ => r = .agg [fnP 61, fnP 62, fnP 63]) := by
 refine MCalls.drops (MCalls.body 2 [.cell 0 74] Tryz.func23 rfl rfl rfl rfl ?_)
 repeat' (first | (with_reducible first | (refine wN fun _ hnl => ?_; revert hnl; (repeat refine wS fun _ _ => ?_); intro hnl) | refine wE ?_ | (refine wK ?_ ?_ <;> intro h) | (refine wB ?_ ?_ <;> intro h <;> simp only [h])) | simp (maxSteps := 4000000) (disch := first | decide | assumption | omega | (simp only [wL]; omega)) only [go_sem, simprocAttr, Tryz.f23])
 all_goals first | exact ⟨_, St.le_refl _, rfl⟩ | exact ⟨_, St.le_refl _⟩
theorem preplies_call : MCalls Tryz.prog 24 [] St.none (fun r _ => r = .agg [fnP 64, fnP 65, fnP 66]) := by
 refine MCalls.drops (MCalls.body 2 [.cell 0 80] Tryz.func24 rfl rfl rfl rfl ?_)
 repeat' (first | (with_reducible first | (refine wN fun _ hnl => ?_; revert hnl; (repeat refine wS fun _ _ => ?_); intro hnl) | refine wE ?_ | (refine wK ?_ ?_ <;> intro h) | (refine wB ?_ ?_ <;> intro h <;> simp only [h])) | simp (maxSteps := 4000000) (disch := first | decide | assumption | omega | (simp only [wL]; omega)) only [go_sem, simprocAttr, Tryz.f24])
 all_goals first | exact ⟨_, St.le_refl _, rfl⟩ | exact ⟨_, St.le_refl _⟩
theorem ppages_call : MCalls Tryz.prog 25 [] St.none (fun r _ => r = .agg [fnP 67, fnP 68, fnP 69]) := by
 refine MCalls.drops (MCalls.body 2 [.cell 0 86] Tryz.func25 rfl rfl rfl rfl ?_)
 repeat' (first | (with_reducible first | (refine wN fun _ hnl => ?_; revert hnl; (repeat refine wS fun _ _ => ?_); intro hnl) | refine wE ?_ | (refine wK ?_ ?_ <;> intro h) | (refine wB ?_ ?_ <;> intro h <;> simp only [h])) | simp (maxSteps := 4000000) (disch := first | decide | assumption | omega | (simp only [wL]; omega)) only [go_sem, simprocAttr, Tryz.f25])
 all_goals first | exact ⟨_, St.le_refl _, rfl⟩ | exact ⟨_, St.le_refl _⟩
theorem pask1_call (c : CM) (hg : Rg c) (hl : c.fl.length ≤ 1000000) : MCalls Tryz.prog 57 [.agg c.c] St.none (fun r _ => r = .bool (cmdOk c && decide (c.kd ≠ 1 ∧ c.kd ≠ 5))) := by
 refine MCalls.drops (MCalls.body 15 [.tmp 2] Tryz.func57 rfl rfl rfl rfl ?_)
 have hc := pcmcheck_call c hg hl
 cases hk : cmdOk c <;> rw [hk] at hc
 all_goals
  repeat' (first | (with_reducible first | refine up hc ?_) | (with_reducible first | (refine wN fun _ hnl => ?_; revert hnl; (repeat refine wS fun _ _ => ?_); intro hnl) | refine wE ?_ | (refine wK ?_ ?_ <;> intro h) | (refine wB ?_ ?_ <;> intro h <;> simp only [h])) | simp (maxSteps := 4000000) (disch := first | decide | assumption | omega | (simp only [wL]; omega)) only [go_sem, simprocAttr, Tryz.f57, FYs])
  all_goals first | refine ⟨_, St.le_refl _, ?_⟩ | refine ⟨_, St.le_refl _⟩ | skip
  all_goals simp [*]
abbrev nbP (b : Nat) : List MV := [.fn (.func 75) [] [.ptr b 0 0], fnP 21, .fn (.func 76) [] [.ptr b 0 0]]
abbrev nbO (most : Int) : MObj := .row 3 1 [[.int .i64 most]]
theorem pnumber_call (most : Int) : MCalls Tryz.prog 31 [.int .i64 most] St.none (fun v σ' => ∃ l, v = .agg (nbP l) ∧ σ' = St.none.set l (nbO most)) := by
 refine MCalls.drops (MCalls.body 6 [.cell 2 96] Tryz.func31 rfl rfl rfl rfl ?_)
 repeat' (first | (with_reducible first | (refine wT ?_; (first | ((fail_if_success (have := nl1)); refine wN fun nl1 hnl => ?_) | ((fail_if_success (have := nl2)); refine wN fun nl2 hnl => ?_) | refine wN fun _ hnl => ?_); revert hnl; (repeat refine wS fun _ _ => ?_); intro hnl) | refine wE ?_ | (refine wK ?_ ?_ <;> intro h) | (refine wB ?_ ?_ <;> intro h <;> simp only [h])) | simp (maxSteps := 4000000) (disch := first | decide | assumption | omega | (simp only [wL]; omega)) only [go_sem, simprocAttr, Tryz.f31])
 have d1 : nl2 ≠ nl1 := by assumption
 exact ⟨St.none.set nl1 (nbO most), St.set_le (St.none_le _) (by simp [St.set, Ne.symm d1]), nl1, rfl, rfl⟩
theorem pnumber1_call (most n : Int) (b : Nat) : MCalls Tryz.prog 75 [.int .i64 n, .ptr b 0 0] (St.none.set b (nbO most)) (fun v σ' => v = .bool (decide (1 ≤ n ∧ n ≤ most)) ∧ σ' = St.none.set b (nbO most)) := by
 refine (MCalls.body 11 [.tmp 3] Tryz.func75 rfl rfl rfl rfl ?_)
 repeat' (first | (with_reducible first | (refine wN fun _ hnl => ?_; revert hnl; (repeat refine wS fun _ _ => ?_); intro hnl) | refine wE ?_ | (refine wK ?_ ?_ <;> intro h) | (refine wB ?_ ?_ <;> intro h <;> simp only [h])) | simp (maxSteps := 4000000) (disch := first | decide | assumption | omega | (simp only [wL]; omega)) only [go_sem, simprocAttr, Tryz.f75])
 all_goals first | exact decide_eq_decide.mpr (by omega) | exact (decide_eq_false (by omega)).symm
noncomputable def nbK (most : Int) (C : Know) : Know := fun g ms => if g = 31 then some ⟨[], fun _ => True, some (nbO most, fun b => .agg (nbP b))⟩ else if g = 75 then match ms with | [.int .i64 n, .ptr b 0 0] => some ⟨[b], fun v => v = .bool (decide (1 ≤ n ∧ n ≤ most)), none⟩ | _ => none else C g ms
theorem nbK_new {most : Int} {C : Know} {ms : List MV} : nbK most C 31 ms = some ⟨[], fun _ => True, some (nbO most, fun b => .agg (nbP b))⟩ := rfl
theorem nbK_may {most n : Int} {C : Know} {b : Nat} : nbK most C 75 [.int .i64 n, .ptr b 0 0] = some ⟨[b], fun v => v = .bool (decide (1 ≤ n ∧ n ≤ most)), none⟩ := rfl
theorem know_nb {most n : Int} {C : Know} {b : Nat} {σ : St} {k : MV → St → Prop} (hσ : σ b = some (nbO most)) (hk : R (mlet (.bool (decide (1 ≤ n ∧ n ≤ most))) σ k)) : R (mcallC Tryz.prog (nbK most C) 75 [.int .i64 n, .ptr b 0 0] σ k) :=
 know_at [b] [nbO most] nbK_may (by simp [hσ]) (pnumber1_call most n b) ⟨_, rfl⟩ fun v hv => by subst hv; exact hk
end Go.Proofs.YtfbodefnblpflaaGreatDoor
end

section
namespace Go.Proofs.YtfbodefnblpflaaGreatDoor
set_option maxRecDepth 100000
set_option maxHeartbeats 4000000
theorem pxcheck5 (m : MS) (hs : Sm m) (hg : Rg m.cmd) (k1 : m.kd = 5) : MCalls Tryz.prog 11 [.agg m.c] St.none (fun r _ => r = .bool (msgOk m)) := by
 refine MCalls.drops (MCalls.body 76 [.tmp 2] Tryz.func11 rfl rfl rfl rfl ?_)
 obtain ⟨res, hres⟩ : ∃ b, msgOk m = b := ⟨_, rfl⟩
 rw [hres]
 rw [msgOk_5 k1] at hres
 have hq := pxsame_call ({ ms0 with kd := m.kd, code := m.code }) m ⟨by first | exact hs.f | simp [ms0, cm0], by first | exact hs.g | simp [ms0, re0], by first | exact hs.i | simp [ms0, pg0]⟩ hs
 obtain ⟨b, hb⟩ : ∃ b, decide (({ ms0 with kd := m.kd, code := m.code } : MS) = m) = b := ⟨_, rfl⟩
 rw [hb] at hres hq
 have hv := fun (σ : St) (f g i : MV) => vms (σ := σ) (m := { ms0 with kd := m.kd, code := m.code }) (f := f) (g := g) (i := i)
 simp only [MS.c, MS.k, ms0, cm0, ed0, pa0, tk0, re0, pg0, u32z] at hv hq
 have e := fun (_ : Unit) => hres
 clear hres hb
 have hn := pnumber_call 16
 obtain ⟨ok, hok⟩ : ∃ x, decide (1 ≤ m.code ∧ m.code ≤ 16) = x := ⟨_, rfl⟩
 rw [hok] at e
 cases b <;> cases ok
 all_goals
  repeat' (first | ((with_reducible refine mdraw_know mixed ?chk (nbK 16 (fun _ _ => none)) ?_); (case chk => decide +kernel)) | (((with_reducible refine know_new nbK_new hn ?_); intro bb hbb; revert hbb; (repeat refine wS fun _ _ => ?_); intro hbb)) | (((with_reducible refine know_nb ?hh ?_); (case hh => simp [St.set, *]))) | (with_reducible refine use_lend _ hq (.bool _) rfl (views_two (hv _ _ _ _ (.nil _ _) (.nil _ _) (.nil _ _)) (.same _)) ?_) | (with_reducible first | (refine wN fun _ hnl => ?_; revert hnl; (repeat refine wS fun _ _ => ?_); intro hnl) | refine wE ?_ | (refine wK ?_ ?_ <;> intro h) | (refine wB ?_ ?_ <;> intro h <;> simp only [h])) | simp (maxSteps := 4000000) (disch := first | decide | assumption | omega | (simp only [wL]; omega)) only [go_sem, simprocAttr, Tryz.f11, FYs, hok])
  all_goals first | refine ⟨_, St.le_refl _, ?_⟩ | refine ⟨_, St.le_refl _⟩ | skip
  all_goals rw [← e ()]
  all_goals (first | (simp [*]; done) | (simp; omega) | skip)
end Go.Proofs.YtfbodefnblpflaaGreatDoor
end

section
namespace Go.Proofs.YtfbodefnblpflaaGreatDoor
set_option maxRecDepth 100000
set_option maxHeartbeats 4000000
theorem pxenc5 (m : MS) (hs : Sm m) (hg : Rg m.cmd) (k1 : m.kd = 5) (hok : msgOk m = true) : MCalls Tryz.prog 8 [.agg m.c] St.none (fun r _ => r = .tup [.str (bsS (msgE m).1), .int .i64 (msgE m).2]) := by
 refine MCalls.drops (MCalls.body 59 [.tmp 2, .tmp 3] Tryz.func8 rfl rfl rfl rfl ?_)
 have hc := pxcheck5 m hs hg k1
 rw [hok] at hc
 have e : msgE m = if 4096 < (msgB m).length then ([], 4) else (msgB m, 0) := by unfold msgE; rw [hok, if_pos rfl]
 have hb : msgB m = numB m.kd ++ numB m.code := by unfold msgB; simp [k1]
 rw [e, hb]
 clear e hb
 have l1 := numB_len m.kd
 have n1 := pnum_call [] false m.kd (by simp)
 rw [List.nil_append] at n1
 obtain ⟨hd, hhd⟩ : ∃ h, numB m.kd = h := ⟨_, rfl⟩
 rw [hhd] at n1 l1 ⊢
 clear hok
 have lp := numB_len m.code
 have hp := pnum_call hd false m.code (by omega)
 obtain ⟨b2, hb2⟩ : ∃ b, hd ++ numB m.code = b := ⟨_, rfl⟩
 have hbl : b2.length ≤ 4096 := by rw [← hb2, List.length_append]; omega
 rw [hb2] at hp ⊢
 rw [if_neg (by omega)]
 clear hb2 hhd
 repeat' (first | (with_reducible refine use_weak [.lst 1 (([] : BL).map bc) false, .int .i64 m.kd] n1 rfl (views_two (.nil _ _) (.same _)) ?_) | (with_reducible first | refine up hc ?_ | refine up hp ?_) | (with_reducible first | (refine wN fun _ hnl => ?_; revert hnl; (repeat refine wS fun _ _ => ?_); intro hnl) | refine wE ?_ | (refine wK ?_ ?_ <;> intro h) | (refine wB ?_ ?_ <;> intro h <;> simp only [h])) | simp (maxSteps := 4000000) (disch := first | decide | assumption | omega | (simp only [wL]; omega)) only [go_sem, simprocAttr, Tryz.f8, FYs, bytesOf_bc, isByte_bc])
 all_goals first | refine ⟨_, St.le_refl _, ?_⟩ | refine ⟨_, St.le_refl _⟩ | (exfalso; omega)
 all_goals rfl
end Go.Proofs.YtfbodefnblpflaaGreatDoor
end

section
namespace Go.Proofs.YtfbodefnblpflaaGreatDoor
set_option maxRecDepth 100000
set_option maxHeartbeats 4000000
theorem ptokR_call {bs : BL} [hb : Few bs] (r : RD) [hs : Sfx bs r] (l : Nat) : MCalls Tryz.prog 63 [.ptr l 0 0] (St.none.set l (rP bs r)) (fun v σ' => v = .agg (tokR r).1.c ∧ σ' = St.none.set l (rP bs (tokR r).2)) := by
 refine MCalls.obj (MCalls.body 34 [.cell 2 34] Tryz.func63 rfl rfl rfl rfl ?_)
 have hm := ptmost_call
 have h1 := pRNum_call 5 (bs := bs) r l
 haveI hs1 : Sfx bs (numR 5 r).2 := inferInstance
 obtain ⟨a, ha⟩ : ∃ a, numR 5 r = a := ⟨_, rfl⟩
 rw [ha] at h1 hs1
 have h2 := pRNum_call 1099511627776 (bs := bs) a.2 l
 obtain ⟨k, b, hk, hfb, hs2, hkb, hk0, hk1⟩ := pfrom_two (bs := bs) 1099511627776 a.2 l
 rw [hk] at h2
 have h3 := pRFail_call 3 (bs := bs) k.2 l
 have h4 := pRNum_call 1099511627776 (bs := bs) b.2 l
 haveI hs3 : Sfx bs (numR 1099511627776 b.2).2 := inferInstance
 obtain ⟨c, hc⟩ : ∃ c, numR 1099511627776 b.2 = c := ⟨_, rfl⟩
 rw [hc] at h4 hs3
 have h5 := pRNum_call 1073741824 (bs := bs) c.2 l
 haveI hs4 : Sfx bs (numR 1073741824 c.2).2 := inferInstance
 obtain ⟨d, hd⟩ : ∃ d, numR 1073741824 c.2 = d := ⟨_, rfl⟩
 rw [hd] at h5 hs4
 have h6 := pRErr_call (bs := bs) d.2 l
 have e : tokR r = okR tk0 (⟨a.1, b.1, c.1, d.1⟩, d.2) := by
  unfold tokR big idMax
  simp only [ha, hfb, hc, hd]
 obtain ⟨res, hres⟩ : ∃ p, tokR r = p := ⟨_, rfl⟩
 rw [hres] at e ⊢
 clear ha hfb hc hd hres hk
 have hof := ptof_call ⟨a.1, b.1, c.1, d.1⟩
 obtain ⟨k1, k2⟩ := k
 obtain ⟨b1, b2⟩ := b
 simp only at *
 subst hkb
 obtain ⟨Z, R0, R1, R2, R3, R4⟩ : ∃ Z : Int → RD, Z 0 = r ∧ Z 1 = a.2 ∧ Z 2 = b2 ∧ Z 3 = c.2 ∧ Z 4 = d.2 := ⟨fun i => if i = 0 then r else if i = 1 then a.2 else if i = 2 then b2 else if i = 3 then c.2 else d.2, by simp, by simp, by simp, by simp, by simp⟩
 obtain ⟨L, L0, L1, L2, L3, L4⟩ : ∃ L : Int → List MV, L 0 = tk0.c ∧ L 1 = [.int .i64 a.1, .int .i64 0, .int .i64 0, .int .i64 0] ∧ L 2 = [.int .i64 a.1, .int .i64 k1, .int .i64 0, .int .i64 0] ∧ L 3 = [.int .i64 a.1, .int .i64 k1, .int .i64 c.1, .int .i64 0] ∧ L 4 = [.int .i64 a.1, .int .i64 k1, .int .i64 c.1, .int .i64 d.1] := ⟨fun i => if i = 0 then tk0.c else if i = 1 then [.int .i64 a.1, .int .i64 0, .int .i64 0, .int .i64 0] else if i = 2 then [.int .i64 a.1, .int .i64 k1, .int .i64 0, .int .i64 0] else if i = 3 then [.int .i64 a.1, .int .i64 k1, .int .i64 c.1, .int .i64 0] else [.int .i64 a.1, .int .i64 k1, .int .i64 c.1, .int .i64 d.1], by simp, by simp, by simp, by simp, by simp⟩
 repeat' (first | (with_reducible first | refine up hm ?_) | (with_reducible first | (refine wT ?_; (first | ((fail_if_success (have := nl1)); refine wN fun nl1 hnl => ?_) | ((fail_if_success (have := nl2)); refine wN fun nl2 hnl => ?_) | ((fail_if_success (have := nl3)); refine wN fun nl3 hnl => ?_) | refine wN fun _ hnl => ?_); revert hnl; (repeat refine wS fun _ _ => ?_); intro hnl) | refine wE ?_ | (refine wK ?_ ?_ <;> intro h) | (refine wB ?_ ?_ <;> intro h <;> simp only [h])) | simp (maxSteps := 4000000) (disch := first | decide | assumption | omega | (simp only [wL]; omega)) only [go_sem, simprocAttr, Tryz.f63])
 have d1 : nl1 ≠ l := by assumption
 have d2 : nl2 ≠ l := by assumption
 have d3 : nl3 ≠ l := by assumption
 have d4 : nl2 ≠ nl1 := by assumption
 have d5 : nl3 ≠ nl1 := by assumption
 have d6 : nl3 ≠ nl2 := by assumption
 have e1 := Ne.symm d1
 have e2 := Ne.symm d2
 have e3 := Ne.symm d3
 have e4 := Ne.symm d4
 have e5 := Ne.symm d5
 have e6 := Ne.symm d6
 refine mloop_intro (α := Int) (fun i => ⟨34, [(7, .int .i64 i), (4, .ptr nl3 0 0), (3, .ptr nl2 0 0), (2, .ptr nl1 0 0), (0, .ptr l 0 0)], []⟩)
  (fun i => (((St.none.set l (rP bs (Z i))).set nl1 (.row 34 4 [tk0.c])).set nl2 (.row 151 4 [L i])).set nl3 (.row 151 4 [topC])) (fun i => 0 ≤ i ∧ i ≤ 4) (fun i => (4 - i).toNat) ?_ ?_
 ·refine .of (.less ?_ (σ1 := (((St.none.set l (rP bs (Z 0))).set nl1 (.row 34 4 [tk0.c])).set nl2 (.row 151 4 [L 0])).set nl3 (.row 151 4 [topC])) (by rw [R0, L0]; exact St.le_refl _)) ⟨0, rfl, rfl, by omega, by omega⟩
  simp (maxSteps := 4000000) (disch := first | decide | assumption | omega | (simp only [wL]; omega)) only [go_sem, simprocAttr, weak_int, weak_same]
 ·rintro i ⟨h0, h4'⟩
  have hi : i = 0 ∨ (k1 = 0 ∧ i = 1) ∨ (k1 ≠ 0 ∧ i = 1) ∨ i = 2 ∨ i = 3 ∨ (d.2.e = 0 ∧ i = 4) ∨ (d.2.e ≠ 0 ∧ i = 4) := by omega
  rcases hi with rfl | ⟨hk, rfl⟩ | ⟨hk, rfl⟩ | rfl | rfl | ⟨he, rfl⟩ | ⟨he, rfl⟩
  all_goals first | (rw [okR_y he] at e; subst e) | (rw [okR_n he] at e; subst e) | (rw [(hk0 hk).1] at h3; subst hk) | (have := (hk1 hk).symm; subst this) | skip
  all_goals
   simp only [R0, R1, R2, R3, R4, L0, L1, L2, L3, L4]
   repeat' (first | (with_reducible (refine wQ ?_; first | refine uR (h1 ..) ?_ | refine uR (h2 ..) ?_ | refine uR (h3 ..) ?_ | refine uR (h4 ..) ?_ | refine uR (h5 ..) ?_ | refine uR (h6 ..) ?_)) | (with_reducible first | refine up hof ?_) | (with_reducible first | (refine wT ?_; (first | ((fail_if_success (have := nl1)); refine wN fun nl1 hnl => ?_) | ((fail_if_success (have := nl2)); refine wN fun nl2 hnl => ?_) | ((fail_if_success (have := nl3)); refine wN fun nl3 hnl => ?_) | refine wN fun _ hnl => ?_); revert hnl; (repeat refine wS fun _ _ => ?_); intro hnl) | refine wE ?_ | (refine wK ?_ ?_ <;> intro h) | (refine wB ?_ ?_ <;> intro h <;> simp only [h])) | simp (maxSteps := 4000000) (disch := first | decide | assumption | omega | (simp only [wL]; omega)) only [go_sem, simprocAttr])
  case' inr.inr.inr.inr.inr.inr => rfl
  all_goals first
   | refine .of (.less ?_ (σ1 := (((St.none.set l (rP bs (Z 1))).set nl1 (.row 34 4 [tk0.c])).set nl2 (.row 151 4 [L 1])).set nl3 (.row 151 4 [topC])) (by rw [R1, L1]; exact St.le_refl _)) ⟨1, rfl, rfl, ⟨by omega, by omega⟩, by omega⟩
   | refine .of (.less ?_ (σ1 := (((St.none.set l (rP bs (Z 2))).set nl1 (.row 34 4 [tk0.c])).set nl2 (.row 151 4 [L 2])).set nl3 (.row 151 4 [topC])) (by rw [R2, L2]; exact St.le_refl _)) ⟨2, rfl, rfl, ⟨by omega, by omega⟩, by omega⟩
   | refine .of (.less ?_ (σ1 := (((St.none.set l (rP bs (Z 3))).set nl1 (.row 34 4 [tk0.c])).set nl2 (.row 151 4 [L 3])).set nl3 (.row 151 4 [topC])) (by rw [R3, L3]; exact St.le_refl _)) ⟨3, rfl, rfl, ⟨by omega, by omega⟩, by omega⟩
   | refine .of (.less ?_ (σ1 := (((St.none.set l (rP bs (Z 4))).set nl1 (.row 34 4 [tk0.c])).set nl2 (.row 151 4 [L 4])).set nl3 (.row 151 4 [topC])) (by rw [R4, L4]; exact St.le_refl _)) ⟨4, rfl, rfl, ⟨by omega, by omega⟩, by omega⟩
  all_goals simp (maxSteps := 4000000) (disch := first | decide | assumption | omega | (simp only [wL]; omega)) only [go_sem, simprocAttr, weak_int, weak_same]
end Go.Proofs.YtfbodefnblpflaaGreatDoor
end

section
namespace Go.Proofs.YtfbodefnblpflaaGreatDoor
set_option maxRecDepth 100000
set_option maxHeartbeats 4000000
theorem pfromL_call (least most : Int) {bs : BL} [hb : Few bs] (r : RD) [hs : Sfx bs r] (l : Nat) : MCalls Tryz.prog 118 [.ptr l 0 0, .int .i64 least, .int .i64 most] (St.none.set l (rP bs r)) (fun v σ' => v = .int .i64 (fromR least most r).1 ∧ σ' = St.none.set l (rP bs (fromR least most r).2)) := by
 refine (MCalls.body 17 [.tmp 6] Tryz.func118 rfl rfl rfl rfl ?_)
 have h1 := pRNum_call most (bs := bs) r l
 obtain ⟨n, hn⟩ : ∃ n, numR most r = n := ⟨_, rfl⟩
 rw [hn] at h1
 have h2 := pRFail_call 3 (bs := bs) n.2 l
 have e : fromR least most r = (n.1, if n.1 < least then failR 3 n.2 else n.2) := by unfold fromR; rw [hn]
 rw [e]
 by_cases h0 : n.1 < least
 ·rw [if_pos h0]
  repeat' (first | (with_reducible (refine wQ ?_; first | refine uR (h1 ..) ?_ | refine uR (h2 ..) ?_)) | (with_reducible first | (refine wN fun _ hnl => ?_; revert hnl; (repeat refine wS fun _ _ => ?_); intro hnl) | refine wE ?_ | (refine wK ?_ ?_ <;> intro h) | (refine wB ?_ ?_ <;> intro h <;> simp only [h])) | simp (maxSteps := 4000000) (disch := first | decide | assumption | omega | (simp only [wL]; omega)) only [go_sem, simprocAttr, Tryz.f118])
 ·rw [if_neg h0]
  repeat' (first | (with_reducible (refine wQ ?_; first | refine uR (h1 ..) ?_ | refine uR (h2 ..) ?_)) | (with_reducible first | (refine wN fun _ hnl => ?_; revert hnl; (repeat refine wS fun _ _ => ?_); intro hnl) | refine wE ?_ | (refine wK ?_ ?_ <;> intro h) | (refine wB ?_ ?_ <;> intro h <;> simp only [h])) | simp (maxSteps := 4000000) (disch := first | decide | assumption | omega | (simp only [wL]; omega)) only [go_sem, simprocAttr, Tryz.f118])
theorem numR_stk {m : Int} {r : RD} (h : r.e ≠ 0) : numR m r = (0, r) := if_neg h
theorem fromR_stk {a m : Int} {r : RD} (h : r.e ≠ 0) : fromR a m r = (0, r) := by
 unfold fromR
 rw [numR_stk h]
 simp only [failR_stk h, ite_self]
theorem predR_stk {r : RD} (h : r.e ≠ 0) : predR r = ([], r) := by
 unfold predR
 rw [fromR_stk h]
 simp only [listR_stk _ (([] : List ND), r) h]
 rw [if_neg h]
theorem repR_2 {r : RD} {k d q c s i v : Int × RD} (hk : fromR 2 4 r = k) (hd : numR 5 k.2 = d) (hq : fromR 1 1099511627776 d.2 = q) (hc : numR 16 q.2 = c) (hs : numR 1099511627776 c.2 = s) (hi : fromR 1 1073741823 s.2 = i) (hv : fromR 1 1099511627776 i.2 = v) (h0 : c.1 = 0) (h2 : k.1 = 2) :
  repR r = okR re0 (⟨2, d.1, q.1, 0, i.1, v.1, s.1, 0, [], 0⟩, v.2) := by
 by_cases he : c.2.e = 0
 ·simp [repR, big, idMax, hk, hd, hq, hc, h0, he, hs, h2, hi, hv]
 ·have e : repR r = okR re0 (⟨k.1, d.1, q.1, c.1, 0, 0, 0, 0, [], UInt32.ofNat 0⟩, c.2) := by
   simp [repR, big, idMax, hk, hd, hq, hc, he]
  rw [numR_stk he] at hs
  subst hs
  rw [fromR_stk he] at hi
  subst hi
  rw [fromR_stk he] at hv
  subst hv
  rw [e, okR_n he, okR_n he]
theorem repR_3 {r : RD} {k d q c s v m : Int × RD} {f : List ND × RD} (hk : fromR 2 4 r = k) (hd : numR 5 k.2 = d) (hq : fromR 1 1099511627776 d.2 = q) (hc : numR 16 q.2 = c) (hs : numR 1099511627776 c.2 = s) (hv : fromR 1 1099511627776 s.2 = v) (hf : predR v.2 = f) (hm : numR 511 f.2 = m) (h0 : c.1 = 0) (h2 : k.1 = 3) :
  repR r = okR re0 (⟨3, d.1, q.1, 0, 0, 0, s.1, v.1, f.1, UInt32.ofNat m.1.toNat⟩, m.2) := by
 by_cases he : c.2.e = 0
 ·simp [repR, big, idMax, hk, hd, hq, hc, h0, he, hs, h2, hv, hf, hm]
 ·have e : repR r = okR re0 (⟨k.1, d.1, q.1, c.1, 0, 0, 0, 0, [], UInt32.ofNat 0⟩, c.2) := by
   simp [repR, big, idMax, hk, hd, hq, hc, he]
  rw [numR_stk he] at hs
  subst hs
  rw [fromR_stk he] at hv
  subst hv
  rw [predR_stk he] at hf
  subst hf
  rw [numR_stk he] at hm
  subst hm
  rw [e, okR_n he, okR_n he]
theorem repR_4 {r : RD} {k d q c s : Int × RD} (hk : fromR 2 4 r = k) (hd : numR 5 k.2 = d) (hq : fromR 1 1099511627776 d.2 = q) (hc : numR 16 q.2 = c) (hs : numR 1099511627776 c.2 = s) (h0 : c.1 = 0) (h2 : k.1 ≠ 2) (h3 : k.1 ≠ 3) :
  repR r = okR re0 (⟨k.1, d.1, q.1, 0, 0, 0, s.1, 0, [], 0⟩, s.2) := by
 by_cases he : c.2.e = 0
 ·simp [repR, big, idMax, hk, hd, hq, hc, h0, he, hs, h2, h3]
 ·have e : repR r = okR re0 (⟨k.1, d.1, q.1, c.1, 0, 0, 0, 0, [], UInt32.ofNat 0⟩, c.2) := by
   simp [repR, big, idMax, hk, hd, hq, hc, he]
  rw [numR_stk he] at hs
  subst hs
  rw [e, okR_n he, okR_n he]
theorem repR_n {r : RD} {k d q c : Int × RD} (hk : fromR 2 4 r = k) (hd : numR 5 k.2 = d) (hq : fromR 1 1099511627776 d.2 = q) (hc : numR 16 q.2 = c) (h0 : c.1 ≠ 0) :
  repR r = okR re0 (⟨k.1, d.1, q.1, c.1, 0, 0, 0, 0, [], 0⟩, c.2) := by
 simp [repR, big, idMax, hk, hd, hq, hc, h0]
theorem prepR_call {bs : BL} [hb : Few bs] (r : RD) [hs : Sfx bs r] (l : Nat) : MCalls Tryz.prog 66 [.ptr l 0 0] (St.none.set l (rP bs r)) (fun v σ' => v = .agg (repR r).1.c ∧ σ' = St.none.set l (rP bs (repR r).2)) := by
 refine MCalls.seenO (MCalls.body 49 [.cell 2 37] Tryz.func66 rfl rfl rfl rfl ?_)
 have h1 := pfromL_call 2 4 (bs := bs) r l
 haveI hs1 : Sfx bs (fromR 2 4 r).2 := inferInstance
 obtain ⟨k, hk⟩ : ∃ k, fromR 2 4 r = k := ⟨_, rfl⟩
 rw [hk] at h1 hs1
 have h2 := pRNum_call 5 (bs := bs) k.2 l
 haveI hs2 : Sfx bs (numR 5 k.2).2 := inferInstance
 obtain ⟨d, hd⟩ : ∃ d, numR 5 k.2 = d := ⟨_, rfl⟩
 rw [hd] at h2 hs2
 have h3 := pfromL_call 1 1099511627776 (bs := bs) d.2 l
 haveI hs3 : Sfx bs (fromR 1 1099511627776 d.2).2 := inferInstance
 obtain ⟨q, hq⟩ : ∃ q, fromR 1 1099511627776 d.2 = q := ⟨_, rfl⟩
 rw [hq] at h3 hs3
 have h4 := pRNum_call 16 (bs := bs) q.2 l
 haveI hs4 : Sfx bs (numR 16 q.2).2 := inferInstance
 obtain ⟨c, hc⟩ : ∃ c, numR 16 q.2 = c := ⟨_, rfl⟩
 rw [hc] at h4 hs4
 by_cases h0 : c.1 = 0
 ·have h5 := pRNum_call 1099511627776 (bs := bs) c.2 l
  haveI hs5 : Sfx bs (numR 1099511627776 c.2).2 := inferInstance
  obtain ⟨s, hse⟩ : ∃ s, numR 1099511627776 c.2 = s := ⟨_, rfl⟩
  rw [hse] at h5 hs5
  by_cases k2 : k.1 = 2
  ·have h6 := pfromL_call 1 1073741823 (bs := bs) s.2 l
   haveI hs6 : Sfx bs (fromR 1 1073741823 s.2).2 := inferInstance
   obtain ⟨i, hi⟩ : ∃ i, fromR 1 1073741823 s.2 = i := ⟨_, rfl⟩
   rw [hi] at h6 hs6
   have h7 := pfromL_call 1 1099511627776 (bs := bs) i.2 l
   haveI hs7 : Sfx bs (fromR 1 1099511627776 i.2).2 := inferInstance
   obtain ⟨v, hv⟩ : ∃ v, fromR 1 1099511627776 i.2 = v := ⟨_, rfl⟩
   rw [hv] at h7 hs7
   have h8 := pRErr_call (bs := bs) v.2 l
   rw [repR_2 hk hd hq hc hse hi hv h0 k2]
   clear hk hd hq hc hse hi hv
   by_cases he : v.2.e = 0
   ·rw [okR_y he]
    repeat' (first | (with_reducible (refine wQ ?_; first | refine uR (h1 ..) ?_ | refine uR (h2 ..) ?_ | refine uR (h3 ..) ?_ | refine uR (h4 ..) ?_ | refine uR (h5 ..) ?_ | refine uR (h6 ..) ?_ | refine uR (h7 ..) ?_ | refine uR (h8 ..) ?_)) | (with_reducible first | (refine wN fun _ hnl => ?_; revert hnl; (repeat refine wS fun _ _ => ?_); intro hnl) | refine wE ?_ | (refine wK ?_ ?_ <;> intro h) | (refine wB ?_ ?_ <;> intro h <;> simp only [h])) | simp (maxSteps := 4000000) (disch := first | decide | assumption | omega | (simp only [wL]; omega)) only [go_sem, simprocAttr, Tryz.f66, h0])
    all_goals (try (exfalso; omega))
    all_goals (try simp only [k2, h0])
    all_goals first | exact vre (a := ⟨2, d.1, q.1, 0, i.1, v.1, s.1, 0, [], 0⟩) (.nil _ _) | exact ⟨vre (a := ⟨2, d.1, q.1, 0, i.1, v.1, s.1, 0, [], 0⟩) (.nil _ _), rfl⟩
   ·rw [okR_n he]
    repeat' (first | (with_reducible (refine wQ ?_; first | refine uR (h1 ..) ?_ | refine uR (h2 ..) ?_ | refine uR (h3 ..) ?_ | refine uR (h4 ..) ?_ | refine uR (h5 ..) ?_ | refine uR (h6 ..) ?_ | refine uR (h7 ..) ?_ | refine uR (h8 ..) ?_)) | (with_reducible first | (refine wN fun _ hnl => ?_; revert hnl; (repeat refine wS fun _ _ => ?_); intro hnl) | refine wE ?_ | (refine wK ?_ ?_ <;> intro h) | (refine wB ?_ ?_ <;> intro h <;> simp only [h])) | simp (maxSteps := 4000000) (disch := first | decide | assumption | omega | (simp only [wL]; omega)) only [go_sem, simprocAttr, Tryz.f66, h0])
    all_goals (try (exfalso; omega))
    all_goals first | exact vre (a := re0) (.nil _ _) | exact ⟨vre (a := re0) (.nil _ _), rfl⟩
  ·by_cases k3 : k.1 = 3
   ·have h6 := pfromL_call 1 1099511627776 (bs := bs) s.2 l
    haveI hs6 : Sfx bs (fromR 1 1099511627776 s.2).2 := inferInstance
    obtain ⟨v, hv⟩ : ∃ v, fromR 1 1099511627776 s.2 = v := ⟨_, rfl⟩
    rw [hv] at h6 hs6
    have h7 := ppredR_call (bs := bs) v.2 l
    haveI hs7 : Sfx bs (predR v.2).2 := inferInstance
    obtain ⟨f, hf⟩ : ∃ f, predR v.2 = f := ⟨_, rfl⟩
    rw [hf] at h7 hs7
    have h9 := pRNum_call 511 (bs := bs) f.2 l
    haveI hs9 : Sfx bs (numR 511 f.2).2 := inferInstance
    have hm1 := (numR_rng 511 f.2).1
    have hm2 := numR_most (most := 511) (by decide) f.2
    obtain ⟨m, hm⟩ : ∃ m, numR 511 f.2 = m := ⟨_, rfl⟩
    rw [hm] at h9 hs9 hm1 hm2
    have h8 := pRErr_call (bs := bs) m.2 l
    have hw := wrapU hm1 (by omega)
    rw [repR_3 hk hd hq hc hse hv hf hm h0 k3]
    clear hk hd hq hc hse hf hv hm
    by_cases he : m.2.e = 0
    ·rw [okR_y he]
     repeat' (first | (with_reducible (refine wQ ?_; first | refine uR (h1 ..) ?_ | refine uR (h2 ..) ?_ | refine uR (h3 ..) ?_ | refine uR (h4 ..) ?_ | refine uR (h5 ..) ?_ | refine uR (h6 ..) ?_ | refine uR (h7 ..) ?_ | refine uR (h8 ..) ?_ | refine uR (h9 ..) ?_)) | (with_reducible first | (refine wN fun _ hnl => ?_; revert hnl; (repeat refine wS fun _ _ => ?_); intro hnl) | refine wE ?_ | (refine wK ?_ ?_ <;> intro h) | (refine wB ?_ ?_ <;> intro h <;> simp only [h])) | simp (maxSteps := 4000000) (disch := first | decide | assumption | omega | (simp only [wL]; omega)) only [go_sem, simprocAttr, Tryz.f66, h0, hw])
     all_goals (try (exfalso; omega))
     all_goals (try simp only [k3, h0])
     all_goals first | exact vre (a := ⟨3, d.1, q.1, 0, 0, 0, s.1, v.1, f.1, UInt32.ofNat m.1.toNat⟩) (.same _) | exact ⟨vre (a := ⟨3, d.1, q.1, 0, 0, 0, s.1, v.1, f.1, UInt32.ofNat m.1.toNat⟩) (.same _), rfl⟩
    ·rw [okR_n he]
     repeat' (first | (with_reducible (refine wQ ?_; first | refine uR (h1 ..) ?_ | refine uR (h2 ..) ?_ | refine uR (h3 ..) ?_ | refine uR (h4 ..) ?_ | refine uR (h5 ..) ?_ | refine uR (h6 ..) ?_ | refine uR (h7 ..) ?_ | refine uR (h8 ..) ?_ | refine uR (h9 ..) ?_)) | (with_reducible first | (refine wN fun _ hnl => ?_; revert hnl; (repeat refine wS fun _ _ => ?_); intro hnl) | refine wE ?_ | (refine wK ?_ ?_ <;> intro h) | (refine wB ?_ ?_ <;> intro h <;> simp only [h])) | simp (maxSteps := 4000000) (disch := first | decide | assumption | omega | (simp only [wL]; omega)) only [go_sem, simprocAttr, Tryz.f66, h0, hw])
     all_goals (try (exfalso; omega))
     all_goals first | exact vre (a := re0) (.nil _ _) | exact ⟨vre (a := re0) (.nil _ _), rfl⟩
   ·have h8 := pRErr_call (bs := bs) s.2 l
    rw [repR_4 hk hd hq hc hse h0 k2 k3]
    clear hk hd hq hc hse
    by_cases he : s.2.e = 0
    ·rw [okR_y he]
     repeat' (first | (with_reducible (refine wQ ?_; first | refine uR (h1 ..) ?_ | refine uR (h2 ..) ?_ | refine uR (h3 ..) ?_ | refine uR (h4 ..) ?_ | refine uR (h5 ..) ?_ | refine uR (h8 ..) ?_)) | (with_reducible first | (refine wN fun _ hnl => ?_; revert hnl; (repeat refine wS fun _ _ => ?_); intro hnl) | refine wE ?_ | (refine wK ?_ ?_ <;> intro h) | (refine wB ?_ ?_ <;> intro h <;> simp only [h])) | simp (maxSteps := 4000000) (disch := first | decide | assumption | omega | (simp only [wL]; omega)) only [go_sem, simprocAttr, Tryz.f66, h0])
     all_goals (try (exfalso; omega))
     all_goals (try simp only [h0])
     all_goals first | exact vre (a := ⟨k.1, d.1, q.1, 0, 0, 0, s.1, 0, [], 0⟩) (.nil _ _) | exact ⟨vre (a := ⟨k.1, d.1, q.1, 0, 0, 0, s.1, 0, [], 0⟩) (.nil _ _), rfl⟩
    ·rw [okR_n he]
     repeat' (first | (with_reducible (refine wQ ?_; first | refine uR (h1 ..) ?_ | refine uR (h2 ..) ?_ | refine uR (h3 ..) ?_ | refine uR (h4 ..) ?_ | refine uR (h5 ..) ?_ | refine uR (h8 ..) ?_)) | (with_reducible first | (refine wN fun _ hnl => ?_; revert hnl; (repeat refine wS fun _ _ => ?_); intro hnl) | refine wE ?_ | (refine wK ?_ ?_ <;> intro h) | (refine wB ?_ ?_ <;> intro h <;> simp only [h])) | simp (maxSteps := 4000000) (disch := first | decide | assumption | omega | (simp only [wL]; omega)) only [go_sem, simprocAttr, Tryz.f66, h0])
     all_goals (try (exfalso; omega))
     all_goals first | exact vre (a := re0) (.nil _ _) | exact ⟨vre (a := re0) (.nil _ _), rfl⟩
 ·have h8 := pRErr_call (bs := bs) c.2 l
  rw [repR_n hk hd hq hc h0]
  clear hk hd hq hc
  by_cases he : c.2.e = 0
  ·rw [okR_y he]
   repeat' (first | (with_reducible (refine wQ ?_; first | refine uR (h1 ..) ?_ | refine uR (h2 ..) ?_ | refine uR (h3 ..) ?_ | refine uR (h4 ..) ?_ | refine uR (h8 ..) ?_)) | (with_reducible first | (refine wN fun _ hnl => ?_; revert hnl; (repeat refine wS fun _ _ => ?_); intro hnl) | refine wE ?_ | (refine wK ?_ ?_ <;> intro h) | (refine wB ?_ ?_ <;> intro h <;> simp only [h])) | simp (maxSteps := 4000000) (disch := first | decide | assumption | omega | (simp only [wL]; omega)) only [go_sem, simprocAttr, Tryz.f66])
   all_goals (try (exfalso; omega))
   all_goals first | exact vre (a := ⟨k.1, d.1, q.1, c.1, 0, 0, 0, 0, [], 0⟩) (.nil _ _) | exact ⟨vre (a := ⟨k.1, d.1, q.1, c.1, 0, 0, 0, 0, [], 0⟩) (.nil _ _), rfl⟩
  ·rw [okR_n he]
   repeat' (first | (with_reducible (refine wQ ?_; first | refine uR (h1 ..) ?_ | refine uR (h2 ..) ?_ | refine uR (h3 ..) ?_ | refine uR (h4 ..) ?_ | refine uR (h8 ..) ?_)) | (with_reducible first | (refine wN fun _ hnl => ?_; revert hnl; (repeat refine wS fun _ _ => ?_); intro hnl) | refine wE ?_ | (refine wK ?_ ?_ <;> intro h) | (refine wB ?_ ?_ <;> intro h <;> simp only [h])) | simp (maxSteps := 4000000) (disch := first | decide | assumption | omega | (simp only [wL]; omega)) only [go_sem, simprocAttr, Tryz.f66])
   all_goals (try (exfalso; omega))
   all_goals first | exact vre (a := re0) (.nil _ _) | exact ⟨vre (a := re0) (.nil _ _), rfl⟩
end Go.Proofs.YtfbodefnblpflaaGreatDoor
end

section
namespace Go.Proofs.YtfbodefnblpflaaGreatDoor
set_option maxRecDepth 100000
set_option maxHeartbeats 4000000
theorem pcabove_call (most : Int) {bs : BL} [hb : Few bs] (r : RD) [hs : Sfx bs r] (l : Nat) : MCalls Tryz.prog 113 [.ptr l 0 0, .int .i64 most] (St.none.set l (rP bs r)) (fun v σ' => v = .int .i64 (fromR 1 most r).1 ∧ σ' = St.none.set l (rP bs (fromR 1 most r).2)) := by
 refine (MCalls.body 14 [.tmp 4] Tryz.func113 rfl rfl rfl rfl ?_)
 have hr := (numR_rng most r).1
 have h1 := pRNum_call most (bs := bs) r l
 obtain ⟨n, hn⟩ : ∃ n, numR most r = n := ⟨_, rfl⟩
 rw [hn] at h1 hr
 have h2 := pRFail_call 3 (bs := bs) n.2 l
 have e : fromR 1 most r = (n.1, if n.1 < 1 then failR 3 n.2 else n.2) := by unfold fromR; rw [hn]
 rw [e]
 by_cases h0 : n.1 = 0
 ·rw [if_pos (by omega)]
  repeat' (first | (with_reducible (refine wQ ?_; first | refine uR (h1 ..) ?_ | refine uR (h2 ..) ?_)) | (with_reducible first | (refine wN fun _ hnl => ?_; revert hnl; (repeat refine wS fun _ _ => ?_); intro hnl) | refine wE ?_ | (refine wK ?_ ?_ <;> intro h) | (refine wB ?_ ?_ <;> intro h <;> simp only [h])) | simp (maxSteps := 4000000) (disch := first | decide | assumption | omega | (simp only [wL]; omega)) only [go_sem, simprocAttr, Tryz.f113])
 ·rw [if_neg (by omega)]
  repeat' (first | (with_reducible (refine wQ ?_; first | refine uR (h1 ..) ?_ | refine uR (h2 ..) ?_)) | (with_reducible first | (refine wN fun _ hnl => ?_; revert hnl; (repeat refine wS fun _ _ => ?_); intro hnl) | refine wE ?_ | (refine wK ?_ ?_ <;> intro h) | (refine wB ?_ ?_ <;> intro h <;> simp only [h])) | simp (maxSteps := 4000000) (disch := first | decide | assumption | omega | (simp only [wL]; omega)) only [go_sem, simprocAttr, Tryz.f113])
abbrev cmS (bs : BL) (l k : Nat) (s : RD) (c : CM) (f : MV) : St := (St.none.set l (rP bs s)).set k (.row 32 63 [c.k f])
theorem prequest_call {bs : BL} [hb : Few bs] (r : RD) [hs : Sfx bs r] (kd : Int) (l k : Nat) (hlk : k ≠ l) : MCalls Tryz.prog 111 [.ptr l 0 0, .ptr k 0 0] (cmS bs l k r { cm0 with kd := kd } .nils)
  (fun v σ' => v = .tup [] ∧ σ' = cmS bs l k (fromR 1 1099511627776 (numR 5 r).2).2 { cm0 with kd := kd, dev := (numR 5 r).1, req := (fromR 1 1099511627776 (numR 5 r).2).1 } .nils) := by
 refine (MCalls.body 14 [] Tryz.func111 rfl rfl rfl rfl ?_)
 have hkl := Ne.symm hlk
 have h1 := pRNum_call 5 (bs := bs) r l
 haveI hs1 : Sfx bs (numR 5 r).2 := inferInstance
 obtain ⟨d, hd⟩ : ∃ d, numR 5 r = d := ⟨_, rfl⟩
 rw [hd] at h1 hs1 ⊢
 have h2 := pcabove_call 1099511627776 (bs := bs) d.2 l
 obtain ⟨q, hq⟩ : ∃ q, fromR 1 1099511627776 d.2 = q := ⟨_, rfl⟩
 rw [hq] at h2 ⊢
 clear hd hq
 repeat' (first | (with_reducible (refine wQ ?_; first | refine uR (h1 ..) ?_ | refine uR (h2 ..) ?_)) | (with_reducible first | (refine wN fun _ hnl => ?_; revert hnl; (repeat refine wS fun _ _ => ?_); intro hnl) | refine wE ?_ | (refine wK ?_ ?_ <;> intro h) | (refine wB ?_ ?_ <;> intro h <;> simp only [h])) | simp (maxSteps := 4000000) (disch := first | decide | assumption | omega | (simp only [wL]; omega)) only [go_sem, simprocAttr, Tryz.f111, FYs])
theorem pedit1_call {bs : BL} [hb : Few bs] (r : RD) [hs : Sfx bs r] (kd : Int) (l k : Nat) (hlk : k ≠ l) : MCalls Tryz.prog 107 [.ptr l 0 0, .ptr k 0 0] (cmS bs l k r { cm0 with kd := kd } .nils)
  (fun v σ' => v = .tup [] ∧ σ' = cmS bs l k (editR r).2 { cm0 with kd := kd, e := (editR r).1 } .nils) := by
 refine (MCalls.body 9 [] Tryz.func107 rfl rfl rfl rfl ?_)
 have hkl := Ne.symm hlk
 have h1 := peditR_call (bs := bs) r l
 obtain ⟨d, hd⟩ : ∃ d, editR r = d := ⟨_, rfl⟩
 rw [hd] at h1 ⊢
 clear hd
 repeat' (first | (with_reducible (refine wQ ?_; first | refine uR (h1 ..) ?_)) | (with_reducible first | (refine wN fun _ hnl => ?_; revert hnl; (repeat refine wS fun _ _ => ?_); intro hnl) | refine wE ?_ | (refine wK ?_ ?_ <;> intro h) | (refine wB ?_ ?_ <;> intro h <;> simp only [h])) | simp (maxSteps := 4000000) (disch := first | decide | assumption | omega | (simp only [wL]; omega)) only [go_sem, simprocAttr, Tryz.f107, FYs])
theorem ptrim_call {bs : BL} [hb : Few bs] (r : RD) [hs : Sfx bs r] (kd : Int) (l k : Nat) (hlk : k ≠ l) : MCalls Tryz.prog 112 [.ptr l 0 0, .ptr k 0 0] (cmS bs l k r { cm0 with kd := kd } .nils)
  (fun v σ' => v = .tup [] ∧ σ' = cmS bs l k (numR 1099511627776 r).2 { cm0 with kd := kd, keep := (numR 1099511627776 r).1 } .nils) := by
 refine (MCalls.body 9 [] Tryz.func112 rfl rfl rfl rfl ?_)
 have hkl := Ne.symm hlk
 have h1 := pRNum_call 1099511627776 (bs := bs) r l
 obtain ⟨d, hd⟩ : ∃ d, numR 1099511627776 r = d := ⟨_, rfl⟩
 rw [hd] at h1 ⊢
 clear hd
 repeat' (first | (with_reducible (refine wQ ?_; first | refine uR (h1 ..) ?_)) | (with_reducible first | (refine wN fun _ hnl => ?_; revert hnl; (repeat refine wS fun _ _ => ?_); intro hnl) | refine wE ?_ | (refine wK ?_ ?_ <;> intro h) | (refine wB ?_ ?_ <;> intro h <;> simp only [h])) | simp (maxSteps := 4000000) (disch := first | decide | assumption | omega | (simp only [wL]; omega)) only [go_sem, simprocAttr, Tryz.f112, FYs])
theorem psubs_call {bs : BL} [hb : Few bs] (r : RD) [hs : Sfx bs r] (kd : Int) (l k : Nat) (hlk : k ≠ l) (d q m : Int × RD) (f : List ND × RD) (hd : numR 5 r = d) (hq : fromR 1 1099511627776 d.2 = q) (hf : predR q.2 = f) (hm : numR 511 f.2 = m) :
  MCalls Tryz.prog 110 [.ptr l 0 0, .ptr k 0 0] (cmS bs l k r { cm0 with kd := kd } .nils)
  (fun v σ' => v = .tup [] ∧ σ' = cmS bs l k m.2 { cm0 with kd := kd, dev := d.1, req := q.1, fl := f.1, mask := UInt32.ofNat m.1.toNat } (.lst 5 (f.1.map ND.c) false)) := by
 refine (MCalls.body 18 [] Tryz.func110 rfl rfl rfl rfl ?_)
 have hkl := Ne.symm hlk
 have h1 := prequest_call (bs := bs) r kd l k hlk
 rw [hd, hq] at h1
 haveI hs1 : Sfx bs d.2 := by rw [← hd]; infer_instance
 haveI hs2 : Sfx bs q.2 := by rw [← hq]; infer_instance
 have h2 := ppredR_call (bs := bs) q.2 l
 rw [hf] at h2
 haveI hs3 : Sfx bs f.2 := by rw [← hf]; infer_instance
 have h3 := pRNum_call 511 (bs := bs) f.2 l
 have hm1 := (numR_rng 511 f.2).1
 have hm2 := numR_most (most := 511) (by decide) f.2
 rw [hm] at h3 hm1 hm2
 have hw := wrapU hm1 (by omega)
 clear hd hq hf hm
 repeat' (first | (refine use_all h1 ?_) | (with_reducible (refine wQ ?_; first | refine uR (h2 ..) ?_ | refine uR (h3 ..) ?_)) | (with_reducible first | (refine wN fun _ hnl => ?_; revert hnl; (repeat refine wS fun _ _ => ?_); intro hnl) | refine wE ?_ | (refine wK ?_ ?_ <;> intro h) | (refine wB ?_ ?_ <;> intro h <;> simp only [h])) | simp (maxSteps := 4000000) (disch := first | decide | assumption | omega | (simp only [wL]; omega)) only [go_sem, simprocAttr, Tryz.f110, FYs, hw])
theorem pwrite_call {bs : BL} [hb : Few bs] (r : RD) [hs : Sfx bs r] (kd : Int) (l k : Nat) (hlk : k ≠ l) (d q i b : Int × RD) (x : PA × RD) (hd : numR 5 r = d) (hq : fromR 1 1099511627776 d.2 = q) (hi : fromR 1 1073741823 q.2 = i) (hbb : fromR 1 1099511627776 i.2 = b) (hx : patchR b.2 = x) :
  MCalls Tryz.prog 109 [.ptr l 0 0, .ptr k 0 0] (cmS bs l k r { cm0 with kd := kd } .nils)
  (fun v σ' => v = .tup [] ∧ σ' = cmS bs l k (if patchErr x.1 = 0 then x.2 else failR 3 x.2) { cm0 with kd := kd, dev := d.1, req := q.1, id := i.1, base := b.1, p := x.1 } .nils) := by
 refine (MCalls.body 30 [] Tryz.func109 rfl rfl rfl rfl ?_)
 have hkl := Ne.symm hlk
 have h1 := prequest_call (bs := bs) r kd l k hlk
 rw [hd, hq] at h1
 haveI hs1 : Sfx bs d.2 := by rw [← hd]; infer_instance
 haveI hs2 : Sfx bs q.2 := by rw [← hq]; infer_instance
 have h2 := pcabove_call 1073741823 (bs := bs) q.2 l
 rw [hi] at h2
 haveI hs3 : Sfx bs i.2 := by rw [← hi]; infer_instance
 have h3 := pcabove_call 1099511627776 (bs := bs) i.2 l
 rw [hbb] at h3
 haveI hs4 : Sfx bs b.2 := by rw [← hbb]; infer_instance
 have h4 := ppatchR_call (bs := bs) b.2 l
 rw [hx] at h4
 haveI hs5 : Sfx bs x.2 := by rw [← hx]; infer_instance
 have h5 := pRFail_call 3 (bs := bs) x.2 l
 have h6 := pcpatch_call x.1
 clear hd hq hi hbb hx
 by_cases h0 : patchErr x.1 = 0
 ·rw [if_pos h0]
  rw [h0] at h6
  repeat' (first | (refine use_all h1 ?_) | (with_reducible (refine wQ ?_; first | refine uR (h2 ..) ?_ | refine uR (h3 ..) ?_ | refine uR (h4 ..) ?_ | refine uR (h5 ..) ?_)) | (with_reducible first | refine up h6 ?_) | (with_reducible first | (refine wN fun _ hnl => ?_; revert hnl; (repeat refine wS fun _ _ => ?_); intro hnl) | refine wE ?_ | (refine wK ?_ ?_ <;> intro h) | (refine wB ?_ ?_ <;> intro h <;> simp only [h])) | simp (maxSteps := 4000000) (disch := first | decide | assumption | omega | (simp only [wL]; omega)) only [go_sem, simprocAttr, Tryz.f109, FYs])
 ·rw [if_neg h0]
  repeat' (first | (refine use_all h1 ?_) | (with_reducible (refine wQ ?_; first | refine uR (h2 ..) ?_ | refine uR (h3 ..) ?_ | refine uR (h4 ..) ?_ | refine uR (h5 ..) ?_)) | (with_reducible first | refine up h6 ?_) | (with_reducible first | (refine wN fun _ hnl => ?_; revert hnl; (repeat refine wS fun _ _ => ?_); intro hnl) | refine wE ?_ | (refine wK ?_ ?_ <;> intro h) | (refine wB ?_ ?_ <;> intro h <;> simp only [h])) | simp (maxSteps := 4000000) (disch := first | decide | assumption | omega | (simp only [wL]; omega)) only [go_sem, simprocAttr, Tryz.f109, FYs])
end Go.Proofs.YtfbodefnblpflaaGreatDoor
end

section
namespace Go.Proofs.YtfbodefnblpflaaGreatDoor
theorem mops_last {P : Program} {ops : Array Oper} {F : Fence} (o : Oper) : ∀ (l : List Oper), (F = Fence.wide ∨ ∃ l0, F = Fence.wide.inRound l0 ∧ ∀ x, x ∈ l ++ [o] → ∀ c, x.op ≠ .defer c) → o.guard = none → ∀ {Q : MQ} {Φ0 : Phi} {σ0 : St} {w0 : World} (f : FR) (σ : St) (Φ : Phi) (w : World) (a : Act),
  mops P ops (fun f σ => sop P o f σ fun v σ' => Q .normal (mput f o.dst v) σ') l f σ → Inv Φ w σ → FRel Φ a.tmps f → DRel Φ w a.defers f.d →
  Step Φ0 σ0 w0 Φ σ w → wpListIn F 0 P ops (lift Φ0 σ0 w0 Q) (l ++ [o]) a w := by
 intro l
 induction l with
 | nil =>
  intro hF hg Q Φ0 σ0 w0 f σ Φ w a h hi hr hd hs
  have hFo : F = Fence.wide ∨ ∃ l0, F = Fence.wide.inRound l0 ∧ ∀ c, o.op ≠ .defer c := hF.imp id fun ⟨l0, e, q⟩ => ⟨l0, e, q o (by simp)⟩
  have h : sop P o f σ fun v σ' => Q .normal (mput f o.dst v) σ' := h
  simp only [List.nil_append]
  have h' : mguard ops f o (sop P o f σ fun v σ' => Q .normal (mput f o.dst v) σ') False := by unfold mguard; rw [hg]; exact h
  unfold wpListIn
  rcases mguard_sound h' hr with ⟨hw, hy⟩ | ⟨hw, hn⟩
  ·rw [if_pos hw]
   refine wpIn_of_wp hFo ?_
   exact h Φ w a _ _ hi hr (fun v mv σ' Φ' w' r1 i1 s1 hk => ⟨mput f o.dst mv, σ', Φ', by rw [put_defers', mput_d]; exact hd.step hi s1, rels_put (hr.mono s1.le) o.dst r1, i1, hs.trans s1, hk⟩)
  ·exact hn.elim
 | cons x rest ih =>
  intro hF hg Q Φ0 σ0 w0 f σ Φ w a h hi hr hd hs
  have hFr : F = Fence.wide ∨ ∃ l0, F = Fence.wide.inRound l0 ∧ ∀ y, y ∈ rest ++ [o] → ∀ c, y.op ≠ .defer c := hF.imp id fun ⟨l0, e, q⟩ => ⟨l0, e, fun y ho => q y (by simp at ho ⊢; exact .inr ho)⟩
  have hFo : F = Fence.wide ∨ ∃ l0, F = Fence.wide.inRound l0 ∧ ∀ c, x.op ≠ .defer c := hF.imp id fun ⟨l0, e, q⟩ => ⟨l0, e, q x (by simp)⟩
  have hfn : ∀ g, F.fn g := fun g => by rcases hF with rfl | ⟨l, rfl, _⟩ <;> trivial
  simp only [mops] at h
  simp only [List.cons_append]
  unfold wpListIn
  rcases mguard_sound h hr with ⟨hw, hy⟩ | ⟨hw, hn⟩
  ·rw [if_pos hw]
   refine wpIn_of_wp hFo ?_
   by_cases hdef : ∃ c, x.op = .defer c
   ·obtain ⟨c, hc⟩ := hdef
    rw [hc] at hy
    have hy : mdefer f c fun f' => mops P ops (fun f σ => sop P o f σ fun v σ' => Q .normal (mput f o.dst v) σ') rest (mput f' x.dst .junk) σ := hy
    obtain ⟨d, f', h1, h2, h3, h4⟩ := mdefer_sound (P := P) (w := w) hc hy hr hd
    unfold Oper.wp
    rw [h1]
    refine ih hFr hg _ _ Φ w _ h4 hi (rels_put (a := { a with defers := d :: a.defers }) h2 x.dst (.junk _)) ?_ hs
    rw [put_defers', mput_d]
    exact h3
   ·exact mstep_sound (fun c hc => hdef ⟨c, hc⟩) hy Φ w a _ _ hi hr (fun v mv σ' Φ' w' r1 i1 s1 hk => ih hFr hg _ _ Φ' w' (a.put x.dst v) hk i1 (rels_put (hr.mono s1.le) x.dst r1) (by rw [put_defers', mput_d]; exact hd.step hi s1) (hs.trans s1))
  ·rw [if_neg (by simp [hw])]
   exact ⟨fun f _ => hfn f, ih hFr hg _ _ Φ w (a.put x.dst undef) hn hi (rels_put hr x.dst rel_undef) (by rw [put_defers', mput_d]; exact hd) hs⟩
theorem mwp_region_last {P : Program} {id : Nat} {ops : Array Oper} {f : FR} {σ : St} {Q : MQ} (l : List Oper) (o : Oper) (he : ops.toList = l ++ [o]) (hg : o.guard = none)
  (h : mops P ops (fun f σ => sop P o f σ fun v σ' => Q .normal (mput f o.dst v) σ') l f σ) : mwp P (.region id ops false) f σ Q :=
 fun F hF Φ w a hi hr hd => wpIn_region_list (by
  rw [he]
  refine mops_last o l ?_ hg f σ Φ w a h hi hr hd (.refl _ _ _)
  have := hF.ops
  rw [he] at this
  exact this)
theorem sop_copy {P : Program} {o : Oper} {f : FR} {σ : St} {k : MV → St → Prop} {t xt el : TypeId} {x y : Operand} (ho : o.op = .call { callee := .builtin .copy, args := #[x, y], argTypes := #[t, xt] }) (ht : (td P t).k = .slice el) (hz : (td P el).ok = true)
  {l l0 n : Nat} {tt : TypeId} {xs ys : List (List MV)} (hx : mval f x = .vec (td P el).size l l0 n) (hsl : σ l = some (.row tt (td P el).size xs)) (hfit : l0 + n ≤ xs.length) (hy : msrc σ (td P el).size (mval f y) = some ys) (hyn : ys.length ≤ n) (h0 : 0 < ys.length)
  (hk : k (.int .i64 (ys.length : Int)) (σ.set l (.row tt (td P el).size (rowLaid xs l0 ys)))) : sop P o f σ k := by
 intro Φ w ac K Q' hi hr hK
 obtain ⟨arr, harr, hrel, hyl⟩ := msrc_sound (P := P) hy hi (rel_mval hr y)
 have rx := rel_mval hr x
 rw [hx] at rx
 generalize hv : ac.eval x = vx at rx
 obtain ⟨ad, cap, p, rfl, hp, hpe, hcap, hncap, hR⟩ := rx.inv_vec
 have hop : ∀ r w', (Builtin.copy_ #[t, xt] o.type #[.slice ad n cap, ac.eval y]).run P w = .ok r w' → (execOp ac.eval o).run P w = .ok (.value r) w' := fun r w' h => by
  unfold execOp
  simp only [ho, resolve, List.map_toArray, List.map_cons, List.map_nil, hv, Sem.run_bind, Sem.run_pure, Result.andThen_ok, invoke]
  show Sem.run P (do pure (Next.value (← Builtin.copy_ #[t, xt] o.type #[.slice ad n cap, ac.eval y]))) w = _
  simp only [Sem.run_bind, h, Result.andThen_ok, Sem.run_pure]
 rcases hR with ⟨R, hb, rfl⟩ | hcap0
 ·obtain ⟨p', hp', hpe', q1, q2, q3, q4⟩ := hi.own l _ hsl
  rw [hp] at hp'; cases hp'
  rw [hb] at q4
  obtain ⟨c, fz, k1, -⟩ := q4
  obtain ⟨r1, r2, i1, s1⟩ := row_laid hi hsl (i0 := l0) (ys := ys) (by omega) hyl hrel hp hb k1
  refine wp_value (hop (.int .i64 (ys.length : Int)) _ ?_) (hK _ _ _ Φ _ (.int _ _) i1 s1 hk)
  unfold Builtin.copy_
  simp only [List.getElem?_toArray, List.getElem?_cons_zero, List.getElem?_cons_succ, Sem.run_bind, run_und' (und_slice ht), Result.andThen_ok, (harr w rfl).1, run_sizeOf' hz, show Nat.min ys.length n = ys.length from Nat.min_eq_left hyn, (harr w rfl).2]
  rw [hpe, run_storeCells' (P := P) _ 0 c w k1 r1 (by simpa using r2) hrel.oneCells]
  rfl
 ·omega
theorem sop_copy0 {P : Program} {o : Oper} {f : FR} {σ : St} {k : MV → St → Prop} {t xt el : TypeId} {x y : Operand} (ho : o.op = .call { callee := .builtin .copy, args := #[x, y], argTypes := #[t, xt] }) (ht : (td P t).k = .slice el) (hz : (td P el).ok = true)
  {l l0 n : Nat} (hx : mval f x = .vec (td P el).size l l0 n) (hy : msrc σ (td P el).size (mval f y) = some [])
  (hk : k (.int .i64 0) σ) : sop P o f σ k := by
 intro Φ w ac K Q' hi hr hK
 obtain ⟨arr, harr, hrel, hyl⟩ := msrc_sound (P := P) hy hi (rel_mval hr y)
 have ha : arr = #[] := by have := hrel.1; simpa using this
 subst ha
 have rx := rel_mval hr x
 rw [hx] at rx
 generalize hv : ac.eval x = vx at rx
 obtain ⟨ad, cap, p, rfl, hp, hpe, hcap, hncap, hR⟩ := rx.inv_vec
 have hop : ∀ r w', (Builtin.copy_ #[t, xt] o.type #[.slice ad n cap, ac.eval y]).run P w = .ok r w' → (execOp ac.eval o).run P w = .ok (.value r) w' := fun r w' h => by
  unfold execOp
  simp only [ho, resolve, List.map_toArray, List.map_cons, List.map_nil, hv, Sem.run_bind, Sem.run_pure, Result.andThen_ok, invoke]
  show Sem.run P (do pure (Next.value (← Builtin.copy_ #[t, xt] o.type #[.slice ad n cap, ac.eval y]))) w = _
  simp only [Sem.run_bind, h, Result.andThen_ok, Sem.run_pure]
 refine wp_value (hop (.int .i64 0) w ?_) (hK _ _ _ Φ w (.int _ _) hi (.refl _ _ _) hk)
 have h1 := (harr w rfl).1
 have h2 := (harr w rfl).2
 simp only [List.length_nil] at h1 h2
 unfold Builtin.copy_
 simp only [List.getElem?_toArray, List.getElem?_cons_zero, List.getElem?_cons_succ, Sem.run_bind, run_und' (und_slice ht), Result.andThen_ok, h1, run_sizeOf' hz, show Nat.min 0 n = 0 from Nat.min_eq_left (Nat.zero_le _), h2]
 cases ad with
 | none => rfl
 | some a => rfl
end Go.Proofs.YtfbodefnblpflaaGreatDoor
end

section
namespace Go.Proofs.YtfbodefnblpflaaGreatDoor
open Go.ChangeShapes Go.WideShapes Go.RowKit
section
variable {H : Type} {enc : TypeId × Value → H}
theorem law_lift_laid {C : Checked} {os : Os} {g : FuncId} {fn : Func} {s : ChangeSpec} {conds : List PathCond} {apart fresh handsOn again : Bool} {tb : TypeId} {n : Nat} {laid : List (String × DataW Unit)}
  (hvars : s.vars = []) (hs : ∀ (H : Type) (ds : List (DataW H)), ds.length = fn.params.size → s.fn H ds = { results := [.lit (.bool true)], args := ds })
  (hres : fn.resultTypes = #[tb]) (htb : C.prog.underlying tb = some .bool) (hl : laidOutB C.prog = true) (hr : ∀ t, t ∈ fn.params.toList → C.prog.readableRec t = true ∧ t < C.prog.types.size)
  (hshp : ∀ t, t ∈ fn.params.toList → shp C.prog n t = true) (hG : ∀ W, laidMetH C.prog laid W → GTok W)
  (own : ownKnob C.prog.godebug = none) (started : os.Started) (noInit : C.prog.inits.idxOf? g = none) (hfn : C.prog.funcs[g]? = some fn)
  (witness : ∃ (w : World) (tape : Tape) (i : Input), w.os = os ∧ (w.forCall tape i).Shaped C.prog ∧ i.vars = [] ∧ Input.okWide C.prog (w.forCall tape i) .any w.heap.size g i ∧
   ((s.pre enc C.prog fn conds apart (w.forCall tape i).memory i.args ∧ laidMetH C.prog laid (w.forCall tape i).memory) ∧ sizedMet enc C.prog fn (OpenSpec.ofChange s) apart (w.forCall tape i).memory i.args) ∧ ({} : Assume).holds C.prog (lone (Frame.enter C.prog g i.args .normal) [] (w.forCall tape i)))
  (h : ∀ ms, ATs C.prog n fn.params.toList ms → MCalls C.prog g ms St.none fun r _ => r = .bool true) :
  ReturnsInHanded {} C os g .any (fun w args => (s.pre enc C.prog fn conds apart w args ∧ laidMetH C.prog laid w) ∧ sizedMet enc C.prog fn (OpenSpec.ofChange s) apart w args) (s.post enc C.prog fn apart fresh handsOn again) := by
 refine returnsInHanded_of_change_and (X := fun w _ => laidMetH C.prog laid w) (fun _ _ _ hh h => h.of_heap hh) own started noInit hfn witness ?_
 intro W base args ds gs before hval hW _ _ hX _
 obtain ⟨p, q, hA, _⟩ := id hW
 obtain ⟨ms, e, hrel, hat⟩ := args_open (n := n) (base := base) hshp (fun j t v p q => hval j t v (by simpa using p) (by simpa using q)) hA
 have hrels : Rels (phi0 W) args ms := ⟨by simpa using e, fun i m hm => by
  have hi : i < args.size := by
   have := (List.getElem?_eq_some_iff.1 hm).1
   simp at e; omega
  exact hrel i _ m (by simp [Array.getD, hi]) hm⟩
 refine ((h ms hat).2 (phi0 W) W args (inv0 W (hG W hX)) hrels).mono fun e' W' ⟨v, mv, σ', Φ', he, hv, hi, hst, hq⟩ => ?_
 subst hq
 cases hv
 refine ⟨_, he, law_post hvars hs hres htb hl hr hW hst.os hst.output fun k hk => hst.block k hk ?_⟩
 rintro ⟨l, o, p, h1, _⟩
 simp [St.none] at h1
end
end Go.Proofs.YtfbodefnblpflaaGreatDoor
end
