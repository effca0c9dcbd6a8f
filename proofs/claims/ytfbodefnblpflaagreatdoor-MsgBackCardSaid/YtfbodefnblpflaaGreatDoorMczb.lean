/- Parts of the proof, joined. Each part says what it proves, and under which conditions it does: those that its theorems name. -/
import Derived.Test.YtfbodefnblpflaaGreatDoorMcza
set_option linter.unusedVariables false
set_option linter.unusedSimpArgs false
set_option maxHeartbeats 4000000
namespace Go.Proofs.YtfbodefnblpflaaGreatDoor
set_option maxRecDepth 100000
set_option maxHeartbeats 4000000
def lastI (l : List IT) (i : Nat) : Int := if i = 0 then 0 else (l.getD (i - 1) it0).c.id
theorem itOk_range {last : Int} {x : IT} (h : ¬ (last < x.c.id ∧ 1 ≤ x.c.id ∧ x.c.id < 1073741824)) : itOk last x = false := by
 unfold itOk idMax
 rw [decide_eq_false h, Bool.false_and]
theorem itOk_kind {last : Int} {x : IT} (h : last < x.c.id ∧ 1 ≤ x.c.id ∧ x.c.id < 1073741824) : itOk last x = if x.kd = 1 ∨ x.kd = 3 then cardOk x.c else if x.kd = 2 then decide (x.c = { ca0 with id := x.c.id }) else false := by
 unfold itOk idMax
 rw [decide_eq_true h, Bool.true_and]
theorem rcitems_call (l : List IT) (tt : Bool) (hl : l.length ≤ 1000000) : MCalls Tryz.prog 84 [.lst 28 (IT.ks l) tt] St.none (fun r _ => r = .bool (itemsOk 0 l)) := by
 refine MCalls.drops (MCalls.body 58 [.tmp 2] Tryz.func84 rfl rfl rfl rfl ?_)
 repeat' (first | (with_reducible first | (refine wN fun _ hnl => ?_; revert hnl; (repeat refine wS fun _ _ => ?_); intro hnl) | refine wE ?_ | (refine wK ?_ ?_ <;> intro h) | (refine wB ?_ ?_ <;> intro h <;> simp only [h])) | simp (maxSteps := 4000000) (disch := first | decide | assumption | omega | (simp only [wL]; omega)) only [go_sem, simprocAttr, Tryz.f84])
 refine mloop_intro (α := Nat) (fun i => ⟨58, [(3, .int .i64 (i : Int)), (0, .lst 28 (IT.ks l) tt)], []⟩) (fun _ => St.none) (fun i => i ≤ l.length ∧ itemsOk 0 l = itemsOk (lastI l i) (l.drop i)) (fun i => l.length - i) (.of (.less ?_ (St.le_refl _)) ⟨0, rfl, rfl, Nat.zero_le _, rfl⟩) ?_
 ·simp (maxSteps := 4000000) (disch := first | decide | assumption | omega | (simp only [wL]; omega)) only [go_sem, simprocAttr, weak_int, weak_same]
  all_goals rfl
 ·rintro i ⟨hi, hq⟩
  by_cases hlt : i < l.length
  ·rw [drop_getD it0 hlt, itemsOk] at hq
   have hnext : lastI l (i + 1) = (l.getD i it0).c.id := by unfold lastI; rw [if_neg (by omega)]; rfl
   have hl0 : i = 0 → lastI l i = 0 := fun h => if_pos h
   have hl1 : 0 < i → (l.getD (i - 1) it0).c.id = lastI l i := fun h => (if_neg (by omega)).symm
   obtain ⟨x, hx⟩ : ∃ x, l.getD i it0 = x := ⟨_, rfl⟩
   obtain ⟨last, hlast⟩ : ∃ k, lastI l i = k := ⟨_, rfl⟩
   obtain ⟨y, hy⟩ : ∃ y, l.getD (i - 1) it0 = y := ⟨_, rfl⟩
   rw [hx] at hnext hq
   rw [hlast] at hq hl0 hl1
   rw [hy] at hl1
   obtain ⟨res, hres⟩ : ∃ b, itemsOk 0 l = b := ⟨_, rfl⟩
   have hto : ((i : Int) - 1).toNat = i - 1 := by omega
   have hc := rccheck_call x.c
   have hm : mbin Tryz.prog 117 .neq (.agg x.c.c) (.agg (.int .i64 x.c.id :: .int .i64 0 :: .int .u32 0 :: fc f80)) = some (True, .bool (!decide (x.c = { ca0 with id := x.c.id }))) := mbn_card x.c { ca0 with id := x.c.id }
   by_cases hr : last < x.c.id ∧ 1 ≤ x.c.id ∧ x.c.id < 1073741824
   ·have hk := itOk_kind hr
    rw [hk] at hq
    obtain ⟨hr1, hr2, hr3⟩ := hr
    clear hk
    by_cases hk1 : x.kd = 1 ∨ x.kd = 3
    ·rw [if_pos hk1] at hq
     cases hb : cardOk x.c <;> rw [hb] at hc hq
     ·rw [hq, Bool.false_and]
      clear hm hq hres
      rcases Nat.eq_zero_or_pos i with hi0 | hi0
      all_goals
       repeat' (first | (with_reducible first | refine up hc ?_) | (with_reducible first | (refine wN fun _ hnl => ?_; revert hnl; (repeat refine wS fun _ _ => ?_); intro hnl) | refine wE ?_ | (refine wK ?_ ?_ <;> intro h) | (refine wB ?_ ?_ <;> intro h <;> simp only [h])) | simp (maxSteps := 4000000) (disch := first | decide | assumption | omega | (simp only [wL]; omega)) only [go_sem, simprocAttr, FXs, getD_mapd it0, hx, hy, hto])
       all_goals (first | exact ⟨_, St.le_refl _, rfl⟩ | exact ⟨_, St.le_refl _⟩ | (exfalso; omega) | skip)
     ·rw [Bool.true_and] at hq
      rw [hres] at hq ⊢
      rcases Nat.eq_zero_or_pos i with hi0 | hi0
      all_goals
       repeat' (first | (with_reducible first | refine up hc ?_) | (with_reducible first | (refine wN fun _ hnl => ?_; revert hnl; (repeat refine wS fun _ _ => ?_); intro hnl) | refine wE ?_ | (refine wK ?_ ?_ <;> intro h) | (refine wB ?_ ?_ <;> intro h <;> simp only [h])) | simp (maxSteps := 4000000) (disch := first | decide | assumption | omega | (simp only [wL]; omega)) only [go_sem, simprocAttr, FXs, getD_mapd it0, hx, hy, hto])
       all_goals (try (exfalso; omega))
       all_goals
        refine .of (.less ?_ (St.none_le _)) ⟨i + 1, rfl, rfl, ⟨by omega, by rw [hnext]; exact hq⟩, by omega⟩
        simp (maxSteps := 4000000) (disch := first | decide | assumption | omega | (simp only [wL]; omega)) only [go_sem, simprocAttr, weak_int, weak_same]
        all_goals rfl
    ·rw [if_neg hk1] at hq
     by_cases hk2 : x.kd = 2
     ·rw [if_pos hk2] at hq
      obtain ⟨b, hb⟩ : ∃ b, decide (x.c = { ca0 with id := x.c.id }) = b := ⟨_, rfl⟩
      rw [hb] at hm hq
      cases b
      ·rw [hq, Bool.false_and]
       clear hq hres
       rcases Nat.eq_zero_or_pos i with hi0 | hi0
       all_goals
        repeat' (first | (with_reducible first | refine up hc ?_) | (with_reducible first | (refine wN fun _ hnl => ?_; revert hnl; (repeat refine wS fun _ _ => ?_); intro hnl) | refine wE ?_ | (refine wK ?_ ?_ <;> intro h) | (refine wB ?_ ?_ <;> intro h <;> simp only [h])) | simp (maxSteps := 4000000) (disch := first | decide | assumption | omega | (simp only [wL]; omega)) only [go_sem, simprocAttr, FXs, getD_mapd it0, hx, hy, hto, hm])
        all_goals (first | exact ⟨_, St.le_refl _, rfl⟩ | exact ⟨_, St.le_refl _⟩ | (exfalso; omega) | skip)
      ·rw [Bool.true_and] at hq
       rw [hres] at hq ⊢
       rcases Nat.eq_zero_or_pos i with hi0 | hi0
       all_goals
        repeat' (first | (with_reducible first | refine up hc ?_) | (with_reducible first | (refine wN fun _ hnl => ?_; revert hnl; (repeat refine wS fun _ _ => ?_); intro hnl) | refine wE ?_ | (refine wK ?_ ?_ <;> intro h) | (refine wB ?_ ?_ <;> intro h <;> simp only [h])) | simp (maxSteps := 4000000) (disch := first | decide | assumption | omega | (simp only [wL]; omega)) only [go_sem, simprocAttr, FXs, getD_mapd it0, hx, hy, hto, hm])
        all_goals (try (exfalso; omega))
        all_goals
         refine .of (.less ?_ (St.none_le _)) ⟨i + 1, rfl, rfl, ⟨by omega, by rw [hnext]; exact hq⟩, by omega⟩
         simp (maxSteps := 4000000) (disch := first | decide | assumption | omega | (simp only [wL]; omega)) only [go_sem, simprocAttr, weak_int, weak_same]
         all_goals rfl
     ·rw [if_neg hk2, Bool.false_and] at hq
      rw [hq]
      clear hq hres hm
      rcases Nat.eq_zero_or_pos i with hi0 | hi0
      all_goals
       repeat' (first | (with_reducible first | refine up hc ?_) | (with_reducible first | (refine wN fun _ hnl => ?_; revert hnl; (repeat refine wS fun _ _ => ?_); intro hnl) | refine wE ?_ | (refine wK ?_ ?_ <;> intro h) | (refine wB ?_ ?_ <;> intro h <;> simp only [h])) | simp (maxSteps := 4000000) (disch := first | decide | assumption | omega | (simp only [wL]; omega)) only [go_sem, simprocAttr, FXs, getD_mapd it0, hx, hy, hto])
       all_goals (first | exact ⟨_, St.le_refl _, rfl⟩ | exact ⟨_, St.le_refl _⟩ | (exfalso; omega) | skip)
   ·rw [itOk_range hr, Bool.false_and] at hq
    rw [hq]
    clear hq hres hm
    rcases Nat.eq_zero_or_pos i with hi0 | hi0
    all_goals
     repeat' (first | (with_reducible first | refine up hc ?_) | (with_reducible first | (refine wN fun _ hnl => ?_; revert hnl; (repeat refine wS fun _ _ => ?_); intro hnl) | refine wE ?_ | (refine wK ?_ ?_ <;> intro h) | (refine wB ?_ ?_ <;> intro h <;> simp only [h])) | simp (maxSteps := 4000000) (disch := first | decide | assumption | omega | (simp only [wL]; omega)) only [go_sem, simprocAttr, FXs, getD_mapd it0, hx, hy, hto])
     all_goals (first | exact ⟨_, St.le_refl _, rfl⟩ | exact ⟨_, St.le_refl _⟩ | (exfalso; omega) | skip)
  ·have : i = l.length := by omega
   subst this
   rw [List.drop_length, itemsOk] at hq
   rw [hq]
   repeat' (first | (with_reducible first | (refine wN fun _ hnl => ?_; revert hnl; (repeat refine wS fun _ _ => ?_); intro hnl) | refine wE ?_ | (refine wK ?_ ?_ <;> intro h) | (refine wB ?_ ?_ <;> intro h <;> simp only [h])) | simp (maxSteps := 4000000) (disch := first | decide | assumption | omega | (simp only [wL]; omega)) only [go_sem, simprocAttr])
   all_goals first | exact ⟨_, St.le_refl _, rfl⟩ | exact ⟨_, St.le_refl _⟩
theorem isame_call (a b : List IT) (ta tb : Bool) (hl : a.length ≤ 1000000) : MCalls Tryz.prog 88 [.lst 28 (IT.ks a) ta, .lst 28 (IT.ks b) tb] St.none (fun r _ => r = .bool (decide (a = b))) := by
 refine (MCalls.body 26 [.tmp 4] Tryz.func88 rfl rfl rfl rfl ?_)
 by_cases hlen : a.length = b.length
 ·repeat' (first | (with_reducible first | (refine wN fun _ hnl => ?_; revert hnl; (repeat refine wS fun _ _ => ?_); intro hnl) | refine wE ?_ | (refine wK ?_ ?_ <;> intro h) | (refine wB ?_ ?_ <;> intro h <;> simp only [h])) | simp (maxSteps := 4000000) (disch := first | decide | assumption | omega | (simp only [wL]; omega)) only [go_sem, simprocAttr, Tryz.f88])
  refine mloop_intro (α := Nat) (fun i => ⟨26, [(5, .int .i64 (i : Int)), (0, .lst 28 (IT.ks a) ta), (1, .lst 28 (IT.ks b) tb)], []⟩) (fun _ => St.none) (fun i => i ≤ a.length ∧ a.take i = b.take i) (fun i => a.length - i) (.of (.less ?_ (St.le_refl _)) ⟨0, rfl, rfl, Nat.zero_le _, rfl⟩) ?_
  ·simp (maxSteps := 4000000) (disch := first | decide | assumption | omega | (simp only [wL]; omega)) only [go_sem, simprocAttr, weak_int, weak_same]
   all_goals rfl
  ·rintro i ⟨hi, hq⟩
   by_cases hlt : i < a.length
   ·have hm := mbn_item (a.getD i it0) (b.getD i it0)
    have hsa := List.take_succ_eq_append_getElem (l := a) hlt
    have hib : i < b.length := by omega
    have hsb := List.take_succ_eq_append_getElem (l := b) hib
    rw [← getD_of_lt it0 hlt] at hsa
    rw [← getD_of_lt it0 hib] at hsb
    obtain ⟨x, hx⟩ : ∃ x, a.getD i it0 = x := ⟨_, rfl⟩
    obtain ⟨y, hy⟩ : ∃ y, b.getD i it0 = y := ⟨_, rfl⟩
    rw [hx] at hm hsa
    rw [hy] at hm hsb
    by_cases he : x = y
    ·rw [decide_eq_true he] at hm
     repeat' (first | (with_reducible first | (refine wN fun _ hnl => ?_; revert hnl; (repeat refine wS fun _ _ => ?_); intro hnl) | refine wE ?_ | (refine wK ?_ ?_ <;> intro h) | (refine wB ?_ ?_ <;> intro h <;> simp only [h])) | simp (maxSteps := 4000000) (disch := first | decide | assumption | omega | (simp only [wL]; omega)) only [go_sem, simprocAttr, FXs, getD_mapd it0, hx, hy, hm])
     refine .of (.less ?_ (St.le_refl _)) ⟨i + 1, rfl, rfl, ⟨by omega, by rw [hsa, hsb, hq, he]⟩, by omega⟩
     simp (maxSteps := 4000000) (disch := first | decide | assumption | omega | (simp only [wL]; omega)) only [go_sem, simprocAttr, weak_int, weak_same]
     all_goals rfl
    ·rw [decide_eq_false he] at hm
     have hne : ¬ a = b := fun e => he (by rw [← hx, ← hy, e])
     rw [decide_eq_false hne]
     repeat' (first | (with_reducible first | (refine wN fun _ hnl => ?_; revert hnl; (repeat refine wS fun _ _ => ?_); intro hnl) | refine wE ?_ | (refine wK ?_ ?_ <;> intro h) | (refine wB ?_ ?_ <;> intro h <;> simp only [h])) | simp (maxSteps := 4000000) (disch := first | decide | assumption | omega | (simp only [wL]; omega)) only [go_sem, simprocAttr, FXs, getD_mapd it0, hx, hy, hm])
     all_goals done
   ·have : i = a.length := by omega
    subst this
    rw [List.take_length, hlen, List.take_length] at hq
    rw [decide_eq_true hq]
    repeat' (first | (with_reducible first | (refine wN fun _ hnl => ?_; revert hnl; (repeat refine wS fun _ _ => ?_); intro hnl) | refine wE ?_ | (refine wK ?_ ?_ <;> intro h) | (refine wB ?_ ?_ <;> intro h <;> simp only [h])) | simp (maxSteps := 4000000) (disch := first | decide | assumption | omega | (simp only [wL]; omega)) only [go_sem, simprocAttr])
    all_goals done
 ·rw [decide_eq_false fun e => hlen (by rw [e])]
  repeat' (first | (with_reducible first | (refine wN fun _ hnl => ?_; revert hnl; (repeat refine wS fun _ _ => ?_); intro hnl) | refine wE ?_ | (refine wK ?_ ?_ <;> intro h) | (refine wB ?_ ?_ <;> intro h <;> simp only [h])) | simp (maxSteps := 4000000) (disch := first | decide | assumption | omega | (simp only [wL]; omega)) only [go_sem, simprocAttr, Tryz.f88])
  all_goals (first | rfl | (exfalso; omega))
end Go.Proofs.YtfbodefnblpflaaGreatDoor
