/- Parts of the proof, joined: each part says what it proves, and under which conditions. -/
import Derived.Test.YtfbodefnblpflaaGreatDoorMae
import Derived.OpenShut
import Derived.ChangeSame
import Derived.Carry
import Derived.RowKit
import Derived.JoinedOf
import Derived.JoinedAt
section
/- Contracts of the document's items: which may be, whether two lists are alike, how one is read: the conditions that the theorems name. -/
set_option linter.unusedVariables false
set_option linter.unusedSimpArgs false
namespace Go.Proofs.YtfbodefnblpflaaGreatDoor
set_option maxRecDepth 100000
set_option maxHeartbeats 4000000
def lastI (l : List IT) (i : Nat) : Int := if i = 0 then 0 else (l.getD (i - 1) it0).c.id
theorem itOk_range {last : Int} {x : IT} (h : ¬ (last < x.c.id ∧ 1 ≤ x.c.id ∧ x.c.id < 1073741824)) : itOk last x = false := by
  unfold itOk idMax
  rw [decide_eq_false h, Bool.false_and]
theorem itOk_kind {last : Int} {x : IT} (h : last < x.c.id ∧ 1 ≤ x.c.id ∧ x.c.id < 1073741824) : itOk last x = if x.kd = 1 ∨ x.kd = 3 then cardOk x.c else if x.kd = 2 then decide (x.c = { ca0 with id := x.c.id }) else false := by
  unfold itOk idMax
  rw [decide_eq_true h, Bool.true_and]
theorem rcitems_call (l : List IT) (tt : Bool) (hl : l.length ≤ 1000000) : MCalls Tryz.prog 84 [.lst 28 (IT.ks l) tt] St.none (fun r _ => r = .bool (itemsOk 0 l)) := by
  refine MCalls.drops (MCalls.body 58 [.tmp 2] Tryz.func84 rfl rfl rfl rfl ?_)
  repeat' (first | (with_reducible first | (refine wT ?_; refine wN fun _ hnl => ?_; revert hnl; (repeat refine wS fun _ _ => ?_); intro hnl) | refine wD (by decide +kernel) ?_ | refine wI (fun h => ?_) fun h => ?_ | refine wF (fun h => ?_) fun h => ?_ | refine wG (fun h => ?_) fun h => ?_ | refine wH (fun h => ?_) fun h => ?_ | ((first | refine mfork_bool (fun h => ?_) fun h => ?_ | refine mgfork_bool (fun h => ?_) fun h => ?_) <;> simp only [h])) | simp (maxSteps := 4000000) (disch := first | decide | assumption | omega | (simp only [wL]; omega)) only [go_sem, simprocAttr, Tryz.f84])
  refine mloop_intro (α := Nat) (fun i => ⟨58, [(3, .int .i64 (i : Int)), (0, .lst 28 (IT.ks l) tt)], []⟩) (fun _ => St.none) (fun i => i ≤ l.length ∧ itemsOk 0 l = itemsOk (lastI l i) (l.drop i)) (fun i => l.length - i) (.of (.less ?_ (St.le_refl _)) ⟨0, rfl, rfl, Nat.zero_le _, rfl⟩) ?_
  · simp (maxSteps := 4000000) (disch := first | decide | assumption | omega | (simp only [wL]; omega)) only [go_sem, simprocAttr, weak_int, weak_same]
    all_goals rfl
  · rintro i ⟨hi, hq⟩
    by_cases hlt : i < l.length
    · rw [drop_getD it0 hlt, itemsOk] at hq
      have hnext : lastI l (i + 1) = (l.getD i it0).c.id := by unfold lastI; rw [if_neg (by omega)]; rfl
      have hl0 : i = 0 → lastI l i = 0 := fun h => if_pos h
      have hl1 : 0 < i → (l.getD (i - 1) it0).c.id = lastI l i := fun h => (if_neg (by omega)).symm
      obtain ⟨x, hx⟩ : ∃ x, l.getD i it0 = x := ⟨_, rfl⟩
      obtain ⟨last, hlast⟩ : ∃ k, lastI l i = k := ⟨_, rfl⟩
      obtain ⟨y, hy⟩ : ∃ y, l.getD (i - 1) it0 = y := ⟨_, rfl⟩
      rw [hx] at hnext hq
      rw [hlast] at hq hl0 hl1
      rw [hy] at hl1
      obtain ⟨res, hres⟩ : ∃ b, itemsOk 0 l = b := ⟨_, rfl⟩
      have hto : ((i : Int) - 1).toNat = i - 1 := by omega
      have hc := rccheck_call x.c
      have hm : mbin Tryz.prog 117 .neq (.agg x.c.c) (.agg (.int .i64 x.c.id :: .int .i64 0 :: .int .u32 0 :: fc f80)) = some (True, .bool (!decide (x.c = { ca0 with id := x.c.id }))) := mbn_card x.c { ca0 with id := x.c.id }
      by_cases hr : last < x.c.id ∧ 1 ≤ x.c.id ∧ x.c.id < 1073741824
      · have hk := itOk_kind hr
        rw [hk] at hq
        obtain ⟨hr1, hr2, hr3⟩ := hr
        clear hk
        by_cases hk1 : x.kd = 1 ∨ x.kd = 3
        · rw [if_pos hk1] at hq
          cases hb : cardOk x.c <;> rw [hb] at hc hq
          · rw [hq, Bool.false_and]
            clear hm hq hres
            rcases Nat.eq_zero_or_pos i with hi0 | hi0
            all_goals
              repeat' (first | (with_reducible first | refine up hc ?_) | (with_reducible first | (refine wT ?_; refine wN fun _ hnl => ?_; revert hnl; (repeat refine wS fun _ _ => ?_); intro hnl) | refine wD (by decide +kernel) ?_ | refine wI (fun h => ?_) fun h => ?_ | refine wF (fun h => ?_) fun h => ?_ | refine wG (fun h => ?_) fun h => ?_ | refine wH (fun h => ?_) fun h => ?_ | ((first | refine mfork_bool (fun h => ?_) fun h => ?_ | refine mgfork_bool (fun h => ?_) fun h => ?_) <;> simp only [h])) | simp (maxSteps := 4000000) (disch := first | decide | assumption | omega | (simp only [wL]; omega)) only [go_sem, simprocAttr, fc_zero, fc_len, fc_cell, fc_take, fc_take', fc_drop, fc_drop', fc_getD, drop_two, drop_three, take_two, take_three, getD_two, getD_three, fc_at, fc_at_app, fc_get0, fc_get1, fc_get2, fc_fold, F8.get_hit, getD_mapd it0, hx, hy, hto])
              all_goals (first | exact ⟨_, St.le_refl _, rfl⟩ | exact ⟨_, St.le_refl _⟩ | (exfalso; omega) | skip)
          · rw [Bool.true_and] at hq
            rw [hres] at hq ⊢
            rcases Nat.eq_zero_or_pos i with hi0 | hi0
            all_goals
              repeat' (first | (with_reducible first | refine up hc ?_) | (with_reducible first | (refine wT ?_; refine wN fun _ hnl => ?_; revert hnl; (repeat refine wS fun _ _ => ?_); intro hnl) | refine wD (by decide +kernel) ?_ | refine wI (fun h => ?_) fun h => ?_ | refine wF (fun h => ?_) fun h => ?_ | refine wG (fun h => ?_) fun h => ?_ | refine wH (fun h => ?_) fun h => ?_ | ((first | refine mfork_bool (fun h => ?_) fun h => ?_ | refine mgfork_bool (fun h => ?_) fun h => ?_) <;> simp only [h])) | simp (maxSteps := 4000000) (disch := first | decide | assumption | omega | (simp only [wL]; omega)) only [go_sem, simprocAttr, fc_zero, fc_len, fc_cell, fc_take, fc_take', fc_drop, fc_drop', fc_getD, drop_two, drop_three, take_two, take_three, getD_two, getD_three, fc_at, fc_at_app, fc_get0, fc_get1, fc_get2, fc_fold, F8.get_hit, getD_mapd it0, hx, hy, hto])
              all_goals (try (exfalso; omega))
              all_goals
                refine .of (.less ?_ (St.none_le _)) ⟨i + 1, rfl, rfl, ⟨by omega, by rw [hnext]; exact hq⟩, by omega⟩
                simp (maxSteps := 4000000) (disch := first | decide | assumption | omega | (simp only [wL]; omega)) only [go_sem, simprocAttr, weak_int, weak_same]
                all_goals rfl
        · rw [if_neg hk1] at hq
          by_cases hk2 : x.kd = 2
          · rw [if_pos hk2] at hq
            obtain ⟨b, hb⟩ : ∃ b, decide (x.c = { ca0 with id := x.c.id }) = b := ⟨_, rfl⟩
            rw [hb] at hm hq
            cases b
            · rw [hq, Bool.false_and]
              clear hq hres
              rcases Nat.eq_zero_or_pos i with hi0 | hi0
              all_goals
                repeat' (first | (with_reducible first | refine up hc ?_) | (with_reducible first | (refine wT ?_; refine wN fun _ hnl => ?_; revert hnl; (repeat refine wS fun _ _ => ?_); intro hnl) | refine wD (by decide +kernel) ?_ | refine wI (fun h => ?_) fun h => ?_ | refine wF (fun h => ?_) fun h => ?_ | refine wG (fun h => ?_) fun h => ?_ | refine wH (fun h => ?_) fun h => ?_ | ((first | refine mfork_bool (fun h => ?_) fun h => ?_ | refine mgfork_bool (fun h => ?_) fun h => ?_) <;> simp only [h])) | simp (maxSteps := 4000000) (disch := first | decide | assumption | omega | (simp only [wL]; omega)) only [go_sem, simprocAttr, fc_zero, fc_len, fc_cell, fc_take, fc_take', fc_drop, fc_drop', fc_getD, drop_two, drop_three, take_two, take_three, getD_two, getD_three, fc_at, fc_at_app, fc_get0, fc_get1, fc_get2, fc_fold, F8.get_hit, getD_mapd it0, hx, hy, hto, hm])
                all_goals (first | exact ⟨_, St.le_refl _, rfl⟩ | exact ⟨_, St.le_refl _⟩ | (exfalso; omega) | skip)
            · rw [Bool.true_and] at hq
              rw [hres] at hq ⊢
              rcases Nat.eq_zero_or_pos i with hi0 | hi0
              all_goals
                repeat' (first | (with_reducible first | refine up hc ?_) | (with_reducible first | (refine wT ?_; refine wN fun _ hnl => ?_; revert hnl; (repeat refine wS fun _ _ => ?_); intro hnl) | refine wD (by decide +kernel) ?_ | refine wI (fun h => ?_) fun h => ?_ | refine wF (fun h => ?_) fun h => ?_ | refine wG (fun h => ?_) fun h => ?_ | refine wH (fun h => ?_) fun h => ?_ | ((first | refine mfork_bool (fun h => ?_) fun h => ?_ | refine mgfork_bool (fun h => ?_) fun h => ?_) <;> simp only [h])) | simp (maxSteps := 4000000) (disch := first | decide | assumption | omega | (simp only [wL]; omega)) only [go_sem, simprocAttr, fc_zero, fc_len, fc_cell, fc_take, fc_take', fc_drop, fc_drop', fc_getD, drop_two, drop_three, take_two, take_three, getD_two, getD_three, fc_at, fc_at_app, fc_get0, fc_get1, fc_get2, fc_fold, F8.get_hit, getD_mapd it0, hx, hy, hto, hm])
                all_goals (try (exfalso; omega))
                all_goals
                  refine .of (.less ?_ (St.none_le _)) ⟨i + 1, rfl, rfl, ⟨by omega, by rw [hnext]; exact hq⟩, by omega⟩
                  simp (maxSteps := 4000000) (disch := first | decide | assumption | omega | (simp only [wL]; omega)) only [go_sem, simprocAttr, weak_int, weak_same]
                  all_goals rfl
          · rw [if_neg hk2, Bool.false_and] at hq
            rw [hq]
            clear hq hres hm
            rcases Nat.eq_zero_or_pos i with hi0 | hi0
            all_goals
              repeat' (first | (with_reducible first | refine up hc ?_) | (with_reducible first | (refine wT ?_; refine wN fun _ hnl => ?_; revert hnl; (repeat refine wS fun _ _ => ?_); intro hnl) | refine wD (by decide +kernel) ?_ | refine wI (fun h => ?_) fun h => ?_ | refine wF (fun h => ?_) fun h => ?_ | refine wG (fun h => ?_) fun h => ?_ | refine wH (fun h => ?_) fun h => ?_ | ((first | refine mfork_bool (fun h => ?_) fun h => ?_ | refine mgfork_bool (fun h => ?_) fun h => ?_) <;> simp only [h])) | simp (maxSteps := 4000000) (disch := first | decide | assumption | omega | (simp only [wL]; omega)) only [go_sem, simprocAttr, fc_zero, fc_len, fc_cell, fc_take, fc_take', fc_drop, fc_drop', fc_getD, drop_two, drop_three, take_two, take_three, getD_two, getD_three, fc_at, fc_at_app, fc_get0, fc_get1, fc_get2, fc_fold, F8.get_hit, getD_mapd it0, hx, hy, hto])
              all_goals (first | exact ⟨_, St.le_refl _, rfl⟩ | exact ⟨_, St.le_refl _⟩ | (exfalso; omega) | skip)
      · rw [itOk_range hr, Bool.false_and] at hq
        rw [hq]
        clear hq hres hm
        rcases Nat.eq_zero_or_pos i with hi0 | hi0
        all_goals
          repeat' (first | (with_reducible first | refine up hc ?_) | (with_reducible first | (refine wT ?_; refine wN fun _ hnl => ?_; revert hnl; (repeat refine wS fun _ _ => ?_); intro hnl) | refine wD (by decide +kernel) ?_ | refine wI (fun h => ?_) fun h => ?_ | refine wF (fun h => ?_) fun h => ?_ | refine wG (fun h => ?_) fun h => ?_ | refine wH (fun h => ?_) fun h => ?_ | ((first | refine mfork_bool (fun h => ?_) fun h => ?_ | refine mgfork_bool (fun h => ?_) fun h => ?_) <;> simp only [h])) | simp (maxSteps := 4000000) (disch := first | decide | assumption | omega | (simp only [wL]; omega)) only [go_sem, simprocAttr, fc_zero, fc_len, fc_cell, fc_take, fc_take', fc_drop, fc_drop', fc_getD, drop_two, drop_three, take_two, take_three, getD_two, getD_three, fc_at, fc_at_app, fc_get0, fc_get1, fc_get2, fc_fold, F8.get_hit, getD_mapd it0, hx, hy, hto])
          all_goals (first | exact ⟨_, St.le_refl _, rfl⟩ | exact ⟨_, St.le_refl _⟩ | (exfalso; omega) | skip)
    · have : i = l.length := by omega
      subst this
      rw [List.drop_length, itemsOk] at hq
      rw [hq]
      repeat' (first | (with_reducible first | (refine wT ?_; refine wN fun _ hnl => ?_; revert hnl; (repeat refine wS fun _ _ => ?_); intro hnl) | refine wD (by decide +kernel) ?_ | refine wI (fun h => ?_) fun h => ?_ | refine wF (fun h => ?_) fun h => ?_ | refine wG (fun h => ?_) fun h => ?_ | refine wH (fun h => ?_) fun h => ?_ | ((first | refine mfork_bool (fun h => ?_) fun h => ?_ | refine mgfork_bool (fun h => ?_) fun h => ?_) <;> simp only [h])) | simp (maxSteps := 4000000) (disch := first | decide | assumption | omega | (simp only [wL]; omega)) only [go_sem, simprocAttr])
      all_goals first | exact ⟨_, St.le_refl _, rfl⟩ | exact ⟨_, St.le_refl _⟩
theorem isame_call (a b : List IT) (ta tb : Bool) (hl : a.length ≤ 1000000) : MCalls Tryz.prog 88 [.lst 28 (IT.ks a) ta, .lst 28 (IT.ks b) tb] St.none (fun r _ => r = .bool (decide (a = b))) := by
  refine (MCalls.body 26 [.tmp 4] Tryz.func88 rfl rfl rfl rfl ?_)
  by_cases hlen : a.length = b.length
  · repeat' (first | (with_reducible first | (refine wT ?_; refine wN fun _ hnl => ?_; revert hnl; (repeat refine wS fun _ _ => ?_); intro hnl) | refine wD (by decide +kernel) ?_ | refine wI (fun h => ?_) fun h => ?_ | refine wF (fun h => ?_) fun h => ?_ | refine wG (fun h => ?_) fun h => ?_ | refine wH (fun h => ?_) fun h => ?_ | ((first | refine mfork_bool (fun h => ?_) fun h => ?_ | refine mgfork_bool (fun h => ?_) fun h => ?_) <;> simp only [h])) | simp (maxSteps := 4000000) (disch := first | decide | assumption | omega | (simp only [wL]; omega)) only [go_sem, simprocAttr, Tryz.f88])
    refine mloop_intro (α := Nat) (fun i => ⟨26, [(5, .int .i64 (i : Int)), (0, .lst 28 (IT.ks a) ta), (1, .lst 28 (IT.ks b) tb)], []⟩) (fun _ => St.none) (fun i => i ≤ a.length ∧ a.take i = b.take i) (fun i => a.length - i) (.of (.less ?_ (St.le_refl _)) ⟨0, rfl, rfl, Nat.zero_le _, rfl⟩) ?_
    · simp (maxSteps := 4000000) (disch := first | decide | assumption | omega | (simp only [wL]; omega)) only [go_sem, simprocAttr, weak_int, weak_same]
      all_goals rfl
    · rintro i ⟨hi, hq⟩
      by_cases hlt : i < a.length
      · have hm := mbn_item (a.getD i it0) (b.getD i it0)
        have hsa := List.take_succ_eq_append_getElem (l := a) hlt
        have hib : i < b.length := by omega
        have hsb := List.take_succ_eq_append_getElem (l := b) hib
        rw [← getD_of_lt it0 hlt] at hsa
        rw [← getD_of_lt it0 hib] at hsb
        obtain ⟨x, hx⟩ : ∃ x, a.getD i it0 = x := ⟨_, rfl⟩
        obtain ⟨y, hy⟩ : ∃ y, b.getD i it0 = y := ⟨_, rfl⟩
        rw [hx] at hm hsa
        rw [hy] at hm hsb
        by_cases he : x = y
        · rw [decide_eq_true he] at hm
          repeat' (first | (with_reducible first | (refine wT ?_; refine wN fun _ hnl => ?_; revert hnl; (repeat refine wS fun _ _ => ?_); intro hnl) | refine wD (by decide +kernel) ?_ | refine wI (fun h => ?_) fun h => ?_ | refine wF (fun h => ?_) fun h => ?_ | refine wG (fun h => ?_) fun h => ?_ | refine wH (fun h => ?_) fun h => ?_ | ((first | refine mfork_bool (fun h => ?_) fun h => ?_ | refine mgfork_bool (fun h => ?_) fun h => ?_) <;> simp only [h])) | simp (maxSteps := 4000000) (disch := first | decide | assumption | omega | (simp only [wL]; omega)) only [go_sem, simprocAttr, fc_zero, fc_len, fc_cell, fc_take, fc_take', fc_drop, fc_drop', fc_getD, drop_two, drop_three, take_two, take_three, getD_two, getD_three, fc_at, fc_at_app, fc_get0, fc_get1, fc_get2, fc_fold, F8.get_hit, getD_mapd it0, hx, hy, hm])
          refine .of (.less ?_ (St.le_refl _)) ⟨i + 1, rfl, rfl, ⟨by omega, by rw [hsa, hsb, hq, he]⟩, by omega⟩
          simp (maxSteps := 4000000) (disch := first | decide | assumption | omega | (simp only [wL]; omega)) only [go_sem, simprocAttr, weak_int, weak_same]
          all_goals rfl
        · rw [decide_eq_false he] at hm
          have hne : ¬ a = b := fun e => he (by rw [← hx, ← hy, e])
          rw [decide_eq_false hne]
          repeat' (first | (with_reducible first | (refine wT ?_; refine wN fun _ hnl => ?_; revert hnl; (repeat refine wS fun _ _ => ?_); intro hnl) | refine wD (by decide +kernel) ?_ | refine wI (fun h => ?_) fun h => ?_ | refine wF (fun h => ?_) fun h => ?_ | refine wG (fun h => ?_) fun h => ?_ | refine wH (fun h => ?_) fun h => ?_ | ((first | refine mfork_bool (fun h => ?_) fun h => ?_ | refine mgfork_bool (fun h => ?_) fun h => ?_) <;> simp only [h])) | simp (maxSteps := 4000000) (disch := first | decide | assumption | omega | (simp only [wL]; omega)) only [go_sem, simprocAttr, fc_zero, fc_len, fc_cell, fc_take, fc_take', fc_drop, fc_drop', fc_getD, drop_two, drop_three, take_two, take_three, getD_two, getD_three, fc_at, fc_at_app, fc_get0, fc_get1, fc_get2, fc_fold, F8.get_hit, getD_mapd it0, hx, hy, hm])
          all_goals done
      · have : i = a.length := by omega
        subst this
        rw [List.take_length, hlen, List.take_length] at hq
        rw [decide_eq_true hq]
        repeat' (first | (with_reducible first | (refine wT ?_; refine wN fun _ hnl => ?_; revert hnl; (repeat refine wS fun _ _ => ?_); intro hnl) | refine wD (by decide +kernel) ?_ | refine wI (fun h => ?_) fun h => ?_ | refine wF (fun h => ?_) fun h => ?_ | refine wG (fun h => ?_) fun h => ?_ | refine wH (fun h => ?_) fun h => ?_ | ((first | refine mfork_bool (fun h => ?_) fun h => ?_ | refine mgfork_bool (fun h => ?_) fun h => ?_) <;> simp only [h])) | simp (maxSteps := 4000000) (disch := first | decide | assumption | omega | (simp only [wL]; omega)) only [go_sem, simprocAttr])
        all_goals done
  · rw [decide_eq_false fun e => hlen (by rw [e])]
    repeat' (first | (with_reducible first | (refine wT ?_; refine wN fun _ hnl => ?_; revert hnl; (repeat refine wS fun _ _ => ?_); intro hnl) | refine wD (by decide +kernel) ?_ | refine wI (fun h => ?_) fun h => ?_ | refine wF (fun h => ?_) fun h => ?_ | refine wG (fun h => ?_) fun h => ?_ | refine wH (fun h => ?_) fun h => ?_ | ((first | refine mfork_bool (fun h => ?_) fun h => ?_ | refine mgfork_bool (fun h => ?_) fun h => ?_) <;> simp only [h])) | simp (maxSteps := 4000000) (disch := first | decide | assumption | omega | (simp only [wL]; omega)) only [go_sem, simprocAttr, Tryz.f88])
    all_goals (first | rfl | (exfalso; omega))
end Go.Proofs.YtfbodefnblpflaaGreatDoor
end

section
/- Contracts of the program's items and pages: which may be, whether two are alike: the conditions that the theorems name. -/
set_option linter.unusedVariables false
set_option linter.unusedSimpArgs false
namespace Go.Proofs.YtfbodefnblpflaaGreatDoor
set_option maxRecDepth 100000
set_option maxHeartbeats 4000000
theorem pcitems_call (l : List IT) (tt : Bool) (hl : l.length ≤ 1000000) : MCalls Tryz.prog 121 [.lst 28 (IT.ks l) tt] St.none (fun r _ => r = .bool (itemsOk 0 l)) := by
  refine MCalls.drops (MCalls.body 43 [.tmp 2] Tryz.func121 rfl rfl rfl rfl ?_)
  repeat' (first | (with_reducible first | (refine wT ?_; refine wN fun _ hnl => ?_; revert hnl; (repeat refine wS fun _ _ => ?_); intro hnl) | refine wD (by decide +kernel) ?_ | refine wI (fun h => ?_) fun h => ?_ | refine wF (fun h => ?_) fun h => ?_ | refine wG (fun h => ?_) fun h => ?_ | refine wH (fun h => ?_) fun h => ?_ | ((first | refine mfork_bool (fun h => ?_) fun h => ?_ | refine mgfork_bool (fun h => ?_) fun h => ?_) <;> simp only [h])) | simp (maxSteps := 4000000) (disch := first | decide | assumption | omega | (simp only [wL]; omega)) only [go_sem, simprocAttr, Tryz.f121])
  refine mloop_intro (α := Nat) (fun i => ⟨43, [(8, .int .i64 (i : Int)), (7, .int .i64 (l.length : Int)), (6, .lst 28 (IT.ks l) tt), (3, .int .i64 (lastI l i))], []⟩) (fun _ => St.none) (fun i => i ≤ l.length ∧ 0 ≤ lastI l i ∧ itemsOk 0 l = itemsOk (lastI l i) (l.drop i)) (fun i => l.length - i) (.of (.less ?_ (St.le_refl _)) ⟨0, rfl, rfl, Nat.zero_le _, Int.le_refl _, rfl⟩) ?_
  · simp (maxSteps := 4000000) (disch := first | decide | assumption | omega | (simp only [wL]; omega)) only [go_sem, simprocAttr, weak_int, weak_same]
    all_goals rfl
  · rintro i ⟨hi, hp, hq⟩
    by_cases hlt : i < l.length
    · rw [drop_getD it0 hlt, itemsOk] at hq
      have hnext : lastI l (i + 1) = (l.getD i it0).c.id := by unfold lastI; rw [if_neg (by omega)]; rfl
      obtain ⟨x, hx⟩ : ∃ x, l.getD i it0 = x := ⟨_, rfl⟩
      obtain ⟨last, hlast⟩ : ∃ k, lastI l i = k := ⟨_, rfl⟩
      rw [hx] at hnext hq
      rw [hlast] at hq hp ⊢
      obtain ⟨res, hres⟩ : ∃ b, itemsOk 0 l = b := ⟨_, rfl⟩
      have hc := pccheck_call x.c
      have hm : mbin Tryz.prog 117 .neq (.agg x.c.c) (.agg (.int .i64 x.c.id :: .int .i64 0 :: .int .u32 0 :: fc f80)) = some (True, .bool (!decide (x.c = { ca0 with id := x.c.id }))) := mbn_card x.c { ca0 with id := x.c.id }
      by_cases hr : last < x.c.id ∧ 1 ≤ x.c.id ∧ x.c.id < 1073741824
      · have hk := itOk_kind hr
        rw [hk] at hq
        obtain ⟨hr1, hr2, hr3⟩ := hr
        clear hk
        by_cases hk1 : x.kd = 1 ∨ x.kd = 3
        · rw [if_pos hk1] at hq
          cases hb : cardOk x.c <;> rw [hb] at hc hq
          · rw [hq, Bool.false_and]
            clear hm hq hres
            repeat' (first | (with_reducible first | refine up hc ?_) | (with_reducible first | (refine wT ?_; refine wN fun _ hnl => ?_; revert hnl; (repeat refine wS fun _ _ => ?_); intro hnl) | refine wD (by decide +kernel) ?_ | refine wI (fun h => ?_) fun h => ?_ | refine wF (fun h => ?_) fun h => ?_ | refine wG (fun h => ?_) fun h => ?_ | refine wH (fun h => ?_) fun h => ?_ | ((first | refine mfork_bool (fun h => ?_) fun h => ?_ | refine mgfork_bool (fun h => ?_) fun h => ?_) <;> simp only [h])) | simp (maxSteps := 4000000) (disch := first | decide | assumption | omega | (simp only [wL]; omega)) only [go_sem, simprocAttr, fc_zero, fc_len, fc_cell, fc_take, fc_take', fc_drop, fc_drop', fc_getD, drop_two, drop_three, take_two, take_three, getD_two, getD_three, fc_at, fc_at_app, fc_get0, fc_get1, fc_get2, fc_fold, F8.get_hit, getD_mapd it0, hx])
            all_goals (first | exact ⟨_, St.le_refl _, rfl⟩ | exact ⟨_, St.le_refl _⟩ | (exfalso; omega) | skip)
          · rw [Bool.true_and] at hq
            rw [hres] at hq ⊢
            repeat' (first | (with_reducible first | refine up hc ?_) | (with_reducible first | (refine wT ?_; refine wN fun _ hnl => ?_; revert hnl; (repeat refine wS fun _ _ => ?_); intro hnl) | refine wD (by decide +kernel) ?_ | refine wI (fun h => ?_) fun h => ?_ | refine wF (fun h => ?_) fun h => ?_ | refine wG (fun h => ?_) fun h => ?_ | refine wH (fun h => ?_) fun h => ?_ | ((first | refine mfork_bool (fun h => ?_) fun h => ?_ | refine mgfork_bool (fun h => ?_) fun h => ?_) <;> simp only [h])) | simp (maxSteps := 4000000) (disch := first | decide | assumption | omega | (simp only [wL]; omega)) only [go_sem, simprocAttr, fc_zero, fc_len, fc_cell, fc_take, fc_take', fc_drop, fc_drop', fc_getD, drop_two, drop_three, take_two, take_three, getD_two, getD_three, fc_at, fc_at_app, fc_get0, fc_get1, fc_get2, fc_fold, F8.get_hit, getD_mapd it0, hx])
            all_goals (try (exfalso; omega))
            all_goals
              refine .of (.less ?_ (St.none_le _)) ⟨i + 1, rfl, rfl, ⟨by omega, by rw [hnext]; omega, by rw [hnext]; exact hq⟩, by omega⟩
              rw [hnext]
              simp (maxSteps := 4000000) (disch := first | decide | assumption | omega | (simp only [wL]; omega)) only [go_sem, simprocAttr, weak_int, weak_same]
              all_goals rfl
        · rw [if_neg hk1] at hq
          by_cases hk2 : x.kd = 2
          · rw [if_pos hk2] at hq
            obtain ⟨b, hb⟩ : ∃ b, decide (x.c = { ca0 with id := x.c.id }) = b := ⟨_, rfl⟩
            rw [hb] at hm hq
            cases b
            · rw [hq, Bool.false_and]
              clear hq hres
              repeat' (first | (with_reducible first | refine up hc ?_) | (with_reducible first | (refine wT ?_; refine wN fun _ hnl => ?_; revert hnl; (repeat refine wS fun _ _ => ?_); intro hnl) | refine wD (by decide +kernel) ?_ | refine wI (fun h => ?_) fun h => ?_ | refine wF (fun h => ?_) fun h => ?_ | refine wG (fun h => ?_) fun h => ?_ | refine wH (fun h => ?_) fun h => ?_ | ((first | refine mfork_bool (fun h => ?_) fun h => ?_ | refine mgfork_bool (fun h => ?_) fun h => ?_) <;> simp only [h])) | simp (maxSteps := 4000000) (disch := first | decide | assumption | omega | (simp only [wL]; omega)) only [go_sem, simprocAttr, fc_zero, fc_len, fc_cell, fc_take, fc_take', fc_drop, fc_drop', fc_getD, drop_two, drop_three, take_two, take_three, getD_two, getD_three, fc_at, fc_at_app, fc_get0, fc_get1, fc_get2, fc_fold, F8.get_hit, getD_mapd it0, hx, hm])
              all_goals (first | exact ⟨_, St.le_refl _, rfl⟩ | exact ⟨_, St.le_refl _⟩ | (exfalso; omega) | skip)
            · rw [Bool.true_and] at hq
              rw [hres] at hq ⊢
              repeat' (first | (with_reducible first | refine up hc ?_) | (with_reducible first | (refine wT ?_; refine wN fun _ hnl => ?_; revert hnl; (repeat refine wS fun _ _ => ?_); intro hnl) | refine wD (by decide +kernel) ?_ | refine wI (fun h => ?_) fun h => ?_ | refine wF (fun h => ?_) fun h => ?_ | refine wG (fun h => ?_) fun h => ?_ | refine wH (fun h => ?_) fun h => ?_ | ((first | refine mfork_bool (fun h => ?_) fun h => ?_ | refine mgfork_bool (fun h => ?_) fun h => ?_) <;> simp only [h])) | simp (maxSteps := 4000000) (disch := first | decide | assumption | omega | (simp only [wL]; omega)) only [go_sem, simprocAttr, fc_zero, fc_len, fc_cell, fc_take, fc_take', fc_drop, fc_drop', fc_getD, drop_two, drop_three, take_two, take_three, getD_two, getD_three, fc_at, fc_at_app, fc_get0, fc_get1, fc_get2, fc_fold, F8.get_hit, getD_mapd it0, hx, hm])
              all_goals (try (exfalso; omega))
              all_goals
                refine .of (.less ?_ (St.none_le _)) ⟨i + 1, rfl, rfl, ⟨by omega, by rw [hnext]; omega, by rw [hnext]; exact hq⟩, by omega⟩
                rw [hnext]
                simp (maxSteps := 4000000) (disch := first | decide | assumption | omega | (simp only [wL]; omega)) only [go_sem, simprocAttr, weak_int, weak_same]
                all_goals rfl
          · rw [if_neg hk2, Bool.false_and] at hq
            rw [hq]
            clear hq hres hm
            repeat' (first | (with_reducible first | refine up hc ?_) | (with_reducible first | (refine wT ?_; refine wN fun _ hnl => ?_; revert hnl; (repeat refine wS fun _ _ => ?_); intro hnl) | refine wD (by decide +kernel) ?_ | refine wI (fun h => ?_) fun h => ?_ | refine wF (fun h => ?_) fun h => ?_ | refine wG (fun h => ?_) fun h => ?_ | refine wH (fun h => ?_) fun h => ?_ | ((first | refine mfork_bool (fun h => ?_) fun h => ?_ | refine mgfork_bool (fun h => ?_) fun h => ?_) <;> simp only [h])) | simp (maxSteps := 4000000) (disch := first | decide | assumption | omega | (simp only [wL]; omega)) only [go_sem, simprocAttr, fc_zero, fc_len, fc_cell, fc_take, fc_take', fc_drop, fc_drop', fc_getD, drop_two, drop_three, take_two, take_three, getD_two, getD_three, fc_at, fc_at_app, fc_get0, fc_get1, fc_get2, fc_fold, F8.get_hit, getD_mapd it0, hx])
            all_goals (first | exact ⟨_, St.le_refl _, rfl⟩ | exact ⟨_, St.le_refl _⟩ | (exfalso; omega) | skip)
      · rw [itOk_range hr, Bool.false_and] at hq
        rw [hq]
        clear hq hres hm
        repeat' (first | (with_reducible first | refine up hc ?_) | (with_reducible first | (refine wT ?_; refine wN fun _ hnl => ?_; revert hnl; (repeat refine wS fun _ _ => ?_); intro hnl) | refine wD (by decide +kernel) ?_ | refine wI (fun h => ?_) fun h => ?_ | refine wF (fun h => ?_) fun h => ?_ | refine wG (fun h => ?_) fun h => ?_ | refine wH (fun h => ?_) fun h => ?_ | ((first | refine mfork_bool (fun h => ?_) fun h => ?_ | refine mgfork_bool (fun h => ?_) fun h => ?_) <;> simp only [h])) | simp (maxSteps := 4000000) (disch := first | decide | assumption | omega | (simp only [wL]; omega)) only [go_sem, simprocAttr, fc_zero, fc_len, fc_cell, fc_take, fc_take', fc_drop, fc_drop', fc_getD, drop_two, drop_three, take_two, take_three, getD_two, getD_three, fc_at, fc_at_app, fc_get0, fc_get1, fc_get2, fc_fold, F8.get_hit, getD_mapd it0, hx])
        all_goals (first | exact ⟨_, St.le_refl _, rfl⟩ | exact ⟨_, St.le_refl _⟩ | (exfalso; omega) | skip)
    · have : i = l.length := by omega
      subst this
      rw [List.drop_length, itemsOk] at hq
      rw [hq]
      repeat' (first | (with_reducible first | (refine wT ?_; refine wN fun _ hnl => ?_; revert hnl; (repeat refine wS fun _ _ => ?_); intro hnl) | refine wD (by decide +kernel) ?_ | refine wI (fun h => ?_) fun h => ?_ | refine wF (fun h => ?_) fun h => ?_ | refine wG (fun h => ?_) fun h => ?_ | refine wH (fun h => ?_) fun h => ?_ | ((first | refine mfork_bool (fun h => ?_) fun h => ?_ | refine mgfork_bool (fun h => ?_) fun h => ?_) <;> simp only [h])) | simp (maxSteps := 4000000) (disch := first | decide | assumption | omega | (simp only [wL]; omega)) only [go_sem, simprocAttr])
      all_goals first | exact ⟨_, St.le_refl _, rfl⟩ | exact ⟨_, St.le_refl _⟩
theorem pequalI_call (a b : List IT) (ta tb : Bool) (hl : a.length ≤ 1000000) : MCalls Tryz.prog 144 [.lst 28 (IT.ks a) ta, .lst 28 (IT.ks b) tb] St.none (fun r _ => r = .bool (decide (a = b))) := by
  refine (MCalls.body 26 [.tmp 4] Tryz.func144 rfl rfl rfl rfl ?_)
  by_cases hlen : a.length = b.length
  · repeat' (first | (with_reducible first | (refine wT ?_; refine wN fun _ hnl => ?_; revert hnl; (repeat refine wS fun _ _ => ?_); intro hnl) | refine wD (by decide +kernel) ?_ | refine wI (fun h => ?_) fun h => ?_ | refine wF (fun h => ?_) fun h => ?_ | refine wG (fun h => ?_) fun h => ?_ | refine wH (fun h => ?_) fun h => ?_ | ((first | refine mfork_bool (fun h => ?_) fun h => ?_ | refine mgfork_bool (fun h => ?_) fun h => ?_) <;> simp only [h])) | simp (maxSteps := 4000000) (disch := first | decide | assumption | omega | (simp only [wL]; omega)) only [go_sem, simprocAttr, Tryz.f144])
    refine mloop_intro (α := Nat) (fun i => ⟨26, [(13, .int .i64 (i : Int)), (12, .int .i64 (a.length : Int)), (0, .lst 28 (IT.ks a) ta), (1, .lst 28 (IT.ks b) tb)], []⟩) (fun _ => St.none) (fun i => i ≤ a.length ∧ a.take i = b.take i) (fun i => a.length - i) (.of (.less ?_ (St.le_refl _)) ⟨0, rfl, rfl, Nat.zero_le _, rfl⟩) ?_
    · simp (maxSteps := 4000000) (disch := first | decide | assumption | omega | (simp only [wL]; omega)) only [go_sem, simprocAttr, weak_int, weak_same]
      all_goals rfl
    · rintro i ⟨hi, hq⟩
      by_cases hlt : i < a.length
      · have hm := mbn_item (a.getD i it0) (b.getD i it0)
        have hsa := List.take_succ_eq_append_getElem (l := a) hlt
        have hib : i < b.length := by omega
        have hsb := List.take_succ_eq_append_getElem (l := b) hib
        rw [← getD_of_lt it0 hlt] at hsa
        rw [← getD_of_lt it0 hib] at hsb
        obtain ⟨x, hx⟩ : ∃ x, a.getD i it0 = x := ⟨_, rfl⟩
        obtain ⟨y, hy⟩ : ∃ y, b.getD i it0 = y := ⟨_, rfl⟩
        rw [hx] at hm hsa
        rw [hy] at hm hsb
        by_cases he : x = y
        · rw [decide_eq_true he] at hm
          repeat' (first | (with_reducible first | (refine wT ?_; refine wN fun _ hnl => ?_; revert hnl; (repeat refine wS fun _ _ => ?_); intro hnl) | refine wD (by decide +kernel) ?_ | refine wI (fun h => ?_) fun h => ?_ | refine wF (fun h => ?_) fun h => ?_ | refine wG (fun h => ?_) fun h => ?_ | refine wH (fun h => ?_) fun h => ?_ | ((first | refine mfork_bool (fun h => ?_) fun h => ?_ | refine mgfork_bool (fun h => ?_) fun h => ?_) <;> simp only [h])) | simp (maxSteps := 4000000) (disch := first | decide | assumption | omega | (simp only [wL]; omega)) only [go_sem, simprocAttr, fc_zero, fc_len, fc_cell, fc_take, fc_take', fc_drop, fc_drop', fc_getD, drop_two, drop_three, take_two, take_three, getD_two, getD_three, fc_at, fc_at_app, fc_get0, fc_get1, fc_get2, fc_fold, F8.get_hit, getD_mapd it0, hx, hy, hm])
          refine .of (.less ?_ (St.le_refl _)) ⟨i + 1, rfl, rfl, ⟨by omega, by rw [hsa, hsb, hq, he]⟩, by omega⟩
          simp (maxSteps := 4000000) (disch := first | decide | assumption | omega | (simp only [wL]; omega)) only [go_sem, simprocAttr, weak_int, weak_same]
          all_goals rfl
        · rw [decide_eq_false he] at hm
          have hne : ¬ a = b := fun e => he (by rw [← hx, ← hy, e])
          rw [decide_eq_false hne]
          repeat' (first | (with_reducible first | (refine wT ?_; refine wN fun _ hnl => ?_; revert hnl; (repeat refine wS fun _ _ => ?_); intro hnl) | refine wD (by decide +kernel) ?_ | refine wI (fun h => ?_) fun h => ?_ | refine wF (fun h => ?_) fun h => ?_ | refine wG (fun h => ?_) fun h => ?_ | refine wH (fun h => ?_) fun h => ?_ | ((first | refine mfork_bool (fun h => ?_) fun h => ?_ | refine mgfork_bool (fun h => ?_) fun h => ?_) <;> simp only [h])) | simp (maxSteps := 4000000) (disch := first | decide | assumption | omega | (simp only [wL]; omega)) only [go_sem, simprocAttr, fc_zero, fc_len, fc_cell, fc_take, fc_take', fc_drop, fc_drop', fc_getD, drop_two, drop_three, take_two, take_three, getD_two, getD_three, fc_at, fc_at_app, fc_get0, fc_get1, fc_get2, fc_fold, F8.get_hit, getD_mapd it0, hx, hy, hm])
          all_goals done
      · have : i = a.length := by omega
        subst this
        rw [List.take_length, hlen, List.take_length] at hq
        rw [decide_eq_true hq]
        repeat' (first | (with_reducible first | (refine wT ?_; refine wN fun _ hnl => ?_; revert hnl; (repeat refine wS fun _ _ => ?_); intro hnl) | refine wD (by decide +kernel) ?_ | refine wI (fun h => ?_) fun h => ?_ | refine wF (fun h => ?_) fun h => ?_ | refine wG (fun h => ?_) fun h => ?_ | refine wH (fun h => ?_) fun h => ?_ | ((first | refine mfork_bool (fun h => ?_) fun h => ?_ | refine mgfork_bool (fun h => ?_) fun h => ?_) <;> simp only [h])) | simp (maxSteps := 4000000) (disch := first | decide | assumption | omega | (simp only [wL]; omega)) only [go_sem, simprocAttr])
        all_goals done
  · rw [decide_eq_false fun e => hlen (by rw [e])]
    repeat' (first | (with_reducible first | (refine wT ?_; refine wN fun _ hnl => ?_; revert hnl; (repeat refine wS fun _ _ => ?_); intro hnl) | refine wD (by decide +kernel) ?_ | refine wI (fun h => ?_) fun h => ?_ | refine wF (fun h => ?_) fun h => ?_ | refine wG (fun h => ?_) fun h => ?_ | refine wH (fun h => ?_) fun h => ?_ | ((first | refine mfork_bool (fun h => ?_) fun h => ?_ | refine mgfork_bool (fun h => ?_) fun h => ?_) <;> simp only [h])) | simp (maxSteps := 4000000) (disch := first | decide | assumption | omega | (simp only [wL]; omega)) only [go_sem, simprocAttr, Tryz.f144])
    all_goals (first | rfl | (exfalso; omega))
theorem pisame_call (a b : List IT) (ta tb : Bool) (hl : a.length ≤ 1000000) : MCalls Tryz.prog 86 [.lst 28 (IT.ks a) ta, .lst 28 (IT.ks b) tb] St.none (fun r _ => r = .bool (decide (a = b))) := by
  refine (MCalls.body 8 [.tmp 4] Tryz.func86 rfl rfl rfl rfl ?_)
  have h := pequalI_call a b ta tb hl
  repeat' (first | (with_reducible first | refine up h ?_) | (with_reducible first | (refine wT ?_; refine wN fun _ hnl => ?_; revert hnl; (repeat refine wS fun _ _ => ?_); intro hnl) | refine wD (by decide +kernel) ?_ | refine wI (fun h => ?_) fun h => ?_ | refine wF (fun h => ?_) fun h => ?_ | refine wG (fun h => ?_) fun h => ?_ | refine wH (fun h => ?_) fun h => ?_ | ((first | refine mfork_bool (fun h => ?_) fun h => ?_ | refine mgfork_bool (fun h => ?_) fun h => ?_) <;> simp only [h])) | simp (maxSteps := 4000000) (disch := first | decide | assumption | omega | (simp only [wL]; omega)) only [go_sem, simprocAttr, Tryz.f86])
theorem ppgsame_call (a b : PG) (hl : a.items.length ≤ 1000000) : MCalls Tryz.prog 38 [.agg a.c, .agg b.c] St.none (fun r _ => r = .bool (decide (a = b))) := by
  refine MCalls.drops (MCalls.body 38 [.tmp 4] Tryz.func38 rfl rfl rfl rfl ?_)
  have hs := pisame_call a.items b.items false false hl
  have h1 := mbe_token a.fr b.fr
  have h2 := mbe_token a.to b.to
  obtain ⟨bi, hbi⟩ : ∃ x, decide (a.items = b.items) = x := ⟨_, rfl⟩
  obtain ⟨b1, hb1⟩ : ∃ x, decide (a.fr = b.fr) = x := ⟨_, rfl⟩
  obtain ⟨b2, hb2⟩ : ∃ x, decide (a.to = b.to) = x := ⟨_, rfl⟩
  obtain ⟨res, hres⟩ : ∃ r, decide (a = b) = r := ⟨_, rfl⟩
  have e : Unit → decide (a.code = b.code ∧ a.reset = b.reset ∧ b1 = true ∧ b2 = true ∧ bi = true) = res := fun _ => by
    rw [← hres, ← hb1, ← hb2, ← hbi]
    refine decide_eq_decide.mpr ?_
    rw [pg_iff, decide_eq_true_iff, decide_eq_true_iff, decide_eq_true_iff]
  rw [hbi] at hs
  rw [hb1] at h1
  rw [hb2] at h2
  rw [hres]
  clear hres hbi hb1 hb2
  cases b1 <;> cases b2 <;> cases bi
  all_goals
    repeat' (first | (with_reducible first | refine up hs ?_) | (with_reducible first | (refine wT ?_; refine wN fun _ hnl => ?_; revert hnl; (repeat refine wS fun _ _ => ?_); intro hnl) | refine wD (by decide +kernel) ?_ | refine wI (fun h => ?_) fun h => ?_ | refine wF (fun h => ?_) fun h => ?_ | refine wG (fun h => ?_) fun h => ?_ | refine wH (fun h => ?_) fun h => ?_ | ((first | refine mfork_bool (fun h => ?_) fun h => ?_ | refine mgfork_bool (fun h => ?_) fun h => ?_) <;> simp only [h])) | simp (maxSteps := 4000000) (disch := first | decide | assumption | omega | (simp only [wL]; omega)) only [go_sem, simprocAttr, Tryz.f38, h1, h2])
  all_goals first | refine ⟨_, St.le_refl _, ?_⟩ | skip
  all_goals rw [← e ()]
  all_goals clear e
  all_goals (first | (simp [*]; done) | (simp_all; done) | skip)
theorem ppgcheck_call (p : PG) (hl : p.items.length ≤ 1000000) : MCalls Tryz.prog 67 [.agg p.c] St.none (fun r _ => r = .bool (pageOk p)) := by
  refine MCalls.drops (MCalls.body 80 [.tmp 2] Tryz.func67 rfl rfl rfl rfl ?_)
  have h1 := ptcheck_call p.fr
  have h2 := ptcheck_call p.to
  have h3 := ptgoes_call p.fr p.to
  have h4 := pcitems_call p.items false hl
  have h5 : mbin Tryz.prog 34 .eql (.agg p.to.c) (.agg [.int .i64 0, .int .i64 0, .int .i64 0, .int .i64 0]) = some (True, .bool (decide (p.to = tk0))) := mbe_token p.to tk0
  have hie := items_empty (p := p)
  obtain ⟨res, hres⟩ : ∃ b, pageOk p = b := ⟨_, rfl⟩
  have e : pageOk p = res := hres
  rw [hres]
  clear hres
  unfold pageOk at e
  cases hb1 : tokOk p.fr <;> rw [hb1] at h1 e
  · rw [Bool.false_and] at e
    subst e
    repeat' (first | (with_reducible first | refine up h1 ?_ | refine up h2 ?_ | refine up h3 ?_ | refine up h4 ?_) | (with_reducible first | (refine wT ?_; refine wN fun _ hnl => ?_; revert hnl; (repeat refine wS fun _ _ => ?_); intro hnl) | refine wD (by decide +kernel) ?_ | refine wI (fun h => ?_) fun h => ?_ | refine wF (fun h => ?_) fun h => ?_ | refine wG (fun h => ?_) fun h => ?_ | refine wH (fun h => ?_) fun h => ?_ | ((first | refine mfork_bool (fun h => ?_) fun h => ?_ | refine mgfork_bool (fun h => ?_) fun h => ?_) <;> simp only [h])) | simp (maxSteps := 4000000) (disch := first | decide | assumption | omega | (simp only [wL]; omega)) only [go_sem, simprocAttr, Tryz.f67])
    all_goals (first | exact ⟨_, St.le_refl _, rfl⟩ | exact ⟨_, St.le_refl _⟩ | (exfalso; omega) | skip)
  · rw [Bool.true_and] at e
    by_cases hc : p.code = 0
    · rw [if_neg (by omega)] at e
      cases hr : p.reset
      · rw [if_neg (by rw [hr]; simp)] at e
        cases hb3 : tokGo p.fr p.to <;> rw [hb3] at h3 e
        · simp only [Bool.false_and] at e
          subst e
          repeat' (first | (with_reducible first | refine up h1 ?_ | refine up h2 ?_ | refine up h3 ?_ | refine up h4 ?_) | (with_reducible first | (refine wT ?_; refine wN fun _ hnl => ?_; revert hnl; (repeat refine wS fun _ _ => ?_); intro hnl) | refine wD (by decide +kernel) ?_ | refine wI (fun h => ?_) fun h => ?_ | refine wF (fun h => ?_) fun h => ?_ | refine wG (fun h => ?_) fun h => ?_ | refine wH (fun h => ?_) fun h => ?_ | ((first | refine mfork_bool (fun h => ?_) fun h => ?_ | refine mgfork_bool (fun h => ?_) fun h => ?_) <;> simp only [h])) | simp (maxSteps := 4000000) (disch := first | decide | assumption | omega | (simp only [wL]; omega)) only [go_sem, simprocAttr, Tryz.f67, hr])
          all_goals (first | exact ⟨_, St.le_refl _, rfl⟩ | exact ⟨_, St.le_refl _⟩ | (exfalso; omega) | skip)
        · cases hb4 : itemsOk 0 p.items <;> rw [hb4] at h4 e
          all_goals
            simp only [Bool.true_and, Bool.and_false, Bool.false_and] at e
            subst e
            repeat' (first | (with_reducible first | refine up h1 ?_ | refine up h2 ?_ | refine up h3 ?_ | refine up h4 ?_) | (with_reducible first | (refine wT ?_; refine wN fun _ hnl => ?_; revert hnl; (repeat refine wS fun _ _ => ?_); intro hnl) | refine wD (by decide +kernel) ?_ | refine wI (fun h => ?_) fun h => ?_ | refine wF (fun h => ?_) fun h => ?_ | refine wG (fun h => ?_) fun h => ?_ | refine wH (fun h => ?_) fun h => ?_ | ((first | refine mfork_bool (fun h => ?_) fun h => ?_ | refine mgfork_bool (fun h => ?_) fun h => ?_) <;> simp only [h])) | simp (maxSteps := 4000000) (disch := first | decide | assumption | omega | (simp only [wL]; omega)) only [go_sem, simprocAttr, Tryz.f67, hr])
            all_goals first | refine ⟨_, St.le_refl _, ?_⟩ | refine ⟨_, St.le_refl _⟩ | skip
            all_goals first | done | (exact decide_eq_decide.mpr (by omega)) | (congr 1; exact decide_eq_decide.mpr (by omega)) | (exact (decide_eq_true (by omega)).symm) | (exact (decide_eq_false (by omega)).symm)
      · rw [if_pos hr] at e
        cases hb2 : tokOk p.to <;> rw [hb2] at h2 e
        all_goals
          simp only [Bool.true_and, Bool.and_false, Bool.false_and, Bool.and_true, ← hie] at e
          have e' : Unit → _ := fun _ => e
          clear e hie
          repeat' (first | (with_reducible first | refine up h1 ?_ | refine up h2 ?_ | refine up h3 ?_ | refine up h4 ?_) | (with_reducible first | (refine wT ?_; refine wN fun _ hnl => ?_; revert hnl; (repeat refine wS fun _ _ => ?_); intro hnl) | refine wD (by decide +kernel) ?_ | refine wI (fun h => ?_) fun h => ?_ | refine wF (fun h => ?_) fun h => ?_ | refine wG (fun h => ?_) fun h => ?_ | refine wH (fun h => ?_) fun h => ?_ | ((first | refine mfork_bool (fun h => ?_) fun h => ?_ | refine mgfork_bool (fun h => ?_) fun h => ?_) <;> simp only [h])) | simp (maxSteps := 4000000) (disch := first | decide | assumption | omega | (simp only [wL]; omega)) only [go_sem, simprocAttr, Tryz.f67, hr])
          all_goals first | refine ⟨_, St.le_refl _, ?_⟩ | refine ⟨_, St.le_refl _⟩ | skip
          all_goals rw [← e' ()]
          all_goals (first | (simp [*]; done) | (simp only [*, not_false_eq_true, decide_false, decide_true, Bool.false_and, Bool.true_and, Bool.and_false]; done) | skip)
    · rw [if_pos hc] at e
      obtain ⟨bt, hbt⟩ : ∃ b, decide (p.to = tk0) = b := ⟨_, rfl⟩
      rw [hbt] at h5
      have ht : p.to = tk0 ↔ bt = true := by rw [← hbt, decide_eq_true_iff]
      have e' : Unit → _ := fun _ => e
      simp only [ht, ← hie] at e'
      clear e ht hbt hie
      cases bt
      all_goals
        cases hr : p.reset
        all_goals
          repeat' (first | (with_reducible first | refine up h1 ?_ | refine up h2 ?_ | refine up h3 ?_ | refine up h4 ?_) | (with_reducible first | (refine wT ?_; refine wN fun _ hnl => ?_; revert hnl; (repeat refine wS fun _ _ => ?_); intro hnl) | refine wD (by decide +kernel) ?_ | refine wI (fun h => ?_) fun h => ?_ | refine wF (fun h => ?_) fun h => ?_ | refine wG (fun h => ?_) fun h => ?_ | refine wH (fun h => ?_) fun h => ?_ | ((first | refine mfork_bool (fun h => ?_) fun h => ?_ | refine mgfork_bool (fun h => ?_) fun h => ?_) <;> simp only [h])) | simp (maxSteps := 4000000) (disch := first | decide | assumption | omega | (simp only [wL]; omega)) only [go_sem, simprocAttr, Tryz.f67, hr, h5])
          all_goals first | refine ⟨_, St.le_refl _, ?_⟩ | refine ⟨_, St.le_refl _⟩ | skip
          all_goals rw [← e' ()]
          all_goals (first | (simp [*]; done) | (simp only [*, not_false_eq_true, decide_false, decide_true, Bool.false_and, Bool.true_and, Bool.and_false]; done) | skip)
end Go.Proofs.YtfbodefnblpflaaGreatDoor
end

section
/- Contract of the program's bytes of a card: the conditions that the theorem names. -/
set_option linter.unusedVariables false
set_option linter.unusedSimpArgs false
namespace Go.Proofs.YtfbodefnblpflaaGreatDoor
set_option maxRecDepth 100000
set_option maxHeartbeats 4000000
/-- The fields below a number that hold something. -/
def hasL (f : F8) (k : Nat) : List Nat := (List.range k).filter fun i => decide ((f.get i).kd ≠ 0)
theorem hasL_succ (f : F8) (k : Nat) : hasL f (k + 1) = if (f.get k).kd = 0 then hasL f k else hasL f k ++ [k] := by
  unfold hasL
  rw [List.range_succ, List.filter_append, List.filter_cons]
  by_cases h : (f.get k).kd = 0 <;> simp [h]
theorem hasL_lt {f : F8} {k i : Nat} (h : i ∈ hasL f k) : i < k := List.mem_range.1 (List.mem_filter.1 h).1
theorem hasL_len (f : F8) (k : Nat) : (hasL f k).length ≤ k := by
  have := List.length_filter_le (fun i => decide ((f.get i).kd ≠ 0)) (List.range k)
  rwa [List.length_range] at this
theorem hasL_bits (f : F8) : bitsL (hasM f) = hasL f 8 := by
  unfold bitsL hasL
  exact List.filter_congr fun i hi => hasM_bit f (List.mem_range.1 hi)
theorem hasL_fold (f : F8) : (hasL f 8).foldl (fun s n => s ||| 2 ^ n) 0 = hasM f := by
  unfold hasM hasL
  rw [ors_fold]
theorem intsL_at {L : List Nat} {ex : List (List MV)} {k : Nat} (h : k < L.length) : (intsL L ++ ex).getD k [] = [.int .i64 ((L.getD k 0 : Nat) : Int)] := by
  have h' : k < (intsL L).length := by simpa [intsL] using h
  rw [List.getD_eq_getElem?_getD, List.getElem?_append_left h', List.getElem?_map, List.getElem?_eq_getElem h, getD_of_lt 0 h]; rfl
theorem pputcard_call (bs : BL) (hb : bs.length ≤ 400000) (t : Bool) (c : CA) (hok : cardOk c = true) : MCalls Tryz.prog 123 [.lst 1 (bs.map bc) t, .agg c.c] St.none (fun r _ => r = .lst 1 ((bs ++ cardB c).map bc) false) := by
  refine MCalls.drops (MCalls.body 59 [.tmp 4] Tryz.func123 rfl rfl rfl rfl ?_)
  have hc := pccheck_call c
  rw [hok] at hc
  repeat' (first | (with_reducible first | refine up hc ?_) | (with_reducible first | (refine wT ?_; (first | ((fail_if_success (have := nl1)); refine wN fun nl1 hnl => ?_) | ((fail_if_success (have := nl2)); refine wN fun nl2 hnl => ?_) | ((fail_if_success (have := nl3)); refine wN fun nl3 hnl => ?_) | ((fail_if_success (have := nl4)); refine wN fun nl4 hnl => ?_) | refine wN fun _ hnl => ?_); revert hnl; (repeat refine wS fun _ _ => ?_); intro hnl) | refine wD (by decide +kernel) ?_ | refine wI (fun h => ?_) fun h => ?_ | refine wF (fun h => ?_) fun h => ?_ | refine wG (fun h => ?_) fun h => ?_ | refine wH (fun h => ?_) fun h => ?_ | ((first | refine mfork_bool (fun h => ?_) fun h => ?_ | refine mgfork_bool (fun h => ?_) fun h => ?_) <;> simp only [h])) | simp (maxSteps := 4000000) (disch := first | decide | assumption | omega | (simp only [wL]; omega)) only [go_sem, simprocAttr, Tryz.f123, fc_zero, fc_len, fc_cell, fc_take, fc_take', fc_drop, fc_drop', fc_getD, drop_two, drop_three, take_two, take_three, getD_two, getD_three, fc_at, fc_at_app, fc_get0, fc_get1, fc_get2, fc_fold, F8.get_hit, fc_all, fc_assoc, List.append_nil, List.take_zero, u32z, List.cons_append, List.nil_append])
  refine mloop_intro (α := Nat × Nat × List (List MV)) (fun a => ⟨59, [(17, .int .i64 (a.1 : Int)), (16, .agg (fc c.f)), (5, .vec 1 a.2.1 0 (hasL c.f a.1).length), (3, .ptr nl1 0 0), (0, .lst 1 (bs.map bc) t)], []⟩)
    (fun a => (St.none.set nl1 (.row 117 27 [c.c])).set a.2.1 (.row 3 1 (intsL (hasL c.f a.1) ++ a.2.2))) (fun a => a.1 ≤ 8 ∧ a.2.1 ≠ nl1) (fun a => 8 - a.1) ?_ ?_
  · refine Gh.rowNew 3 1 (fun q => [(17, .int .i64 0), (16, .agg (fc c.f)), (5, .vec 1 q 0 0), (3, .ptr nl1 0 0), (0, .lst 1 (bs.map bc) t)]) (fun k => by (repeat' (refine And.intro ?_ ?_)) <;> first | exact trivial | exact .inl rfl | exact .inr ⟨rfl, .inl rfl⟩ | exact .inr ⟨rfl, .inr rfl⟩) fun q hq => ?_
    have q1 : q ≠ nl1 := fun e => by subst e; simp [St.set] at hq
    exact .done ⟨(0, q, []), rfl, rfl, Nat.zero_le _, q1⟩
  · rintro ⟨k, q, ex⟩ ⟨hk, q1⟩
    simp only at hk q1 ⊢
    have q2 := Ne.symm q1
    by_cases h8 : k < 8
    · have hsn := hasL_succ c.f k
      have hat := fc_at (f := c.f) h8
      have hll := hasL_len c.f k
      obtain ⟨x, hx⟩ : ∃ x, c.f.get k = x := ⟨_, rfl⟩
      rw [hx] at hsn hat
      obtain ⟨L, hL⟩ : ∃ L, hasL c.f k = L := ⟨_, rfl⟩
      rw [hL] at hsn hll ⊢
      by_cases h0 : x.kd = 0
      · rw [if_pos h0] at hsn
        repeat' (first | (with_reducible first | (refine wT ?_; (first | ((fail_if_success (have := nl1)); refine wN fun nl1 hnl => ?_) | ((fail_if_success (have := nl2)); refine wN fun nl2 hnl => ?_) | ((fail_if_success (have := nl3)); refine wN fun nl3 hnl => ?_) | ((fail_if_success (have := nl4)); refine wN fun nl4 hnl => ?_) | refine wN fun _ hnl => ?_); revert hnl; (repeat refine wS fun _ _ => ?_); intro hnl) | refine wD (by decide +kernel) ?_ | refine wI (fun h => ?_) fun h => ?_ | refine wF (fun h => ?_) fun h => ?_ | refine wG (fun h => ?_) fun h => ?_ | refine wH (fun h => ?_) fun h => ?_ | ((first | refine mfork_bool (fun h => ?_) fun h => ?_ | refine mgfork_bool (fun h => ?_) fun h => ?_) <;> simp only [h])) | simp (maxSteps := 4000000) (disch := first | decide | assumption | omega | (simp only [wL]; omega)) only [go_sem, simprocAttr, fc_zero, fc_len, fc_cell, fc_take, fc_take', fc_drop, fc_drop', fc_getD, drop_two, drop_three, take_two, take_three, getD_two, getD_three, fc_at, fc_at_app, fc_get0, fc_get1, fc_get2, fc_fold, F8.get_hit, fc_all, fc_assoc, List.append_nil, List.take_zero, u32z, List.cons_append, List.nil_append, hat])
        refine .of (.less ?_ (σ1 := (St.none.set nl1 (.row 117 27 [c.c])).set q (.row 3 1 (intsL L ++ ex))) (le2 (by simp [St.set, *]) (by simp [St.set, *]))) ⟨(k + 1, q, ex), rfl, by rw [hsn], ⟨by simp only; omega, q1⟩, by simp only; omega⟩
        rw [hsn]
        simp (maxSteps := 4000000) (disch := first | decide | assumption | omega | (simp only [wL]; omega)) only [go_sem, simprocAttr, weak_int, weak_same]
        all_goals rfl
      · rw [if_neg h0] at hsn
        have htk : (intsL L ++ ex).take L.length = intsL L := tk_app
        have hdr : (intsL L ++ ex).drop (L.length + 1) = ex.drop 1 := dr_app
        repeat' (first | (with_reducible first | (refine wT ?_; (first | ((fail_if_success (have := nl1)); refine wN fun nl1 hnl => ?_) | ((fail_if_success (have := nl2)); refine wN fun nl2 hnl => ?_) | ((fail_if_success (have := nl3)); refine wN fun nl3 hnl => ?_) | ((fail_if_success (have := nl4)); refine wN fun nl4 hnl => ?_) | refine wN fun _ hnl => ?_); revert hnl; (repeat refine wS fun _ _ => ?_); intro hnl) | refine wD (by decide +kernel) ?_ | refine wI (fun h => ?_) fun h => ?_ | refine wF (fun h => ?_) fun h => ?_ | refine wG (fun h => ?_) fun h => ?_ | refine wH (fun h => ?_) fun h => ?_ | ((first | refine mfork_bool (fun h => ?_) fun h => ?_ | refine mgfork_bool (fun h => ?_) fun h => ?_) <;> simp only [h])) | simp (maxSteps := 4000000) (disch := first | decide | assumption | omega | (simp only [wL]; omega)) only [go_sem, simprocAttr, fc_zero, fc_len, fc_cell, fc_take, fc_take', fc_drop, fc_drop', fc_getD, drop_two, drop_three, take_two, take_three, getD_two, getD_three, fc_at, fc_at_app, fc_get0, fc_get1, fc_get2, fc_fold, F8.get_hit, fc_all, fc_assoc, List.append_nil, List.take_zero, u32z, List.cons_append, List.nil_append, hat, htk, hdr])
        · have hex : ex = [] := List.eq_nil_of_length_eq_zero (by omega)
          subst hex
          clear h
          refine .of (.less ?_ (σ1 := (St.none.set nl1 (.row 117 27 [c.c])).set nl4 (.row 3 1 (intsL (L ++ [k]) ++ []))) (le2 (by simp [St.set, *]) (by simp [St.set, *]))) ⟨(k + 1, nl4, []), rfl, by rw [hsn], ⟨by simp only; omega, by assumption⟩, by simp only; omega⟩
          rw [hsn]
          simp (maxSteps := 4000000) (disch := first | decide | assumption | omega | (simp only [wL]; omega)) only [go_sem, simprocAttr, weak_int, weak_same]
          all_goals first | rfl | (simp; done)
        · refine .of (.less ?_ (σ1 := (St.none.set nl1 (.row 117 27 [c.c])).set nl4 (.row 3 1 (intsL (L ++ [k]) ++ ex.drop 1))) (le2 (by simp [St.set, *]) (by simp [St.set, *]))) ⟨(k + 1, nl4, ex.drop 1), rfl, by rw [hsn], ⟨by simp only; omega, by assumption⟩, by simp only; omega⟩
          rw [hsn]
          simp (maxSteps := 4000000) (disch := first | decide | assumption | omega | (simp only [wL]; omega)) only [go_sem, simprocAttr, weak_int, weak_same]
          all_goals first | rfl | (simp; done)
    · have : k = 8 := by omega
      subst this
      have e : cardB c = numB c.id ++ numB c.ver ++ numB c.lab.toNat ++ numB (hasM c.f) ++ vbs c.f (hasL c.f 8) := by rw [cardB, if_pos hok, fieldsB_bits, hasL_bits]; rfl
      rw [e]
      have hmk := pmake_call (hasL c.f 8) (fun i hi => hasL_lt hi) false (by have := hasL_len c.f 8; omega) (by rw [hasL_fold]; exact hasM_lt c.f)
      rw [hasL_fold] at hmk
      have hml := hasM_lt c.f
      have hll := hasL_len c.f 8
      have hlt8 := fun i => hasL_lt (f := c.f) (k := 8) (i := i)
      have hva := ((cardOk_iff c).1 hok).2
      have hlab := c.lab.toNat_lt
      obtain ⟨L, hL⟩ : ∃ L, hasL c.f 8 = L := ⟨_, rfl⟩
      rw [hL] at hmk hll hlt8 ⊢
      obtain ⟨mm, hmm⟩ : ∃ m, hasM c.f = m := ⟨_, rfl⟩
      rw [hmm] at hmk hml ⊢
      have h1 := numB_len c.id
      have h2 := numB_len c.ver
      have h3 := numB_len (c.lab.toNat : Int)
      have h4 := numB_len (mm : Int)
      have n1 := pnum_call bs t c.id (by omega)
      have n2 := pnum_call (bs ++ numB c.id) false c.ver (by rw [List.length_append]; omega)
      have n3 := pnum_call (bs ++ numB c.id ++ numB c.ver) false (c.lab.toNat : Int) (by simp only [List.length_append]; omega)
      have n4 := pnum_call (bs ++ numB c.id ++ numB c.ver ++ numB (c.lab.toNat : Int)) false (mm : Int) (by simp only [List.length_append]; omega)
      repeat' (first | ((with_reducible refine mdraw_know mixed ?chk (pnumK (fun _ _ => none)) ?_); (case chk => decide +kernel)) | (with_reducible refine know_pure pnumK_hit n1 ?_) | (with_reducible refine know_pure pnumK_hit n2 ?_) | (with_reducible refine know_pure pnumK_hit n3 ?_) | (with_reducible refine use_lend [.bool false, .lst 1 (intsL L) false] hmk (.int _ _) rfl (views_two (.same _) (viewR (set_hit _ _ _))) ?_) | (with_reducible first | refine up n4 ?_) | (with_reducible first | (refine wT ?_; (first | ((fail_if_success (have := nl1)); refine wN fun nl1 hnl => ?_) | ((fail_if_success (have := nl2)); refine wN fun nl2 hnl => ?_) | ((fail_if_success (have := nl3)); refine wN fun nl3 hnl => ?_) | ((fail_if_success (have := nl4)); refine wN fun nl4 hnl => ?_) | refine wN fun _ hnl => ?_); revert hnl; (repeat refine wS fun _ _ => ?_); intro hnl) | refine wD (by decide +kernel) ?_ | refine wI (fun h => ?_) fun h => ?_ | refine wF (fun h => ?_) fun h => ?_ | refine wG (fun h => ?_) fun h => ?_ | refine wH (fun h => ?_) fun h => ?_ | ((first | refine mfork_bool (fun h => ?_) fun h => ?_ | refine mgfork_bool (fun h => ?_) fun h => ?_) <;> simp only [h])) | simp (maxSteps := 4000000) (disch := first | decide | assumption | omega | (simp only [wL]; omega)) only [go_sem, simprocAttr, fc_zero, fc_len, fc_cell, fc_take, fc_take', fc_drop, fc_drop', fc_getD, drop_two, drop_three, take_two, take_three, getD_two, getD_three, fc_at, fc_at_app, fc_get0, fc_get1, fc_get2, fc_fold, F8.get_hit, fc_all, fc_assoc, List.append_nil, List.take_zero, u32z, List.cons_append, List.nil_append])
      obtain ⟨hd, hhd⟩ : ∃ hd, bs ++ numB c.id ++ numB c.ver ++ numB (c.lab.toNat : Int) ++ numB (mm : Int) = hd := ⟨_, rfl⟩
      have hdl : hd.length ≤ 400024 := by rw [← hhd]; simp only [List.length_append]; omega
      have e2 : bs ++ (numB c.id ++ numB c.ver ++ numB (c.lab.toNat : Int) ++ numB (mm : Int) ++ vbs c.f L) = hd ++ vbs c.f L := by rw [← hhd]; simp only [List.append_assoc]
      rw [e2, hhd]
      refine mloop_intro (α := Nat) (fun j => ⟨59, [(47, .int .i64 (j : Int)), (46, .int .i64 (L.length : Int)), (45, .vec 1 q 0 L.length), (3, .ptr nl1 0 0), (0, .lst 1 ((hd ++ vbs c.f (L.take j)).map bc) false)], []⟩) (fun _ => (St.none.set nl1 (.row 117 27 [c.c])).set q (.row 3 1 (intsL L ++ ex))) (fun j => j ≤ L.length) (fun j => L.length - j) (.of (.less ?_ (St.le_refl _)) ⟨0, rfl, rfl, Nat.zero_le _⟩) ?_
      · rw [show vbs c.f (L.take 0) = [] from rfl, List.append_nil]
        simp (maxSteps := 4000000) (disch := first | decide | assumption | omega | (simp only [wL]; omega)) only [go_sem, simprocAttr, weak_int, weak_same]
        all_goals rfl
      · intro j hj
        have hj : j ≤ L.length := hj
        by_cases hjl : j < L.length
        · have hi8 := hlt8 _ (getD_mem 0 hjl)
          have hsn := vbs_snoc (f := c.f) hjl
          have hvl := vbs_len c.f (L.take j)
          rw [List.length_take, Nat.min_eq_left hj] at hvl
          have hga := intsL_at (ex := ex) hjl
          obtain ⟨i, hi⟩ : ∃ i, L.getD j 0 = i := ⟨_, rfl⟩
          rw [hi] at hi8 hsn hga
          obtain ⟨pre, hpre⟩ : ∃ pre, vbs c.f (L.take j) = pre := ⟨_, rfl⟩
          rw [hpre] at hsn hvl ⊢
          have hv := pputval_call (hd ++ pre) (by rw [List.length_append]; omega) false (c.f.get i) (hva i hi8)
          have hat := fc_at (f := c.f) hi8
          repeat' (first | (with_reducible first | refine up hv ?_) | (with_reducible first | (refine wT ?_; (first | ((fail_if_success (have := nl1)); refine wN fun nl1 hnl => ?_) | ((fail_if_success (have := nl2)); refine wN fun nl2 hnl => ?_) | ((fail_if_success (have := nl3)); refine wN fun nl3 hnl => ?_) | ((fail_if_success (have := nl4)); refine wN fun nl4 hnl => ?_) | refine wN fun _ hnl => ?_); revert hnl; (repeat refine wS fun _ _ => ?_); intro hnl) | refine wD (by decide +kernel) ?_ | refine wI (fun h => ?_) fun h => ?_ | refine wF (fun h => ?_) fun h => ?_ | refine wG (fun h => ?_) fun h => ?_ | refine wH (fun h => ?_) fun h => ?_ | ((first | refine mfork_bool (fun h => ?_) fun h => ?_ | refine mgfork_bool (fun h => ?_) fun h => ?_) <;> simp only [h])) | simp (maxSteps := 4000000) (disch := first | decide | assumption | omega | (simp only [wL]; omega)) only [go_sem, simprocAttr, fc_zero, fc_len, fc_cell, fc_take, fc_take', fc_drop, fc_drop', fc_getD, drop_two, drop_three, take_two, take_three, getD_two, getD_three, fc_at, fc_at_app, fc_get0, fc_get1, fc_get2, fc_fold, F8.get_hit, fc_all, fc_assoc, List.append_nil, List.take_zero, u32z, List.cons_append, List.nil_append, hga, hat])
          refine .of (.less (l1 := [(47, .int .i64 ((j + 1 : Nat) : Int)), (46, .int .i64 (L.length : Int)), (45, .vec 1 q 0 L.length), (3, .ptr nl1 0 0), (0, .lst 1 ((hd ++ vbs c.f (L.take (j + 1))).map bc) false)]) ?_ (St.le_refl _)) ⟨j + 1, rfl, rfl, by omega, by omega⟩
          rw [hsn, ← List.append_assoc]
          simp (maxSteps := 4000000) (disch := first | decide | assumption | omega | (simp only [wL]; omega)) only [go_sem, simprocAttr, weak_int, weak_same]
          all_goals rfl
        · have : j = L.length := by omega
          subst this
          rw [List.take_length]
          repeat' (first | (with_reducible first | (refine wT ?_; (first | ((fail_if_success (have := nl1)); refine wN fun nl1 hnl => ?_) | ((fail_if_success (have := nl2)); refine wN fun nl2 hnl => ?_) | ((fail_if_success (have := nl3)); refine wN fun nl3 hnl => ?_) | ((fail_if_success (have := nl4)); refine wN fun nl4 hnl => ?_) | refine wN fun _ hnl => ?_); revert hnl; (repeat refine wS fun _ _ => ?_); intro hnl) | refine wD (by decide +kernel) ?_ | refine wI (fun h => ?_) fun h => ?_ | refine wF (fun h => ?_) fun h => ?_ | refine wG (fun h => ?_) fun h => ?_ | refine wH (fun h => ?_) fun h => ?_ | ((first | refine mfork_bool (fun h => ?_) fun h => ?_ | refine mgfork_bool (fun h => ?_) fun h => ?_) <;> simp only [h])) | simp (maxSteps := 4000000) (disch := first | decide | assumption | omega | (simp only [wL]; omega)) only [go_sem, simprocAttr])
          all_goals first | exact ⟨_, St.le_refl _, rfl⟩ | exact ⟨_, St.le_refl _⟩
end Go.Proofs.YtfbodefnblpflaaGreatDoor
end

section
/- Contract of the program's pages as bytes: the conditions that the theorems name. -/
set_option linter.unusedVariables false
set_option linter.unusedSimpArgs false
namespace Go.Proofs.YtfbodefnblpflaaGreatDoor
set_option maxRecDepth 100000
set_option maxHeartbeats 4000000
theorem flagB_pos (b : Bool) : 0 < (flagB b).length := by
  unfold flagB
  cases b <;> decide
theorem pputpg_call (bs : BL) (hb : bs.length ≤ 300000) (tt : Bool) (p : PG) (hl : p.items.length ≤ 1000000) (hok : pageOk p = true) : MCalls Tryz.prog 68 [.lst 1 (bs.map bc) tt, .agg p.c] St.none (fun r _ => r = .lst 1 ((bs ++ pageB p).map bc) false) := by
  refine MCalls.drops (MCalls.body 63 [.tmp 4] Tryz.func68 rfl rfl rfl rfl ?_)
  have hc := ppgcheck_call p hl
  rw [hok] at hc
  have hfr : tokOk p.fr = true := by
    unfold pageOk at hok
    rw [Bool.and_eq_true] at hok
    exact hok.1
  have l1 := numB_len p.code
  have l2 := (inferInstance : LB (tokB p.fr) 24).h
  have l3 := (inferInstance : LB (tokB p.to) 24).h
  have l4 := (inferInstance : LB (flagB p.reset) 6).h
  have l5 := numB_len (p.items.length : Int)
  have n1 := pnum_call bs tt p.code (by omega)
  have n2 := pputtok_call (bs ++ numB p.code) (by simp only [List.length_append]; omega) false p.fr hfr
  obtain ⟨hd, hhd⟩ : ∃ hd, bs ++ numB p.code ++ tokB p.fr = hd := ⟨_, rfl⟩
  have hdl : hd.length ≤ 300100 := by rw [← hhd]; simp only [List.length_append]; omega
  have e1 : bs ++ pageB p = hd ++ (if p.code = 0 then flagB p.reset ++ tokB p.to ++ (if p.reset = true then [] else numB p.items.length ++ (p.items.map itemB).flatten) else []) := by
    unfold pageB
    rw [if_pos hok, ← hhd]
    simp only [List.append_assoc]
  rw [e1]
  clear e1
  rw [hhd] at n2
  obtain ⟨C, hN, hT, hD1, hD2⟩ : ∃ C : Know, (∀ (bs : BL) t n, C 21 [.lst 1 (bs.map bc) t, .int .i64 n] = some ⟨[], fun v => v = .lst 1 ((bs ++ numB n).map bc) false, none⟩) ∧ C 62 [.lst 1 ((bs ++ numB p.code).map bc) false, .agg p.fr.c] = some ⟨[], fun w => w = .lst 1 (hd.map bc) false, none⟩
      ∧ C 122 [.lst 1 (hd.map bc) false, .bool p.reset] = some ⟨[], fun w => w = .lst 1 ((hd ++ flagB p.reset).map bc) false, none⟩ ∧ C 62 [.lst 1 ((hd ++ flagB p.reset).map bc) false, .agg p.to.c] = some ⟨[], fun w => w = .lst 1 ((hd ++ flagB p.reset ++ tokB p.to).map bc) false, none⟩ := by
    refine ⟨pnumK (kn [(62, [.lst 1 ((bs ++ numB p.code).map bc) false, .agg p.fr.c], ⟨[], fun w => w = .lst 1 (hd.map bc) false, none⟩), (122, [.lst 1 (hd.map bc) false, .bool p.reset], ⟨[], fun w => w = .lst 1 ((hd ++ flagB p.reset).map bc) false, none⟩), (62, [.lst 1 ((hd ++ flagB p.reset).map bc) false, .agg p.to.c], ⟨[], fun w => w = .lst 1 ((hd ++ flagB p.reset ++ tokB p.to).map bc) false, none⟩)]), fun _ _ _ => pnumK_hit, pnumK_skip kn_hit rfl, pnumK_skip (kn_skip (fun h => absurd h.1 (by decide)) kn_hit) rfl, pnumK_skip (kn_skip (fun h => ?_) (kn_skip (fun h => absurd h.1 (by decide)) kn_hit)) rfl⟩
    have h := h.2
    rw [List.cons.injEq, MV.lst.injEq] at h
    have h := congrArg List.length h.1.2.1
    rw [List.length_map, List.length_map, ← hhd] at h
    simp only [List.length_append] at h
    have := flagB_pos p.reset
    omega
  by_cases h0 : p.code = 0
  · rw [if_pos h0]
    have htt := pageOk_to hok h0
    have n3 := pflag_call hd false p.reset (by omega)
    have n4 := pputtok_call (hd ++ flagB p.reset) (by simp only [List.length_append]; omega) false p.to htt
    cases hr : p.reset
    · rw [if_neg (by simp)]
      obtain ⟨-, hio, hi16⟩ := pageOk_items hok h0 hr
      rw [hr] at n3 n4 hD1 hD2 l4
      simp only [PG.c, PG.k, hr] at hc
      have n5 := pnum_call (hd ++ flagB false ++ tokB p.to) false (p.items.length : Int) (by simp only [List.length_append]; omega)
      repeat' (first | ((with_reducible refine mdraw_know mixed ?chk C ?_); (case chk => decide +kernel)) | (with_reducible refine know_pure (hN _ _ _) n1 ?_) | (with_reducible refine know_pure hT n2 ?_) | (with_reducible refine know_pure hD1 n3 ?_) | (with_reducible refine know_pure hD2 n4 ?_) | (with_reducible first | refine up hc ?_ | refine up n5 ?_) | (with_reducible first | (refine wT ?_; refine wN fun _ hnl => ?_; revert hnl; (repeat refine wS fun _ _ => ?_); intro hnl) | refine wD (by decide +kernel) ?_ | refine wI (fun h => ?_) fun h => ?_ | refine wF (fun h => ?_) fun h => ?_ | refine wG (fun h => ?_) fun h => ?_ | refine wH (fun h => ?_) fun h => ?_ | ((first | refine mfork_bool (fun h => ?_) fun h => ?_ | refine mgfork_bool (fun h => ?_) fun h => ?_) <;> simp only [h])) | simp (maxSteps := 4000000) (disch := first | decide | assumption | omega | (simp only [wL]; omega)) only [go_sem, simprocAttr, Tryz.f68, hr])
      obtain ⟨hf, hhf⟩ : ∃ hf, hd ++ flagB false ++ tokB p.to ++ numB p.items.length = hf := ⟨_, rfl⟩
      have hfl : hf.length ≤ 300200 := by rw [← hhf]; simp only [List.length_append]; omega
      have e2 : hd ++ (flagB false ++ tokB p.to ++ (numB p.items.length ++ (p.items.map itemB).flatten)) = hf ++ (p.items.map itemB).flatten := by rw [← hhf]; simp only [List.append_assoc]
      rw [e2, hhf]
      clear e2 hhf n1 n2 n3 n4 n5 hD1 hD2 hT hN hc hhd
      refine mloop_intro (α := Nat) (fun i => ⟨63, [(41, .int .i64 (i : Int)), (40, .int .i64 (p.items.length : Int)), (39, .lst 28 (IT.ks p.items) false), (0, .lst 1 ((hf ++ ((p.items.take i).map itemB).flatten).map bc) false)], []⟩) (fun _ => St.none) (fun i => i ≤ p.items.length) (fun i => p.items.length - i) (.of (.less ?_ (St.none_le _)) ⟨0, rfl, rfl, Nat.zero_le _⟩) ?_
      · rw [List.take_zero, List.map_nil, List.flatten_nil, List.append_nil]
        simp (maxSteps := 4000000) (disch := first | decide | assumption | omega | (simp only [wL]; omega)) only [go_sem, simprocAttr, weak_int, weak_same]
        all_goals rfl
      · intro i hi
        have hi : i ≤ p.items.length := hi
        have hle := items_len (p.items.take i)
        rw [List.length_take, Nat.min_eq_left hi] at hle
        by_cases hlt : i < p.items.length
        · have hsn := items_snoc hlt
          obtain ⟨k, hk⟩ := itemsOk_at hio hlt
          obtain ⟨x, hx⟩ : ∃ x, p.items.getD i it0 = x := ⟨_, rfl⟩
          rw [hx] at hsn hk
          have k1 := numB_len x.kd
          obtain ⟨pre, hpre⟩ : ∃ pre, hf ++ ((p.items.take i).map itemB).flatten = pre := ⟨_, rfl⟩
          have hpl : pre.length ≤ 310000 := by rw [← hpre, List.length_append]; omega
          have hsn' : hf ++ ((p.items.take (i + 1)).map itemB).flatten = pre ++ itemB x := by rw [hsn, ← hpre, List.append_assoc]
          rw [hpre]
          clear hsn hpre
          have hn1 := pnum_call pre false x.kd (by omega)
          have hn2 := pnum_call (pre ++ numB x.kd) false x.c.id (by simp only [List.length_append]; omega)
          have hcd := fun h => pputcard_call (pre ++ numB x.kd) (by simp only [List.length_append]; omega) false x.c (itOk_card hk h)
          by_cases h2 : x.kd = 2
          · have e : pre ++ itemB x = pre ++ numB x.kd ++ numB x.c.id := by
              rw [itemB, if_pos h2]; simp only [List.append_assoc]
            repeat' (first | (with_reducible first | refine up hn1 ?_ | refine up hn2 ?_) | (with_reducible first | (refine wT ?_; refine wN fun _ hnl => ?_; revert hnl; (repeat refine wS fun _ _ => ?_); intro hnl) | refine wD (by decide +kernel) ?_ | refine wI (fun h => ?_) fun h => ?_ | refine wF (fun h => ?_) fun h => ?_ | refine wG (fun h => ?_) fun h => ?_ | refine wH (fun h => ?_) fun h => ?_ | ((first | refine mfork_bool (fun h => ?_) fun h => ?_ | refine mgfork_bool (fun h => ?_) fun h => ?_) <;> simp only [h])) | simp (maxSteps := 4000000) (disch := first | decide | assumption | omega | (simp only [wL]; omega)) only [go_sem, simprocAttr, fc_zero, fc_len, fc_cell, fc_take, fc_take', fc_drop, fc_drop', fc_getD, drop_two, drop_three, take_two, take_three, getD_two, getD_three, fc_at, fc_at_app, fc_get0, fc_get1, fc_get2, fc_fold, F8.get_hit, getD_mapd it0, hx])
            refine .of (.less (l1 := [(41, .int .i64 ((i + 1 : Nat) : Int)), (40, .int .i64 (p.items.length : Int)), (39, .lst 28 (IT.ks p.items) false), (0, .lst 1 ((hf ++ ((p.items.take (i + 1)).map itemB).flatten).map bc) false)]) ?_ (St.none_le _)) ⟨i + 1, rfl, rfl, by omega, by omega⟩
            rw [hsn', e]
            simp (maxSteps := 4000000) (disch := first | decide | assumption | omega | (simp only [wL]; omega)) only [go_sem, simprocAttr, weak_int, weak_same]
            all_goals rfl
          · have hcd := hcd h2
            have e : pre ++ itemB x = pre ++ numB x.kd ++ cardB x.c := by
              rw [itemB, if_neg h2]; simp only [List.append_assoc]
            repeat' (first | (with_reducible first | refine up hn1 ?_ | refine up hcd ?_) | (with_reducible first | (refine wT ?_; refine wN fun _ hnl => ?_; revert hnl; (repeat refine wS fun _ _ => ?_); intro hnl) | refine wD (by decide +kernel) ?_ | refine wI (fun h => ?_) fun h => ?_ | refine wF (fun h => ?_) fun h => ?_ | refine wG (fun h => ?_) fun h => ?_ | refine wH (fun h => ?_) fun h => ?_ | ((first | refine mfork_bool (fun h => ?_) fun h => ?_ | refine mgfork_bool (fun h => ?_) fun h => ?_) <;> simp only [h])) | simp (maxSteps := 4000000) (disch := first | decide | assumption | omega | (simp only [wL]; omega)) only [go_sem, simprocAttr, fc_zero, fc_len, fc_cell, fc_take, fc_take', fc_drop, fc_drop', fc_getD, drop_two, drop_three, take_two, take_three, getD_two, getD_three, fc_at, fc_at_app, fc_get0, fc_get1, fc_get2, fc_fold, F8.get_hit, getD_mapd it0, hx])
            refine .of (.less (l1 := [(41, .int .i64 ((i + 1 : Nat) : Int)), (40, .int .i64 (p.items.length : Int)), (39, .lst 28 (IT.ks p.items) false), (0, .lst 1 ((hf ++ ((p.items.take (i + 1)).map itemB).flatten).map bc) false)]) ?_ (St.none_le _)) ⟨i + 1, rfl, rfl, by omega, by omega⟩
            rw [hsn', e]
            simp (maxSteps := 4000000) (disch := first | decide | assumption | omega | (simp only [wL]; omega)) only [go_sem, simprocAttr, weak_int, weak_same]
            all_goals rfl
        · have : i = p.items.length := by omega
          subst this
          rw [List.take_length]
          repeat' (first | (with_reducible first | (refine wT ?_; refine wN fun _ hnl => ?_; revert hnl; (repeat refine wS fun _ _ => ?_); intro hnl) | refine wD (by decide +kernel) ?_ | refine wI (fun h => ?_) fun h => ?_ | refine wF (fun h => ?_) fun h => ?_ | refine wG (fun h => ?_) fun h => ?_ | refine wH (fun h => ?_) fun h => ?_ | ((first | refine mfork_bool (fun h => ?_) fun h => ?_ | refine mgfork_bool (fun h => ?_) fun h => ?_) <;> simp only [h])) | simp (maxSteps := 4000000) (disch := first | decide | assumption | omega | (simp only [wL]; omega)) only [go_sem, simprocAttr])
          all_goals first | exact ⟨_, St.le_refl _, rfl⟩ | exact ⟨_, St.le_refl _⟩
    · rw [if_pos rfl]
      rw [hr] at n3 n4 hD1 hD2 l4
      simp only [PG.c, PG.k, hr] at hc
      repeat' (first | ((with_reducible refine mdraw_know mixed ?chk C ?_); (case chk => decide +kernel)) | (with_reducible refine know_pure (hN _ _ _) n1 ?_) | (with_reducible refine know_pure hT n2 ?_) | (with_reducible refine know_pure hD1 n3 ?_) | (with_reducible refine know_pure hD2 n4 ?_) | (with_reducible first | refine up hc ?_) | (with_reducible first | (refine wT ?_; refine wN fun _ hnl => ?_; revert hnl; (repeat refine wS fun _ _ => ?_); intro hnl) | refine wD (by decide +kernel) ?_ | refine wI (fun h => ?_) fun h => ?_ | refine wF (fun h => ?_) fun h => ?_ | refine wG (fun h => ?_) fun h => ?_ | refine wH (fun h => ?_) fun h => ?_ | ((first | refine mfork_bool (fun h => ?_) fun h => ?_ | refine mgfork_bool (fun h => ?_) fun h => ?_) <;> simp only [h])) | simp (maxSteps := 4000000) (disch := first | decide | assumption | omega | (simp only [wL]; omega)) only [go_sem, simprocAttr, Tryz.f68, hr])
      all_goals first | refine ⟨_, St.le_refl _, ?_⟩ | refine ⟨_, St.le_refl _⟩
      all_goals simp
  · rw [if_neg h0]
    repeat' (first | ((with_reducible refine mdraw_know mixed ?chk C ?_); (case chk => decide +kernel)) | (with_reducible refine know_pure (hN _ _ _) n1 ?_) | (with_reducible refine know_pure hT n2 ?_) | (with_reducible first | refine up hc ?_) | (with_reducible first | (refine wT ?_; refine wN fun _ hnl => ?_; revert hnl; (repeat refine wS fun _ _ => ?_); intro hnl) | refine wD (by decide +kernel) ?_ | refine wI (fun h => ?_) fun h => ?_ | refine wF (fun h => ?_) fun h => ?_ | refine wG (fun h => ?_) fun h => ?_ | refine wH (fun h => ?_) fun h => ?_ | ((first | refine mfork_bool (fun h => ?_) fun h => ?_ | refine mgfork_bool (fun h => ?_) fun h => ?_) <;> simp only [h])) | simp (maxSteps := 4000000) (disch := first | decide | assumption | omega | (simp only [wL]; omega)) only [go_sem, simprocAttr, Tryz.f68])
    all_goals first | refine ⟨_, St.le_refl _, ?_⟩ | refine ⟨_, St.le_refl _⟩
    all_goals simp
end Go.Proofs.YtfbodefnblpflaaGreatDoor
end

section
/- Contracts of the program's messages: whether two are alike, parts: the conditions that the theorems name. -/
set_option linter.unusedVariables false
set_option linter.unusedSimpArgs false
namespace Go.Proofs.YtfbodefnblpflaaGreatDoor
set_option maxRecDepth 100000
set_option maxHeartbeats 4000000
theorem pxsame_call (a b : MS) (hs : Sm a) (ht : Sm b) : MCalls Tryz.prog 13 [.agg a.c, .agg b.c] St.none (fun r _ => r = .bool (decide (a = b))) := by
  refine MCalls.drops (MCalls.body 50 [.tmp 4] Tryz.func13 rfl rfl rfl rfl ?_)
  have h1 := pcmsame_call a.cmd b.cmd hs.f ht.f
  have h2 := prsame_call a.rep b.rep hs.g ht.g
  have h3 := ppgsame_call a.page b.page hs.i
  have h4 := mbn_token a.tok b.tok
  obtain ⟨b1, hb1⟩ : ∃ x, decide (a.cmd = b.cmd) = x := ⟨_, rfl⟩
  obtain ⟨b2, hb2⟩ : ∃ x, decide (a.rep = b.rep) = x := ⟨_, rfl⟩
  obtain ⟨b3, hb3⟩ : ∃ x, decide (a.page = b.page) = x := ⟨_, rfl⟩
  obtain ⟨b4, hb4⟩ : ∃ x, decide (a.tok = b.tok) = x := ⟨_, rfl⟩
  obtain ⟨res, hres⟩ : ∃ r, decide (a = b) = r := ⟨_, rfl⟩
  have e : Unit → decide (a.kd = b.kd ∧ a.size = b.size ∧ b1 = true ∧ b4 = true ∧ b2 = true ∧ b3 = true ∧ a.code = b.code) = res := fun _ => by
    rw [← hres, ← hb1, ← hb2, ← hb3, ← hb4]
    refine decide_eq_decide.mpr ?_
    rw [ms_iff, decide_eq_true_iff, decide_eq_true_iff, decide_eq_true_iff, decide_eq_true_iff]
  rw [hb1] at h1
  rw [hb2] at h2
  rw [hb3] at h3
  rw [hb4] at h4
  rw [hres]
  clear hres hb1 hb2 hb3 hb4
  cases b1
  case' true => cases b4
  case' true.true => cases b2
  case' true.true.true => cases b3
  all_goals
    repeat' (first | (with_reducible first | refine up h1 ?_ | refine up h2 ?_ | refine up h3 ?_) | (with_reducible first | (refine wT ?_; refine wN fun _ hnl => ?_; revert hnl; (repeat refine wS fun _ _ => ?_); intro hnl) | refine wD (by decide +kernel) ?_ | refine wI (fun h => ?_) fun h => ?_ | refine wF (fun h => ?_) fun h => ?_ | refine wG (fun h => ?_) fun h => ?_ | refine wH (fun h => ?_) fun h => ?_ | ((first | refine mfork_bool (fun h => ?_) fun h => ?_ | refine mgfork_bool (fun h => ?_) fun h => ?_) <;> simp only [h])) | simp (maxSteps := 4000000) (disch := first | decide | assumption | omega | (simp only [wL]; omega)) only [go_sem, simprocAttr, Tryz.f13, fc_zero, fc_len, fc_cell, fc_take, fc_take', fc_drop, fc_drop', fc_getD, drop_two, drop_three, take_two, take_three, getD_two, getD_three, fc_at, fc_at_app, fc_get0, fc_get1, fc_get2, fc_fold, F8.get_hit, fc_all, fc_assoc, List.append_nil, List.take_zero, u32z, List.cons_append, List.nil_append, h4])
    all_goals first | refine ⟨_, St.le_refl _, ?_⟩ | skip
    all_goals rw [← e ()]
    all_goals clear e
    all_goals (first | (simp [*]; done) | (simp_all; done) | exact decide_eq_decide.mpr (by omega) | skip)
abbrev fnP (g : FuncId) : MV := .fn (.func g) [] []
theorem pasks_call : MCalls Tryz.prog 22 [] St.none (fun r _ => r = .agg [fnP 57, fnP 59, fnP 60]) := by
  refine MCalls.drops (MCalls.body 4 [.cell 0 68] Tryz.func22 rfl rfl rfl rfl ?_)
  repeat' (first | (with_reducible first | (refine wT ?_; refine wN fun _ hnl => ?_; revert hnl; (repeat refine wS fun _ _ => ?_); intro hnl) | refine wD (by decide +kernel) ?_ | refine wI (fun h => ?_) fun h => ?_ | refine wF (fun h => ?_) fun h => ?_ | refine wG (fun h => ?_) fun h => ?_ | refine wH (fun h => ?_) fun h => ?_ | ((first | refine mfork_bool (fun h => ?_) fun h => ?_ | refine mgfork_bool (fun h => ?_) fun h => ?_) <;> simp only [h])) | simp (maxSteps := 4000000) (disch := first | decide | assumption | omega | (simp only [wL]; omega)) only [go_sem, simprocAttr, Tryz.f22])
  all_goals first | exact ⟨_, St.le_refl _, rfl⟩ | exact ⟨_, St.le_refl _⟩
theorem ptokens_call : MCalls Tryz.prog 23 [] St.none (fun r _ => r = .agg [fnP 61, fnP 62, fnP 63]) := by
  refine MCalls.drops (MCalls.body 2 [.cell 0 74] Tryz.func23 rfl rfl rfl rfl ?_)
  repeat' (first | (with_reducible first | (refine wT ?_; refine wN fun _ hnl => ?_; revert hnl; (repeat refine wS fun _ _ => ?_); intro hnl) | refine wD (by decide +kernel) ?_ | refine wI (fun h => ?_) fun h => ?_ | refine wF (fun h => ?_) fun h => ?_ | refine wG (fun h => ?_) fun h => ?_ | refine wH (fun h => ?_) fun h => ?_ | ((first | refine mfork_bool (fun h => ?_) fun h => ?_ | refine mgfork_bool (fun h => ?_) fun h => ?_) <;> simp only [h])) | simp (maxSteps := 4000000) (disch := first | decide | assumption | omega | (simp only [wL]; omega)) only [go_sem, simprocAttr, Tryz.f23])
  all_goals first | exact ⟨_, St.le_refl _, rfl⟩ | exact ⟨_, St.le_refl _⟩
theorem preplies_call : MCalls Tryz.prog 24 [] St.none (fun r _ => r = .agg [fnP 64, fnP 65, fnP 66]) := by
  refine MCalls.drops (MCalls.body 2 [.cell 0 80] Tryz.func24 rfl rfl rfl rfl ?_)
  repeat' (first | (with_reducible first | (refine wT ?_; refine wN fun _ hnl => ?_; revert hnl; (repeat refine wS fun _ _ => ?_); intro hnl) | refine wD (by decide +kernel) ?_ | refine wI (fun h => ?_) fun h => ?_ | refine wF (fun h => ?_) fun h => ?_ | refine wG (fun h => ?_) fun h => ?_ | refine wH (fun h => ?_) fun h => ?_ | ((first | refine mfork_bool (fun h => ?_) fun h => ?_ | refine mgfork_bool (fun h => ?_) fun h => ?_) <;> simp only [h])) | simp (maxSteps := 4000000) (disch := first | decide | assumption | omega | (simp only [wL]; omega)) only [go_sem, simprocAttr, Tryz.f24])
  all_goals first | exact ⟨_, St.le_refl _, rfl⟩ | exact ⟨_, St.le_refl _⟩
theorem ppages_call : MCalls Tryz.prog 25 [] St.none (fun r _ => r = .agg [fnP 67, fnP 68, fnP 69]) := by
  refine MCalls.drops (MCalls.body 2 [.cell 0 86] Tryz.func25 rfl rfl rfl rfl ?_)
  repeat' (first | (with_reducible first | (refine wT ?_; refine wN fun _ hnl => ?_; revert hnl; (repeat refine wS fun _ _ => ?_); intro hnl) | refine wD (by decide +kernel) ?_ | refine wI (fun h => ?_) fun h => ?_ | refine wF (fun h => ?_) fun h => ?_ | refine wG (fun h => ?_) fun h => ?_ | refine wH (fun h => ?_) fun h => ?_ | ((first | refine mfork_bool (fun h => ?_) fun h => ?_ | refine mgfork_bool (fun h => ?_) fun h => ?_) <;> simp only [h])) | simp (maxSteps := 4000000) (disch := first | decide | assumption | omega | (simp only [wL]; omega)) only [go_sem, simprocAttr, Tryz.f25])
  all_goals first | exact ⟨_, St.le_refl _, rfl⟩ | exact ⟨_, St.le_refl _⟩
theorem pask1_call (c : CM) (hg : Rg c) (hl : c.fl.length ≤ 1000000) : MCalls Tryz.prog 57 [.agg c.c] St.none (fun r _ => r = .bool (cmdOk c && decide (c.kd ≠ 1 ∧ c.kd ≠ 5))) := by
  refine MCalls.drops (MCalls.body 15 [.tmp 2] Tryz.func57 rfl rfl rfl rfl ?_)
  have hc := pcmcheck_call c hg hl
  cases hk : cmdOk c <;> rw [hk] at hc
  all_goals
    repeat' (first | (with_reducible first | refine up hc ?_) | (with_reducible first | (refine wT ?_; refine wN fun _ hnl => ?_; revert hnl; (repeat refine wS fun _ _ => ?_); intro hnl) | refine wD (by decide +kernel) ?_ | refine wI (fun h => ?_) fun h => ?_ | refine wF (fun h => ?_) fun h => ?_ | refine wG (fun h => ?_) fun h => ?_ | refine wH (fun h => ?_) fun h => ?_ | ((first | refine mfork_bool (fun h => ?_) fun h => ?_ | refine mgfork_bool (fun h => ?_) fun h => ?_) <;> simp only [h])) | simp (maxSteps := 4000000) (disch := first | decide | assumption | omega | (simp only [wL]; omega)) only [go_sem, simprocAttr, Tryz.f57, fc_zero, fc_len, fc_cell, fc_take, fc_take', fc_drop, fc_drop', fc_getD, drop_two, drop_three, take_two, take_three, getD_two, getD_three, fc_at, fc_at_app, fc_get0, fc_get1, fc_get2, fc_fold, F8.get_hit, fc_all, fc_assoc, List.append_nil, List.take_zero, u32z, List.cons_append, List.nil_append])
    all_goals first | refine ⟨_, St.le_refl _, ?_⟩ | refine ⟨_, St.le_refl _⟩ | skip
    all_goals simp [*]
/-- What a number's part is, its greatest one in a place of its own. -/
abbrev nbP (b : Nat) : List MV := [.fn (.func 75) [] [.ptr b 0 0], fnP 21, .fn (.func 76) [] [.ptr b 0 0]]
abbrev nbO (most : Int) : MObj := .row 3 1 [[.int .i64 most]]
theorem pnumber_call (most : Int) : MCalls Tryz.prog 31 [.int .i64 most] St.none (fun v σ' => ∃ l, v = .agg (nbP l) ∧ σ' = St.none.set l (nbO most)) := by
  refine MCalls.drops (MCalls.body 6 [.cell 2 96] Tryz.func31 rfl rfl rfl rfl ?_)
  repeat' (first | (with_reducible first | (refine wT ?_; (first | ((fail_if_success (have := nl1)); refine wN fun nl1 hnl => ?_) | ((fail_if_success (have := nl2)); refine wN fun nl2 hnl => ?_) | refine wN fun _ hnl => ?_); revert hnl; (repeat refine wS fun _ _ => ?_); intro hnl) | refine wD (by decide +kernel) ?_ | refine wI (fun h => ?_) fun h => ?_ | refine wF (fun h => ?_) fun h => ?_ | refine wG (fun h => ?_) fun h => ?_ | refine wH (fun h => ?_) fun h => ?_ | ((first | refine mfork_bool (fun h => ?_) fun h => ?_ | refine mgfork_bool (fun h => ?_) fun h => ?_) <;> simp only [h])) | simp (maxSteps := 4000000) (disch := first | decide | assumption | omega | (simp only [wL]; omega)) only [go_sem, simprocAttr, Tryz.f31])
  have d1 : nl2 ≠ nl1 := by assumption
  exact ⟨St.none.set nl1 (nbO most), St.set_le (St.none_le _) (by simp [St.set, Ne.symm d1]), nl1, rfl, rfl⟩
theorem pnumber1_call (most n : Int) (b : Nat) : MCalls Tryz.prog 75 [.int .i64 n, .ptr b 0 0] (St.none.set b (nbO most)) (fun v σ' => v = .bool (decide (1 ≤ n ∧ n ≤ most)) ∧ σ' = St.none.set b (nbO most)) := by
  refine (MCalls.body 11 [.tmp 3] Tryz.func75 rfl rfl rfl rfl ?_)
  repeat' (first | (with_reducible first | (refine wT ?_; refine wN fun _ hnl => ?_; revert hnl; (repeat refine wS fun _ _ => ?_); intro hnl) | refine wD (by decide +kernel) ?_ | refine wI (fun h => ?_) fun h => ?_ | refine wF (fun h => ?_) fun h => ?_ | refine wG (fun h => ?_) fun h => ?_ | refine wH (fun h => ?_) fun h => ?_ | ((first | refine mfork_bool (fun h => ?_) fun h => ?_ | refine mgfork_bool (fun h => ?_) fun h => ?_) <;> simp only [h])) | simp (maxSteps := 4000000) (disch := first | decide | assumption | omega | (simp only [wL]; omega)) only [go_sem, simprocAttr, Tryz.f75])
  all_goals first | exact decide_eq_decide.mpr (by omega) | exact (decide_eq_false (by omega)).symm
/-- What is known of numbers' parts. -/
noncomputable def nbK (most : Int) (C : Know) : Know := fun g ms => if g = 31 then some ⟨[], fun _ => True, some (nbO most, fun b => .agg (nbP b))⟩ else if g = 75 then match ms with | [.int .i64 n, .ptr b 0 0] => some ⟨[b], fun v => v = .bool (decide (1 ≤ n ∧ n ≤ most)), none⟩ | _ => none else C g ms
theorem nbK_new {most : Int} {C : Know} {ms : List MV} : nbK most C 31 ms = some ⟨[], fun _ => True, some (nbO most, fun b => .agg (nbP b))⟩ := rfl
theorem nbK_may {most n : Int} {C : Know} {b : Nat} : nbK most C 75 [.int .i64 n, .ptr b 0 0] = some ⟨[b], fun v => v = .bool (decide (1 ≤ n ∧ n ≤ most)), none⟩ := rfl
theorem nbK_skip {most : Int} {C : Know} {g : FuncId} {ms : List MV} {F : Fact} (h : C g ms = some F) (h1 : (g == 31) = false) (h2 : (g == 75) = false) : nbK most C g ms = some F := by
  unfold nbK
  rw [if_neg (by simpa using h1), if_neg (by simpa using h2)]
  exact h
theorem know_nb {most n : Int} {C : Know} {b : Nat} {σ : St} {k : MV → St → Prop} (hσ : σ b = some (nbO most)) (hk : R (mlet (.bool (decide (1 ≤ n ∧ n ≤ most))) σ k)) : R (mcallC Tryz.prog (nbK most C) 75 [.int .i64 n, .ptr b 0 0] σ k) :=
  know_at [b] [nbO most] nbK_may (by simp [hσ]) (pnumber1_call most n b) ⟨_, rfl⟩ fun v hv => by subst hv; exact hk
theorem pxcheck1 (m : MS) (hs : Sm m) (hg : Rg m.cmd) (k1 : m.kd = 1) : MCalls Tryz.prog 11 [.agg m.c] St.none (fun r _ => r = .bool (msgOk m)) := by
  refine MCalls.drops (MCalls.body 76 [.tmp 2] Tryz.func11 rfl rfl rfl rfl ?_)
  obtain ⟨res, hres⟩ : ∃ b, msgOk m = b := ⟨_, rfl⟩
  rw [hres]
  rw [msgOk_1 k1] at hres
  have ha := pasks_call
  have hc := pask1_call m.cmd hg hs.f
  have hq := pxsame_call ({ ms0 with kd := m.kd, cmd := m.cmd }) m ⟨by first | exact hs.f | simp [ms0, cm0], by first | exact hs.g | simp [ms0, re0], by first | exact hs.i | simp [ms0, pg0]⟩ hs
  obtain ⟨b, hb⟩ : ∃ b, decide (({ ms0 with kd := m.kd, cmd := m.cmd } : MS) = m) = b := ⟨_, rfl⟩
  rw [hb] at hres hq
  have hv := fun (σ : St) (f g i : MV) => vms (σ := σ) (m := { ms0 with kd := m.kd, cmd := m.cmd }) (f := f) (g := g) (i := i)
  simp only [MS.c, MS.k, ms0, cm0, ed0, pa0, tk0, re0, pg0, u32z] at hv hq
  have e := fun (_ : Unit) => hres
  clear hres hb
  obtain ⟨ok, hok⟩ : ∃ b, (cmdOk m.cmd && decide (m.cmd.kd ≠ 1 ∧ m.cmd.kd ≠ 5)) = b := ⟨_, rfl⟩
  rw [hok] at hc e
  obtain ⟨C, hC1, hC2⟩ : ∃ C : Know, C 22 [] = some ⟨[], fun v => v = .agg [fnP 57, fnP 59, fnP 60], none⟩ ∧ C 57 [.agg m.cmd.c] = some ⟨[], fun v => v = .bool ok, none⟩ :=
    ⟨kn [(22, [], ⟨[], fun v => v = .agg [fnP 57, fnP 59, fnP 60], none⟩), (57, [.agg m.cmd.c], ⟨[], fun v => v = .bool ok, none⟩)], kn_hit, kn_skip (fun h => absurd h.1 (by decide)) kn_hit⟩
  clear hok
  cases b <;> cases ok
  all_goals
    repeat' (first | ((with_reducible refine mdraw_know mixed ?chk C ?_); (case chk => decide +kernel)) | (with_reducible refine know_pure hC1 ha ?_) | (with_reducible refine know_pure hC2 hc ?_) | (with_reducible refine use_lend _ hq (.bool _) rfl (views_two (hv _ _ _ _ (.same _) (.nil _ _) (.nil _ _)) (.same _)) ?_) | (with_reducible first | (refine wT ?_; refine wN fun _ hnl => ?_; revert hnl; (repeat refine wS fun _ _ => ?_); intro hnl) | refine wD (by decide +kernel) ?_ | refine wI (fun h => ?_) fun h => ?_ | refine wF (fun h => ?_) fun h => ?_ | refine wG (fun h => ?_) fun h => ?_ | refine wH (fun h => ?_) fun h => ?_ | ((first | refine mfork_bool (fun h => ?_) fun h => ?_ | refine mgfork_bool (fun h => ?_) fun h => ?_) <;> simp only [h])) | simp (maxSteps := 4000000) (disch := first | decide | assumption | omega | (simp only [wL]; omega)) only [go_sem, simprocAttr, Tryz.f11, fc_zero, fc_len, fc_cell, fc_take, fc_take', fc_drop, fc_drop', fc_getD, drop_two, drop_three, take_two, take_three, getD_two, getD_three, fc_at, fc_at_app, fc_get0, fc_get1, fc_get2, fc_fold, F8.get_hit, fc_all, fc_assoc, List.append_nil, List.take_zero, u32z, List.cons_append, List.nil_append])
    all_goals first | refine ⟨_, St.le_refl _, ?_⟩ | refine ⟨_, St.le_refl _⟩ | skip
    all_goals rw [← e ()]
    all_goals (first | (simp [*]; done) | (simp; omega) | skip)
end Go.Proofs.YtfbodefnblpflaaGreatDoor
end

section
/- Contract of which of the program's messages may be: the conditions that the theorem names. -/
set_option linter.unusedVariables false
set_option linter.unusedSimpArgs false
namespace Go.Proofs.YtfbodefnblpflaaGreatDoor
set_option maxRecDepth 100000
set_option maxHeartbeats 4000000
/-- A region whose order is drawn: pointers to places apart from one another. -/
theorem mdraw_rs {P : Program} {id : Nat} {l : List Oper} {f : FR} {σ : St} {Q : MQ} (hm : P.follows .mixedOrders = true) (ds : List (Nat × Nat)) (Ds : List Nat) (hds : ds.map (·.1) = Ds) (Rs : List (Nat × Nat)) (hchk : chkD ⟨Ds, Rs, none⟩ l.toArray = true) (C : Know)
    (h1 : ∀ p, p ∈ ds → ∃ i o, f.get p.1 = .ptr p.2 i o) (h2 : (ds.map (·.2)).Pairwise (· ≠ ·)) (h3 : Ds.Pairwise (· ≠ ·)) (h4 : ∀ p, p ∈ Rs → p.2 ∈ Ds ∧ ∀ l i o, f.get p.1 = .ptr l i o → l = locD ds p.2)
    (h : R (mopsC P C (@OfNat.ofNat (Array Oper) (nat_lit 0) (@_root_.id (OfNat (Array Oper) (nat_lit 0)) (OfNat.mk (l.toArray)))) (Q .normal) (@OfNat.ofNat (List Oper) (nat_lit 0) (@_root_.id (OfNat (List Oper) (nat_lit 0)) (OfNat.mk l))) f σ)) : R (mdraw P id (@OfNat.ofNat (List Oper) (nat_lit 0) (@_root_.id (OfNat (List Oper) (nat_lit 0)) (OfNat.mk l))) f σ Q) := by
  subst hds
  exact mwp_drawX (C := C.pl) (X := ⟨ds.map (·.1), Rs, none⟩) (loc := locD ds) hm (show CalOk ⟨ds.map (·.1), Rs, none⟩ (locD ds) C.pl from C.pl_pl) hchk (fun _ _ hd _ _ _ h => gs_call hd h) (DOk.of h1 h2 h3 h4) h
theorem pxcheck3 (m : MS) (hs : Sm m) (hg : Rg m.cmd) (k1 : m.kd = 3) : MCalls Tryz.prog 11 [.agg m.c] St.none (fun r _ => r = .bool (msgOk m)) := by
  refine MCalls.drops (MCalls.body 76 [.tmp 2] Tryz.func11 rfl rfl rfl rfl ?_)
  obtain ⟨res, hres⟩ : ∃ b, msgOk m = b := ⟨_, rfl⟩
  rw [hres]
  rw [msgOk_3 k1] at hres
  have hq := pxsame_call ({ ms0 with kd := m.kd, rep := m.rep }) m ⟨by first | exact hs.f | simp [ms0, cm0], by first | exact hs.g | simp [ms0, re0], by first | exact hs.i | simp [ms0, pg0]⟩ hs
  obtain ⟨b, hb⟩ : ∃ b, decide (({ ms0 with kd := m.kd, rep := m.rep } : MS) = m) = b := ⟨_, rfl⟩
  rw [hb] at hres hq
  have hv := fun (σ : St) (f g i : MV) => vms (σ := σ) (m := { ms0 with kd := m.kd, rep := m.rep }) (f := f) (g := g) (i := i)
  simp only [MS.c, MS.k, ms0, cm0, ed0, pa0, tk0, re0, pg0, u32z] at hv hq
  have e := fun (_ : Unit) => hres
  clear hres hb
  have ha := preplies_call
  have hc := prcheck_call m.rep hs.g
  obtain ⟨ok, hok⟩ : ∃ b, repOk m.rep = b := ⟨_, rfl⟩
  rw [hok] at hc e
  obtain ⟨C, hC1, hC2⟩ : ∃ C : Know, C 24 [] = some ⟨[], fun v => v = .agg [fnP 64, fnP 65, fnP 66], none⟩ ∧ C 64 [.agg m.rep.c] = some ⟨[], fun v => v = .bool ok, none⟩ :=
    ⟨kn [(24, [], ⟨[], fun v => v = .agg [fnP 64, fnP 65, fnP 66], none⟩), (64, [.agg m.rep.c], ⟨[], fun v => v = .bool ok, none⟩)], kn_hit, kn_skip (fun h => absurd h.1 (by decide)) kn_hit⟩
  clear hok
  cases b <;> cases ok
  all_goals
    repeat' (first | ((with_reducible refine mdraw_know mixed ?chk C ?_); (case chk => decide +kernel)) | (with_reducible refine know_pure hC1 ha ?_) | (with_reducible refine know_pure hC2 hc ?_) | (with_reducible refine use_lend _ hq (.bool _) rfl (views_two (hv _ _ _ _ (.nil _ _) (.same _) (.nil _ _)) (.same _)) ?_) | (with_reducible first | (refine wT ?_; refine wN fun _ hnl => ?_; revert hnl; (repeat refine wS fun _ _ => ?_); intro hnl) | refine wD (by decide +kernel) ?_ | refine wI (fun h => ?_) fun h => ?_ | refine wF (fun h => ?_) fun h => ?_ | refine wG (fun h => ?_) fun h => ?_ | refine wH (fun h => ?_) fun h => ?_ | ((first | refine mfork_bool (fun h => ?_) fun h => ?_ | refine mgfork_bool (fun h => ?_) fun h => ?_) <;> simp only [h])) | simp (maxSteps := 4000000) (disch := first | decide | assumption | omega | (simp only [wL]; omega)) only [go_sem, simprocAttr, Tryz.f11, fc_zero, fc_len, fc_cell, fc_take, fc_take', fc_drop, fc_drop', fc_getD, drop_two, drop_three, take_two, take_three, getD_two, getD_three, fc_at, fc_at_app, fc_get0, fc_get1, fc_get2, fc_fold, F8.get_hit, fc_all, fc_assoc, List.append_nil, List.take_zero, u32z, List.cons_append, List.nil_append])
    all_goals first | refine ⟨_, St.le_refl _, ?_⟩ | refine ⟨_, St.le_refl _⟩ | skip
    all_goals rw [← e ()]
    all_goals (first | (simp [*]; done) | (simp; omega) | skip)
theorem pxcheck4 (m : MS) (hs : Sm m) (hg : Rg m.cmd) (k1 : m.kd = 4) : MCalls Tryz.prog 11 [.agg m.c] St.none (fun r _ => r = .bool (msgOk m)) := by
  refine MCalls.drops (MCalls.body 76 [.tmp 2] Tryz.func11 rfl rfl rfl rfl ?_)
  obtain ⟨res, hres⟩ : ∃ b, msgOk m = b := ⟨_, rfl⟩
  rw [hres]
  rw [msgOk_4 k1] at hres
  have hq := pxsame_call ({ ms0 with kd := m.kd, page := m.page }) m ⟨by first | exact hs.f | simp [ms0, cm0], by first | exact hs.g | simp [ms0, re0], by first | exact hs.i | simp [ms0, pg0]⟩ hs
  obtain ⟨b, hb⟩ : ∃ b, decide (({ ms0 with kd := m.kd, page := m.page } : MS) = m) = b := ⟨_, rfl⟩
  rw [hb] at hres hq
  have hv := fun (σ : St) (f g i : MV) => vms (σ := σ) (m := { ms0 with kd := m.kd, page := m.page }) (f := f) (g := g) (i := i)
  simp only [MS.c, MS.k, ms0, cm0, ed0, pa0, tk0, re0, pg0, u32z] at hv hq
  have e := fun (_ : Unit) => hres
  clear hres hb
  have ha := ppages_call
  have hc := ppgcheck_call m.page hs.i
  obtain ⟨ok, hok⟩ : ∃ b, pageOk m.page = b := ⟨_, rfl⟩
  rw [hok] at hc e
  obtain ⟨C, hC1, hC2⟩ : ∃ C : Know, C 25 [] = some ⟨[], fun v => v = .agg [fnP 67, fnP 68, fnP 69], none⟩ ∧ C 67 [.agg m.page.c] = some ⟨[], fun v => v = .bool ok, none⟩ :=
    ⟨kn [(25, [], ⟨[], fun v => v = .agg [fnP 67, fnP 68, fnP 69], none⟩), (67, [.agg m.page.c], ⟨[], fun v => v = .bool ok, none⟩)], kn_hit, kn_skip (fun h => absurd h.1 (by decide)) kn_hit⟩
  clear hok
  cases b <;> cases ok
  all_goals
    repeat' (first | ((with_reducible refine mdraw_know mixed ?chk C ?_); (case chk => decide +kernel)) | (with_reducible refine know_pure hC1 ha ?_) | (with_reducible refine know_pure hC2 hc ?_) | (with_reducible refine use_lend _ hq (.bool _) rfl (views_two (hv _ _ _ _ (.nil _ _) (.nil _ _) (.same _)) (.same _)) ?_) | (with_reducible first | (refine wT ?_; refine wN fun _ hnl => ?_; revert hnl; (repeat refine wS fun _ _ => ?_); intro hnl) | refine wD (by decide +kernel) ?_ | refine wI (fun h => ?_) fun h => ?_ | refine wF (fun h => ?_) fun h => ?_ | refine wG (fun h => ?_) fun h => ?_ | refine wH (fun h => ?_) fun h => ?_ | ((first | refine mfork_bool (fun h => ?_) fun h => ?_ | refine mgfork_bool (fun h => ?_) fun h => ?_) <;> simp only [h])) | simp (maxSteps := 4000000) (disch := first | decide | assumption | omega | (simp only [wL]; omega)) only [go_sem, simprocAttr, Tryz.f11, fc_zero, fc_len, fc_cell, fc_take, fc_take', fc_drop, fc_drop', fc_getD, drop_two, drop_three, take_two, take_three, getD_two, getD_three, fc_at, fc_at_app, fc_get0, fc_get1, fc_get2, fc_fold, F8.get_hit, fc_all, fc_assoc, List.append_nil, List.take_zero, u32z, List.cons_append, List.nil_append])
    all_goals first | refine ⟨_, St.le_refl _, ?_⟩ | refine ⟨_, St.le_refl _⟩ | skip
    all_goals rw [← e ()]
    all_goals (first | (simp [*]; done) | (simp; omega) | skip)
theorem pxcheck5 (m : MS) (hs : Sm m) (hg : Rg m.cmd) (k1 : m.kd = 5) : MCalls Tryz.prog 11 [.agg m.c] St.none (fun r _ => r = .bool (msgOk m)) := by
  refine MCalls.drops (MCalls.body 76 [.tmp 2] Tryz.func11 rfl rfl rfl rfl ?_)
  obtain ⟨res, hres⟩ : ∃ b, msgOk m = b := ⟨_, rfl⟩
  rw [hres]
  rw [msgOk_5 k1] at hres
  have hq := pxsame_call ({ ms0 with kd := m.kd, code := m.code }) m ⟨by first | exact hs.f | simp [ms0, cm0], by first | exact hs.g | simp [ms0, re0], by first | exact hs.i | simp [ms0, pg0]⟩ hs
  obtain ⟨b, hb⟩ : ∃ b, decide (({ ms0 with kd := m.kd, code := m.code } : MS) = m) = b := ⟨_, rfl⟩
  rw [hb] at hres hq
  have hv := fun (σ : St) (f g i : MV) => vms (σ := σ) (m := { ms0 with kd := m.kd, code := m.code }) (f := f) (g := g) (i := i)
  simp only [MS.c, MS.k, ms0, cm0, ed0, pa0, tk0, re0, pg0, u32z] at hv hq
  have e := fun (_ : Unit) => hres
  clear hres hb
  have hn := pnumber_call 16
  obtain ⟨ok, hok⟩ : ∃ x, decide (1 ≤ m.code ∧ m.code ≤ 16) = x := ⟨_, rfl⟩
  rw [hok] at e
  cases b <;> cases ok
  all_goals
    repeat' (first | ((with_reducible refine mdraw_know mixed ?chk (nbK 16 (fun _ _ => none)) ?_); (case chk => decide +kernel)) | (((with_reducible refine know_new nbK_new hn ?_); intro bb hbb; revert hbb; (repeat refine wS fun _ _ => ?_); intro hbb)) | (((with_reducible refine know_nb ?hh ?_); (case hh => simp [St.set, *]))) | (with_reducible refine use_lend _ hq (.bool _) rfl (views_two (hv _ _ _ _ (.nil _ _) (.nil _ _) (.nil _ _)) (.same _)) ?_) | (with_reducible first | (refine wT ?_; refine wN fun _ hnl => ?_; revert hnl; (repeat refine wS fun _ _ => ?_); intro hnl) | refine wD (by decide +kernel) ?_ | refine wI (fun h => ?_) fun h => ?_ | refine wF (fun h => ?_) fun h => ?_ | refine wG (fun h => ?_) fun h => ?_ | refine wH (fun h => ?_) fun h => ?_ | ((first | refine mfork_bool (fun h => ?_) fun h => ?_ | refine mgfork_bool (fun h => ?_) fun h => ?_) <;> simp only [h])) | simp (maxSteps := 4000000) (disch := first | decide | assumption | omega | (simp only [wL]; omega)) only [go_sem, simprocAttr, Tryz.f11, fc_zero, fc_len, fc_cell, fc_take, fc_take', fc_drop, fc_drop', fc_getD, drop_two, drop_three, take_two, take_three, getD_two, getD_three, fc_at, fc_at_app, fc_get0, fc_get1, fc_get2, fc_fold, F8.get_hit, fc_all, fc_assoc, List.append_nil, List.take_zero, u32z, List.cons_append, List.nil_append, hok])
    all_goals first | refine ⟨_, St.le_refl _, ?_⟩ | refine ⟨_, St.le_refl _⟩ | skip
    all_goals rw [← e ()]
    all_goals (first | (simp [*]; done) | (simp; omega) | skip)
theorem pxcheck2 (m : MS) (hs : Sm m) (hg : Rg m.cmd) (k1 : m.kd = 2) : MCalls Tryz.prog 11 [.agg m.c] St.none (fun r _ => r = .bool (msgOk m)) := by
  refine MCalls.drops (MCalls.body 76 [.tmp 2] Tryz.func11 rfl rfl rfl rfl ?_)
  obtain ⟨res, hres⟩ : ∃ b, msgOk m = b := ⟨_, rfl⟩
  rw [hres]
  rw [msgOk_2 k1] at hres
  have hq := pxsame_call ({ ms0 with kd := m.kd, tok := m.tok, size := m.size }) m ⟨by first | exact hs.f | simp [ms0, cm0], by first | exact hs.g | simp [ms0, re0], by first | exact hs.i | simp [ms0, pg0]⟩ hs
  obtain ⟨b, hb⟩ : ∃ b, decide (({ ms0 with kd := m.kd, tok := m.tok, size := m.size } : MS) = m) = b := ⟨_, rfl⟩
  rw [hb] at hres hq
  have hv := fun (σ : St) (f g i : MV) => vms (σ := σ) (m := { ms0 with kd := m.kd, tok := m.tok, size := m.size }) (f := f) (g := g) (i := i)
  simp only [MS.c, MS.k, ms0, cm0, ed0, pa0, tk0, re0, pg0, u32z] at hv hq
  have e := fun (_ : Unit) => hres
  clear hres hb
  have hn := pnumber_call 16
  have ha := ptokens_call
  have hc := ptcheck_call m.tok
  obtain ⟨ok, hok⟩ : ∃ b, tokOk m.tok = b := ⟨_, rfl⟩
  rw [hok] at hc e
  obtain ⟨C, hC1, hC2⟩ : ∃ C : Know, C 23 [] = some ⟨[], fun v => v = .agg [fnP 61, fnP 62, fnP 63], none⟩ ∧ C 61 [.agg m.tok.c] = some ⟨[], fun v => v = .bool ok, none⟩ :=
    ⟨kn [(23, [], ⟨[], fun v => v = .agg [fnP 61, fnP 62, fnP 63], none⟩), (61, [.agg m.tok.c], ⟨[], fun v => v = .bool ok, none⟩)], kn_hit, kn_skip (fun h => absurd h.1 (by decide)) kn_hit⟩
  clear hok
  obtain ⟨zk, hz⟩ : ∃ x, decide (1 ≤ m.size ∧ m.size ≤ 16) = x := ⟨_, rfl⟩
  rw [hz] at e
  cases b <;> cases ok <;> cases zk
  all_goals
    repeat' (first | (with_reducible first | (refine wT ?_; (first | ((fail_if_success (have := nl1)); refine wN fun nl1 hnl => ?_) | ((fail_if_success (have := nl2)); refine wN fun nl2 hnl => ?_) | refine wN fun _ hnl => ?_); revert hnl; (repeat refine wS fun _ _ => ?_); intro hnl) | refine wD (by decide +kernel) ?_ | refine wI (fun h => ?_) fun h => ?_ | refine wF (fun h => ?_) fun h => ?_ | refine wG (fun h => ?_) fun h => ?_ | refine wH (fun h => ?_) fun h => ?_ | ((first | refine mfork_bool (fun h => ?_) fun h => ?_ | refine mgfork_bool (fun h => ?_) fun h => ?_) <;> simp only [h])) | simp (maxSteps := 4000000) (disch := first | decide | assumption | omega | (simp only [wL]; omega)) only [go_sem, simprocAttr, Tryz.f11, fc_zero, fc_len, fc_cell, fc_take, fc_take', fc_drop, fc_drop', fc_getD, drop_two, drop_three, take_two, take_three, getD_two, getD_three, fc_at, fc_at_app, fc_get0, fc_get1, fc_get2, fc_fold, F8.get_hit, fc_all, fc_assoc, List.append_nil, List.take_zero, u32z, List.cons_append, List.nil_append])
    have d1 : nl2 ≠ nl1 := by assumption
    refine mdraw_rs mixed [(1, nl1), (3, nl2)] [1, 3] rfl [(22, 1), (24, 1), (26, 3), (27, 3)] (by decide +kernel) (fun _ _ => none) ?h1 ?h2 (by decide) ?h4 ?go
    case h1 =>
      intro p hp
      simp only [List.mem_cons, List.not_mem_nil, or_false] at hp
      rcases hp with rfl | rfl
      · exact ⟨0, 0, rfl⟩
      · exact ⟨0, 0, rfl⟩
    case h2 => simp [Ne.symm d1]
    case h4 =>
      intro p hp
      simp only [List.mem_cons, List.not_mem_nil, or_false] at hp
      rcases hp with rfl | rfl | rfl | rfl
      all_goals exact ⟨by decide, fun l i o h => absurd h (by simp [FR.get, lget])⟩
    case go =>
      repeat' (first | ((with_reducible refine mdraw_know mixed ?chk (nbK 16 C) ?_); (case chk => decide +kernel)) | (((with_reducible refine know_new nbK_new hn ?_); intro bb hbb; revert hbb; (repeat refine wS fun _ _ => ?_); intro hbb)) | (((with_reducible refine know_nb ?hh ?_); (case hh => simp [St.set, *]))) | (with_reducible refine know_pure (nbK_skip hC1 rfl rfl) ha ?_) | (with_reducible refine know_pure (nbK_skip hC2 rfl rfl) hc ?_) | (with_reducible refine use_lend _ hq (.bool _) rfl (views_two (hv _ _ _ _ (.nil _ _) (.nil _ _) (.nil _ _)) (.same _)) ?_) | (with_reducible first | (refine wT ?_; (first | ((fail_if_success (have := nl1)); refine wN fun nl1 hnl => ?_) | ((fail_if_success (have := nl2)); refine wN fun nl2 hnl => ?_) | refine wN fun _ hnl => ?_); revert hnl; (repeat refine wS fun _ _ => ?_); intro hnl) | refine wD (by decide +kernel) ?_ | refine wI (fun h => ?_) fun h => ?_ | refine wF (fun h => ?_) fun h => ?_ | refine wG (fun h => ?_) fun h => ?_ | refine wH (fun h => ?_) fun h => ?_ | ((first | refine mfork_bool (fun h => ?_) fun h => ?_ | refine mgfork_bool (fun h => ?_) fun h => ?_) <;> simp only [h])) | simp (maxSteps := 4000000) (disch := first | decide | assumption | omega | (simp only [wL]; omega)) only [go_sem, simprocAttr, fc_zero, fc_len, fc_cell, fc_take, fc_take', fc_drop, fc_drop', fc_getD, drop_two, drop_three, take_two, take_three, getD_two, getD_three, fc_at, fc_at_app, fc_get0, fc_get1, fc_get2, fc_fold, F8.get_hit, fc_all, fc_assoc, List.append_nil, List.take_zero, u32z, List.cons_append, List.nil_append, hz])
      all_goals first | refine ⟨_, St.le_refl _, ?_⟩ | refine ⟨_, St.le_refl _⟩ | skip
      all_goals rw [← e ()]
      all_goals (first | (simp [*]; done) | (simp; omega) | skip)
theorem pxcheck_call (m : MS) (hs : Sm m) (hg : Rg m.cmd) : MCalls Tryz.prog 11 [.agg m.c] St.none (fun r _ => r = .bool (msgOk m)) := by
  by_cases k1 : m.kd = 1
  · exact pxcheck1 m hs hg k1
  by_cases k2 : m.kd = 2
  · exact pxcheck2 m hs hg k2
  by_cases k3 : m.kd = 3
  · exact pxcheck3 m hs hg k3
  by_cases k4 : m.kd = 4
  · exact pxcheck4 m hs hg k4
  by_cases k5 : m.kd = 5
  · exact pxcheck5 m hs hg k5
  refine MCalls.drops (MCalls.body 76 [.tmp 2] Tryz.func11 rfl rfl rfl rfl ?_)
  rw [msgOk_o k1 k2 k3 k4 k5]
  repeat' (first | (with_reducible first | (refine wT ?_; refine wN fun _ hnl => ?_; revert hnl; (repeat refine wS fun _ _ => ?_); intro hnl) | refine wD (by decide +kernel) ?_ | refine wI (fun h => ?_) fun h => ?_ | refine wF (fun h => ?_) fun h => ?_ | refine wG (fun h => ?_) fun h => ?_ | refine wH (fun h => ?_) fun h => ?_ | ((first | refine mfork_bool (fun h => ?_) fun h => ?_ | refine mgfork_bool (fun h => ?_) fun h => ?_) <;> simp only [h])) | simp (maxSteps := 4000000) (disch := first | decide | assumption | omega | (simp only [wL]; omega)) only [go_sem, simprocAttr, Tryz.f11, fc_zero, fc_len, fc_cell, fc_take, fc_take', fc_drop, fc_drop', fc_getD, drop_two, drop_three, take_two, take_three, getD_two, getD_three, fc_at, fc_at_app, fc_get0, fc_get1, fc_get2, fc_fold, F8.get_hit, fc_all, fc_assoc, List.append_nil, List.take_zero, u32z, List.cons_append, List.nil_append])
  all_goals first | exact ⟨_, St.le_refl _, rfl⟩ | exact ⟨_, St.le_refl _⟩ | (exfalso; omega)
end Go.Proofs.YtfbodefnblpflaaGreatDoor
end

section
/- Contract of the program's bytes of messages: the conditions that the theorems name. -/
set_option linter.unusedVariables false
set_option linter.unusedSimpArgs false
namespace Go.Proofs.YtfbodefnblpflaaGreatDoor
set_option maxRecDepth 100000
set_option maxHeartbeats 4000000
theorem pxenc1 (m : MS) (hs : Sm m) (hg : Rg m.cmd) (k1 : m.kd = 1) (hok : msgOk m = true) : MCalls Tryz.prog 8 [.agg m.c] St.none (fun r _ => r = .tup [.str (bsS (msgE m).1), .int .i64 (msgE m).2]) := by
  refine MCalls.drops (MCalls.body 59 [.tmp 2, .tmp 3] Tryz.func8 rfl rfl rfl rfl ?_)
  have hc := pxcheck_call m hs hg
  rw [hok] at hc
  have e : msgE m = if 4096 < (msgB m).length then ([], 4) else (msgB m, 0) := by unfold msgE; rw [hok, if_pos rfl]
  have hb : msgB m = numB m.kd ++ cmdB m.cmd := by unfold msgB; simp [k1]
  rw [e, hb]
  clear e hb
  have l1 := numB_len m.kd
  have n1 := pnum_call [] false m.kd (by simp)
  rw [List.nil_append] at n1
  have hk : cmdOk m.cmd = true := by rw [msgOk_1 k1] at hok; simp only [Bool.and_eq_true] at hok; exact hok.1.1
  obtain ⟨hd, hhd⟩ : ∃ h, numB m.kd = h := ⟨_, rfl⟩
  rw [hhd] at n1 l1 ⊢
  clear hok
  have lp := (inferInstance : LB (cmdB m.cmd) 3000).h
  have ha := pasks_call
  have hp := pputcm_call hd (by omega) false m.cmd hg hs.f hk
  obtain ⟨b2, hb2⟩ : ∃ b, hd ++ cmdB m.cmd = b := ⟨_, rfl⟩
  have hbl : b2.length ≤ 20000 := by rw [← hb2, List.length_append]; omega
  rw [hb2] at hp ⊢
  obtain ⟨C, hC1, hC2⟩ : ∃ C : Know, C 22 [] = some ⟨[], fun v => v = .agg [fnP 57, fnP 59, fnP 60], none⟩ ∧ C 59 [.lst 1 (hd.map bc) false, .agg m.cmd.c] = some ⟨[], fun v => v = .lst 1 (b2.map bc) false, none⟩ :=
    ⟨kn [(22, [], ⟨[], fun v => v = .agg [fnP 57, fnP 59, fnP 60], none⟩), (59, [.lst 1 (hd.map bc) false, .agg m.cmd.c], ⟨[], fun v => v = .lst 1 (b2.map bc) false, none⟩)], kn_hit, kn_skip (fun h => absurd h.1 (by decide)) kn_hit⟩
  clear hb2 hhd
  by_cases hlen : 4096 < b2.length
  · rw [if_pos hlen]
    repeat' (first | (with_reducible refine use_weak [.lst 1 (([] : BL).map bc) false, .int .i64 m.kd] n1 rfl (views_two (.nil _ _) (.same _)) ?_) | ((with_reducible refine mdraw_know mixed ?chk C ?_); (case chk => decide +kernel)) | (with_reducible refine know_pure hC1 ha ?_) | (with_reducible refine know_pure hC2 hp ?_) | (with_reducible first | refine up hc ?_) | (with_reducible first | (refine wT ?_; refine wN fun _ hnl => ?_; revert hnl; (repeat refine wS fun _ _ => ?_); intro hnl) | refine wD (by decide +kernel) ?_ | refine wI (fun h => ?_) fun h => ?_ | refine wF (fun h => ?_) fun h => ?_ | refine wG (fun h => ?_) fun h => ?_ | refine wH (fun h => ?_) fun h => ?_ | ((first | refine mfork_bool (fun h => ?_) fun h => ?_ | refine mgfork_bool (fun h => ?_) fun h => ?_) <;> simp only [h])) | simp (maxSteps := 4000000) (disch := first | decide | assumption | omega | (simp only [wL]; omega)) only [go_sem, simprocAttr, Tryz.f8, fc_zero, fc_len, fc_cell, fc_take, fc_take', fc_drop, fc_drop', fc_getD, drop_two, drop_three, take_two, take_three, getD_two, getD_three, fc_at, fc_at_app, fc_get0, fc_get1, fc_get2, fc_fold, F8.get_hit, fc_all, fc_assoc, List.append_nil, List.take_zero, u32z, List.cons_append, List.nil_append, bytesOf_bc, isByte_bc])
    all_goals first | refine ⟨_, St.le_refl _, ?_⟩ | refine ⟨_, St.le_refl _⟩ | (exfalso; omega)
    all_goals rfl
  · rw [if_neg hlen]
    repeat' (first | (with_reducible refine use_weak [.lst 1 (([] : BL).map bc) false, .int .i64 m.kd] n1 rfl (views_two (.nil _ _) (.same _)) ?_) | ((with_reducible refine mdraw_know mixed ?chk C ?_); (case chk => decide +kernel)) | (with_reducible refine know_pure hC1 ha ?_) | (with_reducible refine know_pure hC2 hp ?_) | (with_reducible first | refine up hc ?_) | (with_reducible first | (refine wT ?_; refine wN fun _ hnl => ?_; revert hnl; (repeat refine wS fun _ _ => ?_); intro hnl) | refine wD (by decide +kernel) ?_ | refine wI (fun h => ?_) fun h => ?_ | refine wF (fun h => ?_) fun h => ?_ | refine wG (fun h => ?_) fun h => ?_ | refine wH (fun h => ?_) fun h => ?_ | ((first | refine mfork_bool (fun h => ?_) fun h => ?_ | refine mgfork_bool (fun h => ?_) fun h => ?_) <;> simp only [h])) | simp (maxSteps := 4000000) (disch := first | decide | assumption | omega | (simp only [wL]; omega)) only [go_sem, simprocAttr, Tryz.f8, fc_zero, fc_len, fc_cell, fc_take, fc_take', fc_drop, fc_drop', fc_getD, drop_two, drop_three, take_two, take_three, getD_two, getD_three, fc_at, fc_at_app, fc_get0, fc_get1, fc_get2, fc_fold, F8.get_hit, fc_all, fc_assoc, List.append_nil, List.take_zero, u32z, List.cons_append, List.nil_append, bytesOf_bc, isByte_bc])
    all_goals first | refine ⟨_, St.le_refl _, ?_⟩ | refine ⟨_, St.le_refl _⟩ | (exfalso; omega)
    all_goals rfl
theorem pxenc3 (m : MS) (hs : Sm m) (hg : Rg m.cmd) (k1 : m.kd = 3) (hok : msgOk m = true) : MCalls Tryz.prog 8 [.agg m.c] St.none (fun r _ => r = .tup [.str (bsS (msgE m).1), .int .i64 (msgE m).2]) := by
  refine MCalls.drops (MCalls.body 59 [.tmp 2, .tmp 3] Tryz.func8 rfl rfl rfl rfl ?_)
  have hc := pxcheck_call m hs hg
  rw [hok] at hc
  have e : msgE m = if 4096 < (msgB m).length then ([], 4) else (msgB m, 0) := by unfold msgE; rw [hok, if_pos rfl]
  have hb : msgB m = numB m.kd ++ repB m.rep := by unfold msgB; simp [k1]
  rw [e, hb]
  clear e hb
  have l1 := numB_len m.kd
  have n1 := pnum_call [] false m.kd (by simp)
  rw [List.nil_append] at n1
  have hk : repOk m.rep = true := by rw [msgOk_3 k1] at hok; simp only [Bool.and_eq_true] at hok; exact hok.1
  obtain ⟨hd, hhd⟩ : ∃ h, numB m.kd = h := ⟨_, rfl⟩
  rw [hhd] at n1 l1 ⊢
  clear hok
  have lp := (inferInstance : LB (repB m.rep) 1700).h
  have ha := preplies_call
  have hp := pputrep_call hd (by omega) false m.rep hs.g hk
  obtain ⟨b2, hb2⟩ : ∃ b, hd ++ repB m.rep = b := ⟨_, rfl⟩
  have hbl : b2.length ≤ 20000 := by rw [← hb2, List.length_append]; omega
  rw [hb2] at hp ⊢
  obtain ⟨C, hC1, hC2⟩ : ∃ C : Know, C 24 [] = some ⟨[], fun v => v = .agg [fnP 64, fnP 65, fnP 66], none⟩ ∧ C 65 [.lst 1 (hd.map bc) false, .agg m.rep.c] = some ⟨[], fun v => v = .lst 1 (b2.map bc) false, none⟩ :=
    ⟨kn [(24, [], ⟨[], fun v => v = .agg [fnP 64, fnP 65, fnP 66], none⟩), (65, [.lst 1 (hd.map bc) false, .agg m.rep.c], ⟨[], fun v => v = .lst 1 (b2.map bc) false, none⟩)], kn_hit, kn_skip (fun h => absurd h.1 (by decide)) kn_hit⟩
  clear hb2 hhd
  by_cases hlen : 4096 < b2.length
  · rw [if_pos hlen]
    repeat' (first | (with_reducible refine use_weak [.lst 1 (([] : BL).map bc) false, .int .i64 m.kd] n1 rfl (views_two (.nil _ _) (.same _)) ?_) | ((with_reducible refine mdraw_know mixed ?chk C ?_); (case chk => decide +kernel)) | (with_reducible refine know_pure hC1 ha ?_) | (with_reducible refine know_pure hC2 hp ?_) | (with_reducible first | refine up hc ?_) | (with_reducible first | (refine wT ?_; refine wN fun _ hnl => ?_; revert hnl; (repeat refine wS fun _ _ => ?_); intro hnl) | refine wD (by decide +kernel) ?_ | refine wI (fun h => ?_) fun h => ?_ | refine wF (fun h => ?_) fun h => ?_ | refine wG (fun h => ?_) fun h => ?_ | refine wH (fun h => ?_) fun h => ?_ | ((first | refine mfork_bool (fun h => ?_) fun h => ?_ | refine mgfork_bool (fun h => ?_) fun h => ?_) <;> simp only [h])) | simp (maxSteps := 4000000) (disch := first | decide | assumption | omega | (simp only [wL]; omega)) only [go_sem, simprocAttr, Tryz.f8, fc_zero, fc_len, fc_cell, fc_take, fc_take', fc_drop, fc_drop', fc_getD, drop_two, drop_three, take_two, take_three, getD_two, getD_three, fc_at, fc_at_app, fc_get0, fc_get1, fc_get2, fc_fold, F8.get_hit, fc_all, fc_assoc, List.append_nil, List.take_zero, u32z, List.cons_append, List.nil_append, bytesOf_bc, isByte_bc])
    all_goals first | refine ⟨_, St.le_refl _, ?_⟩ | refine ⟨_, St.le_refl _⟩ | (exfalso; omega)
    all_goals rfl
  · rw [if_neg hlen]
    repeat' (first | (with_reducible refine use_weak [.lst 1 (([] : BL).map bc) false, .int .i64 m.kd] n1 rfl (views_two (.nil _ _) (.same _)) ?_) | ((with_reducible refine mdraw_know mixed ?chk C ?_); (case chk => decide +kernel)) | (with_reducible refine know_pure hC1 ha ?_) | (with_reducible refine know_pure hC2 hp ?_) | (with_reducible first | refine up hc ?_) | (with_reducible first | (refine wT ?_; refine wN fun _ hnl => ?_; revert hnl; (repeat refine wS fun _ _ => ?_); intro hnl) | refine wD (by decide +kernel) ?_ | refine wI (fun h => ?_) fun h => ?_ | refine wF (fun h => ?_) fun h => ?_ | refine wG (fun h => ?_) fun h => ?_ | refine wH (fun h => ?_) fun h => ?_ | ((first | refine mfork_bool (fun h => ?_) fun h => ?_ | refine mgfork_bool (fun h => ?_) fun h => ?_) <;> simp only [h])) | simp (maxSteps := 4000000) (disch := first | decide | assumption | omega | (simp only [wL]; omega)) only [go_sem, simprocAttr, Tryz.f8, fc_zero, fc_len, fc_cell, fc_take, fc_take', fc_drop, fc_drop', fc_getD, drop_two, drop_three, take_two, take_three, getD_two, getD_three, fc_at, fc_at_app, fc_get0, fc_get1, fc_get2, fc_fold, F8.get_hit, fc_all, fc_assoc, List.append_nil, List.take_zero, u32z, List.cons_append, List.nil_append, bytesOf_bc, isByte_bc])
    all_goals first | refine ⟨_, St.le_refl _, ?_⟩ | refine ⟨_, St.le_refl _⟩ | (exfalso; omega)
    all_goals rfl
theorem pxenc4 (m : MS) (hs : Sm m) (hg : Rg m.cmd) (k1 : m.kd = 4) (hok : msgOk m = true) : MCalls Tryz.prog 8 [.agg m.c] St.none (fun r _ => r = .tup [.str (bsS (msgE m).1), .int .i64 (msgE m).2]) := by
  refine MCalls.drops (MCalls.body 59 [.tmp 2, .tmp 3] Tryz.func8 rfl rfl rfl rfl ?_)
  have hc := pxcheck_call m hs hg
  rw [hok] at hc
  have e : msgE m = if 4096 < (msgB m).length then ([], 4) else (msgB m, 0) := by unfold msgE; rw [hok, if_pos rfl]
  have hb : msgB m = numB m.kd ++ pageB m.page := by unfold msgB; simp [k1]
  rw [e, hb]
  clear e hb
  have l1 := numB_len m.kd
  have n1 := pnum_call [] false m.kd (by simp)
  rw [List.nil_append] at n1
  have hk : pageOk m.page = true := by rw [msgOk_4 k1] at hok; simp only [Bool.and_eq_true] at hok; exact hok.1
  obtain ⟨hd, hhd⟩ : ∃ h, numB m.kd = h := ⟨_, rfl⟩
  rw [hhd] at n1 l1 ⊢
  clear hok
  have lp := (inferInstance : LB (pageB m.page) 7000).h
  have ha := ppages_call
  have hp := pputpg_call hd (by omega) false m.page hs.i hk
  obtain ⟨b2, hb2⟩ : ∃ b, hd ++ pageB m.page = b := ⟨_, rfl⟩
  have hbl : b2.length ≤ 20000 := by rw [← hb2, List.length_append]; omega
  rw [hb2] at hp ⊢
  obtain ⟨C, hC1, hC2⟩ : ∃ C : Know, C 25 [] = some ⟨[], fun v => v = .agg [fnP 67, fnP 68, fnP 69], none⟩ ∧ C 68 [.lst 1 (hd.map bc) false, .agg m.page.c] = some ⟨[], fun v => v = .lst 1 (b2.map bc) false, none⟩ :=
    ⟨kn [(25, [], ⟨[], fun v => v = .agg [fnP 67, fnP 68, fnP 69], none⟩), (68, [.lst 1 (hd.map bc) false, .agg m.page.c], ⟨[], fun v => v = .lst 1 (b2.map bc) false, none⟩)], kn_hit, kn_skip (fun h => absurd h.1 (by decide)) kn_hit⟩
  clear hb2 hhd
  by_cases hlen : 4096 < b2.length
  · rw [if_pos hlen]
    repeat' (first | (with_reducible refine use_weak [.lst 1 (([] : BL).map bc) false, .int .i64 m.kd] n1 rfl (views_two (.nil _ _) (.same _)) ?_) | ((with_reducible refine mdraw_know mixed ?chk C ?_); (case chk => decide +kernel)) | (with_reducible refine know_pure hC1 ha ?_) | (with_reducible refine know_pure hC2 hp ?_) | (with_reducible first | refine up hc ?_) | (with_reducible first | (refine wT ?_; refine wN fun _ hnl => ?_; revert hnl; (repeat refine wS fun _ _ => ?_); intro hnl) | refine wD (by decide +kernel) ?_ | refine wI (fun h => ?_) fun h => ?_ | refine wF (fun h => ?_) fun h => ?_ | refine wG (fun h => ?_) fun h => ?_ | refine wH (fun h => ?_) fun h => ?_ | ((first | refine mfork_bool (fun h => ?_) fun h => ?_ | refine mgfork_bool (fun h => ?_) fun h => ?_) <;> simp only [h])) | simp (maxSteps := 4000000) (disch := first | decide | assumption | omega | (simp only [wL]; omega)) only [go_sem, simprocAttr, Tryz.f8, fc_zero, fc_len, fc_cell, fc_take, fc_take', fc_drop, fc_drop', fc_getD, drop_two, drop_three, take_two, take_three, getD_two, getD_three, fc_at, fc_at_app, fc_get0, fc_get1, fc_get2, fc_fold, F8.get_hit, fc_all, fc_assoc, List.append_nil, List.take_zero, u32z, List.cons_append, List.nil_append, bytesOf_bc, isByte_bc])
    all_goals first | refine ⟨_, St.le_refl _, ?_⟩ | refine ⟨_, St.le_refl _⟩ | (exfalso; omega)
    all_goals rfl
  · rw [if_neg hlen]
    repeat' (first | (with_reducible refine use_weak [.lst 1 (([] : BL).map bc) false, .int .i64 m.kd] n1 rfl (views_two (.nil _ _) (.same _)) ?_) | ((with_reducible refine mdraw_know mixed ?chk C ?_); (case chk => decide +kernel)) | (with_reducible refine know_pure hC1 ha ?_) | (with_reducible refine know_pure hC2 hp ?_) | (with_reducible first | refine up hc ?_) | (with_reducible first | (refine wT ?_; refine wN fun _ hnl => ?_; revert hnl; (repeat refine wS fun _ _ => ?_); intro hnl) | refine wD (by decide +kernel) ?_ | refine wI (fun h => ?_) fun h => ?_ | refine wF (fun h => ?_) fun h => ?_ | refine wG (fun h => ?_) fun h => ?_ | refine wH (fun h => ?_) fun h => ?_ | ((first | refine mfork_bool (fun h => ?_) fun h => ?_ | refine mgfork_bool (fun h => ?_) fun h => ?_) <;> simp only [h])) | simp (maxSteps := 4000000) (disch := first | decide | assumption | omega | (simp only [wL]; omega)) only [go_sem, simprocAttr, Tryz.f8, fc_zero, fc_len, fc_cell, fc_take, fc_take', fc_drop, fc_drop', fc_getD, drop_two, drop_three, take_two, take_three, getD_two, getD_three, fc_at, fc_at_app, fc_get0, fc_get1, fc_get2, fc_fold, F8.get_hit, fc_all, fc_assoc, List.append_nil, List.take_zero, u32z, List.cons_append, List.nil_append, bytesOf_bc, isByte_bc])
    all_goals first | refine ⟨_, St.le_refl _, ?_⟩ | refine ⟨_, St.le_refl _⟩ | (exfalso; omega)
    all_goals rfl
theorem pxenc2 (m : MS) (hs : Sm m) (hg : Rg m.cmd) (k1 : m.kd = 2) (hok : msgOk m = true) : MCalls Tryz.prog 8 [.agg m.c] St.none (fun r _ => r = .tup [.str (bsS (msgE m).1), .int .i64 (msgE m).2]) := by
  refine MCalls.drops (MCalls.body 59 [.tmp 2, .tmp 3] Tryz.func8 rfl rfl rfl rfl ?_)
  have hc := pxcheck_call m hs hg
  rw [hok] at hc
  have e : msgE m = if 4096 < (msgB m).length then ([], 4) else (msgB m, 0) := by unfold msgE; rw [hok, if_pos rfl]
  have hb : msgB m = numB m.kd ++ (tokB m.tok ++ numB m.size) := by unfold msgB; simp [k1]
  rw [e, hb]
  clear e hb
  have l1 := numB_len m.kd
  have n1 := pnum_call [] false m.kd (by simp)
  rw [List.nil_append] at n1
  have hk : tokOk m.tok = true := by rw [msgOk_2 k1] at hok; simp only [Bool.and_eq_true] at hok; exact hok.1.1
  obtain ⟨hd, hhd⟩ : ∃ h, numB m.kd = h := ⟨_, rfl⟩
  rw [hhd] at n1 l1 ⊢
  clear hok
  have lp := (inferInstance : LB (tokB m.tok) 24).h
  have l3 := numB_len m.size
  have ha := ptokens_call
  have hp := pputtok_call hd (by omega) false m.tok hk
  have hn := pnum_call (hd ++ tokB m.tok) false m.size (by rw [List.length_append]; omega)
  rw [List.append_assoc] at hn
  obtain ⟨b1, hb1⟩ : ∃ b, hd ++ tokB m.tok = b := ⟨_, rfl⟩
  obtain ⟨b2, hb2⟩ : ∃ b, hd ++ (tokB m.tok ++ numB m.size) = b := ⟨_, rfl⟩
  have hbl : b2.length ≤ 20000 := by rw [← hb2]; simp only [List.length_append]; omega
  rw [hb1] at hn hp
  rw [hb2] at hn ⊢
  obtain ⟨C, hC1, hC2, hC3⟩ : ∃ C : Know, C 23 [] = some ⟨[], fun v => v = .agg [fnP 61, fnP 62, fnP 63], none⟩ ∧ C 62 [.lst 1 (hd.map bc) false, .agg m.tok.c] = some ⟨[], fun v => v = .lst 1 (b1.map bc) false, none⟩ ∧ C 21 [.lst 1 (b1.map bc) false, .int .i64 m.size] = some ⟨[], fun v => v = .lst 1 (b2.map bc) false, none⟩ :=
    ⟨kn [(23, [], ⟨[], fun v => v = .agg [fnP 61, fnP 62, fnP 63], none⟩), (62, [.lst 1 (hd.map bc) false, .agg m.tok.c], ⟨[], fun v => v = .lst 1 (b1.map bc) false, none⟩), (21, [.lst 1 (b1.map bc) false, .int .i64 m.size], ⟨[], fun v => v = .lst 1 (b2.map bc) false, none⟩)], kn_hit, kn_skip (fun h => absurd h.1 (by decide)) kn_hit, kn_skip (fun h => absurd h.1 (by decide)) (kn_skip (fun h => absurd h.1 (by decide)) kn_hit)⟩
  clear hb1 hb2 hhd
  by_cases hlen : 4096 < b2.length
  · rw [if_pos hlen]
    repeat' (first | (with_reducible refine use_weak [.lst 1 (([] : BL).map bc) false, .int .i64 m.kd] n1 rfl (views_two (.nil _ _) (.same _)) ?_) | ((with_reducible refine mdraw_know mixed ?chk C ?_); (case chk => decide +kernel)) | (with_reducible refine know_pure hC1 ha ?_) | (with_reducible refine know_pure hC2 hp ?_) | (with_reducible refine know_pure hC3 hn ?_) | (with_reducible first | refine up hc ?_) | (with_reducible first | (refine wT ?_; refine wN fun _ hnl => ?_; revert hnl; (repeat refine wS fun _ _ => ?_); intro hnl) | refine wD (by decide +kernel) ?_ | refine wI (fun h => ?_) fun h => ?_ | refine wF (fun h => ?_) fun h => ?_ | refine wG (fun h => ?_) fun h => ?_ | refine wH (fun h => ?_) fun h => ?_ | ((first | refine mfork_bool (fun h => ?_) fun h => ?_ | refine mgfork_bool (fun h => ?_) fun h => ?_) <;> simp only [h])) | simp (maxSteps := 4000000) (disch := first | decide | assumption | omega | (simp only [wL]; omega)) only [go_sem, simprocAttr, Tryz.f8, fc_zero, fc_len, fc_cell, fc_take, fc_take', fc_drop, fc_drop', fc_getD, drop_two, drop_three, take_two, take_three, getD_two, getD_three, fc_at, fc_at_app, fc_get0, fc_get1, fc_get2, fc_fold, F8.get_hit, fc_all, fc_assoc, List.append_nil, List.take_zero, u32z, List.cons_append, List.nil_append, bytesOf_bc, isByte_bc])
    all_goals first | refine ⟨_, St.le_refl _, ?_⟩ | refine ⟨_, St.le_refl _⟩ | (exfalso; omega)
    all_goals rfl
  · rw [if_neg hlen]
    repeat' (first | (with_reducible refine use_weak [.lst 1 (([] : BL).map bc) false, .int .i64 m.kd] n1 rfl (views_two (.nil _ _) (.same _)) ?_) | ((with_reducible refine mdraw_know mixed ?chk C ?_); (case chk => decide +kernel)) | (with_reducible refine know_pure hC1 ha ?_) | (with_reducible refine know_pure hC2 hp ?_) | (with_reducible refine know_pure hC3 hn ?_) | (with_reducible first | refine up hc ?_) | (with_reducible first | (refine wT ?_; refine wN fun _ hnl => ?_; revert hnl; (repeat refine wS fun _ _ => ?_); intro hnl) | refine wD (by decide +kernel) ?_ | refine wI (fun h => ?_) fun h => ?_ | refine wF (fun h => ?_) fun h => ?_ | refine wG (fun h => ?_) fun h => ?_ | refine wH (fun h => ?_) fun h => ?_ | ((first | refine mfork_bool (fun h => ?_) fun h => ?_ | refine mgfork_bool (fun h => ?_) fun h => ?_) <;> simp only [h])) | simp (maxSteps := 4000000) (disch := first | decide | assumption | omega | (simp only [wL]; omega)) only [go_sem, simprocAttr, Tryz.f8, fc_zero, fc_len, fc_cell, fc_take, fc_take', fc_drop, fc_drop', fc_getD, drop_two, drop_three, take_two, take_three, getD_two, getD_three, fc_at, fc_at_app, fc_get0, fc_get1, fc_get2, fc_fold, F8.get_hit, fc_all, fc_assoc, List.append_nil, List.take_zero, u32z, List.cons_append, List.nil_append, bytesOf_bc, isByte_bc])
    all_goals first | refine ⟨_, St.le_refl _, ?_⟩ | refine ⟨_, St.le_refl _⟩ | (exfalso; omega)
    all_goals rfl
theorem pxenc5 (m : MS) (hs : Sm m) (hg : Rg m.cmd) (k1 : m.kd = 5) (hok : msgOk m = true) : MCalls Tryz.prog 8 [.agg m.c] St.none (fun r _ => r = .tup [.str (bsS (msgE m).1), .int .i64 (msgE m).2]) := by
  refine MCalls.drops (MCalls.body 59 [.tmp 2, .tmp 3] Tryz.func8 rfl rfl rfl rfl ?_)
  have hc := pxcheck_call m hs hg
  rw [hok] at hc
  have e : msgE m = if 4096 < (msgB m).length then ([], 4) else (msgB m, 0) := by unfold msgE; rw [hok, if_pos rfl]
  have hb : msgB m = numB m.kd ++ numB m.code := by unfold msgB; simp [k1]
  rw [e, hb]
  clear e hb
  have l1 := numB_len m.kd
  have n1 := pnum_call [] false m.kd (by simp)
  rw [List.nil_append] at n1
  obtain ⟨hd, hhd⟩ : ∃ h, numB m.kd = h := ⟨_, rfl⟩
  rw [hhd] at n1 l1 ⊢
  clear hok
  have lp := numB_len m.code
  have hp := pnum_call hd false m.code (by omega)
  obtain ⟨b2, hb2⟩ : ∃ b, hd ++ numB m.code = b := ⟨_, rfl⟩
  have hbl : b2.length ≤ 4096 := by rw [← hb2, List.length_append]; omega
  rw [hb2] at hp ⊢
  rw [if_neg (by omega)]
  clear hb2 hhd
  repeat' (first | (with_reducible refine use_weak [.lst 1 (([] : BL).map bc) false, .int .i64 m.kd] n1 rfl (views_two (.nil _ _) (.same _)) ?_) | (with_reducible first | refine up hc ?_ | refine up hp ?_) | (with_reducible first | (refine wT ?_; refine wN fun _ hnl => ?_; revert hnl; (repeat refine wS fun _ _ => ?_); intro hnl) | refine wD (by decide +kernel) ?_ | refine wI (fun h => ?_) fun h => ?_ | refine wF (fun h => ?_) fun h => ?_ | refine wG (fun h => ?_) fun h => ?_ | refine wH (fun h => ?_) fun h => ?_ | ((first | refine mfork_bool (fun h => ?_) fun h => ?_ | refine mgfork_bool (fun h => ?_) fun h => ?_) <;> simp only [h])) | simp (maxSteps := 4000000) (disch := first | decide | assumption | omega | (simp only [wL]; omega)) only [go_sem, simprocAttr, Tryz.f8, fc_zero, fc_len, fc_cell, fc_take, fc_take', fc_drop, fc_drop', fc_getD, drop_two, drop_three, take_two, take_three, getD_two, getD_three, fc_at, fc_at_app, fc_get0, fc_get1, fc_get2, fc_fold, F8.get_hit, fc_all, fc_assoc, List.append_nil, List.take_zero, u32z, List.cons_append, List.nil_append, bytesOf_bc, isByte_bc])
  all_goals first | refine ⟨_, St.le_refl _, ?_⟩ | refine ⟨_, St.le_refl _⟩ | (exfalso; omega)
  all_goals rfl
theorem pxenc_call (m : MS) (hs : Sm m) (hg : Rg m.cmd) : MCalls Tryz.prog 8 [.agg m.c] St.none (fun r _ => r = .tup [.str (bsS (msgE m).1), .int .i64 (msgE m).2]) := by
  cases hok : msgOk m
  · have e : msgE m = ([], 1) := by unfold msgE; rw [hok]; rfl
    rw [e]
    refine MCalls.drops (MCalls.body 59 [.tmp 2, .tmp 3] Tryz.func8 rfl rfl rfl rfl ?_)
    have hc := pxcheck_call m hs hg
    rw [hok] at hc
    repeat' (first | (with_reducible first | refine up hc ?_) | (with_reducible first | (refine wT ?_; refine wN fun _ hnl => ?_; revert hnl; (repeat refine wS fun _ _ => ?_); intro hnl) | refine wD (by decide +kernel) ?_ | refine wI (fun h => ?_) fun h => ?_ | refine wF (fun h => ?_) fun h => ?_ | refine wG (fun h => ?_) fun h => ?_ | refine wH (fun h => ?_) fun h => ?_ | ((first | refine mfork_bool (fun h => ?_) fun h => ?_ | refine mgfork_bool (fun h => ?_) fun h => ?_) <;> simp only [h])) | simp (maxSteps := 4000000) (disch := first | decide | assumption | omega | (simp only [wL]; omega)) only [go_sem, simprocAttr, Tryz.f8, fc_zero, fc_len, fc_cell, fc_take, fc_take', fc_drop, fc_drop', fc_getD, drop_two, drop_three, take_two, take_three, getD_two, getD_three, fc_at, fc_at_app, fc_get0, fc_get1, fc_get2, fc_fold, F8.get_hit, fc_all, fc_assoc, List.append_nil, List.take_zero, u32z, List.cons_append, List.nil_append])
    all_goals first | refine ⟨_, St.le_refl _, ?_⟩ | refine ⟨_, St.le_refl _⟩
    all_goals rfl
  · by_cases k1 : m.kd = 1
    · exact pxenc1 m hs hg k1 hok
    by_cases k2 : m.kd = 2
    · exact pxenc2 m hs hg k2 hok
    by_cases k3 : m.kd = 3
    · exact pxenc3 m hs hg k3 hok
    by_cases k4 : m.kd = 4
    · exact pxenc4 m hs hg k4 hok
    by_cases k5 : m.kd = 5
    · exact pxenc5 m hs hg k5 hok
    · rw [msgOk_o k1 k2 k3 k4 k5] at hok
      cases hok
end Go.Proofs.YtfbodefnblpflaaGreatDoor
end

section
/- Contracts of the document's pages: which may be, bytes, whether two are alike: the conditions that the theorems name. -/
set_option linter.unusedVariables false
set_option linter.unusedSimpArgs false
namespace Go.Proofs.YtfbodefnblpflaaGreatDoor
set_option maxRecDepth 100000
set_option maxHeartbeats 4000000
theorem rpgcheck_call (p : PG) (hl : p.items.length ≤ 1000000) : MCalls Tryz.prog 35 [.agg p.c] St.none (fun r _ => r = .bool (pageOk p)) := by
  refine MCalls.drops (MCalls.body 77 [.tmp 2] Tryz.func35 rfl rfl rfl rfl ?_)
  have h1 := rtcheck_call p.fr
  have h2 := rtcheck_call p.to
  have h3 := rtgoes_call p.fr p.to
  have h4 := rcitems_call p.items false hl
  have h5 : mbin Tryz.prog 34 .eql (.agg p.to.c) (.agg [.int .i64 0, .int .i64 0, .int .i64 0, .int .i64 0]) = some (True, .bool (decide (p.to = tk0))) := mbe_token p.to tk0
  have hie := items_empty (p := p)
  obtain ⟨res, hres⟩ : ∃ b, pageOk p = b := ⟨_, rfl⟩
  have e : pageOk p = res := hres
  rw [hres]
  clear hres
  unfold pageOk at e
  cases hb1 : tokOk p.fr <;> rw [hb1] at h1 e
  · rw [Bool.false_and] at e
    subst e
    repeat' (first | (with_reducible first | refine up h1 ?_ | refine up h2 ?_ | refine up h3 ?_ | refine up h4 ?_) | (with_reducible first | (refine wT ?_; refine wN fun _ hnl => ?_; revert hnl; (repeat refine wS fun _ _ => ?_); intro hnl) | refine wD (by decide +kernel) ?_ | refine wI (fun h => ?_) fun h => ?_ | refine wF (fun h => ?_) fun h => ?_ | refine wG (fun h => ?_) fun h => ?_ | refine wH (fun h => ?_) fun h => ?_ | ((first | refine mfork_bool (fun h => ?_) fun h => ?_ | refine mgfork_bool (fun h => ?_) fun h => ?_) <;> simp only [h])) | simp (maxSteps := 4000000) (disch := first | decide | assumption | omega | (simp only [wL]; omega)) only [go_sem, simprocAttr, Tryz.f35])
    all_goals (first | exact ⟨_, St.le_refl _, rfl⟩ | exact ⟨_, St.le_refl _⟩ | (exfalso; omega) | skip)
  · rw [Bool.true_and] at e
    by_cases hc : p.code = 0
    · rw [if_neg (by omega)] at e
      cases hr : p.reset
      · rw [if_neg (by rw [hr]; simp)] at e
        cases hb3 : tokGo p.fr p.to <;> rw [hb3] at h3 e
        · simp only [Bool.false_and] at e
          subst e
          repeat' (first | (with_reducible first | refine up h1 ?_ | refine up h2 ?_ | refine up h3 ?_ | refine up h4 ?_) | (with_reducible first | (refine wT ?_; refine wN fun _ hnl => ?_; revert hnl; (repeat refine wS fun _ _ => ?_); intro hnl) | refine wD (by decide +kernel) ?_ | refine wI (fun h => ?_) fun h => ?_ | refine wF (fun h => ?_) fun h => ?_ | refine wG (fun h => ?_) fun h => ?_ | refine wH (fun h => ?_) fun h => ?_ | ((first | refine mfork_bool (fun h => ?_) fun h => ?_ | refine mgfork_bool (fun h => ?_) fun h => ?_) <;> simp only [h])) | simp (maxSteps := 4000000) (disch := first | decide | assumption | omega | (simp only [wL]; omega)) only [go_sem, simprocAttr, Tryz.f35, hr])
          all_goals (first | exact ⟨_, St.le_refl _, rfl⟩ | exact ⟨_, St.le_refl _⟩ | (exfalso; omega) | skip)
        · cases hb4 : itemsOk 0 p.items <;> rw [hb4] at h4 e
          all_goals
            simp only [Bool.true_and, Bool.and_false, Bool.false_and] at e
            subst e
            repeat' (first | (with_reducible first | refine up h1 ?_ | refine up h2 ?_ | refine up h3 ?_ | refine up h4 ?_) | (with_reducible first | (refine wT ?_; refine wN fun _ hnl => ?_; revert hnl; (repeat refine wS fun _ _ => ?_); intro hnl) | refine wD (by decide +kernel) ?_ | refine wI (fun h => ?_) fun h => ?_ | refine wF (fun h => ?_) fun h => ?_ | refine wG (fun h => ?_) fun h => ?_ | refine wH (fun h => ?_) fun h => ?_ | ((first | refine mfork_bool (fun h => ?_) fun h => ?_ | refine mgfork_bool (fun h => ?_) fun h => ?_) <;> simp only [h])) | simp (maxSteps := 4000000) (disch := first | decide | assumption | omega | (simp only [wL]; omega)) only [go_sem, simprocAttr, Tryz.f35, hr])
            all_goals first | refine ⟨_, St.le_refl _, ?_⟩ | refine ⟨_, St.le_refl _⟩ | skip
            all_goals first | done | (exact decide_eq_decide.mpr (by omega)) | (congr 1; exact decide_eq_decide.mpr (by omega))
      · rw [if_pos hr] at e
        cases hb2 : tokOk p.to <;> rw [hb2] at h2 e
        all_goals
          simp only [Bool.true_and, Bool.and_false, Bool.false_and, Bool.and_true, ← hie] at e
          have e' : Unit → _ := fun _ => e
          clear e hie
          repeat' (first | (with_reducible first | refine up h1 ?_ | refine up h2 ?_ | refine up h3 ?_ | refine up h4 ?_) | (with_reducible first | (refine wT ?_; refine wN fun _ hnl => ?_; revert hnl; (repeat refine wS fun _ _ => ?_); intro hnl) | refine wD (by decide +kernel) ?_ | refine wI (fun h => ?_) fun h => ?_ | refine wF (fun h => ?_) fun h => ?_ | refine wG (fun h => ?_) fun h => ?_ | refine wH (fun h => ?_) fun h => ?_ | ((first | refine mfork_bool (fun h => ?_) fun h => ?_ | refine mgfork_bool (fun h => ?_) fun h => ?_) <;> simp only [h])) | simp (maxSteps := 4000000) (disch := first | decide | assumption | omega | (simp only [wL]; omega)) only [go_sem, simprocAttr, Tryz.f35, hr])
          all_goals first | refine ⟨_, St.le_refl _, ?_⟩ | refine ⟨_, St.le_refl _⟩ | skip
          all_goals rw [← e' ()]
          all_goals (first | (simp [*]; done) | (simp only [*, not_false_eq_true, decide_false, decide_true, Bool.false_and, Bool.true_and, Bool.and_false]; done) | skip)
    · rw [if_pos hc] at e
      obtain ⟨bt, hbt⟩ : ∃ b, decide (p.to = tk0) = b := ⟨_, rfl⟩
      rw [hbt] at h5
      have ht : p.to = tk0 ↔ bt = true := by rw [← hbt, decide_eq_true_iff]
      have e' : Unit → _ := fun _ => e
      simp only [ht, ← hie] at e'
      clear e ht hbt hie
      cases bt
      all_goals
        cases hr : p.reset
        all_goals
          repeat' (first | (with_reducible first | refine up h1 ?_ | refine up h2 ?_ | refine up h3 ?_ | refine up h4 ?_) | (with_reducible first | (refine wT ?_; refine wN fun _ hnl => ?_; revert hnl; (repeat refine wS fun _ _ => ?_); intro hnl) | refine wD (by decide +kernel) ?_ | refine wI (fun h => ?_) fun h => ?_ | refine wF (fun h => ?_) fun h => ?_ | refine wG (fun h => ?_) fun h => ?_ | refine wH (fun h => ?_) fun h => ?_ | ((first | refine mfork_bool (fun h => ?_) fun h => ?_ | refine mgfork_bool (fun h => ?_) fun h => ?_) <;> simp only [h])) | simp (maxSteps := 4000000) (disch := first | decide | assumption | omega | (simp only [wL]; omega)) only [go_sem, simprocAttr, Tryz.f35, hr, h5])
          all_goals first | refine ⟨_, St.le_refl _, ?_⟩ | refine ⟨_, St.le_refl _⟩ | skip
          all_goals rw [← e' ()]
          all_goals (first | (simp [*]; done) | (simp only [*, not_false_eq_true, decide_false, decide_true, Bool.false_and, Bool.true_and, Bool.and_false]; done) | skip)
theorem rpgsame_call (a b : PG) (hl : a.items.length ≤ 1000000) : MCalls Tryz.prog 41 [.agg a.c, .agg b.c] St.none (fun r _ => r = .bool (decide (a = b))) := by
  refine MCalls.drops (MCalls.body 38 [.tmp 4] Tryz.func41 rfl rfl rfl rfl ?_)
  have hs := isame_call a.items b.items false false hl
  have h1 := mbe_token a.fr b.fr
  have h2 := mbe_token a.to b.to
  obtain ⟨bi, hbi⟩ : ∃ x, decide (a.items = b.items) = x := ⟨_, rfl⟩
  obtain ⟨b1, hb1⟩ : ∃ x, decide (a.fr = b.fr) = x := ⟨_, rfl⟩
  obtain ⟨b2, hb2⟩ : ∃ x, decide (a.to = b.to) = x := ⟨_, rfl⟩
  obtain ⟨res, hres⟩ : ∃ r, decide (a = b) = r := ⟨_, rfl⟩
  have e : Unit → decide (a.code = b.code ∧ a.reset = b.reset ∧ b1 = true ∧ b2 = true ∧ bi = true) = res := fun _ => by
    rw [← hres, ← hb1, ← hb2, ← hbi]
    refine decide_eq_decide.mpr ?_
    rw [pg_iff, decide_eq_true_iff, decide_eq_true_iff, decide_eq_true_iff]
  rw [hbi] at hs
  rw [hb1] at h1
  rw [hb2] at h2
  rw [hres]
  clear hres hbi hb1 hb2
  cases b1 <;> cases b2 <;> cases bi
  all_goals
    repeat' (first | (with_reducible first | refine up hs ?_) | (with_reducible first | (refine wT ?_; refine wN fun _ hnl => ?_; revert hnl; (repeat refine wS fun _ _ => ?_); intro hnl) | refine wD (by decide +kernel) ?_ | refine wI (fun h => ?_) fun h => ?_ | refine wF (fun h => ?_) fun h => ?_ | refine wG (fun h => ?_) fun h => ?_ | refine wH (fun h => ?_) fun h => ?_ | ((first | refine mfork_bool (fun h => ?_) fun h => ?_ | refine mgfork_bool (fun h => ?_) fun h => ?_) <;> simp only [h])) | simp (maxSteps := 4000000) (disch := first | decide | assumption | omega | (simp only [wL]; omega)) only [go_sem, simprocAttr, Tryz.f41, h1, h2])
  all_goals first | refine ⟨_, St.le_refl _, ?_⟩ | skip
  all_goals rw [← e ()]
  all_goals clear e
  all_goals (first | (simp [*]; done) | (simp_all; done) | skip)
end Go.Proofs.YtfbodefnblpflaaGreatDoor
end

section
/- Contracts of the document's pages: bytes, reader: the conditions that the theorems name. -/
set_option linter.unusedVariables false
set_option linter.unusedSimpArgs false
namespace Go.Proofs.YtfbodefnblpflaaGreatDoor
set_option maxRecDepth 100000
set_option maxHeartbeats 4000000
theorem rpgput_call (p : PG) (hok : pageOk p = true) (hl : p.items.length ≤ 1000000) : MCalls Tryz.prog 30 [.agg p.c] St.none (fun r _ => r = .str (bsS (pageB p))) := by
  refine MCalls.drops (MCalls.body 70 [.tmp 2] Tryz.func30 rfl rfl rfl rfl ?_)
  have hc := rpgcheck_call p hl
  rw [hok] at hc
  have hfr : tokOk p.fr = true := by
    unfold pageOk at hok
    rw [Bool.and_eq_true] at hok
    exact hok.1
  have htf := rtput_call p.fr hfr
  have htt := fun h => rtput_call p.to (pageOk_to hok h)
  have l1 := numB_len p.code
  have l2 := (inferInstance : LB (tokB p.fr) 24).h
  have l3 := (inferInstance : LB (tokB p.to) 24).h
  have l4 := (inferInstance : LB (flagB p.reset) 6).h
  have l5 := numB_len (p.items.length : Int)
  have hfl := rflag_call p.reset
  have hnm := rnum_call (p.items.length : Int)
  obtain ⟨C, hN, hT, hU, hF⟩ : ∃ C : Know, (∀ n, C 26 [.int .i64 n] = some ⟨[], fun v => v = .str (bsS (numB n)), none⟩) ∧ C 28 [.agg p.fr.c] = some ⟨[], fun w => w = .str (bsS (tokB p.fr)), none⟩ ∧ C 28 [.agg p.to.c] = some ⟨[], fun w => w = .str (bsS (tokB p.to)), none⟩ ∧ C 73 [.bool p.reset] = some ⟨[], fun w => w = .str (bsS (flagB p.reset)), none⟩ := by
    refine ⟨numK (kn [(28, [.agg p.fr.c], ⟨[], fun w => w = .str (bsS (tokB p.fr)), none⟩), (28, [.agg p.to.c], ⟨[], fun w => w = .str (bsS (tokB p.to)), none⟩), (73, [.bool p.reset], ⟨[], fun w => w = .str (bsS (flagB p.reset)), none⟩)]), fun _ => numK_hit, numK_skip kn_hit rfl, numK_skip (kn_skip (fun h => ?_) kn_hit) rfl, numK_skip (kn_skip (fun h => absurd h.1 (by decide)) (kn_skip (fun h => absurd h.1 (by decide)) kn_hit)) rfl⟩
    have : p.fr = p.to := by
      have h := h.2
      simp only [List.cons.injEq, MV.agg.injEq, MV.int.injEq, and_true, true_and] at h
      exact to_iff.2 h
    rw [this]
  unfold pageB
  rw [if_pos hok]
  by_cases h0 : p.code = 0
  · rw [if_pos h0]
    have htt := htt h0
    cases hr : p.reset
    · rw [if_neg (by simp)]
      obtain ⟨-, hio, hi16⟩ := pageOk_items hok h0 hr
      obtain ⟨hd, hhd⟩ : ∃ hd, numB p.code ++ tokB p.fr ++ flagB p.reset ++ tokB p.to ++ numB p.items.length = hd := ⟨_, rfl⟩
      have hdl : hd.length ≤ 1000 := by rw [← hhd]; simp only [List.length_append]; omega
      rw [hr] at hF hfl hhd l4
      simp only [PG.c, PG.k, hr] at hc
      repeat' (first | ((with_reducible refine mdraw_know mixed ?chk C ?_); (case chk => decide +kernel)) | (with_reducible refine know_pure (hN _) (rnum_call _) ?_) | (with_reducible refine know_pure hT htf ?_) | (with_reducible refine know_pure hU htt ?_) | (with_reducible refine know_pure hF hfl ?_) | (with_reducible first | refine up hc ?_ | refine up hnm ?_) | (with_reducible first | (refine wT ?_; (first | ((fail_if_success (have := nl1)); refine wN fun nl1 hnl => ?_) | refine wN fun _ hnl => ?_); revert hnl; (repeat refine wS fun _ _ => ?_); intro hnl) | refine wD (by decide +kernel) ?_ | refine wI (fun h => ?_) fun h => ?_ | refine wF (fun h => ?_) fun h => ?_ | refine wG (fun h => ?_) fun h => ?_ | refine wH (fun h => ?_) fun h => ?_ | ((first | refine mfork_bool (fun h => ?_) fun h => ?_ | refine mgfork_bool (fun h => ?_) fun h => ?_) <;> simp only [h])) | simp (maxSteps := 4000000) (disch := first | decide | assumption | omega | (simp only [wL]; omega)) only [go_sem, simprocAttr, Tryz.f30, hr, bsS_append, bsS_size])
      rw [hhd]
      refine mloop_intro (α := Nat) (fun i => ⟨70, [(4, .int .i64 (i : Int)), (3, .str (bsS (hd ++ ((p.items.take i).map itemB).flatten))), (1, .ptr nl1 0 0)], []⟩) (fun _ => St.none.set nl1 (.row 40 11 [p.c])) (fun i => i ≤ p.items.length) (fun i => p.items.length - i) (.of (.less ?_ (St.le_refl _)) ⟨0, rfl, rfl, Nat.zero_le _⟩) ?_
      · rw [List.take_zero, List.map_nil, List.flatten_nil, List.append_nil]
        simp (maxSteps := 4000000) (disch := first | decide | assumption | omega | (simp only [wL]; omega)) only [go_sem, simprocAttr, weak_int, weak_same]
        all_goals rfl
      · intro i hi
        have hi : i ≤ p.items.length := hi
        have hle := items_len (p.items.take i)
        rw [List.length_take, Nat.min_eq_left hi] at hle
        by_cases hlt : i < p.items.length
        · have hsn := items_snoc hlt
          obtain ⟨k, hk⟩ := itemsOk_at hio hlt
          obtain ⟨x, hx⟩ : ∃ x, p.items.getD i it0 = x := ⟨_, rfl⟩
          rw [hx] at hsn hk
          have hcd := fun h => rputcard_call x.c (itOk_card hk h)
          have hn1 := rnum_call x.kd
          have hn2 := rnum_call x.c.id
          have k1 := numB_len x.kd
          have k2 := numB_len x.c.id
          have k3 := (inferInstance : LB (cardB x.c) 400).h
          obtain ⟨pre, hpre⟩ : ∃ pre, ((p.items.take i).map itemB).flatten = pre := ⟨_, rfl⟩
          rw [hpre] at hsn hle ⊢
          by_cases h2 : x.kd = 2
          · have e : hd ++ ((p.items.take (i + 1)).map itemB).flatten = hd ++ pre ++ numB x.kd ++ numB x.c.id := by
              rw [hsn, itemB, if_pos h2]; simp only [List.append_assoc]
            repeat' (first | (with_reducible first | refine up hn1 ?_ | refine up hn2 ?_) | (with_reducible first | (refine wT ?_; (first | ((fail_if_success (have := nl1)); refine wN fun nl1 hnl => ?_) | refine wN fun _ hnl => ?_); revert hnl; (repeat refine wS fun _ _ => ?_); intro hnl) | refine wD (by decide +kernel) ?_ | refine wI (fun h => ?_) fun h => ?_ | refine wF (fun h => ?_) fun h => ?_ | refine wG (fun h => ?_) fun h => ?_ | refine wH (fun h => ?_) fun h => ?_ | ((first | refine mfork_bool (fun h => ?_) fun h => ?_ | refine mgfork_bool (fun h => ?_) fun h => ?_) <;> simp only [h])) | simp (maxSteps := 4000000) (disch := first | decide | assumption | omega | (simp only [wL]; omega)) only [go_sem, simprocAttr, fc_zero, fc_len, fc_cell, fc_take, fc_take', fc_drop, fc_drop', fc_getD, drop_two, drop_three, take_two, take_three, getD_two, getD_three, fc_at, fc_at_app, fc_get0, fc_get1, fc_get2, fc_fold, F8.get_hit, getD_mapd it0, hx, hr, bsS_append, bsS_size])
            refine .of (.less (l1 := [(4, .int .i64 ((i + 1 : Nat) : Int)), (3, .str (bsS (hd ++ ((p.items.take (i + 1)).map itemB).flatten))), (1, .ptr nl1 0 0)]) ?_ (St.set_le (St.none_le _) (by simp [St.set, *]))) ⟨i + 1, rfl, rfl, by omega, by omega⟩
            rw [e]
            simp (maxSteps := 4000000) (disch := first | decide | assumption | omega | (simp only [wL]; omega)) only [go_sem, simprocAttr, weak_int, weak_same]
            all_goals rfl
          · have hcd := hcd h2
            have e : hd ++ ((p.items.take (i + 1)).map itemB).flatten = hd ++ pre ++ numB x.kd ++ cardB x.c := by
              rw [hsn, itemB, if_neg h2]; simp only [List.append_assoc]
            repeat' (first | (with_reducible first | refine up hn1 ?_ | refine up hn2 ?_ | refine up hcd ?_) | (with_reducible first | (refine wT ?_; (first | ((fail_if_success (have := nl1)); refine wN fun nl1 hnl => ?_) | refine wN fun _ hnl => ?_); revert hnl; (repeat refine wS fun _ _ => ?_); intro hnl) | refine wD (by decide +kernel) ?_ | refine wI (fun h => ?_) fun h => ?_ | refine wF (fun h => ?_) fun h => ?_ | refine wG (fun h => ?_) fun h => ?_ | refine wH (fun h => ?_) fun h => ?_ | ((first | refine mfork_bool (fun h => ?_) fun h => ?_ | refine mgfork_bool (fun h => ?_) fun h => ?_) <;> simp only [h])) | simp (maxSteps := 4000000) (disch := first | decide | assumption | omega | (simp only [wL]; omega)) only [go_sem, simprocAttr, fc_zero, fc_len, fc_cell, fc_take, fc_take', fc_drop, fc_drop', fc_getD, drop_two, drop_three, take_two, take_three, getD_two, getD_three, fc_at, fc_at_app, fc_get0, fc_get1, fc_get2, fc_fold, F8.get_hit, getD_mapd it0, hx, hr, bsS_append, bsS_size])
            refine .of (.less (l1 := [(4, .int .i64 ((i + 1 : Nat) : Int)), (3, .str (bsS (hd ++ ((p.items.take (i + 1)).map itemB).flatten))), (1, .ptr nl1 0 0)]) ?_ (St.set_le (St.none_le _) (by simp [St.set, *]))) ⟨i + 1, rfl, rfl, by omega, by omega⟩
            rw [e]
            simp (maxSteps := 4000000) (disch := first | decide | assumption | omega | (simp only [wL]; omega)) only [go_sem, simprocAttr, weak_int, weak_same]
            all_goals rfl
        · have : i = p.items.length := by omega
          subst this
          rw [List.take_length]
          repeat' (first | (with_reducible first | (refine wT ?_; (first | ((fail_if_success (have := nl1)); refine wN fun nl1 hnl => ?_) | refine wN fun _ hnl => ?_); revert hnl; (repeat refine wS fun _ _ => ?_); intro hnl) | refine wD (by decide +kernel) ?_ | refine wI (fun h => ?_) fun h => ?_ | refine wF (fun h => ?_) fun h => ?_ | refine wG (fun h => ?_) fun h => ?_ | refine wH (fun h => ?_) fun h => ?_ | ((first | refine mfork_bool (fun h => ?_) fun h => ?_ | refine mgfork_bool (fun h => ?_) fun h => ?_) <;> simp only [h])) | simp (maxSteps := 4000000) (disch := first | decide | assumption | omega | (simp only [wL]; omega)) only [go_sem, simprocAttr])
          all_goals first | exact ⟨_, St.le_refl _, rfl⟩ | (refine ⟨_, St.le_refl _, ?_⟩; simp [← hhd, h0]) | exact ⟨_, St.le_refl _⟩
    · rw [if_pos rfl]
      rw [hr] at hF hfl l4
      simp only [PG.c, PG.k, hr] at hc
      repeat' (first | ((with_reducible refine mdraw_know mixed ?chk C ?_); (case chk => decide +kernel)) | (with_reducible refine know_pure (hN _) (rnum_call _) ?_) | (with_reducible refine know_pure hT htf ?_) | (with_reducible refine know_pure hU htt ?_) | (with_reducible refine know_pure hF hfl ?_) | (with_reducible first | refine up hc ?_ | refine up hnm ?_) | (with_reducible first | (refine wT ?_; (first | ((fail_if_success (have := nl1)); refine wN fun nl1 hnl => ?_) | refine wN fun _ hnl => ?_); revert hnl; (repeat refine wS fun _ _ => ?_); intro hnl) | refine wD (by decide +kernel) ?_ | refine wI (fun h => ?_) fun h => ?_ | refine wF (fun h => ?_) fun h => ?_ | refine wG (fun h => ?_) fun h => ?_ | refine wH (fun h => ?_) fun h => ?_ | ((first | refine mfork_bool (fun h => ?_) fun h => ?_ | refine mgfork_bool (fun h => ?_) fun h => ?_) <;> simp only [h])) | simp (maxSteps := 4000000) (disch := first | decide | assumption | omega | (simp only [wL]; omega)) only [go_sem, simprocAttr, Tryz.f30, hr, bsS_append, bsS_size])
      all_goals first | refine ⟨_, St.le_refl _, ?_⟩ | refine ⟨_, St.le_refl _⟩
      all_goals simp [h0]
  · rw [if_neg h0]
    repeat' (first | ((with_reducible refine mdraw_know mixed ?chk C ?_); (case chk => decide +kernel)) | (with_reducible refine know_pure (hN _) (rnum_call _) ?_) | (with_reducible refine know_pure hT htf ?_) | (with_reducible first | refine up hc ?_ | refine up hnm ?_) | (with_reducible first | (refine wT ?_; (first | ((fail_if_success (have := nl1)); refine wN fun nl1 hnl => ?_) | refine wN fun _ hnl => ?_); revert hnl; (repeat refine wS fun _ _ => ?_); intro hnl) | refine wD (by decide +kernel) ?_ | refine wI (fun h => ?_) fun h => ?_ | refine wF (fun h => ?_) fun h => ?_ | refine wG (fun h => ?_) fun h => ?_ | refine wH (fun h => ?_) fun h => ?_ | ((first | refine mfork_bool (fun h => ?_) fun h => ?_ | refine mgfork_bool (fun h => ?_) fun h => ?_) <;> simp only [h])) | simp (maxSteps := 4000000) (disch := first | decide | assumption | omega | (simp only [wL]; omega)) only [go_sem, simprocAttr, Tryz.f30, bsS_append, bsS_size])
    all_goals first | refine ⟨_, St.le_refl _, ?_⟩ | refine ⟨_, St.le_refl _⟩
    all_goals simp
end Go.Proofs.YtfbodefnblpflaaGreatDoor
end

section
/- Contracts of the document's commands: which may be, whether two are alike: the conditions that the theorems name. -/
set_option linter.unusedVariables false
set_option linter.unusedSimpArgs false
namespace Go.Proofs.YtfbodefnblpflaaGreatDoor
set_option maxRecDepth 100000
set_option maxHeartbeats 4000000
theorem rczero_call (c : CM) : MCalls Tryz.prog 78 [.agg c.c] St.none (fun r _ => r = .bool (decide (c = { cm0 with kd := c.kd }))) := by
  refine MCalls.drops (MCalls.body 49 [.tmp 2] Tryz.func78 rfl rfl rfl rfl ?_)
  have hE : mbin Tryz.prog 29 .eql (.agg c.e.c) (.agg (.int .i64 0 :: .int .i64 0 :: .int .i64 0 :: .int .u32 0 :: .int .u32 0 :: fc f80)) = some (True, .bool (decide (c.e = ed0))) := mbe_edit c.e ed0
  have hP : mbin Tryz.prog 27 .eql (.agg c.p.c) (.agg (.int .u32 0 :: .int .u32 0 :: fc f80)) = some (True, .bool (decide (c.p = pa0))) := mbe_patch c.p pa0
  obtain ⟨bE, hbE⟩ : ∃ x, decide (c.e = ed0) = x := ⟨_, rfl⟩
  obtain ⟨bP, hbP⟩ : ∃ x, decide (c.p = pa0) = x := ⟨_, rfl⟩
  obtain ⟨res, hres⟩ : ∃ r, decide (c = { cm0 with kd := c.kd }) = r := ⟨_, rfl⟩
  have hm : c.mask = 0 ↔ (c.mask.toNat : Int) = 0 := by rw [u32_zero]; omega
  have e : Unit → decide (bE = true ∧ c.dev = 0 ∧ c.req = 0 ∧ c.id = 0 ∧ c.base = 0 ∧ c.keep = 0 ∧ bP = true ∧ (c.fl.length : Int) = 0 ∧ (c.mask.toNat : Int) = 0) = res := fun _ => by
    rw [← hres, ← hbE, ← hbP]
    refine decide_eq_decide.mpr ?_
    rw [cm_iff, decide_eq_true_iff, decide_eq_true_iff, fl_empty, ← hm]
    simp [cm0]
  rw [hbE] at hE
  rw [hbP] at hP
  rw [hres]
  clear hres hbE hbP hm
  cases bE <;> cases bP
  all_goals
    repeat' (first | (with_reducible first | (refine wT ?_; refine wN fun _ hnl => ?_; revert hnl; (repeat refine wS fun _ _ => ?_); intro hnl) | refine wD (by decide +kernel) ?_ | refine wI (fun h => ?_) fun h => ?_ | refine wF (fun h => ?_) fun h => ?_ | refine wG (fun h => ?_) fun h => ?_ | refine wH (fun h => ?_) fun h => ?_ | ((first | refine mfork_bool (fun h => ?_) fun h => ?_ | refine mgfork_bool (fun h => ?_) fun h => ?_) <;> simp only [h])) | simp (maxSteps := 4000000) (disch := first | decide | assumption | omega | (simp only [wL]; omega)) only [go_sem, simprocAttr, Tryz.f78, fc_zero, fc_len, fc_cell, fc_take, fc_take', fc_drop, fc_drop', fc_getD, drop_two, drop_three, take_two, take_three, getD_two, getD_three, fc_at, fc_at_app, fc_get0, fc_get1, fc_get2, fc_fold, F8.get_hit, fc_all, fc_assoc, List.append_nil, List.take_zero, u32z, List.cons_append, List.nil_append, hE, hP])
  all_goals first | refine ⟨_, St.le_refl _, ?_⟩ | skip
  all_goals rw [← e ()]
  all_goals clear e
  all_goals (first | (simp [*]; done) | (simp only [*, not_false_eq_true, decide_false, decide_true, true_and, and_true, and_false, false_and]; done) | skip)
theorem rcmsame_call (a b : CM) (hl : a.fl.length ≤ 1000000) : MCalls Tryz.prog 39 [.agg a.c, .agg b.c] St.none (fun r _ => r = .bool (decide (a = b))) := by
  refine MCalls.drops (MCalls.body 73 [.tmp 4] Tryz.func39 rfl rfl rfl rfl ?_)
  have hs := rsame_call a.fl b.fl hl false false
  have hE := mbe_edit a.e b.e
  have hP := mbe_patch a.p b.p
  obtain ⟨bf, hbf⟩ : ∃ x, decide (a.fl = b.fl) = x := ⟨_, rfl⟩
  obtain ⟨bE, hbE⟩ : ∃ x, decide (a.e = b.e) = x := ⟨_, rfl⟩
  obtain ⟨bP, hbP⟩ : ∃ x, decide (a.p = b.p) = x := ⟨_, rfl⟩
  have hu := u32_int (a := a.mask) (b := b.mask)
  obtain ⟨res, hres⟩ : ∃ r, decide (a = b) = r := ⟨_, rfl⟩
  have e : Unit → decide (a.kd = b.kd ∧ bE = true ∧ a.dev = b.dev ∧ a.req = b.req ∧ a.id = b.id ∧ a.base = b.base ∧ a.keep = b.keep ∧ bP = true ∧ bf = true ∧ (a.mask.toNat : Int) = (b.mask.toNat : Int)) = res := fun _ => by
    rw [← hres, ← hbf, ← hbE, ← hbP]
    refine decide_eq_decide.mpr ?_
    rw [cm_iff, hu, decide_eq_true_iff, decide_eq_true_iff, decide_eq_true_iff]
  rw [hbf] at hs
  rw [hbE] at hE
  rw [hbP] at hP
  rw [hres]
  clear hres hbf hu hbE hbP
  cases bf <;> cases bE <;> cases bP
  all_goals
    repeat' (first | (with_reducible first | refine up hs ?_) | (with_reducible first | (refine wT ?_; refine wN fun _ hnl => ?_; revert hnl; (repeat refine wS fun _ _ => ?_); intro hnl) | refine wD (by decide +kernel) ?_ | refine wI (fun h => ?_) fun h => ?_ | refine wF (fun h => ?_) fun h => ?_ | refine wG (fun h => ?_) fun h => ?_ | refine wH (fun h => ?_) fun h => ?_ | ((first | refine mfork_bool (fun h => ?_) fun h => ?_ | refine mgfork_bool (fun h => ?_) fun h => ?_) <;> simp only [h])) | simp (maxSteps := 4000000) (disch := first | decide | assumption | omega | (simp only [wL]; omega)) only [go_sem, simprocAttr, Tryz.f39, fc_zero, fc_len, fc_cell, fc_take, fc_take', fc_drop, fc_drop', fc_getD, drop_two, drop_three, take_two, take_three, getD_two, getD_three, fc_at, fc_at_app, fc_get0, fc_get1, fc_get2, fc_fold, F8.get_hit, fc_all, fc_assoc, List.append_nil, List.take_zero, u32z, List.cons_append, List.nil_append, hE, hP])
  all_goals first | refine ⟨_, St.le_refl _, ?_⟩ | skip
  all_goals rw [← e ()]
  all_goals clear e
  all_goals (first | (simp [*]; done) | skip)
end Go.Proofs.YtfbodefnblpflaaGreatDoor
end

section
/- Contracts of the document's commands: which may be, bytes: the conditions that the theorems name. -/
set_option linter.unusedVariables false
set_option linter.unusedSimpArgs false
namespace Go.Proofs.YtfbodefnblpflaaGreatDoor
set_option maxRecDepth 100000
set_option maxHeartbeats 4000000
theorem rcmcheck_call (c : CM) : MCalls Tryz.prog 32 [.agg c.c] St.none (fun r _ => r = .bool (cmdOk c)) := by
  refine MCalls.drops (MCalls.body 111 [.tmp 2] Tryz.func32 rfl rfl rfl rfl ?_)
  obtain ⟨res, hres⟩ : ∃ b, cmdOk c = b := ⟨_, rfl⟩
  rw [hres]
  by_cases k1 : c.kd = 1
  · rw [cmdOk_1 k1] at hres
    have hz := rczero_call { c with e := ed0 }
    have he := recheck_call c.e
    obtain ⟨b, hb⟩ : ∃ b, decide (({ c with e := ed0 } : CM) = { cm0 with kd := c.kd }) = b := ⟨_, rfl⟩
    rw [hb] at hres
    have hz : MCalls Tryz.prog 78 _ St.none fun r _ => r = .bool b := hb ▸ hz
    simp only [CM.c, CM.k, ed0, pa0, u32z] at hz
    have e := fun (_ : Unit) => hres
    clear hres hb
    cases b
    all_goals
      repeat' (first | (with_reducible first | refine up hz ?_ | refine up he ?_) | (with_reducible first | (refine wT ?_; refine wN fun _ hnl => ?_; revert hnl; (repeat refine wS fun _ _ => ?_); intro hnl) | refine wD (by decide +kernel) ?_ | refine wI (fun h => ?_) fun h => ?_ | refine wF (fun h => ?_) fun h => ?_ | refine wG (fun h => ?_) fun h => ?_ | refine wH (fun h => ?_) fun h => ?_ | ((first | refine mfork_bool (fun h => ?_) fun h => ?_ | refine mgfork_bool (fun h => ?_) fun h => ?_) <;> simp only [h])) | simp (maxSteps := 4000000) (disch := first | decide | assumption | omega | (simp only [wL]; omega)) only [go_sem, simprocAttr, Tryz.f32, fc_zero, fc_len, fc_cell, fc_take, fc_take', fc_drop, fc_drop', fc_getD, drop_two, drop_three, take_two, take_three, getD_two, getD_three, fc_at, fc_at_app, fc_get0, fc_get1, fc_get2, fc_fold, F8.get_hit, fc_all, fc_assoc, List.append_nil, List.take_zero, u32z, List.cons_append, List.nil_append])
      all_goals first | refine ⟨_, St.le_refl _, ?_⟩ | refine ⟨_, St.le_refl _⟩ | skip
      all_goals rw [← e ()]
      all_goals (first | (simp [*]; done) | (simp; omega) | skip)
  · by_cases k5 : c.kd = 5
    · rw [cmdOk_5 k5] at hres
      have hz := rczero_call { c with keep := 0 }
      obtain ⟨b, hb⟩ : ∃ b, decide (({ c with keep := 0 } : CM) = { cm0 with kd := c.kd }) = b := ⟨_, rfl⟩
      rw [hb] at hres
      have hz : MCalls Tryz.prog 78 _ St.none fun r _ => r = .bool b := hb ▸ hz
      simp only [CM.c, CM.k, ed0, pa0, u32z] at hz
      have e := fun (_ : Unit) => hres
      clear hres hb
      cases b
      all_goals
        repeat' (first | (with_reducible first | refine up hz ?_) | (with_reducible first | (refine wT ?_; refine wN fun _ hnl => ?_; revert hnl; (repeat refine wS fun _ _ => ?_); intro hnl) | refine wD (by decide +kernel) ?_ | refine wI (fun h => ?_) fun h => ?_ | refine wF (fun h => ?_) fun h => ?_ | refine wG (fun h => ?_) fun h => ?_ | refine wH (fun h => ?_) fun h => ?_ | ((first | refine mfork_bool (fun h => ?_) fun h => ?_ | refine mgfork_bool (fun h => ?_) fun h => ?_) <;> simp only [h])) | simp (maxSteps := 4000000) (disch := first | decide | assumption | omega | (simp only [wL]; omega)) only [go_sem, simprocAttr, Tryz.f32, fc_zero, fc_len, fc_cell, fc_take, fc_take', fc_drop, fc_drop', fc_getD, drop_two, drop_three, take_two, take_three, getD_two, getD_three, fc_at, fc_at_app, fc_get0, fc_get1, fc_get2, fc_fold, F8.get_hit, fc_all, fc_assoc, List.append_nil, List.take_zero, u32z, List.cons_append, List.nil_append])
        all_goals first | refine ⟨_, St.le_refl _, ?_⟩ | refine ⟨_, St.le_refl _⟩ | skip
        all_goals rw [← e ()]
        all_goals (first | (simp [*]; done) | (simp; omega) | skip)
    · by_cases hr : c.dev < 0 ∨ 6 ≤ c.dev ∨ c.req < 1 ∨ 1099511627776 < c.req
      · rw [cmdOk_r k1 k5 hr] at hres
        subst hres
        repeat' (first | (with_reducible first | (refine wT ?_; refine wN fun _ hnl => ?_; revert hnl; (repeat refine wS fun _ _ => ?_); intro hnl) | refine wD (by decide +kernel) ?_ | refine wI (fun h => ?_) fun h => ?_ | refine wF (fun h => ?_) fun h => ?_ | refine wG (fun h => ?_) fun h => ?_ | refine wH (fun h => ?_) fun h => ?_ | ((first | refine mfork_bool (fun h => ?_) fun h => ?_ | refine mgfork_bool (fun h => ?_) fun h => ?_) <;> simp only [h])) | simp (maxSteps := 4000000) (disch := first | decide | assumption | omega | (simp only [wL]; omega)) only [go_sem, simprocAttr, Tryz.f32, fc_zero, fc_len, fc_cell, fc_take, fc_take', fc_drop, fc_drop', fc_getD, drop_two, drop_three, take_two, take_three, getD_two, getD_three, fc_at, fc_at_app, fc_get0, fc_get1, fc_get2, fc_fold, F8.get_hit, fc_all, fc_assoc, List.append_nil, List.take_zero, u32z, List.cons_append, List.nil_append])
        all_goals first | exact ⟨_, St.le_refl _, rfl⟩ | exact ⟨_, St.le_refl _⟩ | (exfalso; omega)
      · by_cases k2 : c.kd = 2
        · rw [cmdOk_2 k2 hr] at hres
          have hz := rczero_call { c with dev := 0, req := 0, id := 0, base := 0, p := pa0 }
          have hp := rcpatch_call c.p
          obtain ⟨b, hb⟩ : ∃ b, decide (({ c with dev := 0, req := 0, id := 0, base := 0, p := pa0 } : CM) = { cm0 with kd := c.kd }) = b := ⟨_, rfl⟩
          rw [hb] at hres
          have hz : MCalls Tryz.prog 78 _ St.none fun r _ => r = .bool b := hb ▸ hz
          simp only [CM.c, CM.k, ed0, pa0, u32z] at hz
          have e := fun (_ : Unit) => hres
          clear hres hb
          cases b
          all_goals
            repeat' (first | (with_reducible first | refine up hz ?_ | refine up hp ?_) | (with_reducible first | (refine wT ?_; refine wN fun _ hnl => ?_; revert hnl; (repeat refine wS fun _ _ => ?_); intro hnl) | refine wD (by decide +kernel) ?_ | refine wI (fun h => ?_) fun h => ?_ | refine wF (fun h => ?_) fun h => ?_ | refine wG (fun h => ?_) fun h => ?_ | refine wH (fun h => ?_) fun h => ?_ | ((first | refine mfork_bool (fun h => ?_) fun h => ?_ | refine mgfork_bool (fun h => ?_) fun h => ?_) <;> simp only [h])) | simp (maxSteps := 4000000) (disch := first | decide | assumption | omega | (simp only [wL]; omega)) only [go_sem, simprocAttr, Tryz.f32, fc_zero, fc_len, fc_cell, fc_take, fc_take', fc_drop, fc_drop', fc_getD, drop_two, drop_three, take_two, take_three, getD_two, getD_three, fc_at, fc_at_app, fc_get0, fc_get1, fc_get2, fc_fold, F8.get_hit, fc_all, fc_assoc, List.append_nil, List.take_zero, u32z, List.cons_append, List.nil_append])
            all_goals first | refine ⟨_, St.le_refl _, ?_⟩ | refine ⟨_, St.le_refl _⟩ | skip
            all_goals rw [← e ()]
            all_goals (first | (simp [*]; done) | (simp; omega) | skip)
        · by_cases k3 : c.kd = 3
          · rw [cmdOk_3 k3 hr] at hres
            have hz := rczero_call { c with dev := 0, req := 0, fl := [], mask := 0 }
            have hp := rpcheck_call c.fl false
            have hm := rmcheck_call c.mask
            obtain ⟨b, hb⟩ : ∃ b, decide (({ c with dev := 0, req := 0, fl := [], mask := 0 } : CM) = { cm0 with kd := c.kd }) = b := ⟨_, rfl⟩
            rw [hb] at hres
            have hz : MCalls Tryz.prog 78 _ St.none fun r _ => r = .bool b := hb ▸ hz
            simp only [CM.c, CM.k, ed0, pa0, u32z] at hz
            have e := fun (_ : Unit) => hres
            clear hres hb
            cases b
            all_goals
              repeat' (first | (with_reducible refine use_lend _ hz (.bool _) rfl (views_one (vcm (c := { c with dev := 0, req := 0, fl := [], mask := 0 }) (.nil _ _))) ?_) | (with_reducible first | refine up hp ?_ | refine up hm ?_) | (with_reducible first | (refine wT ?_; refine wN fun _ hnl => ?_; revert hnl; (repeat refine wS fun _ _ => ?_); intro hnl) | refine wD (by decide +kernel) ?_ | refine wI (fun h => ?_) fun h => ?_ | refine wF (fun h => ?_) fun h => ?_ | refine wG (fun h => ?_) fun h => ?_ | refine wH (fun h => ?_) fun h => ?_ | ((first | refine mfork_bool (fun h => ?_) fun h => ?_ | refine mgfork_bool (fun h => ?_) fun h => ?_) <;> simp only [h])) | simp (maxSteps := 4000000) (disch := first | decide | assumption | omega | (simp only [wL]; omega)) only [go_sem, simprocAttr, Tryz.f32, fc_zero, fc_len, fc_cell, fc_take, fc_take', fc_drop, fc_drop', fc_getD, drop_two, drop_three, take_two, take_three, getD_two, getD_three, fc_at, fc_at_app, fc_get0, fc_get1, fc_get2, fc_fold, F8.get_hit, fc_all, fc_assoc, List.append_nil, List.take_zero, u32z, List.cons_append, List.nil_append])
              all_goals first | refine ⟨_, St.le_refl _, ?_⟩ | refine ⟨_, St.le_refl _⟩ | skip
              all_goals rw [← e ()]
              all_goals (first | (simp [*]; done) | (simp; omega) | skip)
          · by_cases k4 : c.kd = 4
            · rw [cmdOk_4 k4 hr] at hres
              have hz := rczero_call { c with dev := 0, req := 0 }
              obtain ⟨b, hb⟩ : ∃ b, decide (({ c with dev := 0, req := 0 } : CM) = { cm0 with kd := c.kd }) = b := ⟨_, rfl⟩
              rw [hb] at hres
              have hz : MCalls Tryz.prog 78 _ St.none fun r _ => r = .bool b := hb ▸ hz
              simp only [CM.c, CM.k, ed0, pa0, u32z] at hz
              have e := fun (_ : Unit) => hres
              clear hres hb
              cases b
              all_goals
                repeat' (first | (with_reducible first | refine up hz ?_) | (with_reducible first | (refine wT ?_; refine wN fun _ hnl => ?_; revert hnl; (repeat refine wS fun _ _ => ?_); intro hnl) | refine wD (by decide +kernel) ?_ | refine wI (fun h => ?_) fun h => ?_ | refine wF (fun h => ?_) fun h => ?_ | refine wG (fun h => ?_) fun h => ?_ | refine wH (fun h => ?_) fun h => ?_ | ((first | refine mfork_bool (fun h => ?_) fun h => ?_ | refine mgfork_bool (fun h => ?_) fun h => ?_) <;> simp only [h])) | simp (maxSteps := 4000000) (disch := first | decide | assumption | omega | (simp only [wL]; omega)) only [go_sem, simprocAttr, Tryz.f32, fc_zero, fc_len, fc_cell, fc_take, fc_take', fc_drop, fc_drop', fc_getD, drop_two, drop_three, take_two, take_three, getD_two, getD_three, fc_at, fc_at_app, fc_get0, fc_get1, fc_get2, fc_fold, F8.get_hit, fc_all, fc_assoc, List.append_nil, List.take_zero, u32z, List.cons_append, List.nil_append])
                all_goals first | refine ⟨_, St.le_refl _, ?_⟩ | refine ⟨_, St.le_refl _⟩ | skip
                all_goals rw [← e ()]
                all_goals (first | (simp [*]; done) | (simp; omega) | skip)
            · rw [cmdOk_o k1 k5 k2 k3 k4] at hres
              subst hres
              repeat' (first | (with_reducible first | (refine wT ?_; refine wN fun _ hnl => ?_; revert hnl; (repeat refine wS fun _ _ => ?_); intro hnl) | refine wD (by decide +kernel) ?_ | refine wI (fun h => ?_) fun h => ?_ | refine wF (fun h => ?_) fun h => ?_ | refine wG (fun h => ?_) fun h => ?_ | refine wH (fun h => ?_) fun h => ?_ | ((first | refine mfork_bool (fun h => ?_) fun h => ?_ | refine mgfork_bool (fun h => ?_) fun h => ?_) <;> simp only [h])) | simp (maxSteps := 4000000) (disch := first | decide | assumption | omega | (simp only [wL]; omega)) only [go_sem, simprocAttr, Tryz.f32, fc_zero, fc_len, fc_cell, fc_take, fc_take', fc_drop, fc_drop', fc_getD, drop_two, drop_three, take_two, take_three, getD_two, getD_three, fc_at, fc_at_app, fc_get0, fc_get1, fc_get2, fc_fold, F8.get_hit, fc_all, fc_assoc, List.append_nil, List.take_zero, u32z, List.cons_append, List.nil_append])
              all_goals first | exact ⟨_, St.le_refl _, rfl⟩ | exact ⟨_, St.le_refl _⟩ | (exfalso; omega)
end Go.Proofs.YtfbodefnblpflaaGreatDoor
end

section
/- Contracts of the document's answers: bytes, reader, whether two are alike: the conditions that the theorems name. -/
set_option linter.unusedVariables false
set_option linter.unusedSimpArgs false
namespace Go.Proofs.YtfbodefnblpflaaGreatDoor
set_option maxRecDepth 100000
set_option maxHeartbeats 4000000
theorem rrput_call (a : RE) (hok : repOk a = true) : MCalls Tryz.prog 29 [.agg a.c] St.none (fun r _ => r = .str (bsS (repB a))) := by
  refine MCalls.drops (MCalls.body 61 [.tmp 2] Tryz.func29 rfl rfl rfl rfl ?_)
  have hc := rrcheck_call a
  rw [hok] at hc
  have l1 := numB_len a.kd
  have l2 := numB_len a.dev
  have l3 := numB_len a.req
  have l4 := numB_len a.code
  have l5 := numB_len a.sq
  have l6 := numB_len a.id
  have l7 := numB_len a.ver
  have l8 := numB_len a.ep
  have l9 := numB_len (a.mask.toNat : Int)
  have la := (inferInstance : LB (predB a.fl) 1600).h
  have hmt := a.mask.toNat_lt
  have hp := fun h1 h2 => rputpred_call a.fl false (repOk_sub hok h1 h2)
  have n5 := rnum_call a.sq
  obtain ⟨C, hN, hP⟩ : ∃ C : Know, (∀ n, C 26 [.int .i64 n] = some ⟨[], fun v => v = .str (bsS (numB n)), none⟩) ∧ C 72 [.lst 5 (a.fl.map ND.c) false] = some ⟨[], fun w => w = .str (bsS (predB a.fl)), none⟩ :=
    ⟨numK (kn [(72, [.lst 5 (a.fl.map ND.c) false], ⟨[], fun w => w = .str (bsS (predB a.fl)), none⟩)]), fun _ => numK_hit, numK_skip kn_hit rfl⟩
  unfold repB
  rw [if_pos hok]
  by_cases h0 : a.code = 0
  · rw [if_pos h0]
    by_cases h2 : a.kd = 2
    · rw [if_pos h2, if_neg (by omega)]
      repeat' (first | ((with_reducible refine mdraw_know mixed ?chk C ?_); (case chk => decide +kernel)) | (with_reducible refine know_pure (hN _) (rnum_call _) ?_) | (with_reducible first | refine up hc ?_ | refine up n5 ?_) | (with_reducible first | (refine wT ?_; refine wN fun _ hnl => ?_; revert hnl; (repeat refine wS fun _ _ => ?_); intro hnl) | refine wD (by decide +kernel) ?_ | refine wI (fun h => ?_) fun h => ?_ | refine wF (fun h => ?_) fun h => ?_ | refine wG (fun h => ?_) fun h => ?_ | refine wH (fun h => ?_) fun h => ?_ | ((first | refine mfork_bool (fun h => ?_) fun h => ?_ | refine mgfork_bool (fun h => ?_) fun h => ?_) <;> simp only [h])) | simp (maxSteps := 4000000) (disch := first | decide | assumption | omega | (simp only [wL]; omega)) only [go_sem, simprocAttr, Tryz.f29, bsS_append, bsS_size])
      all_goals first | refine ⟨_, St.le_refl _, ?_⟩ | refine ⟨_, St.le_refl _⟩
      all_goals simp [h0, h2]
    · rw [if_neg h2]
      by_cases h3 : a.kd = 3
      · rw [if_pos h3]
        have hp := hp h0 h3
        repeat' (first | ((with_reducible refine mdraw_know mixed ?chk C ?_); (case chk => decide +kernel)) | (with_reducible refine know_pure (hN _) (rnum_call _) ?_) | (with_reducible refine know_pure hP hp ?_) | (with_reducible first | refine up hc ?_ | refine up n5 ?_) | (with_reducible first | (refine wT ?_; refine wN fun _ hnl => ?_; revert hnl; (repeat refine wS fun _ _ => ?_); intro hnl) | refine wD (by decide +kernel) ?_ | refine wI (fun h => ?_) fun h => ?_ | refine wF (fun h => ?_) fun h => ?_ | refine wG (fun h => ?_) fun h => ?_ | refine wH (fun h => ?_) fun h => ?_ | ((first | refine mfork_bool (fun h => ?_) fun h => ?_ | refine mgfork_bool (fun h => ?_) fun h => ?_) <;> simp only [h])) | simp (maxSteps := 4000000) (disch := first | decide | assumption | omega | (simp only [wL]; omega)) only [go_sem, simprocAttr, Tryz.f29, bsS_append, bsS_size])
        all_goals first | refine ⟨_, St.le_refl _, ?_⟩ | refine ⟨_, St.le_refl _⟩
        all_goals simp [h0, h3]
      · rw [if_neg h3]
        repeat' (first | ((with_reducible refine mdraw_know mixed ?chk C ?_); (case chk => decide +kernel)) | (with_reducible refine know_pure (hN _) (rnum_call _) ?_) | (with_reducible first | refine up hc ?_ | refine up n5 ?_) | (with_reducible first | (refine wT ?_; refine wN fun _ hnl => ?_; revert hnl; (repeat refine wS fun _ _ => ?_); intro hnl) | refine wD (by decide +kernel) ?_ | refine wI (fun h => ?_) fun h => ?_ | refine wF (fun h => ?_) fun h => ?_ | refine wG (fun h => ?_) fun h => ?_ | refine wH (fun h => ?_) fun h => ?_ | ((first | refine mfork_bool (fun h => ?_) fun h => ?_ | refine mgfork_bool (fun h => ?_) fun h => ?_) <;> simp only [h])) | simp (maxSteps := 4000000) (disch := first | decide | assumption | omega | (simp only [wL]; omega)) only [go_sem, simprocAttr, Tryz.f29, bsS_append, bsS_size])
        all_goals first | refine ⟨_, St.le_refl _, ?_⟩ | refine ⟨_, St.le_refl _⟩
        all_goals simp [h0]
  · rw [if_neg h0]
    repeat' (first | ((with_reducible refine mdraw_know mixed ?chk C ?_); (case chk => decide +kernel)) | (with_reducible refine know_pure (hN _) (rnum_call _) ?_) | (with_reducible first | refine up hc ?_ | refine up n5 ?_) | (with_reducible first | (refine wT ?_; refine wN fun _ hnl => ?_; revert hnl; (repeat refine wS fun _ _ => ?_); intro hnl) | refine wD (by decide +kernel) ?_ | refine wI (fun h => ?_) fun h => ?_ | refine wF (fun h => ?_) fun h => ?_ | refine wG (fun h => ?_) fun h => ?_ | refine wH (fun h => ?_) fun h => ?_ | ((first | refine mfork_bool (fun h => ?_) fun h => ?_ | refine mgfork_bool (fun h => ?_) fun h => ?_) <;> simp only [h])) | simp (maxSteps := 4000000) (disch := first | decide | assumption | omega | (simp only [wL]; omega)) only [go_sem, simprocAttr, Tryz.f29, bsS_append, bsS_size])
    all_goals first | refine ⟨_, St.le_refl _, ?_⟩ | refine ⟨_, St.le_refl _⟩
    all_goals simp
theorem rrsame_call (a b : RE) (hl : a.fl.length ≤ 1000000) : MCalls Tryz.prog 40 [.agg a.c, .agg b.c] St.none (fun r _ => r = .bool (decide (a = b))) := by
  refine MCalls.drops (MCalls.body 73 [.tmp 4] Tryz.func40 rfl rfl rfl rfl ?_)
  have hs := rsame_call a.fl b.fl hl false false
  obtain ⟨bf, hbf⟩ : ∃ x, decide (a.fl = b.fl) = x := ⟨_, rfl⟩
  have hu := u32_int (a := a.mask) (b := b.mask)
  obtain ⟨res, hres⟩ : ∃ r, decide (a = b) = r := ⟨_, rfl⟩
  have e : Unit → decide (a.kd = b.kd ∧ a.dev = b.dev ∧ a.req = b.req ∧ a.code = b.code ∧ a.id = b.id ∧ a.ver = b.ver ∧ a.sq = b.sq ∧ a.ep = b.ep ∧ bf = true ∧ (a.mask.toNat : Int) = (b.mask.toNat : Int)) = res := fun _ => by
    rw [← hres, ← hbf]
    refine decide_eq_decide.mpr ?_
    rw [re_iff, hu, decide_eq_true_iff]
  rw [hbf] at hs
  rw [hres]
  clear hres hbf hu
  cases bf
  all_goals
    repeat' (first | (with_reducible first | refine up hs ?_) | (with_reducible first | (refine wT ?_; refine wN fun _ hnl => ?_; revert hnl; (repeat refine wS fun _ _ => ?_); intro hnl) | refine wD (by decide +kernel) ?_ | refine wI (fun h => ?_) fun h => ?_ | refine wF (fun h => ?_) fun h => ?_ | refine wG (fun h => ?_) fun h => ?_ | refine wH (fun h => ?_) fun h => ?_ | ((first | refine mfork_bool (fun h => ?_) fun h => ?_ | refine mgfork_bool (fun h => ?_) fun h => ?_) <;> simp only [h])) | simp (maxSteps := 4000000) (disch := first | decide | assumption | omega | (simp only [wL]; omega)) only [go_sem, simprocAttr, Tryz.f40])
  all_goals first | refine ⟨_, St.le_refl _, ?_⟩ | skip
  all_goals rw [← e ()]
  all_goals clear e
  all_goals (first | (simp [*]; done) | skip)
end Go.Proofs.YtfbodefnblpflaaGreatDoor
end

section
/- Contracts of the document's commands: bytes, reader: the conditions that the theorems name. -/
set_option linter.unusedVariables false
set_option linter.unusedSimpArgs false
namespace Go.Proofs.YtfbodefnblpflaaGreatDoor
set_option maxRecDepth 100000
set_option maxHeartbeats 4000000
theorem rcmput_call (c : CM) (hok : cmdOk c = true) : MCalls Tryz.prog 27 [.agg c.c] St.none (fun r _ => r = .str (bsS (cmdB c))) := by
  refine MCalls.drops (MCalls.body 65 [.tmp 2] Tryz.func27 rfl rfl rfl rfl ?_)
  have hc := rcmcheck_call c
  rw [hok] at hc
  have l1 := numB_len c.kd
  have l2 := numB_len c.dev
  have l3 := numB_len c.req
  have l4 := numB_len c.id
  have l5 := numB_len c.base
  have l6 := numB_len c.keep
  have l9 := numB_len (c.mask.toNat : Int)
  have la := (inferInstance : LB (predB c.fl) 1600).h
  have lb := (inferInstance : LB (patchB c.p) 400).h
  have lc := (inferInstance : LB (editB c.e) 500).h
  have hmt := c.mask.toNat_lt
  have he := fun h => rputedit_call c.e (cmdOk_e hok h)
  have hp := fun h => rputpatch_call c.p (cmdOk_p hok h)
  have hf := fun h => rputpred_call c.fl false (cmdOk_f hok h)
  have n1 := rnum_call c.kd
  have n6 := rnum_call c.keep
  obtain ⟨C, hN, hF, hP⟩ : ∃ C : Know, (∀ n, C 26 [.int .i64 n] = some ⟨[], fun v => v = .str (bsS (numB n)), none⟩) ∧ C 72 [.lst 5 (c.fl.map ND.c) false] = some ⟨[], fun w => w = .str (bsS (predB c.fl)), none⟩ ∧ C 71 [.agg c.p.c] = some ⟨[], fun w => w = .str (bsS (patchB c.p)), none⟩ :=
    ⟨numK (kn [(72, [.lst 5 (c.fl.map ND.c) false], ⟨[], fun w => w = .str (bsS (predB c.fl)), none⟩), (71, [.agg c.p.c], ⟨[], fun w => w = .str (bsS (patchB c.p)), none⟩)]), fun _ => numK_hit, numK_skip kn_hit rfl, numK_skip (kn_skip (fun h => absurd h.1 (by decide)) kn_hit) rfl⟩
  unfold cmdB
  rw [if_pos hok]
  have hr := cmdOk_rng hok
  by_cases k1 : c.kd = 1
  · rw [if_pos k1]
    have he := he k1
    repeat' (first | ((with_reducible refine mdraw_know mixed ?chk C ?_); (case chk => decide +kernel)) | (with_reducible refine know_pure (hN _) (rnum_call _) ?_) | (with_reducible first | refine up hc ?_ | refine up n1 ?_ | refine up he ?_) | (with_reducible first | (refine wT ?_; refine wN fun _ hnl => ?_; revert hnl; (repeat refine wS fun _ _ => ?_); intro hnl) | refine wD (by decide +kernel) ?_ | refine wI (fun h => ?_) fun h => ?_ | refine wF (fun h => ?_) fun h => ?_ | refine wG (fun h => ?_) fun h => ?_ | refine wH (fun h => ?_) fun h => ?_ | ((first | refine mfork_bool (fun h => ?_) fun h => ?_ | refine mgfork_bool (fun h => ?_) fun h => ?_) <;> simp only [h])) | simp (maxSteps := 4000000) (disch := first | decide | assumption | omega | (simp only [wL]; omega)) only [go_sem, simprocAttr, Tryz.f27, fc_zero, fc_len, fc_cell, fc_take, fc_take', fc_drop, fc_drop', fc_getD, drop_two, drop_three, take_two, take_three, getD_two, getD_three, fc_at, fc_at_app, fc_get0, fc_get1, fc_get2, fc_fold, F8.get_hit, fc_all, fc_assoc, List.append_nil, List.take_zero, u32z, List.cons_append, List.nil_append, bsS_append, bsS_size])
    all_goals first | refine ⟨_, St.le_refl _, ?_⟩ | refine ⟨_, St.le_refl _⟩
    all_goals simp [*]
  · rw [if_neg k1]
    by_cases k5 : c.kd = 5
    · rw [if_pos k5]
      repeat' (first | ((with_reducible refine mdraw_know mixed ?chk C ?_); (case chk => decide +kernel)) | (with_reducible refine know_pure (hN _) (rnum_call _) ?_) | (with_reducible first | refine up hc ?_ | refine up n1 ?_ | refine up n6 ?_) | (with_reducible first | (refine wT ?_; refine wN fun _ hnl => ?_; revert hnl; (repeat refine wS fun _ _ => ?_); intro hnl) | refine wD (by decide +kernel) ?_ | refine wI (fun h => ?_) fun h => ?_ | refine wF (fun h => ?_) fun h => ?_ | refine wG (fun h => ?_) fun h => ?_ | refine wH (fun h => ?_) fun h => ?_ | ((first | refine mfork_bool (fun h => ?_) fun h => ?_ | refine mgfork_bool (fun h => ?_) fun h => ?_) <;> simp only [h])) | simp (maxSteps := 4000000) (disch := first | decide | assumption | omega | (simp only [wL]; omega)) only [go_sem, simprocAttr, Tryz.f27, fc_zero, fc_len, fc_cell, fc_take, fc_take', fc_drop, fc_drop', fc_getD, drop_two, drop_three, take_two, take_three, getD_two, getD_three, fc_at, fc_at_app, fc_get0, fc_get1, fc_get2, fc_fold, F8.get_hit, fc_all, fc_assoc, List.append_nil, List.take_zero, u32z, List.cons_append, List.nil_append, bsS_append, bsS_size])
      all_goals first | refine ⟨_, St.le_refl _, ?_⟩ | refine ⟨_, St.le_refl _⟩
      all_goals simp [*]
    · rw [if_neg k5]
      have hr := hr k1 k5
      by_cases k2 : c.kd = 2
      · rw [if_pos k2, if_neg (by omega)]
        have hp := hp k2
        repeat' (first | ((with_reducible refine mdraw_know mixed ?chk C ?_); (case chk => decide +kernel)) | (with_reducible refine know_pure (hN _) (rnum_call _) ?_) | (with_reducible refine know_pure hP hp ?_) | (with_reducible first | refine up hc ?_ | refine up n1 ?_) | (with_reducible first | (refine wT ?_; refine wN fun _ hnl => ?_; revert hnl; (repeat refine wS fun _ _ => ?_); intro hnl) | refine wD (by decide +kernel) ?_ | refine wI (fun h => ?_) fun h => ?_ | refine wF (fun h => ?_) fun h => ?_ | refine wG (fun h => ?_) fun h => ?_ | refine wH (fun h => ?_) fun h => ?_ | ((first | refine mfork_bool (fun h => ?_) fun h => ?_ | refine mgfork_bool (fun h => ?_) fun h => ?_) <;> simp only [h])) | simp (maxSteps := 4000000) (disch := first | decide | assumption | omega | (simp only [wL]; omega)) only [go_sem, simprocAttr, Tryz.f27, fc_zero, fc_len, fc_cell, fc_take, fc_take', fc_drop, fc_drop', fc_getD, drop_two, drop_three, take_two, take_three, getD_two, getD_three, fc_at, fc_at_app, fc_get0, fc_get1, fc_get2, fc_fold, F8.get_hit, fc_all, fc_assoc, List.append_nil, List.take_zero, u32z, List.cons_append, List.nil_append, bsS_append, bsS_size])
        all_goals first | refine ⟨_, St.le_refl _, ?_⟩ | refine ⟨_, St.le_refl _⟩
        all_goals simp [*]
      · rw [if_neg k2]
        by_cases k3 : c.kd = 3
        · rw [if_pos k3]
          have hf := hf k3
          repeat' (first | ((with_reducible refine mdraw_know mixed ?chk C ?_); (case chk => decide +kernel)) | (with_reducible refine know_pure (hN _) (rnum_call _) ?_) | (with_reducible refine know_pure hF hf ?_) | (with_reducible first | refine up hc ?_ | refine up n1 ?_) | (with_reducible first | (refine wT ?_; refine wN fun _ hnl => ?_; revert hnl; (repeat refine wS fun _ _ => ?_); intro hnl) | refine wD (by decide +kernel) ?_ | refine wI (fun h => ?_) fun h => ?_ | refine wF (fun h => ?_) fun h => ?_ | refine wG (fun h => ?_) fun h => ?_ | refine wH (fun h => ?_) fun h => ?_ | ((first | refine mfork_bool (fun h => ?_) fun h => ?_ | refine mgfork_bool (fun h => ?_) fun h => ?_) <;> simp only [h])) | simp (maxSteps := 4000000) (disch := first | decide | assumption | omega | (simp only [wL]; omega)) only [go_sem, simprocAttr, Tryz.f27, fc_zero, fc_len, fc_cell, fc_take, fc_take', fc_drop, fc_drop', fc_getD, drop_two, drop_three, take_two, take_three, getD_two, getD_three, fc_at, fc_at_app, fc_get0, fc_get1, fc_get2, fc_fold, F8.get_hit, fc_all, fc_assoc, List.append_nil, List.take_zero, u32z, List.cons_append, List.nil_append, bsS_append, bsS_size])
          all_goals first | refine ⟨_, St.le_refl _, ?_⟩ | refine ⟨_, St.le_refl _⟩
          all_goals simp [*]
        · rw [if_neg k3]
          repeat' (first | ((with_reducible refine mdraw_know mixed ?chk C ?_); (case chk => decide +kernel)) | (with_reducible refine know_pure (hN _) (rnum_call _) ?_) | (with_reducible first | refine up hc ?_ | refine up n1 ?_) | (with_reducible first | (refine wT ?_; refine wN fun _ hnl => ?_; revert hnl; (repeat refine wS fun _ _ => ?_); intro hnl) | refine wD (by decide +kernel) ?_ | refine wI (fun h => ?_) fun h => ?_ | refine wF (fun h => ?_) fun h => ?_ | refine wG (fun h => ?_) fun h => ?_ | refine wH (fun h => ?_) fun h => ?_ | ((first | refine mfork_bool (fun h => ?_) fun h => ?_ | refine mgfork_bool (fun h => ?_) fun h => ?_) <;> simp only [h])) | simp (maxSteps := 4000000) (disch := first | decide | assumption | omega | (simp only [wL]; omega)) only [go_sem, simprocAttr, Tryz.f27, fc_zero, fc_len, fc_cell, fc_take, fc_take', fc_drop, fc_drop', fc_getD, drop_two, drop_three, take_two, take_three, getD_two, getD_three, fc_at, fc_at_app, fc_get0, fc_get1, fc_get2, fc_fold, F8.get_hit, fc_all, fc_assoc, List.append_nil, List.take_zero, u32z, List.cons_append, List.nil_append, bsS_append, bsS_size])
          all_goals first | refine ⟨_, St.le_refl _, ?_⟩ | refine ⟨_, St.le_refl _⟩
          all_goals simp [*]
end Go.Proofs.YtfbodefnblpflaaGreatDoor
end

section
/- Contracts of the document's messages: the conditions that the theorems name. -/
set_option linter.unusedVariables false
set_option linter.unusedSimpArgs false
namespace Go.Proofs.YtfbodefnblpflaaGreatDoor
set_option maxRecDepth 100000
set_option maxHeartbeats 4000000
theorem rxsame_call (a b : MS) (hs : Sm a) : MCalls Tryz.prog 14 [.agg a.c, .agg b.c] St.none (fun r _ => r = .bool (decide (a = b))) := by
  refine MCalls.drops (MCalls.body 52 [.tmp 4] Tryz.func14 rfl rfl rfl rfl ?_)
  have h1 := rcmsame_call a.cmd b.cmd hs.f
  have h2 := rrsame_call a.rep b.rep hs.g
  have h3 := rpgsame_call a.page b.page hs.i
  have h4 := mbe_token a.tok b.tok
  obtain ⟨b1, hb1⟩ : ∃ x, decide (a.cmd = b.cmd) = x := ⟨_, rfl⟩
  obtain ⟨b2, hb2⟩ : ∃ x, decide (a.rep = b.rep) = x := ⟨_, rfl⟩
  obtain ⟨b3, hb3⟩ : ∃ x, decide (a.page = b.page) = x := ⟨_, rfl⟩
  obtain ⟨b4, hb4⟩ : ∃ x, decide (a.tok = b.tok) = x := ⟨_, rfl⟩
  obtain ⟨res, hres⟩ : ∃ r, decide (a = b) = r := ⟨_, rfl⟩
  have e : Unit → decide (a.kd = b.kd ∧ a.size = b.size ∧ b1 = true ∧ b4 = true ∧ b2 = true ∧ b3 = true ∧ a.code = b.code) = res := fun _ => by
    rw [← hres, ← hb1, ← hb2, ← hb3, ← hb4]
    refine decide_eq_decide.mpr ?_
    rw [ms_iff, decide_eq_true_iff, decide_eq_true_iff, decide_eq_true_iff, decide_eq_true_iff]
  rw [hb1] at h1
  rw [hb2] at h2
  rw [hb3] at h3
  rw [hb4] at h4
  rw [hres]
  clear hres hb1 hb2 hb3 hb4
  cases b1
  case' true => cases b4
  case' true.true => cases b2
  case' true.true.true => cases b3
  all_goals
    repeat' (first | (with_reducible first | refine up h1 ?_ | refine up h2 ?_ | refine up h3 ?_) | (with_reducible first | (refine wT ?_; refine wN fun _ hnl => ?_; revert hnl; (repeat refine wS fun _ _ => ?_); intro hnl) | refine wD (by decide +kernel) ?_ | refine wI (fun h => ?_) fun h => ?_ | refine wF (fun h => ?_) fun h => ?_ | refine wG (fun h => ?_) fun h => ?_ | refine wH (fun h => ?_) fun h => ?_ | ((first | refine mfork_bool (fun h => ?_) fun h => ?_ | refine mgfork_bool (fun h => ?_) fun h => ?_) <;> simp only [h])) | simp (maxSteps := 4000000) (disch := first | decide | assumption | omega | (simp only [wL]; omega)) only [go_sem, simprocAttr, Tryz.f14, fc_zero, fc_len, fc_cell, fc_take, fc_take', fc_drop, fc_drop', fc_getD, drop_two, drop_three, take_two, take_three, getD_two, getD_three, fc_at, fc_at_app, fc_get0, fc_get1, fc_get2, fc_fold, F8.get_hit, fc_all, fc_assoc, List.append_nil, List.take_zero, u32z, List.cons_append, List.nil_append, h4])
    all_goals first | refine ⟨_, St.le_refl _, ?_⟩ | skip
    all_goals rw [← e ()]
    all_goals clear e
    all_goals (first | (simp [*]; done) | skip)
theorem rxcheck_call (m : MS) (hs : Sm m) : MCalls Tryz.prog 12 [.agg m.c] St.none (fun r _ => r = .bool (msgOk m)) := by
  refine MCalls.drops (MCalls.body 86 [.tmp 2] Tryz.func12 rfl rfl rfl rfl ?_)
  obtain ⟨res, hres⟩ : ∃ b, msgOk m = b := ⟨_, rfl⟩
  rw [hres]
  by_cases k1 : m.kd = 1
  · rw [msgOk_1 k1] at hres
    have hc := rcmcheck_call m.cmd
    have hq := rxsame_call ({ ms0 with kd := m.kd, cmd := m.cmd }) m ⟨by first | exact hs.f | simp [ms0, cm0], by first | exact hs.g | simp [ms0, re0], by first | exact hs.i | simp [ms0, pg0]⟩
    obtain ⟨b, hb⟩ : ∃ b, decide (({ ms0 with kd := m.kd, cmd := m.cmd } : MS) = m) = b := ⟨_, rfl⟩
    rw [hb] at hres hq
    have hv := fun (σ : St) (f g i : MV) => vms (σ := σ) (m := { ms0 with kd := m.kd, cmd := m.cmd }) (f := f) (g := g) (i := i)
    simp only [MS.c, MS.k, ms0, cm0, ed0, pa0, tk0, re0, pg0, u32z] at hv hq
    have e := fun (_ : Unit) => hres
    clear hres hb
    cases b <;> cases hk : cmdOk m.cmd <;> rw [hk] at hc e
    all_goals
      repeat' (first | (with_reducible refine use_lend _ hq (.bool _) rfl (views_two (hv _ _ _ _ (.same _) (.nil _ _) (.nil _ _)) (.same _)) ?_) | (with_reducible first | refine up hc ?_) | (with_reducible first | (refine wT ?_; refine wN fun _ hnl => ?_; revert hnl; (repeat refine wS fun _ _ => ?_); intro hnl) | refine wD (by decide +kernel) ?_ | refine wI (fun h => ?_) fun h => ?_ | refine wF (fun h => ?_) fun h => ?_ | refine wG (fun h => ?_) fun h => ?_ | refine wH (fun h => ?_) fun h => ?_ | ((first | refine mfork_bool (fun h => ?_) fun h => ?_ | refine mgfork_bool (fun h => ?_) fun h => ?_) <;> simp only [h])) | simp (maxSteps := 4000000) (disch := first | decide | assumption | omega | (simp only [wL]; omega)) only [go_sem, simprocAttr, Tryz.f12, fc_zero, fc_len, fc_cell, fc_take, fc_take', fc_drop, fc_drop', fc_getD, drop_two, drop_three, take_two, take_three, getD_two, getD_three, fc_at, fc_at_app, fc_get0, fc_get1, fc_get2, fc_fold, F8.get_hit, fc_all, fc_assoc, List.append_nil, List.take_zero, u32z, List.cons_append, List.nil_append])
      all_goals first | refine ⟨_, St.le_refl _, ?_⟩ | refine ⟨_, St.le_refl _⟩ | skip
      all_goals rw [← e ()]
      all_goals (first | (simp [*]; done) | (simp; omega) | skip)
  · by_cases k2 : m.kd = 2
    · rw [msgOk_2 k2] at hres
      have hc := rtcheck_call m.tok
      have hq := rxsame_call ({ ms0 with kd := m.kd, tok := m.tok, size := m.size }) m ⟨by first | exact hs.f | simp [ms0, cm0], by first | exact hs.g | simp [ms0, re0], by first | exact hs.i | simp [ms0, pg0]⟩
      obtain ⟨b, hb⟩ : ∃ b, decide (({ ms0 with kd := m.kd, tok := m.tok, size := m.size } : MS) = m) = b := ⟨_, rfl⟩
      rw [hb] at hres hq
      have hv := fun (σ : St) (f g i : MV) => vms (σ := σ) (m := { ms0 with kd := m.kd, tok := m.tok, size := m.size }) (f := f) (g := g) (i := i)
      simp only [MS.c, MS.k, ms0, cm0, ed0, pa0, tk0, re0, pg0, u32z] at hv hq
      have e := fun (_ : Unit) => hres
      clear hres hb
      cases b <;> cases hk : tokOk m.tok <;> rw [hk] at hc e
      all_goals
        repeat' (first | (with_reducible refine use_lend _ hq (.bool _) rfl (views_two (hv _ _ _ _ (.nil _ _) (.nil _ _) (.nil _ _)) (.same _)) ?_) | (with_reducible first | refine up hc ?_) | (with_reducible first | (refine wT ?_; refine wN fun _ hnl => ?_; revert hnl; (repeat refine wS fun _ _ => ?_); intro hnl) | refine wD (by decide +kernel) ?_ | refine wI (fun h => ?_) fun h => ?_ | refine wF (fun h => ?_) fun h => ?_ | refine wG (fun h => ?_) fun h => ?_ | refine wH (fun h => ?_) fun h => ?_ | ((first | refine mfork_bool (fun h => ?_) fun h => ?_ | refine mgfork_bool (fun h => ?_) fun h => ?_) <;> simp only [h])) | simp (maxSteps := 4000000) (disch := first | decide | assumption | omega | (simp only [wL]; omega)) only [go_sem, simprocAttr, Tryz.f12, fc_zero, fc_len, fc_cell, fc_take, fc_take', fc_drop, fc_drop', fc_getD, drop_two, drop_three, take_two, take_three, getD_two, getD_three, fc_at, fc_at_app, fc_get0, fc_get1, fc_get2, fc_fold, F8.get_hit, fc_all, fc_assoc, List.append_nil, List.take_zero, u32z, List.cons_append, List.nil_append])
        all_goals first | refine ⟨_, St.le_refl _, ?_⟩ | refine ⟨_, St.le_refl _⟩ | skip
        all_goals rw [← e ()]
        all_goals (first | (simp [*]; done) | (simp; omega) | skip)
    · by_cases k3 : m.kd = 3
      · rw [msgOk_3 k3] at hres
        have hc := rrcheck_call m.rep
        have hq := rxsame_call ({ ms0 with kd := m.kd, rep := m.rep }) m ⟨by first | exact hs.f | simp [ms0, cm0], by first | exact hs.g | simp [ms0, re0], by first | exact hs.i | simp [ms0, pg0]⟩
        obtain ⟨b, hb⟩ : ∃ b, decide (({ ms0 with kd := m.kd, rep := m.rep } : MS) = m) = b := ⟨_, rfl⟩
        rw [hb] at hres hq
        have hv := fun (σ : St) (f g i : MV) => vms (σ := σ) (m := { ms0 with kd := m.kd, rep := m.rep }) (f := f) (g := g) (i := i)
        simp only [MS.c, MS.k, ms0, cm0, ed0, pa0, tk0, re0, pg0, u32z] at hv hq
        have e := fun (_ : Unit) => hres
        clear hres hb
        cases b <;> cases hk : repOk m.rep <;> rw [hk] at hc e
        all_goals
          repeat' (first | (with_reducible refine use_lend _ hq (.bool _) rfl (views_two (hv _ _ _ _ (.nil _ _) (.same _) (.nil _ _)) (.same _)) ?_) | (with_reducible first | refine up hc ?_) | (with_reducible first | (refine wT ?_; refine wN fun _ hnl => ?_; revert hnl; (repeat refine wS fun _ _ => ?_); intro hnl) | refine wD (by decide +kernel) ?_ | refine wI (fun h => ?_) fun h => ?_ | refine wF (fun h => ?_) fun h => ?_ | refine wG (fun h => ?_) fun h => ?_ | refine wH (fun h => ?_) fun h => ?_ | ((first | refine mfork_bool (fun h => ?_) fun h => ?_ | refine mgfork_bool (fun h => ?_) fun h => ?_) <;> simp only [h])) | simp (maxSteps := 4000000) (disch := first | decide | assumption | omega | (simp only [wL]; omega)) only [go_sem, simprocAttr, Tryz.f12, fc_zero, fc_len, fc_cell, fc_take, fc_take', fc_drop, fc_drop', fc_getD, drop_two, drop_three, take_two, take_three, getD_two, getD_three, fc_at, fc_at_app, fc_get0, fc_get1, fc_get2, fc_fold, F8.get_hit, fc_all, fc_assoc, List.append_nil, List.take_zero, u32z, List.cons_append, List.nil_append])
          all_goals first | refine ⟨_, St.le_refl _, ?_⟩ | refine ⟨_, St.le_refl _⟩ | skip
          all_goals rw [← e ()]
          all_goals (first | (simp [*]; done) | (simp; omega) | skip)
      · by_cases k4 : m.kd = 4
        · rw [msgOk_4 k4] at hres
          have hc := rpgcheck_call m.page hs.i
          have hq := rxsame_call ({ ms0 with kd := m.kd, page := m.page }) m ⟨by first | exact hs.f | simp [ms0, cm0], by first | exact hs.g | simp [ms0, re0], by first | exact hs.i | simp [ms0, pg0]⟩
          obtain ⟨b, hb⟩ : ∃ b, decide (({ ms0 with kd := m.kd, page := m.page } : MS) = m) = b := ⟨_, rfl⟩
          rw [hb] at hres hq
          have hv := fun (σ : St) (f g i : MV) => vms (σ := σ) (m := { ms0 with kd := m.kd, page := m.page }) (f := f) (g := g) (i := i)
          simp only [MS.c, MS.k, ms0, cm0, ed0, pa0, tk0, re0, pg0, u32z] at hv hq
          have e := fun (_ : Unit) => hres
          clear hres hb
          cases b <;> cases hk : pageOk m.page <;> rw [hk] at hc e
          all_goals
            repeat' (first | (with_reducible refine use_lend _ hq (.bool _) rfl (views_two (hv _ _ _ _ (.nil _ _) (.nil _ _) (.same _)) (.same _)) ?_) | (with_reducible first | refine up hc ?_) | (with_reducible first | (refine wT ?_; refine wN fun _ hnl => ?_; revert hnl; (repeat refine wS fun _ _ => ?_); intro hnl) | refine wD (by decide +kernel) ?_ | refine wI (fun h => ?_) fun h => ?_ | refine wF (fun h => ?_) fun h => ?_ | refine wG (fun h => ?_) fun h => ?_ | refine wH (fun h => ?_) fun h => ?_ | ((first | refine mfork_bool (fun h => ?_) fun h => ?_ | refine mgfork_bool (fun h => ?_) fun h => ?_) <;> simp only [h])) | simp (maxSteps := 4000000) (disch := first | decide | assumption | omega | (simp only [wL]; omega)) only [go_sem, simprocAttr, Tryz.f12, fc_zero, fc_len, fc_cell, fc_take, fc_take', fc_drop, fc_drop', fc_getD, drop_two, drop_three, take_two, take_three, getD_two, getD_three, fc_at, fc_at_app, fc_get0, fc_get1, fc_get2, fc_fold, F8.get_hit, fc_all, fc_assoc, List.append_nil, List.take_zero, u32z, List.cons_append, List.nil_append])
            all_goals first | refine ⟨_, St.le_refl _, ?_⟩ | refine ⟨_, St.le_refl _⟩ | skip
            all_goals rw [← e ()]
            all_goals (first | (simp [*]; done) | (simp; omega) | skip)
        · by_cases k5 : m.kd = 5
          · rw [msgOk_5 k5] at hres
            have hq := rxsame_call ({ ms0 with kd := m.kd, code := m.code }) m ⟨by first | exact hs.f | simp [ms0, cm0], by first | exact hs.g | simp [ms0, re0], by first | exact hs.i | simp [ms0, pg0]⟩
            obtain ⟨b, hb⟩ : ∃ b, decide (({ ms0 with kd := m.kd, code := m.code } : MS) = m) = b := ⟨_, rfl⟩
            rw [hb] at hres hq
            have hv := fun (σ : St) (f g i : MV) => vms (σ := σ) (m := { ms0 with kd := m.kd, code := m.code }) (f := f) (g := g) (i := i)
            simp only [MS.c, MS.k, ms0, cm0, ed0, pa0, tk0, re0, pg0, u32z] at hv hq
            have e := fun (_ : Unit) => hres
            clear hres hb
            cases b
            all_goals
              repeat' (first | (with_reducible refine use_lend _ hq (.bool _) rfl (views_two (hv _ _ _ _ (.nil _ _) (.nil _ _) (.nil _ _)) (.same _)) ?_) | (with_reducible first | (refine wT ?_; refine wN fun _ hnl => ?_; revert hnl; (repeat refine wS fun _ _ => ?_); intro hnl) | refine wD (by decide +kernel) ?_ | refine wI (fun h => ?_) fun h => ?_ | refine wF (fun h => ?_) fun h => ?_ | refine wG (fun h => ?_) fun h => ?_ | refine wH (fun h => ?_) fun h => ?_ | ((first | refine mfork_bool (fun h => ?_) fun h => ?_ | refine mgfork_bool (fun h => ?_) fun h => ?_) <;> simp only [h])) | simp (maxSteps := 4000000) (disch := first | decide | assumption | omega | (simp only [wL]; omega)) only [go_sem, simprocAttr, Tryz.f12, fc_zero, fc_len, fc_cell, fc_take, fc_take', fc_drop, fc_drop', fc_getD, drop_two, drop_three, take_two, take_three, getD_two, getD_three, fc_at, fc_at_app, fc_get0, fc_get1, fc_get2, fc_fold, F8.get_hit, fc_all, fc_assoc, List.append_nil, List.take_zero, u32z, List.cons_append, List.nil_append])
              all_goals first | refine ⟨_, St.le_refl _, ?_⟩ | refine ⟨_, St.le_refl _⟩ | skip
              all_goals rw [← e ()]
              all_goals (first | (simp [*]; done) | (simp; omega) | skip)
          · rw [msgOk_o k1 k2 k3 k4 k5] at hres
            subst hres
            repeat' (first | (with_reducible first | (refine wT ?_; refine wN fun _ hnl => ?_; revert hnl; (repeat refine wS fun _ _ => ?_); intro hnl) | refine wD (by decide +kernel) ?_ | refine wI (fun h => ?_) fun h => ?_ | refine wF (fun h => ?_) fun h => ?_ | refine wG (fun h => ?_) fun h => ?_ | refine wH (fun h => ?_) fun h => ?_ | ((first | refine mfork_bool (fun h => ?_) fun h => ?_ | refine mgfork_bool (fun h => ?_) fun h => ?_) <;> simp only [h])) | simp (maxSteps := 4000000) (disch := first | decide | assumption | omega | (simp only [wL]; omega)) only [go_sem, simprocAttr, Tryz.f12, fc_zero, fc_len, fc_cell, fc_take, fc_take', fc_drop, fc_drop', fc_getD, drop_two, drop_three, take_two, take_three, getD_two, getD_three, fc_at, fc_at_app, fc_get0, fc_get1, fc_get2, fc_fold, F8.get_hit, fc_all, fc_assoc, List.append_nil, List.take_zero, u32z, List.cons_append, List.nil_append])
            all_goals first | exact ⟨_, St.le_refl _, rfl⟩ | exact ⟨_, St.le_refl _⟩ | (exfalso; omega)
end Go.Proofs.YtfbodefnblpflaaGreatDoor
end

section
/- Contracts of the document's messages: bytes, and the message of bytes: the conditions that the theorems name. -/
set_option linter.unusedVariables false
set_option linter.unusedSimpArgs false
namespace Go.Proofs.YtfbodefnblpflaaGreatDoor
set_option maxRecDepth 100000
set_option maxHeartbeats 4000000
theorem rxenc_call (m : MS) (hs : Sm m) : MCalls Tryz.prog 10 [.agg m.c] St.none (fun r _ => r = .tup [.str (bsS (msgE m).1), .int .i64 (msgE m).2]) := by
  refine MCalls.drops (MCalls.body 54 [.tmp 2, .tmp 3] Tryz.func10 rfl rfl rfl rfl ?_)
  have hc := rxcheck_call m hs
  cases hok : msgOk m <;> rw [hok] at hc
  · have e : msgE m = ([], 1) := by unfold msgE; rw [hok]; rfl
    rw [e]
    repeat' (first | (with_reducible first | refine up hc ?_) | (with_reducible first | (refine wT ?_; refine wN fun _ hnl => ?_; revert hnl; (repeat refine wS fun _ _ => ?_); intro hnl) | refine wD (by decide +kernel) ?_ | refine wI (fun h => ?_) fun h => ?_ | refine wF (fun h => ?_) fun h => ?_ | refine wG (fun h => ?_) fun h => ?_ | refine wH (fun h => ?_) fun h => ?_ | ((first | refine mfork_bool (fun h => ?_) fun h => ?_ | refine mgfork_bool (fun h => ?_) fun h => ?_) <;> simp only [h])) | simp (maxSteps := 4000000) (disch := first | decide | assumption | omega | (simp only [wL]; omega)) only [go_sem, simprocAttr, Tryz.f10, fc_zero, fc_len, fc_cell, fc_take, fc_take', fc_drop, fc_drop', fc_getD, drop_two, drop_three, take_two, take_three, getD_two, getD_three, fc_at, fc_at_app, fc_get0, fc_get1, fc_get2, fc_fold, F8.get_hit, fc_all, fc_assoc, List.append_nil, List.take_zero, u32z, List.cons_append, List.nil_append])
    all_goals first | refine ⟨_, St.le_refl _, ?_⟩ | refine ⟨_, St.le_refl _⟩ | skip
    all_goals rfl
  · have e : msgE m = if 4096 < (msgB m).length then ([], 4) else (msgB m, 0) := by unfold msgE; rw [hok, if_pos rfl]
    rw [e]
    have n1 := rnum_call m.kd
    have l1 := numB_len m.kd
    have l2 := numB_len m.size
    have l3 := numB_len m.code
    have n3 := rnum_call m.code
    by_cases k1 : m.kd = 1
    · have hk : cmdOk m.cmd = true := by rw [msgOk_1 k1] at hok; simp only [Bool.and_eq_true] at hok; exact hok.1.1
      have hp := rcmput_call m.cmd hk
      have lp := (inferInstance : LB (cmdB m.cmd) 3000).h
      have hb : msgB m = numB m.kd ++ cmdB m.cmd := by unfold msgB; simp [*]
      rw [hb]
      clear hb
      repeat' (first | (with_reducible first | refine up hc ?_ | refine up n1 ?_ | refine up hp ?_) | (with_reducible first | (refine wT ?_; refine wN fun _ hnl => ?_; revert hnl; (repeat refine wS fun _ _ => ?_); intro hnl) | refine wD (by decide +kernel) ?_ | refine wI (fun h => ?_) fun h => ?_ | refine wF (fun h => ?_) fun h => ?_ | refine wG (fun h => ?_) fun h => ?_ | refine wH (fun h => ?_) fun h => ?_ | ((first | refine mfork_bool (fun h => ?_) fun h => ?_ | refine mgfork_bool (fun h => ?_) fun h => ?_) <;> simp only [h])) | simp (maxSteps := 4000000) (disch := first | decide | assumption | omega | (simp only [wL]; omega)) only [go_sem, simprocAttr, Tryz.f10, fc_zero, fc_len, fc_cell, fc_take, fc_take', fc_drop, fc_drop', fc_getD, drop_two, drop_three, take_two, take_three, getD_two, getD_three, fc_at, fc_at_app, fc_get0, fc_get1, fc_get2, fc_fold, F8.get_hit, fc_all, fc_assoc, List.append_nil, List.take_zero, u32z, List.cons_append, List.nil_append, bsS_append, bsS_size])
      all_goals first | refine ⟨_, St.le_refl _, ?_⟩ | refine ⟨_, St.le_refl _⟩ | skip
      all_goals first | rfl | (rw [if_pos (by simp only [List.length_append]; omega)]; rfl) | (rw [if_neg (by simp only [List.length_append]; omega)])
    · by_cases k2 : m.kd = 2
      · have hk : tokOk m.tok = true := by rw [msgOk_2 k2] at hok; simp only [Bool.and_eq_true] at hok; exact hok.1.1
        have hp := rtput_call m.tok hk
        have lp := (inferInstance : LB (tokB m.tok) 24).h
        have n2 := rnum_call m.size
        have hb : msgB m = numB m.kd ++ tokB m.tok ++ numB m.size := by unfold msgB; simp [*]
        rw [hb]
        clear hb
        repeat' (first | ((with_reducible refine mdraw_know mixed ?chk (numK (kn [(28, [.agg m.tok.c], ⟨[], fun w => w = .str (bsS (tokB m.tok)), none⟩)])) ?_); (case chk => decide +kernel)) | (with_reducible refine know_pure numK_hit (rnum_call _) ?_) | (with_reducible refine know_pure (numK_skip kn_hit rfl) hp ?_) | (with_reducible first | refine up hc ?_ | refine up n1 ?_ | refine up hp ?_ | refine up n2 ?_) | (with_reducible first | (refine wT ?_; refine wN fun _ hnl => ?_; revert hnl; (repeat refine wS fun _ _ => ?_); intro hnl) | refine wD (by decide +kernel) ?_ | refine wI (fun h => ?_) fun h => ?_ | refine wF (fun h => ?_) fun h => ?_ | refine wG (fun h => ?_) fun h => ?_ | refine wH (fun h => ?_) fun h => ?_ | ((first | refine mfork_bool (fun h => ?_) fun h => ?_ | refine mgfork_bool (fun h => ?_) fun h => ?_) <;> simp only [h])) | simp (maxSteps := 4000000) (disch := first | decide | assumption | omega | (simp only [wL]; omega)) only [go_sem, simprocAttr, Tryz.f10, fc_zero, fc_len, fc_cell, fc_take, fc_take', fc_drop, fc_drop', fc_getD, drop_two, drop_three, take_two, take_three, getD_two, getD_three, fc_at, fc_at_app, fc_get0, fc_get1, fc_get2, fc_fold, F8.get_hit, fc_all, fc_assoc, List.append_nil, List.take_zero, u32z, List.cons_append, List.nil_append, bsS_append, bsS_size])
        all_goals first | refine ⟨_, St.le_refl _, ?_⟩ | refine ⟨_, St.le_refl _⟩ | skip
        all_goals first | rfl | (rw [if_pos (by simp only [List.length_append]; omega)]; rfl) | (rw [if_neg (by simp only [List.length_append]; omega)])
      · by_cases k3 : m.kd = 3
        · have hk : repOk m.rep = true := by rw [msgOk_3 k3] at hok; simp only [Bool.and_eq_true] at hok; exact hok.1
          have hp := rrput_call m.rep hk
          have lp := (inferInstance : LB (repB m.rep) 1700).h
          have hb : msgB m = numB m.kd ++ repB m.rep := by unfold msgB; simp [*]
          rw [hb]
          clear hb
          repeat' (first | (with_reducible first | refine up hc ?_ | refine up n1 ?_ | refine up hp ?_) | (with_reducible first | (refine wT ?_; refine wN fun _ hnl => ?_; revert hnl; (repeat refine wS fun _ _ => ?_); intro hnl) | refine wD (by decide +kernel) ?_ | refine wI (fun h => ?_) fun h => ?_ | refine wF (fun h => ?_) fun h => ?_ | refine wG (fun h => ?_) fun h => ?_ | refine wH (fun h => ?_) fun h => ?_ | ((first | refine mfork_bool (fun h => ?_) fun h => ?_ | refine mgfork_bool (fun h => ?_) fun h => ?_) <;> simp only [h])) | simp (maxSteps := 4000000) (disch := first | decide | assumption | omega | (simp only [wL]; omega)) only [go_sem, simprocAttr, Tryz.f10, fc_zero, fc_len, fc_cell, fc_take, fc_take', fc_drop, fc_drop', fc_getD, drop_two, drop_three, take_two, take_three, getD_two, getD_three, fc_at, fc_at_app, fc_get0, fc_get1, fc_get2, fc_fold, F8.get_hit, fc_all, fc_assoc, List.append_nil, List.take_zero, u32z, List.cons_append, List.nil_append, bsS_append, bsS_size])
          all_goals first | refine ⟨_, St.le_refl _, ?_⟩ | refine ⟨_, St.le_refl _⟩ | skip
          all_goals first | rfl | (rw [if_pos (by simp only [List.length_append]; omega)]; rfl) | (rw [if_neg (by simp only [List.length_append]; omega)])
        · by_cases k4 : m.kd = 4
          · have hk : pageOk m.page = true := by rw [msgOk_4 k4] at hok; simp only [Bool.and_eq_true] at hok; exact hok.1
            have hp := rpgput_call m.page hk hs.i
            have lp := (inferInstance : LB (pageB m.page) 7000).h
            have hb : msgB m = numB m.kd ++ pageB m.page := by unfold msgB; simp [*]
            rw [hb]
            clear hb
            repeat' (first | (with_reducible first | refine up hc ?_ | refine up n1 ?_ | refine up hp ?_) | (with_reducible first | (refine wT ?_; refine wN fun _ hnl => ?_; revert hnl; (repeat refine wS fun _ _ => ?_); intro hnl) | refine wD (by decide +kernel) ?_ | refine wI (fun h => ?_) fun h => ?_ | refine wF (fun h => ?_) fun h => ?_ | refine wG (fun h => ?_) fun h => ?_ | refine wH (fun h => ?_) fun h => ?_ | ((first | refine mfork_bool (fun h => ?_) fun h => ?_ | refine mgfork_bool (fun h => ?_) fun h => ?_) <;> simp only [h])) | simp (maxSteps := 4000000) (disch := first | decide | assumption | omega | (simp only [wL]; omega)) only [go_sem, simprocAttr, Tryz.f10, fc_zero, fc_len, fc_cell, fc_take, fc_take', fc_drop, fc_drop', fc_getD, drop_two, drop_three, take_two, take_three, getD_two, getD_three, fc_at, fc_at_app, fc_get0, fc_get1, fc_get2, fc_fold, F8.get_hit, fc_all, fc_assoc, List.append_nil, List.take_zero, u32z, List.cons_append, List.nil_append, bsS_append, bsS_size])
            all_goals first | refine ⟨_, St.le_refl _, ?_⟩ | refine ⟨_, St.le_refl _⟩ | skip
            all_goals first | rfl | (rw [if_pos (by simp only [List.length_append]; omega)]; rfl) | (rw [if_neg (by simp only [List.length_append]; omega)])
          · have hb : msgB m = numB m.kd ++ numB m.code := by unfold msgB; simp [*]
            rw [hb]
            clear hb
            repeat' (first | (with_reducible first | refine up hc ?_ | refine up n1 ?_ | refine up n3 ?_) | (with_reducible first | (refine wT ?_; refine wN fun _ hnl => ?_; revert hnl; (repeat refine wS fun _ _ => ?_); intro hnl) | refine wD (by decide +kernel) ?_ | refine wI (fun h => ?_) fun h => ?_ | refine wF (fun h => ?_) fun h => ?_ | refine wG (fun h => ?_) fun h => ?_ | refine wH (fun h => ?_) fun h => ?_ | ((first | refine mfork_bool (fun h => ?_) fun h => ?_ | refine mgfork_bool (fun h => ?_) fun h => ?_) <;> simp only [h])) | simp (maxSteps := 4000000) (disch := first | decide | assumption | omega | (simp only [wL]; omega)) only [go_sem, simprocAttr, Tryz.f10, fc_zero, fc_len, fc_cell, fc_take, fc_take', fc_drop, fc_drop', fc_getD, drop_two, drop_three, take_two, take_three, getD_two, getD_three, fc_at, fc_at_app, fc_get0, fc_get1, fc_get2, fc_fold, F8.get_hit, fc_all, fc_assoc, List.append_nil, List.take_zero, u32z, List.cons_append, List.nil_append, bsS_append, bsS_size])
            all_goals first | refine ⟨_, St.le_refl _, ?_⟩ | refine ⟨_, St.le_refl _⟩ | skip
            all_goals first | rfl | (rw [if_pos (by simp only [List.length_append]; omega)]; rfl) | (rw [if_neg (by simp only [List.length_append]; omega)])
end Go.Proofs.YtfbodefnblpflaaGreatDoor
end

section
/- Contracts of what the laws of messages ask first: the conditions that the theorems name. -/
set_option linter.unusedVariables false
set_option linter.unusedSimpArgs false
namespace Go.Proofs.YtfbodefnblpflaaGreatDoor
set_option maxRecDepth 100000
set_option maxHeartbeats 4000000
def largeS (l : List ND) : Bool := decide (100 < l.length) || l.any fun x => decide (200 < x.v.s.size)
theorem rlarge_call (l : List ND) (tt : Bool) : MCalls Tryz.prog 19 [.lst 5 (l.map ND.c) tt] St.none (fun r _ => r = .bool (largeS l)) := by
  refine (MCalls.body 21 [.tmp 2] Tryz.func19 rfl rfl rfl rfl ?_)
  by_cases h100 : 100 < l.length
  · have e : largeS l = true := by simp [largeS, h100]
    rw [e]
    repeat' (first | (with_reducible first | (refine wT ?_; refine wN fun _ hnl => ?_; revert hnl; (repeat refine wS fun _ _ => ?_); intro hnl) | refine wD (by decide +kernel) ?_ | refine wI (fun h => ?_) fun h => ?_ | refine wF (fun h => ?_) fun h => ?_ | refine wG (fun h => ?_) fun h => ?_ | refine wH (fun h => ?_) fun h => ?_ | ((first | refine mfork_bool (fun h => ?_) fun h => ?_ | refine mgfork_bool (fun h => ?_) fun h => ?_) <;> simp only [h])) | simp (maxSteps := 4000000) (disch := first | decide | assumption | omega | (simp only [wL]; omega)) only [go_sem, simprocAttr, Tryz.f19])
  · have e : largeS l = l.any fun x => decide (200 < x.v.s.size) := by simp [largeS, h100]
    rw [e]
    repeat' (first | (with_reducible first | (refine wT ?_; refine wN fun _ hnl => ?_; revert hnl; (repeat refine wS fun _ _ => ?_); intro hnl) | refine wD (by decide +kernel) ?_ | refine wI (fun h => ?_) fun h => ?_ | refine wF (fun h => ?_) fun h => ?_ | refine wG (fun h => ?_) fun h => ?_ | refine wH (fun h => ?_) fun h => ?_ | ((first | refine mfork_bool (fun h => ?_) fun h => ?_ | refine mgfork_bool (fun h => ?_) fun h => ?_) <;> simp only [h])) | simp (maxSteps := 4000000) (disch := first | decide | assumption | omega | (simp only [wL]; omega)) only [go_sem, simprocAttr, Tryz.f19])
    refine mloop_intro (α := Nat) (fun i => ⟨21, [(3, .int .i64 (i : Int)), (0, .lst 5 (l.map ND.c) tt)], []⟩)
      (fun _ => St.none) (fun i => i ≤ l.length ∧ (l.take i).any (fun x => decide (200 < x.v.s.size)) = false) (fun i => l.length - i) (.of (.less ?_ (St.le_refl _)) ⟨0, rfl, rfl, Nat.zero_le _, rfl⟩) ?_
    · simp (maxSteps := 4000000) (disch := first | decide | assumption | omega | (simp only [wL]; omega)) only [go_sem, simprocAttr, weak_int, weak_same]
      all_goals rfl
    · rintro i ⟨hi, hq⟩
      by_cases hlt : i < l.length
      · by_cases hb : 200 < (l.getD i nd0).v.s.size
        · have ea : (l.any fun x => decide (200 < x.v.s.size)) = true := List.any_eq_true.2 ⟨_, getD_mem nd0 hlt, by simpa using hb⟩
          rw [ea]
          repeat' (first | (with_reducible first | (refine wT ?_; refine wN fun _ hnl => ?_; revert hnl; (repeat refine wS fun _ _ => ?_); intro hnl) | refine wD (by decide +kernel) ?_ | refine wI (fun h => ?_) fun h => ?_ | refine wF (fun h => ?_) fun h => ?_ | refine wG (fun h => ?_) fun h => ?_ | refine wH (fun h => ?_) fun h => ?_ | ((first | refine mfork_bool (fun h => ?_) fun h => ?_ | refine mgfork_bool (fun h => ?_) fun h => ?_) <;> simp only [h])) | simp (maxSteps := 4000000) (disch := first | decide | assumption | omega | (simp only [wL]; omega)) only [go_sem, simprocAttr, getD_mapd nd0])
        · repeat' (first | (with_reducible first | (refine wT ?_; refine wN fun _ hnl => ?_; revert hnl; (repeat refine wS fun _ _ => ?_); intro hnl) | refine wD (by decide +kernel) ?_ | refine wI (fun h => ?_) fun h => ?_ | refine wF (fun h => ?_) fun h => ?_ | refine wG (fun h => ?_) fun h => ?_ | refine wH (fun h => ?_) fun h => ?_ | ((first | refine mfork_bool (fun h => ?_) fun h => ?_ | refine mgfork_bool (fun h => ?_) fun h => ?_) <;> simp only [h])) | simp (maxSteps := 4000000) (disch := first | decide | assumption | omega | (simp only [wL]; omega)) only [go_sem, simprocAttr, getD_mapd nd0])
          refine .of (.less ?_ (St.le_refl _)) ⟨i + 1, rfl, rfl, ⟨by omega, ?_⟩, by omega⟩
          · simp (maxSteps := 4000000) (disch := first | decide | assumption | omega | (simp only [wL]; omega)) only [go_sem, simprocAttr, weak_int, weak_same]
            all_goals rfl
          · rw [any_take_succ hlt, hq, ← getD_of_lt nd0 hlt]
            simpa using hb
      · have hie : i = l.length := by omega
        subst hie
        rw [List.take_length] at hq
        rw [hq]
        repeat' (first | (with_reducible first | (refine wT ?_; refine wN fun _ hnl => ?_; revert hnl; (repeat refine wS fun _ _ => ?_); intro hnl) | refine wD (by decide +kernel) ?_ | refine wI (fun h => ?_) fun h => ?_ | refine wF (fun h => ?_) fun h => ?_ | refine wG (fun h => ?_) fun h => ?_ | refine wH (fun h => ?_) fun h => ?_ | ((first | refine mfork_bool (fun h => ?_) fun h => ?_ | refine mgfork_bool (fun h => ?_) fun h => ?_) <;> simp only [h])) | simp (maxSteps := 4000000) (disch := first | decide | assumption | omega | (simp only [wL]; omega)) only [go_sem, simprocAttr])
def largeF (f : F8) : Bool := (List.range 8).any fun i => decide (200 < (f.get i).s.size)
theorem plargeF_call (f : F8) : MCalls Tryz.prog 56 [.agg (fc f)] St.none (fun r _ => r = .bool (largeF f)) := by
  refine MCalls.drops (MCalls.body 14 [.tmp 2] Tryz.func56 rfl rfl rfl rfl ?_)
  repeat' (first | (with_reducible first | (refine wT ?_; (first | ((fail_if_success (have := nl1)); refine wN fun nl1 hnl => ?_) | refine wN fun _ hnl => ?_); revert hnl; (repeat refine wS fun _ _ => ?_); intro hnl) | refine wD (by decide +kernel) ?_ | refine wI (fun h => ?_) fun h => ?_ | refine wF (fun h => ?_) fun h => ?_ | refine wG (fun h => ?_) fun h => ?_ | refine wH (fun h => ?_) fun h => ?_ | ((first | refine mfork_bool (fun h => ?_) fun h => ?_ | refine mgfork_bool (fun h => ?_) fun h => ?_) <;> simp only [h])) | simp (maxSteps := 4000000) (disch := first | decide | assumption | omega | (simp only [wL]; omega)) only [go_sem, simprocAttr, Tryz.f56, fc_zero, fc_len, fc_cell, fc_take, fc_take', fc_drop, fc_drop', fc_getD, drop_two, drop_three, take_two, take_three, getD_two, getD_three, fc_at, fc_at_app, fc_get0, fc_get1, fc_get2, fc_fold, F8.get_hit])
  refine mloop_intro (α := Nat) (fun i => ⟨14, [(3, .int .i64 (i : Int)), (1, .ptr nl1 0 0)], []⟩)
    (fun _ => St.none.set nl1 (.row 25 24 [fc f])) (fun i => i ≤ 8 ∧ (List.range i).any (fun i => decide (200 < (f.get i).s.size)) = false) (fun i => 8 - i) (.of (.less ?_ (St.le_refl _)) ⟨0, rfl, rfl, Nat.zero_le _, rfl⟩) ?_
  · simp (maxSteps := 4000000) (disch := first | decide | assumption | omega | (simp only [wL]; omega)) only [go_sem, simprocAttr, weak_int, weak_same]
    all_goals rfl
  · rintro i ⟨hi, hq⟩
    by_cases hlt : i < 8
    · have hg := fun d => fc_get2 (f := f) (d := d) hlt
      obtain ⟨v, hv⟩ : ∃ v, f.get i = v := ⟨_, rfl⟩
      rw [hv] at hg
      by_cases hb : 200 < v.s.size
      · have e : largeF f = true := List.any_eq_true.2 ⟨i, List.mem_range.2 hlt, by rw [hv]; exact decide_eq_true hb⟩
        rw [e]
        repeat' (first | (with_reducible first | (refine wT ?_; (first | ((fail_if_success (have := nl1)); refine wN fun nl1 hnl => ?_) | refine wN fun _ hnl => ?_); revert hnl; (repeat refine wS fun _ _ => ?_); intro hnl) | refine wD (by decide +kernel) ?_ | refine wI (fun h => ?_) fun h => ?_ | refine wF (fun h => ?_) fun h => ?_ | refine wG (fun h => ?_) fun h => ?_ | refine wH (fun h => ?_) fun h => ?_ | ((first | refine mfork_bool (fun h => ?_) fun h => ?_ | refine mgfork_bool (fun h => ?_) fun h => ?_) <;> simp only [h])) | simp (maxSteps := 4000000) (disch := first | decide | assumption | omega | (simp only [wL]; omega)) only [go_sem, simprocAttr, fc_zero, fc_len, fc_cell, fc_take, fc_take', fc_drop, fc_drop', fc_getD, drop_two, drop_three, take_two, take_three, getD_two, getD_three, fc_at, fc_at_app, fc_get0, fc_get1, fc_get2, fc_fold, F8.get_hit, hg])
        all_goals first | exact ⟨_, St.le_refl _, rfl⟩ | exact ⟨_, St.le_refl _⟩ | (exfalso; omega)
      · repeat' (first | (with_reducible first | (refine wT ?_; (first | ((fail_if_success (have := nl1)); refine wN fun nl1 hnl => ?_) | refine wN fun _ hnl => ?_); revert hnl; (repeat refine wS fun _ _ => ?_); intro hnl) | refine wD (by decide +kernel) ?_ | refine wI (fun h => ?_) fun h => ?_ | refine wF (fun h => ?_) fun h => ?_ | refine wG (fun h => ?_) fun h => ?_ | refine wH (fun h => ?_) fun h => ?_ | ((first | refine mfork_bool (fun h => ?_) fun h => ?_ | refine mgfork_bool (fun h => ?_) fun h => ?_) <;> simp only [h])) | simp (maxSteps := 4000000) (disch := first | decide | assumption | omega | (simp only [wL]; omega)) only [go_sem, simprocAttr, fc_zero, fc_len, fc_cell, fc_take, fc_take', fc_drop, fc_drop', fc_getD, drop_two, drop_three, take_two, take_three, getD_two, getD_three, fc_at, fc_at_app, fc_get0, fc_get1, fc_get2, fc_fold, F8.get_hit, hg])
        all_goals (try (exfalso; omega))
        refine .of (.less ?_ (St.le_refl _)) ⟨i + 1, rfl, rfl, ⟨by omega, ?_⟩, by omega⟩
        · simp (maxSteps := 4000000) (disch := first | decide | assumption | omega | (simp only [wL]; omega)) only [go_sem, simprocAttr, weak_int, weak_same]
          all_goals rfl
        · rw [List.range_succ, List.any_append, hq, List.any_cons, List.any_nil, hv, decide_eq_false hb]; rfl
    · have hie : i = 8 := by omega
      subst hie
      have e : largeF f = false := hq
      rw [e]
      repeat' (first | (with_reducible first | (refine wT ?_; (first | ((fail_if_success (have := nl1)); refine wN fun nl1 hnl => ?_) | refine wN fun _ hnl => ?_); revert hnl; (repeat refine wS fun _ _ => ?_); intro hnl) | refine wD (by decide +kernel) ?_ | refine wI (fun h => ?_) fun h => ?_ | refine wF (fun h => ?_) fun h => ?_ | refine wG (fun h => ?_) fun h => ?_ | refine wH (fun h => ?_) fun h => ?_ | ((first | refine mfork_bool (fun h => ?_) fun h => ?_ | refine mgfork_bool (fun h => ?_) fun h => ?_) <;> simp only [h])) | simp (maxSteps := 4000000) (disch := first | decide | assumption | omega | (simp only [wL]; omega)) only [go_sem, simprocAttr])
      all_goals first | exact ⟨_, St.le_refl _, rfl⟩ | exact ⟨_, St.le_refl _⟩
def wideI (l : List IT) : Bool := decide (100 < l.length) || l.any fun x => largeF x.c.f
theorem plwide_call (l : List IT) (tt : Bool) : MCalls Tryz.prog 20 [.lst 28 (IT.ks l) tt] St.none (fun r _ => r = .bool (wideI l)) := by
  refine (MCalls.body 20 [.tmp 2] Tryz.func20 rfl rfl rfl rfl ?_)
  by_cases h100 : 100 < l.length
  · have e : wideI l = true := by simp [wideI, h100]
    rw [e]
    repeat' (first | (with_reducible first | (refine wT ?_; refine wN fun _ hnl => ?_; revert hnl; (repeat refine wS fun _ _ => ?_); intro hnl) | refine wD (by decide +kernel) ?_ | refine wI (fun h => ?_) fun h => ?_ | refine wF (fun h => ?_) fun h => ?_ | refine wG (fun h => ?_) fun h => ?_ | refine wH (fun h => ?_) fun h => ?_ | ((first | refine mfork_bool (fun h => ?_) fun h => ?_ | refine mgfork_bool (fun h => ?_) fun h => ?_) <;> simp only [h])) | simp (maxSteps := 4000000) (disch := first | decide | assumption | omega | (simp only [wL]; omega)) only [go_sem, simprocAttr, Tryz.f20])
  · have e : wideI l = l.any fun x => largeF x.c.f := by simp [wideI, h100]
    rw [e]
    repeat' (first | (with_reducible first | (refine wT ?_; refine wN fun _ hnl => ?_; revert hnl; (repeat refine wS fun _ _ => ?_); intro hnl) | refine wD (by decide +kernel) ?_ | refine wI (fun h => ?_) fun h => ?_ | refine wF (fun h => ?_) fun h => ?_ | refine wG (fun h => ?_) fun h => ?_ | refine wH (fun h => ?_) fun h => ?_ | ((first | refine mfork_bool (fun h => ?_) fun h => ?_ | refine mgfork_bool (fun h => ?_) fun h => ?_) <;> simp only [h])) | simp (maxSteps := 4000000) (disch := first | decide | assumption | omega | (simp only [wL]; omega)) only [go_sem, simprocAttr, Tryz.f20])
    refine mloop_intro (α := Nat) (fun i => ⟨20, [(3, .int .i64 (i : Int)), (0, .lst 28 (IT.ks l) tt)], []⟩)
      (fun _ => St.none) (fun i => i ≤ l.length ∧ (l.take i).any (fun x => largeF x.c.f) = false) (fun i => l.length - i) (.of (.less ?_ (St.le_refl _)) ⟨0, rfl, rfl, Nat.zero_le _, rfl⟩) ?_
    · simp (maxSteps := 4000000) (disch := first | decide | assumption | omega | (simp only [wL]; omega)) only [go_sem, simprocAttr, weak_int, weak_same]
      all_goals rfl
    · rintro i ⟨hi, hq⟩
      by_cases hlt : i < l.length
      · have hc := plargeF_call (l.getD i it0).c.f
        have hm := getD_mem it0 hlt
        have ha : (l.take (i + 1)).any (fun x => largeF x.c.f) = largeF (l.getD i it0).c.f := by
          rw [any_take_succ hlt, hq, ← getD_of_lt it0 hlt]; rfl
        obtain ⟨x, hx⟩ : ∃ x, l.getD i it0 = x := ⟨_, rfl⟩
        rw [hx] at hc hm ha
        cases hb : largeF x.c.f <;> rw [hb] at hc ha
        · repeat' (first | (with_reducible first | refine up hc ?_) | (with_reducible first | (refine wT ?_; refine wN fun _ hnl => ?_; revert hnl; (repeat refine wS fun _ _ => ?_); intro hnl) | refine wD (by decide +kernel) ?_ | refine wI (fun h => ?_) fun h => ?_ | refine wF (fun h => ?_) fun h => ?_ | refine wG (fun h => ?_) fun h => ?_ | refine wH (fun h => ?_) fun h => ?_ | ((first | refine mfork_bool (fun h => ?_) fun h => ?_ | refine mgfork_bool (fun h => ?_) fun h => ?_) <;> simp only [h])) | simp (maxSteps := 4000000) (disch := first | decide | assumption | omega | (simp only [wL]; omega)) only [go_sem, simprocAttr, fc_zero, fc_len, fc_cell, fc_take, fc_take', fc_drop, fc_drop', fc_getD, drop_two, drop_three, take_two, take_three, getD_two, getD_three, fc_at, fc_at_app, fc_get0, fc_get1, fc_get2, fc_fold, F8.get_hit, getD_mapd it0, hx])
          refine .of (.less ?_ (St.le_refl _)) ⟨i + 1, rfl, rfl, ⟨by omega, ha⟩, by omega⟩
          simp (maxSteps := 4000000) (disch := first | decide | assumption | omega | (simp only [wL]; omega)) only [go_sem, simprocAttr, weak_int, weak_same]
          all_goals rfl
        · have ea : (l.any fun x => largeF x.c.f) = true := List.any_eq_true.2 ⟨x, hm, hb⟩
          rw [ea]
          repeat' (first | (with_reducible first | refine up hc ?_) | (with_reducible first | (refine wT ?_; refine wN fun _ hnl => ?_; revert hnl; (repeat refine wS fun _ _ => ?_); intro hnl) | refine wD (by decide +kernel) ?_ | refine wI (fun h => ?_) fun h => ?_ | refine wF (fun h => ?_) fun h => ?_ | refine wG (fun h => ?_) fun h => ?_ | refine wH (fun h => ?_) fun h => ?_ | ((first | refine mfork_bool (fun h => ?_) fun h => ?_ | refine mgfork_bool (fun h => ?_) fun h => ?_) <;> simp only [h])) | simp (maxSteps := 4000000) (disch := first | decide | assumption | omega | (simp only [wL]; omega)) only [go_sem, simprocAttr, fc_zero, fc_len, fc_cell, fc_take, fc_take', fc_drop, fc_drop', fc_getD, drop_two, drop_three, take_two, take_three, getD_two, getD_three, fc_at, fc_at_app, fc_get0, fc_get1, fc_get2, fc_fold, F8.get_hit, getD_mapd it0, hx])
      · have hie : i = l.length := by omega
        subst hie
        rw [List.take_length] at hq
        rw [hq]
        repeat' (first | (with_reducible first | (refine wT ?_; refine wN fun _ hnl => ?_; revert hnl; (repeat refine wS fun _ _ => ?_); intro hnl) | refine wD (by decide +kernel) ?_ | refine wI (fun h => ?_) fun h => ?_ | refine wF (fun h => ?_) fun h => ?_ | refine wG (fun h => ?_) fun h => ?_ | refine wH (fun h => ?_) fun h => ?_ | ((first | refine mfork_bool (fun h => ?_) fun h => ?_ | refine mgfork_bool (fun h => ?_) fun h => ?_) <;> simp only [h])) | simp (maxSteps := 4000000) (disch := first | decide | assumption | omega | (simp only [wL]; omega)) only [go_sem, simprocAttr])
def largeM (c : CM) : Bool := largeF c.e.p.f || (largeF c.p.f || largeS c.fl)
theorem plcmd_call (c : CM) : MCalls Tryz.prog 18 [.agg c.c] St.none (fun r _ => r = .bool (largeM c)) := by
  refine MCalls.drops (MCalls.body 19 [.tmp 2] Tryz.func18 rfl rfl rfl rfl ?_)
  have h1 := plargeF_call c.e.p.f
  have h2 := plargeF_call c.p.f
  have h3 := rlarge_call c.fl false
  unfold largeM
  cases b1 : largeF c.e.p.f <;> cases b2 : largeF c.p.f <;> rw [b1] at h1 <;> rw [b2] at h2
  all_goals
    repeat' (first | (with_reducible first | refine up h1 ?_ | refine up h2 ?_ | refine up h3 ?_) | (with_reducible first | (refine wT ?_; refine wN fun _ hnl => ?_; revert hnl; (repeat refine wS fun _ _ => ?_); intro hnl) | refine wD (by decide +kernel) ?_ | refine wI (fun h => ?_) fun h => ?_ | refine wF (fun h => ?_) fun h => ?_ | refine wG (fun h => ?_) fun h => ?_ | refine wH (fun h => ?_) fun h => ?_ | ((first | refine mfork_bool (fun h => ?_) fun h => ?_ | refine mgfork_bool (fun h => ?_) fun h => ?_) <;> simp only [h])) | simp (maxSteps := 4000000) (disch := first | decide | assumption | omega | (simp only [wL]; omega)) only [go_sem, simprocAttr, Tryz.f18, fc_zero, fc_len, fc_cell, fc_take, fc_take', fc_drop, fc_drop', fc_getD, drop_two, drop_three, take_two, take_three, getD_two, getD_three, fc_at, fc_at_app, fc_get0, fc_get1, fc_get2, fc_fold, F8.get_hit, fc_all, fc_assoc, List.append_nil, List.take_zero, u32z, List.cons_append, List.nil_append])
    all_goals first | exact ⟨_, St.le_refl _, rfl⟩ | exact ⟨_, St.le_refl _⟩ | (refine ⟨_, St.le_refl _, ?_⟩; simp)
def largeX (m : MS) : Bool := largeM m.cmd || (largeS m.rep.fl || wideI m.page.items)
theorem plmsg_call (m : MS) : MCalls Tryz.prog 6 [.agg m.c] St.none (fun r _ => r = .bool (largeX m)) := by
  refine MCalls.drops (MCalls.body 18 [.tmp 2] Tryz.func6 rfl rfl rfl rfl ?_)
  have h1 := plcmd_call m.cmd
  have h2 := rlarge_call m.rep.fl false
  have h3 := plwide_call m.page.items false
  unfold largeX
  cases b1 : largeM m.cmd <;> cases b2 : largeS m.rep.fl <;> rw [b1] at h1 <;> rw [b2] at h2
  all_goals
    repeat' (first | (with_reducible first | refine up h1 ?_ | refine up h2 ?_ | refine up h3 ?_) | (with_reducible first | (refine wT ?_; refine wN fun _ hnl => ?_; revert hnl; (repeat refine wS fun _ _ => ?_); intro hnl) | refine wD (by decide +kernel) ?_ | refine wI (fun h => ?_) fun h => ?_ | refine wF (fun h => ?_) fun h => ?_ | refine wG (fun h => ?_) fun h => ?_ | refine wH (fun h => ?_) fun h => ?_ | ((first | refine mfork_bool (fun h => ?_) fun h => ?_ | refine mgfork_bool (fun h => ?_) fun h => ?_) <;> simp only [h])) | simp (maxSteps := 4000000) (disch := first | decide | assumption | omega | (simp only [wL]; omega)) only [go_sem, simprocAttr, Tryz.f6, fc_zero, fc_len, fc_cell, fc_take, fc_take', fc_drop, fc_drop', fc_getD, drop_two, drop_three, take_two, take_three, getD_two, getD_three, fc_at, fc_at_app, fc_get0, fc_get1, fc_get2, fc_fold, F8.get_hit, fc_all, fc_assoc, List.append_nil, List.take_zero, u32z, List.cons_append, List.nil_append])
    all_goals first | exact ⟨_, St.le_refl _, rfl⟩ | exact ⟨_, St.le_refl _⟩ | (refine ⟨_, St.le_refl _, ?_⟩; simp)
theorem largeS_len {l : List ND} (h : largeS l = false) : l.length ≤ 1000000 := by
  simp only [largeS, Bool.or_eq_false_iff, decide_eq_false_iff_not] at h
  omega
theorem largeX_sm {m : MS} (h : largeX m = false) : Sm m := by
  simp only [largeX, largeM, Bool.or_eq_false_iff] at h
  refine ⟨largeS_len h.1.2.2, largeS_len h.2.1, ?_⟩
  have := h.2.2
  simp only [wideI, Bool.or_eq_false_iff, decide_eq_false_iff_not] at this
  omega
theorem pawake_call : MCalls Tryz.prog 7 [] St.none (fun r _ => r = .bool true) := by
  refine (MCalls.body 14 [.tmp 0] Tryz.func7 rfl rfl rfl rfl ?_)
  have h := pxenc_call { ms0 with kd := 5, code := 3 } ⟨by simp [ms0, cm0], by simp [ms0, re0], by simp [ms0, pg0]⟩ ⟨in0, in0, in0, in0, in0⟩
  have e : msgE { ms0 with kd := 5, code := 3 } = ([5, 3], 0) := by decide +kernel
  rw [e] at h
  simp only [MS.c, MS.k, ms0, cm0, ed0, pa0, tk0, re0, pg0, u32z] at h
  have hv := fun (σ : St) (f g i : MV) => vms (σ := σ) (m := { ms0 with kd := 5, code := 3 }) (f := f) (g := g) (i := i)
  simp only [MS.c, MS.k, ms0, cm0, ed0, pa0, tk0, re0, pg0, u32z] at hv
  repeat' (first | (with_reducible refine use_weak _ h rfl (views_one (hv _ _ _ _ (.nil _ _) (.nil _ _) (.nil _ _))) ?_) | (with_reducible first | (refine wT ?_; refine wN fun _ hnl => ?_; revert hnl; (repeat refine wS fun _ _ => ?_); intro hnl) | refine wD (by decide +kernel) ?_ | refine wI (fun h => ?_) fun h => ?_ | refine wF (fun h => ?_) fun h => ?_ | refine wG (fun h => ?_) fun h => ?_ | refine wH (fun h => ?_) fun h => ?_ | ((first | refine mfork_bool (fun h => ?_) fun h => ?_ | refine mgfork_bool (fun h => ?_) fun h => ?_) <;> simp only [h])) | simp (maxSteps := 4000000) (disch := first | decide | assumption | omega | (simp only [wL]; omega)) only [go_sem, simprocAttr, Tryz.f7, fc_zero, fc_len, fc_cell, fc_take, fc_take', fc_drop, fc_drop', fc_getD, drop_two, drop_three, take_two, take_three, getD_two, getD_three, fc_at, fc_at_app, fc_get0, fc_get1, fc_get2, fc_fold, F8.get_hit, fc_all, fc_assoc, List.append_nil, List.take_zero, u32z, List.cons_append, List.nil_append])
  all_goals first | rfl | exact decide_eq_true rfl | (congr 1; exact decide_eq_true rfl)
theorem pto_call (m : MS) : MCalls Tryz.prog 9 [.agg m.c] St.none (fun r _ => r = .agg m.c) := by
  refine MCalls.drops (MCalls.body 18 [.cell 2 47] Tryz.func9 rfl rfl rfl rfl ?_)
  repeat' (first | (with_reducible first | (refine wT ?_; refine wN fun _ hnl => ?_; revert hnl; (repeat refine wS fun _ _ => ?_); intro hnl) | refine wD (by decide +kernel) ?_ | refine wI (fun h => ?_) fun h => ?_ | refine wF (fun h => ?_) fun h => ?_ | refine wG (fun h => ?_) fun h => ?_ | refine wH (fun h => ?_) fun h => ?_ | ((first | refine mfork_bool (fun h => ?_) fun h => ?_ | refine mgfork_bool (fun h => ?_) fun h => ?_) <;> simp only [h])) | simp (maxSteps := 4000000) (disch := first | decide | assumption | omega | (simp only [wL]; omega)) only [go_sem, simprocAttr, Tryz.f9, fc_zero, fc_len, fc_cell, fc_take, fc_take', fc_drop, fc_drop', fc_getD, drop_two, drop_three, take_two, take_three, getD_two, getD_three, fc_at, fc_at_app, fc_get0, fc_get1, fc_get2, fc_fold, F8.get_hit, fc_all, fc_assoc, List.append_nil, List.take_zero, u32z, List.cons_append, List.nil_append])
  refine owes_intro (fun c hc => List.all_eq_true.1 (by simp only [List.all_append, List.all_cons, fc_cell]; rfl) c hc) ?_
  repeat' (first | (with_reducible first | (refine wT ?_; refine wN fun _ hnl => ?_; revert hnl; (repeat refine wS fun _ _ => ?_); intro hnl) | refine wD (by decide +kernel) ?_ | refine wI (fun h => ?_) fun h => ?_ | refine wF (fun h => ?_) fun h => ?_ | refine wG (fun h => ?_) fun h => ?_ | refine wH (fun h => ?_) fun h => ?_ | ((first | refine mfork_bool (fun h => ?_) fun h => ?_ | refine mgfork_bool (fun h => ?_) fun h => ?_) <;> simp only [h])) | simp (maxSteps := 4000000) (disch := first | decide | assumption | omega | (simp only [wL]; omega)) only [go_sem, simprocAttr, fc_zero, fc_len, fc_cell, fc_take, fc_take', fc_drop, fc_drop', fc_getD, drop_two, drop_three, take_two, take_three, getD_two, getD_three, fc_at, fc_at_app, fc_get0, fc_get1, fc_get2, fc_fold, F8.get_hit, fc_all, fc_assoc, List.append_nil, List.take_zero, u32z, List.cons_append, List.nil_append])
  all_goals first | exact ⟨_, St.le_refl _, rfl⟩ | exact ⟨_, St.le_refl _⟩
end Go.Proofs.YtfbodefnblpflaaGreatDoor
end

section
/- Contracts of the laws MsgTells and MsgReads: the conditions that the theorems name. -/
set_option linter.unusedVariables false
set_option linter.unusedSimpArgs false
namespace Go.Proofs.YtfbodefnblpflaaGreatDoor
set_option maxRecDepth 100000
set_option maxHeartbeats 8000000
/-- What is known of some functions. -/
def fnK : List (FuncId × (List MV → MV)) → Know
  | [] => fun _ _ => none
  | p :: r => fun g ms => if p.1 = g then some ⟨[], fun v => v = p.2 ms, none⟩ else fnK r g ms
theorem fnK_hit {g : FuncId} {u : List MV → MV} {r : List (FuncId × (List MV → MV))} {ms : List MV} {x : MV} (h : u ms = x) : fnK ((g, u) :: r) g ms = some ⟨[], fun v => v = x, none⟩ := by
  subst h
  exact if_pos rfl
theorem fnK_skip {g g' : FuncId} {u : List MV → MV} {r : List (FuncId × (List MV → MV))} {ms : List MV} {F : Fact} (h : (g' == g) = false) (k : fnK r g ms = some F) : fnK ((g', u) :: r) g ms = some F := by
  unfold fnK
  rw [if_neg (by simpa using h)]
  exact k
theorem tells_go (m o : MS) (hs : Sm m) (ht : Sm o) (hg : Rg m.cmd) (la : largeX m = false) (lb : largeX o = false) (sm : MCalls Tryz.prog 13 [.agg m.c, .agg o.c] St.none (fun r _ => r = .bool (decide (m = o))))
    (hc : o.c ≠ m.c) : MCalls Tryz.prog 3 [.agg m.c, .agg o.c] St.none (fun r _ => r = .bool true) := by
  refine MCalls.drops (MCalls.body 64 [.tmp 4] Tryz.func3 rfl rfl rfl rfl ?_)
  have a1 := plmsg_call m
  have a2 := plmsg_call o
  rw [la] at a1
  rw [lb] at a2
  have h1 := pto_call m
  have h2 := pto_call o
  have h3 := pxenc_call m hs hg
  have h4 := rxenc_call m hs
  have h5 := pxcheck_call m hs hg
  have h6 := rxcheck_call m hs
  have h7 := rxsame_call m o hs
  have h8 := pxsame_call m m hs hs
  rw [decide_eq_true rfl] at h8
  have h9 := pawake_call
  obtain ⟨b, hb⟩ : ∃ b, decide (m = o) = b := ⟨_, rfl⟩
  obtain ⟨ok, hok⟩ : ∃ b, msgOk m = b := ⟨_, rfl⟩
  obtain ⟨⟨e1, e2⟩, he⟩ : ∃ e, msgE m = e := ⟨_, rfl⟩
  rw [hb] at sm h7
  rw [hok] at h5 h6
  rw [he] at h3 h4
  simp only at h3 h4
  classical
  obtain ⟨C, c1, c5, c6, c7, c8, c0, c9⟩ : ∃ C : Know, (∀ x, C 9 [x] = some ⟨[], fun v => v = x, none⟩) ∧ (∀ ms, C 11 ms = some ⟨[], fun v => v = .bool ok, none⟩) ∧ (∀ ms, C 12 ms = some ⟨[], fun v => v = .bool ok, none⟩)
      ∧ (∀ ms, C 14 ms = some ⟨[], fun v => v = .bool b, none⟩) ∧ C 13 [.agg m.c, .agg m.c] = some ⟨[], fun v => v = .bool true, none⟩ ∧ C 13 [.agg m.c, .agg o.c] = some ⟨[], fun v => v = .bool b, none⟩ ∧ (∀ ms, C 7 ms = some ⟨[], fun v => v = .bool true, none⟩) :=
    ⟨fnK [(9, fun ms => ms.headD .junk), (11, fun _ => .bool ok), (12, fun _ => .bool ok), (14, fun _ => .bool b), (13, fun ms => if ms = [.agg m.c, .agg m.c] then .bool true else .bool b), (7, fun _ => .bool true)],
      fun _ => fnK_hit rfl, fun _ => fnK_skip rfl (fnK_hit rfl), fun _ => fnK_skip rfl (fnK_skip rfl (fnK_hit rfl)), fun _ => fnK_skip rfl (fnK_skip rfl (fnK_skip rfl (fnK_hit rfl))), fnK_skip rfl (fnK_skip rfl (fnK_skip rfl (fnK_skip rfl (fnK_hit (if_pos rfl))))),
      fnK_skip rfl (fnK_skip rfl (fnK_skip rfl (fnK_skip rfl (fnK_hit (if_neg fun h => hc (MV.agg.inj (List.cons.inj (List.cons.inj h).2).1)))))), fun _ => fnK_skip rfl (fnK_skip rfl (fnK_skip rfl (fnK_skip rfl (fnK_skip rfl (fnK_hit rfl)))))⟩
  clear hb hok he hs ht hg la lb hc
  cases b <;> cases ok
  all_goals
    repeat' (first | ((with_reducible refine mdraw_know mixed ?chk C ?_); (case chk => decide +kernel)) | (with_reducible refine know_pure (c1 _) h1 ?_) | (with_reducible refine know_pure (c1 _) h2 ?_) | (with_reducible refine know_pure (c5 _) h5 ?_) | (with_reducible refine know_pure (c6 _) h6 ?_) | (with_reducible refine know_pure (c7 _) h7 ?_) | (with_reducible refine know_pure c8 h8 ?_) | (with_reducible refine know_pure c0 sm ?_) | (with_reducible refine know_pure (c9 _) h9 ?_) | (with_reducible first | refine up a1 ?_ | refine up a2 ?_ | refine up h1 ?_ | refine up h3 ?_ | refine up h4 ?_ | refine up h9 ?_) | (with_reducible first | (refine wT ?_; refine wN fun _ hnl => ?_; revert hnl; (repeat refine wS fun _ _ => ?_); intro hnl) | refine wD (by decide +kernel) ?_ | refine wI (fun h => ?_) fun h => ?_ | refine wF (fun h => ?_) fun h => ?_ | refine wG (fun h => ?_) fun h => ?_ | refine wH (fun h => ?_) fun h => ?_ | ((first | refine mfork_bool (fun h => ?_) fun h => ?_ | refine mgfork_bool (fun h => ?_) fun h => ?_) <;> simp only [h])) | simp (maxSteps := 4000000) (disch := first | decide | assumption | omega | (simp only [wL]; omega)) only [go_sem, simprocAttr, Tryz.f3, fc_zero, fc_len, fc_cell, fc_take, fc_take', fc_drop, fc_drop', fc_getD, drop_two, drop_three, take_two, take_three, getD_two, getD_three, fc_at, fc_at_app, fc_get0, fc_get1, fc_get2, fc_fold, F8.get_hit, fc_all, fc_assoc, List.append_nil, List.take_zero, u32z, List.cons_append, List.nil_append])
    all_goals exact ⟨_, St.le_refl _⟩
theorem tells_same (m : MS) (hg : Rg m.cmd) : MCalls Tryz.prog 3 [.agg m.c, .agg m.c] St.none (fun r _ => r = .bool true) := by
  refine MCalls.drops (MCalls.body 64 [.tmp 4] Tryz.func3 rfl rfl rfl rfl ?_)
  have a1 := plmsg_call m
  have h9 := pawake_call
  cases la : largeX m <;> rw [la] at a1
  rotate_left
  · repeat' (first | (with_reducible first | refine up a1 ?_ | refine up h9 ?_) | (with_reducible first | (refine wT ?_; refine wN fun _ hnl => ?_; revert hnl; (repeat refine wS fun _ _ => ?_); intro hnl) | refine wD (by decide +kernel) ?_ | refine wI (fun h => ?_) fun h => ?_ | refine wF (fun h => ?_) fun h => ?_ | refine wG (fun h => ?_) fun h => ?_ | refine wH (fun h => ?_) fun h => ?_ | ((first | refine mfork_bool (fun h => ?_) fun h => ?_ | refine mgfork_bool (fun h => ?_) fun h => ?_) <;> simp only [h])) | simp (maxSteps := 4000000) (disch := first | decide | assumption | omega | (simp only [wL]; omega)) only [go_sem, simprocAttr, Tryz.f3, fc_zero, fc_len, fc_cell, fc_take, fc_take', fc_drop, fc_drop', fc_getD, drop_two, drop_three, take_two, take_three, getD_two, getD_three, fc_at, fc_at_app, fc_get0, fc_get1, fc_get2, fc_fold, F8.get_hit, fc_all, fc_assoc, List.append_nil, List.take_zero, u32z, List.cons_append, List.nil_append])
    all_goals exact ⟨_, St.le_refl _⟩
  have hs := largeX_sm la
  have h1 := pto_call m
  have h3 := pxenc_call m hs hg
  have h4 := rxenc_call m hs
  have h5 := pxcheck_call m hs hg
  have h6 := rxcheck_call m hs
  have h7 := rxsame_call m m hs
  have h8 := pxsame_call m m hs hs
  rw [decide_eq_true rfl] at h7 h8
  obtain ⟨ok, hok⟩ : ∃ b, msgOk m = b := ⟨_, rfl⟩
  obtain ⟨⟨e1, e2⟩, he⟩ : ∃ e, msgE m = e := ⟨_, rfl⟩
  rw [hok] at h5 h6
  rw [he] at h3 h4
  simp only at h3 h4
  obtain ⟨C, c1, c5, c6, c7, c8, c9⟩ : ∃ C : Know, (∀ x, C 9 [x] = some ⟨[], fun v => v = x, none⟩) ∧ (∀ ms, C 11 ms = some ⟨[], fun v => v = .bool ok, none⟩) ∧ (∀ ms, C 12 ms = some ⟨[], fun v => v = .bool ok, none⟩)
      ∧ (∀ ms, C 14 ms = some ⟨[], fun v => v = .bool true, none⟩) ∧ (∀ ms, C 13 ms = some ⟨[], fun v => v = .bool true, none⟩) ∧ (∀ ms, C 7 ms = some ⟨[], fun v => v = .bool true, none⟩) :=
    ⟨fnK [(9, fun ms => ms.headD .junk), (11, fun _ => .bool ok), (12, fun _ => .bool ok), (14, fun _ => .bool true), (13, fun _ => .bool true), (7, fun _ => .bool true)],
      fun _ => fnK_hit rfl, fun _ => fnK_skip rfl (fnK_hit rfl), fun _ => fnK_skip rfl (fnK_skip rfl (fnK_hit rfl)), fun _ => fnK_skip rfl (fnK_skip rfl (fnK_skip rfl (fnK_hit rfl))), fun _ => fnK_skip rfl (fnK_skip rfl (fnK_skip rfl (fnK_skip rfl (fnK_hit rfl)))),
      fun _ => fnK_skip rfl (fnK_skip rfl (fnK_skip rfl (fnK_skip rfl (fnK_skip rfl (fnK_hit rfl)))))⟩
  clear hok he hs hg la
  cases ok
  all_goals
    repeat' (first | ((with_reducible refine mdraw_know mixed ?chk C ?_); (case chk => decide +kernel)) | (with_reducible refine know_pure (c1 _) h1 ?_) | (with_reducible refine know_pure (c5 _) h5 ?_) | (with_reducible refine know_pure (c6 _) h6 ?_) | (with_reducible refine know_pure (c7 _) h7 ?_) | (with_reducible refine know_pure (c8 _) h8 ?_) | (with_reducible refine know_pure (c9 _) h9 ?_) | (with_reducible first | refine up a1 ?_ | refine up h1 ?_ | refine up h3 ?_ | refine up h4 ?_ | refine up h9 ?_) | (with_reducible first | (refine wT ?_; refine wN fun _ hnl => ?_; revert hnl; (repeat refine wS fun _ _ => ?_); intro hnl) | refine wD (by decide +kernel) ?_ | refine wI (fun h => ?_) fun h => ?_ | refine wF (fun h => ?_) fun h => ?_ | refine wG (fun h => ?_) fun h => ?_ | refine wH (fun h => ?_) fun h => ?_ | ((first | refine mfork_bool (fun h => ?_) fun h => ?_ | refine mgfork_bool (fun h => ?_) fun h => ?_) <;> simp only [h])) | simp (maxSteps := 4000000) (disch := first | decide | assumption | omega | (simp only [wL]; omega)) only [go_sem, simprocAttr, Tryz.f3, fc_zero, fc_len, fc_cell, fc_take, fc_take', fc_drop, fc_drop', fc_getD, drop_two, drop_three, take_two, take_three, getD_two, getD_three, fc_at, fc_at_app, fc_get0, fc_get1, fc_get2, fc_fold, F8.get_hit, fc_all, fc_assoc, List.append_nil, List.take_zero, u32z, List.cons_append, List.nil_append])
    all_goals exact ⟨_, St.le_refl _⟩
theorem msgTells_call (m o : MS) (hg : Rg m.cmd) : MCalls Tryz.prog 3 [.agg m.c, .agg o.c] St.none (fun r _ => r = .bool true) := by
  by_cases hc : o.c = m.c
  · rw [hc]
    exact tells_same m hg
  cases la : largeX m
  · cases lb : largeX o
    · have hs := largeX_sm la
      have ht := largeX_sm lb
      exact tells_go m o hs ht hg la lb (pxsame_call m o hs ht) hc
    · refine MCalls.drops (MCalls.body 64 [.tmp 4] Tryz.func3 rfl rfl rfl rfl ?_)
      have a1 := plmsg_call m
      have a2 := plmsg_call o
      rw [la] at a1
      rw [lb] at a2
      have h9 := pawake_call
      repeat' (first | (with_reducible first | refine up a1 ?_ | refine up a2 ?_ | refine up h9 ?_) | (with_reducible first | (refine wT ?_; refine wN fun _ hnl => ?_; revert hnl; (repeat refine wS fun _ _ => ?_); intro hnl) | refine wD (by decide +kernel) ?_ | refine wI (fun h => ?_) fun h => ?_ | refine wF (fun h => ?_) fun h => ?_ | refine wG (fun h => ?_) fun h => ?_ | refine wH (fun h => ?_) fun h => ?_ | ((first | refine mfork_bool (fun h => ?_) fun h => ?_ | refine mgfork_bool (fun h => ?_) fun h => ?_) <;> simp only [h])) | simp (maxSteps := 4000000) (disch := first | decide | assumption | omega | (simp only [wL]; omega)) only [go_sem, simprocAttr, Tryz.f3, fc_zero, fc_len, fc_cell, fc_take, fc_take', fc_drop, fc_drop', fc_getD, drop_two, drop_three, take_two, take_three, getD_two, getD_three, fc_at, fc_at_app, fc_get0, fc_get1, fc_get2, fc_fold, F8.get_hit, fc_all, fc_assoc, List.append_nil, List.take_zero, u32z, List.cons_append, List.nil_append])
      all_goals exact ⟨_, St.le_refl _⟩
  · refine MCalls.drops (MCalls.body 64 [.tmp 4] Tryz.func3 rfl rfl rfl rfl ?_)
    have a1 := plmsg_call m
    rw [la] at a1
    have h9 := pawake_call
    repeat' (first | (with_reducible first | refine up a1 ?_ | refine up h9 ?_) | (with_reducible first | (refine wT ?_; refine wN fun _ hnl => ?_; revert hnl; (repeat refine wS fun _ _ => ?_); intro hnl) | refine wD (by decide +kernel) ?_ | refine wI (fun h => ?_) fun h => ?_ | refine wF (fun h => ?_) fun h => ?_ | refine wG (fun h => ?_) fun h => ?_ | refine wH (fun h => ?_) fun h => ?_ | ((first | refine mfork_bool (fun h => ?_) fun h => ?_ | refine mgfork_bool (fun h => ?_) fun h => ?_) <;> simp only [h])) | simp (maxSteps := 4000000) (disch := first | decide | assumption | omega | (simp only [wL]; omega)) only [go_sem, simprocAttr, Tryz.f3, fc_zero, fc_len, fc_cell, fc_take, fc_take', fc_drop, fc_drop', fc_getD, drop_two, drop_three, take_two, take_three, getD_two, getD_three, fc_at, fc_at_app, fc_get0, fc_get1, fc_get2, fc_fold, F8.get_hit, fc_all, fc_assoc, List.append_nil, List.take_zero, u32z, List.cons_append, List.nil_append])
    all_goals exact ⟨_, St.le_refl _⟩
end Go.Proofs.YtfbodefnblpflaaGreatDoor
end

section
/- The bridge: what the arguments of a law hold, as the logic says it; a law out of its contract. -/
set_option linter.unusedVariables false
set_option linter.unusedSimpArgs false
namespace Go.Proofs.YtfbodefnblpflaaGreatDoor
open Go.ChangeShapes Go.WideShapes Go.RowKit
/-- Fields that lie one behind the other. -/
def tiles (P : Program) : List (Nat × TypeId) → Nat → Nat → Bool
  | [], o, n => o == n
  | (off, ft) :: r, o, n => off == o && tiles P r (o + (td P ft).size) n
/-- Types whose values are plain data. -/
def shp (P : Program) : Nat → TypeId → Bool
  | 0, _ => false
  | n + 1, t => (td P t).ok && match (td P t).k with
    | .bool | .int _ | .str => (td P t).size == 1
    | .slice e => (td P t).size == 1 && decide (0 < (td P e).size) && (td P e).ok && shp P n e
    | .struct fs => tiles P fs 0 (td P t).size && fs.all fun f => (td P f.2).ok && shp P n f.2
    | .array m e => (td P t).size == m * (td P e).size && (td P e).ok && shp P n e
    | _ => false
/-- Cells of a type. -/
def CT (P : Program) : Nat → TypeId → List MV → Prop
  | 0, _, _ => False
  | n + 1, t, cs => match (td P t).k with
    | .bool => ∃ b, cs = [.bool b]
    | .int k => ∃ v, cs = [.int k v] ∧ k.min ≤ v ∧ v ≤ k.max
    | .str => ∃ s : ByteArray, cs = [.str s] ∧ s.size ≤ maxLen
    | .slice e => ∃ xs, cs = [.lst (td P e).size xs false] ∧ xs.length ≤ maxLen ∧ ∀ x, x ∈ xs → CT P n e x
    | .struct fs => cs.length = (td P t).size ∧ ∀ f, f ∈ fs → CT P n f.2 ((cs.drop f.1).take (td P f.2).size)
    | .array m e => cs.length = (td P t).size ∧ ∀ i, i < m → CT P n e ((cs.drop (i * (td P e).size)).take (td P e).size)
    | _ => False
/-- An argument of a type. -/
def AT (P : Program) (n : Nat) (t : TypeId) (m : MV) : Prop := if (td P t).k.isAgg = true then ∃ cs, m = .agg cs ∧ CT P n t cs else CT P n t [m]
/-- The snapshots of all that is there. -/
def phi0 (w : World) : Phi := ⟨fun a => w.cell? a, fun _ => none, 0⟩
def GTok (w : World) : Prop := ∀ g i v, GT g i = some v → w.cell? ⟨g, i, none⟩ = some v
theorem inv0 (w : World) (hG : GTok w) : Inv (phi0 w) w St.none where
  own := fun l o h => by simp [St.none] at h
  inj := fun l l' o o' p p' R h => by simp [St.none] at h
  snap := fun a v h => h
  apart := fun l o p R a v h => by simp [St.none] at h
  fresh := ⟨⟨0, fun _ _ => rfl⟩, hG⟩
def RelL (Φ : Phi) (cs : List Value) (ms : List MV) : Prop := cs.length = ms.length ∧ ∀ (i : Nat) v m, cs[i]? = some v → ms[i]? = some m → m.isCell = true ∧ Rel Φ v m
theorem RelL.one {Φ : Phi} {v : Value} {m : MV} (hc : m.isCell = true) (h : Rel Φ v m) : RelL Φ [v] [m] :=
  ⟨rfl, fun i v' m' h1 h2 => by
    cases i with
    | zero => simp at h1 h2; subst h1 h2; exact ⟨hc, h⟩
    | succ i => simp at h1⟩
theorem RelL.app {Φ : Phi} {c1 c2 : List Value} {m1 m2 : List MV} (h1 : RelL Φ c1 m1) (h2 : RelL Φ c2 m2) : RelL Φ (c1 ++ c2) (m1 ++ m2) :=
  ⟨by simp [h1.1, h2.1], fun i v m hv hm => by
    rw [List.getElem?_append] at hv hm
    rw [h1.1] at hv
    split at hv <;> rename_i hi
    · rw [if_pos hi] at hm; exact h1.2 i v m hv hm
    · rw [if_neg hi] at hm; exact h2.2 _ v m hv hm⟩
section
variable {H : Type} {enc : TypeId × Value → H} {P : Program} {w : World} {base : Nat} {spare : Nat → Bool} {held : Bool}
theorem td_und {t : TypeId} (h : (td P t).ok = true) : ∃ i d, P.info? t = some i ∧ P.underlying t = some d ∧ (td P t).size = P.cellsOf t ∧ (td P t).k = tkOf d := by
  obtain ⟨i, d, h1, h2, h3, h4, h5⟩ := td_info h
  exact ⟨i, d, h1, h2, by rw [h3]; simp [Program.cellsOf, h1], h5⟩
theorem cells_size {t : TypeId} (h : (td P t).ok = true) : P.cellsOf t = (td P t).size := by
  obtain ⟨_, _, _, _, h, _⟩ := td_und h
  exact h.symm
/-- Fields one behind the other: their cells together. -/
theorem tile_fields {Φ : Phi} {n : Nat} {cs : List Value} {size : Nat} (hlen : cs.length = size) : ∀ (fs : List (Nat × TypeId)) (o : Nat), o ≤ size → tiles P fs o size = true →
    (∀ f, f ∈ fs → ∃ ms, RelL Φ ((cs.drop f.1).take (td P f.2).size) ms ∧ CT P n f.2 ms) → (∀ f, f ∈ fs → ∀ ms, CT P n f.2 ms → ms.length = (td P f.2).size) →
    ∃ ms, RelL Φ (cs.drop o) ms ∧ ∀ f, f ∈ fs → o ≤ f.1 ∧ CT P n f.2 ((ms.drop (f.1 - o)).take (td P f.2).size)
  | [], o, ho, ht, _, _ => by
    simp only [tiles, beq_iff_eq] at ht
    refine ⟨[], ?_, fun f h => by cases h⟩
    rw [ht, ← hlen, List.drop_length]
    exact ⟨rfl, fun i v m h => by simp at h⟩
  | (off, ft) :: r, o, ho, ht, hf, hl => by
    simp only [tiles, Bool.and_eq_true, beq_iff_eq] at ht
    obtain ⟨rfl, ht⟩ := ht
    obtain ⟨m1, r1, c1⟩ := hf (off, ft) (List.mem_cons_self ..)
    have e1 := hl (off, ft) (List.mem_cons_self ..) m1 c1
    simp only at r1 c1 e1
    have hle : off + (td P ft).size ≤ size := by
      have := r1.1
      simp only [List.length_take, List.length_drop, hlen] at this
      omega
    obtain ⟨m2, r2, c2⟩ := tile_fields hlen r (off + (td P ft).size) hle ht (fun f h => hf f (List.mem_cons_of_mem _ h)) (fun f h => hl f (List.mem_cons_of_mem _ h))
    refine ⟨m1 ++ m2, ?_, fun f h => ?_⟩
    · have : cs.drop off = (cs.drop off).take (td P ft).size ++ cs.drop (off + (td P ft).size) := by
        rw [← List.drop_drop, List.take_append_drop]
      rw [this]
      exact r1.app r2
    · rcases List.mem_cons.1 h with rfl | h
      · refine ⟨Nat.le_refl _, ?_⟩
        simp only [Nat.sub_self, List.drop_zero]
        rw [List.take_append_of_le_length (by omega), List.take_of_length_le (by omega)]
        exact c1
      · obtain ⟨h1, h2⟩ := c2 f h
        refine ⟨by omega, ?_⟩
        have : (m1 ++ m2).drop (f.1 - off) = m2.drop (f.1 - (off + (td P ft).size)) := by
          rw [List.drop_append, List.drop_eq_nil_of_le (by omega), List.nil_append]
          congr 1
          omega
        rw [this]
        exact h2
theorem ct_len : ∀ (n : Nat) (t : TypeId) (cs : List MV), shp P n t = true → CT P n t cs → cs.length = (td P t).size
  | 0, _, _, h, _ => by cases h
  | n + 1, t, cs, h, hc => by
    simp only [shp, Bool.and_eq_true] at h
    obtain ⟨_, h⟩ := h
    simp only [CT] at hc
    split at hc
    · rename_i hk; rw [hk] at h; simp only [beq_iff_eq] at h; obtain ⟨b, rfl⟩ := hc; exact h.symm
    · rename_i hk; rw [hk] at h; simp only [beq_iff_eq] at h; obtain ⟨b, rfl, _⟩ := hc; exact h.symm
    · rename_i hk; rw [hk] at h; simp only [beq_iff_eq] at h; obtain ⟨b, rfl, _⟩ := hc; exact h.symm
    · rename_i hk; rw [hk] at h; simp only [Bool.and_eq_true, beq_iff_eq] at h; obtain ⟨b, rfl, _⟩ := hc; exact h.1.1.1.symm
    · exact hc.1
    · exact hc.1
    · exact hc.elim
theorem tiles_le : ∀ (fs : List (Nat × TypeId)) (o m : Nat), tiles P fs o m = true → o ≤ m ∧ ∀ f, f ∈ fs → f.1 + (td P f.2).size ≤ m
  | [], o, m, h => by
    simp only [tiles, beq_iff_eq] at h
    exact ⟨by omega, fun f hf => by cases hf⟩
  | (off, ft) :: r, o, m, h => by
    simp only [tiles, Bool.and_eq_true, beq_iff_eq] at h
    obtain ⟨rfl, h⟩ := h
    obtain ⟨h1, h2⟩ := tiles_le r _ m h
    refine ⟨by omega, fun f hf => ?_⟩
    rcases List.mem_cons.1 hf with rfl | hf
    · exact h1
    · exact h2 f hf
theorem tiles_range (e : TypeId) : ∀ (k i : Nat), tiles P ((List.range' i k).map fun j => (j * (td P e).size, e)) (i * (td P e).size) ((i + k) * (td P e).size) = true
  | 0, i => by simp [tiles]
  | k + 1, i => by
    have := tiles_range e k (i + 1)
    rw [List.range'_succ]
    simp only [List.map_cons, tiles, beq_self_eq_true, Bool.true_and]
    rw [show i * (td P e).size + (td P e).size = (i + 1) * (td P e).size by rw [Nat.add_mul, Nat.one_mul], show i + (k + 1) = i + 1 + k by omega]
    exact this
/-- What a reading holds, as cells of the logic. -/
theorem trod_open : ∀ (n : Nat) (t : TypeId) (fuel : Nat) (cs : List Value) (x : DataW H × List MemPlace), shp P n t = true → cs.length = (td P t).size → DataW.trod enc P w base spare held fuel t cs = some x →
    ∃ ms, RelL (phi0 w) cs ms ∧ CT P n t ms
  | 0, _, _, _, _, h, _, _ => by cases h
  | n + 1, t, fuel, cs, x, h, hlen, hx => by
    simp only [shp, Bool.and_eq_true] at h
    obtain ⟨hok, h⟩ := h
    obtain ⟨i, d, hi, hd, hsz, hk⟩ := td_und hok
    split at h <;> rename_i hkk
    · have ht := und_bool hkk
      obtain ⟨b, rfl, _⟩ := DataW.trod_bool ht hx
      exact ⟨[.bool b], .one rfl (.bool b), by simp only [CT, hkk]; exact ⟨b, rfl⟩⟩
    · rename_i k
      have ht := und_int hkk
      obtain ⟨v, rfl, _, hw⟩ := DataW.trod_int ht hx
      simp only [Lit.wf, Bool.and_eq_true, decide_eq_true_eq] at hw
      exact ⟨[.int k v], .one rfl (.int k v), by simp only [CT, hkk]; exact ⟨v, rfl, hw⟩⟩
    · have ht := und_str hkk
      obtain ⟨s, rfl, _, hw⟩ := DataW.trod_string ht hx
      exact ⟨[.str s], .one rfl (.str s), by simp only [CT, hkk]; exact ⟨s, rfl, hw⟩⟩
    · rename_i e
      have ht := und_slice hkk
      simp only [Bool.and_eq_true, decide_eq_true_eq] at h
      obtain ⟨⟨⟨_, h0⟩, heok⟩, h⟩ := h
      have hce := cells_size heok
      rcases DataW.trod_slice ht hx with ⟨rfl, _⟩ | ⟨a, len, cap, elems, rest, m, _, rfl, _, _, hlc, hcm, hel, hget, _⟩
      · exact ⟨[.lst (td P e).size [] false], .one rfl (.lstn _ _), by simp only [CT, hkk]; exact ⟨[], rfl, by simp, fun x h => by cases h⟩⟩
      · have key : ∀ i : Nat, ∃ q : List Value × List MV, i < len → w.cells? base (a.add (i * (td P e).size)) (td P e).size = some q.1 ∧ RelL (phi0 w) q.1 q.2 ∧ CT P n e q.2 ∧ q.2.length = (td P e).size := by
          intro i
          by_cases hi : i < len
          · have := hget i hi
            rw [hce] at this
            obtain ⟨y, hy⟩ : ∃ y, elems[i]? = some y := ⟨elems[i]'(by omega), by simp⟩
            rw [hy] at this
            cases hc : w.cells? base (a.add (i * (td P e).size)) (td P e).size with
            | none => rw [hc] at this; cases this
            | some c =>
              rw [hc] at this
              have hcl := (World.cells?_some hc).2.1
              obtain ⟨ms, r, ct⟩ := trod_open n e m c y h hcl this
              exact ⟨(c, ms), fun _ => ⟨rfl, r, ct, by rw [← r.1]; exact hcl⟩⟩
          · exact ⟨([], []), fun h => absurd h hi⟩
        obtain ⟨F, hF⟩ := Classical.axiomOfChoice key
        let xs := (List.range len).map fun i => (F i).2
        have hxs : ∀ (i : Nat) (y : List MV), xs[i]? = some y → i < len ∧ y = (F i).2 := fun i y hy => by
          simp only [xs, List.getElem?_map, Option.map_eq_some_iff] at hy
          obtain ⟨j, hj, rfl⟩ := hy
          rw [List.getElem?_eq_some_iff] at hj
          obtain ⟨h1, h2⟩ := hj
          simp at h1 h2
          subst h2
          exact ⟨h1, rfl⟩
        refine ⟨[.lst (td P e).size xs false], .one rfl (Rel.mk_lst (by simp [xs]) hlc hcm (fun h => by cases h) (fun h => by cases h) (fun hpos => ?_)), ?_⟩
        · obtain ⟨hc0, hr0, _, hl0⟩ := hF 0 hpos
          obtain ⟨_, hcl, hcell⟩ := World.cells?_some hc0
          have g0 := hcell 0 h0
          obtain ⟨c0, hc0'⟩ : ∃ c0, (F 0).1[0]? = some c0 := ⟨(F 0).1[0]'(by omega), by simp⟩
          rw [hc0'] at g0
          obtain ⟨b, off, spot⟩ := a
          have hspot : spot = none := by simpa [Addr.add] using World.cell?_spot g0
          subst hspot
          refine ⟨b, off, rfl, fun i y hy => ?_, fun i j => (F i).1.getD j undef, fun i y j m hy hm => ?_⟩
          · obtain ⟨hi, rfl⟩ := hxs i y hy
            exact (hF i hi).2.2.2
          · obtain ⟨hi, rfl⟩ := hxs i y hy
            obtain ⟨hc, hr, _, hl⟩ := hF i hi
            obtain ⟨_, hcl, hcell⟩ := World.cells?_some hc
            have hj : j < (F i).2.length := (List.getElem?_eq_some_iff.1 hm).1
            have hj' : j < (F i).1.length := by rw [hcl, ← hl]; exact hj
            have hv : (F i).1[j]? = some ((F i).1.getD j undef) := by simp [List.getD, hj']
            obtain ⟨k1, k2⟩ := hr.2 j _ m hv hm
            refine ⟨k1, ?_, k2⟩
            have := hcell j (by omega)
            rw [hv] at this
            simp only [add_none] at this
            show w.cell? _ = _
            rw [← Nat.add_assoc]
            exact this
        · simp only [CT, hkk]
          refine ⟨xs, rfl, by simp [xs]; omega, fun y hy => ?_⟩
          obtain ⟨i, hi⟩ := List.mem_iff_getElem?.1 hy
          obtain ⟨hil, e⟩ := hxs i y hi
          rw [e]
          exact (hF i hil).2.2.1
    · rename_i fs
      obtain ⟨fa, ht, rfl⟩ := und_struct hkk
      simp only [Bool.and_eq_true, List.all_eq_true] at h
      obtain ⟨htl, hall⟩ := h
      obtain ⟨xs, m, _, _, hcl, hxl, hget⟩ := DataW.trod_struct ht hx
      have hfield : ∀ f, f ∈ (fa.toList.map fun f => (f.offset, f.type)) → ∃ ms, RelL (phi0 w) ((cs.drop f.1).take (td P f.2).size) ms ∧ CT P n f.2 ms := by
        intro f hf
        have hf0 := hall f hf
        obtain ⟨g, hg, rfl⟩ := List.mem_map.1 hf
        obtain ⟨i, hi⟩ := List.mem_iff_getElem?.1 hg
        have hi' : fa[i]? = some g := by simpa using hi
        have hil : i < xs.length := by
          rw [hxl]
          obtain ⟨q, _⟩ := Array.getElem?_eq_some_iff.1 hi'
          exact q
        have := hget i g hi'
        simp only at hf0 ⊢
        rw [cells_size hf0.1, List.getElem?_eq_getElem hil] at this
        refine trod_open n _ m _ _ hf0.2 ?_ this
        have := (tiles_le _ _ _ htl).2 _ hf
        simp only [List.length_take, List.length_drop, hlen] at this ⊢
        omega
      obtain ⟨ms, r, hc⟩ := tile_fields (Φ := phi0 w) (n := n) (P := P) hlen _ 0 (Nat.zero_le _) htl hfield (fun f hf ms hm => ct_len n _ ms (hall f hf).2 hm)
      refine ⟨ms, by simpa using r, ?_⟩
      simp only [CT, hkk]
      refine ⟨by rw [← hlen]; simpa using r.1.symm, fun f hf => ?_⟩
      have := (hc f hf).2
      simpa using this
    · rename_i k e
      have ht := und_array hkk
      simp only [Bool.and_eq_true, beq_iff_eq] at h
      obtain ⟨⟨hsz2, heok⟩, h⟩ := h
      obtain ⟨xs, m, _, _, hcl, hxl, hget⟩ := DataW.trod_array ht hx
      have htl : tiles P ((List.range k).map fun j => (j * (td P e).size, e)) 0 (td P t).size = true := by
        have := tiles_range (P := P) e k 0
        rw [List.range_eq_range', hsz2]
        simpa using this
      have hfield : ∀ f, f ∈ ((List.range k).map fun j => (j * (td P e).size, e)) → ∃ ms, RelL (phi0 w) ((cs.drop f.1).take (td P f.2).size) ms ∧ CT P n f.2 ms := by
        intro f hf
        have hle := (tiles_le _ _ _ htl).2 _ hf
        obtain ⟨i, hi, rfl⟩ := List.mem_map.1 hf
        have hik : i < k := by simpa using hi
        have := hget i hik
        simp only at hle ⊢
        rw [cells_size heok, List.getElem?_eq_getElem (by omega)] at this
        refine trod_open n _ m _ _ h ?_ this
        simp only [List.length_take, List.length_drop, hlen]
        omega
      obtain ⟨ms, r, hc⟩ := tile_fields (Φ := phi0 w) (n := n) (P := P) hlen _ 0 (Nat.zero_le _) htl hfield (fun f hf ms hm => by
        obtain ⟨i, hi, rfl⟩ := List.mem_map.1 hf
        exact ct_len n _ ms h hm)
      refine ⟨ms, by simpa using r, ?_⟩
      simp only [CT, hkk]
      refine ⟨by rw [← hlen]; simpa using r.1.symm, fun i hi => ?_⟩
      have := (hc (i * (td P e).size, e) (List.mem_map.2 ⟨i, by simpa using hi, rfl⟩)).2
      simpa using this
    · cases h
/-- What an argument holds. -/
theorem arg_open {n : Nat} {t : TypeId} {v : Value} {d : DataW H} {ps : List MemPlace} {r : Reach} {b0 : Nat} (h : shp P n t = true) (hv : Value.okWide P w r b0 t v) (hd : DataW.Trod enc P w base spare held t v d ps) :
    ∃ m, Rel (phi0 w) v m ∧ AT P n t m := by
  obtain ⟨fuel, hf⟩ := hd
  have hok : (td P t).ok = true := by
    cases n with
    | zero => cases h
    | succ n => simp only [shp, Bool.and_eq_true] at h; exact h.1
  have hcs := cells_size hok
  unfold AT
  have key : (∃ cs, v = .agg cs ∧ cs.size = (td P t).size ∧ (td P t).k.isAgg = true) ∨ ((td P t).k.isAgg = false ∧ v.cells = #[v] ∧ (td P t).size = 1) := by
    cases n with
    | zero => cases h
    | succ n =>
      simp only [shp, Bool.and_eq_true] at h
      obtain ⟨_, h⟩ := h
      split at h <;> rename_i hk
      · obtain ⟨b, rfl⟩ := okWide_bool (und_bool hk) hv
        exact .inr ⟨by rw [hk]; rfl, rfl, by simpa using h⟩
      · obtain ⟨b, rfl⟩ := okWide_int (und_int hk) hv
        exact .inr ⟨by rw [hk]; rfl, rfl, by simpa using h⟩
      · obtain ⟨b, rfl⟩ := okWide_string (und_str hk) hv
        exact .inr ⟨by rw [hk]; rfl, rfl, by simpa using h⟩
      · obtain ⟨a, l, c, rfl⟩ := okWide_slice (und_slice hk) hv
        simp only [Bool.and_eq_true, beq_iff_eq] at h
        exact .inr ⟨by rw [hk]; rfl, rfl, h.1.1.1⟩
      · obtain ⟨fa, ht, _⟩ := und_struct hk
        obtain ⟨cs, rfl, hs⟩ := okWide_struct ht hv
        exact .inl ⟨cs, rfl, by rw [hs, hcs], by rw [hk]; rfl⟩
      · have ht := und_array hk
        simp only [Value.okWide, ht] at hv
        obtain ⟨cs, rfl, hs, _⟩ := hv
        exact .inl ⟨cs, rfl, by rw [hs, hcs], by rw [hk]; rfl⟩
      · cases h
  rcases key with ⟨cs, rfl, hs, ha⟩ | ⟨ha, hc, hs⟩
  · simp only [ha, if_true]
    obtain ⟨ms, hr, hct⟩ := trod_open n t fuel _ _ h (by simpa [Value.cells] using hs) hf
    have hr' : RelL (phi0 w) cs.toList ms := by simpa [Value.cells] using hr
    have hl : cs.size = ms.length := by simpa using hr'.1
    have get : ∀ (i : Nat) m, ms[i]? = some m → cs.toList[i]? = some (cs.getD i undef) := fun i m hm => by
      have : i < cs.size := by rw [hl]; exact (List.getElem?_eq_some_iff.1 hm).1
      simp [Array.getD, this]
    exact ⟨.agg ms, .agg hl (fun i m hm => (hr'.2 i _ m (get i m hm) hm).1) (fun i m hm => (hr'.2 i _ m (get i m hm) hm).2), ms, rfl, hct⟩
  · simp only [ha, Bool.false_eq_true, if_false]
    obtain ⟨ms, hr, hct⟩ := trod_open n t fuel _ _ h (by rw [hc, hs]; rfl) hf
    rw [hc] at hr
    match ms, hr with
    | [m], hr =>
      exact ⟨m, (hr.2 0 v m rfl rfl).2, hct⟩
    | [], hr => exact absurd hr.1 (by simp)
    | _ :: _ :: _, hr => exact absurd hr.1 (by simp)
/-- All arguments. -/
def ATs (P : Program) (n : Nat) : List TypeId → List MV → Prop
  | [], [] => True
  | t :: ts, m :: ms => AT P n t m ∧ ATs P n ts ms
  | _, _ => False
theorem args_open {n : Nat} : ∀ {ts : List TypeId} {vs : List Value} {ds : List (DataW H)} {ps : List MemPlace}, (∀ t, t ∈ ts → shp P n t = true) → (∀ (j : Nat) t v, ts[j]? = some t → vs[j]? = some v → Value.okWide P w .any base t v) →
    DataW.TrodAll enc P w 0 spare held ts vs ds ps → ∃ ms, vs.length = ms.length ∧ (∀ (i : Nat) v m, vs[i]? = some v → ms[i]? = some m → Rel (phi0 w) v m) ∧ ATs P n ts ms
  | [], vs, ds, ps, _, _, h => by
    obtain ⟨rfl, _, _⟩ := trodAll_nil h
    exact ⟨[], rfl, fun i v m h => by simp at h, trivial⟩
  | t :: ts, vs, ds, ps, hs, hok, h => by
    obtain ⟨v, vs1, d, ds1, a, b, rfl, rfl, rfl, h1, h2⟩ := trodAll_cons h
    obtain ⟨m, r, ht⟩ := arg_open (hs t (List.mem_cons_self ..)) (hok 0 t v rfl rfl) h1
    obtain ⟨ms, e, rs, hts⟩ := args_open (fun t h => hs t (List.mem_cons_of_mem _ h)) (fun j t v p q => hok (j + 1) t v (by simpa using p) (by simpa using q)) h2
    refine ⟨m :: ms, by simp [e], fun i v' m' p q => ?_, ht, hts⟩
    cases i with
    | zero => simp at p q; subst p q; exact r
    | succ i => simp at p q; exact rs i v' m' p q
/-- The arguments read as they did. -/
theorem args_stay {W W' : World} (hl : laidOutB P = true) (hb : ∀ k, k < W.heap.size → W'.heap[k]? = W.heap[k]?) : ∀ {ts : List TypeId} {vs : List Value} {ds : List (DataW H)} {ps : List MemPlace} {sp : Nat → Bool},
    (∀ t, t ∈ ts → P.readableRec t = true ∧ t < P.types.size) → DataW.TrodAll enc P W 0 (fun _ => true) true ts vs ds ps → (∀ x ∈ ps, x.block < W.heap.size) → (∀ x ∈ ps, sp x.block = true) → DataW.TrodAll enc P W' 0 sp true ts vs ds ps
  | [], vs, ds, ps, sp, _, h, _, _ => by
    obtain ⟨rfl, rfl, rfl⟩ := trodAll_nil h
    exact trodAll_mk0
  | t :: ts, vs, ds, ps, sp, hr, h, hlt, hsp => by
    obtain ⟨v, vs1, d, ds1, a, b, rfl, rfl, rfl, h1, h2⟩ := trodAll_cons h
    refine ⟨a, b, ?_, args_stay hl hb (fun t h => hr t (List.mem_cons_of_mem _ h)) h2 (fun x hx => hlt x (List.mem_append_right _ hx)) (fun x hx => hsp x (List.mem_append_right _ hx)), rfl⟩
    obtain ⟨r1, r2⟩ := hr t (List.mem_cons_self ..)
    refine WideElems.Trod_stays hl r1 r2 h1 (fun x hx => ?_) (fun x hx => hsp x (List.mem_append_left _ hx))
    have hp := hlt x (List.mem_append_left _ hx)
    cases x with
    | cell b o => exact World.cell?_of_block (w := W) (hb b hp)
    | map b => exact hb b hp
theorem kept_of {W W' : World} {may : MemPlace → Prop} (h1 : W'.os = W.os) (h2 : W'.output = W.output) (hb : ∀ k, k < W.heap.size → W'.heap[k]? = W.heap[k]?) : W.keptBut W' may := by
  refine ⟨h1, h2, fun i hi => ?_⟩
  rw [hb i hi]
  cases W.heap[i]? with
  | none => rfl
  | some o => cases o with
    | cells c t fr => exact ⟨rfl, rfl, rfl, fun _ _ => rfl⟩
    | map es clock => exact .inr ⟨rfl, rfl⟩
    | _ => rfl
theorem frozen_of {W W' : World} (hb : ∀ k, k < W.heap.size → W'.heap[k]? = W.heap[k]?) {a : Addr} (h : a.block < W.heap.size) : W'.frozen? a = W.frozen? a := by
  unfold World.frozen?
  rw [hb _ h]
/-- A law, out of its contract. -/
theorem law_post {f : Func} {s : ChangeSpec} {apart fresh handsOn again : Bool} {W W' : World} {args : Array Value} {ds gs : List (DataW H)} {before : List MemPlace} {tb : TypeId}
    (hvars : s.vars = []) (hs : ∀ (H : Type) (ds : List (DataW H)), ds.length = f.params.size → s.fn H ds = { results := [.lit (.bool true)], args := ds })
    (hres : f.resultTypes = #[tb]) (htb : P.underlying tb = some .bool) (hl : laidOutB P = true) (hr : ∀ t, t ∈ f.params.toList → P.readableRec t = true ∧ t < P.types.size)
    (hW : DataW.Whole enc P f.params.toList s.vars apart W args.toList ds gs before) (h1 : W'.os = W.os) (h2 : W'.output = W.output) (hb : ∀ k, k < W.heap.size → W'.heap[k]? = W.heap[k]?) :
    s.post enc P f apart fresh handsOn again W args (.bool true) W' := by
  have hlt := hW.lt
  have hW0 := hW
  obtain ⟨p, q, hA, hV, hpq, hfz, hnd⟩ := hW
  rw [hvars] at hV
  obtain ⟨rfl, rfl⟩ := trodVars_none hV
  rw [List.append_nil] at hpq
  subst hpq
  have hlen : ∀ {ts : List TypeId} {vs : List Value} {ds : List (DataW H)} {ps : List MemPlace}, DataW.TrodAll enc P W 0 (fun _ => true) true ts vs ds ps → ds.length = ts.length := by
    intro ts
    induction ts with
    | nil => intro vs ds ps h; obtain ⟨_, rfl, _⟩ := trodAll_nil h; rfl
    | cons t ts ih =>
      intro vs ds ps h
      obtain ⟨v, vs1, d, ds1, a, b, rfl, rfl, rfl, h1, h2⟩ := trodAll_cons h
      simp [ih h2]
  have hfn : s.fn H (ds ++ []) = { results := [.lit (.bool true)], args := ds } := by
    rw [List.append_nil]
    exact hs H ds (by rw [hlen hA]; simp)
  have hargs : ∀ sp : Nat → Bool, (∀ x ∈ before, sp x.block = true) → DataW.TrodAll enc P W' 0 sp true f.params.toList args.toList ds before := fun sp hsp => args_stay hl hb hr hA hlt hsp
  have hresl : (Value.bool true).resultList f.resultTypes.size = [.bool true] := by rw [hres]; rfl
  have hrt : ∀ (b : Nat) (sp : Nat → Bool) (hd : Bool), DataW.TrodAll enc P W' b sp hd f.resultTypes.toList ((Value.bool true).resultList f.resultTypes.size) [.lit (.bool true)] [] := fun b sp hd => by
    rw [hresl, hres]
    exact trodAll_mk1 (shut_bool htb true)
  refine ⟨ds, [], before, [], before, [], hW0, ?_, ?_, ?_, kept_of h1 h2 hb, fun _ => ⟨?_, [.lit (.bool true)] ++ ds, [], [] ++ before, ⟨[] ++ before, [], trodAll_append (hargs _ fun _ _ => rfl) (hrt _ _ _), ?_, by simp, fun b off hp => ?_, fun ha => ?_⟩, fun x hx _ => ?_⟩⟩
  · rw [hfn]; exact hrt _ _ _
  · rw [hfn]; exact hargs _ fun x hx => by simpa using hlt x hx
  · rw [hfn, hvars]; rfl
  · exact ok_one hres rfl (okWide_bool_mk htb true)
  · rw [hvars]; rfl
  · have hp' : MemPlace.cell b off ∈ before := by simpa using hp
    rw [frozen_of hb (a := ⟨b, off, none⟩) (hlt _ hp')]
    exact hfz b off (by simpa using hp')
  · have := hnd ha
    simpa using this
  · simpa using hx
theorem ct_int {n : Nat} {t : TypeId} {k : IntKind} {cs : List MV} (hk : (td P t).k = .int k) (h : CT P (n + 1) t cs) : ∃ v, cs = [.int k v] ∧ k.min ≤ v ∧ v ≤ k.max := by
  simp only [CT, hk] at h; exact h
theorem ct_bool {n : Nat} {t : TypeId} {cs : List MV} (hk : (td P t).k = .bool) (h : CT P (n + 1) t cs) : ∃ b, cs = [.bool b] := by
  simp only [CT, hk] at h; exact h
theorem ct_str {n : Nat} {t : TypeId} {cs : List MV} (hk : (td P t).k = .str) (h : CT P (n + 1) t cs) : ∃ s : ByteArray, cs = [.str s] ∧ s.size ≤ maxLen := by
  simp only [CT, hk] at h; exact h
theorem ct_slice {n : Nat} {t e : TypeId} {cs : List MV} (hk : (td P t).k = .slice e) (h : CT P (n + 1) t cs) : ∃ xs, cs = [.lst (td P e).size xs false] ∧ xs.length ≤ maxLen ∧ ∀ x, x ∈ xs → CT P n e x := by
  simp only [CT, hk] at h; exact h
theorem ct_struct {n : Nat} {t : TypeId} {fs : List (Nat × TypeId)} {cs : List MV} (hk : (td P t).k = .struct fs) (h : CT P (n + 1) t cs) : cs.length = (td P t).size ∧ ∀ f, f ∈ fs → CT P n f.2 ((cs.drop f.1).take (td P f.2).size) := by
  simp only [CT, hk] at h; exact h
theorem ct_array {n m : Nat} {t e : TypeId} {cs : List MV} (hk : (td P t).k = .array m e) (h : CT P (n + 1) t cs) : cs.length = (td P t).size ∧ ∀ i, i < m → CT P n e ((cs.drop (i * (td P e).size)).take (td P e).size) := by
  simp only [CT, hk] at h; exact h
theorem at_agg {n : Nat} {t : TypeId} {m : MV} (hk : (td P t).k.isAgg = true) (h : AT P n t m) : ∃ cs, m = .agg cs ∧ CT P n t cs := by
  simpa only [AT, hk, if_true] using h
theorem lists_of {α : Type} {f : α → List MV} {xs : List (List MV)} (h : ∀ x, x ∈ xs → ∃ a, x = f a) : ∃ l : List α, xs = l.map f := by
  induction xs with
  | nil => exact ⟨[], rfl⟩
  | cons x xs ih =>
    obtain ⟨a, rfl⟩ := h x (List.mem_cons_self ..)
    obtain ⟨l, rfl⟩ := ih fun y hy => h y (List.mem_cons_of_mem _ hy)
    exact ⟨a :: l, rfl⟩
end
end Go.Proofs.YtfbodefnblpflaaGreatDoor
end
