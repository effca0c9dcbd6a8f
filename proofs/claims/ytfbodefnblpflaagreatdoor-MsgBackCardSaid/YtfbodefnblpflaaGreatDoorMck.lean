/- Parts of the proof, joined. Each part says what it proves, and under which conditions it does: those that its theorems name. -/
import Derived.Test.YtfbodefnblpflaaGreatDoorMch
set_option linter.unusedVariables false
set_option linter.unusedSimpArgs false
set_option maxHeartbeats 4000000
namespace Go.Proofs.YtfbodefnblpflaaGreatDoor
theorem rparts_call (op : Int) : MCalls Tryz.prog 170 [.int .i64 op] St.none (fun r _ => r = .int .i64 (parts op)) := by
 refine (MCalls.body 11 [.tmp 2] Tryz.func170 rfl rfl rfl rfl ?_)
 repeat' (first | (with_reducible first | (refine wN fun nl hnl => ?_; revert hnl; (repeat refine wS fun _ _ => ?_); intro hnl) | refine wD (by decide +kernel) ?_ | refine wI (fun h => ?_) fun h => ?_ | refine wF (fun h => ?_) fun h => ?_ | refine wG (fun h => ?_) fun h => ?_ | refine wH (fun h => ?_) fun h => ?_ | ((first | refine mfork_bool (fun h => ?_) fun h => ?_ | refine mgfork_bool (fun h => ?_) fun h => ?_) <;> simp only [h])) | simp (maxSteps := 4000000) (disch := first | decide | assumption | omega | (simp only [wL]; omega)) only [go_sem, simprocAttr, Tryz.f170])
 all_goals simp [parts, *]
theorem rvcheck_call (kd n : Int) (s : ByteArray) : MCalls Tryz.prog 135 [.agg [.int .i64 kd, .int .i64 n, .str s]] St.none (fun r _ => r = .bool (vaOk ⟨kd, n, s⟩)) := by
 refine (MCalls.body 41 [.tmp 2] Tryz.func135 rfl rfl rfl rfl ?_)
 repeat' (first | (with_reducible first | (refine wN fun nl hnl => ?_; revert hnl; (repeat refine wS fun _ _ => ?_); intro hnl) | refine wD (by decide +kernel) ?_ | refine wI (fun h => ?_) fun h => ?_ | refine wF (fun h => ?_) fun h => ?_ | refine wG (fun h => ?_) fun h => ?_ | refine wH (fun h => ?_) fun h => ?_ | ((first | refine mfork_bool (fun h => ?_) fun h => ?_ | refine mgfork_bool (fun h => ?_) fun h => ?_) <;> simp only [h])) | simp (maxSteps := 4000000) (disch := first | decide | assumption | omega | (simp only [wL]; omega)) only [go_sem, simprocAttr, Tryz.f135])
 all_goals simp [vaOk, va0, *]
 all_goals omega
set_option maxHeartbeats 2000000 in
theorem rnode_call (x : ND) : MCalls Tryz.prog 136 [.agg x.c] St.none (fun r _ => r = .bool (ndOk x)) := by
 refine (MCalls.body 86 [.tmp 2] Tryz.func136 rfl rfl rfl rfl ?_)
 obtain ⟨op, n, kd, vn, s⟩ := x
 repeat' (first | (with_reducible refine use_pure (rvcheck_call _ _ _) ?_) | (with_reducible first | (refine wN fun nl hnl => ?_; revert hnl; (repeat refine wS fun _ _ => ?_); intro hnl) | refine wD (by decide +kernel) ?_ | refine wI (fun h => ?_) fun h => ?_ | refine wF (fun h => ?_) fun h => ?_ | refine wG (fun h => ?_) fun h => ?_ | refine wH (fun h => ?_) fun h => ?_ | ((first | refine mfork_bool (fun h => ?_) fun h => ?_ | refine mgfork_bool (fun h => ?_) fun h => ?_) <;> simp only [h])) | simp (maxSteps := 4000000) (disch := first | decide | assumption | omega | (simp only [wL]; omega)) only [go_sem, simprocAttr, Tryz.f136])
 all_goals first
  | (simp [ndOk, va0, *]; done)
  | (simp [ndOk, va0, *]; omega)
  | (simp [ndOk, va0, *]; rintro rfl rfl rfl; rename_i h; revert h; simp [vaOk, va0])
theorem endN_step {l : List ND} {n j : Nat} (h : j < l.length) : endN (n + 1) (l.drop j) = (endN (n + parts (l.getD j nd0).op) (l.drop (j + 1))).map (· + 1) := by
 rw [List.drop_eq_getElem_cons h]
 have : l.getD j nd0 = l[j] := by simp [List.getD, h]
 rw [this]
 rfl
theorem rend_call (l : List ND) (hl : l.length ≤ 1000000) (t : Bool) (i : Int) : MCalls Tryz.prog 137 [.lst 5 (l.map ND.c) t, .int .i64 i] St.none (fun r _ => r = .int .i64 (endS l i)) := by
 refine (MCalls.body 30 [.tmp 4] Tryz.func137 rfl rfl rfl rfl ?_)
 by_cases hi : i < 0
 ·repeat' (first | (with_reducible first | (refine wN fun nl hnl => ?_; revert hnl; (repeat refine wS fun _ _ => ?_); intro hnl) | refine wD (by decide +kernel) ?_ | refine wI (fun h => ?_) fun h => ?_ | refine wF (fun h => ?_) fun h => ?_ | refine wG (fun h => ?_) fun h => ?_ | refine wH (fun h => ?_) fun h => ?_ | ((first | refine mfork_bool (fun h => ?_) fun h => ?_ | refine mgfork_bool (fun h => ?_) fun h => ?_) <;> simp only [h])) | simp (maxSteps := 4000000) (disch := first | decide | assumption | omega | (simp only [wL]; omega)) only [go_sem, simprocAttr, Tryz.f137])
  simp [endS, hi]
 ·obtain ⟨i, rfl⟩ : ∃ k : Nat, i = k := ⟨i.toNat, by omega⟩
  repeat' (first | (with_reducible first | (refine wN fun nl hnl => ?_; revert hnl; (repeat refine wS fun _ _ => ?_); intro hnl) | refine wD (by decide +kernel) ?_ | refine wI (fun h => ?_) fun h => ?_ | refine wF (fun h => ?_) fun h => ?_ | refine wG (fun h => ?_) fun h => ?_ | refine wH (fun h => ?_) fun h => ?_ | ((first | refine mfork_bool (fun h => ?_) fun h => ?_ | refine mgfork_bool (fun h => ?_) fun h => ?_) <;> simp only [h])) | simp (maxSteps := 4000000) (disch := first | decide | assumption | omega | (simp only [wL]; omega)) only [go_sem, simprocAttr, Tryz.f137])
  refine mloop_intro (α := Nat × Nat) (fun a => ⟨30, [(5, .int .i64 (a.2 : Int)), (0, .lst 5 (l.map ND.c) t), (1, .int .i64 (a.1 : Int))], []⟩) (fun _ => St.none)
   (fun a => i ≤ a.1 ∧ a.1 ≤ max i l.length ∧ a.2 ≤ 1 + a.1 ∧ endN 1 (l.drop i) = (endN a.2 (l.drop a.1)).map (· + (a.1 - i))) (fun a => l.length - a.1) (.of (.less ?_ (St.le_refl _)) ⟨(i, 1), rfl, rfl, ?_⟩) ?_
  ·simp (maxSteps := 4000000) (disch := first | decide | assumption | omega | (simp only [wL]; omega)) only [go_sem, simprocAttr, weak_int, weak_same]
   all_goals rfl
  ·simp
   omega
  ·rintro ⟨j, n⟩ ⟨h1, h2, h3, h4⟩
   simp only at h1 h2 h3 h4 ⊢
   by_cases hj : j < l.length
   ·rcases Nat.eq_zero_or_pos n with hn | hn
    ·subst hn
     repeat' (first | (with_reducible first | (refine wN fun nl hnl => ?_; revert hnl; (repeat refine wS fun _ _ => ?_); intro hnl) | refine wD (by decide +kernel) ?_ | refine wI (fun h => ?_) fun h => ?_ | refine wF (fun h => ?_) fun h => ?_ | refine wG (fun h => ?_) fun h => ?_ | refine wH (fun h => ?_) fun h => ?_ | ((first | refine mfork_bool (fun h => ?_) fun h => ?_ | refine mgfork_bool (fun h => ?_) fun h => ?_) <;> simp only [h])) | simp (maxSteps := 4000000) (disch := first | decide | assumption | omega | (simp only [wL]; omega)) only [go_sem, simprocAttr, getD_mapd nd0, ND.c])
     simp only [endS, h4, endN, Option.map_some, Int.toNat_natCast]
     rw [if_neg hi]
     simp only [MV.int.injEq, true_and]
     omega
    ·obtain ⟨m, rfl⟩ : ∃ m, n = m + 1 := ⟨n - 1, by omega⟩
     have hp := parts_cases (l.getD j nd0).op
     repeat' (first | (with_reducible refine use_pure (rparts_call _) ?_) | (with_reducible first | (refine wN fun nl hnl => ?_; revert hnl; (repeat refine wS fun _ _ => ?_); intro hnl) | refine wD (by decide +kernel) ?_ | refine wI (fun h => ?_) fun h => ?_ | refine wF (fun h => ?_) fun h => ?_ | refine wG (fun h => ?_) fun h => ?_ | refine wH (fun h => ?_) fun h => ?_ | ((first | refine mfork_bool (fun h => ?_) fun h => ?_ | refine mgfork_bool (fun h => ?_) fun h => ?_) <;> simp only [h])) | simp (maxSteps := 4000000) (disch := first | decide | assumption | omega | (simp only [wL]; omega)) only [go_sem, simprocAttr, getD_mapd nd0, ND.c])
     refine .of (.less (l1 := [(5, .int .i64 ((m + parts (l.getD j nd0).op : Nat) : Int)), (0, .lst 5 (l.map ND.c) t), (1, .int .i64 ((j + 1 : Nat) : Int))]) ?_ (St.le_refl _)) ⟨(j + 1, m + parts (l.getD j nd0).op), rfl, rfl, ⟨by simp only; omega, by simp only; omega, by simp only; omega, ?_⟩, by simp only; omega⟩
     ·simp (maxSteps := 4000000) (disch := first | decide | assumption | omega | (simp only [wL]; omega)) only [go_sem, simprocAttr, weak_int, weak_same]
      all_goals omega
     ·rw [h4, endN_step hj]
      simp only [Option.map_map]
      congr 1
      funext k
      simp only [Function.comp]
      omega
   ·have hd : l.drop j = [] := List.drop_eq_nil_of_le (by omega)
    rw [hd] at h4
    rcases Nat.eq_zero_or_pos n with hn | hn
    ·subst hn
     repeat' (first | (with_reducible first | (refine wN fun nl hnl => ?_; revert hnl; (repeat refine wS fun _ _ => ?_); intro hnl) | refine wD (by decide +kernel) ?_ | refine wI (fun h => ?_) fun h => ?_ | refine wF (fun h => ?_) fun h => ?_ | refine wG (fun h => ?_) fun h => ?_ | refine wH (fun h => ?_) fun h => ?_ | ((first | refine mfork_bool (fun h => ?_) fun h => ?_ | refine mgfork_bool (fun h => ?_) fun h => ?_) <;> simp only [h])) | simp (maxSteps := 4000000) (disch := first | decide | assumption | omega | (simp only [wL]; omega)) only [go_sem, simprocAttr, getD_mapd nd0, ND.c])
     simp only [endS, h4, endN, Option.map_some, Int.toNat_natCast]
     rw [if_neg hi]
     simp only [MV.int.injEq, true_and]
     omega
    ·obtain ⟨m, rfl⟩ : ∃ m, n = m + 1 := ⟨n - 1, by omega⟩
     repeat' (first | (with_reducible first | (refine wN fun nl hnl => ?_; revert hnl; (repeat refine wS fun _ _ => ?_); intro hnl) | refine wD (by decide +kernel) ?_ | refine wI (fun h => ?_) fun h => ?_ | refine wF (fun h => ?_) fun h => ?_ | refine wG (fun h => ?_) fun h => ?_ | refine wH (fun h => ?_) fun h => ?_ | ((first | refine mfork_bool (fun h => ?_) fun h => ?_ | refine mgfork_bool (fun h => ?_) fun h => ?_) <;> simp only [h])) | simp (maxSteps := 4000000) (disch := first | decide | assumption | omega | (simp only [wL]; omega)) only [go_sem, simprocAttr, getD_mapd nd0, ND.c])
     simp only [endS, h4, endN, Option.map_none, Int.toNat_natCast]
     rw [if_neg hi]
theorem rsame_call (a b : List ND) (hl : a.length ≤ 1000000) (ta tb : Bool) : MCalls Tryz.prog 87 [.lst 5 (a.map ND.c) ta, .lst 5 (b.map ND.c) tb] St.none (fun r _ => r = .bool (decide (a = b))) := by
 refine (MCalls.body 26 [.tmp 4] Tryz.func87 rfl rfl rfl rfl ?_)
 by_cases hlen : a.length = b.length
 ·repeat' (first | (with_reducible first | (refine wN fun nl hnl => ?_; revert hnl; (repeat refine wS fun _ _ => ?_); intro hnl) | refine wD (by decide +kernel) ?_ | refine wI (fun h => ?_) fun h => ?_ | refine wF (fun h => ?_) fun h => ?_ | refine wG (fun h => ?_) fun h => ?_ | refine wH (fun h => ?_) fun h => ?_ | ((first | refine mfork_bool (fun h => ?_) fun h => ?_ | refine mgfork_bool (fun h => ?_) fun h => ?_) <;> simp only [h])) | simp (maxSteps := 4000000) (disch := first | decide | assumption | omega | (simp only [wL]; omega)) only [go_sem, simprocAttr, Tryz.f87])
  refine mloop_intro (α := Nat) (fun i => ⟨26, [(5, .int .i64 (i : Int)), (0, .lst 5 (a.map ND.c) ta), (1, .lst 5 (b.map ND.c) tb)], []⟩) (fun _ => St.none)
   (fun i => i ≤ a.length ∧ a.take i = b.take i) (fun i => a.length - i) (.of (.less ?_ (St.le_refl _)) ⟨0, rfl, rfl, by simp⟩) ?_
  ·simp (maxSteps := 4000000) (disch := first | decide | assumption | omega | (simp only [wL]; omega)) only [go_sem, simprocAttr, weak_int, weak_same]
   all_goals rfl
  ·rintro i ⟨h1, h2⟩
   by_cases hi : i < a.length
   ·repeat' (first | (with_reducible first | (refine wN fun nl hnl => ?_; revert hnl; (repeat refine wS fun _ _ => ?_); intro hnl) | refine wD (by decide +kernel) ?_ | refine wI (fun h => ?_) fun h => ?_ | refine wF (fun h => ?_) fun h => ?_ | refine wG (fun h => ?_) fun h => ?_ | refine wH (fun h => ?_) fun h => ?_ | ((first | refine mfork_bool (fun h => ?_) fun h => ?_ | refine mgfork_bool (fun h => ?_) fun h => ?_) <;> simp only [h])) | simp (maxSteps := 4000000) (disch := first | decide | assumption | omega | (simp only [wL]; omega)) only [go_sem, simprocAttr, getD_mapd nd0, ND.c])
    ·have : a ≠ b := fun e => h (by rw [e]; exact ⟨rfl, rfl, rfl, rfl, rfl⟩)
     simp [this]
    ·have he := nd_ext (Classical.not_not.1 h)
     refine .of (.less (l1 := [(5, .int .i64 ((i + 1 : Nat) : Int)), (0, .lst 5 (a.map ND.c) ta), (1, .lst 5 (b.map ND.c) tb)]) ?_ (St.le_refl _)) ⟨i + 1, rfl, rfl, ⟨by omega, ?_⟩, by omega⟩
     ·simp (maxSteps := 4000000) (disch := first | decide | assumption | omega | (simp only [wL]; omega)) only [go_sem, simprocAttr, weak_int, weak_same]
      all_goals omega
     ·rw [List.take_succ_eq_append_getElem hi, List.take_succ_eq_append_getElem (by omega), h2, ← getD_of_lt nd0 hi, ← getD_of_lt nd0 (by omega), he]
   ·have : i = a.length := by omega
    subst this
    rw [List.take_length, hlen, List.take_length] at h2
    repeat' (first | (with_reducible first | (refine wN fun nl hnl => ?_; revert hnl; (repeat refine wS fun _ _ => ?_); intro hnl) | refine wD (by decide +kernel) ?_ | refine wI (fun h => ?_) fun h => ?_ | refine wF (fun h => ?_) fun h => ?_ | refine wG (fun h => ?_) fun h => ?_ | refine wH (fun h => ?_) fun h => ?_ | ((first | refine mfork_bool (fun h => ?_) fun h => ?_ | refine mgfork_bool (fun h => ?_) fun h => ?_) <;> simp only [h])) | simp (maxSteps := 4000000) (disch := first | decide | assumption | omega | (simp only [wL]; omega)) only [go_sem, simprocAttr, getD_mapd nd0, ND.c])
    simp [h2]
 ·repeat' (first | (with_reducible first | (refine wN fun nl hnl => ?_; revert hnl; (repeat refine wS fun _ _ => ?_); intro hnl) | refine wD (by decide +kernel) ?_ | refine wI (fun h => ?_) fun h => ?_ | refine wF (fun h => ?_) fun h => ?_ | refine wG (fun h => ?_) fun h => ?_ | refine wH (fun h => ?_) fun h => ?_ | ((first | refine mfork_bool (fun h => ?_) fun h => ?_ | refine mgfork_bool (fun h => ?_) fun h => ?_) <;> simp only [h])) | simp (maxSteps := 4000000) (disch := first | decide | assumption | omega | (simp only [wL]; omega)) only [go_sem, simprocAttr, Tryz.f87])
  have : a ≠ b := fun e => hlen (by rw [e])
  simp [this]
end Go.Proofs.YtfbodefnblpflaaGreatDoor
