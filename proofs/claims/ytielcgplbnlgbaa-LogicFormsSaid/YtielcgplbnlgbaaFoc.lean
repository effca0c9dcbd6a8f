/- Parts of the proof, joined: each part says what it proves, and under which conditions. -/
import Derived.Test.YtielcgplbnlgbaaFob
section
/- Contracts of the document's own functions for filters (2): the conditions that each theorem names. -/
set_option linter.unusedVariables false
set_option linter.unusedSimpArgs false
namespace Go.Proofs.Ytielcgplbnlgbaa

theorem rfit_call (l : List ND) (t : Bool) : MCalls Try.prog 12 [.lst 5 (l.map ND.c) t] St.none (fun r _ => r = .bool (fitS l)) := by
  refine (MCalls.body 31 [.tmp 2] Try.func12 rfl rfl rfl rfl ?_)
  by_cases h63 : l.length ≤ 63 ∧ 0 < l.length
  · have hne : l ≠ [] := fun e => by rw [e] at h63; simp at h63
    repeat' (first | (with_reducible refine use_pure (rend_call _ (by omega) _ _) ?_) | ((with_reducible refine wN fun nl hnl => ?_); revert hnl; (repeat with_reducible refine wS fun _ _ => ?_); intro hnl) | (with_reducible first | refine mdraw_plain mixed (by decide +kernel) ?_ | refine wI (fun h => ?_) (fun h => ?_) | refine wF (fun h => ?_) (fun h => ?_) | refine wG (fun h => ?_) (fun h => ?_) | refine wH (fun h => ?_) (fun h => ?_)) | (with_reducible refine mfork_bool (fun h => ?_) (fun h => ?_) <;> simp only [h]) | (with_reducible refine mgfork_bool (fun h => ?_) (fun h => ?_) <;> simp only [h]) | (simp (config := { maxSteps := 4000000 }) (disch := first | decide | assumption | omega | (simp only [wL]; omega)) only [go_sem, Nat.reduceAdd, Nat.reduceSub, Nat.reduceMul, Nat.reduceDiv, Nat.reduceMod, Nat.reduceLT, Nat.reduceLeDiff, Nat.reduceEqDiff, Nat.reduceSucc, Nat.reduceGT, Int.reduceAdd, Int.reduceSub, Int.reduceMul, Int.reduceNeg, Int.reduceLT, Int.reduceLE, Int.reduceEq, Int.reduceToNat, reduceIte, Try.f12]))
    · simp only [fitS, MV.bool.injEq]
      simp [*]
    · refine mloop_intro (α := Nat) (fun i => ⟨31, [(3, .int .i64 (i : Int)), (0, .lst 5 (l.map ND.c) t)], []⟩) (fun _ => St.none)
        (fun i => i ≤ l.length ∧ (l.take i).all ndOk = true) (fun i => l.length - i) (.of (.less ?_ (St.le_refl _)) ⟨0, rfl, rfl, by simp⟩) ?_
      · simp (config := { maxSteps := 4000000 }) (disch := first | decide | assumption | omega | (simp only [wL]; omega)) only [go_sem, Nat.reduceAdd, Nat.reduceSub, Nat.reduceMul, Nat.reduceDiv, Nat.reduceMod, Nat.reduceLT, Nat.reduceLeDiff, Nat.reduceEqDiff, Nat.reduceSucc, Nat.reduceGT, Int.reduceAdd, Int.reduceSub, Int.reduceMul, Int.reduceNeg, Int.reduceLT, Int.reduceLE, Int.reduceEq, Int.reduceToNat, reduceIte, weak_int, weak_same]
        rfl
      · rintro i ⟨h1, h2⟩
        by_cases hi : i < l.length
        · repeat' (first | (with_reducible refine use_pure (rnode_call _) ?_) | ((with_reducible refine wN fun nl hnl => ?_); revert hnl; (repeat with_reducible refine wS fun _ _ => ?_); intro hnl) | (with_reducible first | refine mdraw_plain mixed (by decide +kernel) ?_ | refine wI (fun h => ?_) (fun h => ?_) | refine wF (fun h => ?_) (fun h => ?_) | refine wG (fun h => ?_) (fun h => ?_) | refine wH (fun h => ?_) (fun h => ?_)) | (with_reducible refine mfork_bool (fun h => ?_) (fun h => ?_) <;> simp only [h]) | (with_reducible refine mgfork_bool (fun h => ?_) (fun h => ?_) <;> simp only [h]) | (simp (config := { maxSteps := 4000000 }) (disch := first | decide | assumption | omega | (simp only [wL]; omega)) only [go_sem, Nat.reduceAdd, Nat.reduceSub, Nat.reduceMul, Nat.reduceDiv, Nat.reduceMod, Nat.reduceLT, Nat.reduceLeDiff, Nat.reduceEqDiff, Nat.reduceSucc, Nat.reduceGT, Int.reduceAdd, Int.reduceSub, Int.reduceMul, Int.reduceNeg, Int.reduceLT, Int.reduceLE, Int.reduceEq, Int.reduceToNat, reduceIte, getD_mapd nd0, ND.c]))
          · have : ¬ ∀ x, x ∈ l → ndOk x = true := fun hall => by
              have := hall _ (getD_mem nd0 hi)
              rw [this] at h
              cases h
            simp only [fitS, MV.bool.injEq]
            rw [eq_comm, Bool.and_eq_false_iff]
            right
            rw [← Bool.not_eq_true, List.all_eq_true]
            exact this
          · refine .of (.less (l1 := [(3, .int .i64 ((i + 1 : Nat) : Int)), (0, .lst 5 (l.map ND.c) t)]) ?_ (St.le_refl _)) ⟨i + 1, rfl, rfl, ⟨by omega, ?_⟩, by omega⟩
            · simp (config := { maxSteps := 4000000 }) (disch := first | decide | assumption | omega | (simp only [wL]; omega)) only [go_sem, Nat.reduceAdd, Nat.reduceSub, Nat.reduceMul, Nat.reduceDiv, Nat.reduceMod, Nat.reduceLT, Nat.reduceLeDiff, Nat.reduceEqDiff, Nat.reduceSucc, Nat.reduceGT, Int.reduceAdd, Int.reduceSub, Int.reduceMul, Int.reduceNeg, Int.reduceLT, Int.reduceLE, Int.reduceEq, Int.reduceToNat, reduceIte, weak_int, weak_same]
              omega
            · rw [all_take_succ hi, h2, ← getD_of_lt nd0 hi]
              simpa using h
        · repeat' (first | ((with_reducible refine wN fun nl hnl => ?_); revert hnl; (repeat with_reducible refine wS fun _ _ => ?_); intro hnl) | (with_reducible first | refine mdraw_plain mixed (by decide +kernel) ?_ | refine wI (fun h => ?_) (fun h => ?_) | refine wF (fun h => ?_) (fun h => ?_) | refine wG (fun h => ?_) (fun h => ?_) | refine wH (fun h => ?_) (fun h => ?_)) | (with_reducible refine mfork_bool (fun h => ?_) (fun h => ?_) <;> simp only [h]) | (with_reducible refine mgfork_bool (fun h => ?_) (fun h => ?_) <;> simp only [h]) | (simp (config := { maxSteps := 4000000 }) (disch := first | decide | assumption | omega | (simp only [wL]; omega)) only [go_sem, Nat.reduceAdd, Nat.reduceSub, Nat.reduceMul, Nat.reduceDiv, Nat.reduceMod, Nat.reduceLT, Nat.reduceLeDiff, Nat.reduceEqDiff, Nat.reduceSucc, Nat.reduceGT, Int.reduceAdd, Int.reduceSub, Int.reduceMul, Int.reduceNeg, Int.reduceLT, Int.reduceLE, Int.reduceEq, Int.reduceToNat, reduceIte]))
          have : i = l.length := by omega
          subst this
          rw [List.take_length] at h2
          simp only [fitS, MV.bool.injEq, h2]
          simp [*, Classical.not_not.1 h]
  · repeat' (first | (with_reducible refine use_pure (rend_call _ (by omega) _ _) ?_) | ((with_reducible refine wN fun nl hnl => ?_); revert hnl; (repeat with_reducible refine wS fun _ _ => ?_); intro hnl) | (with_reducible first | refine mdraw_plain mixed (by decide +kernel) ?_ | refine wI (fun h => ?_) (fun h => ?_) | refine wF (fun h => ?_) (fun h => ?_) | refine wG (fun h => ?_) (fun h => ?_) | refine wH (fun h => ?_) (fun h => ?_)) | (with_reducible refine mfork_bool (fun h => ?_) (fun h => ?_) <;> simp only [h]) | (with_reducible refine mgfork_bool (fun h => ?_) (fun h => ?_) <;> simp only [h]) | (simp (config := { maxSteps := 4000000 }) (disch := first | decide | assumption | omega | (simp only [wL]; omega)) only [go_sem, Nat.reduceAdd, Nat.reduceSub, Nat.reduceMul, Nat.reduceDiv, Nat.reduceMod, Nat.reduceLT, Nat.reduceLeDiff, Nat.reduceEqDiff, Nat.reduceSucc, Nat.reduceGT, Int.reduceAdd, Int.reduceSub, Int.reduceMul, Int.reduceNeg, Int.reduceLT, Int.reduceLE, Int.reduceEq, Int.reduceToNat, reduceIte, Try.f12]))
    all_goals (simp only [fitS, MV.bool.injEq]; rw [eq_comm]; simp only [Bool.and_eq_false_iff, decide_eq_false_iff_not]; left; left)
    · rintro ⟨h1, h2⟩; exact h63 ⟨h2, List.length_pos_iff.2 h1⟩
    · rintro ⟨h1, h2⟩; exact h63 ⟨h2, List.length_pos_iff.2 h1⟩

theorem rahead_call (a b : Int) : MCalls Try.prog 101 [.int .i64 a, .int .i64 b] St.none (fun r _ => r = .int .i64 (ordI (cmpL [a] [b]))) := by
  refine (MCalls.body 11 [.tmp 4] Try.func101 rfl rfl rfl rfl ?_)
  repeat' (first | ((with_reducible refine wN fun nl hnl => ?_); revert hnl; (repeat with_reducible refine wS fun _ _ => ?_); intro hnl) | (with_reducible first | refine mdraw_plain mixed (by decide +kernel) ?_ | refine wI (fun h => ?_) (fun h => ?_) | refine wF (fun h => ?_) (fun h => ?_) | refine wG (fun h => ?_) (fun h => ?_) | refine wH (fun h => ?_) (fun h => ?_)) | (with_reducible refine mfork_bool (fun h => ?_) (fun h => ?_) <;> simp only [h]) | (with_reducible refine mgfork_bool (fun h => ?_) (fun h => ?_) <;> simp only [h]) | (simp (config := { maxSteps := 4000000 }) (disch := first | decide | assumption | omega | (simp only [wL]; omega)) only [go_sem, Nat.reduceAdd, Nat.reduceSub, Nat.reduceMul, Nat.reduceDiv, Nat.reduceMod, Nat.reduceLT, Nat.reduceLeDiff, Nat.reduceEqDiff, Nat.reduceSucc, Nat.reduceGT, Int.reduceAdd, Int.reduceSub, Int.reduceMul, Int.reduceNeg, Int.reduceLT, Int.reduceLE, Int.reduceEq, Int.reduceToNat, reduceIte, Try.f101]))
  all_goals simp [cmpL, ordI, *]

theorem rvcompare_call (a b : VA) (ha : a.s.size ≤ 1000000) (hb : b.s.size ≤ 1000000) : MCalls Try.prog 77 [.agg a.c, .agg b.c] St.none (fun r _ => r = .int .i64 (ordI (cmpL a.key b.key))) := by
  refine (MCalls.body 67 [.tmp 4] Try.func77 rfl rfl rfl rfl ?_)
  repeat' (first | (with_reducible refine use_pure (rahead_call _ _) ?_) | ((with_reducible refine wN fun nl hnl => ?_); revert hnl; (repeat with_reducible refine wS fun _ _ => ?_); intro hnl) | (with_reducible first | refine mdraw_plain mixed (by decide +kernel) ?_ | refine wI (fun h => ?_) (fun h => ?_) | refine wF (fun h => ?_) (fun h => ?_) | refine wG (fun h => ?_) (fun h => ?_) | refine wH (fun h => ?_) (fun h => ?_)) | (with_reducible refine mfork_bool (fun h => ?_) (fun h => ?_) <;> simp only [h]) | (with_reducible refine mgfork_bool (fun h => ?_) (fun h => ?_) <;> simp only [h]) | (simp (config := { maxSteps := 4000000 }) (disch := first | decide | assumption | omega | (simp only [wL]; omega)) only [go_sem, Nat.reduceAdd, Nat.reduceSub, Nat.reduceMul, Nat.reduceDiv, Nat.reduceMod, Nat.reduceLT, Nat.reduceLeDiff, Nat.reduceEqDiff, Nat.reduceSucc, Nat.reduceGT, Int.reduceAdd, Int.reduceSub, Int.reduceMul, Int.reduceNeg, Int.reduceLT, Int.reduceLE, Int.reduceEq, Int.reduceToNat, reduceIte, Try.f77]))
  · rw [show cmpL a.key b.key = cmpL [a.kd] [b.kd] from cmpL_ne h]
  · have h1 := Classical.not_not.1 ‹¬¬a.kd = b.kd›
    have : cmpL a.key b.key = cmpL [a.n] [b.n] := by
      rw [VA.key, VA.key, h1, cmpL_same, cmpL_ne h]
    rw [this]
  · have h1 := Classical.not_not.1 ‹¬¬a.kd = b.kd›
    have h2 := Classical.not_not.1 ‹¬¬a.n = b.n›
    have hk : cmpL a.key b.key = cmpL (bk a.s) (bk b.s) := by
      rw [VA.key, VA.key, h1, cmpL_same, h2, cmpL_same]; rfl
    rw [hk]
    rename_i pa hpa _ _ _
    refine mloop_intro (α := Nat) (fun i => ⟨67, [(5, .int .i64 (i : Int)), (3, .ptr nl 0 0), (2, .ptr pa 0 0)], []⟩) (fun _ => (St.none.set pa (.row 32 3 [a.c])).set nl (.row 32 3 [b.c]))
      (fun i => i ≤ a.s.size ∧ i ≤ b.s.size ∧ cmpL (bk a.s) (bk b.s) = cmpL ((bk a.s).drop i) ((bk b.s).drop i)) (fun i => a.s.size - i) (.of (.less ?_ (St.le_refl _)) ⟨0, rfl, rfl, by simp⟩) ?_
    · simp (config := { maxSteps := 4000000 }) (disch := first | decide | assumption | omega | (simp only [wL]; omega)) only [go_sem, Nat.reduceAdd, Nat.reduceSub, Nat.reduceMul, Nat.reduceDiv, Nat.reduceMod, Nat.reduceLT, Nat.reduceLeDiff, Nat.reduceEqDiff, Nat.reduceSucc, Nat.reduceGT, Int.reduceAdd, Int.reduceSub, Int.reduceMul, Int.reduceNeg, Int.reduceLT, Int.reduceLE, Int.reduceEq, Int.reduceToNat, reduceIte, weak_int, weak_same]
      rfl
    · rintro i ⟨h3, h4, h5⟩
      by_cases hi : i < a.s.size ∧ i < b.s.size
      · obtain ⟨hi1, hi2⟩ := hi
        rw [bk_drop hi1, bk_drop hi2] at h5
        have hc1 : ((a.s.toList.getD i 0).toNat : Int) ≤ 255 := by have := (a.s.toList.getD i 0).toNat_lt; omega
        have hc2 : ((b.s.toList.getD i 0).toNat : Int) ≤ 255 := by have := (b.s.toList.getD i 0).toNat_lt; omega
        have hc3 : 0 ≤ ((a.s.toList.getD i 0).toNat : Int) := by omega
        have hc4 : 0 ≤ ((b.s.toList.getD i 0).toNat : Int) := by omega
        obtain ⟨ca, hca⟩ : ∃ c : Int, ((a.s.toList.getD i 0).toNat : Int) = c := ⟨_, rfl⟩
        obtain ⟨cb, hcb⟩ : ∃ c : Int, ((b.s.toList.getD i 0).toNat : Int) = c := ⟨_, rfl⟩
        rw [hca] at h5 hc1 hc3
        rw [hcb] at h5 hc2 hc4
        by_cases hcc : ca = cb
        · rw [hcc, cmpL_same] at h5
          repeat' (first | ((with_reducible refine wN fun nl hnl => ?_); revert hnl; (repeat with_reducible refine wS fun _ _ => ?_); intro hnl) | (with_reducible first | refine mdraw_plain mixed (by decide +kernel) ?_ | refine wI (fun h => ?_) (fun h => ?_) | refine wF (fun h => ?_) (fun h => ?_) | refine wG (fun h => ?_) (fun h => ?_) | refine wH (fun h => ?_) (fun h => ?_)) | (with_reducible refine mfork_bool (fun h => ?_) (fun h => ?_) <;> simp only [h]) | (with_reducible refine mgfork_bool (fun h => ?_) (fun h => ?_) <;> simp only [h]) | (simp (config := { maxSteps := 4000000 }) (disch := first | decide | assumption | omega | (simp only [wL]; omega)) only [go_sem, Nat.reduceAdd, Nat.reduceSub, Nat.reduceMul, Nat.reduceDiv, Nat.reduceMod, Nat.reduceLT, Nat.reduceLeDiff, Nat.reduceEqDiff, Nat.reduceSucc, Nat.reduceGT, Int.reduceAdd, Int.reduceSub, Int.reduceMul, Int.reduceNeg, Int.reduceLT, Int.reduceLE, Int.reduceEq, Int.reduceToNat, reduceIte, hca, hcb]))
          refine .of (.less (l1 := [(5, .int .i64 ((i + 1 : Nat) : Int)), (3, .ptr nl 0 0), (2, .ptr pa 0 0)]) ?_ (St.le_refl _)) ⟨i + 1, rfl, rfl, ⟨by omega, by omega, h5⟩, by omega⟩
          simp (config := { maxSteps := 4000000 }) (disch := first | decide | assumption | omega | (simp only [wL]; omega)) only [go_sem, Nat.reduceAdd, Nat.reduceSub, Nat.reduceMul, Nat.reduceDiv, Nat.reduceMod, Nat.reduceLT, Nat.reduceLeDiff, Nat.reduceEqDiff, Nat.reduceSucc, Nat.reduceGT, Int.reduceAdd, Int.reduceSub, Int.reduceMul, Int.reduceNeg, Int.reduceLT, Int.reduceLE, Int.reduceEq, Int.reduceToNat, reduceIte, weak_int, weak_same]
          omega
        · repeat' (first | (with_reducible refine mdraw_know mixed (by decide +kernel) (fun g ms => if g = 101 then some ([], fun v => v = .int .i64 (ordI (cmpL [ca] [cb]))) else none) ?_) | (with_reducible refine know_pure rfl (rahead_call _ _) ?_) | ((with_reducible refine wN fun nl hnl => ?_); revert hnl; (repeat with_reducible refine wS fun _ _ => ?_); intro hnl) | (with_reducible first | refine mdraw_plain mixed (by decide +kernel) ?_ | refine wI (fun h => ?_) (fun h => ?_) | refine wF (fun h => ?_) (fun h => ?_) | refine wG (fun h => ?_) (fun h => ?_) | refine wH (fun h => ?_) (fun h => ?_)) | (with_reducible refine mfork_bool (fun h => ?_) (fun h => ?_) <;> simp only [h]) | (with_reducible refine mgfork_bool (fun h => ?_) (fun h => ?_) <;> simp only [h]) | (simp (config := { maxSteps := 4000000 }) (disch := first | decide | assumption | omega | (simp only [wL]; omega)) only [go_sem, Nat.reduceAdd, Nat.reduceSub, Nat.reduceMul, Nat.reduceDiv, Nat.reduceMod, Nat.reduceLT, Nat.reduceLeDiff, Nat.reduceEqDiff, Nat.reduceSucc, Nat.reduceGT, Int.reduceAdd, Int.reduceSub, Int.reduceMul, Int.reduceNeg, Int.reduceLT, Int.reduceLE, Int.reduceEq, Int.reduceToNat, reduceIte, hca, hcb]))
          rw [h5, cmpL_ne (x := (bk a.s).drop (i + 1)) (y := (bk b.s).drop (i + 1)) hcc]
      · have key : cmpL (bk a.s) (bk b.s) = cmpL [(a.s.size : Int)] [(b.s.size : Int)] := by
          rw [h5]
          by_cases h6 : i < a.s.size
          · have h7 : i = b.s.size := by omega
            rw [bk_drop h6, bk_drop_nil (s := b.s) (n := i) (by omega)]
            simp only [cmpL]
            rw [if_neg (by omega), if_pos (by omega)]
          · have h7 : i = a.s.size := by omega
            rw [bk_drop_nil (s := a.s) (n := i) (by omega)]
            by_cases h8 : i < b.s.size
            · rw [bk_drop h8]
              simp only [cmpL]
              rw [if_pos (by omega)]
            · rw [bk_drop_nil (s := b.s) (n := i) (by omega)]
              simp only [cmpL]
              rw [if_neg (by omega), if_neg (by omega)]
        repeat' (first | (with_reducible refine use_pure (rahead_call _ _) ?_) | ((with_reducible refine wN fun nl hnl => ?_); revert hnl; (repeat with_reducible refine wS fun _ _ => ?_); intro hnl) | (with_reducible first | refine mdraw_plain mixed (by decide +kernel) ?_ | refine wI (fun h => ?_) (fun h => ?_) | refine wF (fun h => ?_) (fun h => ?_) | refine wG (fun h => ?_) (fun h => ?_) | refine wH (fun h => ?_) (fun h => ?_)) | (with_reducible refine mfork_bool (fun h => ?_) (fun h => ?_) <;> simp only [h]) | (with_reducible refine mgfork_bool (fun h => ?_) (fun h => ?_) <;> simp only [h]) | (simp (config := { maxSteps := 4000000 }) (disch := first | decide | assumption | omega | (simp only [wL]; omega)) only [go_sem, Nat.reduceAdd, Nat.reduceSub, Nat.reduceMul, Nat.reduceDiv, Nat.reduceMod, Nat.reduceLT, Nat.reduceLeDiff, Nat.reduceEqDiff, Nat.reduceSucc, Nat.reduceGT, Int.reduceAdd, Int.reduceSub, Int.reduceMul, Int.reduceNeg, Int.reduceLT, Int.reduceLE, Int.reduceEq, Int.reduceToNat, reduceIte]))
        all_goals rw [key]

theorem rorder_call (a b : ND) (ha : a.v.s.size ≤ 1000000) (hb : b.v.s.size ≤ 1000000) : MCalls Try.prog 56 [.agg a.c, .agg b.c] St.none (fun r _ => r = .int .i64 (ordI (cmpL a.key b.key))) := by
  refine (MCalls.body 30 [.tmp 4] Try.func56 rfl rfl rfl rfl ?_)
  obtain ⟨ao, an, av⟩ := a
  obtain ⟨bo, bn, bv⟩ := b
  repeat' (first | (with_reducible refine use_pure (rvcompare_call av bv ha hb) ?_) | ((with_reducible refine wN fun nl hnl => ?_); revert hnl; (repeat with_reducible refine wS fun _ _ => ?_); intro hnl) | (with_reducible first | refine mdraw_plain mixed (by decide +kernel) ?_ | refine wI (fun h => ?_) (fun h => ?_) | refine wF (fun h => ?_) (fun h => ?_) | refine wG (fun h => ?_) (fun h => ?_) | refine wH (fun h => ?_) (fun h => ?_)) | (with_reducible refine mfork_bool (fun h => ?_) (fun h => ?_) <;> simp only [h]) | (with_reducible refine mgfork_bool (fun h => ?_) (fun h => ?_) <;> simp only [h]) | (simp (config := { maxSteps := 4000000 }) (disch := first | decide | assumption | omega | (simp only [wL]; omega)) only [go_sem, Nat.reduceAdd, Nat.reduceSub, Nat.reduceMul, Nat.reduceDiv, Nat.reduceMod, Nat.reduceLT, Nat.reduceLeDiff, Nat.reduceEqDiff, Nat.reduceSucc, Nat.reduceGT, Int.reduceAdd, Int.reduceSub, Int.reduceMul, Int.reduceNeg, Int.reduceLT, Int.reduceLE, Int.reduceEq, Int.reduceToNat, reduceIte, Try.f56]))
  all_goals (simp only [ND.key, cmpL, MV.int.injEq, true_and]; repeat' split)
  all_goals first
    | rfl
    | (exfalso; omega)

theorem rcompare_call (a b : List ND) (la : a.length ≤ 1000000) (lb : b.length ≤ 1000000) (ha : ∀ x, x ∈ a → x.v.s.size ≤ 1000000) (hb : ∀ x, x ∈ b → x.v.s.size ≤ 1000000) (ta tb : Bool) :
    MCalls Try.prog 36 [.lst 5 (a.map ND.c) ta, .lst 5 (b.map ND.c) tb] St.none (fun r _ => r = .int .i64 (ordI (cmpF a b))) := by
  refine (MCalls.body 41 [.tmp 4] Try.func36 rfl rfl rfl rfl ?_)
  repeat' (first | ((with_reducible refine wN fun nl hnl => ?_); revert hnl; (repeat with_reducible refine wS fun _ _ => ?_); intro hnl) | (with_reducible first | refine mdraw_plain mixed (by decide +kernel) ?_ | refine wI (fun h => ?_) (fun h => ?_) | refine wF (fun h => ?_) (fun h => ?_) | refine wG (fun h => ?_) (fun h => ?_) | refine wH (fun h => ?_) (fun h => ?_)) | (with_reducible refine mfork_bool (fun h => ?_) (fun h => ?_) <;> simp only [h]) | (with_reducible refine mgfork_bool (fun h => ?_) (fun h => ?_) <;> simp only [h]) | (simp (config := { maxSteps := 4000000 }) (disch := first | decide | assumption | omega | (simp only [wL]; omega)) only [go_sem, Nat.reduceAdd, Nat.reduceSub, Nat.reduceMul, Nat.reduceDiv, Nat.reduceMod, Nat.reduceLT, Nat.reduceLeDiff, Nat.reduceEqDiff, Nat.reduceSucc, Nat.reduceGT, Int.reduceAdd, Int.reduceSub, Int.reduceMul, Int.reduceNeg, Int.reduceLT, Int.reduceLE, Int.reduceEq, Int.reduceToNat, reduceIte, Try.f36]))
  refine mloop_intro (α := Nat) (fun i => ⟨41, [(5, .int .i64 (i : Int)), (0, .lst 5 (a.map ND.c) ta), (1, .lst 5 (b.map ND.c) tb)], []⟩) (fun _ => St.none)
    (fun i => i ≤ a.length ∧ i ≤ b.length ∧ cmpF a b = cmpF (a.drop i) (b.drop i)) (fun i => a.length - i) (.of (.less ?_ (St.le_refl _)) ⟨0, rfl, rfl, by simp⟩) ?_
  · simp (config := { maxSteps := 4000000 }) (disch := first | decide | assumption | omega | (simp only [wL]; omega)) only [go_sem, Nat.reduceAdd, Nat.reduceSub, Nat.reduceMul, Nat.reduceDiv, Nat.reduceMod, Nat.reduceLT, Nat.reduceLeDiff, Nat.reduceEqDiff, Nat.reduceSucc, Nat.reduceGT, Int.reduceAdd, Int.reduceSub, Int.reduceMul, Int.reduceNeg, Int.reduceLT, Int.reduceLE, Int.reduceEq, Int.reduceToNat, reduceIte, weak_int, weak_same]
    rfl
  · rintro i ⟨h3, h4, h5⟩
    by_cases hi : i < a.length ∧ i < b.length
    · obtain ⟨hi1, hi2⟩ := hi
      rw [drop_getD nd0 hi1, drop_getD nd0 hi2, cmpF_cons] at h5
      have hord := rorder_call (a.getD i nd0) (b.getD i nd0) (ha _ (getD_mem nd0 hi1)) (hb _ (getD_mem nd0 hi2))
      generalize ho : cmpL (a.getD i nd0).key (b.getD i nd0).key = o at h5 hord
      by_cases hoe : o = .eq
      · have h0 : ordI o = 0 := by rw [hoe]; rfl
        rw [h0] at hord
        rw [if_pos hoe] at h5
        repeat' (first | (with_reducible refine mdraw_know mixed (by decide +kernel) (fun g ms => if g = 56 then some ([], fun v => v = .int .i64 0) else none) ?_) | (with_reducible refine know_pure rfl hord ?_) | ((with_reducible refine wN fun nl hnl => ?_); revert hnl; (repeat with_reducible refine wS fun _ _ => ?_); intro hnl) | (with_reducible first | refine mdraw_plain mixed (by decide +kernel) ?_ | refine wI (fun h => ?_) (fun h => ?_) | refine wF (fun h => ?_) (fun h => ?_) | refine wG (fun h => ?_) (fun h => ?_) | refine wH (fun h => ?_) (fun h => ?_)) | (with_reducible refine mfork_bool (fun h => ?_) (fun h => ?_) <;> simp only [h]) | (with_reducible refine mgfork_bool (fun h => ?_) (fun h => ?_) <;> simp only [h]) | (simp (config := { maxSteps := 4000000 }) (disch := first | decide | assumption | omega | (simp only [wL]; omega)) only [go_sem, Nat.reduceAdd, Nat.reduceSub, Nat.reduceMul, Nat.reduceDiv, Nat.reduceMod, Nat.reduceLT, Nat.reduceLeDiff, Nat.reduceEqDiff, Nat.reduceSucc, Nat.reduceGT, Int.reduceAdd, Int.reduceSub, Int.reduceMul, Int.reduceNeg, Int.reduceLT, Int.reduceLE, Int.reduceEq, Int.reduceToNat, reduceIte, getD_mapd nd0]))
        refine .of (.less (l1 := [(5, .int .i64 ((i + 1 : Nat) : Int)), (0, .lst 5 (a.map ND.c) ta), (1, .lst 5 (b.map ND.c) tb)]) ?_ (St.le_refl _)) ⟨i + 1, rfl, rfl, ⟨by omega, by omega, h5⟩, by omega⟩
        simp (config := { maxSteps := 4000000 }) (disch := first | decide | assumption | omega | (simp only [wL]; omega)) only [go_sem, Nat.reduceAdd, Nat.reduceSub, Nat.reduceMul, Nat.reduceDiv, Nat.reduceMod, Nat.reduceLT, Nat.reduceLeDiff, Nat.reduceEqDiff, Nat.reduceSucc, Nat.reduceGT, Int.reduceAdd, Int.reduceSub, Int.reduceMul, Int.reduceNeg, Int.reduceLT, Int.reduceLE, Int.reduceEq, Int.reduceToNat, reduceIte, weak_int, weak_same]
        omega
      · have h0 : ordI o ≠ 0 := fun h => hoe (ordI_zero.1 h)
        rw [if_neg hoe] at h5
        rw [h5]
        repeat' (first | (with_reducible refine mdraw_know mixed (by decide +kernel) (fun g ms => if g = 56 then some ([], fun v => v = .int .i64 (ordI o)) else none) ?_) | (with_reducible refine know_pure rfl hord ?_) | ((with_reducible refine wN fun nl hnl => ?_); revert hnl; (repeat with_reducible refine wS fun _ _ => ?_); intro hnl) | (with_reducible first | refine mdraw_plain mixed (by decide +kernel) ?_ | refine wI (fun h => ?_) (fun h => ?_) | refine wF (fun h => ?_) (fun h => ?_) | refine wG (fun h => ?_) (fun h => ?_) | refine wH (fun h => ?_) (fun h => ?_)) | (with_reducible refine mfork_bool (fun h => ?_) (fun h => ?_) <;> simp only [h]) | (with_reducible refine mgfork_bool (fun h => ?_) (fun h => ?_) <;> simp only [h]) | (simp (config := { maxSteps := 4000000 }) (disch := first | decide | assumption | omega | (simp only [wL]; omega)) only [go_sem, Nat.reduceAdd, Nat.reduceSub, Nat.reduceMul, Nat.reduceDiv, Nat.reduceMod, Nat.reduceLT, Nat.reduceLeDiff, Nat.reduceEqDiff, Nat.reduceSucc, Nat.reduceGT, Int.reduceAdd, Int.reduceSub, Int.reduceMul, Int.reduceNeg, Int.reduceLT, Int.reduceLE, Int.reduceEq, Int.reduceToNat, reduceIte, getD_mapd nd0]))
    · by_cases h6 : i < a.length
      · have h7 : i = b.length := by omega
        rw [drop_getD nd0 h6, List.drop_eq_nil_of_le (show b.length ≤ i by omega)] at h5
        repeat' (first | ((with_reducible refine wN fun nl hnl => ?_); revert hnl; (repeat with_reducible refine wS fun _ _ => ?_); intro hnl) | (with_reducible first | refine mdraw_plain mixed (by decide +kernel) ?_ | refine wI (fun h => ?_) (fun h => ?_) | refine wF (fun h => ?_) (fun h => ?_) | refine wG (fun h => ?_) (fun h => ?_) | refine wH (fun h => ?_) (fun h => ?_)) | (with_reducible refine mfork_bool (fun h => ?_) (fun h => ?_) <;> simp only [h]) | (with_reducible refine mgfork_bool (fun h => ?_) (fun h => ?_) <;> simp only [h]) | (simp (config := { maxSteps := 4000000 }) (disch := first | decide | assumption | omega | (simp only [wL]; omega)) only [go_sem, Nat.reduceAdd, Nat.reduceSub, Nat.reduceMul, Nat.reduceDiv, Nat.reduceMod, Nat.reduceLT, Nat.reduceLeDiff, Nat.reduceEqDiff, Nat.reduceSucc, Nat.reduceGT, Int.reduceAdd, Int.reduceSub, Int.reduceMul, Int.reduceNeg, Int.reduceLT, Int.reduceLE, Int.reduceEq, Int.reduceToNat, reduceIte, getD_mapd nd0]))
        all_goals first
          | (rw [h5]; rfl)
          | omega
      · rw [List.drop_eq_nil_of_le (show a.length ≤ i by omega)] at h5
        by_cases h8 : i < b.length
        · rw [drop_getD nd0 h8] at h5
          repeat' (first | ((with_reducible refine wN fun nl hnl => ?_); revert hnl; (repeat with_reducible refine wS fun _ _ => ?_); intro hnl) | (with_reducible first | refine mdraw_plain mixed (by decide +kernel) ?_ | refine wI (fun h => ?_) (fun h => ?_) | refine wF (fun h => ?_) (fun h => ?_) | refine wG (fun h => ?_) (fun h => ?_) | refine wH (fun h => ?_) (fun h => ?_)) | (with_reducible refine mfork_bool (fun h => ?_) (fun h => ?_) <;> simp only [h]) | (with_reducible refine mgfork_bool (fun h => ?_) (fun h => ?_) <;> simp only [h]) | (simp (config := { maxSteps := 4000000 }) (disch := first | decide | assumption | omega | (simp only [wL]; omega)) only [go_sem, Nat.reduceAdd, Nat.reduceSub, Nat.reduceMul, Nat.reduceDiv, Nat.reduceMod, Nat.reduceLT, Nat.reduceLeDiff, Nat.reduceEqDiff, Nat.reduceSucc, Nat.reduceGT, Int.reduceAdd, Int.reduceSub, Int.reduceMul, Int.reduceNeg, Int.reduceLT, Int.reduceLE, Int.reduceEq, Int.reduceToNat, reduceIte, getD_mapd nd0]))
          all_goals first
            | (rw [h5]; rfl)
            | omega
        · rw [List.drop_eq_nil_of_le (show b.length ≤ i by omega)] at h5
          repeat' (first | ((with_reducible refine wN fun nl hnl => ?_); revert hnl; (repeat with_reducible refine wS fun _ _ => ?_); intro hnl) | (with_reducible first | refine mdraw_plain mixed (by decide +kernel) ?_ | refine wI (fun h => ?_) (fun h => ?_) | refine wF (fun h => ?_) (fun h => ?_) | refine wG (fun h => ?_) (fun h => ?_) | refine wH (fun h => ?_) (fun h => ?_)) | (with_reducible refine mfork_bool (fun h => ?_) (fun h => ?_) <;> simp only [h]) | (with_reducible refine mgfork_bool (fun h => ?_) (fun h => ?_) <;> simp only [h]) | (simp (config := { maxSteps := 4000000 }) (disch := first | decide | assumption | omega | (simp only [wL]; omega)) only [go_sem, Nat.reduceAdd, Nat.reduceSub, Nat.reduceMul, Nat.reduceDiv, Nat.reduceMod, Nat.reduceLT, Nat.reduceLeDiff, Nat.reduceEqDiff, Nat.reduceSucc, Nat.reduceGT, Int.reduceAdd, Int.reduceSub, Int.reduceMul, Int.reduceNeg, Int.reduceLT, Int.reduceLE, Int.reduceEq, Int.reduceToNat, reduceIte, getD_mapd nd0]))
          all_goals first
            | (rw [h5]; rfl)
            | omega
end Go.Proofs.Ytielcgplbnlgbaa
end

section
/- Ghost steps for rows whose elements are rows: an element that was grown apart is frozen. -/
set_option linter.unusedVariables false
set_option linter.unusedSimpArgs false
namespace Go.Proofs.Ytielcgplbnlgbaa

theorem Weak.view {σ : St} {m m' : MV} (h : Weak m m') : View σ m m' := by
  cases h with
  | same => exact .same _
  | junk => exact .junk _
  | nil e t => exact .nil e t
  | tight e xs => exact .tight e xs

/-- An element's one cell, grown apart, is frozen. -/
theorem Ghost.nest {n : Nat} {l l1 : List (Nat × MV)} {d : List (FuncId × List MV)} {σ : St} {q m : Nat} {t t1 : TypeId} {e1 : Nat} {pre post ys : List (List MV)} {n1 : Nat} (σ2 : St)
    (hm : σ m = some (.row t1 e1 ys)) (hq : σ q = some (.row t 1 (pre ++ [.vec e1 m 0 n1] :: post))) (hn : n1 = ys.length) (h2 : σ2.le σ) (h2m : σ2 m = none) (hne : q ≠ m)
    (hw : ∀ p, p ∈ l1 → Weak (lget l p.1) p.2) : Ghost ⟨n, l, d⟩ σ ⟨n, l1, d⟩ (σ2.set q (.row t 1 (pre ++ [.lst e1 ys false] :: post))) := by
  subst hn
  have hv : (St.none.set m (.row t1 e1 ys)) m = some (.row t1 e1 ys) := set_hit _ _ _
  refine Ghost.freezeIn (St.none.set m (.row t1 e1 ys)) (St.set_le (St.none_le _) hm) (fun k o1 hk => ?_) (fun k o hk => ?_) fun p hp => (hw p hp).view
  · by_cases h : k = q
    · subst h
      rw [set_hit] at hk
      cases hk
      refine ⟨_, hq, .inr ⟨t, 1, _, _, rfl, rfl, by simp, fun i x x1 hx hx1 => ?_⟩⟩
      rcases Nat.lt_trichotomy i pre.length with hi | hi | hi
      · rw [List.getElem?_append_left hi] at hx hx1
        rw [hx] at hx1; cases hx1
        exact ⟨rfl, fun j a b ha hb => by rw [ha] at hb; cases hb; exact .inl rfl⟩
      · subst hi
        rw [List.getElem?_append_right (Nat.le_refl _), Nat.sub_self] at hx hx1
        simp only [List.getElem?_cons_zero, Option.some.injEq] at hx hx1
        subst hx; subst hx1
        refine ⟨rfl, fun j a b ha hb => ?_⟩
        cases j with
        | zero =>
          simp only [List.getElem?_cons_zero, Option.some.injEq] at ha hb
          subst ha; subst hb
          exact .inr ⟨rfl, .vecAll hv rfl⟩
        | succ j => simp at ha
      · rw [List.getElem?_append_right (by omega)] at hx hx1
        obtain ⟨j, hj⟩ : ∃ j, i - pre.length = j + 1 := ⟨i - pre.length - 1, by omega⟩
        rw [hj, List.getElem?_cons_succ] at hx hx1
        rw [hx] at hx1; cases hx1
        exact ⟨rfl, fun j a b ha hb => by rw [ha] at hb; cases hb; exact .inl rfl⟩
    · rw [set_miss _ _ _ _ h] at hk
      exact ⟨o1, h2 k o1 hk, .inl rfl⟩
  · by_cases h : k = m
    · subst h
      by_cases hq' : k = q
      · exact absurd hq'.symm hne
      · rw [set_miss _ _ _ _ hq', h2m] at hk; cases hk
    · exact set_miss _ _ _ _ h ▸ rfl
/-- A call whose arguments are seen as more than they are: what they lie in is given away. -/
theorem MCalls.pre {P : Program} {g : FuncId} {ms ms' : List MV} {σ σ2 : St} {Q : MV → St → Prop} (hl : ms.length = ms'.length) (hg : Ghost ⟨ms.length, args0 0 ms, []⟩ σ ⟨ms.length, args0 0 ms', []⟩ σ2) (h : MCalls P g ms' σ2 Q) : MCalls P g ms σ Q := by
  refine ⟨h.1, fun Φ w vs hi hr => ?_⟩
  obtain ⟨-, hg⟩ := hg
  obtain ⟨Φ1, i1, r1, s1⟩ := hg Φ w vs hi ⟨hr.1, fun t => by
    simp only [FR.get, args0_get, Nat.sub_zero, Nat.zero_le, if_true]
    cases hm : ms[t]? with
    | none => exact .junk _
    | some m => exact hr.2 t m hm⟩
  refine (h.2 Φ1 w vs i1 ⟨hr.1.trans hl, fun i m hm => ?_⟩).mono ?_
  · have := r1.2 i
    simp only [FR.get, args0_get, Nat.sub_zero, Nat.zero_le, if_true, hm] at this
    exact this
  · rintro e w' ⟨v, mv, σ', Φ', rfl, q1, q2, q3, hq⟩
    exact ⟨v, mv, σ', Φ', rfl, q1, q2, s1.trans q3, hq⟩

theorem mem_args0 : ∀ {ms : List MV} {i : Nat} {p : Nat × MV}, p ∈ args0 i ms → ∃ j, p.1 = i + j ∧ ms[j]? = some p.2
  | [], _, _, h => by simp [args0] at h
  | m :: ms, i, p, h => by
    rw [args0, List.mem_cons] at h
    rcases h with rfl | h
    · exact ⟨0, rfl, rfl⟩
    · obtain ⟨j, h1, h2⟩ := mem_args0 h
      exact ⟨j + 1, by omega, by simpa using h2⟩

theorem use_give {P : Program} {g : FuncId} {ms : List MV} (ms' : List MV) {σ : St} (σv σ2 : St) {r : MV} {k : MV → St → Prop} (h : MCalls P g ms' St.none fun v _ => v = r) (hle : σv.le σ) (h2 : σ2.le σ) (hd : ∀ k o, σ2 k = some o → σv k = none)
    (hl : ms.length = ms'.length) (hv : ∀ (i : Nat) (m m' : MV), ms[i]? = some m → ms'[i]? = some m' → View σv m m') (hk : R (mlet r σ2 k)) : R (mcallE P g ms σ k) := by
  refine MCalls.pre hl (Ghost.freeze σv hle h2 hd fun p hp => ?_) (use_pure h hk)
  obtain ⟨j, h1, h3⟩ := mem_args0 hp
  rw [h1, args0_get]
  simp only [Nat.zero_add, Nat.zero_le, if_true, Nat.sub_zero]
  have hj := (List.getElem?_eq_some_iff.1 h3).1
  obtain ⟨m, hm⟩ : ∃ m, ms[j]? = some m := ⟨ms[j]'(by omega), by simp⟩
  rw [hm]
  exact hv j m _ hm h3

/-- One place is given away. -/
theorem use_give1 {P : Program} {g : FuncId} {ms : List MV} (ms' : List MV) {σ : St} (l : Nat) {o : MObj} {r : MV} {k : MV → St → Prop} (h : MCalls P g ms' St.none fun v _ => v = r) (ho : σ l = some o)
    (hl : ms.length = ms'.length) (hv : ∀ (i : Nat) (m m' : MV), ms[i]? = some m → ms'[i]? = some m' → View (St.none.set l o) m m') (hk : R (mlet r (σ.del l) k)) : R (mcallE P g ms σ k) :=
  use_give ms' (St.none.set l o) (σ.del l) h (St.set_le (St.none_le _) ho) (fun j q hq => by
    simp only [St.del] at hq
    split at hq
    · cases hq
    · exact hq) (fun j q hq => by
    simp only [St.del] at hq
    split at hq
    · cases hq
    · exact set_miss _ _ _ _ (by assumption)) hl hv hk

/-- Nothing is given away. -/
theorem use_weak {P : Program} {g : FuncId} {ms : List MV} (ms' : List MV) {σ : St} {r : MV} {k : MV → St → Prop} (h : MCalls P g ms' St.none fun v _ => v = r)
    (hl : ms.length = ms'.length) (hv : ∀ (i : Nat) (m m' : MV), ms[i]? = some m → ms'[i]? = some m' → View St.none m m') (hk : R (mlet r σ k)) : R (mcallE P g ms σ k) :=
  use_give ms' St.none σ h (St.none_le _) (St.le_refl _) (fun _ _ _ => rfl) hl hv hk

theorem views_one {σ : St} {a a' : MV} (h : View σ a a') : ∀ (i : Nat) (m m' : MV), [a][i]? = some m → [a'][i]? = some m' → View σ m m' := fun i m m' h1 h2 => by
  match i, h1, h2 with
  | 0, h1, h2 => simp only [List.getElem?_cons_zero, Option.some.injEq] at h1 h2; subst h1 h2; exact h
theorem views_two {σ : St} {a b a' b' : MV} (h : View σ a a') (k : View σ b b') : ∀ (i : Nat) (m m' : MV), [a, b][i]? = some m → [a', b'][i]? = some m' → View σ m m' := fun i m m' h1 h2 => by
  match i, h1, h2 with
  | 0, h1, h2 => simp only [List.getElem?_cons_zero, Option.some.injEq] at h1 h2; subst h1 h2; exact h
  | 1, h1, h2 => simp only [List.getElem?_cons_succ, List.getElem?_cons_zero, Option.some.injEq] at h1 h2; subst h1 h2; exact k
theorem views_three {σ : St} {a b c a' b' c' : MV} (h : View σ a a') (k : View σ b b') (k2 : View σ c c') : ∀ (i : Nat) (m m' : MV), [a, b, c][i]? = some m → [a', b', c'][i]? = some m' → View σ m m' := fun i m m' h1 h2 => by
  match i, h1, h2 with
  | 0, h1, h2 => simp only [List.getElem?_cons_zero, Option.some.injEq] at h1 h2; subst h1 h2; exact h
  | 1, h1, h2 => simp only [List.getElem?_cons_succ, List.getElem?_cons_zero, Option.some.injEq] at h1 h2; subst h1 h2; exact k
  | 2, h1, h2 => simp only [List.getElem?_cons_succ, List.getElem?_cons_zero, Option.some.injEq] at h1 h2; subst h1 h2; exact k2
end Go.Proofs.Ytielcgplbnlgbaa
end

section
/- What filters say; their atoms in order, each once. No program in sight. -/
set_option linter.unusedVariables false
set_option linter.unusedSimpArgs false
namespace Go.Proofs.Ytielcgplbnlgbaa

def isAtom (x : ND) : Bool := decide (parts x.op = 0 ∧ x.op ≠ 1 ∧ x.op ≠ 2)
def atomR (x : ND) : Bool := decide (3 ≤ x.op ∧ x.op ≤ 9)

theorem atom_same {x : ND} (h : ndOk x = true) : isAtom x = atomR x := by
  have hr := op_range h
  unfold isAtom atomR parts
  rw [Bool.eq_iff_iff, decide_eq_true_eq, decide_eq_true_eq]
  constructor
  · rintro ⟨h1, h2, h3⟩
    split at h1
    · cases h1
    · split at h1
      · cases h1
      · omega
  · intro h1
    rw [if_neg (by omega), if_neg (by omega)]
    omega

/-- What a tree says, its atoms asked. -/
def T.sem (as : ND → Bool) : T → Bool
  | .leaf x => if x.op = 1 then true else if x.op = 2 then false else as x
  | .one x a => !a.sem as
  | .two x a b => if x.op = 11 then a.sem as && b.sem as else a.sem as || b.sem as

theorem sem_congr {as as' : ND → Bool} : ∀ (t : T), t.ok → (∀ x, x ∈ t.fl → isAtom x = true → as x = as' x) → t.sem as = t.sem as'
  | .leaf x, hok, h => by
    simp only [T.sem]
    split
    · rfl
    · split
      · rfl
      · exact h x (by simp [T.fl]) (by simp only [isAtom, decide_eq_true_eq]; exact ⟨hok, by assumption, by assumption⟩)
  | .one x a, hok, h => by
    simp only [T.sem]
    rw [sem_congr a hok.2 fun y hy => h y (by simp only [T.fl, List.mem_cons]; exact .inr hy)]
  | .two x a b, hok, h => by
    simp only [T.sem]
    rw [sem_congr a hok.2.1 fun y hy => h y (by simp only [T.fl, List.mem_cons, List.mem_append]; exact .inr (.inl hy)), sem_congr b hok.2.2 fun y hy => h y (by simp only [T.fl, List.mem_cons, List.mem_append]; exact .inr (.inr hy))]

/-! ### In order, each once -/
def insN (x : ND) : List ND → List ND
  | [] => [x]
  | y :: r => if lessK y.key x.key then y :: insN x r else if y = x then y :: r else x :: y :: r

theorem insN_key (x : ND) : ∀ l : List ND, (insN x l).map ND.key = insK x.key (l.map ND.key)
  | [] => rfl
  | y :: r => by
    simp only [insN, List.map_cons, insK]
    split
    · rw [List.map_cons, insN_key x r]
    · split
      · rename_i h; subst h; simp
      · rw [if_neg (fun e => by have := ND.key_inj e; contradiction)]
        rfl

def atomsS (l : List ND) : List ND := (l.filter isAtom).foldl (fun acc x => insN x acc) []

theorem fold_rising : ∀ (l acc : List ND), Rising (acc.map ND.key) → Rising ((l.foldl (fun acc x => insN x acc) acc).map ND.key)
  | [], acc, h => h
  | x :: r, acc, h => fold_rising r (insN x acc) (by rw [insN_key]; exact rising_insK h)

theorem mem_insN {x z : ND} : ∀ {l : List ND}, z ∈ insN x l ↔ z = x ∨ z ∈ l
  | [] => by simp [insN]
  | y :: r => by
    unfold insN
    split
    · rw [List.mem_cons, mem_insN, List.mem_cons]
      constructor
      · rintro (h | h | h)
        · exact .inr (.inl h)
        · exact .inl h
        · exact .inr (.inr h)
      · rintro (h | h | h)
        · exact .inr (.inl h)
        · exact .inl h
        · exact .inr (.inr h)
    · split
      · rename_i h; subst h; simp
      · simp

theorem mem_fold {z : ND} : ∀ {l acc : List ND}, z ∈ l.foldl (fun acc x => insN x acc) acc ↔ z ∈ l ∨ z ∈ acc
  | [], acc => by simp
  | x :: r, acc => by
    rw [List.foldl_cons, mem_fold, mem_insN, List.mem_cons]
    constructor
    · rintro (h | h | h)
      · exact .inl (.inr h)
      · exact .inl (.inl h)
      · exact .inr h
    · rintro ((h | h) | h)
      · exact .inr (.inl h)
      · exact .inl h
      · exact .inr (.inr h)

theorem atoms_rising (l : List ND) : Rising ((atomsS l).map ND.key) := fold_rising _ [] (by simp [Rising])
theorem mem_atoms {l : List ND} {z : ND} : z ∈ atomsS l ↔ z ∈ l ∧ isAtom z = true := by
  rw [atomsS, mem_fold, List.mem_filter]; simp

theorem nd_unique {l m : List ND} (h1 : Rising (l.map ND.key)) (h2 : Rising (m.map ND.key)) (h : ∀ x, x ∈ l ↔ x ∈ m) : l = m := by
  have := rising_unique h1 h2 fun k => by
    simp only [List.mem_map]
    constructor
    · rintro ⟨x, hx, rfl⟩; exact ⟨x, (h x).1 hx, rfl⟩
    · rintro ⟨x, hx, rfl⟩; exact ⟨x, (h x).2 hx, rfl⟩
  exact (List.map_inj_right (fun _ _ e => ND.key_inj e)).1 this

/-- Of neighbours that are alike the first. -/
def compS : List ND → List ND
  | [] => []
  | [x] => [x]
  | x :: y :: r => if y = x then compS (x :: r) else x :: compS (y :: r)

theorem compS_snoc : ∀ (n : Nat) (l : List ND), l.length ≤ n → ∀ y x, compS (l ++ [y, x]) = if x = y then compS (l ++ [y]) else compS (l ++ [y]) ++ [x]
  | _, [], _, y, x => by
    simp only [List.nil_append, compS]
    split <;> rfl
  | n, [z], _, y, x => by
    by_cases h1 : y = z <;> by_cases h2 : x = y
    · subst h1 h2; simp [compS]
    · subst h1; simp [compS, h2]
    · subst h2; simp [compS, h1]
    · simp [compS, h1, h2]
  | 0, _ :: _ :: _, h, _, _ => by simp at h
  | n + 1, z :: w :: r, h, y, x => by
    simp only [List.length_cons] at h
    have e1 := compS_snoc n (z :: r) (by simp; omega) y x
    have e2 := compS_snoc n (w :: r) (by simp; omega) y x
    simp only [List.cons_append] at e1 e2 ⊢
    by_cases hwz : w = z
    · have a : ∀ t, compS (z :: w :: t) = compS (z :: t) := fun t => by rw [compS, if_pos hwz]
      rw [a, a, e1]
    · have a : ∀ t, compS (z :: w :: t) = z :: compS (w :: t) := fun t => by rw [compS, if_neg hwz]
      rw [a, a, e2]
      split <;> simp

/-- None is less than one ahead. -/
def Sorted (l : List ND) : Prop := l.Pairwise fun a b => ¬ lessK b.key a.key

theorem mem_compS : ∀ (n : Nat) (l : List ND), l.length ≤ n → ∀ z, z ∈ compS l ↔ z ∈ l
  | 0, l, h, z => by
    have : l = [] := List.eq_nil_of_length_eq_zero (by omega)
    subst this; simp [compS]
  | n + 1, [], h, z => by simp [compS]
  | n + 1, [x], h, z => by simp [compS]
  | n + 1, x :: y :: r, h, z => by
    simp only [List.length_cons] at h
    unfold compS
    split
    · rename_i e; subst e
      rw [mem_compS n (y :: r) (by simp; omega)]
      simp
    · rw [List.mem_cons, mem_compS n (y :: r) (by simp; omega)]
      simp only [List.mem_cons]

theorem compS_rising : ∀ (n : Nat) (l : List ND), l.length ≤ n → Sorted l → Rising ((compS l).map ND.key)
  | 0, l, h, _ => by
    have : l = [] := List.eq_nil_of_length_eq_zero (by omega)
    subst this; simp [compS, Rising]
  | n + 1, [], h, _ => by simp [compS, Rising]
  | n + 1, [x], h, _ => by simp [compS, Rising]
  | n + 1, x :: y :: r, h, hs => by
    simp only [List.length_cons] at h
    obtain ⟨h1, h2⟩ := List.pairwise_cons.1 hs
    unfold compS
    split
    · rename_i e; subst e
      exact compS_rising n (y :: r) (by simp; omega) h2
    · rename_i hne
      have ih := compS_rising n (y :: r) (by simp; omega) h2
      rw [List.map_cons]
      refine List.pairwise_cons.2 ⟨fun k hk => ?_, ih⟩
      obtain ⟨z, hz, rfl⟩ := List.mem_map.1 hk
      have hz' := (mem_compS n (y :: r) (by simp; omega) z).1 hz
      have hxy : lessK x.key y.key := lessK_total (h1 y (List.mem_cons_self ..)) (fun e => hne (ND.key_inj e))
      rcases List.mem_cons.1 hz' with rfl | hz'
      · exact hxy
      · have h3 := (List.pairwise_cons.1 h2).1 z hz'
        by_cases e : y.key = z.key
        · rw [← e]; exact hxy
        · exact lessK_trans hxy (lessK_total h3 (fun q => e q.symm))

/-- The sorted list, each once, of the atoms. -/
theorem comp_atoms {l m : List ND} (hp : m.Perm (l.filter isAtom)) (hs : Sorted m) : compS m = atomsS l :=
  nd_unique (compS_rising m.length m (Nat.le_refl _) hs) (atoms_rising l) fun x => by
    rw [mem_compS m.length m (Nat.le_refl _), hp.mem_iff, mem_atoms, List.mem_filter]
end Go.Proofs.Ytielcgplbnlgbaa
end

section
/- Words and tables of bits; what trees say of sets of atoms. No program in sight. -/
set_option linter.unusedVariables false
set_option linter.unusedSimpArgs false
namespace Go.Proofs.Ytielcgplbnlgbaa

/-- The word whose bits are told. -/
def wd (g : Nat → Bool) : Nat → Nat
  | 0 => 0
  | n + 1 => wd g n ||| (if g n = true then 2 ^ n else 0)

theorem wd_bit (g : Nat → Bool) : ∀ (n j : Nat), (wd g n).testBit j = (decide (j < n) && g j)
  | 0, j => by simp [wd]
  | n + 1, j => by
    rw [wd, Nat.testBit_or, wd_bit g n j]
    have e : (if g n = true then 2 ^ n else 0 : Nat).testBit j = (decide (j = n) && g n) := by
      cases g n
      · simp
      · simp only [if_true, Nat.testBit_two_pow, Bool.and_true]
        exact decide_eq_decide.mpr ⟨fun h => h.symm, fun h => h.symm⟩
    rw [e]
    by_cases h : j = n
    · subst h; simp
    · have : decide (j < n + 1) = decide (j < n) := decide_eq_decide.mpr ⟨fun _ => by omega, fun _ => by omega⟩
      rw [this]
      simp [h]

theorem wd_lt (g : Nat → Bool) : ∀ n, wd g n < 2 ^ n
  | 0 => by simp [wd]
  | n + 1 => by
    rw [wd]
    refine Nat.or_lt_two_pow (Nat.lt_of_lt_of_le (wd_lt g n) (Nat.pow_le_pow_right (by omega) (by omega))) ?_
    split
    · exact Nat.pow_lt_pow_right (by omega) (by omega)
    · exact Nat.two_pow_pos _

theorem wd_ext {g h : Nat → Bool} {n : Nat} (e : ∀ j, j < n → g j = h j) : wd g n = wd h n := by
  refine Nat.eq_of_testBit_eq fun j => ?_
  rw [wd_bit, wd_bit]
  by_cases hj : j < n
  · rw [e j hj]
  · simp [hj]

theorem wd_and (g h : Nat → Bool) (n : Nat) : wd g n &&& wd h n = wd (fun j => g j && h j) n := by
  refine Nat.eq_of_testBit_eq fun j => ?_
  rw [Nat.testBit_and, wd_bit, wd_bit, wd_bit]
  cases decide (j < n) <;> simp

theorem wd_or (g h : Nat → Bool) (n : Nat) : wd g n ||| wd h n = wd (fun j => g j || h j) n := by
  refine Nat.eq_of_testBit_eq fun j => ?_
  rw [Nat.testBit_or, wd_bit, wd_bit, wd_bit]
  cases decide (j < n) <;> simp

theorem wd_not (g : Nat → Bool) (n : Nat) : (2 ^ n - 1) ^^^ wd g n = wd (fun j => !g j) n := by
  refine Nat.eq_of_testBit_eq fun j => ?_
  rw [Nat.testBit_xor, wd_bit, wd_bit, Nat.testBit_two_pow_sub_one]
  cases decide (j < n) <;> simp

theorem wd_zero (n : Nat) : wd (fun _ => false) n = 0 := by
  refine Nat.eq_of_testBit_eq fun j => ?_
  rw [wd_bit]; simp

theorem wd_ones (n : Nat) : wd (fun _ => true) n = 2 ^ n - 1 := by
  refine Nat.eq_of_testBit_eq fun j => ?_
  rw [wd_bit, Nat.testBit_two_pow_sub_one]; simp

theorem wd_inj {g h : Nat → Bool} {n : Nat} (e : wd g n = wd h n) : ∀ j, j < n → g j = h j := fun j hj => by
  have := congrArg (·.testBit j) e
  simpa [wd_bit, hj] using this

theorem wd_iff0 {g : Nat → Bool} {n : Nat} : wd g n = 0 ↔ ∀ j, j < n → g j = false :=
  ⟨fun h => wd_inj (h.trans (wd_zero n).symm), fun h => (wd_ext h).trans (wd_zero n)⟩

/-- A table's word. -/
def tw (f : Nat → Bool) (i : Nat) : Nat := wd (fun j => f (64 * i + j)) 64
theorem tw_lt (f : Nat → Bool) (i : Nat) : tw f i < 18446744073709551616 := wd_lt _ 64
theorem tw_all {f g : Nat → Bool} : (∀ i, i < 16 → tw f i = tw g i) ↔ ∀ on, on < 1024 → f on = g on := by
  constructor
  · intro h on hon
    have := wd_inj (h (on / 64) (by omega)) (on % 64) (by omega)
    rwa [show 64 * (on / 64) + on % 64 = on by omega] at this
  · intro h i hi
    exact wd_ext fun j hj => h _ (by omega)
theorem tw_le {f g : Nat → Bool} : (∀ i, i < 16 → wd (fun j => f (64 * i + j) && !g (64 * i + j)) 64 = 0) ↔ ∀ on, on < 1024 → f on = true → g on = true := by
  constructor
  · intro h on hon hf
    have := wd_iff0.1 (h (on / 64) (by omega)) (on % 64) (by omega)
    rw [show 64 * (on / 64) + on % 64 = on by omega, hf] at this
    simpa using this
  · intro h i hi
    refine wd_iff0.2 fun j hj => ?_
    have := h (64 * i + j) (by omega)
    cases hf : f (64 * i + j)
    · rfl
    · rw [this hf]; rfl

theorem add_bit {i j p : Nat} (hj : j < 64) : (64 * i + j).testBit p = if p < 6 then j.testBit p else i.testBit (p - 6) := by
  rw [show 64 = 2 ^ 6 from rfl, Nat.testBit_two_pow_mul_add (j := p) (b := j) (i := 6) i hj]

/-- Place of an atom, sets of atoms. -/
def posK (l : List ND) (x : ND) : Nat := l.findIdx fun y => !decide (lessK y.key x.key)
def asg (l : List ND) (on : Nat) (x : ND) : Bool := decide (x ∈ l) && on.testBit (posK l x)

theorem posK_lt {l : List ND} (h : Rising (l.map ND.key)) {x : ND} (hx : x ∈ l) : posK l x < l.length :=
  List.findIdx_lt_length_of_exists ⟨x, hx, by simp [lessK_irrefl]⟩

theorem asg_mod {l : List ND} (h : Rising (l.map ND.key)) {n : Nat} (hn : l.length ≤ n) (on : Nat) (x : ND) : asg l (on % 2 ^ n) x = asg l on x := by
  unfold asg
  by_cases hx : x ∈ l
  · have := posK_lt h hx
    rw [Nat.testBit_mod_two_pow]
    simp [show posK l x < n by omega]
  · simp [hx]

theorem sem_mod {l : List ND} (h : Rising (l.map ND.key)) {n : Nat} (hn : l.length ≤ n) (on : Nat) (t : T) : t.sem (asg l (on % 2 ^ n)) = t.sem (asg l on) := by
  rw [show asg l (on % 2 ^ n) = asg l on from funext fun x => asg_mod h hn on x]

theorem all_mod {l : List ND} (h : Rising (l.map ND.key)) (hl : l.length ≤ 10) {p : Nat → Bool} (hp : ∀ on, p (on % 2 ^ l.length) = p on) : (∀ on, on < 1024 → p on = true) ↔ ∀ on, on < 2 ^ l.length → p on = true := by
  have h1 : 2 ^ l.length ≤ 1024 := by
    have := Nat.pow_le_pow_right (n := 2) (by omega) hl
    simpa using this
  constructor
  · exact fun k on hon => k on (by omega)
  · exact fun k on _ => by rw [← hp]; exact k _ (Nat.mod_lt _ (Nat.two_pow_pos _))

/-- What Implies tells of two trees that are fit, with not too many atoms. -/
def impB (l : List ND) (s t : T) : Bool := decide (∀ on, on < 2 ^ l.length → (!s.sem (asg l on) || t.sem (asg l on)) = true)
theorem impB_1024 {l : List ND} (h : Rising (l.map ND.key)) (hl : l.length ≤ 10) (s t : T) : impB l s t = (List.range 1024).all fun on => !s.sem (asg l on) || t.sem (asg l on) := by
  unfold impB
  rw [Bool.eq_iff_iff, decide_eq_true_eq, List.all_eq_true, ← all_mod h hl (p := fun on => !s.sem (asg l on) || t.sem (asg l on)) (fun on => by simp only [sem_mod h (Nat.le_refl _)])]
  simp only [List.mem_range]
end Go.Proofs.Ytielcgplbnlgbaa
end

section
/- Forms of filters. No program in sight. -/
set_option linter.unusedVariables false
set_option linter.unusedSimpArgs false
namespace Go.Proofs.Ytielcgplbnlgbaa

def nd (op : Int) : ND := ⟨op, 0, va0⟩
def T.root : T → ND
  | .leaf x => x
  | .one x _ => x
  | .two x _ _ => x
def T.kids : T → List T
  | .leaf _ => []
  | .one _ a => [a]
  | .two _ a b => [a, b]

theorem T.fl_kids (t : T) : t.fl = t.root :: (t.kids.map T.fl).flatten := by cases t <;> simp [T.fl, T.kids, T.root]
theorem T.ok_kids {t : T} (h : t.ok) : t.kids.length = parts t.root.op ∧ ∀ k, k ∈ t.kids → k.ok := by
  cases t with
  | leaf x => simp only [T.ok] at h; simp [T.kids, T.root, h]
  | one x a => simp only [T.ok] at h; simp [T.kids, T.root, h.1, h.2]
  | two x a b => simp only [T.ok] at h; simp [T.kids, T.root, h.1, h.2.1, h.2.2]

/-- What a tree's nodes say tells the tree. -/
theorem fl_inj : ∀ (t u : T) (r s : List ND), t.ok → u.ok → t.fl ++ r = u.fl ++ s → t = u ∧ r = s
  | .leaf x, .leaf y, r, s, ht, hu, h => by simp only [T.fl, List.cons_append, List.nil_append, List.cons.injEq] at h; exact ⟨by rw [h.1], h.2⟩
  | .leaf x, .one y b, r, s, ht, hu, h => by simp only [T.fl, List.cons_append, List.cons.injEq] at h; simp only [T.ok] at ht hu; rw [h.1] at ht; omega
  | .leaf x, .two y b c, r, s, ht, hu, h => by simp only [T.fl, List.cons_append, List.cons.injEq] at h; simp only [T.ok] at ht hu; rw [h.1] at ht; omega
  | .one x a, .leaf y, r, s, ht, hu, h => by simp only [T.fl, List.cons_append, List.cons.injEq] at h; simp only [T.ok] at ht hu; rw [h.1] at ht; omega
  | .one x a, .one y b, r, s, ht, hu, h => by
    simp only [T.fl, List.cons_append, List.cons.injEq] at h
    obtain ⟨e1, e2⟩ := fl_inj a b r s ht.2 hu.2 h.2
    exact ⟨by rw [h.1, e1], e2⟩
  | .one x a, .two y b c, r, s, ht, hu, h => by simp only [T.fl, List.cons_append, List.cons.injEq] at h; simp only [T.ok] at ht hu; rw [h.1] at ht; omega
  | .two x a a', .leaf y, r, s, ht, hu, h => by simp only [T.fl, List.cons_append, List.cons.injEq] at h; simp only [T.ok] at ht hu; rw [h.1] at ht; omega
  | .two x a a', .one y b, r, s, ht, hu, h => by simp only [T.fl, List.cons_append, List.cons.injEq] at h; simp only [T.ok] at ht hu; rw [h.1] at ht; omega
  | .two x a a', .two y b b', r, s, ht, hu, h => by
    simp only [T.fl, List.cons_append, List.cons.injEq, List.append_assoc] at h
    obtain ⟨e1, e2⟩ := fl_inj a b _ _ ht.2.1 hu.2.1 h.2
    obtain ⟨e3, e4⟩ := fl_inj a' b' r s ht.2.2 hu.2.2 e2
    exact ⟨by rw [h.1, e1, e3], e4⟩

theorem fl_eq {t u : T} (ht : t.ok) (hu : u.ok) (h : t.fl = u.fl) : t = u := (fl_inj t u [] [] ht hu (by rw [h])).1

/-! ### The order of filters -/
theorem cmpF_eq : ∀ {a b : List ND}, cmpF a b = .eq ↔ a = b
  | [], [] => by simp [cmpF]
  | [], _ :: _ => by simp [cmpF]
  | _ :: _, [] => by simp [cmpF]
  | a :: x, b :: y => by
    rw [cmpF_cons]
    constructor
    · intro h
      split at h
      · rename_i h1; rw [ND.key_inj (cmpL_eq.1 h1), cmpF_eq.1 h]
      · contradiction
    · intro h
      simp only [List.cons.injEq] at h
      rw [h.1, h.2, if_pos (cmpL_refl _)]
      exact cmpF_eq.2 rfl

theorem cmpF_swap : ∀ {a b : List ND}, cmpF a b = (cmpF b a).swap
  | [], [] => rfl
  | [], _ :: _ => rfl
  | _ :: _, [] => rfl
  | a :: x, b :: y => by
    rw [cmpF_cons, cmpF_cons, cmpL_swap]
    by_cases h : cmpL b.key a.key = .eq
    · rw [h]; simp [Ordering.swap]; exact cmpF_swap
    · rw [if_neg h, if_neg (fun e => h (by cases hq : cmpL b.key a.key <;> rw [hq] at e <;> simp_all [Ordering.swap]))]

theorem cmpF_trans : ∀ {a b c : List ND}, cmpF a b = .lt → cmpF b c = .lt → cmpF a c = .lt
  | [], [], _, h, _ => by simp [cmpF] at h
  | _ :: _, [], _, h, _ => by simp [cmpF] at h
  | [], _ :: _, [], _, h => by simp [cmpF] at h
  | [], _ :: _, _ :: _, _, _ => rfl
  | _ :: _, _ :: _, [], _, h => by simp [cmpF] at h
  | a :: x, b :: y, c :: z, h, k => by
    rw [cmpF_cons] at h k ⊢
    by_cases h1 : cmpL a.key b.key = .eq
    · rw [if_pos h1] at h
      rw [cmpL_eq.1 h1]
      by_cases h2 : cmpL b.key c.key = .eq
      · rw [if_pos h2] at k ⊢; exact cmpF_trans h k
      · rw [if_neg h2] at k ⊢; exact k
    · rw [if_neg h1] at h
      by_cases h2 : cmpL b.key c.key = .eq
      · rw [← cmpL_eq.1 h2, if_neg h1]; exact h
      · rw [if_neg h2] at k
        have := cmpL_trans h k
        rw [if_neg (by rw [this]; simp)]; exact this

def lessF (a b : T) : Prop := cmpF a.fl b.fl = .lt
theorem lessF_irrefl {a : T} : ¬ lessF a a := by unfold lessF; rw [cmpF_eq.2 rfl]; simp
theorem lessF_trans {a b c : T} (h : lessF a b) (k : lessF b c) : lessF a c := cmpF_trans h k
theorem lessF_asymm {a b : T} (h : lessF a b) : ¬ lessF b a := fun k => lessF_irrefl (lessF_trans h k)
theorem cmpF_gt {a b : T} : cmpF a.fl b.fl = .gt ↔ lessF b a := by
  unfold lessF; rw [cmpF_swap]; cases cmpF b.fl a.fl <;> simp [Ordering.swap]

/-- In order, each once. -/
def RisF (l : List T) : Prop := l.Pairwise lessF

theorem risF_unique : ∀ {l m : List T}, RisF l → RisF m → (∀ x, x ∈ l ↔ x ∈ m) → l = m
  | [], [], _, _, _ => rfl
  | [], y :: m, _, _, h => absurd ((h y).2 (List.mem_cons_self ..)) (by simp)
  | x :: l, [], _, _, h => absurd ((h x).1 (List.mem_cons_self ..)) (by simp)
  | x :: l, y :: m, h1, h2, h => by
    obtain ⟨a1, a2⟩ := List.pairwise_cons.1 h1
    obtain ⟨b1, b2⟩ := List.pairwise_cons.1 h2
    have e : x = y := by
      rcases List.mem_cons.1 ((h x).1 (List.mem_cons_self ..)) with e | hx
      · exact e
      · rcases List.mem_cons.1 ((h y).2 (List.mem_cons_self ..)) with e | hy
        · exact e.symm
        · exact absurd (a1 y hy) (lessF_asymm (b1 x hx))
    subst e
    rw [risF_unique a2 b2 fun z => ?_]
    constructor
    · intro hz
      rcases List.mem_cons.1 ((h z).1 (List.mem_cons_of_mem _ hz)) with e | hz'
      · subst e; exact absurd (a1 z hz) lessF_irrefl
      · exact hz'
    · intro hz
      rcases List.mem_cons.1 ((h z).2 (List.mem_cons_of_mem _ hz)) with e | hz'
      · subst e; exact absurd (b1 z hz) lessF_irrefl
      · exact hz'

/-- A list with one more, if it is not there: as the document goes through it. -/
def insT (x : T) : Bool → List T → List T
  | d, [] => if d = true then [] else [x]
  | d, y :: r => (if d = false ∧ cmpF x.fl y.fl ≠ .gt then [x] else []) ++ ((if cmpF x.fl y.fl ≠ .eq then [y] else []) ++ insT x (d || decide (cmpF x.fl y.fl ≠ .gt)) r)

theorem insT_past {x : T} : ∀ {l : List T}, (∀ y, y ∈ l → lessF x y) → insT x true l = l
  | [], _ => rfl
  | y :: r, h => by
    have hy : cmpF x.fl y.fl = .lt := h y (List.mem_cons_self ..)
    simp only [insT, hy]
    rw [if_neg (by simp), if_pos (by simp), Bool.true_or, insT_past fun z hz => h z (List.mem_cons_of_mem _ hz)]
    rfl

theorem insT_rising {x : T} (hx : x.ok) : ∀ {l : List T}, (∀ y, y ∈ l → y.ok) → RisF l → RisF (insT x false l) ∧ ∀ z, z ∈ insT x false l ↔ z = x ∨ z ∈ l
  | [], _, _ => by simp [insT, RisF]
  | y :: r, ho, h => by
    obtain ⟨h1, h2⟩ := List.pairwise_cons.1 h
    have hr := fun z hz => ho z (List.mem_cons_of_mem _ hz)
    cases hc : cmpF x.fl y.fl with
    | lt =>
      have e : insT x false (y :: r) = x :: y :: r := by
        simp only [insT, hc]
        rw [if_pos (by simp), if_pos (by simp)]
        rw [show (false || decide (Ordering.lt ≠ .gt)) = true by decide, insT_past fun z hz => lessF_trans hc (h1 z hz)]
        rfl
      rw [e]
      refine ⟨List.pairwise_cons.2 ⟨fun z hz => ?_, h⟩, fun z => by simp⟩
      rcases List.mem_cons.1 hz with rfl | hz
      · exact hc
      · exact lessF_trans hc (h1 z hz)
    | eq =>
      have exy := fl_eq hx (ho y (List.mem_cons_self ..)) (cmpF_eq.1 hc)
      subst exy
      have e : insT x false (x :: r) = x :: r := by
        simp only [insT, hc]
        rw [if_pos (by simp), if_neg (by simp)]
        rw [show (false || decide (Ordering.eq ≠ .gt)) = true by decide, insT_past h1]
        rfl
      rw [e]
      exact ⟨h, fun z => by simp⟩
    | gt =>
      have e : insT x false (y :: r) = y :: insT x false r := by
        simp only [insT, hc]
        rw [if_neg (by simp), if_pos (by simp)]
        rfl
      obtain ⟨i1, i2⟩ := insT_rising hx hr h2
      rw [e]
      refine ⟨List.pairwise_cons.2 ⟨fun z hz => ?_, i1⟩, fun z => ?_⟩
      · rcases (i2 z).1 hz with rfl | hz
        · exact cmpF_gt.1 hc
        · exact h1 z hz
      · rw [List.mem_cons, i2, List.mem_cons]
        constructor
        · rintro (h | h | h)
          · exact .inr (.inl h)
          · exact .inl h
          · exact .inr (.inr h)
        · rintro (h | h | h)
          · exact .inr (.inl h)
          · exact .inl h
          · exact .inr (.inr h)

def sortT (p : List T) : List T := p.foldl (fun acc x => insT x false acc) []
theorem foldT_aux : ∀ (p acc : List T), (∀ y, y ∈ p → y.ok) → (∀ y, y ∈ acc → y.ok) → RisF acc → RisF (p.foldl (fun acc x => insT x false acc) acc) ∧ ∀ z, z ∈ p.foldl (fun acc x => insT x false acc) acc ↔ z ∈ p ∨ z ∈ acc
  | [], acc, _, _, h => ⟨h, fun z => by simp⟩
  | x :: p, acc, hp, ha, h => by
    obtain ⟨i1, i2⟩ := insT_rising (hp x (List.mem_cons_self ..)) ha h
    obtain ⟨j1, j2⟩ := foldT_aux p (insT x false acc) (fun y hy => hp y (List.mem_cons_of_mem _ hy)) (fun y hy => ((i2 y).1 hy).elim (fun e => e ▸ hp x (List.mem_cons_self ..)) (ha y)) i1
    refine ⟨j1, fun z => ?_⟩
    rw [List.foldl_cons, j2, i2, List.mem_cons]
    constructor
    · rintro (h | h | h)
      · exact .inl (.inr h)
      · exact .inl (.inl h)
      · exact .inr h
    · rintro ((h | h) | h)
      · exact .inr (.inl h)
      · exact .inl h
      · exact .inr (.inr h)
theorem sortT_rising {p : List T} (hp : ∀ y, y ∈ p → y.ok) : RisF (sortT p) := (foldT_aux p [] hp (by simp) (by simp [RisF])).1
theorem mem_sortT {p : List T} (hp : ∀ y, y ∈ p → y.ok) {z : T} : z ∈ sortT p ↔ z ∈ p := by
  rw [sortT, (foldT_aux p [] hp (by simp) (by simp [RisF])).2]; simp

/-! ### Forms -/
def pcs (op : Int) : T → List T
  | .two x a b => if x.op = op then pcs op a ++ pcs op b else [.two x a b]
  | .one x a => [.one x a]
  | .leaf x => [.leaf x]
def zeroOf (op : Int) : Int := if op = 12 then 1 else 2
def unitOf (op : Int) : Int := if op = 12 then 2 else 1
def agst (l : List T) : Bool := l.any fun a => l.any fun b => decide (a.fl.length = 1 ∧ b.fl = nd 10 :: a.fl)
def foldO (op : Int) : List T → T
  | [] => .leaf (nd (unitOf op))
  | [x] => x
  | x :: y :: r => .two (nd op) x (foldO op (y :: r))
def normL (op : Int) (p : List T) : T :=
  if p.any (fun t => decide (t.root.op = zeroOf op)) = true then .leaf (nd (zeroOf op))
  else if agst (sortT (p.filter fun t => decide (t.root.op ≠ unitOf op))) = true then .leaf (nd (zeroOf op))
  else foldO op (sortT (p.filter fun t => decide (t.root.op ≠ unitOf op)))
def joinT (op : Int) (a b : T) : T := normL op (pcs op a ++ pcs op b)
def formT : T → Bool → T
  | .leaf x, tn => if x.op = 1 ∨ x.op = 2 then .leaf (nd (if tn = true then 3 - x.op else x.op)) else if tn = true then .one (nd 10) (.leaf x) else .leaf x
  | .one x a, tn => formT a (!tn)
  | .two x a b, tn => joinT (if tn = true then 23 - x.op else x.op) (formT a tn) (formT b tn)
end Go.Proofs.Ytielcgplbnlgbaa
end

section
/- Forms of filters: what they say, that they are forms. No program in sight. -/
set_option linter.unusedVariables false
set_option linter.unusedSimpArgs false
namespace Go.Proofs.Ytielcgplbnlgbaa

theorem parts_two {op : Int} (h : parts op = 2) : op = 11 ∨ op = 12 := by
  unfold parts at h
  split at h
  · omega
  · split at h
    · assumption
    · omega
theorem parts_one {op : Int} (h : parts op = 1) : op = 10 := by
  unfold parts at h
  split at h
  · assumption
  · split at h <;> omega
theorem parts_12 : parts 12 = 2 := by decide
theorem parts_11 : parts 11 = 2 := by decide
theorem parts_10 : parts 10 = 1 := by decide

theorem pcs_ok {op : Int} : ∀ {t : T}, t.ok → ∀ y, y ∈ pcs op t → y.ok
  | .leaf x, h, y, hy => by rw [pcs, List.mem_singleton] at hy; subst hy; exact h
  | .one x a, h, y, hy => by rw [pcs, List.mem_singleton] at hy; subst hy; exact h
  | .two x a b, h, y, hy => by
    rw [pcs] at hy
    split at hy
    · rcases List.mem_append.1 hy with hy | hy
      · exact pcs_ok h.2.1 y hy
      · exact pcs_ok h.2.2 y hy
    · rw [List.mem_singleton] at hy; subst hy; exact h

/-- A part that is no pair of parts. -/
def Irr (op : Int) (t : T) : Prop := pcs op t = [t]

theorem pcs_irr {op : Int} : ∀ {t : T}, ∀ y, y ∈ pcs op t → Irr op y
  | .leaf x, y, hy => by rw [pcs, List.mem_singleton] at hy; subst hy; rfl
  | .one x a, y, hy => by rw [pcs, List.mem_singleton] at hy; subst hy; rfl
  | .two x a b, y, hy => by
    rw [pcs] at hy
    split at hy
    · rcases List.mem_append.1 hy with hy | hy
      · exact pcs_irr y hy
      · exact pcs_irr y hy
    · rename_i hne
      rw [List.mem_singleton] at hy; subst hy; rw [Irr, pcs, if_neg hne]

theorem pcs_foldO {op : Int} : ∀ {l : List T}, l ≠ [] → (∀ y, y ∈ l → Irr op y) → pcs op (foldO op l) = l
  | [], h, _ => absurd rfl h
  | [x], _, h => h x (List.mem_cons_self ..)
  | x :: y :: r, _, h => by
    rw [foldO, pcs, if_pos (show (nd op).op = op from rfl), h x (List.mem_cons_self ..), pcs_foldO (by simp) fun z hz => h z (List.mem_cons_of_mem _ hz)]
    rfl

theorem sem_all (as : ND → Bool) : ∀ (t : T), t.ok → t.sem as = (pcs 11 t).all (·.sem as)
  | .leaf x, h => by simp [pcs]
  | .one x a, h => by simp [pcs]
  | .two x a b, h => by
    rw [pcs]
    split
    · rename_i e
      rw [List.all_append, ← sem_all as a h.2.1, ← sem_all as b h.2.2]
      simp [T.sem, e]
    · simp

theorem sem_any (as : ND → Bool) : ∀ (t : T), t.ok → t.sem as = (pcs 12 t).any (·.sem as)
  | .leaf x, h => by simp [pcs]
  | .one x a, h => by simp [pcs]
  | .two x a b, h => by
    rw [pcs]
    split
    · rename_i e
      rw [List.any_append, ← sem_any as a h.2.1, ← sem_any as b h.2.2]
      simp [T.sem, e]
    · simp

theorem root_leaf {t : T} (h : t.ok) {op : Int} (e : t.root.op = op) (hp : op = 1 ∨ op = 2) : ∃ x : ND, t = .leaf x ∧ x.op = op := by
  cases t with
  | leaf x => exact ⟨x, rfl, e⟩
  | one x a =>
    have := parts_one h.1
    simp only [T.root] at e; omega
  | two x a b =>
    have := parts_two h.1
    simp only [T.root] at e; omega

theorem sem_root1 {t : T} (h : t.ok) (e : t.root.op = 1) (as : ND → Bool) : t.sem as = true := by
  obtain ⟨x, rfl, hx⟩ := root_leaf h e (.inl rfl)
  simp [T.sem, hx]
theorem sem_root2 {t : T} (h : t.ok) (e : t.root.op = 2) (as : ND → Bool) : t.sem as = false := by
  obtain ⟨x, rfl, hx⟩ := root_leaf h e (.inr rfl)
  simp [T.sem, hx]

theorem fl_one {t : T} (h : t.fl.length = 1) : ∃ x : ND, t = .leaf x := by
  cases t with
  | leaf x => exact ⟨x, rfl⟩
  | one x a => have := a.fl_pos; simp only [T.fl, List.length_cons] at h; omega
  | two x a b => have := a.fl_pos; have := b.fl_pos; simp only [T.fl, List.length_cons, List.length_append] at h; omega

theorem agst_sem {l : List T} (ho : ∀ y, y ∈ l → y.ok) (h : agst l = true) : ∃ a b, a ∈ l ∧ b ∈ l ∧ ∀ as : ND → Bool, b.sem as = !a.sem as := by
  simp only [agst, List.any_eq_true, decide_eq_true_eq] at h
  obtain ⟨a, ha, b, hb, h1, h2⟩ := h
  refine ⟨a, b, ha, hb, fun as => ?_⟩
  obtain ⟨x, rfl⟩ := fl_one h1
  have e : b = .one (nd 10) (.leaf x) := fl_eq (ho b hb) ⟨by decide, ho _ ha⟩ h2
  subst e
  rfl

theorem foldO_all (as : ND → Bool) : ∀ (l : List T), (foldO 11 l).sem as = l.all (·.sem as)
  | [] => by simp [foldO, T.sem, nd, unitOf]
  | [x] => by simp [foldO]
  | x :: y :: r => by
    rw [foldO, T.sem, foldO_all as (y :: r)]
    simp [nd]
theorem foldO_any (as : ND → Bool) : ∀ (l : List T), (foldO 12 l).sem as = l.any (·.sem as)
  | [] => by simp [foldO, T.sem, nd, unitOf]
  | [x] => by simp [foldO]
  | x :: y :: r => by
    rw [foldO, T.sem, foldO_any as (y :: r)]
    simp [nd]

theorem normL_all {p : List T} (ho : ∀ y, y ∈ p → y.ok) (as : ND → Bool) : (normL 11 p).sem as = p.all (·.sem as) := by
  have hf : ∀ y, y ∈ p.filter (fun t => decide (t.root.op ≠ unitOf 11)) → y.ok := fun y hy => ho y (List.mem_filter.1 hy).1
  unfold normL
  split
  · rename_i h
    simp only [List.any_eq_true, decide_eq_true_eq] at h
    obtain ⟨z, hz, e⟩ := h
    have := sem_root2 (ho z hz) e as
    rw [show p.all (·.sem as) = false from List.all_eq_false.2 ⟨z, hz, by simp [this]⟩]
    simp [T.sem, nd, zeroOf]
  · split
    · rename_i h
      obtain ⟨a, b, ha, hb, e⟩ := agst_sem (fun y hy => hf y ((mem_sortT hf).1 hy)) h
      have ha' := (List.mem_filter.1 ((mem_sortT hf).1 ha)).1
      have hb' := (List.mem_filter.1 ((mem_sortT hf).1 hb)).1
      have : p.all (·.sem as) = false := by
        cases ea : a.sem as
        · exact List.all_eq_false.2 ⟨a, ha', by simp [ea]⟩
        · exact List.all_eq_false.2 ⟨b, hb', by simp [e as, ea]⟩
      rw [this]
      simp [T.sem, nd, zeroOf]
    · rw [foldO_all, Bool.eq_iff_iff, List.all_eq_true, List.all_eq_true]
      constructor
      · intro h x hx
        by_cases hu : x.root.op = unitOf 11
        · exact sem_root1 (ho x hx) hu as
        · exact h x ((mem_sortT hf).2 (List.mem_filter.2 ⟨hx, by simpa using hu⟩))
      · exact fun h x hx => h x (List.mem_filter.1 ((mem_sortT hf).1 hx)).1

theorem normL_any {p : List T} (ho : ∀ y, y ∈ p → y.ok) (as : ND → Bool) : (normL 12 p).sem as = p.any (·.sem as) := by
  have hf : ∀ y, y ∈ p.filter (fun t => decide (t.root.op ≠ unitOf 12)) → y.ok := fun y hy => ho y (List.mem_filter.1 hy).1
  unfold normL
  split
  · rename_i h
    simp only [List.any_eq_true, decide_eq_true_eq] at h
    obtain ⟨z, hz, e⟩ := h
    have := sem_root1 (ho z hz) e as
    rw [show p.any (·.sem as) = true from List.any_eq_true.2 ⟨z, hz, this⟩]
    simp [T.sem, nd, zeroOf]
  · split
    · rename_i h
      obtain ⟨a, b, ha, hb, e⟩ := agst_sem (fun y hy => hf y ((mem_sortT hf).1 hy)) h
      have ha' := (List.mem_filter.1 ((mem_sortT hf).1 ha)).1
      have hb' := (List.mem_filter.1 ((mem_sortT hf).1 hb)).1
      have : p.any (·.sem as) = true := by
        cases ea : a.sem as
        · exact List.any_eq_true.2 ⟨b, hb', by simp [e as, ea]⟩
        · exact List.any_eq_true.2 ⟨a, ha', ea⟩
      rw [this]
      simp [T.sem, nd, zeroOf]
    · rw [foldO_any, Bool.eq_iff_iff, List.any_eq_true, List.any_eq_true]
      constructor
      · rintro ⟨x, hx, h⟩
        exact ⟨x, (List.mem_filter.1 ((mem_sortT hf).1 hx)).1, h⟩
      · rintro ⟨x, hx, h⟩
        refine ⟨x, (mem_sortT hf).2 (List.mem_filter.2 ⟨hx, ?_⟩), h⟩
        simp only [ne_eq, decide_not, Bool.not_eq_eq_eq_not, Bool.not_true, decide_eq_false_iff_not]
        intro hu
        rw [sem_root2 (ho x hx) hu as] at h
        cases h

/-! ### Forms may be, and say what the tree says -/
def Good (t : T) : Prop := t.ok ∧ ∀ x, x ∈ t.fl → ndOk x = true
theorem ndOk_nd {op : Int} (h : op = 1 ∨ op = 2 ∨ op = 10 ∨ op = 11 ∨ op = 12) : ndOk (nd op) = true := by
  rcases h with rfl | rfl | rfl | rfl | rfl <;> decide
theorem good_leaf {x : ND} (h : parts x.op = 0) (k : ndOk x = true) : Good (.leaf x) := ⟨h, fun y hy => by rw [T.fl, List.mem_singleton] at hy; rw [hy]; exact k⟩
theorem good_nd {op : Int} (h : op = 1 ∨ op = 2) : Good (.leaf (nd op)) := good_leaf (by rcases h with rfl | rfl <;> decide) (ndOk_nd (by omega))
theorem good_one {x : ND} {a : T} : Good (.one x a) ↔ parts x.op = 1 ∧ ndOk x = true ∧ Good a := by
  simp only [Good, T.ok, T.fl, List.mem_cons]
  exact ⟨fun h => ⟨h.1.1, h.2 x (.inl rfl), h.1.2, fun y hy => h.2 y (.inr hy)⟩, fun h => ⟨⟨h.1, h.2.2.1⟩, fun y hy => hy.elim (fun e => e ▸ h.2.1) (h.2.2.2 y)⟩⟩
theorem good_two {x : ND} {a b : T} : Good (.two x a b) ↔ parts x.op = 2 ∧ ndOk x = true ∧ Good a ∧ Good b := by
  simp only [Good, T.ok, T.fl, List.mem_cons, List.mem_append]
  exact ⟨fun h => ⟨h.1.1, h.2 x (.inl rfl), ⟨h.1.2.1, fun y hy => h.2 y (.inr (.inl hy))⟩, h.1.2.2, fun y hy => h.2 y (.inr (.inr hy))⟩,
    fun h => ⟨⟨h.1, h.2.2.1.1, h.2.2.2.1⟩, fun y hy => hy.elim (fun e => e ▸ h.2.1) fun hy => hy.elim (h.2.2.1.2 y) (h.2.2.2.2 y)⟩⟩

theorem good_pcs {op : Int} : ∀ {t : T}, Good t → ∀ y, y ∈ pcs op t → Good y
  | .leaf x, h, y, hy => by rw [pcs, List.mem_singleton] at hy; subst hy; exact h
  | .one x a, h, y, hy => by rw [pcs, List.mem_singleton] at hy; subst hy; exact h
  | .two x a b, h, y, hy => by
    rw [pcs] at hy
    split at hy
    · rcases List.mem_append.1 hy with hy | hy
      · exact good_pcs (good_two.1 h).2.2.1 y hy
      · exact good_pcs (good_two.1 h).2.2.2 y hy
    · rw [List.mem_singleton] at hy; subst hy; exact h

theorem good_foldO {op : Int} (hop : op = 11 ∨ op = 12) : ∀ {l : List T}, (∀ y, y ∈ l → Good y) → Good (foldO op l)
  | [], _ => by rw [foldO]; exact good_nd (by unfold unitOf; split <;> simp)
  | [x], h => h x (List.mem_cons_self ..)
  | x :: y :: r, h => by
    rw [foldO, good_two]
    exact ⟨by rcases hop with rfl | rfl <;> decide, ndOk_nd (by omega), h x (List.mem_cons_self ..), good_foldO hop fun z hz => h z (List.mem_cons_of_mem _ hz)⟩

theorem good_normL {op : Int} (hop : op = 11 ∨ op = 12) {p : List T} (h : ∀ y, y ∈ p → Good y) : Good (normL op p) := by
  unfold normL
  have hz : Good (.leaf (nd (zeroOf op))) := good_nd (by unfold zeroOf; split <;> simp)
  split
  · exact hz
  · split
    · exact hz
    · have hf : ∀ y, y ∈ p.filter (fun t => decide (t.root.op ≠ unitOf op)) → Good y := fun y hy => h y (List.mem_filter.1 hy).1
      exact good_foldO hop fun y hy => hf y ((mem_sortT fun y hy => (hf y hy).1).1 hy)

theorem good_joinT {op : Int} (hop : op = 11 ∨ op = 12) {a b : T} (ha : Good a) (hb : Good b) : Good (joinT op a b) :=
  good_normL hop fun y hy => (List.mem_append.1 hy).elim (good_pcs ha y) (good_pcs hb y)

theorem sem_join11 {a b : T} (ha : a.ok) (hb : b.ok) (as : ND → Bool) : (joinT 11 a b).sem as = (a.sem as && b.sem as) := by
  rw [joinT, normL_all fun y hy => (List.mem_append.1 hy).elim (pcs_ok ha y) (pcs_ok hb y), List.all_append, ← sem_all as a ha, ← sem_all as b hb]
theorem sem_join12 {a b : T} (ha : a.ok) (hb : b.ok) (as : ND → Bool) : (joinT 12 a b).sem as = (a.sem as || b.sem as) := by
  rw [joinT, normL_any fun y hy => (List.mem_append.1 hy).elim (pcs_ok ha y) (pcs_ok hb y), List.any_append, ← sem_any as a ha, ← sem_any as b hb]

theorem op_turn {op : Int} (h : op = 11 ∨ op = 12) (tn : Bool) : (if tn = true then 23 - op else op) = 11 ∨ (if tn = true then 23 - op else op) = 12 := by
  cases tn
  · simpa using h
  · simp only [if_true]; omega

theorem good_form : ∀ {t : T} (tn : Bool), Good t → Good (formT t tn)
  | .leaf x, tn, h => by
    have hx := h.2 x (by simp [T.fl])
    rw [formT]
    split
    · rename_i hop
      refine good_nd ?_
      split <;> omega
    · split
      · exact good_one.2 ⟨by decide, ndOk_nd (by simp), h⟩
      · exact h
  | .one x a, tn, h => good_form (!tn) (good_one.1 h).2.2
  | .two x a b, tn, h => by
    obtain ⟨h1, h2, h3, h4⟩ := good_two.1 h
    rw [formT]
    exact good_joinT (op_turn (parts_two h1) tn) (good_form tn h3) (good_form tn h4)

theorem sem_form (as : ND → Bool) : ∀ {t : T} (tn : Bool), Good t → (formT t tn).sem as = (t.sem as ^^ tn)
  | .leaf x, tn, h => by
    rw [formT]
    split
    · rename_i hop
      rcases hop with e | e <;> cases tn <;> simp [T.sem, nd, e]
    · rename_i hop
      cases tn
      · simp
      · simp [T.sem]
  | .one x a, tn, h => by
    rw [formT, sem_form as (!tn) (good_one.1 h).2.2, T.sem]
    cases a.sem as <;> cases tn <;> rfl
  | .two x a b, tn, h => by
    obtain ⟨h1, h2, h3, h4⟩ := good_two.1 h
    have ga := good_form tn h3
    have gb := good_form tn h4
    have ea := sem_form as tn h3
    have eb := sem_form as tn h4
    rw [formT]
    rcases parts_two h1 with e | e <;> cases tn
    · simp only [e, Bool.false_eq_true, if_false]
      rw [sem_join11 ga.1 gb.1, ea, eb]; simp [T.sem, e]
    · simp only [e, if_true]
      rw [show (23 - 11 : Int) = 12 by decide, sem_join12 ga.1 gb.1, ea, eb]
      simp only [T.sem, e, if_true]
      cases a.sem as <;> cases b.sem as <;> rfl
    · simp only [e, Bool.false_eq_true, if_false]
      rw [sem_join12 ga.1 gb.1, ea, eb]; simp [T.sem, e]
    · simp only [e, if_true]
      rw [show (23 - 12 : Int) = 11 by decide, sem_join11 ga.1 gb.1, ea, eb]
      simp only [T.sem, e]
      cases a.sem as <;> cases b.sem as <;> rfl
end Go.Proofs.Ytielcgplbnlgbaa
end

section
/- Contract of the document's Kids: the conditions that the theorem names. -/

set_option linter.unusedVariables false
set_option linter.unusedSimpArgs false
namespace Go.Proofs.Ytielcgplbnlgbaa

theorem app_flat' {α : Type} (D ex Y : List α) (m y : Nat) (h1 : D.length = m) (h2 : Y.length = y) : List.take m (D ++ ex) ++ Y ++ List.drop (m + y) (D ++ ex) = (D ++ Y) ++ ex.drop y := by
  subst h1 h2
  rw [List.take_left, List.drop_append, List.drop_eq_nil_of_le (by omega), List.nil_append, Nat.add_sub_cancel_left]

abbrev T.kl (t : T) : List (List MV) := t.kids.map fun k => [.lst 5 (k.fl.map ND.c) false]

theorem kid_end {t : T} (h : t.ok) {i : Nat} (hi : i < t.kids.length) :
    endS t.fl ((1 + ((t.kids.take i).map T.fl).flatten.length : Nat) : Int) = ((1 + ((t.kids.take (i + 1)).map T.fl).flatten.length : Nat) : Int) ∧
    (t.fl.take (1 + ((t.kids.take (i + 1)).map T.fl).flatten.length)).drop (1 + ((t.kids.take i).map T.fl).flatten.length) = (t.kids.getD i (.leaf nd0)).fl ∧
    1 + ((t.kids.take i).map T.fl).flatten.length ≤ 1 + ((t.kids.take (i + 1)).map T.fl).flatten.length ∧ 1 + ((t.kids.take (i + 1)).map T.fl).flatten.length ≤ t.fl.length ∧ (t.kids.getD i (.leaf nd0)).fl.length ≤ t.fl.length := by
  obtain ⟨h1, h2⟩ := T.ok_kids h
  obtain ⟨k, hk⟩ : ∃ k, t.kids.getD i (.leaf nd0) = k := ⟨_, rfl⟩
  have hg : t.kids[i] = k := by rw [← hk, getD_of_lt _ hi]
  have hko := h2 k (by rw [← hk]; exact getD_mem _ hi)
  have e1 : ((t.kids.take (i + 1)).map T.fl).flatten = ((t.kids.take i).map T.fl).flatten ++ k.fl := by
    rw [List.take_succ_eq_append_getElem hi, hg]; simp
  have e2 : t.fl = (t.root :: ((t.kids.take i).map T.fl).flatten) ++ (k.fl ++ ((t.kids.drop (i + 1)).map T.fl).flatten) := by
    rw [T.fl_kids]
    conv => lhs; rw [← List.take_append_drop i t.kids, List.drop_eq_getElem_cons hi, hg]
    simp
  have e3 : (t.root :: ((t.kids.take i).map T.fl).flatten).length = 1 + ((t.kids.take i).map T.fl).flatten.length := by rw [List.length_cons]; omega
  rw [e1, List.length_append, hk]
  generalize hA : t.root :: ((t.kids.take i).map T.fl).flatten = A at e2 e3
  have e4 := endS_fl hko A ((t.kids.drop (i + 1)).map T.fl).flatten
  rw [← e2, e3] at e4
  refine ⟨by rw [e4, Nat.add_assoc], ?_, by omega, by rw [e2]; simp only [List.length_append]; omega, by rw [e2]; simp only [List.length_append]; omega⟩
  rw [← Nat.add_assoc, ← e3, e2, ← List.append_assoc, ← List.length_append, List.take_left, List.drop_left]

set_option maxHeartbeats 2000000 in
theorem rkids_call (t : T) (h : t.ok) (hl : t.fl.length ≤ 1000) (tt : Bool) : MCalls Try.prog 38 [.lst 5 (t.fl.map ND.c) tt, .int .i64 0] St.none (fun r _ => r = .lst 1 t.kl false) := by
  refine MCalls.seen (MCalls.body 44 [.tmp 4] Try.func38 rfl rfl rfl rfl ?_)
  have hpos := t.fl_pos
  have hf0 : (t.fl.getD 0 nd0) = t.root := by rw [T.fl_kids]; rfl
  obtain ⟨h1, h2⟩ := T.ok_kids h
  have hb2 : t.kids.length ≤ 2 := by have := parts_cases t.root.op; omega
  repeat' (first | ((with_reducible refine wT ?_); (first | (fail_if_success (have := nl1)); with_reducible refine wN fun nl1 hnl => ?_ | (fail_if_success (have := nl2)); with_reducible refine wN fun nl2 hnl => ?_ | (fail_if_success (have := nl3)); with_reducible refine wN fun nl3 hnl => ?_ | (fail_if_success (have := nl4)); with_reducible refine wN fun nl4 hnl => ?_ | (fail_if_success (have := nl5)); with_reducible refine wN fun nl5 hnl => ?_ | with_reducible refine wN fun _ hnl => ?_); revert hnl; (repeat with_reducible refine wS fun _ _ => ?_); intro hnl) | (with_reducible first | refine mdraw_plain mixed (by decide +kernel) ?_ | refine wI (fun h => ?_) (fun h => ?_) | refine wF (fun h => ?_) (fun h => ?_) | refine wG (fun h => ?_) (fun h => ?_) | refine wH (fun h => ?_) (fun h => ?_)) | (with_reducible refine mfork_bool (fun h => ?_) (fun h => ?_) <;> simp only [h]) | (with_reducible refine mgfork_bool (fun h => ?_) (fun h => ?_) <;> simp only [h]) | (simp (config := { maxSteps := 4000000 }) (disch := first | decide | assumption | omega | (simp only [wL]; omega)) only [go_sem, Nat.reduceAdd, Nat.reduceSub, Nat.reduceMul, Nat.reduceDiv, Nat.reduceMod, Nat.reduceLT, Nat.reduceLeDiff, Nat.reduceEqDiff, Nat.reduceSucc, Nat.reduceGT, Int.reduceAdd, Int.reduceSub, Int.reduceMul, Int.reduceNeg, Int.reduceLT, Int.reduceLE, Int.reduceEq, Int.reduceToNat, reduceIte, Try.f38, getD_mapd nd0]))
  refine mloop_intro (α := Nat × Nat × List (List MV)) (fun a => ⟨44, [(7, .int .i64 (a.1 : Int)), (6, .int .i64 ((1 + ((t.kids.take a.1).map T.fl).flatten.length : Nat) : Int)), (5, .vec 1 a.2.1 0 a.1), (0, .lst 5 (t.fl.map ND.c) tt), (1, .int .i64 0)], []⟩)
    (fun a => St.none.set a.2.1 (.row 22 1 ((t.kl.take a.1) ++ a.2.2))) (fun a => a.1 ≤ t.kids.length) (fun a => t.kids.length - a.1) ?_ ?_
  · refine .of (.less ?_ (St.le_refl _)) ⟨(0, nl1, []), rfl, rfl, Nat.zero_le _⟩
    simp (config := { maxSteps := 4000000 }) (disch := first | decide | assumption | omega | (simp only [wL]; omega)) only [go_sem, Nat.reduceAdd, Nat.reduceSub, Nat.reduceMul, Nat.reduceDiv, Nat.reduceMod, Nat.reduceLT, Nat.reduceLeDiff, Nat.reduceEqDiff, Nat.reduceSucc, Nat.reduceGT, Int.reduceAdd, Int.reduceSub, Int.reduceMul, Int.reduceNeg, Int.reduceLT, Int.reduceLE, Int.reduceEq, Int.reduceToNat, reduceIte, weak_int, weak_same]
    exact ⟨rfl, rfl⟩
  · rintro ⟨i, q, ex⟩ hi
    simp only at hi ⊢
    by_cases hlt : i < t.kids.length
    · obtain ⟨k1, k2, k3, k4, k5⟩ := kid_end h hlt
      have hm : min i t.kids.length = i := Nat.min_eq_left hi
      have e1 : List.map (fun k => [MV.lst 5 (List.map ND.c k.fl) false]) (t.kids.take (i + 1)) = List.map (fun k => [MV.lst 5 (List.map ND.c k.fl) false]) (t.kids.take i) ++ [[.lst 5 ((t.kids.getD i (.leaf nd0)).fl.map ND.c) false]] := by
        rw [List.take_succ_eq_append_getElem hlt, List.map_append, ← getD_of_lt (.leaf nd0) hlt]; rfl
      repeat' (first | (with_reducible refine use_pure (rparts_call _) ?_) | (with_reducible refine use_pure (rend_call _ (by omega) _ _) ?_) | ((with_reducible refine wT ?_); (first | (fail_if_success (have := nl1)); with_reducible refine wN fun nl1 hnl => ?_ | (fail_if_success (have := nl2)); with_reducible refine wN fun nl2 hnl => ?_ | (fail_if_success (have := nl3)); with_reducible refine wN fun nl3 hnl => ?_ | (fail_if_success (have := nl4)); with_reducible refine wN fun nl4 hnl => ?_ | (fail_if_success (have := nl5)); with_reducible refine wN fun nl5 hnl => ?_ | with_reducible refine wN fun _ hnl => ?_); revert hnl; (repeat with_reducible refine wS fun _ _ => ?_); intro hnl) | (with_reducible first | refine mdraw_plain mixed (by decide +kernel) ?_ | refine wI (fun h => ?_) (fun h => ?_) | refine wF (fun h => ?_) (fun h => ?_) | refine wG (fun h => ?_) (fun h => ?_) | refine wH (fun h => ?_) (fun h => ?_)) | (with_reducible refine mfork_bool (fun h => ?_) (fun h => ?_) <;> simp only [h]) | (with_reducible refine mgfork_bool (fun h => ?_) (fun h => ?_) <;> simp only [h]) | (simp (config := { maxSteps := 4000000 }) (disch := first | decide | assumption | omega | (simp only [wL]; omega)) only [go_sem, Nat.reduceAdd, Nat.reduceSub, Nat.reduceMul, Nat.reduceDiv, Nat.reduceMod, Nat.reduceLT, Nat.reduceLeDiff, Nat.reduceEqDiff, Nat.reduceSucc, Nat.reduceGT, Int.reduceAdd, Int.reduceSub, Int.reduceMul, Int.reduceNeg, Int.reduceLT, Int.reduceLE, Int.reduceEq, Int.reduceToNat, reduceIte, getD_mapd nd0, hf0, k1, k2, hm]))
      · have hex : ex = [] := List.eq_nil_of_length_eq_zero (by omega)
        subst hex
        refine .of (Ghost.nest (t := 22) (t1 := 49) (e1 := 5) (ys := (t.kids.getD i (.leaf nd0)).fl.map ND.c) (n1 := (t.kids.getD i (.leaf nd0)).fl.length) (q := nl5) (m := nl3) (pre := List.map (fun k => [MV.lst 5 (List.map ND.c k.fl) false]) (t.kids.take i)) (post := []) St.none (by first | (simp (config := { maxSteps := 4000000 }) (disch := first | decide | assumption | omega | (simp only [wL]; omega)) only [go_sem, Nat.reduceAdd, Nat.reduceSub, Nat.reduceMul, Nat.reduceDiv, Nat.reduceMod, Nat.reduceLT, Nat.reduceLeDiff, Nat.reduceEqDiff, Nat.reduceSucc, Nat.reduceGT, Int.reduceAdd, Int.reduceSub, Int.reduceMul, Int.reduceNeg, Int.reduceLT, Int.reduceLE, Int.reduceEq, Int.reduceToNat, reduceIte]; done) | (simp (config := { maxSteps := 4000000 }) (disch := first | decide | assumption | omega | (simp only [wL]; omega)) only [go_sem, Nat.reduceAdd, Nat.reduceSub, Nat.reduceMul, Nat.reduceDiv, Nat.reduceMod, Nat.reduceLT, Nat.reduceLeDiff, Nat.reduceEqDiff, Nat.reduceSucc, Nat.reduceGT, Int.reduceAdd, Int.reduceSub, Int.reduceMul, Int.reduceNeg, Int.reduceLT, Int.reduceLE, Int.reduceEq, Int.reduceToNat, reduceIte]; rfl)) ((set_hit _ _ _).trans ?_) (by rw [List.length_map]) (St.none_le _) rfl (by assumption) ?_) ⟨(i + 1, nl5, []), rfl, ?_, by simp only; omega, by simp only; omega⟩
        · rw [List.append_nil]
        · simp (config := { maxSteps := 4000000 }) (disch := first | decide | assumption | omega | (simp only [wL]; omega)) only [go_sem, Nat.reduceAdd, Nat.reduceSub, Nat.reduceMul, Nat.reduceDiv, Nat.reduceMod, Nat.reduceLT, Nat.reduceLeDiff, Nat.reduceEqDiff, Nat.reduceSucc, Nat.reduceGT, Int.reduceAdd, Int.reduceSub, Int.reduceMul, Int.reduceNeg, Int.reduceLT, Int.reduceLE, Int.reduceEq, Int.reduceToNat, reduceIte, weak_int, weak_same]
          rfl
        · simp only
          rw [e1, List.append_nil]
      · refine .of (Ghost.nest (t := 22) (t1 := 49) (e1 := 5) (ys := (t.kids.getD i (.leaf nd0)).fl.map ND.c) (n1 := (t.kids.getD i (.leaf nd0)).fl.length) (q := nl5) (m := nl3) (pre := List.map (fun k => [MV.lst 5 (List.map ND.c k.fl) false]) (t.kids.take i)) (post := ex.drop 1) St.none (by first | (simp (config := { maxSteps := 4000000 }) (disch := first | decide | assumption | omega | (simp only [wL]; omega)) only [go_sem, Nat.reduceAdd, Nat.reduceSub, Nat.reduceMul, Nat.reduceDiv, Nat.reduceMod, Nat.reduceLT, Nat.reduceLeDiff, Nat.reduceEqDiff, Nat.reduceSucc, Nat.reduceGT, Int.reduceAdd, Int.reduceSub, Int.reduceMul, Int.reduceNeg, Int.reduceLT, Int.reduceLE, Int.reduceEq, Int.reduceToNat, reduceIte]; done) | (simp (config := { maxSteps := 4000000 }) (disch := first | decide | assumption | omega | (simp only [wL]; omega)) only [go_sem, Nat.reduceAdd, Nat.reduceSub, Nat.reduceMul, Nat.reduceDiv, Nat.reduceMod, Nat.reduceLT, Nat.reduceLeDiff, Nat.reduceEqDiff, Nat.reduceSucc, Nat.reduceGT, Int.reduceAdd, Int.reduceSub, Int.reduceMul, Int.reduceNeg, Int.reduceLT, Int.reduceLE, Int.reduceEq, Int.reduceToNat, reduceIte]; rfl)) ((set_hit _ _ _).trans ?_) (by rw [List.length_map]) (St.none_le _) rfl (by assumption) ?_) ⟨(i + 1, nl5, ex.drop 1), rfl, ?_, by simp only; omega, by simp only; omega⟩
        · rw [app_flat' (List.map (fun k => [MV.lst 5 (List.map ND.c (T.fl k)) false]) (t.kids.take i)) ex [[MV.vec 5 nl3 0 (t.kids.getD i (T.leaf nd0)).fl.length]] i 1 (by rw [List.length_map, List.length_take]; omega) rfl, List.append_assoc]
          rfl
        · simp (config := { maxSteps := 4000000 }) (disch := first | decide | assumption | omega | (simp only [wL]; omega)) only [go_sem, Nat.reduceAdd, Nat.reduceSub, Nat.reduceMul, Nat.reduceDiv, Nat.reduceMod, Nat.reduceLT, Nat.reduceLeDiff, Nat.reduceEqDiff, Nat.reduceSucc, Nat.reduceGT, Int.reduceAdd, Int.reduceSub, Int.reduceMul, Int.reduceNeg, Int.reduceLT, Int.reduceLE, Int.reduceEq, Int.reduceToNat, reduceIte, weak_int, weak_same]
          rfl
        · simp only
          rw [e1, List.append_assoc]
          rfl
    · have : i = t.kids.length := by omega
      subst this
      repeat' (first | (with_reducible refine use_pure (rparts_call _) ?_) | ((with_reducible refine wT ?_); (first | (fail_if_success (have := nl1)); with_reducible refine wN fun nl1 hnl => ?_ | (fail_if_success (have := nl2)); with_reducible refine wN fun nl2 hnl => ?_ | (fail_if_success (have := nl3)); with_reducible refine wN fun nl3 hnl => ?_ | (fail_if_success (have := nl4)); with_reducible refine wN fun nl4 hnl => ?_ | (fail_if_success (have := nl5)); with_reducible refine wN fun nl5 hnl => ?_ | with_reducible refine wN fun _ hnl => ?_); revert hnl; (repeat with_reducible refine wS fun _ _ => ?_); intro hnl) | (with_reducible first | refine mdraw_plain mixed (by decide +kernel) ?_ | refine wI (fun h => ?_) (fun h => ?_) | refine wF (fun h => ?_) (fun h => ?_) | refine wG (fun h => ?_) (fun h => ?_) | refine wH (fun h => ?_) (fun h => ?_)) | (with_reducible refine mfork_bool (fun h => ?_) (fun h => ?_) <;> simp only [h]) | (with_reducible refine mgfork_bool (fun h => ?_) (fun h => ?_) <;> simp only [h]) | (simp (config := { maxSteps := 4000000 }) (disch := first | decide | assumption | omega | (simp only [wL]; omega)) only [go_sem, Nat.reduceAdd, Nat.reduceSub, Nat.reduceMul, Nat.reduceDiv, Nat.reduceMod, Nat.reduceLT, Nat.reduceLeDiff, Nat.reduceEqDiff, Nat.reduceSucc, Nat.reduceGT, Int.reduceAdd, Int.reduceSub, Int.reduceMul, Int.reduceNeg, Int.reduceLT, Int.reduceLE, Int.reduceEq, Int.reduceToNat, reduceIte, getD_mapd nd0, hf0, List.take_length]))
      have hv := View.vec (σ := St.none.set q (.row 22 1 (t.kl ++ ex))) (l := q) (lo := 0) (n := t.kids.length) (set_hit _ _ _) (by rw [List.length_append, List.length_map]; omega)
      have e : ((t.kl ++ ex).drop 0).take t.kids.length = t.kl := by
        rw [List.drop_zero, List.take_append_of_le_length (by rw [List.length_map]; omega), List.take_of_length_le (by rw [List.length_map]; omega)]
      rw [e] at hv
      exact hv
end Go.Proofs.Ytielcgplbnlgbaa
end

section
/- Contracts of the program's own functions for values and filters, and of the library's that they call: the conditions that each theorem names. -/
set_option linter.unusedVariables false
set_option linter.unusedSimpArgs false
namespace Go.Proofs.Ytielcgplbnlgbaa

theorem parts_call (op : Int) : MCalls Try.prog 42 [.int .i64 op] St.none (fun r _ => r = .int .i64 (parts op)) := by
  refine (MCalls.body 9 [.tmp 2] Try.func42 rfl rfl rfl rfl ?_)
  repeat' (first | ((with_reducible refine wN fun nl hnl => ?_); revert hnl; (repeat with_reducible refine wS fun _ _ => ?_); intro hnl) | (with_reducible first | refine mdraw_plain mixed (by decide +kernel) ?_ | refine wI (fun h => ?_) (fun h => ?_) | refine wF (fun h => ?_) (fun h => ?_) | refine wG (fun h => ?_) (fun h => ?_) | refine wH (fun h => ?_) (fun h => ?_)) | (with_reducible refine mfork_bool (fun h => ?_) (fun h => ?_) <;> simp only [h]) | (with_reducible refine mgfork_bool (fun h => ?_) (fun h => ?_) <;> simp only [h]) | (simp (config := { maxSteps := 4000000 }) (disch := first | decide | assumption | omega | (simp only [wL]; omega)) only [go_sem, Nat.reduceAdd, Nat.reduceSub, Nat.reduceMul, Nat.reduceDiv, Nat.reduceMod, Nat.reduceLT, Nat.reduceLeDiff, Nat.reduceEqDiff, Nat.reduceSucc, Nat.reduceGT, Int.reduceAdd, Int.reduceSub, Int.reduceMul, Int.reduceNeg, Int.reduceLT, Int.reduceLE, Int.reduceEq, Int.reduceToNat, reduceIte, Try.f42]))
  all_goals simp [parts, *]

theorem vcheck_call (kd n : Int) (s : ByteArray) : MCalls Try.prog 76 [.agg [.int .i64 kd, .int .i64 n, .str s]] St.none (fun r _ => r = .bool (vaOk ⟨kd, n, s⟩)) := by
  refine (MCalls.body 36 [.tmp 2] Try.func76 rfl rfl rfl rfl ?_)
  repeat' (first | ((with_reducible refine wN fun nl hnl => ?_); revert hnl; (repeat with_reducible refine wS fun _ _ => ?_); intro hnl) | (with_reducible first | refine mdraw_plain mixed (by decide +kernel) ?_ | refine wI (fun h => ?_) (fun h => ?_) | refine wF (fun h => ?_) (fun h => ?_) | refine wG (fun h => ?_) (fun h => ?_) | refine wH (fun h => ?_) (fun h => ?_)) | (with_reducible refine mfork_bool (fun h => ?_) (fun h => ?_) <;> simp only [h]) | (with_reducible refine mgfork_bool (fun h => ?_) (fun h => ?_) <;> simp only [h]) | (simp (config := { maxSteps := 4000000 }) (disch := first | decide | assumption | omega | (simp only [wL]; omega)) only [go_sem, Nat.reduceAdd, Nat.reduceSub, Nat.reduceMul, Nat.reduceDiv, Nat.reduceMod, Nat.reduceLT, Nat.reduceLeDiff, Nat.reduceEqDiff, Nat.reduceSucc, Nat.reduceGT, Int.reduceAdd, Int.reduceSub, Int.reduceMul, Int.reduceNeg, Int.reduceLT, Int.reduceLE, Int.reduceEq, Int.reduceToNat, reduceIte, Try.f76]))
  all_goals first
    | (simp [vaOk, va0, *]; done)
    | (simp [vaOk, va0, *]; omega)

theorem nanint_call (a : Int) : MCalls Try.prog 99 [.int .i64 a] St.none (fun r _ => r = .bool false) := by
  refine (MCalls.body 6 [.tmp 2] Try.func99 rfl rfl rfl rfl ?_)
  repeat' (first | ((with_reducible refine wN fun nl hnl => ?_); revert hnl; (repeat with_reducible refine wS fun _ _ => ?_); intro hnl) | (with_reducible first | refine mdraw_plain mixed (by decide +kernel) ?_ | refine wI (fun h => ?_) (fun h => ?_) | refine wF (fun h => ?_) (fun h => ?_) | refine wG (fun h => ?_) (fun h => ?_) | refine wH (fun h => ?_) (fun h => ?_)) | (with_reducible refine mfork_bool (fun h => ?_) (fun h => ?_) <;> simp only [h]) | (with_reducible refine mgfork_bool (fun h => ?_) (fun h => ?_) <;> simp only [h]) | (simp (config := { maxSteps := 4000000 }) (disch := first | decide | assumption | omega | (simp only [wL]; omega)) only [go_sem, Nat.reduceAdd, Nat.reduceSub, Nat.reduceMul, Nat.reduceDiv, Nat.reduceMod, Nat.reduceLT, Nat.reduceLeDiff, Nat.reduceEqDiff, Nat.reduceSucc, Nat.reduceGT, Int.reduceAdd, Int.reduceSub, Int.reduceMul, Int.reduceNeg, Int.reduceLT, Int.reduceLE, Int.reduceEq, Int.reduceToNat, reduceIte, Try.f99, dec_not_self]))
theorem nanstr_call (a : ByteArray) : MCalls Try.prog 111 [.str a] St.none (fun r _ => r = .bool false) := by
  refine (MCalls.body 6 [.tmp 2] Try.func111 rfl rfl rfl rfl ?_)
  repeat' (first | ((with_reducible refine wN fun nl hnl => ?_); revert hnl; (repeat with_reducible refine wS fun _ _ => ?_); intro hnl) | (with_reducible first | refine mdraw_plain mixed (by decide +kernel) ?_ | refine wI (fun h => ?_) (fun h => ?_) | refine wF (fun h => ?_) (fun h => ?_) | refine wG (fun h => ?_) (fun h => ?_) | refine wH (fun h => ?_) (fun h => ?_)) | (with_reducible refine mfork_bool (fun h => ?_) (fun h => ?_) <;> simp only [h]) | (with_reducible refine mgfork_bool (fun h => ?_) (fun h => ?_) <;> simp only [h]) | (simp (config := { maxSteps := 4000000 }) (disch := first | decide | assumption | omega | (simp only [wL]; omega)) only [go_sem, Nat.reduceAdd, Nat.reduceSub, Nat.reduceMul, Nat.reduceDiv, Nat.reduceMod, Nat.reduceLT, Nat.reduceLeDiff, Nat.reduceEqDiff, Nat.reduceSucc, Nat.reduceGT, Int.reduceAdd, Int.reduceSub, Int.reduceMul, Int.reduceNeg, Int.reduceLT, Int.reduceLE, Int.reduceEq, Int.reduceToNat, reduceIte, Try.f111, dec_not_self]))

theorem cmpint_call (a b : Int) : MCalls Try.prog 73 [.int .i64 a, .int .i64 b] St.none (fun r _ => r = .int .i64 (ordI (cmpL [a] [b]))) := by
  refine (MCalls.body 20 [.tmp 4] Try.func73 rfl rfl rfl rfl ?_)
  repeat' (first | (with_reducible refine use_pure (nanint_call _) ?_) | ((with_reducible refine wN fun nl hnl => ?_); revert hnl; (repeat with_reducible refine wS fun _ _ => ?_); intro hnl) | (with_reducible first | refine mdraw_plain mixed (by decide +kernel) ?_ | refine wI (fun h => ?_) (fun h => ?_) | refine wF (fun h => ?_) (fun h => ?_) | refine wG (fun h => ?_) (fun h => ?_) | refine wH (fun h => ?_) (fun h => ?_)) | (with_reducible refine mfork_bool (fun h => ?_) (fun h => ?_) <;> simp only [h]) | (with_reducible refine mgfork_bool (fun h => ?_) (fun h => ?_) <;> simp only [h]) | (simp (config := { maxSteps := 4000000 }) (disch := first | decide | assumption | omega | (simp only [wL]; omega)) only [go_sem, Nat.reduceAdd, Nat.reduceSub, Nat.reduceMul, Nat.reduceDiv, Nat.reduceMod, Nat.reduceLT, Nat.reduceLeDiff, Nat.reduceEqDiff, Nat.reduceSucc, Nat.reduceGT, Int.reduceAdd, Int.reduceSub, Int.reduceMul, Int.reduceNeg, Int.reduceLT, Int.reduceLE, Int.reduceEq, Int.reduceToNat, reduceIte, Try.f73]))
  all_goals simp [cmpL, ordI, *]

theorem cmpstr_call (a b : ByteArray) : MCalls Try.prog 100 [.str a, .str b] St.none (fun r _ => r = .int .i64 (ordI (cmpL (bk a) (bk b)))) := by
  refine (MCalls.body 20 [.tmp 4] Try.func100 rfl rfl rfl rfl ?_)
  have hb := bytesLess_cmp a.toList b.toList
  change _ = decide (cmpL (bk a) (bk b) = .lt) at hb
  repeat' (first | (with_reducible refine use_pure (nanstr_call _) ?_) | ((with_reducible refine wN fun nl hnl => ?_); revert hnl; (repeat with_reducible refine wS fun _ _ => ?_); intro hnl) | (with_reducible first | refine mdraw_plain mixed (by decide +kernel) ?_ | refine wI (fun h => ?_) (fun h => ?_) | refine wF (fun h => ?_) (fun h => ?_) | refine wG (fun h => ?_) (fun h => ?_) | refine wH (fun h => ?_) (fun h => ?_)) | (with_reducible refine mfork_bool (fun h => ?_) (fun h => ?_) <;> simp only [h]) | (with_reducible refine mgfork_bool (fun h => ?_) (fun h => ?_) <;> simp only [h]) | (simp (config := { maxSteps := 4000000 }) (disch := first | decide | assumption | omega | (simp only [wL]; omega)) only [go_sem, Nat.reduceAdd, Nat.reduceSub, Nat.reduceMul, Nat.reduceDiv, Nat.reduceMod, Nat.reduceLT, Nat.reduceLeDiff, Nat.reduceEqDiff, Nat.reduceSucc, Nat.reduceGT, Int.reduceAdd, Int.reduceSub, Int.reduceMul, Int.reduceNeg, Int.reduceLT, Int.reduceLE, Int.reduceEq, Int.reduceToNat, reduceIte, Try.f100]))
  · rw [hb] at h
    simp only [decide_eq_true_eq] at h
    rw [h]; rfl
  · rename_i h0
    rw [hb] at h0
    simp only [decide_eq_false_iff_not] at h0
    simp only [Bool.not_eq_true', Bool.or_eq_false_iff, decide_eq_false_iff_not] at h
    have h1 : cmpL (bk a) (bk b) ≠ .eq := fun e => h.2 (bytes_inj (cmpL_eq.1 e))
    cases e : cmpL (bk a) (bk b)
    · exact absurd e h0
    · exact absurd e h1
    · rfl
  · rename_i h0
    simp only [h0, Bool.false_or, Bool.not_eq_false', decide_eq_true_eq] at h
    rw [h, cmpL_refl]; rfl

theorem endS_in {l : List ND} {i : Int} (h : ¬ (i < 0 ∨ (l.length : Int) ≤ i)) : endS l i = match endN 1 (l.drop i.toNat) with
    | none => -1
    | some k => i + k := by
  unfold endS
  rw [if_neg (by omega)]
  cases endN 1 (l.drop i.toNat) <;> rfl

theorem pend_call (l : List ND) (hl : l.length ≤ 1000000) (t : Bool) (i : Int) : MCalls Try.prog 52 [.lst 5 (l.map ND.c) t, .int .i64 i] St.none (fun r _ => r = .int .i64 (endS l i)) := by
  refine (MCalls.body 38 [.tmp 4] Try.func52 rfl rfl rfl rfl ?_)
  by_cases hi : i < 0 ∨ (l.length : Int) ≤ i
  · have he : endS l i = -1 := by
      unfold endS
      by_cases h0 : i < 0
      · rw [if_pos h0]
      · rw [if_neg h0, List.drop_eq_nil_of_le (by omega)]; rfl
    rw [he]
    repeat' (first | ((with_reducible refine wN fun nl hnl => ?_); revert hnl; (repeat with_reducible refine wS fun _ _ => ?_); intro hnl) | (with_reducible first | refine mdraw_plain mixed (by decide +kernel) ?_ | refine wI (fun h => ?_) (fun h => ?_) | refine wF (fun h => ?_) (fun h => ?_) | refine wG (fun h => ?_) (fun h => ?_) | refine wH (fun h => ?_) (fun h => ?_)) | (with_reducible refine mfork_bool (fun h => ?_) (fun h => ?_) <;> simp only [h]) | (with_reducible refine mgfork_bool (fun h => ?_) (fun h => ?_) <;> simp only [h]) | (simp (config := { maxSteps := 4000000 }) (disch := first | decide | assumption | omega | (simp only [wL]; omega)) only [go_sem, Nat.reduceAdd, Nat.reduceSub, Nat.reduceMul, Nat.reduceDiv, Nat.reduceMod, Nat.reduceLT, Nat.reduceLeDiff, Nat.reduceEqDiff, Nat.reduceSucc, Nat.reduceGT, Int.reduceAdd, Int.reduceSub, Int.reduceMul, Int.reduceNeg, Int.reduceLT, Int.reduceLE, Int.reduceEq, Int.reduceToNat, reduceIte, Try.f52]))
  · obtain ⟨m, hm⟩ : ∃ m, l.drop i.toNat = m := ⟨_, rfl⟩
    have hml : l.length - i.toNat = m.length := by rw [← hm]; simp
    have hm0 : m.length ≤ 1000000 := by omega
    have hb : i + m.length ≤ 1000000 := by omega
    have h0 : 0 ≤ i := by omega
    rw [endS_in hi, hm]
    repeat' (first | ((with_reducible refine wN fun nl hnl => ?_); revert hnl; (repeat with_reducible refine wS fun _ _ => ?_); intro hnl) | (with_reducible first | refine mdraw_plain mixed (by decide +kernel) ?_ | refine wI (fun h => ?_) (fun h => ?_) | refine wF (fun h => ?_) (fun h => ?_) | refine wG (fun h => ?_) (fun h => ?_) | refine wH (fun h => ?_) (fun h => ?_)) | (with_reducible refine mfork_bool (fun h => ?_) (fun h => ?_) <;> simp only [h]) | (with_reducible refine mgfork_bool (fun h => ?_) (fun h => ?_) <;> simp only [h]) | (simp (config := { maxSteps := 4000000 }) (disch := first | decide | assumption | omega | (simp only [wL]; omega)) only [go_sem, Nat.reduceAdd, Nat.reduceSub, Nat.reduceMul, Nat.reduceDiv, Nat.reduceMod, Nat.reduceLT, Nat.reduceLeDiff, Nat.reduceEqDiff, Nat.reduceSucc, Nat.reduceGT, Int.reduceAdd, Int.reduceSub, Int.reduceMul, Int.reduceNeg, Int.reduceLT, Int.reduceLE, Int.reduceEq, Int.reduceToNat, reduceIte, Try.f52, hm, hml]))
    refine mloop_intro (α := Nat × Nat) (fun a => ⟨38, [(20, .int .i64 (a.1 : Int)), (19, .int .i64 (m.length : Int)), (18, .lst 5 (m.map ND.c) t), (5, .int .i64 (a.2 : Int)), (1, .int .i64 i)], []⟩) (fun _ => St.none)
      (fun a => a.1 ≤ m.length ∧ 1 ≤ a.2 ∧ a.2 ≤ 1 + a.1 ∧ endN 1 m = (endN a.2 (m.drop a.1)).map (· + a.1)) (fun a => m.length - a.1) (.of (.less ?_ (St.le_refl _)) ⟨(0, 1), rfl, rfl, by simp⟩) ?_
    · simp (config := { maxSteps := 4000000 }) (disch := first | decide | assumption | omega | (simp only [wL]; omega)) only [go_sem, Nat.reduceAdd, Nat.reduceSub, Nat.reduceMul, Nat.reduceDiv, Nat.reduceMod, Nat.reduceLT, Nat.reduceLeDiff, Nat.reduceEqDiff, Nat.reduceSucc, Nat.reduceGT, Int.reduceAdd, Int.reduceSub, Int.reduceMul, Int.reduceNeg, Int.reduceLT, Int.reduceLE, Int.reduceEq, Int.reduceToNat, reduceIte, weak_int, weak_same]
      omega
    · rintro ⟨k, n⟩ ⟨h1, h2, h3, h4⟩
      simp only at h1 h2 h3 h4 ⊢
      obtain ⟨q, rfl⟩ : ∃ q, n = q + 1 := ⟨n - 1, by omega⟩
      by_cases hk : k < m.length
      · have hp := parts_cases (m.getD k nd0).op
        rw [endN_step hk] at h4
        obtain ⟨pp, hpp⟩ : ∃ pp : Nat, parts (m.getD k nd0).op = pp := ⟨_, rfl⟩
        rw [hpp] at h4 hp
        by_cases hz : q + pp = 0
        · rw [hz] at h4
          have hq : q = 0 := by omega
          have hpz : pp = 0 := by omega
          subst hq
          rw [hpz] at hpp
          repeat' (first | (with_reducible refine use_pure (parts_call _) ?_) | ((with_reducible refine wN fun nl hnl => ?_); revert hnl; (repeat with_reducible refine wS fun _ _ => ?_); intro hnl) | (with_reducible first | refine mdraw_plain mixed (by decide +kernel) ?_ | refine wI (fun h => ?_) (fun h => ?_) | refine wF (fun h => ?_) (fun h => ?_) | refine wG (fun h => ?_) (fun h => ?_) | refine wH (fun h => ?_) (fun h => ?_)) | (with_reducible refine mfork_bool (fun h => ?_) (fun h => ?_) <;> simp only [h]) | (with_reducible refine mgfork_bool (fun h => ?_) (fun h => ?_) <;> simp only [h]) | (simp (config := { maxSteps := 4000000 }) (disch := first | decide | assumption | omega | (simp only [wL]; omega)) only [go_sem, Nat.reduceAdd, Nat.reduceSub, Nat.reduceMul, Nat.reduceDiv, Nat.reduceMod, Nat.reduceLT, Nat.reduceLeDiff, Nat.reduceEqDiff, Nat.reduceSucc, Nat.reduceGT, Int.reduceAdd, Int.reduceSub, Int.reduceMul, Int.reduceNeg, Int.reduceLT, Int.reduceLE, Int.reduceEq, Int.reduceToNat, reduceIte, getD_mapd nd0, hpp]))
          rw [h4]
          simp only [endN, Option.map_some, MV.int.injEq, true_and]
          have e1 : ((0 + 1 + k : Nat) : Int) = (k : Int) + 1 := by omega
          rw [e1, Int.add_assoc]
        · repeat' (first | (with_reducible refine use_pure (parts_call _) ?_) | ((with_reducible refine wN fun nl hnl => ?_); revert hnl; (repeat with_reducible refine wS fun _ _ => ?_); intro hnl) | (with_reducible first | refine mdraw_plain mixed (by decide +kernel) ?_ | refine wI (fun h => ?_) (fun h => ?_) | refine wF (fun h => ?_) (fun h => ?_) | refine wG (fun h => ?_) (fun h => ?_) | refine wH (fun h => ?_) (fun h => ?_)) | (with_reducible refine mfork_bool (fun h => ?_) (fun h => ?_) <;> simp only [h]) | (with_reducible refine mgfork_bool (fun h => ?_) (fun h => ?_) <;> simp only [h]) | (simp (config := { maxSteps := 4000000 }) (disch := first | decide | assumption | omega | (simp only [wL]; omega)) only [go_sem, Nat.reduceAdd, Nat.reduceSub, Nat.reduceMul, Nat.reduceDiv, Nat.reduceMod, Nat.reduceLT, Nat.reduceLeDiff, Nat.reduceEqDiff, Nat.reduceSucc, Nat.reduceGT, Int.reduceAdd, Int.reduceSub, Int.reduceMul, Int.reduceNeg, Int.reduceLT, Int.reduceLE, Int.reduceEq, Int.reduceToNat, reduceIte, getD_mapd nd0, hpp]))
          refine .of (.less (l1 := [(20, .int .i64 ((k + 1 : Nat) : Int)), (19, .int .i64 (m.length : Int)), (18, .lst 5 (m.map ND.c) t), (5, .int .i64 ((q + pp : Nat) : Int)), (1, .int .i64 i)]) ?_ (St.none_le _)) ⟨(k + 1, q + pp), rfl, rfl, ⟨by simp only; omega, by simp only; omega, by simp only; omega, ?_⟩, by simp only; omega⟩
          · simp (config := { maxSteps := 4000000 }) (disch := first | decide | assumption | omega | (simp only [wL]; omega)) only [go_sem, Nat.reduceAdd, Nat.reduceSub, Nat.reduceMul, Nat.reduceDiv, Nat.reduceMod, Nat.reduceLT, Nat.reduceLeDiff, Nat.reduceEqDiff, Nat.reduceSucc, Nat.reduceGT, Int.reduceAdd, Int.reduceSub, Int.reduceMul, Int.reduceNeg, Int.reduceLT, Int.reduceLE, Int.reduceEq, Int.reduceToNat, reduceIte, weak_int, weak_same]
            omega
          · rw [h4]
            simp only [Option.map_map]
            congr 1
            funext k
            simp only [Function.comp]
            omega
      · rw [List.drop_eq_nil_of_le (by omega)] at h4
        rw [h4]
        repeat' (first | ((with_reducible refine wN fun nl hnl => ?_); revert hnl; (repeat with_reducible refine wS fun _ _ => ?_); intro hnl) | (with_reducible first | refine mdraw_plain mixed (by decide +kernel) ?_ | refine wI (fun h => ?_) (fun h => ?_) | refine wF (fun h => ?_) (fun h => ?_) | refine wG (fun h => ?_) (fun h => ?_) | refine wH (fun h => ?_) (fun h => ?_)) | (with_reducible refine mfork_bool (fun h => ?_) (fun h => ?_) <;> simp only [h]) | (with_reducible refine mgfork_bool (fun h => ?_) (fun h => ?_) <;> simp only [h]) | (simp (config := { maxSteps := 4000000 }) (disch := first | decide | assumption | omega | (simp only [wL]; omega)) only [go_sem, Nat.reduceAdd, Nat.reduceSub, Nat.reduceMul, Nat.reduceDiv, Nat.reduceMod, Nat.reduceLT, Nat.reduceLeDiff, Nat.reduceEqDiff, Nat.reduceSucc, Nat.reduceGT, Int.reduceAdd, Int.reduceSub, Int.reduceMul, Int.reduceNeg, Int.reduceLT, Int.reduceLE, Int.reduceEq, Int.reduceToNat, reduceIte, getD_mapd nd0]))
        rfl

theorem index_call (p : ND → Bool) (g : FuncId) (l : List ND) (hl : l.length ≤ 1000000) (t : Bool) (hg : ∀ x, x ∈ l → MCalls Try.prog g [.agg x.c] St.none (fun r _ => r = .bool (p x))) :
    MCalls Try.prog 75 [.lst 5 (l.map ND.c) t, .fn (.func g) [] []] St.none (fun r _ => r = .int .i64 (if l.any p then (l.findIdx p : Int) else -1)) := by
  refine (MCalls.body 19 [.tmp 4] Try.func75 rfl rfl rfl rfl ?_)
  repeat' (first | ((with_reducible refine wN fun nl hnl => ?_); revert hnl; (repeat with_reducible refine wS fun _ _ => ?_); intro hnl) | (with_reducible first | refine mdraw_plain mixed (by decide +kernel) ?_ | refine wI (fun h => ?_) (fun h => ?_) | refine wF (fun h => ?_) (fun h => ?_) | refine wG (fun h => ?_) (fun h => ?_) | refine wH (fun h => ?_) (fun h => ?_)) | (with_reducible refine mfork_bool (fun h => ?_) (fun h => ?_) <;> simp only [h]) | (with_reducible refine mgfork_bool (fun h => ?_) (fun h => ?_) <;> simp only [h]) | (simp (config := { maxSteps := 4000000 }) (disch := first | decide | assumption | omega | (simp only [wL]; omega)) only [go_sem, Nat.reduceAdd, Nat.reduceSub, Nat.reduceMul, Nat.reduceDiv, Nat.reduceMod, Nat.reduceLT, Nat.reduceLeDiff, Nat.reduceEqDiff, Nat.reduceSucc, Nat.reduceGT, Int.reduceAdd, Int.reduceSub, Int.reduceMul, Int.reduceNeg, Int.reduceLT, Int.reduceLE, Int.reduceEq, Int.reduceToNat, reduceIte, Try.f75]))
  refine mloop_intro (α := Nat) (fun k => ⟨19, [(8, .int .i64 (k : Int)), (7, .int .i64 (l.length : Int)), (6, .lst 5 (l.map ND.c) t), (0, .lst 5 (l.map ND.c) t), (1, .fn (.func g) [] [])], []⟩) (fun _ => St.none)
    (fun k => k ≤ l.length ∧ (l.take k).any p = false) (fun k => l.length - k) (.of (.less ?_ (St.le_refl _)) ⟨0, rfl, rfl, by simp⟩) ?_
  · simp (config := { maxSteps := 4000000 }) (disch := first | decide | assumption | omega | (simp only [wL]; omega)) only [go_sem, Nat.reduceAdd, Nat.reduceSub, Nat.reduceMul, Nat.reduceDiv, Nat.reduceMod, Nat.reduceLT, Nat.reduceLeDiff, Nat.reduceEqDiff, Nat.reduceSucc, Nat.reduceGT, Int.reduceAdd, Int.reduceSub, Int.reduceMul, Int.reduceNeg, Int.reduceLT, Int.reduceLE, Int.reduceEq, Int.reduceToNat, reduceIte, weak_int, weak_same]
    rfl
  · rintro k ⟨h1, h2⟩
    by_cases hk : k < l.length
    · have hgk := hg _ (getD_mem nd0 hk)
      cases hp : p (l.getD k nd0)
      · rw [hp] at hgk
        repeat' (first | (with_reducible refine use_pure hgk ?_) | ((with_reducible refine wN fun nl hnl => ?_); revert hnl; (repeat with_reducible refine wS fun _ _ => ?_); intro hnl) | (with_reducible first | refine mdraw_plain mixed (by decide +kernel) ?_ | refine wI (fun h => ?_) (fun h => ?_) | refine wF (fun h => ?_) (fun h => ?_) | refine wG (fun h => ?_) (fun h => ?_) | refine wH (fun h => ?_) (fun h => ?_)) | (with_reducible refine mfork_bool (fun h => ?_) (fun h => ?_) <;> simp only [h]) | (with_reducible refine mgfork_bool (fun h => ?_) (fun h => ?_) <;> simp only [h]) | (simp (config := { maxSteps := 4000000 }) (disch := first | decide | assumption | omega | (simp only [wL]; omega)) only [go_sem, Nat.reduceAdd, Nat.reduceSub, Nat.reduceMul, Nat.reduceDiv, Nat.reduceMod, Nat.reduceLT, Nat.reduceLeDiff, Nat.reduceEqDiff, Nat.reduceSucc, Nat.reduceGT, Int.reduceAdd, Int.reduceSub, Int.reduceMul, Int.reduceNeg, Int.reduceLT, Int.reduceLE, Int.reduceEq, Int.reduceToNat, reduceIte, getD_mapd nd0]))
        refine .of (.less (l1 := [(8, .int .i64 ((k + 1 : Nat) : Int)), (7, .int .i64 (l.length : Int)), (6, .lst 5 (l.map ND.c) t), (0, .lst 5 (l.map ND.c) t), (1, .fn (.func g) [] [])]) ?_ (St.le_refl _)) ⟨k + 1, rfl, rfl, ⟨by omega, ?_⟩, by omega⟩
        · simp (config := { maxSteps := 4000000 }) (disch := first | decide | assumption | omega | (simp only [wL]; omega)) only [go_sem, Nat.reduceAdd, Nat.reduceSub, Nat.reduceMul, Nat.reduceDiv, Nat.reduceMod, Nat.reduceLT, Nat.reduceLeDiff, Nat.reduceEqDiff, Nat.reduceSucc, Nat.reduceGT, Int.reduceAdd, Int.reduceSub, Int.reduceMul, Int.reduceNeg, Int.reduceLT, Int.reduceLE, Int.reduceEq, Int.reduceToNat, reduceIte, weak_int, weak_same]
          omega
        · rw [any_take_succ hk, h2, ← getD_of_lt nd0 hk, hp]; rfl
      · rw [hp] at hgk
        have hany : l.any p = true := List.any_eq_true.2 ⟨_, getD_mem nd0 hk, hp⟩
        have hf : l.findIdx p = k := by
          rw [List.findIdx_eq hk]
          refine ⟨by rw [← getD_of_lt nd0 hk]; exact hp, fun j hj => ?_⟩
          have := List.any_eq_false.1 h2 l[j] (by rw [List.mem_take_iff_getElem]; exact ⟨j, by omega, rfl⟩)
          simpa using this
        rw [hany, hf]
        repeat' (first | (with_reducible refine use_pure hgk ?_) | ((with_reducible refine wN fun nl hnl => ?_); revert hnl; (repeat with_reducible refine wS fun _ _ => ?_); intro hnl) | (with_reducible first | refine mdraw_plain mixed (by decide +kernel) ?_ | refine wI (fun h => ?_) (fun h => ?_) | refine wF (fun h => ?_) (fun h => ?_) | refine wG (fun h => ?_) (fun h => ?_) | refine wH (fun h => ?_) (fun h => ?_)) | (with_reducible refine mfork_bool (fun h => ?_) (fun h => ?_) <;> simp only [h]) | (with_reducible refine mgfork_bool (fun h => ?_) (fun h => ?_) <;> simp only [h]) | (simp (config := { maxSteps := 4000000 }) (disch := first | decide | assumption | omega | (simp only [wL]; omega)) only [go_sem, Nat.reduceAdd, Nat.reduceSub, Nat.reduceMul, Nat.reduceDiv, Nat.reduceMod, Nat.reduceLT, Nat.reduceLeDiff, Nat.reduceEqDiff, Nat.reduceSucc, Nat.reduceGT, Int.reduceAdd, Int.reduceSub, Int.reduceMul, Int.reduceNeg, Int.reduceLT, Int.reduceLE, Int.reduceEq, Int.reduceToNat, reduceIte, getD_mapd nd0]))
    · have : k = l.length := by omega
      subst this
      rw [List.take_length] at h2
      rw [h2]
      repeat' (first | ((with_reducible refine wN fun nl hnl => ?_); revert hnl; (repeat with_reducible refine wS fun _ _ => ?_); intro hnl) | (with_reducible first | refine mdraw_plain mixed (by decide +kernel) ?_ | refine wI (fun h => ?_) (fun h => ?_) | refine wF (fun h => ?_) (fun h => ?_) | refine wG (fun h => ?_) (fun h => ?_) | refine wH (fun h => ?_) (fun h => ?_)) | (with_reducible refine mfork_bool (fun h => ?_) (fun h => ?_) <;> simp only [h]) | (with_reducible refine mgfork_bool (fun h => ?_) (fun h => ?_) <;> simp only [h]) | (simp (config := { maxSteps := 4000000 }) (disch := first | decide | assumption | omega | (simp only [wL]; omega)) only [go_sem, Nat.reduceAdd, Nat.reduceSub, Nat.reduceMul, Nat.reduceDiv, Nat.reduceMod, Nat.reduceLT, Nat.reduceLeDiff, Nat.reduceEqDiff, Nat.reduceSucc, Nat.reduceGT, Int.reduceAdd, Int.reduceSub, Int.reduceMul, Int.reduceNeg, Int.reduceLT, Int.reduceLE, Int.reduceEq, Int.reduceToNat, reduceIte, getD_mapd nd0]))

theorem contains_call (p : ND → Bool) (g : FuncId) (l : List ND) (hl : l.length ≤ 1000000) (t : Bool) (hg : ∀ x, x ∈ l → MCalls Try.prog g [.agg x.c] St.none (fun r _ => r = .bool (p x))) :
    MCalls Try.prog 53 [.lst 5 (l.map ND.c) t, .fn (.func g) [] []] St.none (fun r _ => r = .bool (l.any p)) := by
  refine (MCalls.body 9 [.tmp 4] Try.func53 rfl rfl rfl rfl ?_)
  have hi := index_call p g l hl t hg
  cases hany : l.any p
  · rw [hany] at hi
    simp only [Bool.false_eq_true, if_false] at hi
    repeat' (first | (with_reducible refine use_pure hi ?_) | ((with_reducible refine wN fun nl hnl => ?_); revert hnl; (repeat with_reducible refine wS fun _ _ => ?_); intro hnl) | (with_reducible first | refine mdraw_plain mixed (by decide +kernel) ?_ | refine wI (fun h => ?_) (fun h => ?_) | refine wF (fun h => ?_) (fun h => ?_) | refine wG (fun h => ?_) (fun h => ?_) | refine wH (fun h => ?_) (fun h => ?_)) | (with_reducible refine mfork_bool (fun h => ?_) (fun h => ?_) <;> simp only [h]) | (with_reducible refine mgfork_bool (fun h => ?_) (fun h => ?_) <;> simp only [h]) | (simp (config := { maxSteps := 4000000 }) (disch := first | decide | assumption | omega | (simp only [wL]; omega)) only [go_sem, Nat.reduceAdd, Nat.reduceSub, Nat.reduceMul, Nat.reduceDiv, Nat.reduceMod, Nat.reduceLT, Nat.reduceLeDiff, Nat.reduceEqDiff, Nat.reduceSucc, Nat.reduceGT, Int.reduceAdd, Int.reduceSub, Int.reduceMul, Int.reduceNeg, Int.reduceLT, Int.reduceLE, Int.reduceEq, Int.reduceToNat, reduceIte, Try.f53]))
  · rw [hany] at hi
    simp only [if_true] at hi
    repeat' (first | (with_reducible refine use_pure hi ?_) | ((with_reducible refine wN fun nl hnl => ?_); revert hnl; (repeat with_reducible refine wS fun _ _ => ?_); intro hnl) | (with_reducible first | refine mdraw_plain mixed (by decide +kernel) ?_ | refine wI (fun h => ?_) (fun h => ?_) | refine wF (fun h => ?_) (fun h => ?_) | refine wG (fun h => ?_) (fun h => ?_) | refine wH (fun h => ?_) (fun h => ?_)) | (with_reducible refine mfork_bool (fun h => ?_) (fun h => ?_) <;> simp only [h]) | (with_reducible refine mgfork_bool (fun h => ?_) (fun h => ?_) <;> simp only [h]) | (simp (config := { maxSteps := 4000000 }) (disch := first | decide | assumption | omega | (simp only [wL]; omega)) only [go_sem, Nat.reduceAdd, Nat.reduceSub, Nat.reduceMul, Nat.reduceDiv, Nat.reduceMod, Nat.reduceLT, Nat.reduceLeDiff, Nat.reduceEqDiff, Nat.reduceSucc, Nat.reduceGT, Int.reduceAdd, Int.reduceSub, Int.reduceMul, Int.reduceNeg, Int.reduceLT, Int.reduceLE, Int.reduceEq, Int.reduceToNat, reduceIte, Try.f53]))
    simp

theorem or_call (a b c : Int) : MCalls Try.prog 72 [.lst 1 [[.int .i64 a], [.int .i64 b], [.int .i64 c]] false] St.none (fun r _ => r = .int .i64 (if a ≠ 0 then a else if b ≠ 0 then b else c)) := by
  refine (MCalls.body 18 [.tmp 2] Try.func72 rfl rfl rfl rfl ?_)
  repeat' (first | ((with_reducible refine wN fun nl hnl => ?_); revert hnl; (repeat with_reducible refine wS fun _ _ => ?_); intro hnl) | (with_reducible first | refine mdraw_plain mixed (by decide +kernel) ?_ | refine wI (fun h => ?_) (fun h => ?_) | refine wF (fun h => ?_) (fun h => ?_) | refine wG (fun h => ?_) (fun h => ?_) | refine wH (fun h => ?_) (fun h => ?_)) | (with_reducible refine mfork_bool (fun h => ?_) (fun h => ?_) <;> simp only [h]) | (with_reducible refine mgfork_bool (fun h => ?_) (fun h => ?_) <;> simp only [h]) | (simp (config := { maxSteps := 4000000 }) (disch := first | decide | assumption | omega | (simp only [wL]; omega)) only [go_sem, Nat.reduceAdd, Nat.reduceSub, Nat.reduceMul, Nat.reduceDiv, Nat.reduceMod, Nat.reduceLT, Nat.reduceLeDiff, Nat.reduceEqDiff, Nat.reduceSucc, Nat.reduceGT, Int.reduceAdd, Int.reduceSub, Int.reduceMul, Int.reduceNeg, Int.reduceLT, Int.reduceLE, Int.reduceEq, Int.reduceToNat, reduceIte, Try.f72]))
  refine mloop_intro (α := Nat) (fun k => ⟨18, [(8, .int .i64 (k : Int)), (7, .int .i64 3), (6, .lst 1 [[.int .i64 a], [.int .i64 b], [.int .i64 c]] false), (3, .int .i64 0)], []⟩) (fun _ => St.none)
    (fun k => k ≤ 3 ∧ (0 < k → a = 0) ∧ (1 < k → b = 0) ∧ (2 < k → c = 0)) (fun k => 3 - k) (.of (.less ?_ (St.le_refl _)) ⟨0, rfl, rfl, by omega⟩) ?_
  · simp (config := { maxSteps := 4000000 }) (disch := first | decide | assumption | omega | (simp only [wL]; omega)) only [go_sem, Nat.reduceAdd, Nat.reduceSub, Nat.reduceMul, Nat.reduceDiv, Nat.reduceMod, Nat.reduceLT, Nat.reduceLeDiff, Nat.reduceEqDiff, Nat.reduceSucc, Nat.reduceGT, Int.reduceAdd, Int.reduceSub, Int.reduceMul, Int.reduceNeg, Int.reduceLT, Int.reduceLE, Int.reduceEq, Int.reduceToNat, reduceIte, weak_int, weak_same]
    omega
  · rintro k ⟨h1, h2, h3, h4⟩
    have hk : k = 0 ∨ k = 1 ∨ k = 2 ∨ k = 3 := by omega
    rcases hk with rfl | rfl | rfl | rfl
    · by_cases ha : a = 0
      · subst ha
        repeat' (first | ((with_reducible refine wN fun nl hnl => ?_); revert hnl; (repeat with_reducible refine wS fun _ _ => ?_); intro hnl) | (with_reducible first | refine mdraw_plain mixed (by decide +kernel) ?_ | refine wI (fun h => ?_) (fun h => ?_) | refine wF (fun h => ?_) (fun h => ?_) | refine wG (fun h => ?_) (fun h => ?_) | refine wH (fun h => ?_) (fun h => ?_)) | (with_reducible refine mfork_bool (fun h => ?_) (fun h => ?_) <;> simp only [h]) | (with_reducible refine mgfork_bool (fun h => ?_) (fun h => ?_) <;> simp only [h]) | (simp (config := { maxSteps := 4000000 }) (disch := first | decide | assumption | omega | (simp only [wL]; omega)) only [go_sem, Nat.reduceAdd, Nat.reduceSub, Nat.reduceMul, Nat.reduceDiv, Nat.reduceMod, Nat.reduceLT, Nat.reduceLeDiff, Nat.reduceEqDiff, Nat.reduceSucc, Nat.reduceGT, Int.reduceAdd, Int.reduceSub, Int.reduceMul, Int.reduceNeg, Int.reduceLT, Int.reduceLE, Int.reduceEq, Int.reduceToNat, reduceIte]))
        refine .of (.less (l1 := [(8, .int .i64 ((1 : Nat) : Int)), (7, .int .i64 3), (6, .lst 1 [[.int .i64 0], [.int .i64 b], [.int .i64 c]] false), (3, .int .i64 0)]) ?_ (St.none_le _)) ⟨1, rfl, rfl, ⟨by omega, fun _ => trivial, fun h => by first | assumption | omega, fun h => by first | assumption | omega⟩, by omega⟩
        simp (config := { maxSteps := 4000000 }) (disch := first | decide | assumption | omega | (simp only [wL]; omega)) only [go_sem, Nat.reduceAdd, Nat.reduceSub, Nat.reduceMul, Nat.reduceDiv, Nat.reduceMod, Nat.reduceLT, Nat.reduceLeDiff, Nat.reduceEqDiff, Nat.reduceSucc, Nat.reduceGT, Int.reduceAdd, Int.reduceSub, Int.reduceMul, Int.reduceNeg, Int.reduceLT, Int.reduceLE, Int.reduceEq, Int.reduceToNat, reduceIte, weak_int, weak_same]
        all_goals omega
      · repeat' (first | ((with_reducible refine wN fun nl hnl => ?_); revert hnl; (repeat with_reducible refine wS fun _ _ => ?_); intro hnl) | (with_reducible first | refine mdraw_plain mixed (by decide +kernel) ?_ | refine wI (fun h => ?_) (fun h => ?_) | refine wF (fun h => ?_) (fun h => ?_) | refine wG (fun h => ?_) (fun h => ?_) | refine wH (fun h => ?_) (fun h => ?_)) | (with_reducible refine mfork_bool (fun h => ?_) (fun h => ?_) <;> simp only [h]) | (with_reducible refine mgfork_bool (fun h => ?_) (fun h => ?_) <;> simp only [h]) | (simp (config := { maxSteps := 4000000 }) (disch := first | decide | assumption | omega | (simp only [wL]; omega)) only [go_sem, Nat.reduceAdd, Nat.reduceSub, Nat.reduceMul, Nat.reduceDiv, Nat.reduceMod, Nat.reduceLT, Nat.reduceLeDiff, Nat.reduceEqDiff, Nat.reduceSucc, Nat.reduceGT, Int.reduceAdd, Int.reduceSub, Int.reduceMul, Int.reduceNeg, Int.reduceLT, Int.reduceLE, Int.reduceEq, Int.reduceToNat, reduceIte]))
        all_goals simp [ha]
    · have ha := h2 (by omega)
      by_cases hb : b = 0
      · repeat' (first | ((with_reducible refine wN fun nl hnl => ?_); revert hnl; (repeat with_reducible refine wS fun _ _ => ?_); intro hnl) | (with_reducible first | refine mdraw_plain mixed (by decide +kernel) ?_ | refine wI (fun h => ?_) (fun h => ?_) | refine wF (fun h => ?_) (fun h => ?_) | refine wG (fun h => ?_) (fun h => ?_) | refine wH (fun h => ?_) (fun h => ?_)) | (with_reducible refine mfork_bool (fun h => ?_) (fun h => ?_) <;> simp only [h]) | (with_reducible refine mgfork_bool (fun h => ?_) (fun h => ?_) <;> simp only [h]) | (simp (config := { maxSteps := 4000000 }) (disch := first | decide | assumption | omega | (simp only [wL]; omega)) only [go_sem, Nat.reduceAdd, Nat.reduceSub, Nat.reduceMul, Nat.reduceDiv, Nat.reduceMod, Nat.reduceLT, Nat.reduceLeDiff, Nat.reduceEqDiff, Nat.reduceSucc, Nat.reduceGT, Int.reduceAdd, Int.reduceSub, Int.reduceMul, Int.reduceNeg, Int.reduceLT, Int.reduceLE, Int.reduceEq, Int.reduceToNat, reduceIte]))
        refine .of (.less (l1 := [(8, .int .i64 ((2 : Nat) : Int)), (7, .int .i64 3), (6, .lst 1 [[.int .i64 a], [.int .i64 b], [.int .i64 c]] false), (3, .int .i64 0)]) ?_ (St.none_le _)) ⟨2, rfl, rfl, ⟨by omega, fun _ => by assumption, fun h => by first | assumption | omega, fun h => by first | assumption | omega⟩, by omega⟩
        simp (config := { maxSteps := 4000000 }) (disch := first | decide | assumption | omega | (simp only [wL]; omega)) only [go_sem, Nat.reduceAdd, Nat.reduceSub, Nat.reduceMul, Nat.reduceDiv, Nat.reduceMod, Nat.reduceLT, Nat.reduceLeDiff, Nat.reduceEqDiff, Nat.reduceSucc, Nat.reduceGT, Int.reduceAdd, Int.reduceSub, Int.reduceMul, Int.reduceNeg, Int.reduceLT, Int.reduceLE, Int.reduceEq, Int.reduceToNat, reduceIte, weak_int, weak_same]
        all_goals omega
      · repeat' (first | ((with_reducible refine wN fun nl hnl => ?_); revert hnl; (repeat with_reducible refine wS fun _ _ => ?_); intro hnl) | (with_reducible first | refine mdraw_plain mixed (by decide +kernel) ?_ | refine wI (fun h => ?_) (fun h => ?_) | refine wF (fun h => ?_) (fun h => ?_) | refine wG (fun h => ?_) (fun h => ?_) | refine wH (fun h => ?_) (fun h => ?_)) | (with_reducible refine mfork_bool (fun h => ?_) (fun h => ?_) <;> simp only [h]) | (with_reducible refine mgfork_bool (fun h => ?_) (fun h => ?_) <;> simp only [h]) | (simp (config := { maxSteps := 4000000 }) (disch := first | decide | assumption | omega | (simp only [wL]; omega)) only [go_sem, Nat.reduceAdd, Nat.reduceSub, Nat.reduceMul, Nat.reduceDiv, Nat.reduceMod, Nat.reduceLT, Nat.reduceLeDiff, Nat.reduceEqDiff, Nat.reduceSucc, Nat.reduceGT, Int.reduceAdd, Int.reduceSub, Int.reduceMul, Int.reduceNeg, Int.reduceLT, Int.reduceLE, Int.reduceEq, Int.reduceToNat, reduceIte]))
        all_goals simp [ha, hb]
    · have ha := h2 (by omega)
      have hb := h3 (by omega)
      by_cases hc : c = 0
      · repeat' (first | ((with_reducible refine wN fun nl hnl => ?_); revert hnl; (repeat with_reducible refine wS fun _ _ => ?_); intro hnl) | (with_reducible first | refine mdraw_plain mixed (by decide +kernel) ?_ | refine wI (fun h => ?_) (fun h => ?_) | refine wF (fun h => ?_) (fun h => ?_) | refine wG (fun h => ?_) (fun h => ?_) | refine wH (fun h => ?_) (fun h => ?_)) | (with_reducible refine mfork_bool (fun h => ?_) (fun h => ?_) <;> simp only [h]) | (with_reducible refine mgfork_bool (fun h => ?_) (fun h => ?_) <;> simp only [h]) | (simp (config := { maxSteps := 4000000 }) (disch := first | decide | assumption | omega | (simp only [wL]; omega)) only [go_sem, Nat.reduceAdd, Nat.reduceSub, Nat.reduceMul, Nat.reduceDiv, Nat.reduceMod, Nat.reduceLT, Nat.reduceLeDiff, Nat.reduceEqDiff, Nat.reduceSucc, Nat.reduceGT, Int.reduceAdd, Int.reduceSub, Int.reduceMul, Int.reduceNeg, Int.reduceLT, Int.reduceLE, Int.reduceEq, Int.reduceToNat, reduceIte]))
        refine .of (.less (l1 := [(8, .int .i64 ((3 : Nat) : Int)), (7, .int .i64 3), (6, .lst 1 [[.int .i64 a], [.int .i64 b], [.int .i64 c]] false), (3, .int .i64 0)]) ?_ (St.none_le _)) ⟨3, rfl, rfl, ⟨by omega, fun _ => by assumption, fun h => by first | assumption | omega, fun h => by first | assumption | omega⟩, by omega⟩
        simp (config := { maxSteps := 4000000 }) (disch := first | decide | assumption | omega | (simp only [wL]; omega)) only [go_sem, Nat.reduceAdd, Nat.reduceSub, Nat.reduceMul, Nat.reduceDiv, Nat.reduceMod, Nat.reduceLT, Nat.reduceLeDiff, Nat.reduceEqDiff, Nat.reduceSucc, Nat.reduceGT, Int.reduceAdd, Int.reduceSub, Int.reduceMul, Int.reduceNeg, Int.reduceLT, Int.reduceLE, Int.reduceEq, Int.reduceToNat, reduceIte, weak_int, weak_same]
        all_goals omega
      · repeat' (first | ((with_reducible refine wN fun nl hnl => ?_); revert hnl; (repeat with_reducible refine wS fun _ _ => ?_); intro hnl) | (with_reducible first | refine mdraw_plain mixed (by decide +kernel) ?_ | refine wI (fun h => ?_) (fun h => ?_) | refine wF (fun h => ?_) (fun h => ?_) | refine wG (fun h => ?_) (fun h => ?_) | refine wH (fun h => ?_) (fun h => ?_)) | (with_reducible refine mfork_bool (fun h => ?_) (fun h => ?_) <;> simp only [h]) | (with_reducible refine mgfork_bool (fun h => ?_) (fun h => ?_) <;> simp only [h]) | (simp (config := { maxSteps := 4000000 }) (disch := first | decide | assumption | omega | (simp only [wL]; omega)) only [go_sem, Nat.reduceAdd, Nat.reduceSub, Nat.reduceMul, Nat.reduceDiv, Nat.reduceMod, Nat.reduceLT, Nat.reduceLeDiff, Nat.reduceEqDiff, Nat.reduceSucc, Nat.reduceGT, Int.reduceAdd, Int.reduceSub, Int.reduceMul, Int.reduceNeg, Int.reduceLT, Int.reduceLE, Int.reduceEq, Int.reduceToNat, reduceIte]))
        all_goals simp [ha, hb]
    · repeat' (first | ((with_reducible refine wN fun nl hnl => ?_); revert hnl; (repeat with_reducible refine wS fun _ _ => ?_); intro hnl) | (with_reducible first | refine mdraw_plain mixed (by decide +kernel) ?_ | refine wI (fun h => ?_) (fun h => ?_) | refine wF (fun h => ?_) (fun h => ?_) | refine wG (fun h => ?_) (fun h => ?_) | refine wH (fun h => ?_) (fun h => ?_)) | (with_reducible refine mfork_bool (fun h => ?_) (fun h => ?_) <;> simp only [h]) | (with_reducible refine mgfork_bool (fun h => ?_) (fun h => ?_) <;> simp only [h]) | (simp (config := { maxSteps := 4000000 }) (disch := first | decide | assumption | omega | (simp only [wL]; omega)) only [go_sem, Nat.reduceAdd, Nat.reduceSub, Nat.reduceMul, Nat.reduceDiv, Nat.reduceMod, Nat.reduceLT, Nat.reduceLeDiff, Nat.reduceEqDiff, Nat.reduceSucc, Nat.reduceGT, Int.reduceAdd, Int.reduceSub, Int.reduceMul, Int.reduceNeg, Int.reduceLT, Int.reduceLE, Int.reduceEq, Int.reduceToNat, reduceIte]))
      simp [h2 (by omega), h3 (by omega), h4 (by omega)]

theorem cmpfn_call (g : FuncId) (a b : List ND) (la : a.length ≤ 1000000) (lb : b.length ≤ 1000000) (ta tb : Bool) (hg : ∀ x y, x ∈ a → y ∈ b → MCalls Try.prog g [.agg x.c, .agg y.c] St.none (fun r _ => r = .int .i64 (ordI (cmpL x.key y.key)))) :
    MCalls Try.prog 70 [.lst 5 (a.map ND.c) ta, .lst 5 (b.map ND.c) tb, .fn (.func g) [] []] St.none (fun r _ => r = .int .i64 (ordI (cmpF a b))) := by
  refine (MCalls.body 39 [.tmp 6] Try.func70 rfl rfl rfl rfl ?_)
  repeat' (first | ((with_reducible refine wN fun nl hnl => ?_); revert hnl; (repeat with_reducible refine wS fun _ _ => ?_); intro hnl) | (with_reducible first | refine mdraw_plain mixed (by decide +kernel) ?_ | refine wI (fun h => ?_) (fun h => ?_) | refine wF (fun h => ?_) (fun h => ?_) | refine wG (fun h => ?_) (fun h => ?_) | refine wH (fun h => ?_) (fun h => ?_)) | (with_reducible refine mfork_bool (fun h => ?_) (fun h => ?_) <;> simp only [h]) | (with_reducible refine mgfork_bool (fun h => ?_) (fun h => ?_) <;> simp only [h]) | (simp (config := { maxSteps := 4000000 }) (disch := first | decide | assumption | omega | (simp only [wL]; omega)) only [go_sem, Nat.reduceAdd, Nat.reduceSub, Nat.reduceMul, Nat.reduceDiv, Nat.reduceMod, Nat.reduceLT, Nat.reduceLeDiff, Nat.reduceEqDiff, Nat.reduceSucc, Nat.reduceGT, Int.reduceAdd, Int.reduceSub, Int.reduceMul, Int.reduceNeg, Int.reduceLT, Int.reduceLE, Int.reduceEq, Int.reduceToNat, reduceIte, Try.f70]))
  refine mloop_intro (α := Nat) (fun k => ⟨39, [(13, .int .i64 (k : Int)), (12, .int .i64 (a.length : Int)), (11, .lst 5 (a.map ND.c) ta), (0, .lst 5 (a.map ND.c) ta), (1, .lst 5 (b.map ND.c) tb), (2, .fn (.func g) [] [])], []⟩) (fun _ => St.none)
    (fun i => i ≤ a.length ∧ i ≤ b.length ∧ cmpF a b = cmpF (a.drop i) (b.drop i)) (fun k => a.length - k) (.of (.less ?_ (St.le_refl _)) ⟨0, rfl, rfl, by simp⟩) ?_
  · simp (config := { maxSteps := 4000000 }) (disch := first | decide | assumption | omega | (simp only [wL]; omega)) only [go_sem, Nat.reduceAdd, Nat.reduceSub, Nat.reduceMul, Nat.reduceDiv, Nat.reduceMod, Nat.reduceLT, Nat.reduceLeDiff, Nat.reduceEqDiff, Nat.reduceSucc, Nat.reduceGT, Int.reduceAdd, Int.reduceSub, Int.reduceMul, Int.reduceNeg, Int.reduceLT, Int.reduceLE, Int.reduceEq, Int.reduceToNat, reduceIte, weak_int, weak_same]
    rfl
  · rintro i ⟨h3, h4, h5⟩
    by_cases hi1 : i < a.length
    · by_cases hi2 : i < b.length
      · rw [drop_getD nd0 hi1, drop_getD nd0 hi2, cmpF_cons] at h5
        have hord := hg _ _ (getD_mem nd0 hi1) (getD_mem nd0 hi2)
        generalize ho : cmpL (a.getD i nd0).key (b.getD i nd0).key = o at h5 hord
        by_cases hoe : o = .eq
        · have h0 : ordI o = 0 := by rw [hoe]; rfl
          rw [h0] at hord
          rw [if_pos hoe] at h5
          repeat' (first | (with_reducible refine use_pure hord ?_) | ((with_reducible refine wN fun nl hnl => ?_); revert hnl; (repeat with_reducible refine wS fun _ _ => ?_); intro hnl) | (with_reducible first | refine mdraw_plain mixed (by decide +kernel) ?_ | refine wI (fun h => ?_) (fun h => ?_) | refine wF (fun h => ?_) (fun h => ?_) | refine wG (fun h => ?_) (fun h => ?_) | refine wH (fun h => ?_) (fun h => ?_)) | (with_reducible refine mfork_bool (fun h => ?_) (fun h => ?_) <;> simp only [h]) | (with_reducible refine mgfork_bool (fun h => ?_) (fun h => ?_) <;> simp only [h]) | (simp (config := { maxSteps := 4000000 }) (disch := first | decide | assumption | omega | (simp only [wL]; omega)) only [go_sem, Nat.reduceAdd, Nat.reduceSub, Nat.reduceMul, Nat.reduceDiv, Nat.reduceMod, Nat.reduceLT, Nat.reduceLeDiff, Nat.reduceEqDiff, Nat.reduceSucc, Nat.reduceGT, Int.reduceAdd, Int.reduceSub, Int.reduceMul, Int.reduceNeg, Int.reduceLT, Int.reduceLE, Int.reduceEq, Int.reduceToNat, reduceIte, getD_mapd nd0]))
          refine .of (.less (l1 := [(13, .int .i64 ((i + 1 : Nat) : Int)), (12, .int .i64 (a.length : Int)), (11, .lst 5 (a.map ND.c) ta), (0, .lst 5 (a.map ND.c) ta), (1, .lst 5 (b.map ND.c) tb), (2, .fn (.func g) [] [])]) ?_ (St.none_le _)) ⟨i + 1, rfl, rfl, ⟨by omega, by omega, h5⟩, by omega⟩
          simp (config := { maxSteps := 4000000 }) (disch := first | decide | assumption | omega | (simp only [wL]; omega)) only [go_sem, Nat.reduceAdd, Nat.reduceSub, Nat.reduceMul, Nat.reduceDiv, Nat.reduceMod, Nat.reduceLT, Nat.reduceLeDiff, Nat.reduceEqDiff, Nat.reduceSucc, Nat.reduceGT, Int.reduceAdd, Int.reduceSub, Int.reduceMul, Int.reduceNeg, Int.reduceLT, Int.reduceLE, Int.reduceEq, Int.reduceToNat, reduceIte, weak_int, weak_same]
          omega
        · have h0 : ordI o ≠ 0 := fun h => hoe (ordI_zero.1 h)
          rw [if_neg hoe] at h5
          rw [h5]
          repeat' (first | (with_reducible refine use_pure hord ?_) | ((with_reducible refine wN fun nl hnl => ?_); revert hnl; (repeat with_reducible refine wS fun _ _ => ?_); intro hnl) | (with_reducible first | refine mdraw_plain mixed (by decide +kernel) ?_ | refine wI (fun h => ?_) (fun h => ?_) | refine wF (fun h => ?_) (fun h => ?_) | refine wG (fun h => ?_) (fun h => ?_) | refine wH (fun h => ?_) (fun h => ?_)) | (with_reducible refine mfork_bool (fun h => ?_) (fun h => ?_) <;> simp only [h]) | (with_reducible refine mgfork_bool (fun h => ?_) (fun h => ?_) <;> simp only [h]) | (simp (config := { maxSteps := 4000000 }) (disch := first | decide | assumption | omega | (simp only [wL]; omega)) only [go_sem, Nat.reduceAdd, Nat.reduceSub, Nat.reduceMul, Nat.reduceDiv, Nat.reduceMod, Nat.reduceLT, Nat.reduceLeDiff, Nat.reduceEqDiff, Nat.reduceSucc, Nat.reduceGT, Int.reduceAdd, Int.reduceSub, Int.reduceMul, Int.reduceNeg, Int.reduceLT, Int.reduceLE, Int.reduceEq, Int.reduceToNat, reduceIte, getD_mapd nd0]))
      · rw [drop_getD nd0 hi1, List.drop_eq_nil_of_le (show b.length ≤ i by omega)] at h5
        rw [h5]
        repeat' (first | ((with_reducible refine wN fun nl hnl => ?_); revert hnl; (repeat with_reducible refine wS fun _ _ => ?_); intro hnl) | (with_reducible first | refine mdraw_plain mixed (by decide +kernel) ?_ | refine wI (fun h => ?_) (fun h => ?_) | refine wF (fun h => ?_) (fun h => ?_) | refine wG (fun h => ?_) (fun h => ?_) | refine wH (fun h => ?_) (fun h => ?_)) | (with_reducible refine mfork_bool (fun h => ?_) (fun h => ?_) <;> simp only [h]) | (with_reducible refine mgfork_bool (fun h => ?_) (fun h => ?_) <;> simp only [h]) | (simp (config := { maxSteps := 4000000 }) (disch := first | decide | assumption | omega | (simp only [wL]; omega)) only [go_sem, Nat.reduceAdd, Nat.reduceSub, Nat.reduceMul, Nat.reduceDiv, Nat.reduceMod, Nat.reduceLT, Nat.reduceLeDiff, Nat.reduceEqDiff, Nat.reduceSucc, Nat.reduceGT, Int.reduceAdd, Int.reduceSub, Int.reduceMul, Int.reduceNeg, Int.reduceLT, Int.reduceLE, Int.reduceEq, Int.reduceToNat, reduceIte, getD_mapd nd0]))
        rfl
    · rw [List.drop_eq_nil_of_le (show a.length ≤ i by omega)] at h5
      by_cases h8 : i < b.length
      · rw [drop_getD nd0 h8] at h5
        rw [h5]
        repeat' (first | ((with_reducible refine wN fun nl hnl => ?_); revert hnl; (repeat with_reducible refine wS fun _ _ => ?_); intro hnl) | (with_reducible first | refine mdraw_plain mixed (by decide +kernel) ?_ | refine wI (fun h => ?_) (fun h => ?_) | refine wF (fun h => ?_) (fun h => ?_) | refine wG (fun h => ?_) (fun h => ?_) | refine wH (fun h => ?_) (fun h => ?_)) | (with_reducible refine mfork_bool (fun h => ?_) (fun h => ?_) <;> simp only [h]) | (with_reducible refine mgfork_bool (fun h => ?_) (fun h => ?_) <;> simp only [h]) | (simp (config := { maxSteps := 4000000 }) (disch := first | decide | assumption | omega | (simp only [wL]; omega)) only [go_sem, Nat.reduceAdd, Nat.reduceSub, Nat.reduceMul, Nat.reduceDiv, Nat.reduceMod, Nat.reduceLT, Nat.reduceLeDiff, Nat.reduceEqDiff, Nat.reduceSucc, Nat.reduceGT, Int.reduceAdd, Int.reduceSub, Int.reduceMul, Int.reduceNeg, Int.reduceLT, Int.reduceLE, Int.reduceEq, Int.reduceToNat, reduceIte, getD_mapd nd0]))
        rfl
      · rw [List.drop_eq_nil_of_le (show b.length ≤ i by omega)] at h5
        rw [h5]
        repeat' (first | ((with_reducible refine wN fun nl hnl => ?_); revert hnl; (repeat with_reducible refine wS fun _ _ => ?_); intro hnl) | (with_reducible first | refine mdraw_plain mixed (by decide +kernel) ?_ | refine wI (fun h => ?_) (fun h => ?_) | refine wF (fun h => ?_) (fun h => ?_) | refine wG (fun h => ?_) (fun h => ?_) | refine wH (fun h => ?_) (fun h => ?_)) | (with_reducible refine mfork_bool (fun h => ?_) (fun h => ?_) <;> simp only [h]) | (with_reducible refine mgfork_bool (fun h => ?_) (fun h => ?_) <;> simp only [h]) | (simp (config := { maxSteps := 4000000 }) (disch := first | decide | assumption | omega | (simp only [wL]; omega)) only [go_sem, Nat.reduceAdd, Nat.reduceSub, Nat.reduceMul, Nat.reduceDiv, Nat.reduceMod, Nat.reduceLT, Nat.reduceLeDiff, Nat.reduceEqDiff, Nat.reduceSucc, Nat.reduceGT, Int.reduceAdd, Int.reduceSub, Int.reduceMul, Int.reduceNeg, Int.reduceLT, Int.reduceLE, Int.reduceEq, Int.reduceToNat, reduceIte, getD_mapd nd0]))
        rfl

theorem vcompare_call (a b : VA) : MCalls Try.prog 74 [.agg a.c, .agg b.c] St.none (fun r _ => r = .int .i64 (ordI (cmpL a.key b.key))) := by
  refine (MCalls.body 28 [.tmp 4] Try.func74 rfl rfl rfl rfl ?_)
  by_cases h1 : a.kd = b.kd
  · have e1 : cmpL a.key b.key = cmpL (a.n :: bk a.s) (b.n :: bk b.s) := by rw [VA.key, VA.key, h1, cmpL_same]; rfl
    have c1 : ordI (cmpL [a.kd] [b.kd]) = 0 := by rw [h1, cmpL_refl]; rfl
    by_cases h2 : a.n = b.n
    · have e2 : cmpL a.key b.key = cmpL (bk a.s) (bk b.s) := by rw [e1, h2, cmpL_same]
      have c2 : ordI (cmpL [a.n] [b.n]) = 0 := by rw [h2, cmpL_refl]; rfl
      rw [e2]
      repeat' (first | (with_reducible refine use_pure (cmpint_call _ _) ?_) | (with_reducible refine use_pure (cmpstr_call _ _) ?_) | ((with_reducible refine wN fun nl hnl => ?_); revert hnl; (repeat with_reducible refine wS fun _ _ => ?_); intro hnl) | (with_reducible first | refine mdraw_plain mixed (by decide +kernel) ?_ | refine wI (fun h => ?_) (fun h => ?_) | refine wF (fun h => ?_) (fun h => ?_) | refine wG (fun h => ?_) (fun h => ?_) | refine wH (fun h => ?_) (fun h => ?_)) | (with_reducible refine mfork_bool (fun h => ?_) (fun h => ?_) <;> simp only [h]) | (with_reducible refine mgfork_bool (fun h => ?_) (fun h => ?_) <;> simp only [h]) | (simp (config := { maxSteps := 4000000 }) (disch := first | decide | assumption | omega | (simp only [wL]; omega)) only [go_sem, Nat.reduceAdd, Nat.reduceSub, Nat.reduceMul, Nat.reduceDiv, Nat.reduceMod, Nat.reduceLT, Nat.reduceLeDiff, Nat.reduceEqDiff, Nat.reduceSucc, Nat.reduceGT, Int.reduceAdd, Int.reduceSub, Int.reduceMul, Int.reduceNeg, Int.reduceLT, Int.reduceLE, Int.reduceEq, Int.reduceToNat, reduceIte, Try.f74, c1, c2]))
    · have e2 : cmpL a.key b.key = cmpL [a.n] [b.n] := by rw [e1, cmpL_ne h2]
      have c2 : ordI (cmpL [a.n] [b.n]) ≠ 0 := fun h => h2 (by have := cmpL_eq.1 (ordI_zero.1 h); simpa using this)
      rw [e2]
      repeat' (first | (with_reducible refine use_pure (cmpint_call _ _) ?_) | (with_reducible refine use_pure (cmpstr_call _ _) ?_) | ((with_reducible refine wN fun nl hnl => ?_); revert hnl; (repeat with_reducible refine wS fun _ _ => ?_); intro hnl) | (with_reducible first | refine mdraw_plain mixed (by decide +kernel) ?_ | refine wI (fun h => ?_) (fun h => ?_) | refine wF (fun h => ?_) (fun h => ?_) | refine wG (fun h => ?_) (fun h => ?_) | refine wH (fun h => ?_) (fun h => ?_)) | (with_reducible refine mfork_bool (fun h => ?_) (fun h => ?_) <;> simp only [h]) | (with_reducible refine mgfork_bool (fun h => ?_) (fun h => ?_) <;> simp only [h]) | (simp (config := { maxSteps := 4000000 }) (disch := first | decide | assumption | omega | (simp only [wL]; omega)) only [go_sem, Nat.reduceAdd, Nat.reduceSub, Nat.reduceMul, Nat.reduceDiv, Nat.reduceMod, Nat.reduceLT, Nat.reduceLeDiff, Nat.reduceEqDiff, Nat.reduceSucc, Nat.reduceGT, Int.reduceAdd, Int.reduceSub, Int.reduceMul, Int.reduceNeg, Int.reduceLT, Int.reduceLE, Int.reduceEq, Int.reduceToNat, reduceIte, Try.f74, c1]))
  · have e1 : cmpL a.key b.key = cmpL [a.kd] [b.kd] := by rw [VA.key, VA.key, cmpL_ne h1]
    have c1 : ordI (cmpL [a.kd] [b.kd]) ≠ 0 := fun h => h1 (by have := cmpL_eq.1 (ordI_zero.1 h); simpa using this)
    rw [e1]
    repeat' (first | (with_reducible refine use_pure (cmpint_call _ _) ?_) | (with_reducible refine use_pure (cmpstr_call _ _) ?_) | ((with_reducible refine wN fun nl hnl => ?_); revert hnl; (repeat with_reducible refine wS fun _ _ => ?_); intro hnl) | (with_reducible first | refine mdraw_plain mixed (by decide +kernel) ?_ | refine wI (fun h => ?_) (fun h => ?_) | refine wF (fun h => ?_) (fun h => ?_) | refine wG (fun h => ?_) (fun h => ?_) | refine wH (fun h => ?_) (fun h => ?_)) | (with_reducible refine mfork_bool (fun h => ?_) (fun h => ?_) <;> simp only [h]) | (with_reducible refine mgfork_bool (fun h => ?_) (fun h => ?_) <;> simp only [h]) | (simp (config := { maxSteps := 4000000 }) (disch := first | decide | assumption | omega | (simp only [wL]; omega)) only [go_sem, Nat.reduceAdd, Nat.reduceSub, Nat.reduceMul, Nat.reduceDiv, Nat.reduceMod, Nat.reduceLT, Nat.reduceLeDiff, Nat.reduceEqDiff, Nat.reduceSucc, Nat.reduceGT, Int.reduceAdd, Int.reduceSub, Int.reduceMul, Int.reduceNeg, Int.reduceLT, Int.reduceLE, Int.reduceEq, Int.reduceToNat, reduceIte, Try.f74]))
end Go.Proofs.Ytielcgplbnlgbaa
end

section
/- Contracts of the program's own functions for filters: the conditions that each theorem names. -/
set_option linter.unusedVariables false
set_option linter.unusedSimpArgs false
namespace Go.Proofs.Ytielcgplbnlgbaa

def cmpIntV : List MV → MV
  | [.int _ a, .int _ b] => .int .i64 (ordI (cmpL [a] [b]))
  | _ => .junk

theorem or_at (l : Nat) (a b c : Int) : MCalls Try.prog 72 [.vec 1 l 0 3] (St.ofList [l] [.row 3 1 [[.int .i64 a], [.int .i64 b], [.int .i64 c]]]) (fun r σ' => r = .int .i64 (if a ≠ 0 then a else if b ≠ 0 then b else c) ∧ σ' = St.ofList [l] [.row 3 1 [[.int .i64 a], [.int .i64 b], [.int .i64 c]]]) :=
  MCalls.lend (or_call a b c) (fun r hr => by rw [hr]; exact .int _ _) rfl (fun i m m' h1 h2 => by
    match i, h1, h2 with
    | 0, h1, h2 =>
      simp only [List.getElem?_cons_zero, Option.some.injEq] at h1 h2
      subst h1 h2
      exact .vecAll (set_hit _ _ _) rfl)

theorem key_or (x y : ND) : (if ordI (cmpL [x.op] [y.op]) ≠ 0 then ordI (cmpL [x.op] [y.op]) else if ordI (cmpL [x.n] [y.n]) ≠ 0 then ordI (cmpL [x.n] [y.n]) else ordI (cmpL x.v.key y.v.key)) = ordI (cmpL x.key y.key) := by
  have z : ∀ a b : Int, ordI (cmpL [a] [b]) = 0 ↔ a = b := fun a b => by rw [ordI_zero, cmpL_eq]; simp
  by_cases h1 : x.op = y.op
  · rw [if_neg (by simp [(z _ _).2 h1])]
    have e1 : cmpL x.key y.key = cmpL (x.n :: x.v.key) (y.n :: y.v.key) := by rw [ND.key, ND.key, h1, cmpL_same]
    by_cases h2 : x.n = y.n
    · rw [if_neg (by simp [(z _ _).2 h2]), e1, h2, cmpL_same]
    · rw [if_pos (by rw [ne_eq, z]; exact h2), e1, cmpL_ne (x := x.v.key) (y := y.v.key) h2]
  · rw [if_pos (by rw [ne_eq, z]; exact h1), ND.key, ND.key, cmpL_ne (x := x.n :: x.v.key) (y := y.n :: y.v.key) h1]

def orC (x y : ND) : Know := fun g ms => if g = 73 then some ([], fun v => v = cmpIntV ms) else if g = 74 then some ([], fun v => v = .int .i64 (ordI (cmpL x.v.key y.v.key))) else if g = 72 then (match ms with
    | [.vec _ l _ _] => some ([l], fun v => v = .int .i64 (ordI (cmpL x.key y.key)))
    | _ => none) else none

theorem pcmp1_call (x y : ND) : MCalls Try.prog 71 [.agg x.c, .agg y.c] St.none (fun r _ => r = .int .i64 (ordI (cmpL x.key y.key))) := by
  refine (MCalls.body 22 [.tmp 4] Try.func71 rfl rfl rfl rfl ?_)
  have hv := vcompare_call x.v y.v
  have ho := fun l => or_at l (ordI (cmpL [x.op] [y.op])) (ordI (cmpL [x.n] [y.n])) (ordI (cmpL x.v.key y.v.key))
  simp only [key_or] at ho
  repeat' (first | (with_reducible refine mdraw_know mixed (by decide +kernel) (orC x y) ?_) | (with_reducible refine know_pure rfl (cmpint_call _ _) ?_) | (with_reducible refine know_pure rfl hv ?_) | ((with_reducible refine wN fun nl hnl => ?_); revert hnl; (repeat with_reducible refine wS fun _ _ => ?_); intro hnl) | (with_reducible first | refine mdraw_plain mixed (by decide +kernel) ?_ | refine wI (fun h => ?_) (fun h => ?_) | refine wF (fun h => ?_) (fun h => ?_) | refine wG (fun h => ?_) (fun h => ?_) | refine wH (fun h => ?_) (fun h => ?_)) | (with_reducible refine mfork_bool (fun h => ?_) (fun h => ?_) <;> simp only [h]) | (with_reducible refine mgfork_bool (fun h => ?_) (fun h => ?_) <;> simp only [h]) | (simp (config := { maxSteps := 4000000 }) (disch := first | decide | assumption | omega | (simp only [wL]; omega)) only [go_sem, Nat.reduceAdd, Nat.reduceSub, Nat.reduceMul, Nat.reduceDiv, Nat.reduceMod, Nat.reduceLT, Nat.reduceLeDiff, Nat.reduceEqDiff, Nat.reduceSucc, Nat.reduceGT, Int.reduceAdd, Int.reduceSub, Int.reduceMul, Int.reduceNeg, Int.reduceLT, Int.reduceLE, Int.reduceEq, Int.reduceToNat, reduceIte, Try.f71]))
  refine know_at [nl] [.row 3 1 [[.int .i64 (ordI (cmpL [x.op] [y.op]))], [.int .i64 (ordI (cmpL [x.n] [y.n]))], [.int .i64 (ordI (cmpL x.v.key y.v.key))]]] rfl ?_ (ho nl) ⟨_, rfl⟩ (fun v hv => ?_)
  · simp (config := { maxSteps := 4000000 }) (disch := first | decide | assumption | omega | (simp only [wL]; omega)) only [go_sem, Nat.reduceAdd, Nat.reduceSub, Nat.reduceMul, Nat.reduceDiv, Nat.reduceMod, Nat.reduceLT, Nat.reduceLeDiff, Nat.reduceEqDiff, Nat.reduceSucc, Nat.reduceGT, Int.reduceAdd, Int.reduceSub, Int.reduceMul, Int.reduceNeg, Int.reduceLT, Int.reduceLE, Int.reduceEq, Int.reduceToNat, reduceIte]
  subst hv
  repeat' (first | ((with_reducible refine wN fun nl hnl => ?_); revert hnl; (repeat with_reducible refine wS fun _ _ => ?_); intro hnl) | (with_reducible first | refine mdraw_plain mixed (by decide +kernel) ?_ | refine wI (fun h => ?_) (fun h => ?_) | refine wF (fun h => ?_) (fun h => ?_) | refine wG (fun h => ?_) (fun h => ?_) | refine wH (fun h => ?_) (fun h => ?_)) | (with_reducible refine mfork_bool (fun h => ?_) (fun h => ?_) <;> simp only [h]) | (with_reducible refine mgfork_bool (fun h => ?_) (fun h => ?_) <;> simp only [h]) | (simp (config := { maxSteps := 4000000 }) (disch := first | decide | assumption | omega | (simp only [wL]; omega)) only [go_sem, Nat.reduceAdd, Nat.reduceSub, Nat.reduceMul, Nat.reduceDiv, Nat.reduceMod, Nat.reduceLT, Nat.reduceLeDiff, Nat.reduceEqDiff, Nat.reduceSucc, Nat.reduceGT, Int.reduceAdd, Int.reduceSub, Int.reduceMul, Int.reduceNeg, Int.reduceLT, Int.reduceLE, Int.reduceEq, Int.reduceToNat, reduceIte]))

theorem vaOk_kd {v : VA} (h : vaOk v = true) : v.kd = 0 ∨ v.kd = 1 ∨ v.kd = 2 := by
  unfold vaOk at h
  split at h
  · exact .inl ‹_›
  · split at h
    · exact .inr (.inl ‹_›)
    · split at h
      · exact .inr (.inr ‹_›)
      · cases h

set_option maxHeartbeats 4000000 in
theorem pnode_call (x : ND) : MCalls Try.prog 55 [.agg x.c] St.none (fun r _ => r = .bool (ndOk x)) := by
  refine (MCalls.body 49 [.tmp 2] Try.func55 rfl rfl rfl rfl ?_)
  obtain ⟨op, n, kd, vn, s⟩ := x
  have hvc := vcheck_call kd vn s
  cases hv : vaOk ⟨kd, vn, s⟩
  · rw [hv] at hvc
    have h0 : (⟨kd, vn, s⟩ : VA) ≠ va0 := fun e => by rw [e] at hv; simp [vaOk, va0] at hv
    have hn : ndOk ⟨op, n, kd, vn, s⟩ = false := by simp [ndOk, h0, hv]
    rw [hn]
    repeat' (first | (with_reducible refine use_pure hvc ?_) | ((with_reducible refine wN fun nl hnl => ?_); revert hnl; (repeat with_reducible refine wS fun _ _ => ?_); intro hnl) | (with_reducible first | refine mdraw_plain mixed (by decide +kernel) ?_ | refine wI (fun h => ?_) (fun h => ?_) | refine wF (fun h => ?_) (fun h => ?_) | refine wG (fun h => ?_) (fun h => ?_) | refine wH (fun h => ?_) (fun h => ?_)) | (with_reducible refine mfork_bool (fun h => ?_) (fun h => ?_) <;> simp only [h]) | (with_reducible refine mgfork_bool (fun h => ?_) (fun h => ?_) <;> simp only [h]) | (simp (config := { maxSteps := 4000000 }) (disch := first | decide | assumption | omega | (simp only [wL]; omega)) only [go_sem, Nat.reduceAdd, Nat.reduceSub, Nat.reduceMul, Nat.reduceDiv, Nat.reduceMod, Nat.reduceLT, Nat.reduceLeDiff, Nat.reduceEqDiff, Nat.reduceSucc, Nat.reduceGT, Int.reduceAdd, Int.reduceSub, Int.reduceMul, Int.reduceNeg, Int.reduceLT, Int.reduceLE, Int.reduceEq, Int.reduceToNat, reduceIte, Try.f55]))
  · rw [hv] at hvc
    rcases vaOk_kd hv with h | h | h
    · simp only at h
      subst h
      have hz : (⟨0, vn, s⟩ : VA) = va0 := by simpa [vaOk] using hv
      simp only [va0, VA.mk.injEq, true_and] at hz
      obtain ⟨rfl, rfl⟩ := hz
      repeat' (first | (with_reducible refine use_pure hvc ?_) | ((with_reducible refine wN fun nl hnl => ?_); revert hnl; (repeat with_reducible refine wS fun _ _ => ?_); intro hnl) | (with_reducible first | refine mdraw_plain mixed (by decide +kernel) ?_ | refine wI (fun h => ?_) (fun h => ?_) | refine wF (fun h => ?_) (fun h => ?_) | refine wG (fun h => ?_) (fun h => ?_) | refine wH (fun h => ?_) (fun h => ?_)) | (with_reducible refine mfork_bool (fun h => ?_) (fun h => ?_) <;> simp only [h]) | (with_reducible refine mgfork_bool (fun h => ?_) (fun h => ?_) <;> simp only [h]) | (simp (config := { maxSteps := 4000000 }) (disch := first | decide | assumption | omega | (simp only [wL]; omega)) only [go_sem, Nat.reduceAdd, Nat.reduceSub, Nat.reduceMul, Nat.reduceDiv, Nat.reduceMod, Nat.reduceLT, Nat.reduceLeDiff, Nat.reduceEqDiff, Nat.reduceSucc, Nat.reduceGT, Int.reduceAdd, Int.reduceSub, Int.reduceMul, Int.reduceNeg, Int.reduceLT, Int.reduceLE, Int.reduceEq, Int.reduceToNat, reduceIte, Try.f55]))
      all_goals first
        | (simp [ndOk, va0, vaOk, andK, IntKind.wrap, IntKind.bits, IntKind.signed, *]; done)
        | (simp [ndOk, va0, vaOk, andK, IntKind.wrap, IntKind.bits, IntKind.signed, *]; omega)
        | (simp [ndOk, va0, vaOk, andK, IntKind.wrap, IntKind.bits, IntKind.signed, *]; decide)
    · simp only at h
      subst h
      have hz : (⟨1, vn, s⟩ : VA) ≠ va0 := by simp [va0]
      repeat' (first | (with_reducible refine use_pure hvc ?_) | ((with_reducible refine wN fun nl hnl => ?_); revert hnl; (repeat with_reducible refine wS fun _ _ => ?_); intro hnl) | (with_reducible first | refine mdraw_plain mixed (by decide +kernel) ?_ | refine wI (fun h => ?_) (fun h => ?_) | refine wF (fun h => ?_) (fun h => ?_) | refine wG (fun h => ?_) (fun h => ?_) | refine wH (fun h => ?_) (fun h => ?_)) | (with_reducible refine mfork_bool (fun h => ?_) (fun h => ?_) <;> simp only [h]) | (with_reducible refine mgfork_bool (fun h => ?_) (fun h => ?_) <;> simp only [h]) | (simp (config := { maxSteps := 4000000 }) (disch := first | decide | assumption | omega | (simp only [wL]; omega)) only [go_sem, Nat.reduceAdd, Nat.reduceSub, Nat.reduceMul, Nat.reduceDiv, Nat.reduceMod, Nat.reduceLT, Nat.reduceLeDiff, Nat.reduceEqDiff, Nat.reduceSucc, Nat.reduceGT, Int.reduceAdd, Int.reduceSub, Int.reduceMul, Int.reduceNeg, Int.reduceLT, Int.reduceLE, Int.reduceEq, Int.reduceToNat, reduceIte, Try.f55]))
      all_goals first
        | (simp [ndOk, hz, hv, andK, IntKind.wrap, IntKind.bits, IntKind.signed, *]; done)
        | (simp [ndOk, hz, hv, andK, IntKind.wrap, IntKind.bits, IntKind.signed, *]; omega)
        | (simp [ndOk, hz, hv, andK, IntKind.wrap, IntKind.bits, IntKind.signed, *]; decide)
    · simp only at h
      subst h
      have hz : (⟨2, vn, s⟩ : VA) ≠ va0 := by simp [va0]
      repeat' (first | (with_reducible refine use_pure hvc ?_) | ((with_reducible refine wN fun nl hnl => ?_); revert hnl; (repeat with_reducible refine wS fun _ _ => ?_); intro hnl) | (with_reducible first | refine mdraw_plain mixed (by decide +kernel) ?_ | refine wI (fun h => ?_) (fun h => ?_) | refine wF (fun h => ?_) (fun h => ?_) | refine wG (fun h => ?_) (fun h => ?_) | refine wH (fun h => ?_) (fun h => ?_)) | (with_reducible refine mfork_bool (fun h => ?_) (fun h => ?_) <;> simp only [h]) | (with_reducible refine mgfork_bool (fun h => ?_) (fun h => ?_) <;> simp only [h]) | (simp (config := { maxSteps := 4000000 }) (disch := first | decide | assumption | omega | (simp only [wL]; omega)) only [go_sem, Nat.reduceAdd, Nat.reduceSub, Nat.reduceMul, Nat.reduceDiv, Nat.reduceMod, Nat.reduceLT, Nat.reduceLeDiff, Nat.reduceEqDiff, Nat.reduceSucc, Nat.reduceGT, Int.reduceAdd, Int.reduceSub, Int.reduceMul, Int.reduceNeg, Int.reduceLT, Int.reduceLE, Int.reduceEq, Int.reduceToNat, reduceIte, Try.f55]))
      all_goals first
        | (simp [ndOk, hz, hv, andK, IntKind.wrap, IntKind.bits, IntKind.signed, *]; done)
        | (simp [ndOk, hz, hv, andK, IntKind.wrap, IntKind.bits, IntKind.signed, *]; omega)
        | (simp [ndOk, hz, hv, andK, IntKind.wrap, IntKind.bits, IntKind.signed, *]; decide)
end Go.Proofs.Ytielcgplbnlgbaa
end

section
/- Contracts of the program's own functions for filters (2), and of the library's that they call: the conditions that each theorem names. -/
set_option linter.unusedVariables false
set_option linter.unusedSimpArgs false
namespace Go.Proofs.Ytielcgplbnlgbaa

theorem nfit1_call (x : ND) : MCalls Try.prog 54 [.agg x.c] St.none (fun r _ => r = .bool (!ndOk x)) := by
  refine (MCalls.body 6 [.tmp 2] Try.func54 rfl rfl rfl rfl ?_)
  have h := pnode_call x
  repeat' (first | (with_reducible refine use_pure h ?_) | ((with_reducible refine wN fun nl hnl => ?_); revert hnl; (repeat with_reducible refine wS fun _ _ => ?_); intro hnl) | (with_reducible first | refine mdraw_plain mixed (by decide +kernel) ?_ | refine wI (fun h => ?_) (fun h => ?_) | refine wF (fun h => ?_) (fun h => ?_) | refine wG (fun h => ?_) (fun h => ?_) | refine wH (fun h => ?_) (fun h => ?_)) | (with_reducible refine mfork_bool (fun h => ?_) (fun h => ?_) <;> simp only [h]) | (with_reducible refine mgfork_bool (fun h => ?_) (fun h => ?_) <;> simp only [h]) | (simp (config := { maxSteps := 4000000 }) (disch := first | decide | assumption | omega | (simp only [wL]; omega)) only [go_sem, Nat.reduceAdd, Nat.reduceSub, Nat.reduceMul, Nat.reduceDiv, Nat.reduceMod, Nat.reduceLT, Nat.reduceLeDiff, Nat.reduceEqDiff, Nat.reduceSucc, Nat.reduceGT, Int.reduceAdd, Int.reduceSub, Int.reduceMul, Int.reduceNeg, Int.reduceLT, Int.reduceLE, Int.reduceEq, Int.reduceToNat, reduceIte, Try.f54]))

theorem nfit_call (l : List ND) (t : Bool) : MCalls Try.prog 33 [.lst 5 (l.map ND.c) t] St.none (fun r _ => r = .bool (fitS l)) := by
  refine (MCalls.body 21 [.tmp 2] Try.func33 rfl rfl rfl rfl ?_)
  by_cases h63 : l.length ≤ 63 ∧ 0 < l.length
  · have hne : l ≠ [] := List.length_pos_iff.1 h63.2
    have hc := contains_call (fun x => !ndOk x) 54 l (by omega) t (fun x _ => nfit1_call x)
    have hall : (l.any fun x => !ndOk x) = !l.all ndOk := by
      rw [Bool.eq_iff_iff]
      simp
    rw [hall] at hc
    repeat' (first | (with_reducible refine use_pure (pend_call _ (by omega) _ _) ?_) | (with_reducible refine use_pure hc ?_) | ((with_reducible refine wN fun nl hnl => ?_); revert hnl; (repeat with_reducible refine wS fun _ _ => ?_); intro hnl) | (with_reducible first | refine mdraw_plain mixed (by decide +kernel) ?_ | refine wI (fun h => ?_) (fun h => ?_) | refine wF (fun h => ?_) (fun h => ?_) | refine wG (fun h => ?_) (fun h => ?_) | refine wH (fun h => ?_) (fun h => ?_)) | (with_reducible refine mfork_bool (fun h => ?_) (fun h => ?_) <;> simp only [h]) | (with_reducible refine mgfork_bool (fun h => ?_) (fun h => ?_) <;> simp only [h]) | (simp (config := { maxSteps := 4000000 }) (disch := first | decide | assumption | omega | (simp only [wL]; omega)) only [go_sem, Nat.reduceAdd, Nat.reduceSub, Nat.reduceMul, Nat.reduceDiv, Nat.reduceMod, Nat.reduceLT, Nat.reduceLeDiff, Nat.reduceEqDiff, Nat.reduceSucc, Nat.reduceGT, Int.reduceAdd, Int.reduceSub, Int.reduceMul, Int.reduceNeg, Int.reduceLT, Int.reduceLE, Int.reduceEq, Int.reduceToNat, reduceIte, Try.f33]))
    · simp [fitS, *]
    · have he := Classical.not_not.1 h
      simp [fitS, *]
  · have hf : fitS l = false := by
      simp only [fitS, Bool.and_eq_false_iff, decide_eq_false_iff_not]
      left; left
      rintro ⟨h1, h2⟩; exact h63 ⟨h2, List.length_pos_iff.2 h1⟩
    rw [hf]
    repeat' (first | (with_reducible refine use_pure (pend_call _ (by omega) _ _) ?_) | ((with_reducible refine wN fun nl hnl => ?_); revert hnl; (repeat with_reducible refine wS fun _ _ => ?_); intro hnl) | (with_reducible first | refine mdraw_plain mixed (by decide +kernel) ?_ | refine wI (fun h => ?_) (fun h => ?_) | refine wF (fun h => ?_) (fun h => ?_) | refine wG (fun h => ?_) (fun h => ?_) | refine wH (fun h => ?_) (fun h => ?_)) | (with_reducible refine mfork_bool (fun h => ?_) (fun h => ?_) <;> simp only [h]) | (with_reducible refine mgfork_bool (fun h => ?_) (fun h => ?_) <;> simp only [h]) | (simp (config := { maxSteps := 4000000 }) (disch := first | decide | assumption | omega | (simp only [wL]; omega)) only [go_sem, Nat.reduceAdd, Nat.reduceSub, Nat.reduceMul, Nat.reduceDiv, Nat.reduceMod, Nat.reduceLT, Nat.reduceLeDiff, Nat.reduceEqDiff, Nat.reduceSucc, Nat.reduceGT, Int.reduceAdd, Int.reduceSub, Int.reduceMul, Int.reduceNeg, Int.reduceLT, Int.reduceLE, Int.reduceEq, Int.reduceToNat, reduceIte, Try.f33]))

theorem pcompare_call (a b : List ND) (la : a.length ≤ 1000000) (lb : b.length ≤ 1000000) (ta tb : Bool) : MCalls Try.prog 49 [.lst 5 (a.map ND.c) ta, .lst 5 (b.map ND.c) tb] St.none (fun r _ => r = .int .i64 (ordI (cmpF a b))) := by
  refine (MCalls.body 8 [.tmp 4] Try.func49 rfl rfl rfl rfl ?_)
  have h := cmpfn_call 71 a b la lb ta tb (fun x y _ _ => pcmp1_call x y)
  repeat' (first | (with_reducible refine use_pure h ?_) | ((with_reducible refine wN fun nl hnl => ?_); revert hnl; (repeat with_reducible refine wS fun _ _ => ?_); intro hnl) | (with_reducible first | refine mdraw_plain mixed (by decide +kernel) ?_ | refine wI (fun h => ?_) (fun h => ?_) | refine wF (fun h => ?_) (fun h => ?_) | refine wG (fun h => ?_) (fun h => ?_) | refine wH (fun h => ?_) (fun h => ?_)) | (with_reducible refine mfork_bool (fun h => ?_) (fun h => ?_) <;> simp only [h]) | (with_reducible refine mgfork_bool (fun h => ?_) (fun h => ?_) <;> simp only [h]) | (simp (config := { maxSteps := 4000000 }) (disch := first | decide | assumption | omega | (simp only [wL]; omega)) only [go_sem, Nat.reduceAdd, Nat.reduceSub, Nat.reduceMul, Nat.reduceDiv, Nat.reduceMod, Nat.reduceLT, Nat.reduceLeDiff, Nat.reduceEqDiff, Nat.reduceSucc, Nat.reduceGT, Int.reduceAdd, Int.reduceSub, Int.reduceMul, Int.reduceNeg, Int.reduceLT, Int.reduceLE, Int.reduceEq, Int.reduceToNat, reduceIte, Try.f49]))

theorem lorder_call (x y : ND) : MCalls Try.prog 44 [.agg x.c, .agg y.c] St.none (fun r _ => r = .int .i64 (ordI (cmpL x.key y.key))) := by
  refine (MCalls.body 10 [.tmp 4] Try.func44 rfl rfl rfl rfl ?_)
  have h := pcompare_call [x] [y] (by simp) (by simp) false false
  have e : cmpF [x] [y] = cmpL x.key y.key := by
    rw [cmpF_cons]
    split
    · rename_i h; rw [h]; rfl
    · rfl
  rw [e] at h
  repeat' (first | ((with_reducible refine wN fun nl hnl => ?_); revert hnl; (repeat with_reducible refine wS fun _ _ => ?_); intro hnl) | (with_reducible first | refine mdraw_plain mixed (by decide +kernel) ?_ | refine wI (fun h => ?_) (fun h => ?_) | refine wF (fun h => ?_) (fun h => ?_) | refine wG (fun h => ?_) (fun h => ?_) | refine wH (fun h => ?_) (fun h => ?_)) | (with_reducible refine mfork_bool (fun h => ?_) (fun h => ?_) <;> simp only [h]) | (with_reducible refine mgfork_bool (fun h => ?_) (fun h => ?_) <;> simp only [h]) | (simp (config := { maxSteps := 4000000 }) (disch := first | decide | assumption | omega | (simp only [wL]; omega)) only [go_sem, Nat.reduceAdd, Nat.reduceSub, Nat.reduceMul, Nat.reduceDiv, Nat.reduceMod, Nat.reduceLT, Nat.reduceLeDiff, Nat.reduceEqDiff, Nat.reduceSucc, Nat.reduceGT, Int.reduceAdd, Int.reduceSub, Int.reduceMul, Int.reduceNeg, Int.reduceLT, Int.reduceLE, Int.reduceEq, Int.reduceToNat, reduceIte, Try.f44]))
  refine use_lend [.lst 5 ([x].map ND.c) false, .lst 5 ([y].map ND.c) false] h (.int _ _) rfl (fun i m m' h1 h2 => ?_) ?_
  · match i, h1, h2 with
    | 0, h1, h2 =>
      simp only [List.getElem?_cons_zero, Option.some.injEq] at h1 h2
      subst h1 h2
      exact .vecAll (by first | (simp (config := { maxSteps := 4000000 }) (disch := first | decide | assumption | omega | (simp only [wL]; omega)) only [go_sem, Nat.reduceAdd, Nat.reduceSub, Nat.reduceMul, Nat.reduceDiv, Nat.reduceMod, Nat.reduceLT, Nat.reduceLeDiff, Nat.reduceEqDiff, Nat.reduceSucc, Nat.reduceGT, Int.reduceAdd, Int.reduceSub, Int.reduceMul, Int.reduceNeg, Int.reduceLT, Int.reduceLE, Int.reduceEq, Int.reduceToNat, reduceIte]; done) | (simp (config := { maxSteps := 4000000 }) (disch := first | decide | assumption | omega | (simp only [wL]; omega)) only [go_sem, Nat.reduceAdd, Nat.reduceSub, Nat.reduceMul, Nat.reduceDiv, Nat.reduceMod, Nat.reduceLT, Nat.reduceLeDiff, Nat.reduceEqDiff, Nat.reduceSucc, Nat.reduceGT, Int.reduceAdd, Int.reduceSub, Int.reduceMul, Int.reduceNeg, Int.reduceLT, Int.reduceLE, Int.reduceEq, Int.reduceToNat, reduceIte]; rfl)) rfl
    | 1, h1, h2 =>
      simp only [List.getElem?_cons_succ, List.getElem?_cons_zero, Option.some.injEq] at h1 h2
      subst h1 h2
      exact .vecAll (set_hit _ _ _) rfl
  · repeat' (first | ((with_reducible refine wN fun nl hnl => ?_); revert hnl; (repeat with_reducible refine wS fun _ _ => ?_); intro hnl) | (with_reducible first | refine mdraw_plain mixed (by decide +kernel) ?_ | refine wI (fun h => ?_) (fun h => ?_) | refine wF (fun h => ?_) (fun h => ?_) | refine wG (fun h => ?_) (fun h => ?_) | refine wH (fun h => ?_) (fun h => ?_)) | (with_reducible refine mfork_bool (fun h => ?_) (fun h => ?_) <;> simp only [h]) | (with_reducible refine mgfork_bool (fun h => ?_) (fun h => ?_) <;> simp only [h]) | (simp (config := { maxSteps := 4000000 }) (disch := first | decide | assumption | omega | (simp only [wL]; omega)) only [go_sem, Nat.reduceAdd, Nat.reduceSub, Nat.reduceMul, Nat.reduceDiv, Nat.reduceMod, Nat.reduceLT, Nat.reduceLeDiff, Nat.reduceEqDiff, Nat.reduceSucc, Nat.reduceGT, Int.reduceAdd, Int.reduceSub, Int.reduceMul, Int.reduceNeg, Int.reduceLT, Int.reduceLE, Int.reduceEq, Int.reduceToNat, reduceIte]))

theorem grow_call (n : Nat) (hn : n ≤ 1000000) : MCalls Try.prog 61 [.nils, .int .i64 n] St.none (fun r σ' => (n = 0 ∧ r = .nils ∧ σ' = St.none) ∨ (0 < n ∧ ∃ l, r = .vec 5 l 0 0 ∧ σ' = St.none.set l (.row 49 5 (List.replicate n nd0.c)))) := by
  refine (MCalls.body 27 [.tmp 4] Try.func61 rfl rfl rfl rfl ?_)
  by_cases h0 : n = 0
  · subst h0
    repeat' (first | ((with_reducible refine wN fun nl hnl => ?_); revert hnl; (repeat with_reducible refine wS fun _ _ => ?_); intro hnl) | (with_reducible first | refine mdraw_plain mixed (by decide +kernel) ?_ | refine wI (fun h => ?_) (fun h => ?_) | refine wF (fun h => ?_) (fun h => ?_) | refine wG (fun h => ?_) (fun h => ?_) | refine wH (fun h => ?_) (fun h => ?_)) | (with_reducible refine mfork_bool (fun h => ?_) (fun h => ?_) <;> simp only [h]) | (with_reducible refine mgfork_bool (fun h => ?_) (fun h => ?_) <;> simp only [h]) | (simp (config := { maxSteps := 4000000 }) (disch := first | decide | assumption | omega | (simp only [wL]; omega)) only [go_sem, Nat.reduceAdd, Nat.reduceSub, Nat.reduceMul, Nat.reduceDiv, Nat.reduceMod, Nat.reduceLT, Nat.reduceLeDiff, Nat.reduceEqDiff, Nat.reduceSucc, Nat.reduceGT, Int.reduceAdd, Int.reduceSub, Int.reduceMul, Int.reduceNeg, Int.reduceLT, Int.reduceLE, Int.reduceEq, Int.reduceToNat, reduceIte, Try.f61]))
    exact .inl trivial
  · repeat' (first | ((with_reducible refine wN fun nl hnl => ?_); revert hnl; (repeat with_reducible refine wS fun _ _ => ?_); intro hnl) | (with_reducible first | refine mdraw_plain mixed (by decide +kernel) ?_ | refine wI (fun h => ?_) (fun h => ?_) | refine wF (fun h => ?_) (fun h => ?_) | refine wG (fun h => ?_) (fun h => ?_) | refine wH (fun h => ?_) (fun h => ?_)) | (with_reducible refine mfork_bool (fun h => ?_) (fun h => ?_) <;> simp only [h]) | (with_reducible refine mgfork_bool (fun h => ?_) (fun h => ?_) <;> simp only [h]) | (simp (config := { maxSteps := 4000000 }) (disch := first | decide | assumption | omega | (simp only [wL]; omega)) only [go_sem, Nat.reduceAdd, Nat.reduceSub, Nat.reduceMul, Nat.reduceDiv, Nat.reduceMod, Nat.reduceLT, Nat.reduceLeDiff, Nat.reduceEqDiff, Nat.reduceSucc, Nat.reduceGT, Int.reduceAdd, Int.reduceSub, Int.reduceMul, Int.reduceNeg, Int.reduceLT, Int.reduceLE, Int.reduceEq, Int.reduceToNat, reduceIte, Try.f61]))
    refine .inr ⟨by show 0 < n; omega, nl, rfl, ?_⟩
    rw [show ((n : Int) - 0).toNat = n by omega]
    rfl

theorem flat_take_succ {ls : List (List ND)} {i : Nat} (h : i < ls.length) : (ls.take (i + 1)).flatten = (ls.take i).flatten ++ ls.getD i [] := by
  rw [List.take_succ_eq_append_getElem h, List.flatten_append, getD_of_lt [] h]
  simp

theorem flat_le {ls : List (List ND)} (hs : ∀ l, l ∈ ls → l.length ≤ 1000) : ∀ {i : Nat}, i ≤ ls.length → (ls.take i).flatten.length ≤ 1000 * i
  | 0, _ => by simp
  | i + 1, h => by
    rw [flat_take_succ h, List.length_append]
    have := hs _ (getD_mem [] h)
    have := flat_le hs (i := i) (by omega)
    omega

theorem app_flat {α : Type} (D ex Y : List α) (m y : Nat) (h1 : D.length = m) (h2 : Y.length = y) : List.take m (D ++ ex) ++ Y ++ List.drop (m + y) (D ++ ex) = (D ++ Y) ++ ex.drop y := by
  subst h1 h2
  rw [List.take_left, List.drop_append, List.drop_eq_nil_of_le (by omega), List.nil_append, Nat.add_sub_cancel_left]

theorem concat_call (ls : List (List ND)) (t : Bool) (hl : ls.length ≤ 1000) (hs : ∀ l, l ∈ ls → l.length ≤ 1000) : MCalls Try.prog 41 [.lst 1 (ls.map fun l => [.lst 5 (l.map ND.c) false]) t] St.none (fun r _ => r = .lst 5 (ls.flatten.map ND.c) false) := by
  refine MCalls.seen (MCalls.body 36 [.tmp 2] Try.func41 rfl rfl rfl rfl ?_)
  have htot := flat_le hs (i := ls.length) (Nat.le_refl _)
  rw [List.take_length] at htot
  repeat' (first | ((with_reducible refine wN fun nl hnl => ?_); revert hnl; (repeat with_reducible refine wS fun _ _ => ?_); intro hnl) | (with_reducible first | refine mdraw_plain mixed (by decide +kernel) ?_ | refine wI (fun h => ?_) (fun h => ?_) | refine wF (fun h => ?_) (fun h => ?_) | refine wG (fun h => ?_) (fun h => ?_) | refine wH (fun h => ?_) (fun h => ?_)) | (with_reducible refine mfork_bool (fun h => ?_) (fun h => ?_) <;> simp only [h]) | (with_reducible refine mgfork_bool (fun h => ?_) (fun h => ?_) <;> simp only [h]) | (simp (config := { maxSteps := 4000000 }) (disch := first | decide | assumption | omega | (simp only [wL]; omega)) only [go_sem, Nat.reduceAdd, Nat.reduceSub, Nat.reduceMul, Nat.reduceDiv, Nat.reduceMod, Nat.reduceLT, Nat.reduceLeDiff, Nat.reduceEqDiff, Nat.reduceSucc, Nat.reduceGT, Int.reduceAdd, Int.reduceSub, Int.reduceMul, Int.reduceNeg, Int.reduceLT, Int.reduceLE, Int.reduceEq, Int.reduceToNat, reduceIte, Try.f41]))
  refine mloop_intro (α := Nat) (fun i => ⟨36, [(11, .int .i64 (i : Int)), (10, .int .i64 (ls.length : Int)), (9, .lst 1 (ls.map fun l => [.lst 5 (l.map ND.c) false]) t), (3, .int .i64 ((ls.take i).flatten.length : Int)), (0, .lst 1 (ls.map fun l => [.lst 5 (l.map ND.c) false]) t)], []⟩) (fun _ => St.none)
    (fun i => i ≤ ls.length) (fun i => ls.length - i) (.of (.less ?_ (St.le_refl _)) ⟨0, rfl, rfl, by simp⟩) ?_
  · simp (config := { maxSteps := 4000000 }) (disch := first | decide | assumption | omega | (simp only [wL]; omega)) only [go_sem, Nat.reduceAdd, Nat.reduceSub, Nat.reduceMul, Nat.reduceDiv, Nat.reduceMod, Nat.reduceLT, Nat.reduceLeDiff, Nat.reduceEqDiff, Nat.reduceSucc, Nat.reduceGT, Int.reduceAdd, Int.reduceSub, Int.reduceMul, Int.reduceNeg, Int.reduceLT, Int.reduceLE, Int.reduceEq, Int.reduceToNat, reduceIte, weak_int, weak_same]
    first | rfl | omega | simp
  · intro i hi
    by_cases hlt : i < ls.length
    · have h1 := hs _ (getD_mem [] hlt)
      have h2 := flat_le hs hi
      repeat' (first | ((with_reducible refine wN fun nl hnl => ?_); revert hnl; (repeat with_reducible refine wS fun _ _ => ?_); intro hnl) | (with_reducible first | refine mdraw_plain mixed (by decide +kernel) ?_ | refine wI (fun h => ?_) (fun h => ?_) | refine wF (fun h => ?_) (fun h => ?_) | refine wG (fun h => ?_) (fun h => ?_) | refine wH (fun h => ?_) (fun h => ?_)) | (with_reducible refine mfork_bool (fun h => ?_) (fun h => ?_) <;> simp only [h]) | (with_reducible refine mgfork_bool (fun h => ?_) (fun h => ?_) <;> simp only [h]) | (simp (config := { maxSteps := 4000000 }) (disch := first | decide | assumption | omega | (simp only [wL]; omega)) only [go_sem, Nat.reduceAdd, Nat.reduceSub, Nat.reduceMul, Nat.reduceDiv, Nat.reduceMod, Nat.reduceLT, Nat.reduceLeDiff, Nat.reduceEqDiff, Nat.reduceSucc, Nat.reduceGT, Int.reduceAdd, Int.reduceSub, Int.reduceMul, Int.reduceNeg, Int.reduceLT, Int.reduceLE, Int.reduceEq, Int.reduceToNat, reduceIte, getD_mapd []]))
      refine .of (.less (l1 := [(11, .int .i64 ((i + 1 : Nat) : Int)), (10, .int .i64 (ls.length : Int)), (9, .lst 1 (ls.map fun l => [.lst 5 (l.map ND.c) false]) t), (3, .int .i64 ((ls.take (i + 1)).flatten.length : Int)), (0, .lst 1 (ls.map fun l => [.lst 5 (l.map ND.c) false]) t)]) ?_ (St.le_refl _)) ⟨i + 1, rfl, rfl, by omega, by omega⟩
      rw [flat_take_succ hlt, List.length_append]
      simp (config := { maxSteps := 4000000 }) (disch := first | decide | assumption | omega | (simp only [wL]; omega)) only [go_sem, Nat.reduceAdd, Nat.reduceSub, Nat.reduceMul, Nat.reduceDiv, Nat.reduceMod, Nat.reduceLT, Nat.reduceLeDiff, Nat.reduceEqDiff, Nat.reduceSucc, Nat.reduceGT, Int.reduceAdd, Int.reduceSub, Int.reduceMul, Int.reduceNeg, Int.reduceLT, Int.reduceLE, Int.reduceEq, Int.reduceToNat, reduceIte, weak_int, weak_same]
      omega
    · have : i = ls.length := by omega
      subst this
      repeat' (first | ((with_reducible refine wN fun nl hnl => ?_); revert hnl; (repeat with_reducible refine wS fun _ _ => ?_); intro hnl) | (with_reducible first | refine mdraw_plain mixed (by decide +kernel) ?_ | refine wI (fun h => ?_) (fun h => ?_) | refine wF (fun h => ?_) (fun h => ?_) | refine wG (fun h => ?_) (fun h => ?_) | refine wH (fun h => ?_) (fun h => ?_)) | (with_reducible refine mfork_bool (fun h => ?_) (fun h => ?_) <;> simp only [h]) | (with_reducible refine mgfork_bool (fun h => ?_) (fun h => ?_) <;> simp only [h]) | (simp (config := { maxSteps := 4000000 }) (disch := first | decide | assumption | omega | (simp only [wL]; omega)) only [go_sem, Nat.reduceAdd, Nat.reduceSub, Nat.reduceMul, Nat.reduceDiv, Nat.reduceMod, Nat.reduceLT, Nat.reduceLeDiff, Nat.reduceEqDiff, Nat.reduceSucc, Nat.reduceGT, Int.reduceAdd, Int.reduceSub, Int.reduceMul, Int.reduceNeg, Int.reduceLT, Int.reduceLE, Int.reduceEq, Int.reduceToNat, reduceIte, List.take_length]))
      refine use_frame (grow_call ls.flatten.length (by omega)) (St.none_le _) ?_
      rintro v σ' h -
      rw [minus_none]
      rcases h with ⟨h0, rfl, rfl⟩ | ⟨h0, l, rfl, rfl⟩
      · repeat' (first | ((with_reducible refine wN fun nl hnl => ?_); revert hnl; (repeat with_reducible refine wS fun _ _ => ?_); intro hnl) | (with_reducible first | refine mdraw_plain mixed (by decide +kernel) ?_ | refine wI (fun h => ?_) (fun h => ?_) | refine wF (fun h => ?_) (fun h => ?_) | refine wG (fun h => ?_) (fun h => ?_) | refine wH (fun h => ?_) (fun h => ?_)) | (with_reducible refine mfork_bool (fun h => ?_) (fun h => ?_) <;> simp only [h]) | (with_reducible refine mgfork_bool (fun h => ?_) (fun h => ?_) <;> simp only [h]) | (simp (config := { maxSteps := 4000000 }) (disch := first | decide | assumption | omega | (simp only [wL]; omega)) only [go_sem, Nat.reduceAdd, Nat.reduceSub, Nat.reduceMul, Nat.reduceDiv, Nat.reduceMod, Nat.reduceLT, Nat.reduceLeDiff, Nat.reduceEqDiff, Nat.reduceSucc, Nat.reduceGT, Int.reduceAdd, Int.reduceSub, Int.reduceMul, Int.reduceNeg, Int.reduceLT, Int.reduceLE, Int.reduceEq, Int.reduceToNat, reduceIte, over_none, over_set]))
        refine mloop_intro (α := Nat × Nat × List (List MV)) (fun a => ⟨36, [(27, .int .i64 (a.1 : Int)), (26, .int .i64 (ls.length : Int)), (25, .lst 1 (ls.map fun l => [.lst 5 (l.map ND.c) false]) t), (6, .vec 5 a.2.1 0 (ls.take a.1).flatten.length)], []⟩)
          (fun a => St.none.set a.2.1 (.row 49 5 ((ls.take a.1).flatten.map ND.c ++ a.2.2))) (fun a => a.1 ≤ ls.length) (fun a => ls.length - a.1) ?_ ?_
        · refine Gh.row 49 5 (fun k => [(27, .int .i64 0), (26, .int .i64 (ls.length : Int)), (25, .lst 1 (ls.map fun l => [.lst 5 (l.map ND.c) false]) t), (6, .vec 5 k 0 0)]) (fun k p hp => ?_) fun k hk => .done ⟨(0, k, []), rfl, rfl, Nat.zero_le _⟩
          simp only [List.mem_cons, List.not_mem_nil, or_false] at hp
          rcases hp with rfl | rfl | rfl | rfl
          · exact .inl rfl
          · exact .inl rfl
          · exact .inl rfl
          · exact .inr ⟨rfl, .inl rfl⟩
        · rintro ⟨i, q, ex⟩ hi
          simp only at hi ⊢
          by_cases hlt : i < ls.length
          · have h1 := hs _ (getD_mem [] hlt)
            have h2 := flat_le hs hi
            repeat' (first | ((with_reducible refine wN fun nl hnl => ?_); revert hnl; (repeat with_reducible refine wS fun _ _ => ?_); intro hnl) | (with_reducible first | refine mdraw_plain mixed (by decide +kernel) ?_ | refine wI (fun h => ?_) (fun h => ?_) | refine wF (fun h => ?_) (fun h => ?_) | refine wG (fun h => ?_) (fun h => ?_) | refine wH (fun h => ?_) (fun h => ?_)) | (with_reducible refine mfork_bool (fun h => ?_) (fun h => ?_) <;> simp only [h]) | (with_reducible refine mgfork_bool (fun h => ?_) (fun h => ?_) <;> simp only [h]) | (simp (config := { maxSteps := 4000000 }) (disch := first | decide | assumption | omega | (simp only [wL]; omega)) only [go_sem, Nat.reduceAdd, Nat.reduceSub, Nat.reduceMul, Nat.reduceDiv, Nat.reduceMod, Nat.reduceLT, Nat.reduceLeDiff, Nat.reduceEqDiff, Nat.reduceSucc, Nat.reduceGT, Int.reduceAdd, Int.reduceSub, Int.reduceMul, Int.reduceNeg, Int.reduceLT, Int.reduceLE, Int.reduceEq, Int.reduceToNat, reduceIte, getD_mapd []]))
            · have hex : ex = [] := List.eq_nil_of_length_eq_zero (by omega)
              subst hex
              refine .of (.less (l1 := [(27, .int .i64 ((i + 1 : Nat) : Int)), (26, .int .i64 (ls.length : Int)), (25, .lst 1 (ls.map fun l => [.lst 5 (l.map ND.c) false]) t), (6, .vec 5 nl 0 (ls.take (i + 1)).flatten.length)])
                (σ1 := St.none.set nl (.row 49 5 ((ls.take (i + 1)).flatten.map ND.c ++ []))) ?_ (St.set_le (St.none_le _) ((set_hit _ _ _).trans ?_))) ⟨(i + 1, nl, []), rfl, rfl, by simp only; omega, by simp only; omega⟩
              · rw [flat_take_succ hlt, List.length_append]
                simp (config := { maxSteps := 4000000 }) (disch := first | decide | assumption | omega | (simp only [wL]; omega)) only [go_sem, Nat.reduceAdd, Nat.reduceSub, Nat.reduceMul, Nat.reduceDiv, Nat.reduceMod, Nat.reduceLT, Nat.reduceLeDiff, Nat.reduceEqDiff, Nat.reduceSucc, Nat.reduceGT, Int.reduceAdd, Int.reduceSub, Int.reduceMul, Int.reduceNeg, Int.reduceLT, Int.reduceLE, Int.reduceEq, Int.reduceToNat, reduceIte, weak_int, weak_same]
                omega
              · rw [flat_take_succ hlt, List.map_append, List.append_nil, List.append_nil]
            · refine .of (.less (l1 := [(27, .int .i64 ((i + 1 : Nat) : Int)), (26, .int .i64 (ls.length : Int)), (25, .lst 1 (ls.map fun l => [.lst 5 (l.map ND.c) false]) t), (6, .vec 5 nl 0 (ls.take (i + 1)).flatten.length)])
                (σ1 := St.none.set nl (.row 49 5 ((ls.take (i + 1)).flatten.map ND.c ++ ex.drop (ls.getD i []).length))) ?_ (St.set_le (St.none_le _) ((set_hit _ _ _).trans ?_))) ⟨(i + 1, nl, ex.drop (ls.getD i []).length), rfl, rfl, by simp only; omega, by simp only; omega⟩
              · rw [flat_take_succ hlt, List.length_append]
                simp (config := { maxSteps := 4000000 }) (disch := first | decide | assumption | omega | (simp only [wL]; omega)) only [go_sem, Nat.reduceAdd, Nat.reduceSub, Nat.reduceMul, Nat.reduceDiv, Nat.reduceMod, Nat.reduceLT, Nat.reduceLeDiff, Nat.reduceEqDiff, Nat.reduceSucc, Nat.reduceGT, Int.reduceAdd, Int.reduceSub, Int.reduceMul, Int.reduceNeg, Int.reduceLT, Int.reduceLE, Int.reduceEq, Int.reduceToNat, reduceIte, weak_int, weak_same]
                omega
              · rw [flat_take_succ hlt, List.map_append]
                exact congrArg (fun r => some (MObj.row 49 5 r)) (app_flat _ _ _ _ _ (by rw [List.length_map]) (by rw [List.length_map]))
          · have : i = ls.length := by omega
            subst this
            repeat' (first | ((with_reducible refine wN fun nl hnl => ?_); revert hnl; (repeat with_reducible refine wS fun _ _ => ?_); intro hnl) | (with_reducible first | refine mdraw_plain mixed (by decide +kernel) ?_ | refine wI (fun h => ?_) (fun h => ?_) | refine wF (fun h => ?_) (fun h => ?_) | refine wG (fun h => ?_) (fun h => ?_) | refine wH (fun h => ?_) (fun h => ?_)) | (with_reducible refine mfork_bool (fun h => ?_) (fun h => ?_) <;> simp only [h]) | (with_reducible refine mgfork_bool (fun h => ?_) (fun h => ?_) <;> simp only [h]) | (simp (config := { maxSteps := 4000000 }) (disch := first | decide | assumption | omega | (simp only [wL]; omega)) only [go_sem, Nat.reduceAdd, Nat.reduceSub, Nat.reduceMul, Nat.reduceDiv, Nat.reduceMod, Nat.reduceLT, Nat.reduceLeDiff, Nat.reduceEqDiff, Nat.reduceSucc, Nat.reduceGT, Int.reduceAdd, Int.reduceSub, Int.reduceMul, Int.reduceNeg, Int.reduceLT, Int.reduceLE, Int.reduceEq, Int.reduceToNat, reduceIte, List.take_length]))
            have hv := View.vec (σ := St.none.set q (.row 49 5 (ls.flatten.map ND.c ++ ex))) (l := q) (lo := 0) (n := ls.flatten.length) (set_hit _ _ _) (by rw [List.length_append, List.length_map]; omega)
            have e : ((ls.flatten.map ND.c ++ ex).drop 0).take ls.flatten.length = ls.flatten.map ND.c := by
              rw [List.drop_zero, List.take_append_of_le_length (by rw [List.length_map]; omega), List.take_of_length_le (by rw [List.length_map]; omega)]
            rw [e] at hv
            exact hv
      · repeat' (first | ((with_reducible refine wN fun nl hnl => ?_); revert hnl; (repeat with_reducible refine wS fun _ _ => ?_); intro hnl) | (with_reducible first | refine mdraw_plain mixed (by decide +kernel) ?_ | refine wI (fun h => ?_) (fun h => ?_) | refine wF (fun h => ?_) (fun h => ?_) | refine wG (fun h => ?_) (fun h => ?_) | refine wH (fun h => ?_) (fun h => ?_)) | (with_reducible refine mfork_bool (fun h => ?_) (fun h => ?_) <;> simp only [h]) | (with_reducible refine mgfork_bool (fun h => ?_) (fun h => ?_) <;> simp only [h]) | (simp (config := { maxSteps := 4000000 }) (disch := first | decide | assumption | omega | (simp only [wL]; omega)) only [go_sem, Nat.reduceAdd, Nat.reduceSub, Nat.reduceMul, Nat.reduceDiv, Nat.reduceMod, Nat.reduceLT, Nat.reduceLeDiff, Nat.reduceEqDiff, Nat.reduceSucc, Nat.reduceGT, Int.reduceAdd, Int.reduceSub, Int.reduceMul, Int.reduceNeg, Int.reduceLT, Int.reduceLE, Int.reduceEq, Int.reduceToNat, reduceIte, over_none, over_set]))
        refine mloop_intro (α := Nat × Nat × List (List MV)) (fun a => ⟨36, [(27, .int .i64 (a.1 : Int)), (26, .int .i64 (ls.length : Int)), (25, .lst 1 (ls.map fun l => [.lst 5 (l.map ND.c) false]) t), (6, .vec 5 a.2.1 0 (ls.take a.1).flatten.length)], []⟩)
          (fun a => St.none.set a.2.1 (.row 49 5 ((ls.take a.1).flatten.map ND.c ++ a.2.2))) (fun a => a.1 ≤ ls.length) (fun a => ls.length - a.1) ?_ ?_
        · refine .of (.less ?_ (St.le_refl _)) ⟨(0, l, List.replicate ls.flatten.length nd0.c), rfl, rfl, Nat.zero_le _⟩
          simp (config := { maxSteps := 4000000 }) (disch := first | decide | assumption | omega | (simp only [wL]; omega)) only [go_sem, Nat.reduceAdd, Nat.reduceSub, Nat.reduceMul, Nat.reduceDiv, Nat.reduceMod, Nat.reduceLT, Nat.reduceLeDiff, Nat.reduceEqDiff, Nat.reduceSucc, Nat.reduceGT, Int.reduceAdd, Int.reduceSub, Int.reduceMul, Int.reduceNeg, Int.reduceLT, Int.reduceLE, Int.reduceEq, Int.reduceToNat, reduceIte, weak_int, weak_same]
          first
            | rfl
            | omega
            | exact ⟨rfl, weak_same.2 trivial⟩
            | exact weak_same.2 trivial
        · rintro ⟨i, q, ex⟩ hi
          simp only at hi ⊢
          by_cases hlt : i < ls.length
          · have h1 := hs _ (getD_mem [] hlt)
            have h2 := flat_le hs hi
            repeat' (first | ((with_reducible refine wN fun nl hnl => ?_); revert hnl; (repeat with_reducible refine wS fun _ _ => ?_); intro hnl) | (with_reducible first | refine mdraw_plain mixed (by decide +kernel) ?_ | refine wI (fun h => ?_) (fun h => ?_) | refine wF (fun h => ?_) (fun h => ?_) | refine wG (fun h => ?_) (fun h => ?_) | refine wH (fun h => ?_) (fun h => ?_)) | (with_reducible refine mfork_bool (fun h => ?_) (fun h => ?_) <;> simp only [h]) | (with_reducible refine mgfork_bool (fun h => ?_) (fun h => ?_) <;> simp only [h]) | (simp (config := { maxSteps := 4000000 }) (disch := first | decide | assumption | omega | (simp only [wL]; omega)) only [go_sem, Nat.reduceAdd, Nat.reduceSub, Nat.reduceMul, Nat.reduceDiv, Nat.reduceMod, Nat.reduceLT, Nat.reduceLeDiff, Nat.reduceEqDiff, Nat.reduceSucc, Nat.reduceGT, Int.reduceAdd, Int.reduceSub, Int.reduceMul, Int.reduceNeg, Int.reduceLT, Int.reduceLE, Int.reduceEq, Int.reduceToNat, reduceIte, getD_mapd []]))
            · have hex : ex = [] := List.eq_nil_of_length_eq_zero (by omega)
              subst hex
              refine .of (.less (l1 := [(27, .int .i64 ((i + 1 : Nat) : Int)), (26, .int .i64 (ls.length : Int)), (25, .lst 1 (ls.map fun l => [.lst 5 (l.map ND.c) false]) t), (6, .vec 5 nl 0 (ls.take (i + 1)).flatten.length)])
                (σ1 := St.none.set nl (.row 49 5 ((ls.take (i + 1)).flatten.map ND.c ++ []))) ?_ (St.set_le (St.none_le _) ((set_hit _ _ _).trans ?_))) ⟨(i + 1, nl, []), rfl, rfl, by simp only; omega, by simp only; omega⟩
              · rw [flat_take_succ hlt, List.length_append]
                simp (config := { maxSteps := 4000000 }) (disch := first | decide | assumption | omega | (simp only [wL]; omega)) only [go_sem, Nat.reduceAdd, Nat.reduceSub, Nat.reduceMul, Nat.reduceDiv, Nat.reduceMod, Nat.reduceLT, Nat.reduceLeDiff, Nat.reduceEqDiff, Nat.reduceSucc, Nat.reduceGT, Int.reduceAdd, Int.reduceSub, Int.reduceMul, Int.reduceNeg, Int.reduceLT, Int.reduceLE, Int.reduceEq, Int.reduceToNat, reduceIte, weak_int, weak_same]
                omega
              · rw [flat_take_succ hlt, List.map_append, List.append_nil, List.append_nil]
            · refine .of (.less (l1 := [(27, .int .i64 ((i + 1 : Nat) : Int)), (26, .int .i64 (ls.length : Int)), (25, .lst 1 (ls.map fun l => [.lst 5 (l.map ND.c) false]) t), (6, .vec 5 nl 0 (ls.take (i + 1)).flatten.length)])
                (σ1 := St.none.set nl (.row 49 5 ((ls.take (i + 1)).flatten.map ND.c ++ ex.drop (ls.getD i []).length))) ?_ (St.set_le (St.none_le _) ((set_hit _ _ _).trans ?_))) ⟨(i + 1, nl, ex.drop (ls.getD i []).length), rfl, rfl, by simp only; omega, by simp only; omega⟩
              · rw [flat_take_succ hlt, List.length_append]
                simp (config := { maxSteps := 4000000 }) (disch := first | decide | assumption | omega | (simp only [wL]; omega)) only [go_sem, Nat.reduceAdd, Nat.reduceSub, Nat.reduceMul, Nat.reduceDiv, Nat.reduceMod, Nat.reduceLT, Nat.reduceLeDiff, Nat.reduceEqDiff, Nat.reduceSucc, Nat.reduceGT, Int.reduceAdd, Int.reduceSub, Int.reduceMul, Int.reduceNeg, Int.reduceLT, Int.reduceLE, Int.reduceEq, Int.reduceToNat, reduceIte, weak_int, weak_same]
                omega
              · rw [flat_take_succ hlt, List.map_append]
                exact congrArg (fun r => some (MObj.row 49 5 r)) (app_flat _ _ _ _ _ (by rw [List.length_map]) (by rw [List.length_map]))
          · have : i = ls.length := by omega
            subst this
            repeat' (first | ((with_reducible refine wN fun nl hnl => ?_); revert hnl; (repeat with_reducible refine wS fun _ _ => ?_); intro hnl) | (with_reducible first | refine mdraw_plain mixed (by decide +kernel) ?_ | refine wI (fun h => ?_) (fun h => ?_) | refine wF (fun h => ?_) (fun h => ?_) | refine wG (fun h => ?_) (fun h => ?_) | refine wH (fun h => ?_) (fun h => ?_)) | (with_reducible refine mfork_bool (fun h => ?_) (fun h => ?_) <;> simp only [h]) | (with_reducible refine mgfork_bool (fun h => ?_) (fun h => ?_) <;> simp only [h]) | (simp (config := { maxSteps := 4000000 }) (disch := first | decide | assumption | omega | (simp only [wL]; omega)) only [go_sem, Nat.reduceAdd, Nat.reduceSub, Nat.reduceMul, Nat.reduceDiv, Nat.reduceMod, Nat.reduceLT, Nat.reduceLeDiff, Nat.reduceEqDiff, Nat.reduceSucc, Nat.reduceGT, Int.reduceAdd, Int.reduceSub, Int.reduceMul, Int.reduceNeg, Int.reduceLT, Int.reduceLE, Int.reduceEq, Int.reduceToNat, reduceIte, List.take_length]))
            have hv := View.vec (σ := St.none.set q (.row 49 5 (ls.flatten.map ND.c ++ ex))) (l := q) (lo := 0) (n := ls.flatten.length) (set_hit _ _ _) (by rw [List.length_append, List.length_map]; omega)
            have e : ((ls.flatten.map ND.c ++ ex).drop 0).take ls.flatten.length = ls.flatten.map ND.c := by
              rw [List.drop_zero, List.take_append_of_le_length (by rw [List.length_map]; omega), List.take_of_length_le (by rw [List.length_map]; omega)]
            rw [e] at hv
            exact hv
end Go.Proofs.Ytielcgplbnlgbaa
end

section
/- Regions whose order is drawn, with calls that answer a new place (2): the operations as what they read and turn. -/
set_option linter.unusedVariables false
set_option linter.unusedSimpArgs false
namespace Go.Proofs.Ytielcgplbnlgbaa.D2

/-- What is known of a call: what it reads and answers, or the new place that it answers. -/
structure Fact where
  rd : List Nat
  q : MV → Prop
  new : Option (MObj × (Nat → MV))
abbrev Know := FuncId → List MV → Option Fact

def gfail : GF := ([], fun _ => none)
def gpure (pv : PV) : GF := ([], fun _ => pv.map fun x => ⟨x.1, none, none, none, fun _ u => u = x.2⟩)
def galloc (C : Prop) (o : MObj) (v : Nat → MV) : GF := ([], fun _ => some ⟨C, none, none, some o, fun l u => u = v l⟩)
def srcLoc : MV → List Nat
  | .vec _ l _ _ => [l]
  | _ => []
def stOf (os : List MObj) : St := fun _ => os.head?

def gload (P : Program) (t : TypeId) : MV → GF
  | .ptr l i o => ([l], fun os => match os with
    | [.row _ _ xs] => some ⟨(td P t).ok = true ∧ i < xs.length ∧ o + (td P t).size ≤ (xs.getD i []).length ∧ 0 < (td P t).size, none, none, none, fun _ u => u = mpart (td P t) (xs.getD i []) o⟩
    | _ => none)
  | .cptr cs => gpure (some ((td P t).ok = true ∧ (td P t).size ≤ cs.length ∧ 0 < (td P t).size, mpart (td P t) cs 0))
  | _ => gfail

def gstore (P : Program) (t : TypeId) (x y : MV) : GF :=
  match x with
  | .ptr l i o => ([l], fun os => match os with
    | [.row tt e xs] => some ⟨(td P t).ok = true ∧ i < xs.length ∧ y.cells.all MV.isCell = true ∧ y.cells.length = (td P t).size ∧ o + y.cells.length ≤ (xs.getD i []).length, none, some (l, .row tt e (xs.set i (laid (xs.getD i []) o y.cells))), none, fun _ u => u = .junk⟩
    | _ => none)
  | _ => gfail

def gappend (P : Program) (t xt : TypeId) (s x : MV) : GF :=
  match (td P t).k with
  | .slice el => match s with
    | .nils => (srcLoc x, fun os => match msrc (stOf os) (td P el).size x with
      | some ys => some ⟨(td P xt).k.isSrc = true ∧ (td P el).zok = true ∧ Fits ys.length (td P el).bytes, none, none, some (.row el (td P el).size ys), fun l u => u = .vec (td P el).size l 0 ys.length⟩
      | none => none)
    | .lst e xs true => (srcLoc x, fun os => match msrc (stOf os) (td P el).size x with
      | some ys => some ⟨(td P xt).k.isSrc = true ∧ (td P el).zok = true ∧ e = (td P el).size ∧ (xs = [] ∨ 0 < ys.length) ∧ Fits (xs.length + ys.length) (td P el).bytes, none, none, some (.row el (td P el).size (xs ++ ys)), fun l u => u = .vec (td P el).size l 0 (xs.length + ys.length)⟩
      | none => none)
    | .vec e l lo n => (l :: srcLoc x, fun os => match os with
      | .row tt e' xs :: os => match msrc (stOf os) (td P el).size x with
        | some ys => some ⟨(td P xt).k.isSrc = true ∧ (td P el).zok = true ∧ e = (td P el).size ∧ e' = (td P el).size ∧ tt = el ∧ lo + n ≤ xs.length ∧ Fits (n + ys.length) (td P el).bytes, some l, none, some (.row el (td P el).size (appRow xs lo n ys)), fun l' u => u = .vec (td P el).size l' 0 (n + ys.length)⟩
        | none => none
      | _ => none)
    | _ => gfail
  | _ => gfail

def gbuildSlice (P : Program) (ρ : Operand → MV) (t : TypeId) (len : Nat) (parts : Array (Nat × Operand)) : GF :=
  match (td P t).k with
  | .slice el => galloc ((td P el).zok = true ∧ parts.toList.map (·.1) = List.range len ∧ (parts.toList.all fun p => (ρ p.2).cells.all MV.isCell && (ρ p.2).cells.length == (td P el).size) = true ∧ len * (td P el).size ≤ 16777216 ∧ len ≤ 16777216)
      (.row el (td P el).size (parts.toList.map fun p => (ρ p.2).cells)) (fun l => .vec (td P el).size l 0 len)
  | _ => gfail

def gmakeSlice (P : Program) (t : TypeId) (x y : MV) : GF :=
  match (td P t).k, x, y with
  | .slice el, .int .i64 n, .int .i64 c => galloc ((td P el).zok = true ∧ 0 ≤ n ∧ n ≤ c ∧ Fits c.toNat (td P el).bytes) (.row el (td P el).size (List.replicate n.toNat (td P el).zero)) (fun l => .vec (td P el).size l 0 n.toNat)
  | _, _, _ => gfail

def gconvert (P : Program) (s d : TypeId) (x : MV) : GF :=
  match (td P s).k, (td P d).k, x with
  | .str, .slice el, .str b => galloc ((td P el).k = .int .u8 ∧ b.size ≤ 140737488355328) (.row el 1 (b.toList.map fun c => [.int .u8 (c.toNat : Int)])) (fun l => .vec 1 l 0 b.size)
  | .slice el, .str, .str _ => gfail
  | .slice el, .str, x => (srcLoc x, fun os => match msrc (stOf os) 1 x with
    | some ys => some ⟨(td P el).k = .int .u8 ∧ ys.all isByte = true, none, none, none, fun _ u => u = .str (bytesOf ys)⟩
    | none => none)
  | _, _, x => gpure (mconv P s d x)

def gcall (P : Program) (C : Know) (g : FuncId) (ms : List MV) : GF :=
  match C g ms with
  | some ⟨rd, q, none⟩ => (rd, fun os => some ⟨MCalls P g ms (St.ofList rd os) (fun v σ' => q v ∧ σ' = St.ofList rd os), none, none, none, fun _ u => q u⟩)
  | some ⟨_, _, some (o, u)⟩ => galloc (MCalls P g ms St.none fun v σ' => ∃ l, v = u l ∧ σ' = St.none.set l o) o u
  | none => gfail

def gop (P : Program) (C : Know) (f : FR) : Op → GF
  | .alloc t => galloc ((td P t).zok = true) (.row t (td P t).size [(td P t).zero]) (fun l => .ptr l 0 0)
  | .box t x => galloc ((mval f x).cells.all MV.isCell = true) (.row t (mval f x).cells.length [(mval f x).cells]) (fun l => .ptr l 0 0)
  | .load t x => gload P t (mval f x)
  | .store t x y => gstore P t (mval f x) (mval f y)
  | .buildSlice t len parts => gbuildSlice P (mval f) t len parts
  | .makeSlice t x y => gmakeSlice P t (mval f x) (mval f y)
  | .convert s d x => gconvert P s d (mval f x)
  | .call ⟨.builtin .append, args, ts⟩ => match args.toList, ts.toList with
    | [s, x], [t, xt] => gappend P t xt (mval f s) (mval f x)
    | _, _ => gfail
  | .call ⟨.builtin b, args, ts⟩ => if ts.toList.length = args.toList.length then gpure (mbuiltin P b ts.toList.toArray (args.toList.map (mval f))) else gfail
  | .call ⟨.value x, args, ts⟩ => match mval f x with
    | .fn (.func g) ms ns => gcall P C g (ms ++ args.toList.map (mval f) ++ ns)
    | _ => gfail
  | .call ⟨.invoke _ _, _, _⟩ => gfail
  | .defer _ => gfail
  | op => gpure (qop P f op)

/-! ### What the forms read and turn -/

theorem wf_pure (pv : PV) : Wf (gpure pv) ∧ NoW (gpure pv) ∧ NoUpd (gpure pv) ∧ (gpure pv).1 = [] := by
  have key : ∀ os e, (gpure pv).2 os = some e → e.upd = none ∧ e.kill = none := fun os e h => by
    simp only [gpure, Option.map_eq_some_iff] at h
    obtain ⟨x, -, rfl⟩ := h
    exact ⟨rfl, rfl⟩
  exact ⟨fun os e _ h => by simp [key os e h], fun os e _ h => key os e h, fun os e _ h => (key os e h).1, rfl⟩
theorem wf_alloc (C : Prop) (o : MObj) (v : Nat → MV) : Wf (galloc C o v) ∧ NoW (galloc C o v) ∧ NoUpd (galloc C o v) ∧ (galloc C o v).1 = [] := by
  have key : ∀ os e, (galloc C o v).2 os = some e → e.upd = none ∧ e.kill = none := fun os e h => by
    simp only [galloc, Option.some.injEq] at h
    subst h; exact ⟨rfl, rfl⟩
  exact ⟨fun os e _ h => by simp [key os e h], fun os e _ h => key os e h, fun os e _ h => (key os e h).1, rfl⟩
theorem wf_fail : Wf gfail ∧ NoW gfail ∧ NoUpd gfail ∧ gfail.1 = [] := ⟨fun os e _ h => by simp [gfail] at h, fun os e _ h => by simp [gfail] at h, fun os e _ h => by simp [gfail] at h, rfl⟩

def rd0 : Op → Bool
  | .load .. | .store .. | .convert .. | .call ⟨.builtin .append, _, _⟩ | .call ⟨.value _, _, _⟩ => false
  | _ => true
def noUpd : Op → Bool
  | .store .. => false
  | _ => true
def noW : Op → Bool
  | .store .. | .call ⟨.builtin .append, _, _⟩ => false
  | _ => true

theorem wf_load (P : Program) (t : TypeId) (x : MV) : Wf (gload P t x) ∧ NoW (gload P t x) ∧ NoUpd (gload P t x) := by
  unfold gload
  split
  · have key : ∀ (os : List MObj) (e : Eff) (l i o : Nat), (match os with
      | [.row _ _ xs] => some (⟨(td P t).ok = true ∧ i < xs.length ∧ o + (td P t).size ≤ (xs.getD i []).length ∧ 0 < (td P t).size, none, none, none, fun _ u => u = mpart (td P t) (xs.getD i []) o⟩ : Eff)
      | _ => none) = some e → e.upd = none ∧ e.kill = none := by
      intro os e l i o h
      split at h
      · cases h; exact ⟨rfl, rfl⟩
      · cases h
    exact ⟨fun os e _ h => by simp [key os e 0 _ _ h], fun os e _ h => key os e 0 _ _ h, fun os e _ h => (key os e 0 _ _ h).1⟩
  · exact ⟨(wf_pure _).1, (wf_pure _).2.1, (wf_pure _).2.2.1⟩
  · exact ⟨wf_fail.1, wf_fail.2.1, wf_fail.2.2.1⟩

theorem wf_store (P : Program) (t : TypeId) (x y : MV) : Wf (gstore P t x y) := by
  unfold gstore
  split
  · intro os e _ h
    simp only at h
    split at h
    · cases h; simp
    · cases h
  · exact wf_fail.1

theorem wf_append (P : Program) (t xt : TypeId) (s x : MV) : Wf (gappend P t xt s x) ∧ NoUpd (gappend P t xt s x) := by
  unfold gappend
  split
  · split
    · refine ⟨fun os e _ h => ?_, fun os e _ h => ?_⟩ <;>
      · simp only at h
        split at h
        · cases h; simp
        · cases h
    · refine ⟨fun os e _ h => ?_, fun os e _ h => ?_⟩ <;>
      · simp only at h
        split at h
        · cases h; simp
        · cases h
    · refine ⟨fun os e _ h => ?_, fun os e _ h => ?_⟩ <;>
      · simp only at h
        split at h
        · split at h
          · cases h; simp
          · cases h
        · cases h
    · exact ⟨wf_fail.1, wf_fail.2.2.1⟩
  · exact ⟨wf_fail.1, wf_fail.2.2.1⟩

theorem wf_convert (P : Program) (s d : TypeId) (x : MV) : Wf (gconvert P s d x) ∧ NoW (gconvert P s d x) ∧ NoUpd (gconvert P s d x) := by
  unfold gconvert
  split
  · exact ⟨(wf_alloc _ _ _).1, (wf_alloc _ _ _).2.1, (wf_alloc _ _ _).2.2.1⟩
  · exact ⟨wf_fail.1, wf_fail.2.1, wf_fail.2.2.1⟩
  · refine ⟨fun os e _ h => ?_, fun os e _ h => ?_, fun os e _ h => ?_⟩ <;>
    · simp only at h
      split at h
      · cases h; simp
      · cases h
  · exact ⟨(wf_pure _).1, (wf_pure _).2.1, (wf_pure _).2.2.1⟩

theorem wf_call (P : Program) (C : Know) (g : FuncId) (ms : List MV) : Wf (gcall P C g ms) ∧ NoW (gcall P C g ms) ∧ NoUpd (gcall P C g ms) := by
  unfold gcall
  split
  · refine ⟨fun os e _ h => ?_, fun os e _ h => ?_, fun os e _ h => ?_⟩ <;>
    · simp only [Option.some.injEq] at h
      subst h; simp
  · exact ⟨(wf_alloc _ _ _).1, (wf_alloc _ _ _).2.1, (wf_alloc _ _ _).2.2.1⟩
  · exact ⟨wf_fail.1, wf_fail.2.1, wf_fail.2.2.1⟩

theorem wf_buildSlice (P : Program) (ρ : Operand → MV) (t : TypeId) (len : Nat) (parts : Array (Nat × Operand)) : Wf (gbuildSlice P ρ t len parts) ∧ NoW (gbuildSlice P ρ t len parts) ∧ NoUpd (gbuildSlice P ρ t len parts) ∧ (gbuildSlice P ρ t len parts).1 = [] := by
  unfold gbuildSlice
  split
  · exact wf_alloc _ _ _
  · exact wf_fail

theorem wf_makeSlice (P : Program) (t : TypeId) (x y : MV) : Wf (gmakeSlice P t x y) ∧ NoW (gmakeSlice P t x y) ∧ NoUpd (gmakeSlice P t x y) ∧ (gmakeSlice P t x y).1 = [] := by
  unfold gmakeSlice
  split
  · exact wf_alloc _ _ _
  · exact wf_fail

theorem wf_gop (P : Program) (C : Know) (f : FR) (op : Op) : Wf (gop P C f op) ∧ (noUpd op = true → NoUpd (gop P C f op)) ∧ (noW op = true → NoW (gop P C f op)) ∧ (rd0 op = true → (gop P C f op).1 = []) := by
  cases op
  case load t x => exact ⟨(wf_load _ _ _).1, fun _ => (wf_load _ _ _).2.2, fun _ => (wf_load _ _ _).2.1, fun h => by simp [rd0] at h⟩
  case store t x y => exact ⟨wf_store _ _ _ _, fun h => by simp [noUpd] at h, fun h => by simp [noW] at h, fun h => by simp [rd0] at h⟩
  case convert s d x => exact ⟨(wf_convert _ _ _ _).1, fun _ => (wf_convert _ _ _ _).2.2, fun _ => (wf_convert _ _ _ _).2.1, fun h => by simp [rd0] at h⟩
  case alloc t => exact ⟨(wf_alloc _ _ _).1, fun _ => (wf_alloc _ _ _).2.2.1, fun _ => (wf_alloc _ _ _).2.1, fun _ => rfl⟩
  case box t x => exact ⟨(wf_alloc _ _ _).1, fun _ => (wf_alloc _ _ _).2.2.1, fun _ => (wf_alloc _ _ _).2.1, fun _ => rfl⟩
  case buildSlice t n p => exact ⟨(wf_buildSlice _ _ _ _ _).1, fun _ => (wf_buildSlice _ _ _ _ _).2.2.1, fun _ => (wf_buildSlice _ _ _ _ _).2.1, fun _ => (wf_buildSlice _ _ _ _ _).2.2.2⟩
  case makeSlice t x y => exact ⟨(wf_makeSlice _ _ _ _).1, fun _ => (wf_makeSlice _ _ _ _).2.2.1, fun _ => (wf_makeSlice _ _ _ _).2.1, fun _ => (wf_makeSlice _ _ _ _).2.2.2⟩
  case defer c => exact ⟨wf_fail.1, fun _ => wf_fail.2.2.1, fun _ => wf_fail.2.1, fun _ => rfl⟩
  case call c =>
    obtain ⟨callee, args, ts⟩ := c
    cases callee with
    | value x =>
      simp only [gop]
      split
      · exact ⟨(wf_call _ _ _ _).1, fun _ => (wf_call _ _ _ _).2.2, fun _ => (wf_call _ _ _ _).2.1, fun h => by simp [rd0] at h⟩
      · exact ⟨wf_fail.1, fun _ => wf_fail.2.2.1, fun _ => wf_fail.2.1, fun _ => rfl⟩
    | invoke r m => exact ⟨wf_fail.1, fun _ => wf_fail.2.2.1, fun _ => wf_fail.2.1, fun _ => rfl⟩
    | builtin b =>
      by_cases hb : b = .append
      · subst hb
        simp only [gop]
        split
        · exact ⟨(wf_append _ _ _ _ _).1, fun _ => (wf_append _ _ _ _ _).2, fun h => by simp [noW] at h, fun h => by simp [rd0] at h⟩
        · exact ⟨wf_fail.1, fun _ => wf_fail.2.2.1, fun _ => wf_fail.2.1, fun _ => rfl⟩
      · have : gop P C f (.call ⟨.builtin b, args, ts⟩) = if ts.toList.length = args.toList.length then gpure (mbuiltin P b ts.toList.toArray (args.toList.map (mval f))) else gfail := by
          cases b <;> first | rfl | exact absurd rfl hb
        rw [this]
        split
        · exact ⟨(wf_pure _).1, fun _ => (wf_pure _).2.2.1, fun _ => (wf_pure _).2.1, fun _ => rfl⟩
        · exact ⟨wf_fail.1, fun _ => wf_fail.2.2.1, fun _ => wf_fail.2.1, fun _ => rfl⟩
  all_goals exact ⟨(wf_pure _).1, fun _ => (wf_pure _).2.2.1, fun _ => (wf_pure _).2.1, fun _ => rfl⟩

end Go.Proofs.Ytielcgplbnlgbaa.D2
end

section
/- Regions whose order is drawn, with calls that answer a new place (3): the forms are the operations. -/
set_option linter.unusedVariables false
set_option linter.unusedSimpArgs false
namespace Go.Proofs.Ytielcgplbnlgbaa.D2

def mcallC (P : Program) (C : Know) (g : FuncId) (ms : List MV) (σ : St) (k : MV → St → Prop) : Prop :=
  (∃ rd q os, C g ms = some ⟨rd, q, none⟩ ∧ rd.map σ = os.map some ∧ MCalls P g ms (St.ofList rd os) (fun v σ' => q v ∧ σ' = St.ofList rd os) ∧ (∃ v, q v) ∧ ∀ v, q v → k v σ) ∨
  ∃ rd q o u, C g ms = some ⟨rd, q, some (o, u)⟩ ∧ MCalls P g ms St.none (fun v σ' => ∃ l, v = u l ∧ σ' = St.none.set l o) ∧ ∀ l, σ l = none → k (u l) (σ.set l o)

def mopC (P : Program) (C : Know) (f : FR) (σ : St) (k : MV → St → Prop) : Op → Prop
  | .call ⟨.value x, args, ts⟩ => match mval f x with
    | .fn (.func g) ms ns => mcallC P C g (ms ++ args.toList.map (mval f) ++ ns) σ k
    | _ => False
  | .defer _ => False
  | op => mop P f σ k op

section
variable {P : Program} {C : Know} {f : FR} {σ : St} {U : Nat → Prop}

theorem gs_pure {pv : PV} {k : MV → St → Prop} (h : mpure σ k pv) : gs U σ (gpure pv) fun v _ σ' => k v σ' := by
  cases pv with
  | none => exact h.elim
  | some x =>
    obtain ⟨Cd, v⟩ := x
    refine ⟨[], ⟨Cd, none, none, none, fun _ u => u = v⟩, rfl, rfl, h.1, fun _ => ⟨v, rfl⟩, fun u U' σ' ho => ?_⟩
    obtain ⟨rfl, -, rfl⟩ := ho
    rw [app_id ⟨rfl, rfl⟩]
    exact h.2

theorem pure_gs {pv : PV} {k : MV → (Nat → Prop) → St → Prop} (h : gs U σ (gpure pv) k) : mpure σ (fun v σ' => ∃ U', (∀ l, U' l → U l ∨ σ' l ≠ none) ∧ k v U' σ') pv := by
  obtain ⟨os, e, h1, h2, h3, h4, h5⟩ := h
  cases pv with
  | none => simp [gpure] at h2
  | some x =>
    obtain ⟨Cd, v⟩ := x
    simp only [gpure, Option.map_some, Option.some.injEq] at h2
    subst h2
    refine ⟨h3, U, fun l h => .inl h, h5 v U σ ⟨rfl, rfl, ?_⟩⟩
    rw [app_id ⟨rfl, rfl⟩]

theorem gs_alloc {Cd : Prop} {o : MObj} {v : Nat → MV} {k : MV → St → Prop} (hd : Dom U σ) (h : Cd ∧ ∀ l, σ l = none → k (v l) (σ.set l o)) : gs U σ (galloc Cd o v) fun v _ σ' => k v σ' := by
  refine ⟨[], ⟨Cd, none, none, some o, fun l u => u = v l⟩, rfl, rfl, h.1, fun l => ⟨v l, rfl⟩, fun u U' σ' ho => ?_⟩
  obtain ⟨l, hl, rfl, -, rfl⟩ := ho
  rw [app_id ⟨rfl, rfl⟩]
  exact h.2 l (by
    cases hs : σ l with
    | none => rfl
    | some x => exact absurd (hd l (by simp [hs])) hl)

/-- What is told of a place that was taken newly. -/
def Newly (U : Nat → Prop) (σ : St) (k : MV → (Nat → Prop) → St → Prop) (v : MV) (σ' : St) : Prop :=
  (∀ l, σ' l ≠ none → σ l = none → ¬ U l) → ∃ U', (∀ l, U' l → U l ∨ σ' l ≠ none) ∧ k v U' σ'

theorem alloc_gs {Cd : Prop} {o : MObj} {v : Nat → MV} {k : MV → (Nat → Prop) → St → Prop} (h : gs U σ (galloc Cd o v) k) : Cd ∧ ∀ l, σ l = none → Newly U σ k (v l) (σ.set l o) := by
  obtain ⟨os, e, h1, h2, h3, h4, h5⟩ := h
  simp only [galloc, Option.some.injEq] at h2
  subst h2
  refine ⟨h3, fun l hl hn => ⟨fun x => x = l ∨ U x, fun x hx => hx.elim (fun e => .inr (by rw [e, set_hit]; simp)) .inl, h5 _ _ _ ⟨l, hn l (by rw [set_hit]; simp) hl, rfl, rfl, ?_⟩⟩⟩
  rw [app_id ⟨rfl, rfl⟩]

theorem mpure_mono {pv : PV} {k k' : MV → St → Prop} (h : mpure σ k pv) (hk : ∀ v σ', k v σ' → k' v σ') : mpure σ k' pv := by
  cases pv with
  | none => exact h.elim
  | some x => exact ⟨h.1, hk _ _ h.2⟩

theorem msrc_stOf {e : Nat} {x : MV} {os : List MObj} (h : (srcLoc x).map σ = os.map some) : msrc (stOf os) e x = msrc σ e x := by
  cases x <;> try rfl
  rename_i e' l lo n
  cases os with
  | nil => simp [srcLoc] at h
  | cons o r =>
    simp only [srcLoc, List.map_cons, List.map_nil, List.cons.injEq] at h
    simp only [msrc, stOf, List.head?_cons, h.1]

theorem src_ex {e : Nat} {x : MV} {ys : List (List MV)} (h : msrc σ e x = some ys) : ∃ os : List MObj, (srcLoc x).map σ = os.map some := by
  cases x <;> try exact ⟨[], rfl⟩
  rename_i e' l lo n
  simp only [msrc] at h
  split at h
  · split at h
    · rename_i t e2 xs hs; exact ⟨[.row t e2 xs], by simp [srcLoc, hs]⟩
    · cases h
  · cases h

theorem gs_load {t : TypeId} {x : MV} {k : MV → St → Prop} (h : mload P t x σ k) : gs U σ (gload P t x) fun v _ σ' => k v σ' := by
  unfold mload at h
  unfold gload
  split at h
  · rename_i l i o
    split at h
    · rename_i tt e xs hs
      refine ⟨[.row tt e xs], _, by simp [hs], rfl, h.1, fun _ => ⟨_, rfl⟩, fun v U' σ' ho => ?_⟩
      obtain ⟨rfl, -, rfl⟩ := ho
      rw [app_id ⟨rfl, rfl⟩]; exact h.2
    · exact h.elim
  · exact gs_pure (σ := σ) (pv := some (_, _)) h
  · exact h.elim

theorem load_gs {t : TypeId} {x : MV} {k : MV → (Nat → Prop) → St → Prop} (h : gs U σ (gload P t x) k) : mload P t x σ (Newly U σ k) := by
  unfold gload at h
  unfold mload
  split at h
  · rename_i l i o
    obtain ⟨os, e, h1, h2, h3, h4, h5⟩ := h
    simp only at h1 h2
    split at h2
    · rename_i tt ee xs
      cases h2
      simp only [List.map_cons, List.map_nil, List.cons.injEq, and_true] at h1
      simp only [h1]
      refine ⟨h3, fun _ => ⟨U, fun _ h => .inl h, h5 _ _ _ ⟨rfl, rfl, ?_⟩⟩⟩
      rw [app_id ⟨rfl, rfl⟩]
    · cases h2
  · obtain ⟨h1, U', h2, h3⟩ := pure_gs (σ := σ) h
    exact ⟨h1, fun _ => ⟨U', h2, h3⟩⟩
  · obtain ⟨os, e, h1, h2, _⟩ := h
    simp [gfail] at h2

theorem app_upd {Cd : Prop} {l : Nat} {o : MObj} {n : Option MObj} {v : Nat → MV → Prop} : (Eff.app ⟨Cd, none, some (l, o), n, v⟩ σ) = σ.set l o := by
  funext k
  simp only [Eff.app, St.set, Option.map_some, Option.some.injEq, reduceCtorEq, if_false]
  by_cases hk : k = l
  · simp [hk]
  · rw [if_neg (Ne.symm hk), if_neg hk]

theorem gs_store {t : TypeId} {x y : MV} {k : MV → St → Prop} (h : mstore P t x y σ k) : gs U σ (gstore P t x y) fun v _ σ' => k v σ' := by
  unfold mstore at h
  unfold gstore
  split at h
  · rename_i l i o
    split at h
    · rename_i tt e xs hs
      refine ⟨[.row tt e xs], _, by simp [hs], rfl, h.1, fun _ => ⟨_, rfl⟩, fun v U' σ' ho => ?_⟩
      obtain ⟨rfl, -, rfl⟩ := ho
      rw [app_upd]; exact h.2
    · exact h.elim
  · exact h.elim

theorem store_gs {t : TypeId} {x y : MV} {k : MV → (Nat → Prop) → St → Prop} (h : gs U σ (gstore P t x y) k) : mstore P t x y σ (Newly U σ k) := by
  unfold gstore at h
  unfold mstore
  split at h
  · rename_i l i o
    obtain ⟨os, e, h1, h2, h3, h4, h5⟩ := h
    simp only at h1 h2
    split at h2
    · rename_i tt ee xs
      cases h2
      simp only [List.map_cons, List.map_nil, List.cons.injEq, and_true] at h1
      simp only [h1]
      refine ⟨h3, fun _ => ⟨U, fun _ h => .inl h, h5 _ _ _ ⟨rfl, rfl, ?_⟩⟩⟩
      rw [app_upd]
    · cases h2
  · obtain ⟨os, e, h1, h2, _⟩ := h
    simp [gfail] at h2

theorem app_kill {Cd : Prop} {l : Nat} {n : Option MObj} {v : Nat → MV → Prop} : (Eff.app ⟨Cd, some l, none, n, v⟩ σ) = σ.del l := by
  funext k
  simp only [Eff.app, St.del, Option.map_none, reduceCtorEq, if_false, Option.some.injEq]
  by_cases hk : k = l
  · simp [hk]
  · rw [if_neg (Ne.symm hk), if_neg hk]

theorem fresh_of (hd : Dom U σ) {l : Nat} (hl : ¬ U l) : σ l = none := by
  cases hs : σ l with
  | none => rfl
  | some x => exact absurd (hd l (by simp [hs])) hl

theorem gs_append {t xt : TypeId} {s x : MV} {k : MV → St → Prop} (hd : Dom U σ) (h : mappend P t xt s x σ k) : gs U σ (gappend P t xt s x) fun v _ σ' => k v σ' := by
  unfold mappend at h
  unfold gappend
  split at h
  · rename_i el hk
    simp only [hk]
    split at h
    · rename_i ys hy
      obtain ⟨os, hos⟩ := src_ex hy
      have hsrc := msrc_stOf (e := (td P el).size) hos
      rw [hy] at hsrc
      split at h
      · refine ⟨os, ⟨(td P xt).k.isSrc = true ∧ (td P el).zok = true ∧ Fits ys.length (td P el).bytes, none, none, some (.row el (td P el).size ys), fun l u => u = .vec (td P el).size l 0 ys.length⟩, hos, by simp only [hsrc], h.1, fun l => ⟨_, rfl⟩, fun u U' σ' ho => ?_⟩
        obtain ⟨l, hl, rfl, -, rfl⟩ := ho
        rw [app_id ⟨rfl, rfl⟩]
        exact h.2 l (fresh_of hd hl)
      · rename_i e xs
        refine ⟨os, ⟨(td P xt).k.isSrc = true ∧ (td P el).zok = true ∧ e = (td P el).size ∧ (xs = [] ∨ 0 < ys.length) ∧ Fits (xs.length + ys.length) (td P el).bytes, none, none, some (.row el (td P el).size (xs ++ ys)), fun l u => u = .vec (td P el).size l 0 (xs.length + ys.length)⟩, hos, by simp only [hsrc], h.1, fun l => ⟨_, rfl⟩, fun u U' σ' ho => ?_⟩
        obtain ⟨l, hl, rfl, -, rfl⟩ := ho
        rw [app_id ⟨rfl, rfl⟩]
        exact h.2 l (fresh_of hd hl)
      · rename_i e l lo n
        split at h
        · rename_i tt e' xs hs
          refine ⟨.row tt e' xs :: os, ⟨(td P xt).k.isSrc = true ∧ (td P el).zok = true ∧ e = (td P el).size ∧ e' = (td P el).size ∧ tt = el ∧ lo + n ≤ xs.length ∧ Fits (n + ys.length) (td P el).bytes, some l, none, some (.row el (td P el).size (appRow xs lo n ys)), fun l' u => u = .vec (td P el).size l' 0 (n + ys.length)⟩, by simp [hs, hos], by simp only [hsrc], h.1, fun l => ⟨_, rfl⟩, fun u U' σ' ho => ?_⟩
          obtain ⟨l', hl, rfl, -, rfl⟩ := ho
          rw [app_kill]
          exact h.2 l' (fresh_of hd hl)
        · exact h.elim
      · exact h.elim
    · exact h.elim
  · exact h.elim

theorem append_gs {t xt : TypeId} {s x : MV} {k : MV → (Nat → Prop) → St → Prop} (h : gs U σ (gappend P t xt s x) k) : mappend P t xt s x σ (Newly U σ k) := by
  unfold gappend at h
  unfold mappend
  split at h
  · rename_i el hk
    split at h
    · obtain ⟨os, e, h1, h2, h3, h4, h5⟩ := h
      simp only at h1 h2
      split at h2
      · rename_i ys hy
        cases h2
        rw [msrc_stOf h1] at hy
        simp only [hk, hy]
        refine ⟨h3, fun l hl hn => ⟨fun x => x = l ∨ U x, fun x hx => hx.elim (fun e => .inr (by rw [e, set_hit]; simp)) .inl, h5 _ _ _ ⟨l, hn l (by rw [set_hit]; simp) hl, rfl, rfl, ?_⟩⟩⟩
        rw [app_id ⟨rfl, rfl⟩]
      · cases h2
    · obtain ⟨os, e, h1, h2, h3, h4, h5⟩ := h
      simp only at h1 h2
      split at h2
      · rename_i ys hy
        cases h2
        rw [msrc_stOf h1] at hy
        simp only [hk, hy]
        refine ⟨h3, fun l hl hn => ⟨fun x => x = l ∨ U x, fun x hx => hx.elim (fun e => .inr (by rw [e, set_hit]; simp)) .inl, h5 _ _ _ ⟨l, hn l (by rw [set_hit]; simp) hl, rfl, rfl, ?_⟩⟩⟩
        rw [app_id ⟨rfl, rfl⟩]
      · cases h2
    · obtain ⟨os, e, h1, h2, h3, h4, h5⟩ := h
      simp only at h1 h2
      split at h2
      · rename_i tt e' xs os'
        simp only [List.map_cons, List.cons.injEq] at h1
        split at h2
        · rename_i ys hy
          cases h2
          rw [msrc_stOf h1.2] at hy
          simp only [hk, hy, h1.1]
          refine ⟨h3, fun l hl hn => ⟨fun x => x = l ∨ U x, fun x hx => hx.elim (fun e => .inr (by rw [e, set_hit]; simp)) .inl, h5 _ _ _ ⟨l, hn l (by rw [set_hit]; simp) hl, rfl, rfl, ?_⟩⟩⟩
          rw [app_kill]
        · cases h2
      · cases h2
    · obtain ⟨os, e, h1, h2, _⟩ := h
      simp [gfail] at h2
  · obtain ⟨os, e, h1, h2, _⟩ := h
    simp [gfail] at h2

theorem no_fail {k : MV → (Nat → Prop) → St → Prop} (h : gs U σ gfail k) : False := by
  obtain ⟨os, e, h1, h2, _⟩ := h
  simp [gfail] at h2

theorem gs_src {D : Prop} {x : MV} {k : MV → St → Prop} (h : match msrc σ 1 x with | some ys => (D ∧ ys.all isByte = true) ∧ k (.str (bytesOf ys)) σ | none => False) :
    gs U σ (srcLoc x, fun os => match msrc (stOf os) 1 x with
    | some ys => some ⟨D ∧ ys.all isByte = true, none, none, none, fun _ u => u = .str (bytesOf ys)⟩
    | none => none) fun v _ σ' => k v σ' := by
  split at h
  · rename_i ys hy
    obtain ⟨os, hos⟩ := src_ex hy
    have hsrc := msrc_stOf (e := 1) hos
    rw [hy] at hsrc
    refine ⟨os, ⟨D ∧ ys.all isByte = true, none, none, none, fun _ u => u = .str (bytesOf ys)⟩, hos, by simp only [hsrc], h.1, fun _ => ⟨_, rfl⟩, fun u U' σ' ho => ?_⟩
    obtain ⟨rfl, -, rfl⟩ := ho
    rw [app_id ⟨rfl, rfl⟩]; exact h.2
  · exact h.elim

theorem src_gs {D : Prop} {x : MV} {k : MV → (Nat → Prop) → St → Prop} (h : gs U σ (srcLoc x, fun os => match msrc (stOf os) 1 x with
    | some ys => some ⟨D ∧ ys.all isByte = true, none, none, none, fun _ u => u = .str (bytesOf ys)⟩
    | none => none) k) : match msrc σ 1 x with | some ys => (D ∧ ys.all isByte = true) ∧ Newly U σ k (.str (bytesOf ys)) σ | none => False := by
  obtain ⟨os, e, h1, h2, h3, h4, h5⟩ := h
  simp only at h1 h2
  split at h2
  · rename_i ys hy
    cases h2
    rw [msrc_stOf h1] at hy
    simp only [hy]
    refine ⟨h3, fun _ => ⟨U, fun _ h => .inl h, h5 _ _ _ ⟨rfl, rfl, ?_⟩⟩⟩
    rw [app_id ⟨rfl, rfl⟩]
  · cases h2

theorem gs_convert {s d : TypeId} {x : MV} {k : MV → St → Prop} (hd : Dom U σ) (h : mconvert P s d x σ k) : gs U σ (gconvert P s d x) fun v _ σ' => k v σ' := by
  unfold mconvert at h
  unfold gconvert
  cases hs : (td P s).k <;> cases hk : (td P d).k <;> simp only [hs, hk] at h ⊢ <;> first
    | exact gs_pure h
    | (cases x <;> first | exact gs_pure h | exact gs_alloc hd h | exact h.elim | exact gs_src h)

theorem convert_gs {s d : TypeId} {x : MV} {k : MV → (Nat → Prop) → St → Prop} (h : gs U σ (gconvert P s d x) k) : mconvert P s d x σ (Newly U σ k) := by
  unfold gconvert at h
  unfold mconvert
  have hp : ∀ {pv : PV}, gs U σ (gpure pv) k → mpure σ (Newly U σ k) pv := fun h => mpure_mono (pure_gs h) fun v σ' hh _ => hh
  cases hs : (td P s).k <;> cases hk : (td P d).k <;> simp only [hs, hk] at h ⊢ <;> first
    | exact hp h
    | (cases x <;> first | exact hp h | exact alloc_gs h | exact (no_fail h).elim | exact src_gs h)

theorem gs_call {g : FuncId} {ms : List MV} {k : MV → St → Prop} (hd : Dom U σ) (h : mcallC P C g ms σ k) : gs U σ (gcall P C g ms) fun v _ σ' => k v σ' := by
  rcases h with ⟨rd, q, os, h1, h2, h3, h4, h5⟩ | ⟨rd, q, o, u, h1, h2, h3⟩
  · unfold gcall
    rw [h1]
    refine ⟨os, ⟨MCalls P g ms (St.ofList rd os) (fun v σ' => q v ∧ σ' = St.ofList rd os), none, none, none, fun _ u => q u⟩, h2, rfl, h3, fun _ => h4, fun u U' σ' ho => ?_⟩
    obtain ⟨hq, -, rfl⟩ := ho
    rw [app_id ⟨rfl, rfl⟩]
    exact h5 u hq
  · unfold gcall
    rw [h1]
    exact gs_alloc hd ⟨h2, h3⟩

theorem call_gs {g : FuncId} {ms : List MV} {k : MV → (Nat → Prop) → St → Prop} (h : gs U σ (gcall P C g ms) k) : MCalls P g ms σ (Newly U σ k) := by
  unfold gcall at h
  split at h
  · rename_i rd q hC
    obtain ⟨os, e, h1, h2, h3, h4, h5⟩ := h
    simp only [Option.some.injEq] at h2
    subst h2
    simp only at h1 h3
    have hle := ofList_le rd os h1
    refine (h3.frame hle).mono ?_
    rintro v σ1 ⟨σ', ⟨hq, rfl⟩, rfl, -⟩
    rw [over_minus hle]
    refine fun _ => ⟨U, fun _ h => .inl h, h5 _ _ _ ⟨hq, rfl, ?_⟩⟩
    rw [app_id ⟨rfl, rfl⟩]
  · rename_i rd q o u hC
    obtain ⟨h1, h2⟩ := alloc_gs h
    refine (h1.frame (St.none_le σ)).mono ?_
    rintro v σ1 ⟨σ', ⟨l, rfl, rfl⟩, rfl, hf⟩
    rw [minus_none, over_set, over_none]
    refine h2 l ?_
    rcases hf l o (set_hit _ _ _) with h | ⟨o', h⟩
    · exact h
    · simp [St.none] at h
  · exact (no_fail h).elim

theorem gs_op {op : Op} {k : MV → St → Prop} (hd : Dom U σ) (h : mopC P C f σ k op) : gs U σ (gop P C f op) fun v _ σ' => k v σ' := by
  cases op
  case alloc t => exact gs_alloc hd h
  case box t x => exact gs_alloc hd h
  case load t x => exact gs_load h
  case store t x y => exact gs_store h
  case convert s d x => exact gs_convert hd h
  case buildSlice t n p =>
    have h : mbuildSlice P f t n p σ k := h
    simp only [gop]
    unfold mbuildSlice at h
    unfold gbuildSlice
    split at h
    · rename_i el hk; simp only [hk]; exact gs_alloc hd h
    · exact h.elim
  case makeSlice t x y =>
    have h : mmakeSlice P t (mval f x) (mval f y) σ k := h
    simp only [gop]
    unfold mmakeSlice at h
    unfold gmakeSlice
    split at h
    · rename_i el n c hk hx hy; simp only [hk, hx, hy]; exact gs_alloc hd h
    · exact h.elim
  case defer c => exact h.elim
  case call c =>
    obtain ⟨callee, args, ts⟩ := c
    cases callee with
    | value x =>
      simp only [mopC] at h
      simp only [gop]
      split at h
      · rename_i g ms ns hx; simp only [hx]; exact gs_call hd h
      · exact h.elim
    | invoke r m => exact h.elim
    | builtin b =>
      by_cases hb : b = .append
      · subst hb
        have h : mbcall P f .append args.toList ts.toList σ k := h
        simp only [gop]
        simp only [mbcall] at h
        split at h
        · rename_i s x t xt ha ht; simp only [ha, ht]; exact gs_append hd h
        · exact h.elim
      · have h : mbcall P f b args.toList ts.toList σ k := h
        have e1 : gop P C f (.call ⟨.builtin b, args, ts⟩) = if ts.toList.length = args.toList.length then gpure (mbuiltin P b ts.toList.toArray (args.toList.map (mval f))) else gfail := by
          cases b <;> first | rfl | exact absurd rfl hb
        have e2 : mbcall P f b args.toList ts.toList σ k = (ts.toList.length = args.toList.length ∧ mpure σ k (mbuiltin P b ts.toList.toArray (args.toList.map (mval f)))) := by
          cases b <;> first | rfl | exact absurd rfl hb
        rw [e2] at h
        rw [e1, if_pos h.1]
        exact gs_pure h.2
  all_goals exact gs_pure h

theorem op_gs {op : Op} {k : MV → (Nat → Prop) → St → Prop} (h : gs U σ (gop P C f op) k) : mop P f σ (Newly U σ k) op := by
  have hp : ∀ {pv : PV}, gs U σ (gpure pv) k → mpure σ (Newly U σ k) pv := fun h => mpure_mono (pure_gs h) fun v σ' hh _ => hh
  cases op
  case alloc t => exact alloc_gs h
  case box t x => exact alloc_gs h
  case load t x => exact load_gs h
  case store t x y => exact store_gs h
  case convert s d x => exact convert_gs h
  case buildSlice t n p =>
    simp only [gop] at h
    show mbuildSlice P f t n p σ _
    unfold mbuildSlice
    unfold gbuildSlice at h
    split at h
    · rename_i el hk; simp only [hk]; exact alloc_gs h
    · exact (no_fail h).elim
  case makeSlice t x y =>
    simp only [gop] at h
    show mmakeSlice P t (mval f x) (mval f y) σ _
    unfold mmakeSlice
    unfold gmakeSlice at h
    split at h
    · rename_i el n c hk hx hy; simp only [hk, hx, hy]; exact alloc_gs h
    · exact (no_fail h).elim
  case defer c => exact (no_fail h).elim
  case call c =>
    obtain ⟨callee, args, ts⟩ := c
    cases callee with
    | value x =>
      simp only [gop] at h
      show mcall P f ⟨.value x, args, ts⟩ σ _
      simp only [mcall]
      split at h
      · rename_i g ms ns hx; simp only [hx]; exact call_gs h
      · exact (no_fail h).elim
    | invoke r m => exact (no_fail h).elim
    | builtin b =>
      show mbcall P f b args.toList ts.toList σ _
      by_cases hb : b = .append
      · subst hb
        simp only [gop] at h
        simp only [mbcall]
        split at h
        · rename_i s x t xt ha ht; simp only [ha, ht]; exact append_gs h
        · exact (no_fail h).elim
      · have e1 : gop P C f (.call ⟨.builtin b, args, ts⟩) = if ts.toList.length = args.toList.length then gpure (mbuiltin P b ts.toList.toArray (args.toList.map (mval f))) else gfail := by
          cases b <;> first | rfl | exact absurd rfl hb
        have e2 : mbcall P f b args.toList ts.toList σ (Newly U σ k) = (ts.toList.length = args.toList.length ∧ mpure σ (Newly U σ k) (mbuiltin P b ts.toList.toArray (args.toList.map (mval f)))) := by
          cases b <;> first | rfl | exact absurd rfl hb
        rw [e1] at h
        rw [e2]
        split at h
        · rename_i hl; exact ⟨hl, hp h⟩
        · exact (no_fail h).elim
  all_goals exact hp h

end
end Go.Proofs.Ytielcgplbnlgbaa.D2
end

section
/- Regions whose order is drawn, with calls that answer a new place (4): one order for all. -/
set_option linter.unusedVariables false
set_option linter.unusedSimpArgs false
namespace Go.Proofs.Ytielcgplbnlgbaa.D2

section
variable {P : Program} {C : Know} {ops : Array Oper}

theorem gop_congr {f f' : FR} {op : Op} (h : ∀ x, x ∈ op.operands → mval f x = mval f' x) : gop P C f op = gop P C f' op := by
  cases op <;> simp only [Op.operands] at h
  case buildSlice t n ps =>
    simp only [gop, gbuildSlice]
    have hp : ∀ p, p ∈ ps.toList → mval f p.2 = mval f' p.2 := fun p hp => h p.2 (by simpa using ⟨p.1, by simpa using hp⟩)
    have e1 : (ps.toList.all fun p => (mval f p.2).cells.all MV.isCell && (mval f p.2).cells.length == 0) = (ps.toList.all fun p => (mval f' p.2).cells.all MV.isCell && (mval f' p.2).cells.length == 0) := by
      rw [Bool.eq_iff_iff]; simp only [List.all_eq_true]
      exact ⟨fun q x hx => by rw [← hp x hx]; exact q x hx, fun q x hx => by rw [hp x hx]; exact q x hx⟩
    have e2 : ∀ z, (ps.toList.all fun p => (mval f p.2).cells.all MV.isCell && (mval f p.2).cells.length == z) = (ps.toList.all fun p => (mval f' p.2).cells.all MV.isCell && (mval f' p.2).cells.length == z) := fun z => by
      rw [Bool.eq_iff_iff]; simp only [List.all_eq_true]
      exact ⟨fun q x hx => by rw [← hp x hx]; exact q x hx, fun q x hx => by rw [hp x hx]; exact q x hx⟩
    have e3 : (ps.toList.map fun p => (mval f p.2).cells) = (ps.toList.map fun p => (mval f' p.2).cells) := List.map_congr_left fun p hq => by rw [hp p hq]
    simp only [e2, e3]
  case build t ps =>
    simp only [gop, qop]
    rw [mbuild_congr fun p hp => h p.2 (by simpa using ⟨p.1, by simpa using hp⟩)]
  case makeFunc fn first captured =>
    simp only [gop, qop]
    rw [map_congr' (xs := first.toList) fun x hx => h x (by simp at hx ⊢; exact .inl hx), map_congr' (xs := captured.toList) fun x hx => h x (by simp at hx ⊢; exact .inr hx)]
  case slice t x lo hi mx =>
    simp only [gop, qop]
    rw [h x (by simp)]
    cases lo <;> cases hi <;> cases mx <;> simp_all
  case call c =>
    obtain ⟨callee, args, ts⟩ := c
    have ha : args.toList.map (mval f) = args.toList.map (mval f') := map_congr' fun x hx => h x (by simp [Call.operands]; exact .inr (by simpa using hx))
    cases callee with
    | value x => simp only [gop]; rw [h x (by simp [Call.operands]), ha]
    | invoke r m => rfl
    | builtin b =>
      by_cases hb : b = .append
      · subst hb
        simp only [gop]
        have hm : ∀ y, y ∈ args.toList → mval f y = mval f' y := fun y hy => h y (by simp [Call.operands]; simpa using hy)
        split
        · rename_i s x t xt hl _
          rw [hm s (by simp [hl]), hm x (by simp [hl])]
        · rfl
      · have e1 : ∀ f, gop P C f (.call ⟨.builtin b, args, ts⟩) = if ts.toList.length = args.toList.length then gpure (mbuiltin P b ts.toList.toArray (args.toList.map (mval f))) else gfail := fun f => by
          cases b <;> first | rfl | exact absurd rfl hb
        rw [e1, e1, ha]
  all_goals first
    | rfl
    | (simp_all [gop, qop]; done)

theorem yields_congr {f f' : FR} (h : FEq f f') : True := trivial

/-- An operation and its guard. -/
def gfo (P : Program) (C : Know) (ops : Array Oper) (f : FR) (o : Oper) : GF :=
  match o.guard with
  | none => gop P C f o.op
  | some (j, want) => match (ops[j]?).bind (·.dst) with
    | some t => match f.get t with
      | .bool b => if b = want then gop P C f o.op else gpure (some (True, .junk))
      | _ => gfail
    | none => gfail

theorem wf_gfo (f : FR) (o : Oper) : Wf (gfo P C ops f o) ∧ (noUpd o.op = true → NoUpd (gfo P C ops f o)) ∧ (noW o.op = true → NoW (gfo P C ops f o)) ∧ (rd0 o.op = true → (gfo P C ops f o).1 = []) := by
  have hf : Wf gfail ∧ (noUpd o.op = true → NoUpd gfail) ∧ (noW o.op = true → NoW gfail) ∧ (rd0 o.op = true → gfail.1 = []) := ⟨wf_fail.1, fun _ => wf_fail.2.2.1, fun _ => wf_fail.2.1, fun _ => rfl⟩
  unfold gfo
  split
  · exact wf_gop P C f o.op
  · split
    · split
      · split
        · exact wf_gop P C f o.op
        · exact ⟨(wf_pure _).1, fun _ => (wf_pure _).2.2.1, fun _ => (wf_pure _).2.1, fun _ => rfl⟩
      · exact hf
    · exact hf

theorem gfo_congr {f f' : FR} (h : FEq f f') (o : Oper) : gfo P C ops f o = gfo P C ops f' o := by
  unfold gfo
  rw [gop_congr (f := f) (f' := f') fun x _ => by rw [h.mval]]
  simp only [h.2.2]

theorem gfo_put {f : FR} {dst : Option Tmp} {v : MV} {o : Oper} (h : ∀ d, dst = some d → d ∉ o.looksAt ops) : gfo P C ops (mput f dst v) o = gfo P C ops f o := by
  have h1 : gop P C (mput f dst v) o.op = gop P C f o.op := gop_congr fun x hx => mval_put fun d hd e => h d hd (by
    subst e
    exact List.mem_append_left _ (List.mem_filterMap.2 ⟨.tmp d, by simpa using hx, rfl⟩))
  unfold gfo
  rw [h1]
  split
  · rfl
  · rename_i j want hg
    split
    · rename_i t ht
      have : (mput f dst v).get t = f.get t := by
        rw [get_put, if_neg]
        rintro ⟨e, -⟩
        exact h t e (by simp [Oper.looksAt, hg, ht])
      rw [this]
    · rfl

/-- Operations one by one, as forms. -/
def gl (P : Program) (C : Know) (ops : Array Oper) (K : FR → (Nat → Prop) → St → Prop) : List Oper → FR → (Nat → Prop) → St → Prop
  | [], f, U, σ => K f U σ
  | o :: r, f, U, σ => gs U σ (gfo P C ops f o) fun v U' σ' => gl P C ops K r (mput f o.dst v) U' σ'

def KOk (K : FR → (Nat → Prop) → St → Prop) : Prop := ∀ f f' U U' σ, FEq f f' → (∀ l, U l → U' l) → K f U σ → K f' U' σ

theorem gs_imp {U : Nat → Prop} {σ : St} {g : GF} {k k' : MV → (Nat → Prop) → St → Prop} (h : gs U σ g k) (hk : ∀ v U' σ', k v U' σ' → k' v U' σ') : gs U σ g k' := by
  obtain ⟨os, e, h1, h2, h3, h4, h5⟩ := h
  exact ⟨os, e, h1, h2, h3, h4, fun v U' σ' ho => hk v U' σ' (h5 v U' σ' ho)⟩

theorem gl_ok {K : FR → (Nat → Prop) → St → Prop} (hK : KOk K) : ∀ l, KOk (gl P C ops K l)
  | [] => hK
  | o :: r => fun f f' U U' σ hf hu h => by
    simp only [gl] at h ⊢
    rw [← gfo_congr hf]
    refine gs_anti (gs_imp h fun v U' σ' hh => gl_ok hK r _ (mput f' o.dst v) U' U' σ' (hf.put o.dst v) (fun _ h => h) hh) hu fun v V V' σ hv hh => gl_ok hK r _ _ V V' σ (.refl _) hv hh

/-- Two operations may change places. -/
def swapB (ops : Array Oper) (x y : Oper) : Bool := x.apart ops y && ((rd0 y.op || noUpd x.op) && (rd0 x.op || noW y.op) && (noW x.op || noW y.op))

/-- Pointers that lie in slots which the region does not turn, each to a place of its own. -/
def DOk (Ds : List Nat) (loc : Nat → Nat) (f : FR) : Prop := (∀ t, t ∈ Ds → ∃ i o, f.get t = .ptr (loc t) i o) ∧ ∀ t t', t ∈ Ds → t' ∈ Ds → t ≠ t' → loc t ≠ loc t'
def dsr (Ds : List Nat) : Op → Option Nat
  | .load _ (.tmp t) => if Ds.contains t then some t else none
  | .store _ (.tmp t) _ => if Ds.contains t then some t else none
  | _ => none
def disjD (Ds : List Nat) (x y : Op) : Bool := match dsr Ds x, dsr Ds y with
  | some a, some b => a != b
  | _, _ => false
def swapD (Ds : List Nat) (ops : Array Oper) (x y : Oper) : Bool := swapB ops x y || (x.apart ops y && disjD Ds x.op y.op)
def keepsD (Ds : List Nat) (o : Oper) : Bool := match o.dst with
  | some d => !Ds.contains d
  | none => true

theorem DOk.put {Ds : List Nat} {loc : Nat → Nat} {f : FR} (h : DOk Ds loc f) {o : Oper} (hk : keepsD Ds o = true) (v : MV) : DOk Ds loc (mput f o.dst v) :=
  ⟨fun t ht => by
    rw [get_put, if_neg]
    · exact h.1 t ht
    · rintro ⟨e, -⟩
      simp only [keepsD, e, Bool.not_eq_true', List.contains_iff_mem] at hk
      simp [ht] at hk, h.2⟩

theorem dsr_reads {Ds : List Nat} {loc : Nat → Nat} {f : FR} (h : DOk Ds loc f) {o : Oper} {t : Nat} (ho : dsr Ds o.op = some t) : t ∈ Ds ∧ ∀ l, l ∈ (gfo P C ops f o).1 → l = loc t := by
  have key : t ∈ Ds ∧ ∀ l, l ∈ (gop P C f o.op).1 → l = loc t := by
    unfold dsr at ho
    split at ho
    · rename_i ty u hop
      split at ho
      · rename_i hu
        cases ho
        have hm : t ∈ Ds := by simpa using hu
        obtain ⟨i, q, e⟩ := h.1 t hm
        refine ⟨hm, fun l hl => ?_⟩
        rw [hop] at hl
        simp only [gop, mval, e, gload, List.mem_singleton] at hl
        exact hl
      · cases ho
    · rename_i ty u y hop
      split at ho
      · rename_i hu
        cases ho
        have hm : t ∈ Ds := by simpa using hu
        obtain ⟨i, q, e⟩ := h.1 t hm
        refine ⟨hm, fun l hl => ?_⟩
        rw [hop] at hl
        simp only [gop, mval, e, gstore, List.mem_singleton] at hl
        exact hl
      · cases ho
    · cases ho
  refine ⟨key.1, fun l hl => ?_⟩
  unfold gfo at hl
  split at hl
  · exact key.2 l hl
  · split at hl
    · split at hl
      · split at hl
        · exact key.2 l hl
        · simp [gpure] at hl
      · simp [gfail] at hl
    · simp [gfail] at hl

theorem pull {K : FR → (Nat → Prop) → St → Prop} (hK : KOk K) {Ds : List Nat} {loc : Nat → Nat} (l2 : List Oper) (o : Oper) : ∀ (l1 : List Oper) (f : FR) (U : Nat → Prop) (σ : St), Dom U σ → Fin U → DOk Ds loc f → (∀ x, x ∈ l1 → swapD Ds ops x o = true) → (∀ x, x ∈ l1 → keepsD Ds x = true) →
    gl P C ops K (l1 ++ o :: l2) f U σ → gs U σ (gfo P C ops f o) fun v U1 σ1 => ∀ U1', (∀ l, U1 l → U1' l) → gl P C ops K (l1 ++ l2) (mput f o.dst v) U1' σ1 := by
  intro l1
  induction l1 with
  | nil =>
    intro f U σ hd hf _ _ _ h
    exact gs_imp h fun v U' σ' hh U1' hu => gl_ok hK _ _ _ U' U1' σ' (.refl _) hu hh
  | cons x l1 ih =>
    intro f U σ hd hf hD hsw hkp h
    have hx := hsw x (by simp)
    have wx := wf_gfo (P := P) (C := C) (ops := ops) f x
    have wo := wf_gfo (P := P) (C := C) (ops := ops) f o
    have hx2 : x.apart ops o = true ∧ ((((gfo P C ops f o).1 = [] ∨ NoUpd (gfo P C ops f x)) ∧ ((gfo P C ops f x).1 = [] ∨ NoW (gfo P C ops f o)) ∧ (NoW (gfo P C ops f x) ∨ NoW (gfo P C ops f o))) ∨ ∀ l, l ∈ (gfo P C ops f x).1 → l ∉ (gfo P C ops f o).1) := by
      simp only [swapD, swapB, Bool.or_eq_true, Bool.and_eq_true] at hx
      rcases hx with ⟨hap, ⟨c1, c2⟩, c3⟩ | ⟨hap, hdj⟩
      · exact ⟨hap, .inl ⟨c1.imp wo.2.2.2 wx.2.1, c2.imp wx.2.2.2 wo.2.2.1, c3.imp wx.2.2.1 wo.2.2.1⟩⟩
      · refine ⟨hap, .inr ?_⟩
        unfold disjD at hdj
        split at hdj
        · rename_i a b ha hb
          obtain ⟨m1, r1⟩ := dsr_reads (P := P) (C := C) (ops := ops) hD ha
          obtain ⟨m2, r2⟩ := dsr_reads (P := P) (C := C) (ops := ops) hD hb
          intro l h1 h2
          have e1 := r1 l h1
          have e2 := r2 l h2
          exact hD.2 a b m1 m2 (by simpa using hdj) (e1.symm.trans e2)
        · cases hdj
    obtain ⟨hap, hc⟩ := hx2
    obtain ⟨a1, a2, a3⟩ := Oper.apart_spec hap
    simp only [List.cons_append, gl] at h
    have h' := gs_mono h hd hf (k' := fun v U1 σ1 => gs U1 σ1 (gfo P C ops f o) fun u U2 σ2 => ∀ U2', (∀ l, U2 l → U2' l) → gl P C ops K (l1 ++ l2) (mput (mput f x.dst v) o.dst u) U2' σ2) (fun v U1 σ1 hd1 hf1 _ hh => by
      have := ih (mput f x.dst v) U1 σ1 hd1 hf1 (hD.put (hkp x (by simp)) v) (fun y hy => hsw y (by simp [hy])) (fun y hy => hkp y (by simp [hy])) hh
      rwa [gfo_put a1] at this) wx.1
    have h2 := gs_swap (K := fun v u U2 σ2 => ∀ U2', (∀ l, U2 l → U2' l) → gl P C ops K (l1 ++ l2) (mput (mput f x.dst v) o.dst u) U2' σ2) hd hf wx.1 wo.1 hc
      (fun v u V V' σ hv hh U2' hu => hh U2' fun l hl => hu l (hv l hl)) h'
    refine gs_imp h2 fun u U1 σ1 hh U1' hu => ?_
    simp only [List.cons_append, gl]
    rw [gfo_put a3]
    refine gs_imp (hh U1' hu) fun v U2 σ2 hk => ?_
    exact gl_ok hK _ _ _ U2 U2 σ2 (FEq.comm f v u a2) (fun _ h => h) (hk U2 fun _ h => h)

end
end Go.Proofs.Ytielcgplbnlgbaa.D2
end

section
/- Regions whose order is drawn, with calls that answer a new place (5): the region's rule. -/
set_option linter.unusedVariables false
set_option linter.unusedSimpArgs false
namespace Go.Proofs.Ytielcgplbnlgbaa.D2

/-- What stands ahead of each operation, as bits. -/
def masks : List Oper → List Nat → List Nat
  | [], acc => acc
  | o :: r, acc => masks r (acc ++ [o.after.toList.foldl (fun m e => if Region.binds .any e then (m ||| 2 ^ e.on) ||| acc.getD e.on 0 else m) 0])

/-- One order serves for all. -/
def chkD (Ds : List Nat) (ops : Array Oper) : Bool :=
  let ms := masks ops.toList []
  (ops.toList.all (keepsD Ds)) && (List.range ops.size).all fun i => match ops[i]? with
    | none => true
    | some oi => (oi.after.toList.all fun e => !Region.binds .any e || decide (e.on < i)) &&
      ((List.range i).all fun j => match ops[j]? with
        | none => true
        | some oj => (ms.getD i 0).testBit j || swapD Ds ops oj oi)
def chk (ops : Array Oper) : Bool := chkD [] ops

section
variable {P : Program} {C : Know} {ops : Array Oper}

/-- Whatever is done, what stands ahead of it is done. -/
def Closed (ops : Array Oper) (L : Nat → Prop) : Prop := ∀ i o, ops[i]? = some o → L i → ∀ e, e ∈ o.after.toList → Region.binds .any e = true → L e.on

theorem fold_bit {L : Nat → Prop} {acc : List Nat} {B : Edge → Bool} (hacc : ∀ i, L i → ∀ j, (acc.getD i 0).testBit j = true → L j) : ∀ (es : List Edge) (m : Nat), (∀ e, e ∈ es → B e = true → L e.on) → (∀ j, m.testBit j = true → L j) →
    ∀ j, (es.foldl (fun m e => if B e then (m ||| 2 ^ e.on) ||| acc.getD e.on 0 else m) m).testBit j = true → L j := by
  intro es
  induction es with
  | nil => intro m _ hm j h; exact hm j h
  | cons e r ih =>
    intro m he hm j h
    simp only [List.foldl_cons] at h
    refine ih _ (fun e' h' => he e' (by simp [h'])) (fun k hk => ?_) j h
    split at hk
    · rename_i hb
      simp only [Nat.testBit_or, Bool.or_eq_true] at hk
      rcases hk with (hk | hk) | hk
      · exact hm k hk
      · rw [Nat.testBit_two_pow] at hk
        have : e.on = k := by simpa using hk
        exact this ▸ he e (by simp) hb
      · exact hacc e.on (he e (by simp) hb) k hk
    · exact hm k hk

theorem masks_good {L : Nat → Prop} : ∀ (l pre : List Oper) (acc : List Nat), acc.length = pre.length → Closed (pre ++ l).toArray L →
    (∀ i, (L i ∨ ∃ o, (pre ++ l)[i]? = some o ∧ ∀ e, e ∈ o.after.toList → Region.binds .any e = true → L e.on) → ∀ j, (acc.getD i 0).testBit j = true → L j) →
    ∀ i, (L i ∨ ∃ o, (pre ++ l)[i]? = some o ∧ ∀ e, e ∈ o.after.toList → Region.binds .any e = true → L e.on) → ∀ j, ((masks l acc).getD i 0).testBit j = true → L j := by
  intro l
  induction l with
  | nil => intro pre acc _ _ h; exact h
  | cons o r ih =>
    intro pre acc hl hc h
    have e1 : pre ++ o :: r = (pre ++ [o]) ++ r := by simp
    simp only [masks]
    rw [e1] at hc h ⊢
    refine ih (pre ++ [o]) _ (by simp [hl]) hc (fun i hi j hj => ?_)
    rcases Nat.lt_trichotomy i acc.length with q | q | q
    · refine h i hi j ?_
      simpa [List.getD, List.getElem?_append_left q] using hj
    · have ho : ((pre ++ [o]) ++ r)[i]? = some o := by
        rw [q, hl]; simp
      have hpre : ∀ e, e ∈ o.after.toList → Region.binds .any e = true → L e.on := by
        rcases hi with hi | ⟨o', h1, h2⟩
        · exact hc i o (by simpa using ho) hi
        · rw [ho] at h1; cases h1; exact h2
      rw [q] at hj
      simp only [List.getD, List.getElem?_append_right (Nat.le_refl _), Nat.sub_self, List.getElem?_cons_zero, Option.getD_some] at hj
      exact fold_bit (B := Region.binds .any) (fun k hk => h k (.inl hk)) o.after.toList 0 hpre (fun j hj => by simp at hj) j hj
    · have : (acc ++ [o.after.toList.foldl (fun m e => if Region.binds .any e then (m ||| 2 ^ e.on) ||| acc.getD e.on 0 else m) 0])[i]? = none := by
        rw [List.getElem?_eq_none]; simp; omega
      rw [List.getD, this] at hj
      simp at hj

/-- What is to come. -/
def left (listed : Array Bool) (n : Nat) : List Nat := (List.range n).filter fun i => !listed.getD i true

theorem left_set {listed : Array Bool} {n i : Nat} (hs : listed.size = n) : left (listed.setIfInBounds i true) n = (left listed n).filter fun j => j != i := by
  unfold left
  rw [List.filter_filter]
  refine List.filter_congr fun j hj => ?_
  have hj : j < n := by simpa using hj
  by_cases h : j = i
  · subst h; simp [hs, hj]
  · have : (i : Nat) ≠ j := fun e => h e.symm
    simp [h, Array.getElem?_setIfInBounds_ne this]

theorem left_split {listed : Array Bool} {n i : Nat} (h : i ∈ left listed n) : ∃ l1 l2, left listed n = l1 ++ i :: l2 ∧ (∀ j, j ∈ l1 → j < i) ∧ (left listed n).filter (fun j => j != i) = l1 ++ l2 := by
  obtain ⟨l1, l2, he⟩ := List.append_of_mem h
  have hp : (left listed n).Pairwise (· < ·) := List.Pairwise.filter _ List.pairwise_lt_range
  rw [he] at hp
  obtain ⟨h1, h2, h3⟩ := List.pairwise_append.1 hp
  have h4 := (List.pairwise_cons.1 h2).1
  refine ⟨l1, l2, he, fun j hj => h3 j hj i (by simp), ?_⟩
  rw [he]
  simp only [List.filter_append, List.filter_cons, bne_self_eq_false, Bool.false_eq_true, if_false]
  congr 1
  · exact List.filter_eq_self.2 fun j hj => by have := h3 j hj i (by simp); simp; omega
  · exact List.filter_eq_self.2 fun j hj => by have := h4 j hj; simp; omega

def opsOf (ops : Array Oper) (is : List Nat) : List Oper := is.filterMap fun i => ops[i]?

theorem mem_left {listed : Array Bool} {n i : Nat} : i ∈ left listed n ↔ i < n ∧ listed.getD i true = false := by simp [left]

theorem any_sound {Ds : List Nat} {loc : Nat → Nat} (hchk : chkD Ds ops = true) {Q : MQ} {Φ0 : Phi} {σ0 : St} {w0 : World} : ∀ (fuel : Nat) (listed : Array Bool) (f : FR) (σ : St) (Φ : Phi) (w : World) (a : Act), listed.size = ops.size → (left listed ops.size).length = fuel →
    Closed ops (fun i => listed.getD i false = true) → Inv Φ w σ → FRel Φ a.tmps f → DRel Φ a.defers f.d → DOk Ds loc f → Step Φ0 σ0 w0 Φ σ w →
    gl P C ops (fun f' _ σ' => ∃ f'', FEq f' f'' ∧ Q .normal f'' σ') (opsOf ops (left listed ops.size)) f (fun l => Φ.obj l ≠ none) σ → wpAny P .any ops (lift Φ0 σ0 w0 Q) fuel listed a w := by
  have hKok : KOk (fun f' (_ : Nat → Prop) σ' => ∃ f'', FEq f' f'' ∧ Q .normal f'' σ') := fun f f' U U' σ hf _ ⟨f'', h1, h2⟩ => ⟨f'', hf.symm.trans h1, h2⟩
  have fin : ∀ (listed : Array Bool) (f : FR) (σ : St) (Φ : Phi) (w : World) (a : Act), left listed ops.size = [] → Inv Φ w σ → FRel Φ a.tmps f → DRel Φ a.defers f.d → Step Φ0 σ0 w0 Φ σ w →
      gl P C ops (fun f' _ σ' => ∃ f'', FEq f' f'' ∧ Q .normal f'' σ') (opsOf ops (left listed ops.size)) f (fun l => Φ.obj l ≠ none) σ → lift Φ0 σ0 w0 Q .normal a w := by
    intro listed f σ Φ w a hl hi hr hd hs h
    rw [hl] at h
    obtain ⟨f'', h1, h2⟩ := h
    exact ⟨f'', σ, Φ, h1.2.1 ▸ hd, ⟨hr.1.trans h1.1, fun t => by rw [← h1.2.2 t]; exact hr.2 t⟩, hi, hs, h2⟩
  have ready_left : ∀ (listed : Array Bool) i, i ∈ Region.ready .any ops listed → i ∈ left listed ops.size := fun listed i hi => by
    obtain ⟨h0, o, ho, -⟩ := mem_ready.1 hi
    exact mem_left.2 ⟨(Array.getElem?_eq_some_iff.1 ho).1, h0⟩
  have chk1 : ∀ i oi, ops[i]? = some oi → (∀ e, e ∈ oi.after.toList → Region.binds .any e = true → e.on < i) ∧ ∀ j oj, j < i → ops[j]? = some oj → ((masks ops.toList []).getD i 0).testBit j = true ∨ swapD Ds ops oj oi = true := by
    intro i oi hoi
    have hlt := (Array.getElem?_eq_some_iff.1 hoi).1
    have h := hchk
    simp only [chkD, Bool.and_eq_true] at h
    replace h := h.2
    simp only [List.all_eq_true, List.mem_range] at h
    have h1 := h i hlt
    rw [hoi] at h1
    simp only [Bool.and_eq_true, List.all_eq_true, Bool.or_eq_true, Bool.not_eq_true', decide_eq_true_eq, List.mem_range] at h1
    refine ⟨fun e he hb => ?_, fun j oj hj hoj => ?_⟩
    · rcases h1.1 e he with q | q
      · rw [hb] at q; cases q
      · exact q
    · have := h1.2 j hj
      rw [hoj] at this
      simpa using this
  intro fuel
  induction fuel with
  | zero =>
    intro listed f σ Φ w a hsz hl hc hi hr hd hD hs h
    have hnil : left listed ops.size = [] := List.eq_nil_of_length_eq_zero hl
    refine ⟨?_, fin listed f σ Φ w a hnil hi hr hd hs h⟩
    rw [List.eq_nil_iff_forall_not_mem]
    intro i hi
    have := ready_left listed i hi
    rw [hnil] at this; cases this
  | succ fuel ih =>
    intro listed f σ Φ w a hsz hl hc hi hr hd hD hs h
    refine ⟨fun hnone => ?_, fun i hrd => ?_⟩
    · -- the first that is left is ready
      exfalso
      cases hleft : left listed ops.size with
      | nil => rw [hleft] at hl; cases hl
      | cons i0 r =>
        have h0 : i0 ∈ left listed ops.size := by rw [hleft]; simp
        obtain ⟨hlt, h0'⟩ := mem_left.1 h0
        have hoi : ops[i0]? = some ops[i0] := Array.getElem?_eq_getElem hlt
        have : i0 ∈ Region.ready .any ops listed := mem_ready.2 ⟨h0', _, hoi, fun e he hb => by
          have hlt' := (chk1 i0 _ hoi).1 e (by simpa using he) hb
          cases hq : listed.getD e.on false with
          | true => rfl
          | false =>
            exfalso
            have hm : e.on ∈ left listed ops.size := mem_left.2 ⟨by omega, by
              have hb2 : e.on < listed.size := by omega
              simpa [hb2] using hq⟩
            have hp : (left listed ops.size).Pairwise (· < ·) := List.Pairwise.filter _ List.pairwise_lt_range
            rw [hleft] at hp hm
            have := (List.pairwise_cons.1 hp).1
            rcases List.mem_cons.1 hm with q | q
            · omega
            · have := this e.on q; omega⟩
        rw [hnone] at this; cases this
    · have hmem := ready_left listed i hrd
      obtain ⟨l1, l2, he, hlt, hflt⟩ := left_split hmem
      obtain ⟨h0, o, ho, hpre⟩ := mem_ready.1 hrd
      have hsw : ∀ x, x ∈ opsOf ops l1 → swapD Ds ops x o = true := by
        intro x hx
        obtain ⟨j, hj, hx⟩ := List.mem_filterMap.1 hx
        rcases (chk1 i o ho).2 j x (hlt j hj) hx with q | q
        · exfalso
          have := masks_good (L := fun i => listed.getD i false = true) ops.toList [] [] rfl (by simpa using hc) (fun i hi j hj => by simp at hj) i (.inr ⟨o, by simpa using ho, fun e he hb => hpre e (by simpa using he) hb⟩) j q
          have hjl : j ∈ left listed ops.size := by rw [he]; simp [hj]
          have hj2 := (mem_left.1 hjl)
          have hb2 : j < listed.size := by omega
          simp [hb2] at this hj2
          simp [this] at hj2
        · exact q
      have e2 : opsOf ops (left listed ops.size) = opsOf ops l1 ++ o :: opsOf ops l2 := by rw [he]; simp [opsOf, List.filterMap_append, ho]
      rw [e2] at h
      have hdom : Dom (fun l => Φ.obj l ≠ none) σ := fun l hl q => hl (hi.obj_none q)
      have hfin : Fin (fun l => Φ.obj l ≠ none) := by
        obtain ⟨n, hn⟩ := hi.fresh
        exact ⟨n, fun l hl q => q (hn l hl)⟩
      have hkall : ∀ (j : Nat) x, ops[j]? = some x → keepsD Ds x = true := fun j x hx => by
        have h := hchk
        simp only [chkD, Bool.and_eq_true, List.all_eq_true] at h
        exact h.1 x (by rw [← Array.getElem?_toList] at hx; exact List.mem_of_getElem? hx)
      have hp := pull hKok (opsOf ops l2) o (opsOf ops l1) f _ σ hdom hfin hD hsw (fun x hx => by
        obtain ⟨j, hj, hx⟩ := List.mem_filterMap.1 hx
        exact hkall j x hx) h
      have e3 : opsOf ops (left (listed.setIfInBounds i true) ops.size) = opsOf ops l1 ++ opsOf ops l2 := by rw [left_set hsz, hflt]; simp [opsOf, List.filterMap_append]
      have hlen : (left (listed.setIfInBounds i true) ops.size).length = fuel := by
        rw [left_set hsz, hflt]
        rw [he] at hl
        simp at hl ⊢; omega
      have hcl : Closed ops (fun k => (listed.setIfInBounds i true).getD k false = true) := by
        intro k ok hk hlk e hek hb
        by_cases hki : k = i
        · subst hki
          rw [ho] at hk; cases hk
          exact getD_set_true (hpre e (by simpa using hek) hb)
        · have : listed.getD k false = true := by rw [← hlk, getD_set_ne _ (Ne.symm hki)]
          exact getD_set_true (hc k ok hk this e hek hb)
      -- what comes then
      have next : ∀ v mv σ' Φ' w' , Rel Φ' v mv → Inv Φ' w' σ' → Step Φ σ w Φ' σ' w' →
          (∃ U' : Nat → Prop, (∀ l, U' l → Φ.obj l ≠ none ∨ σ' l ≠ none) ∧ ∀ U1', (∀ l, U' l → U1' l) → gl P C ops (fun f' _ σ' => ∃ f'', FEq f' f'' ∧ Q .normal f'' σ') (opsOf ops l1 ++ opsOf ops l2) (mput f o.dst mv) U1' σ') →
          wpAny P .any ops (lift Φ0 σ0 w0 Q) fuel (listed.setIfInBounds i true) (a.put o.dst v) w' := by
        rintro v mv σ' Φ' w' r1 i1 s1 ⟨U', hu, hk⟩
        refine ih _ (mput f o.dst mv) σ' Φ' w' (a.put o.dst v) (by simpa using hsz) hlen hcl i1 (rels_put (hr.mono s1.le) o.dst r1) (by rw [put_defers', mput_d]; exact hd.mono s1.le) (hD.put (hkall i o ho) mv) (hs.trans s1) ?_
        rw [e3]
        refine hk _ fun l hl => ?_
        rcases hu l hl with q | q
        · intro hn
          cases hp : Φ.obj l with
          | none => exact q hp
          | some p => rw [s1.le.obj l p hp] at hn; cases hn
        · intro hn; exact q (i1.obj_none hn)
      unfold wpOp
      rw [ho]
      simp only
      have run : gs (fun l => Φ.obj l ≠ none) σ (gop P C f o.op) (fun v U1 σ1 => ∀ U1', (∀ l, U1 l → U1' l) → gl P C ops (fun f' _ σ' => ∃ f'', FEq f' f'' ∧ Q .normal f'' σ') (opsOf ops l1 ++ opsOf ops l2) (mput f o.dst v) U1' σ1) →
          o.wp P a w (wpAny P .any ops (lift Φ0 σ0 w0 Q) fuel (listed.setIfInBounds i true)) (lift Φ0 σ0 w0 Q) := by
        intro hg
        refine mop_sound (op_gs hg) Φ w a _ _ hi hr fun v mv σ' Φ' w' r1 i1 s1 hk => next v mv σ' Φ' w' r1 i1 s1 (hk fun l h1 h2 q => ?_)
        rcases s1.locs l _ (Option.ne_none_iff_exists'.1 h1).choose_spec with ⟨o', ho'⟩ | ho'
        · rw [h2] at ho'; cases ho'
        · exact q ho'
      unfold gfo at hp
      split at hp
      · rename_i hg
        have hw : Region.wanted o (yielded ops a.tmps) = true := by unfold Region.wanted; rw [hg]
        rw [if_pos hw]
        exact .inl (run hp)
      · rename_i j want hg
        split at hp
        · rename_i t ht
          split at hp
          · rename_i b hb
            have hmg : ∀ {A B : Prop}, (b = want → A) ∧ (b = (!want) → B) → (Region.wanted o (yielded ops a.tmps) = true ∧ A) ∨ (Region.wanted o (yielded ops a.tmps) = false ∧ B) := fun {A B} h =>
              mguard_sound (ops := ops) (o := o) (f := f) (by unfold mguard; rw [hg]; simp only [ht, hb]; exact h) hr
            split at hp
            · rename_i hbw
              rcases hmg (A := True) (B := False) ⟨fun _ => trivial, fun e => by rw [hbw] at e; cases want <;> cases e⟩ with ⟨hw, -⟩ | ⟨-, hw⟩
              · rw [if_pos hw]; exact .inl (run hp)
              · exact hw.elim
            · rename_i hbw
              rcases hmg (A := False) (B := True) ⟨fun e => hbw e, fun _ => trivial⟩ with ⟨-, hw⟩ | ⟨hw, -⟩
              · exact hw.elim
              · rw [if_neg (by simp [hw])]
                obtain ⟨-, U', hu, hk⟩ := pure_gs hp
                exact next undef .junk σ Φ w (.junk _) hi (.refl _ _ _) ⟨U', hu, hk⟩
          · exact (no_fail hp).elim
        · exact (no_fail hp).elim

/-- Operations one by one, calls by what is known of them. -/
def mopsC (P : Program) (C : Know) (ops : Array Oper) (K : FR → St → Prop) : List Oper → FR → St → Prop
  | [], f, σ => K f σ
  | o :: rest, f, σ => mguard ops f o (mopC P C f σ (fun v σ' => mopsC P C ops K rest (mput f o.dst v) σ') o.op) (mopsC P C ops K rest (mput f o.dst .junk) σ)

theorem gl_of {K : FR → St → Prop} : ∀ (l : List Oper) (f : FR) (U : Nat → Prop) (σ : St), Dom U σ → Fin U → mopsC P C ops K l f σ → gl P C ops (fun f' _ σ' => ∃ f'', FEq f' f'' ∧ K f'' σ') l f U σ := by
  intro l
  induction l with
  | nil => intro f U σ _ _ h; exact ⟨f, .refl f, h⟩
  | cons o r ih =>
    intro f U σ hd hf h
    simp only [mopsC] at h
    simp only [gl]
    have run : mopC P C f σ (fun v σ' => mopsC P C ops K r (mput f o.dst v) σ') o.op → gs U σ (gop P C f o.op) fun v U' σ' => gl P C ops (fun f' _ σ' => ∃ f'', FEq f' f'' ∧ K f'' σ') r (mput f o.dst v) U' σ' := fun h =>
      gs_mono (gs_op hd h) hd hf (fun v U' σ' hd' hf' _ hh => ih _ U' σ' hd' hf' hh) (wf_gop P C f o.op).1
    unfold mguard at h
    unfold gfo
    split at h
    · rename_i hg; simp only [hg]; exact run h
    · rename_i j want hg
      simp only [hg]
      split at h
      · rename_i t ht
        simp only [ht]
        split at h
        · rename_i b hb
          simp only [hb]
          split
          · rename_i hbw; exact run (h.1 hbw)
          · rename_i hbw
            have hb' : b = !want := by cases b <;> cases want <;> simp at hbw ⊢
            refine gs_imp (gs_mono (gs_pure (U := U) (pv := some (True, .junk)) (k := fun v σ' => v = .junk ∧ σ' = σ) ⟨trivial, rfl, rfl⟩) hd hf (k' := fun v U' σ' => v = .junk ∧ σ' = σ ∧ Dom U' σ' ∧ Fin U') (fun v U' σ' h1 h2 _ h3 => ⟨h3.1, h3.2, h1, h2⟩) (wf_pure _).1) ?_
            rintro v U' σ' ⟨rfl, rfl, h1, h2⟩
            exact ih _ U' _ h1 h2 (h.2 hb')
        · exact h.elim
      · exact h.elim

/-- A region whose order is drawn. -/
theorem mwp_drawD (hm : P.follows .mixedOrders = true) {Ds : List Nat} {loc : Nat → Nat} (hchk : chkD Ds ops = true) (C : Know) {id : Nat} {f : FR} {σ : St} {Q : MQ} (hD : DOk Ds loc f) (h : mopsC P C ops (Q .normal) ops.toList f σ) : mwp P (.region id ops true) f σ Q := by
  intro Φ w a hi hr hd
  have hi' : Inv Φ { w with drawn := w.drawn + 1 } σ := ⟨fun l o hl => by
    have := hi.own l o hl
    cases o <;> exact this, hi.inj, hi.snap, hi.apart, hi.fresh⟩
  have hst : Step Φ σ w Φ σ { w with drawn := w.drawn + 1 } := ⟨.refl Φ, rfl, rfl, rfl, Nat.le_succ _, Nat.le_refl _, fun _ _ _ => rfl, fun _ _ h => .inl h, fun l o h => .inl ⟨o, h⟩, fun _ h => .inl h⟩
  have hall : left (Array.replicate ops.size false) ops.size = List.range ops.size := by
    unfold left
    refine List.filter_eq_self.2 fun j hj => ?_
    have hj : j < ops.size := by simpa using hj
    simp [hj]
  have hops : opsOf ops (List.range ops.size) = ops.toList := by
    unfold opsOf
    apply List.ext_getElem?
    intro i
    have : ∀ (l : List Oper), (List.range l.length).filterMap (fun i => l[i]?) = l := by
      intro l
      induction l with
      | nil => rfl
      | cons a r ih =>
        rw [List.length_cons, List.range_succ_eq_map, List.filterMap_cons]
        simp only [List.getElem?_cons_zero, List.filterMap_map]
        congr 1
    have := this ops.toList
    simp only [Array.length_toList, Array.getElem?_toList] at this
    rw [this]
  refine wp_region_any hm (any_sound (C := C) hchk ops.size _ f σ Φ _ a (by simp) (by rw [hall]; simp) ?_ hi' hr hd hD hst ?_)
  · intro i o ho hl
    simp only [Array.getD_eq_getD_getElem?, Array.getElem?_replicate] at hl
    split at hl <;> simp at hl
  · rw [hall, hops]
    refine gl_of ops.toList f _ σ (fun l hl q => hl (hi.obj_none q)) ?_ h
    obtain ⟨n, hn⟩ := hi.fresh
    exact ⟨n, fun l hl q => q (hn l hl)⟩

theorem mwp_draw (hm : P.follows .mixedOrders = true) (hchk : chk ops = true) (C : Know) {id : Nat} {f : FR} {σ : St} {Q : MQ} (h : mopsC P C ops (Q .normal) ops.toList f σ) : mwp P (.region id ops true) f σ Q :=
  mwp_drawD (loc := fun _ => 0) hm hchk C ⟨fun t ht => (by cases ht), fun t t' ht => (by cases ht)⟩ h

end
end Go.Proofs.Ytielcgplbnlgbaa.D2
end

section
/- Regions whose order is drawn, with calls that answer a new place (6): for simp. -/
set_option linter.unusedVariables false
set_option linter.unusedSimpArgs false
namespace Go.Proofs.Ytielcgplbnlgbaa.D2

def plainOp : Op → Bool
  | .call ⟨.value _, _, _⟩ | .defer _ => false
  | _ => true

section
variable {P : Program} {C : Know} {f : FR} {σ : St} {Q : MQ} {k : MV → St → Prop} {K : FR → St → Prop} {ops : Array Oper} {rest : List Oper}

theorem mopC_plain {op : Op} (h : plainOp op = true) : mopC P C f σ k op = mop P f σ k op := by
  cases op <;> first | rfl | (simp [plainOp] at h; done) | skip
  rename_i c
  obtain ⟨callee, args, ts⟩ := c
  cases callee <;> first | rfl | (simp [plainOp] at h; done)

theorem mdraw_plain {id : Nat} {l : List Oper} (hm : P.follows .mixedOrders = true) (hchk : (chk l.toArray && l.all fun o => plainOp o.op) = true) (h : R (mopsC P (fun _ _ => none) (@OfNat.ofNat (Array Oper) (nat_lit 0) (@_root_.id (OfNat (Array Oper) (nat_lit 0)) (OfNat.mk (l.toArray)))) (Q .normal) (@OfNat.ofNat (List Oper) (nat_lit 0) (@_root_.id (OfNat (List Oper) (nat_lit 0)) (OfNat.mk l))) f σ)) : R (mdraw P id (@OfNat.ofNat (List Oper) (nat_lit 0) (@_root_.id (OfNat (List Oper) (nat_lit 0)) (OfNat.mk l))) f σ Q) := by
  simp only [Bool.and_eq_true] at hchk
  exact mwp_draw hm hchk.1 (fun _ _ => none) h

theorem mdraw_know {id : Nat} {l : List Oper} (hm : P.follows .mixedOrders = true) (hchk : chk l.toArray = true) (C : Know) (h : R (mopsC P C (@OfNat.ofNat (Array Oper) (nat_lit 0) (@_root_.id (OfNat (Array Oper) (nat_lit 0)) (OfNat.mk (l.toArray)))) (Q .normal) (@OfNat.ofNat (List Oper) (nat_lit 0) (@_root_.id (OfNat (List Oper) (nat_lit 0)) (OfNat.mk l))) f σ)) : R (mdraw P id (@OfNat.ofNat (List Oper) (nat_lit 0) (@_root_.id (OfNat (List Oper) (nat_lit 0)) (OfNat.mk l))) f σ Q) :=
  mwp_draw hm hchk C h

/-- Pointers of slots, each to a place of its own: told in a list. -/
theorem DOk.of {ds : List (Nat × Nat)} {f : FR} (h1 : ∀ p, p ∈ ds → ∃ i o, f.get p.1 = .ptr p.2 i o) (h2 : (ds.map (·.2)).Pairwise (· ≠ ·)) (h3 : (ds.map (·.1)).Pairwise (· ≠ ·)) : DOk (ds.map (·.1)) (fun t => ((ds.find? fun p => p.1 == t).map (·.2)).getD 0) f := by
  have hloc : ∀ p, p ∈ ds → ((ds.find? fun q => q.1 == p.1).map (·.2)).getD 0 = p.2 := fun p hp => by
    induction ds with
    | nil => cases hp
    | cons q r ih =>
      simp only [List.map_cons] at h2 h3
      obtain ⟨a1, a2⟩ := List.pairwise_cons.1 h2
      obtain ⟨b1, b2⟩ := List.pairwise_cons.1 h3
      rcases List.mem_cons.1 hp with rfl | hp'
      · simp
      · have : (q.1 == p.1) = false := by simpa using b1 p.1 (List.mem_map.2 ⟨p, hp', rfl⟩)
        rw [List.find?_cons, this]
        exact ih (fun p hp => h1 p (List.mem_cons_of_mem _ hp)) a2 b2 hp'
  refine ⟨fun t ht => ?_, fun t t' ht ht' hne => ?_⟩
  · obtain ⟨p, hp, rfl⟩ := List.mem_map.1 ht
    simp only [hloc p hp]
    exact h1 p hp
  · obtain ⟨p, hp, rfl⟩ := List.mem_map.1 ht
    obtain ⟨q, hq, rfl⟩ := List.mem_map.1 ht'
    simp only [hloc p hp, hloc q hq]
    intro e
    obtain ⟨i, hi, e1⟩ := List.mem_iff_getElem.1 hp
    obtain ⟨j, hj, e2⟩ := List.mem_iff_getElem.1 hq
    have hij : i ≠ j := fun e => by subst e; exact hne (by rw [← e1, ← e2])
    rw [List.pairwise_iff_getElem] at h2
    rcases Nat.lt_or_gt_of_ne hij with hlt | hgt
    · have := h2 i j (by simpa using hi) (by simpa using hj) hlt
      simp only [List.getElem_map, e1, e2] at this
      exact this e
    · have := h2 j i (by simpa using hj) (by simpa using hi) hgt
      simp only [List.getElem_map, e1, e2] at this
      exact this e.symm

theorem mdraw_dis {id : Nat} {l : List Oper} (hm : P.follows .mixedOrders = true) (ds : List (Nat × Nat)) (Ds : List Nat) (hds : ds.map (·.1) = Ds) (hchk : chkD Ds l.toArray = true) (C : Know) (h1 : ∀ p, p ∈ ds → ∃ i o, f.get p.1 = .ptr p.2 i o) (h2 : (ds.map (·.2)).Pairwise (· ≠ ·)) (h3 : Ds.Pairwise (· ≠ ·)) (h : R (mopsC P C (@OfNat.ofNat (Array Oper) (nat_lit 0) (@_root_.id (OfNat (Array Oper) (nat_lit 0)) (OfNat.mk (l.toArray)))) (Q .normal) (@OfNat.ofNat (List Oper) (nat_lit 0) (@_root_.id (OfNat (List Oper) (nat_lit 0)) (OfNat.mk l))) f σ)) : R (mdraw P id (@OfNat.ofNat (List Oper) (nat_lit 0) (@_root_.id (OfNat (List Oper) (nat_lit 0)) (OfNat.mk l))) f σ Q) := by
  subst hds
  exact mwp_drawD hm hchk C (DOk.of h1 h2 h3) h

theorem mopsC_nil : R (mopsC P C ops K [] f σ) = R (K f σ) := rfl
theorem mopsC_cons {dst : Option Tmp} {op : Op} {ty : TypeId} {pos : String} {after : Array Edge} : R (mopsC P C ops K (⟨dst, op, ty, pos, after, none⟩ :: rest) f σ) = R (mopC P C f σ (fun v σ' => mopsC P C ops K (@OfNat.ofNat (List Oper) (nat_lit 0) (@_root_.id (OfNat (List Oper) (nat_lit 0)) (OfNat.mk rest))) (mput f dst v) σ') op) := rfl
theorem mopsC_show {l : List Oper} : R (mopsC P C ops K (@OfNat.ofNat (List Oper) (nat_lit 0) (@_root_.id (OfNat (List Oper) (nat_lit 0)) (OfNat.mk l))) f σ) = R (mopsC P C ops K l f σ) := rfl
theorem mopsC_guard {l : List Oper} {dst : Option Tmp} {op : Op} {ty : TypeId} {pos : String} {after : Array Edge} {j : Nat} {want : Bool} : R (mopsC P C (@OfNat.ofNat (Array Oper) (nat_lit 0) (@_root_.id (OfNat (Array Oper) (nat_lit 0)) (OfNat.mk (l.toArray)))) K (⟨dst, op, ty, pos, after, some (j, want)⟩ :: rest) f σ) = R (mgfork (E (gval f (gdst (@OfNat.ofNat (List Oper) (nat_lit 0) (@_root_.id (OfNat (List Oper) (nat_lit 0)) (OfNat.mk l))) j))) want (mopC P C f σ (fun v σ' => mopsC P C (@OfNat.ofNat (Array Oper) (nat_lit 0) (@_root_.id (OfNat (Array Oper) (nat_lit 0)) (OfNat.mk (l.toArray)))) K (@OfNat.ofNat (List Oper) (nat_lit 0) (@_root_.id (OfNat (List Oper) (nat_lit 0)) (OfNat.mk rest))) (mput f dst v) σ') op) (mopsC P C (@OfNat.ofNat (Array Oper) (nat_lit 0) (@_root_.id (OfNat (Array Oper) (nat_lit 0)) (OfNat.mk (l.toArray)))) K (@OfNat.ofNat (List Oper) (nat_lit 0) (@_root_.id (OfNat (List Oper) (nat_lit 0)) (OfNat.mk rest))) (mput f dst .junk) σ)) := congrArg R (by
  show mopsC P C l.toArray K (⟨dst, op, ty, pos, after, some (j, want)⟩ :: rest) f σ = mgfork (gval f (gdst l j)) want (mopC P C f σ (fun v σ' => mopsC P C l.toArray K rest (mput f dst v) σ') op) (mopsC P C l.toArray K rest (mput f dst .junk) σ)
  simp only [mopsC, mguard, gdst_eq]
  cases gdst l j <;> rfl)
theorem mopC_go {op : Op} (h : plainOp op = true) : R (mopC P C f σ k op) = R (mop P f σ k op) := by rw [mopC_plain h]
def mcallCv (P : Program) (C : Know) (x : MV) (args : List MV) (σ : St) (k : MV → St → Prop) : Prop := match x with
  | .fn (.func g) ms ns => mcallC P C g (ms ++ args ++ ns) σ k
  | _ => False
theorem mopC_call {x : Operand} {args : Array Operand} {ts : Array TypeId} : R (mopC P C f σ k (.call ⟨.value x, args, ts⟩)) = R (mcallCv P C (E (mval f x)) (E (args.toList.map (mval f))) σ k) := rfl
theorem mcallCv_fn {g : FuncId} {ms ns args : List MV} : R (mcallCv P C (.fn (.func g) ms ns) args σ k) = R (mcallC P C g (E (ms ++ args ++ ns)) σ k) := rfl

/-- A call of which is known what it answers. -/
theorem know_pure {g : FuncId} {ms : List MV} {r : MV} (hC : C g ms = some ⟨[], fun v => v = r, none⟩) (h : MCalls P g ms St.none fun v _ => v = r) (hk : R (mlet r σ k)) : R (mcallC P C g ms σ k) :=
  .inl ⟨[], _, [], hC, rfl, h.mono_pure, ⟨r, rfl⟩, fun v hv => hv ▸ hk⟩

theorem know_at {g : FuncId} {ms : List MV} (rd : List Nat) (os : List MObj) {q : MV → Prop} (hC : C g ms = some ⟨rd, q, none⟩) (hos : rd.map σ = os.map some) (h : MCalls P g ms (St.ofList rd os) fun v σ' => q v ∧ σ' = St.ofList rd os) (hq : ∃ v, q v) (hk : ∀ v, q v → R (mlet v σ k)) : R (mcallC P C g ms σ k) :=
  .inl ⟨rd, q, os, hC, hos, h, hq, hk⟩

/-- A call that answers a new place. -/
theorem know_new {g : FuncId} {ms : List MV} {rd : List Nat} {q : MV → Prop} {o : MObj} {u : Nat → MV} (hC : C g ms = some ⟨rd, q, some (o, u)⟩) (h : MCalls P g ms St.none fun v σ' => ∃ l, v = u l ∧ σ' = St.none.set l o) (hk : ∀ l, σ l = none → R (mlet (u l) (σ.set l o) k)) : R (mcallC P C g ms σ k) :=
  .inr ⟨rd, q, o, u, hC, h, hk⟩

end

attribute [go_sem ↓] mopsC_show mopsC_nil mopsC_cons mopsC_guard mopC_call mopC_go
attribute [go_sem] mcallCv_fn

end Go.Proofs.Ytielcgplbnlgbaa.D2
end
