/- Parts of the proof, joined: each part says what it proves, and under which conditions. -/
import Derived.Test.YtielcgplbnlgbaaCab
import Derived.Shelf.SlSortCmp.WholeK
import Derived.Shelf.SlGeneric
import Derived.Test.YtielcgplbnlgbaaRows
section
/- Contracts of the document's own functions for filters (2): the conditions that each theorem names. -/
set_option linter.unusedVariables false
set_option linter.unusedSimpArgs false
namespace Go.Proofs.Ytielcgplbnlgbaa

theorem rfit_call (l : List ND) (t : Bool) : MCalls Try.prog 12 [.lst 5 (l.map ND.c) t] St.none (fun r _ => r = .bool (fitS l)) := by
  refine (MCalls.body 31 [.tmp 2] Try.func12 rfl rfl rfl rfl ?_)
  by_cases h63 : l.length ≤ 63 ∧ 0 < l.length
  · have hne : l ≠ [] := fun e => by rw [e] at h63; simp at h63
    repeat' (first | (with_reducible refine use_pure (rend_call _ (by omega) _ _) ?_) | ((with_reducible refine wN fun nl hnl => ?_); revert hnl; (repeat with_reducible refine wS fun _ _ => ?_); intro hnl) | (with_reducible first | refine mdraw_plain mixed (by decide +kernel) ?_ | refine wI (fun h => ?_) (fun h => ?_) | refine wF (fun h => ?_) (fun h => ?_) | refine wG (fun h => ?_) (fun h => ?_) | refine wH (fun h => ?_) (fun h => ?_)) | (with_reducible refine mfork_bool (fun h => ?_) (fun h => ?_) <;> simp only [h]) | (with_reducible refine mgfork_bool (fun h => ?_) (fun h => ?_) <;> simp only [h]) | (simp (config := { maxSteps := 4000000 }) (disch := first | decide | assumption | omega | (simp only [wL]; omega)) only [go_sem, Nat.reduceAdd, Nat.reduceSub, Nat.reduceMul, Nat.reduceDiv, Nat.reduceMod, Nat.reduceLT, Nat.reduceLeDiff, Nat.reduceEqDiff, Nat.reduceSucc, Nat.reduceGT, Int.reduceAdd, Int.reduceSub, Int.reduceMul, Int.reduceNeg, Int.reduceLT, Int.reduceLE, Int.reduceEq, Int.reduceToNat, reduceIte, Try.f12]))
    · simp only [fitS, MV.bool.injEq]
      simp [*]
    · refine mloop_intro (α := Nat) (fun i => ⟨31, [(3, .int .i64 (i : Int)), (0, .lst 5 (l.map ND.c) t)], []⟩) (fun _ => St.none)
        (fun i => i ≤ l.length ∧ (l.take i).all ndOk = true) (fun i => l.length - i) (.of (.less ?_ (St.le_refl _)) ⟨0, rfl, rfl, by simp⟩) ?_
      · simp (config := { maxSteps := 4000000 }) (disch := first | decide | assumption | omega | (simp only [wL]; omega)) only [go_sem, Nat.reduceAdd, Nat.reduceSub, Nat.reduceMul, Nat.reduceDiv, Nat.reduceMod, Nat.reduceLT, Nat.reduceLeDiff, Nat.reduceEqDiff, Nat.reduceSucc, Nat.reduceGT, Int.reduceAdd, Int.reduceSub, Int.reduceMul, Int.reduceNeg, Int.reduceLT, Int.reduceLE, Int.reduceEq, Int.reduceToNat, reduceIte, weak_int, weak_same]
        rfl
      · rintro i ⟨h1, h2⟩
        by_cases hi : i < l.length
        · repeat' (first | (with_reducible refine use_pure (rnode_call _) ?_) | ((with_reducible refine wN fun nl hnl => ?_); revert hnl; (repeat with_reducible refine wS fun _ _ => ?_); intro hnl) | (with_reducible first | refine mdraw_plain mixed (by decide +kernel) ?_ | refine wI (fun h => ?_) (fun h => ?_) | refine wF (fun h => ?_) (fun h => ?_) | refine wG (fun h => ?_) (fun h => ?_) | refine wH (fun h => ?_) (fun h => ?_)) | (with_reducible refine mfork_bool (fun h => ?_) (fun h => ?_) <;> simp only [h]) | (with_reducible refine mgfork_bool (fun h => ?_) (fun h => ?_) <;> simp only [h]) | (simp (config := { maxSteps := 4000000 }) (disch := first | decide | assumption | omega | (simp only [wL]; omega)) only [go_sem, Nat.reduceAdd, Nat.reduceSub, Nat.reduceMul, Nat.reduceDiv, Nat.reduceMod, Nat.reduceLT, Nat.reduceLeDiff, Nat.reduceEqDiff, Nat.reduceSucc, Nat.reduceGT, Int.reduceAdd, Int.reduceSub, Int.reduceMul, Int.reduceNeg, Int.reduceLT, Int.reduceLE, Int.reduceEq, Int.reduceToNat, reduceIte, getD_mapd nd0, ND.c]))
          · have : ¬ ∀ x, x ∈ l → ndOk x = true := fun hall => by
              have := hall _ (getD_mem nd0 hi)
              rw [this] at h
              cases h
            simp only [fitS, MV.bool.injEq]
            rw [eq_comm, Bool.and_eq_false_iff]
            right
            rw [← Bool.not_eq_true, List.all_eq_true]
            exact this
          · refine .of (.less (l1 := [(3, .int .i64 ((i + 1 : Nat) : Int)), (0, .lst 5 (l.map ND.c) t)]) ?_ (St.le_refl _)) ⟨i + 1, rfl, rfl, ⟨by omega, ?_⟩, by omega⟩
            · simp (config := { maxSteps := 4000000 }) (disch := first | decide | assumption | omega | (simp only [wL]; omega)) only [go_sem, Nat.reduceAdd, Nat.reduceSub, Nat.reduceMul, Nat.reduceDiv, Nat.reduceMod, Nat.reduceLT, Nat.reduceLeDiff, Nat.reduceEqDiff, Nat.reduceSucc, Nat.reduceGT, Int.reduceAdd, Int.reduceSub, Int.reduceMul, Int.reduceNeg, Int.reduceLT, Int.reduceLE, Int.reduceEq, Int.reduceToNat, reduceIte, weak_int, weak_same]
              omega
            · rw [all_take_succ hi, h2, ← getD_of_lt nd0 hi]
              simpa using h
        · repeat' (first | ((with_reducible refine wN fun nl hnl => ?_); revert hnl; (repeat with_reducible refine wS fun _ _ => ?_); intro hnl) | (with_reducible first | refine mdraw_plain mixed (by decide +kernel) ?_ | refine wI (fun h => ?_) (fun h => ?_) | refine wF (fun h => ?_) (fun h => ?_) | refine wG (fun h => ?_) (fun h => ?_) | refine wH (fun h => ?_) (fun h => ?_)) | (with_reducible refine mfork_bool (fun h => ?_) (fun h => ?_) <;> simp only [h]) | (with_reducible refine mgfork_bool (fun h => ?_) (fun h => ?_) <;> simp only [h]) | (simp (config := { maxSteps := 4000000 }) (disch := first | decide | assumption | omega | (simp only [wL]; omega)) only [go_sem, Nat.reduceAdd, Nat.reduceSub, Nat.reduceMul, Nat.reduceDiv, Nat.reduceMod, Nat.reduceLT, Nat.reduceLeDiff, Nat.reduceEqDiff, Nat.reduceSucc, Nat.reduceGT, Int.reduceAdd, Int.reduceSub, Int.reduceMul, Int.reduceNeg, Int.reduceLT, Int.reduceLE, Int.reduceEq, Int.reduceToNat, reduceIte]))
          have : i = l.length := by omega
          subst this
          rw [List.take_length] at h2
          simp only [fitS, MV.bool.injEq, h2]
          simp [*, Classical.not_not.1 h]
  · repeat' (first | (with_reducible refine use_pure (rend_call _ (by omega) _ _) ?_) | ((with_reducible refine wN fun nl hnl => ?_); revert hnl; (repeat with_reducible refine wS fun _ _ => ?_); intro hnl) | (with_reducible first | refine mdraw_plain mixed (by decide +kernel) ?_ | refine wI (fun h => ?_) (fun h => ?_) | refine wF (fun h => ?_) (fun h => ?_) | refine wG (fun h => ?_) (fun h => ?_) | refine wH (fun h => ?_) (fun h => ?_)) | (with_reducible refine mfork_bool (fun h => ?_) (fun h => ?_) <;> simp only [h]) | (with_reducible refine mgfork_bool (fun h => ?_) (fun h => ?_) <;> simp only [h]) | (simp (config := { maxSteps := 4000000 }) (disch := first | decide | assumption | omega | (simp only [wL]; omega)) only [go_sem, Nat.reduceAdd, Nat.reduceSub, Nat.reduceMul, Nat.reduceDiv, Nat.reduceMod, Nat.reduceLT, Nat.reduceLeDiff, Nat.reduceEqDiff, Nat.reduceSucc, Nat.reduceGT, Int.reduceAdd, Int.reduceSub, Int.reduceMul, Int.reduceNeg, Int.reduceLT, Int.reduceLE, Int.reduceEq, Int.reduceToNat, reduceIte, Try.f12]))
    all_goals (simp only [fitS, MV.bool.injEq]; rw [eq_comm]; simp only [Bool.and_eq_false_iff, decide_eq_false_iff_not]; left; left)
    · rintro ⟨h1, h2⟩; exact h63 ⟨h2, List.length_pos_iff.2 h1⟩
    · rintro ⟨h1, h2⟩; exact h63 ⟨h2, List.length_pos_iff.2 h1⟩

theorem rahead_call (a b : Int) : MCalls Try.prog 101 [.int .i64 a, .int .i64 b] St.none (fun r _ => r = .int .i64 (ordI (cmpL [a] [b]))) := by
  refine (MCalls.body 11 [.tmp 4] Try.func101 rfl rfl rfl rfl ?_)
  repeat' (first | ((with_reducible refine wN fun nl hnl => ?_); revert hnl; (repeat with_reducible refine wS fun _ _ => ?_); intro hnl) | (with_reducible first | refine mdraw_plain mixed (by decide +kernel) ?_ | refine wI (fun h => ?_) (fun h => ?_) | refine wF (fun h => ?_) (fun h => ?_) | refine wG (fun h => ?_) (fun h => ?_) | refine wH (fun h => ?_) (fun h => ?_)) | (with_reducible refine mfork_bool (fun h => ?_) (fun h => ?_) <;> simp only [h]) | (with_reducible refine mgfork_bool (fun h => ?_) (fun h => ?_) <;> simp only [h]) | (simp (config := { maxSteps := 4000000 }) (disch := first | decide | assumption | omega | (simp only [wL]; omega)) only [go_sem, Nat.reduceAdd, Nat.reduceSub, Nat.reduceMul, Nat.reduceDiv, Nat.reduceMod, Nat.reduceLT, Nat.reduceLeDiff, Nat.reduceEqDiff, Nat.reduceSucc, Nat.reduceGT, Int.reduceAdd, Int.reduceSub, Int.reduceMul, Int.reduceNeg, Int.reduceLT, Int.reduceLE, Int.reduceEq, Int.reduceToNat, reduceIte, Try.f101]))
  all_goals simp [cmpL, ordI, *]

theorem rvcompare_call (a b : VA) (ha : a.s.size ≤ 1000000) (hb : b.s.size ≤ 1000000) : MCalls Try.prog 77 [.agg a.c, .agg b.c] St.none (fun r _ => r = .int .i64 (ordI (cmpL a.key b.key))) := by
  refine (MCalls.body 67 [.tmp 4] Try.func77 rfl rfl rfl rfl ?_)
  repeat' (first | (with_reducible refine use_pure (rahead_call _ _) ?_) | ((with_reducible refine wN fun nl hnl => ?_); revert hnl; (repeat with_reducible refine wS fun _ _ => ?_); intro hnl) | (with_reducible first | refine mdraw_plain mixed (by decide +kernel) ?_ | refine wI (fun h => ?_) (fun h => ?_) | refine wF (fun h => ?_) (fun h => ?_) | refine wG (fun h => ?_) (fun h => ?_) | refine wH (fun h => ?_) (fun h => ?_)) | (with_reducible refine mfork_bool (fun h => ?_) (fun h => ?_) <;> simp only [h]) | (with_reducible refine mgfork_bool (fun h => ?_) (fun h => ?_) <;> simp only [h]) | (simp (config := { maxSteps := 4000000 }) (disch := first | decide | assumption | omega | (simp only [wL]; omega)) only [go_sem, Nat.reduceAdd, Nat.reduceSub, Nat.reduceMul, Nat.reduceDiv, Nat.reduceMod, Nat.reduceLT, Nat.reduceLeDiff, Nat.reduceEqDiff, Nat.reduceSucc, Nat.reduceGT, Int.reduceAdd, Int.reduceSub, Int.reduceMul, Int.reduceNeg, Int.reduceLT, Int.reduceLE, Int.reduceEq, Int.reduceToNat, reduceIte, Try.f77]))
  · rw [show cmpL a.key b.key = cmpL [a.kd] [b.kd] from cmpL_ne h]
  · have h1 := Classical.not_not.1 ‹¬¬a.kd = b.kd›
    have : cmpL a.key b.key = cmpL [a.n] [b.n] := by
      rw [VA.key, VA.key, h1, cmpL_same, cmpL_ne h]
    rw [this]
  · have h1 := Classical.not_not.1 ‹¬¬a.kd = b.kd›
    have h2 := Classical.not_not.1 ‹¬¬a.n = b.n›
    have hk : cmpL a.key b.key = cmpL (bk a.s) (bk b.s) := by
      rw [VA.key, VA.key, h1, cmpL_same, h2, cmpL_same]; rfl
    rw [hk]
    rename_i pa hpa _ _ _
    refine mloop_intro (α := Nat) (fun i => ⟨67, [(5, .int .i64 (i : Int)), (3, .ptr nl 0 0), (2, .ptr pa 0 0)], []⟩) (fun _ => (St.none.set pa (.row 32 3 [a.c])).set nl (.row 32 3 [b.c]))
      (fun i => i ≤ a.s.size ∧ i ≤ b.s.size ∧ cmpL (bk a.s) (bk b.s) = cmpL ((bk a.s).drop i) ((bk b.s).drop i)) (fun i => a.s.size - i) (.of (.less ?_ (St.le_refl _)) ⟨0, rfl, rfl, by simp⟩) ?_
    · simp (config := { maxSteps := 4000000 }) (disch := first | decide | assumption | omega | (simp only [wL]; omega)) only [go_sem, Nat.reduceAdd, Nat.reduceSub, Nat.reduceMul, Nat.reduceDiv, Nat.reduceMod, Nat.reduceLT, Nat.reduceLeDiff, Nat.reduceEqDiff, Nat.reduceSucc, Nat.reduceGT, Int.reduceAdd, Int.reduceSub, Int.reduceMul, Int.reduceNeg, Int.reduceLT, Int.reduceLE, Int.reduceEq, Int.reduceToNat, reduceIte, weak_int, weak_same]
      rfl
    · rintro i ⟨h3, h4, h5⟩
      by_cases hi : i < a.s.size ∧ i < b.s.size
      · obtain ⟨hi1, hi2⟩ := hi
        rw [bk_drop hi1, bk_drop hi2] at h5
        have hc1 : ((a.s.toList.getD i 0).toNat : Int) ≤ 255 := by have := (a.s.toList.getD i 0).toNat_lt; omega
        have hc2 : ((b.s.toList.getD i 0).toNat : Int) ≤ 255 := by have := (b.s.toList.getD i 0).toNat_lt; omega
        have hc3 : 0 ≤ ((a.s.toList.getD i 0).toNat : Int) := by omega
        have hc4 : 0 ≤ ((b.s.toList.getD i 0).toNat : Int) := by omega
        obtain ⟨ca, hca⟩ : ∃ c : Int, ((a.s.toList.getD i 0).toNat : Int) = c := ⟨_, rfl⟩
        obtain ⟨cb, hcb⟩ : ∃ c : Int, ((b.s.toList.getD i 0).toNat : Int) = c := ⟨_, rfl⟩
        rw [hca] at h5 hc1 hc3
        rw [hcb] at h5 hc2 hc4
        by_cases hcc : ca = cb
        · rw [hcc, cmpL_same] at h5
          repeat' (first | ((with_reducible refine wN fun nl hnl => ?_); revert hnl; (repeat with_reducible refine wS fun _ _ => ?_); intro hnl) | (with_reducible first | refine mdraw_plain mixed (by decide +kernel) ?_ | refine wI (fun h => ?_) (fun h => ?_) | refine wF (fun h => ?_) (fun h => ?_) | refine wG (fun h => ?_) (fun h => ?_) | refine wH (fun h => ?_) (fun h => ?_)) | (with_reducible refine mfork_bool (fun h => ?_) (fun h => ?_) <;> simp only [h]) | (with_reducible refine mgfork_bool (fun h => ?_) (fun h => ?_) <;> simp only [h]) | (simp (config := { maxSteps := 4000000 }) (disch := first | decide | assumption | omega | (simp only [wL]; omega)) only [go_sem, Nat.reduceAdd, Nat.reduceSub, Nat.reduceMul, Nat.reduceDiv, Nat.reduceMod, Nat.reduceLT, Nat.reduceLeDiff, Nat.reduceEqDiff, Nat.reduceSucc, Nat.reduceGT, Int.reduceAdd, Int.reduceSub, Int.reduceMul, Int.reduceNeg, Int.reduceLT, Int.reduceLE, Int.reduceEq, Int.reduceToNat, reduceIte, hca, hcb]))
          refine .of (.less (l1 := [(5, .int .i64 ((i + 1 : Nat) : Int)), (3, .ptr nl 0 0), (2, .ptr pa 0 0)]) ?_ (St.le_refl _)) ⟨i + 1, rfl, rfl, ⟨by omega, by omega, h5⟩, by omega⟩
          simp (config := { maxSteps := 4000000 }) (disch := first | decide | assumption | omega | (simp only [wL]; omega)) only [go_sem, Nat.reduceAdd, Nat.reduceSub, Nat.reduceMul, Nat.reduceDiv, Nat.reduceMod, Nat.reduceLT, Nat.reduceLeDiff, Nat.reduceEqDiff, Nat.reduceSucc, Nat.reduceGT, Int.reduceAdd, Int.reduceSub, Int.reduceMul, Int.reduceNeg, Int.reduceLT, Int.reduceLE, Int.reduceEq, Int.reduceToNat, reduceIte, weak_int, weak_same]
          omega
        · repeat' (first | (with_reducible refine mdraw_know mixed (by decide +kernel) (fun g ms => if g = 101 then some ⟨[], fun v => v = .int .i64 (ordI (cmpL [ca] [cb])), none⟩ else none) ?_) | (with_reducible refine know_pure rfl (rahead_call _ _) ?_) | ((with_reducible refine wN fun nl hnl => ?_); revert hnl; (repeat with_reducible refine wS fun _ _ => ?_); intro hnl) | (with_reducible first | refine mdraw_plain mixed (by decide +kernel) ?_ | refine wI (fun h => ?_) (fun h => ?_) | refine wF (fun h => ?_) (fun h => ?_) | refine wG (fun h => ?_) (fun h => ?_) | refine wH (fun h => ?_) (fun h => ?_)) | (with_reducible refine mfork_bool (fun h => ?_) (fun h => ?_) <;> simp only [h]) | (with_reducible refine mgfork_bool (fun h => ?_) (fun h => ?_) <;> simp only [h]) | (simp (config := { maxSteps := 4000000 }) (disch := first | decide | assumption | omega | (simp only [wL]; omega)) only [go_sem, Nat.reduceAdd, Nat.reduceSub, Nat.reduceMul, Nat.reduceDiv, Nat.reduceMod, Nat.reduceLT, Nat.reduceLeDiff, Nat.reduceEqDiff, Nat.reduceSucc, Nat.reduceGT, Int.reduceAdd, Int.reduceSub, Int.reduceMul, Int.reduceNeg, Int.reduceLT, Int.reduceLE, Int.reduceEq, Int.reduceToNat, reduceIte, hca, hcb]))
          rw [h5, cmpL_ne (x := (bk a.s).drop (i + 1)) (y := (bk b.s).drop (i + 1)) hcc]
      · have key : cmpL (bk a.s) (bk b.s) = cmpL [(a.s.size : Int)] [(b.s.size : Int)] := by
          rw [h5]
          by_cases h6 : i < a.s.size
          · have h7 : i = b.s.size := by omega
            rw [bk_drop h6, bk_drop_nil (s := b.s) (n := i) (by omega)]
            simp only [cmpL]
            rw [if_neg (by omega), if_pos (by omega)]
          · have h7 : i = a.s.size := by omega
            rw [bk_drop_nil (s := a.s) (n := i) (by omega)]
            by_cases h8 : i < b.s.size
            · rw [bk_drop h8]
              simp only [cmpL]
              rw [if_pos (by omega)]
            · rw [bk_drop_nil (s := b.s) (n := i) (by omega)]
              simp only [cmpL]
              rw [if_neg (by omega), if_neg (by omega)]
        repeat' (first | (with_reducible refine use_pure (rahead_call _ _) ?_) | ((with_reducible refine wN fun nl hnl => ?_); revert hnl; (repeat with_reducible refine wS fun _ _ => ?_); intro hnl) | (with_reducible first | refine mdraw_plain mixed (by decide +kernel) ?_ | refine wI (fun h => ?_) (fun h => ?_) | refine wF (fun h => ?_) (fun h => ?_) | refine wG (fun h => ?_) (fun h => ?_) | refine wH (fun h => ?_) (fun h => ?_)) | (with_reducible refine mfork_bool (fun h => ?_) (fun h => ?_) <;> simp only [h]) | (with_reducible refine mgfork_bool (fun h => ?_) (fun h => ?_) <;> simp only [h]) | (simp (config := { maxSteps := 4000000 }) (disch := first | decide | assumption | omega | (simp only [wL]; omega)) only [go_sem, Nat.reduceAdd, Nat.reduceSub, Nat.reduceMul, Nat.reduceDiv, Nat.reduceMod, Nat.reduceLT, Nat.reduceLeDiff, Nat.reduceEqDiff, Nat.reduceSucc, Nat.reduceGT, Int.reduceAdd, Int.reduceSub, Int.reduceMul, Int.reduceNeg, Int.reduceLT, Int.reduceLE, Int.reduceEq, Int.reduceToNat, reduceIte]))
        all_goals rw [key]

theorem rorder_call (a b : ND) (ha : a.v.s.size ≤ 1000000) (hb : b.v.s.size ≤ 1000000) : MCalls Try.prog 56 [.agg a.c, .agg b.c] St.none (fun r _ => r = .int .i64 (ordI (cmpL a.key b.key))) := by
  refine (MCalls.body 30 [.tmp 4] Try.func56 rfl rfl rfl rfl ?_)
  obtain ⟨ao, an, av⟩ := a
  obtain ⟨bo, bn, bv⟩ := b
  repeat' (first | (with_reducible refine use_pure (rvcompare_call av bv ha hb) ?_) | ((with_reducible refine wN fun nl hnl => ?_); revert hnl; (repeat with_reducible refine wS fun _ _ => ?_); intro hnl) | (with_reducible first | refine mdraw_plain mixed (by decide +kernel) ?_ | refine wI (fun h => ?_) (fun h => ?_) | refine wF (fun h => ?_) (fun h => ?_) | refine wG (fun h => ?_) (fun h => ?_) | refine wH (fun h => ?_) (fun h => ?_)) | (with_reducible refine mfork_bool (fun h => ?_) (fun h => ?_) <;> simp only [h]) | (with_reducible refine mgfork_bool (fun h => ?_) (fun h => ?_) <;> simp only [h]) | (simp (config := { maxSteps := 4000000 }) (disch := first | decide | assumption | omega | (simp only [wL]; omega)) only [go_sem, Nat.reduceAdd, Nat.reduceSub, Nat.reduceMul, Nat.reduceDiv, Nat.reduceMod, Nat.reduceLT, Nat.reduceLeDiff, Nat.reduceEqDiff, Nat.reduceSucc, Nat.reduceGT, Int.reduceAdd, Int.reduceSub, Int.reduceMul, Int.reduceNeg, Int.reduceLT, Int.reduceLE, Int.reduceEq, Int.reduceToNat, reduceIte, Try.f56]))
  all_goals (simp only [ND.key, cmpL, MV.int.injEq, true_and]; repeat' split)
  all_goals first
    | rfl
    | (exfalso; omega)

theorem rcompare_call (a b : List ND) (la : a.length ≤ 1000000) (lb : b.length ≤ 1000000) (ha : ∀ x, x ∈ a → x.v.s.size ≤ 1000000) (hb : ∀ x, x ∈ b → x.v.s.size ≤ 1000000) (ta tb : Bool) :
    MCalls Try.prog 36 [.lst 5 (a.map ND.c) ta, .lst 5 (b.map ND.c) tb] St.none (fun r _ => r = .int .i64 (ordI (cmpF a b))) := by
  refine (MCalls.body 41 [.tmp 4] Try.func36 rfl rfl rfl rfl ?_)
  repeat' (first | ((with_reducible refine wN fun nl hnl => ?_); revert hnl; (repeat with_reducible refine wS fun _ _ => ?_); intro hnl) | (with_reducible first | refine mdraw_plain mixed (by decide +kernel) ?_ | refine wI (fun h => ?_) (fun h => ?_) | refine wF (fun h => ?_) (fun h => ?_) | refine wG (fun h => ?_) (fun h => ?_) | refine wH (fun h => ?_) (fun h => ?_)) | (with_reducible refine mfork_bool (fun h => ?_) (fun h => ?_) <;> simp only [h]) | (with_reducible refine mgfork_bool (fun h => ?_) (fun h => ?_) <;> simp only [h]) | (simp (config := { maxSteps := 4000000 }) (disch := first | decide | assumption | omega | (simp only [wL]; omega)) only [go_sem, Nat.reduceAdd, Nat.reduceSub, Nat.reduceMul, Nat.reduceDiv, Nat.reduceMod, Nat.reduceLT, Nat.reduceLeDiff, Nat.reduceEqDiff, Nat.reduceSucc, Nat.reduceGT, Int.reduceAdd, Int.reduceSub, Int.reduceMul, Int.reduceNeg, Int.reduceLT, Int.reduceLE, Int.reduceEq, Int.reduceToNat, reduceIte, Try.f36]))
  refine mloop_intro (α := Nat) (fun i => ⟨41, [(5, .int .i64 (i : Int)), (0, .lst 5 (a.map ND.c) ta), (1, .lst 5 (b.map ND.c) tb)], []⟩) (fun _ => St.none)
    (fun i => i ≤ a.length ∧ i ≤ b.length ∧ cmpF a b = cmpF (a.drop i) (b.drop i)) (fun i => a.length - i) (.of (.less ?_ (St.le_refl _)) ⟨0, rfl, rfl, by simp⟩) ?_
  · simp (config := { maxSteps := 4000000 }) (disch := first | decide | assumption | omega | (simp only [wL]; omega)) only [go_sem, Nat.reduceAdd, Nat.reduceSub, Nat.reduceMul, Nat.reduceDiv, Nat.reduceMod, Nat.reduceLT, Nat.reduceLeDiff, Nat.reduceEqDiff, Nat.reduceSucc, Nat.reduceGT, Int.reduceAdd, Int.reduceSub, Int.reduceMul, Int.reduceNeg, Int.reduceLT, Int.reduceLE, Int.reduceEq, Int.reduceToNat, reduceIte, weak_int, weak_same]
    rfl
  · rintro i ⟨h3, h4, h5⟩
    by_cases hi : i < a.length ∧ i < b.length
    · obtain ⟨hi1, hi2⟩ := hi
      rw [drop_getD nd0 hi1, drop_getD nd0 hi2, cmpF_cons] at h5
      have hord := rorder_call (a.getD i nd0) (b.getD i nd0) (ha _ (getD_mem nd0 hi1)) (hb _ (getD_mem nd0 hi2))
      generalize ho : cmpL (a.getD i nd0).key (b.getD i nd0).key = o at h5 hord
      by_cases hoe : o = .eq
      · have h0 : ordI o = 0 := by rw [hoe]; rfl
        rw [h0] at hord
        rw [if_pos hoe] at h5
        repeat' (first | (with_reducible refine mdraw_know mixed (by decide +kernel) (fun g ms => if g = 56 then some ⟨[], fun v => v = .int .i64 0, none⟩ else none) ?_) | (with_reducible refine know_pure rfl hord ?_) | ((with_reducible refine wN fun nl hnl => ?_); revert hnl; (repeat with_reducible refine wS fun _ _ => ?_); intro hnl) | (with_reducible first | refine mdraw_plain mixed (by decide +kernel) ?_ | refine wI (fun h => ?_) (fun h => ?_) | refine wF (fun h => ?_) (fun h => ?_) | refine wG (fun h => ?_) (fun h => ?_) | refine wH (fun h => ?_) (fun h => ?_)) | (with_reducible refine mfork_bool (fun h => ?_) (fun h => ?_) <;> simp only [h]) | (with_reducible refine mgfork_bool (fun h => ?_) (fun h => ?_) <;> simp only [h]) | (simp (config := { maxSteps := 4000000 }) (disch := first | decide | assumption | omega | (simp only [wL]; omega)) only [go_sem, Nat.reduceAdd, Nat.reduceSub, Nat.reduceMul, Nat.reduceDiv, Nat.reduceMod, Nat.reduceLT, Nat.reduceLeDiff, Nat.reduceEqDiff, Nat.reduceSucc, Nat.reduceGT, Int.reduceAdd, Int.reduceSub, Int.reduceMul, Int.reduceNeg, Int.reduceLT, Int.reduceLE, Int.reduceEq, Int.reduceToNat, reduceIte, getD_mapd nd0]))
        refine .of (.less (l1 := [(5, .int .i64 ((i + 1 : Nat) : Int)), (0, .lst 5 (a.map ND.c) ta), (1, .lst 5 (b.map ND.c) tb)]) ?_ (St.le_refl _)) ⟨i + 1, rfl, rfl, ⟨by omega, by omega, h5⟩, by omega⟩
        simp (config := { maxSteps := 4000000 }) (disch := first | decide | assumption | omega | (simp only [wL]; omega)) only [go_sem, Nat.reduceAdd, Nat.reduceSub, Nat.reduceMul, Nat.reduceDiv, Nat.reduceMod, Nat.reduceLT, Nat.reduceLeDiff, Nat.reduceEqDiff, Nat.reduceSucc, Nat.reduceGT, Int.reduceAdd, Int.reduceSub, Int.reduceMul, Int.reduceNeg, Int.reduceLT, Int.reduceLE, Int.reduceEq, Int.reduceToNat, reduceIte, weak_int, weak_same]
        omega
      · have h0 : ordI o ≠ 0 := fun h => hoe (ordI_zero.1 h)
        rw [if_neg hoe] at h5
        rw [h5]
        repeat' (first | (with_reducible refine mdraw_know mixed (by decide +kernel) (fun g ms => if g = 56 then some ⟨[], fun v => v = .int .i64 (ordI o), none⟩ else none) ?_) | (with_reducible refine know_pure rfl hord ?_) | ((with_reducible refine wN fun nl hnl => ?_); revert hnl; (repeat with_reducible refine wS fun _ _ => ?_); intro hnl) | (with_reducible first | refine mdraw_plain mixed (by decide +kernel) ?_ | refine wI (fun h => ?_) (fun h => ?_) | refine wF (fun h => ?_) (fun h => ?_) | refine wG (fun h => ?_) (fun h => ?_) | refine wH (fun h => ?_) (fun h => ?_)) | (with_reducible refine mfork_bool (fun h => ?_) (fun h => ?_) <;> simp only [h]) | (with_reducible refine mgfork_bool (fun h => ?_) (fun h => ?_) <;> simp only [h]) | (simp (config := { maxSteps := 4000000 }) (disch := first | decide | assumption | omega | (simp only [wL]; omega)) only [go_sem, Nat.reduceAdd, Nat.reduceSub, Nat.reduceMul, Nat.reduceDiv, Nat.reduceMod, Nat.reduceLT, Nat.reduceLeDiff, Nat.reduceEqDiff, Nat.reduceSucc, Nat.reduceGT, Int.reduceAdd, Int.reduceSub, Int.reduceMul, Int.reduceNeg, Int.reduceLT, Int.reduceLE, Int.reduceEq, Int.reduceToNat, reduceIte, getD_mapd nd0]))
    · by_cases h6 : i < a.length
      · have h7 : i = b.length := by omega
        rw [drop_getD nd0 h6, List.drop_eq_nil_of_le (show b.length ≤ i by omega)] at h5
        repeat' (first | ((with_reducible refine wN fun nl hnl => ?_); revert hnl; (repeat with_reducible refine wS fun _ _ => ?_); intro hnl) | (with_reducible first | refine mdraw_plain mixed (by decide +kernel) ?_ | refine wI (fun h => ?_) (fun h => ?_) | refine wF (fun h => ?_) (fun h => ?_) | refine wG (fun h => ?_) (fun h => ?_) | refine wH (fun h => ?_) (fun h => ?_)) | (with_reducible refine mfork_bool (fun h => ?_) (fun h => ?_) <;> simp only [h]) | (with_reducible refine mgfork_bool (fun h => ?_) (fun h => ?_) <;> simp only [h]) | (simp (config := { maxSteps := 4000000 }) (disch := first | decide | assumption | omega | (simp only [wL]; omega)) only [go_sem, Nat.reduceAdd, Nat.reduceSub, Nat.reduceMul, Nat.reduceDiv, Nat.reduceMod, Nat.reduceLT, Nat.reduceLeDiff, Nat.reduceEqDiff, Nat.reduceSucc, Nat.reduceGT, Int.reduceAdd, Int.reduceSub, Int.reduceMul, Int.reduceNeg, Int.reduceLT, Int.reduceLE, Int.reduceEq, Int.reduceToNat, reduceIte, getD_mapd nd0]))
        all_goals first
          | (rw [h5]; rfl)
          | omega
      · rw [List.drop_eq_nil_of_le (show a.length ≤ i by omega)] at h5
        by_cases h8 : i < b.length
        · rw [drop_getD nd0 h8] at h5
          repeat' (first | ((with_reducible refine wN fun nl hnl => ?_); revert hnl; (repeat with_reducible refine wS fun _ _ => ?_); intro hnl) | (with_reducible first | refine mdraw_plain mixed (by decide +kernel) ?_ | refine wI (fun h => ?_) (fun h => ?_) | refine wF (fun h => ?_) (fun h => ?_) | refine wG (fun h => ?_) (fun h => ?_) | refine wH (fun h => ?_) (fun h => ?_)) | (with_reducible refine mfork_bool (fun h => ?_) (fun h => ?_) <;> simp only [h]) | (with_reducible refine mgfork_bool (fun h => ?_) (fun h => ?_) <;> simp only [h]) | (simp (config := { maxSteps := 4000000 }) (disch := first | decide | assumption | omega | (simp only [wL]; omega)) only [go_sem, Nat.reduceAdd, Nat.reduceSub, Nat.reduceMul, Nat.reduceDiv, Nat.reduceMod, Nat.reduceLT, Nat.reduceLeDiff, Nat.reduceEqDiff, Nat.reduceSucc, Nat.reduceGT, Int.reduceAdd, Int.reduceSub, Int.reduceMul, Int.reduceNeg, Int.reduceLT, Int.reduceLE, Int.reduceEq, Int.reduceToNat, reduceIte, getD_mapd nd0]))
          all_goals first
            | (rw [h5]; rfl)
            | omega
        · rw [List.drop_eq_nil_of_le (show b.length ≤ i by omega)] at h5
          repeat' (first | ((with_reducible refine wN fun nl hnl => ?_); revert hnl; (repeat with_reducible refine wS fun _ _ => ?_); intro hnl) | (with_reducible first | refine mdraw_plain mixed (by decide +kernel) ?_ | refine wI (fun h => ?_) (fun h => ?_) | refine wF (fun h => ?_) (fun h => ?_) | refine wG (fun h => ?_) (fun h => ?_) | refine wH (fun h => ?_) (fun h => ?_)) | (with_reducible refine mfork_bool (fun h => ?_) (fun h => ?_) <;> simp only [h]) | (with_reducible refine mgfork_bool (fun h => ?_) (fun h => ?_) <;> simp only [h]) | (simp (config := { maxSteps := 4000000 }) (disch := first | decide | assumption | omega | (simp only [wL]; omega)) only [go_sem, Nat.reduceAdd, Nat.reduceSub, Nat.reduceMul, Nat.reduceDiv, Nat.reduceMod, Nat.reduceLT, Nat.reduceLeDiff, Nat.reduceEqDiff, Nat.reduceSucc, Nat.reduceGT, Int.reduceAdd, Int.reduceSub, Int.reduceMul, Int.reduceNeg, Int.reduceLT, Int.reduceLE, Int.reduceEq, Int.reduceToNat, reduceIte, getD_mapd nd0]))
          all_goals first
            | (rw [h5]; rfl)
            | omega
end Go.Proofs.Ytielcgplbnlgbaa
end

section
/- What filters say; their atoms in order, each once. No program in sight. -/
set_option linter.unusedVariables false
set_option linter.unusedSimpArgs false
namespace Go.Proofs.Ytielcgplbnlgbaa

def isAtom (x : ND) : Bool := decide (parts x.op = 0 ∧ x.op ≠ 1 ∧ x.op ≠ 2)
def atomR (x : ND) : Bool := decide (3 ≤ x.op ∧ x.op ≤ 9)

theorem atom_same {x : ND} (h : ndOk x = true) : isAtom x = atomR x := by
  have hr := op_range h
  unfold isAtom atomR parts
  rw [Bool.eq_iff_iff, decide_eq_true_eq, decide_eq_true_eq]
  constructor
  · rintro ⟨h1, h2, h3⟩
    split at h1
    · cases h1
    · split at h1
      · cases h1
      · omega
  · intro h1
    rw [if_neg (by omega), if_neg (by omega)]
    omega

/-- What a tree says, its atoms asked. -/
def T.sem (av : ND → Bool) : T → Bool
  | .leaf x => if x.op = 1 then true else if x.op = 2 then false else av x
  | .one x a => !a.sem av
  | .two x a b => if x.op = 11 then a.sem av && b.sem av else a.sem av || b.sem av

theorem sem_congr {av av' : ND → Bool} : ∀ (t : T), t.ok → (∀ x, x ∈ t.fl → isAtom x = true → av x = av' x) → t.sem av = t.sem av'
  | .leaf x, hok, h => by
    simp only [T.sem]
    split
    · rfl
    · split
      · rfl
      · exact h x (by simp [T.fl]) (by simp only [isAtom, decide_eq_true_eq]; exact ⟨hok, by assumption, by assumption⟩)
  | .one x a, hok, h => by
    simp only [T.sem]
    rw [sem_congr a hok.2 fun y hy => h y (by simp only [T.fl, List.mem_cons]; exact .inr hy)]
  | .two x a b, hok, h => by
    simp only [T.sem]
    rw [sem_congr a hok.2.1 fun y hy => h y (by simp only [T.fl, List.mem_cons, List.mem_append]; exact .inr (.inl hy)), sem_congr b hok.2.2 fun y hy => h y (by simp only [T.fl, List.mem_cons, List.mem_append]; exact .inr (.inr hy))]

/-! ### In order, each once -/
def insN (x : ND) : List ND → List ND
  | [] => [x]
  | y :: r => if lessK y.key x.key then y :: insN x r else if y = x then y :: r else x :: y :: r

theorem insN_key (x : ND) : ∀ l : List ND, (insN x l).map ND.key = insK x.key (l.map ND.key)
  | [] => rfl
  | y :: r => by
    simp only [insN, List.map_cons, insK]
    split
    · rw [List.map_cons, insN_key x r]
    · split
      · rename_i h; subst h; simp
      · rw [if_neg (fun e => by have := ND.key_inj e; contradiction)]
        rfl

def atomsS (l : List ND) : List ND := (l.filter isAtom).foldl (fun acc x => insN x acc) []

theorem fold_rising : ∀ (l acc : List ND), Rising (acc.map ND.key) → Rising ((l.foldl (fun acc x => insN x acc) acc).map ND.key)
  | [], acc, h => h
  | x :: r, acc, h => fold_rising r (insN x acc) (by rw [insN_key]; exact rising_insK h)

theorem mem_insN {x z : ND} : ∀ {l : List ND}, z ∈ insN x l ↔ z = x ∨ z ∈ l
  | [] => by simp [insN]
  | y :: r => by
    unfold insN
    split
    · rw [List.mem_cons, mem_insN, List.mem_cons]
      constructor
      · rintro (h | h | h)
        · exact .inr (.inl h)
        · exact .inl h
        · exact .inr (.inr h)
      · rintro (h | h | h)
        · exact .inr (.inl h)
        · exact .inl h
        · exact .inr (.inr h)
    · split
      · rename_i h; subst h; simp
      · simp

theorem mem_fold {z : ND} : ∀ {l acc : List ND}, z ∈ l.foldl (fun acc x => insN x acc) acc ↔ z ∈ l ∨ z ∈ acc
  | [], acc => by simp
  | x :: r, acc => by
    rw [List.foldl_cons, mem_fold, mem_insN, List.mem_cons]
    constructor
    · rintro (h | h | h)
      · exact .inl (.inr h)
      · exact .inl (.inl h)
      · exact .inr h
    · rintro ((h | h) | h)
      · exact .inr (.inl h)
      · exact .inl h
      · exact .inr (.inr h)

theorem atoms_rising (l : List ND) : Rising ((atomsS l).map ND.key) := fold_rising _ [] (by simp [Rising])
theorem mem_atoms {l : List ND} {z : ND} : z ∈ atomsS l ↔ z ∈ l ∧ isAtom z = true := by
  rw [atomsS, mem_fold, List.mem_filter]; simp

theorem nd_unique {l m : List ND} (h1 : Rising (l.map ND.key)) (h2 : Rising (m.map ND.key)) (h : ∀ x, x ∈ l ↔ x ∈ m) : l = m := by
  have := rising_unique h1 h2 fun k => by
    simp only [List.mem_map]
    constructor
    · rintro ⟨x, hx, rfl⟩; exact ⟨x, (h x).1 hx, rfl⟩
    · rintro ⟨x, hx, rfl⟩; exact ⟨x, (h x).2 hx, rfl⟩
  exact (List.map_inj_right (fun _ _ e => ND.key_inj e)).1 this

/-- Of neighbours that are alike the first. -/
def compS : List ND → List ND
  | [] => []
  | [x] => [x]
  | x :: y :: r => if y = x then compS (x :: r) else x :: compS (y :: r)

theorem compS_snoc : ∀ (n : Nat) (l : List ND), l.length ≤ n → ∀ y x, compS (l ++ [y, x]) = if x = y then compS (l ++ [y]) else compS (l ++ [y]) ++ [x]
  | _, [], _, y, x => by
    simp only [List.nil_append, compS]
    split <;> rfl
  | n, [z], _, y, x => by
    by_cases h1 : y = z <;> by_cases h2 : x = y
    · subst h1 h2; simp [compS]
    · subst h1; simp [compS, h2]
    · subst h2; simp [compS, h1]
    · simp [compS, h1, h2]
  | 0, _ :: _ :: _, h, _, _ => by simp at h
  | n + 1, z :: w :: r, h, y, x => by
    simp only [List.length_cons] at h
    have e1 := compS_snoc n (z :: r) (by simp; omega) y x
    have e2 := compS_snoc n (w :: r) (by simp; omega) y x
    simp only [List.cons_append] at e1 e2 ⊢
    by_cases hwz : w = z
    · have a : ∀ t, compS (z :: w :: t) = compS (z :: t) := fun t => by rw [compS, if_pos hwz]
      rw [a, a, e1]
    · have a : ∀ t, compS (z :: w :: t) = z :: compS (w :: t) := fun t => by rw [compS, if_neg hwz]
      rw [a, a, e2]
      split <;> simp

/-- None is less than one ahead. -/
def Sorted (l : List ND) : Prop := l.Pairwise fun a b => ¬ lessK b.key a.key

theorem mem_compS : ∀ (n : Nat) (l : List ND), l.length ≤ n → ∀ z, z ∈ compS l ↔ z ∈ l
  | 0, l, h, z => by
    have : l = [] := List.eq_nil_of_length_eq_zero (by omega)
    subst this; simp [compS]
  | n + 1, [], h, z => by simp [compS]
  | n + 1, [x], h, z => by simp [compS]
  | n + 1, x :: y :: r, h, z => by
    simp only [List.length_cons] at h
    unfold compS
    split
    · rename_i e; subst e
      rw [mem_compS n (y :: r) (by simp; omega)]
      simp
    · rw [List.mem_cons, mem_compS n (y :: r) (by simp; omega)]
      simp only [List.mem_cons]

theorem compS_rising : ∀ (n : Nat) (l : List ND), l.length ≤ n → Sorted l → Rising ((compS l).map ND.key)
  | 0, l, h, _ => by
    have : l = [] := List.eq_nil_of_length_eq_zero (by omega)
    subst this; simp [compS, Rising]
  | n + 1, [], h, _ => by simp [compS, Rising]
  | n + 1, [x], h, _ => by simp [compS, Rising]
  | n + 1, x :: y :: r, h, hs => by
    simp only [List.length_cons] at h
    obtain ⟨h1, h2⟩ := List.pairwise_cons.1 hs
    unfold compS
    split
    · rename_i e; subst e
      exact compS_rising n (y :: r) (by simp; omega) h2
    · rename_i hne
      have ih := compS_rising n (y :: r) (by simp; omega) h2
      rw [List.map_cons]
      refine List.pairwise_cons.2 ⟨fun k hk => ?_, ih⟩
      obtain ⟨z, hz, rfl⟩ := List.mem_map.1 hk
      have hz' := (mem_compS n (y :: r) (by simp; omega) z).1 hz
      have hxy : lessK x.key y.key := lessK_total (h1 y (List.mem_cons_self ..)) (fun e => hne (ND.key_inj e))
      rcases List.mem_cons.1 hz' with rfl | hz'
      · exact hxy
      · have h3 := (List.pairwise_cons.1 h2).1 z hz'
        by_cases e : y.key = z.key
        · rw [← e]; exact hxy
        · exact lessK_trans hxy (lessK_total h3 (fun q => e q.symm))

/-- The sorted list, each once, of the atoms. -/
theorem comp_atoms {l m : List ND} (hp : m.Perm (l.filter isAtom)) (hs : Sorted m) : compS m = atomsS l :=
  nd_unique (compS_rising m.length m (Nat.le_refl _) hs) (atoms_rising l) fun x => by
    rw [mem_compS m.length m (Nat.le_refl _), hp.mem_iff, mem_atoms, List.mem_filter]
end Go.Proofs.Ytielcgplbnlgbaa
end

section
/- Contract of slices.Compact at nodes: the conditions that the theorem names. -/
set_option linter.unusedVariables false
set_option linter.unusedSimpArgs false
namespace Go.Proofs.Ytielcgplbnlgbaa

theorem comp_step {xs : List ND} {j : Nat} (h0 : 0 < j) (h : j < xs.length) : compS (xs.take (j + 1)) = if xs.getD j nd0 = xs.getD (j - 1) nd0 then compS (xs.take j) else compS (xs.take j) ++ [xs.getD j nd0] := by
  obtain ⟨i, rfl⟩ : ∃ i, j = i + 1 := ⟨j - 1, by omega⟩
  have e1 : xs.take (i + 1) = xs.take i ++ [xs.getD i nd0] := by rw [List.take_succ_eq_append_getElem (by omega), getD_of_lt nd0 (by omega)]
  have e2 : xs.take (i + 1 + 1) = xs.take i ++ [xs.getD i nd0, xs.getD (i + 1) nd0] := by rw [List.take_succ_eq_append_getElem h, e1, getD_of_lt nd0 h]; simp
  rw [e2, e1, compS_snoc _ _ (Nat.le_refl _)]
  rfl

theorem drop_get {A B : List ND} {m j : Nat} (h : A.drop m = B.drop m) (hj : m ≤ j) : A.getD j nd0 = B.getD j nd0 := by
  have e : ∀ l : List ND, l.getD j nd0 = ((l.drop m)[j - m]?).getD nd0 := fun l => by
    rw [List.getElem?_drop, List.getD_eq_getElem?_getD, show m + (j - m) = j by omega]
  rw [e, e, h]

theorem take_set_succ {A : List ND} {q : Nat} (h : q < A.length) (x : ND) : (A.set q x).take (q + 1) = A.take q ++ [x] := by
  rw [List.take_succ_eq_append_getElem (by simpa using h), List.take_set, List.set_eq_of_length_le (by simp; omega)]
  simp

set_option maxHeartbeats 4000000 in
theorem compact_call (l : Nat) (xs : List ND) (hx : xs.length ≤ 1000000) (ex : List (List MV)) : MCalls Try.prog 45 [.vec 5 l 0 xs.length] (St.none.set l (.row 49 5 (xs.map ND.c ++ ex)))
    (fun r σ' => ∃ ex', r = .vec 5 l 0 (compS xs).length ∧ σ' = St.none.set l (.row 49 5 ((compS xs).map ND.c ++ ex'))) := by
  refine (MCalls.body 61 [.tmp 2] Try.func45 rfl rfl rfl rfl ?_)
  by_cases h2 : xs.length < 2
  · have hc : compS xs = xs := by
      match xs, h2 with
      | [], _ => simp [compS]
      | [x], _ => simp [compS]
      | _ :: _ :: _, h2 => simp at h2; omega
    rw [hc]
    repeat' (first | ((with_reducible refine wN fun nl hnl => ?_); revert hnl; (repeat with_reducible refine wS fun _ _ => ?_); intro hnl) | (with_reducible first | refine mdraw_plain mixed (by decide +kernel) ?_ | refine wI (fun h => ?_) (fun h => ?_) | refine wF (fun h => ?_) (fun h => ?_) | refine wG (fun h => ?_) (fun h => ?_) | refine wH (fun h => ?_) (fun h => ?_)) | (with_reducible refine mfork_bool (fun h => ?_) (fun h => ?_) <;> simp only [h]) | (with_reducible refine mgfork_bool (fun h => ?_) (fun h => ?_) <;> simp only [h]) | (simp (config := { maxSteps := 4000000 }) (disch := first | decide | assumption | omega | (simp only [wL]; omega)) only [go_sem, Nat.reduceAdd, Nat.reduceSub, Nat.reduceMul, Nat.reduceDiv, Nat.reduceMod, Nat.reduceLT, Nat.reduceLeDiff, Nat.reduceEqDiff, Nat.reduceSucc, Nat.reduceGT, Int.reduceAdd, Int.reduceSub, Int.reduceMul, Int.reduceNeg, Int.reduceLT, Int.reduceLE, Int.reduceEq, Int.reduceToNat, reduceIte, Try.f45]))
    exact ⟨ex, rfl⟩
  · repeat' (first | ((with_reducible refine wN fun nl hnl => ?_); revert hnl; (repeat with_reducible refine wS fun _ _ => ?_); intro hnl) | (with_reducible first | refine mdraw_plain mixed (by decide +kernel) ?_ | refine wI (fun h => ?_) (fun h => ?_) | refine wF (fun h => ?_) (fun h => ?_) | refine wG (fun h => ?_) (fun h => ?_) | refine wH (fun h => ?_) (fun h => ?_)) | (with_reducible refine mfork_bool (fun h => ?_) (fun h => ?_) <;> simp only [h]) | (with_reducible refine mgfork_bool (fun h => ?_) (fun h => ?_) <;> simp only [h]) | (simp (config := { maxSteps := 4000000 }) (disch := first | decide | assumption | omega | (simp only [wL]; omega)) only [go_sem, Nat.reduceAdd, Nat.reduceSub, Nat.reduceMul, Nat.reduceDiv, Nat.reduceMod, Nat.reduceLT, Nat.reduceLeDiff, Nat.reduceEqDiff, Nat.reduceSucc, Nat.reduceGT, Int.reduceAdd, Int.reduceSub, Int.reduceMul, Int.reduceNeg, Int.reduceLT, Int.reduceLE, Int.reduceEq, Int.reduceToNat, reduceIte, Try.f45]))
    refine mloop_intro (α := Nat) (fun k => ⟨61, [(3, .int .i64 (k : Int)), (0, .vec 5 l 0 xs.length)], []⟩) (fun _ => St.none.set l (.row 49 5 (xs.map ND.c ++ ex))) (fun k => 1 ≤ k ∧ k ≤ xs.length ∧ compS (xs.take k) = xs.take k) (fun k => xs.length - k) (.of (.less ?_ (St.le_refl _)) ⟨1, rfl, rfl, by omega, by omega, ?_⟩) ?_
    · simp (config := { maxSteps := 4000000 }) (disch := first | decide | assumption | omega | (simp only [wL]; omega)) only [go_sem, Nat.reduceAdd, Nat.reduceSub, Nat.reduceMul, Nat.reduceDiv, Nat.reduceMod, Nat.reduceLT, Nat.reduceLeDiff, Nat.reduceEqDiff, Nat.reduceSucc, Nat.reduceGT, Int.reduceAdd, Int.reduceSub, Int.reduceMul, Int.reduceNeg, Int.reduceLT, Int.reduceLE, Int.reduceEq, Int.reduceToNat, reduceIte, weak_int, weak_same]
      first | rfl | omega
    · match xs, h2 with
      | x :: _ :: _, _ => simp [compS]
      | [], h => simp at h
      | [_], h => simp at h
    · rintro k ⟨h3, h4, h5⟩
      by_cases hk : k < xs.length
      · have hk1 : ((k : Int) - 1).toNat = k - 1 := by omega
        have hcs := comp_step (xs := xs) (j := k) (by omega) hk
        by_cases he : xs.getD k nd0 = xs.getD (k - 1) nd0
        · rw [if_pos he] at hcs
          rw [h5] at hcs
          repeat' (first | ((with_reducible refine wN fun nl hnl => ?_); revert hnl; (repeat with_reducible refine wS fun _ _ => ?_); intro hnl) | (with_reducible first | refine mdraw_plain mixed (by decide +kernel) ?_ | refine wI (fun h => ?_) (fun h => ?_) | refine wF (fun h => ?_) (fun h => ?_) | refine wG (fun h => ?_) (fun h => ?_) | refine wH (fun h => ?_) (fun h => ?_)) | (with_reducible refine mfork_bool (fun h => ?_) (fun h => ?_) <;> simp only [h]) | (with_reducible refine mgfork_bool (fun h => ?_) (fun h => ?_) <;> simp only [h]) | (simp (config := { maxSteps := 4000000 }) (disch := first | decide | assumption | omega | (simp only [wL]; omega)) only [go_sem, Nat.reduceAdd, Nat.reduceSub, Nat.reduceMul, Nat.reduceDiv, Nat.reduceMod, Nat.reduceLT, Nat.reduceLeDiff, Nat.reduceEqDiff, Nat.reduceSucc, Nat.reduceGT, Int.reduceAdd, Int.reduceSub, Int.reduceMul, Int.reduceNeg, Int.reduceLT, Int.reduceLE, Int.reduceEq, Int.reduceToNat, reduceIte, getD_mapd nd0, hk1, he]))
          refine mloop_intro (α := Nat × Nat × List ND) (fun a => ⟨61, [(3, .int .i64 (a.1 : Int)), (4, .vec 5 l k (xs.length - k)), (5, .int .i64 (a.2.1 : Int)), (0, .vec 5 l 0 xs.length)], []⟩) (fun a => St.none.set l (.row 49 5 (a.2.2.map ND.c ++ ex)))
            (fun a => 1 ≤ a.2.1 ∧ a.2.1 ≤ xs.length - k ∧ a.2.2.length = xs.length ∧ a.1 < k + a.2.1 ∧ a.1 = (compS (xs.take (k + a.2.1))).length ∧ a.2.2.take a.1 = compS (xs.take (k + a.2.1)) ∧ a.2.2.drop (k + a.2.1 - 1) = xs.drop (k + a.2.1 - 1)) (fun a => xs.length - k - a.2.1) ?_ ?_
          · refine .of (.less ?_ (St.le_refl _)) ⟨(k, 1, xs), rfl, rfl, by simp only; omega, by simp only; omega, rfl, by simp only; omega, ?_, ?_, rfl⟩
            · simp (config := { maxSteps := 4000000 }) (disch := first | decide | assumption | omega | (simp only [wL]; omega)) only [go_sem, Nat.reduceAdd, Nat.reduceSub, Nat.reduceMul, Nat.reduceDiv, Nat.reduceMod, Nat.reduceLT, Nat.reduceLeDiff, Nat.reduceEqDiff, Nat.reduceSucc, Nat.reduceGT, Int.reduceAdd, Int.reduceSub, Int.reduceMul, Int.reduceNeg, Int.reduceLT, Int.reduceLE, Int.reduceEq, Int.reduceToNat, reduceIte, weak_int, weak_same]
              first | rfl | omega
            · simp only; rw [hcs, List.length_take]; omega
            · simp only; rw [hcs]
          · rintro ⟨q, k2, A⟩ ⟨g1, g2, g3, g4, g5, g6, g7⟩
            simp only at g1 g2 g3 g4 g5 g6 g7 ⊢
            by_cases hk2 : k2 < xs.length - k
            · have hk21 : ((k2 : Int) - 1).toNat = k2 - 1 := by omega
              have hcs2 := comp_step (xs := xs) (j := k + k2) (by omega) (by omega)
              have v1 := drop_get g7 (show k + k2 - 1 ≤ k + k2 by omega)
              have v2 := drop_get g7 (show k + k2 - 1 ≤ k + (k2 - 1) by omega)
              have v3 : k + k2 - 1 = k + (k2 - 1) := by omega
              have hd : A.drop (k + k2) = xs.drop (k + k2) := by
                have := congrArg (List.drop 1) g7
                rw [List.drop_drop, List.drop_drop, show k + k2 - 1 + 1 = k + k2 by omega] at this
                exact this
              rw [v3, ← v1, ← v2] at hcs2
              have hq : q < A.length := by omega
              repeat' (first | ((with_reducible refine wN fun nl hnl => ?_); revert hnl; (repeat with_reducible refine wS fun _ _ => ?_); intro hnl) | (with_reducible first | refine mdraw_plain mixed (by decide +kernel) ?_ | refine wI (fun h => ?_) (fun h => ?_) | refine wF (fun h => ?_) (fun h => ?_) | refine wG (fun h => ?_) (fun h => ?_) | refine wH (fun h => ?_) (fun h => ?_)) | (with_reducible refine mfork_bool (fun h => ?_) (fun h => ?_) <;> simp only [h]) | (with_reducible refine mgfork_bool (fun h => ?_) (fun h => ?_) <;> simp only [h]) | (simp (config := { maxSteps := 4000000 }) (disch := first | decide | assumption | omega | (simp only [wL]; omega)) only [go_sem, Nat.reduceAdd, Nat.reduceSub, Nat.reduceMul, Nat.reduceDiv, Nat.reduceMod, Nat.reduceLT, Nat.reduceLeDiff, Nat.reduceEqDiff, Nat.reduceSucc, Nat.reduceGT, Int.reduceAdd, Int.reduceSub, Int.reduceMul, Int.reduceNeg, Int.reduceLT, Int.reduceLE, Int.reduceEq, Int.reduceToNat, reduceIte, getD_mapd nd0, hk21]))
              · have hne : ¬ A.getD (k + k2) nd0 = A.getD (k + (k2 - 1)) nd0 := fun e => h (by rw [e]; exact ⟨rfl, rfl, rfl, rfl, rfl⟩)
                rw [if_neg hne] at hcs2
                refine .of (.less (l1 := [(3, .int .i64 ((q + 1 : Nat) : Int)), (4, .vec 5 l k (xs.length - k)), (5, .int .i64 ((k2 + 1 : Nat) : Int)), (0, .vec 5 l 0 xs.length)]) (σ1 := St.none.set l (.row 49 5 ((A.set q (A.getD (k + k2) nd0)).map ND.c ++ ex))) ?_ (St.set_le (St.none_le _) ((set_hit _ _ _).trans ?_)))
                  ⟨(q + 1, k2 + 1, A.set q (A.getD (k + k2) nd0)), rfl, rfl, ⟨by simp only; omega, by simp only; omega, by simpa using g3, by simp only; omega, ?_, ?_, ?_⟩, by simp only; omega⟩
                · simp (config := { maxSteps := 4000000 }) (disch := first | decide | assumption | omega | (simp only [wL]; omega)) only [go_sem, Nat.reduceAdd, Nat.reduceSub, Nat.reduceMul, Nat.reduceDiv, Nat.reduceMod, Nat.reduceLT, Nat.reduceLeDiff, Nat.reduceEqDiff, Nat.reduceSucc, Nat.reduceGT, Int.reduceAdd, Int.reduceSub, Int.reduceMul, Int.reduceNeg, Int.reduceLT, Int.reduceLE, Int.reduceEq, Int.reduceToNat, reduceIte, weak_int, weak_same]
                  omega
                · show some (MObj.row 49 5 ((A.map ND.c ++ ex).set q (ND.c (A.getD (k + k2) nd0)))) = _
                  rw [List.set_append_left _ _ (by rw [List.length_map]; exact hq), ← List.map_set]
                · show q + 1 = (compS (xs.take (k + k2 + 1))).length
                  rw [hcs2, List.length_append, ← g5]; rfl
                · show (A.set q _).take (q + 1) = compS (xs.take (k + k2 + 1))
                  rw [take_set_succ hq, hcs2, g6]
                · show (A.set q _).drop (k + k2 + 1 - 1) = xs.drop (k + k2 + 1 - 1)
                  rw [Nat.add_sub_cancel, List.drop_set_of_lt g4, hd]
              · have heq := nd_ext (Classical.not_not.1 h)
                rw [if_pos heq] at hcs2
                refine .of (.less (l1 := [(3, .int .i64 (q : Int)), (4, .vec 5 l k (xs.length - k)), (5, .int .i64 ((k2 + 1 : Nat) : Int)), (0, .vec 5 l 0 xs.length)]) ?_ (St.le_refl _))
                  ⟨(q, k2 + 1, A), rfl, rfl, ⟨by simp only; omega, by simp only; omega, g3, by simp only; omega, ?_, ?_, ?_⟩, by simp only; omega⟩
                · simp (config := { maxSteps := 4000000 }) (disch := first | decide | assumption | omega | (simp only [wL]; omega)) only [go_sem, Nat.reduceAdd, Nat.reduceSub, Nat.reduceMul, Nat.reduceDiv, Nat.reduceMod, Nat.reduceLT, Nat.reduceLeDiff, Nat.reduceEqDiff, Nat.reduceSucc, Nat.reduceGT, Int.reduceAdd, Int.reduceSub, Int.reduceMul, Int.reduceNeg, Int.reduceLT, Int.reduceLE, Int.reduceEq, Int.reduceToNat, reduceIte, weak_int, weak_same]
                  omega
                · show q = (compS (xs.take (k + k2 + 1))).length
                  rw [hcs2, ← g5]
                · show A.take q = compS (xs.take (k + k2 + 1))
                  rw [hcs2, g6]
                · show A.drop (k + k2 + 1 - 1) = xs.drop (k + k2 + 1 - 1)
                  rw [Nat.add_sub_cancel, hd]
            · have : k2 = xs.length - k := by omega
              subst this
              rw [show k + (xs.length - k) = xs.length by omega, List.take_length] at g5 g6
              repeat' (first | ((with_reducible refine wN fun nl hnl => ?_); revert hnl; (repeat with_reducible refine wS fun _ _ => ?_); intro hnl) | (with_reducible first | refine mdraw_plain mixed (by decide +kernel) ?_ | refine wI (fun h => ?_) (fun h => ?_) | refine wF (fun h => ?_) (fun h => ?_) | refine wG (fun h => ?_) (fun h => ?_) | refine wH (fun h => ?_) (fun h => ?_)) | (with_reducible refine mfork_bool (fun h => ?_) (fun h => ?_) <;> simp only [h]) | (with_reducible refine mgfork_bool (fun h => ?_) (fun h => ?_) <;> simp only [h]) | (simp (config := { maxSteps := 4000000 }) (disch := first | decide | assumption | omega | (simp only [wL]; omega)) only [go_sem, Nat.reduceAdd, Nat.reduceSub, Nat.reduceMul, Nat.reduceDiv, Nat.reduceMod, Nat.reduceLT, Nat.reduceLeDiff, Nat.reduceEqDiff, Nat.reduceSucc, Nat.reduceGT, Int.reduceAdd, Int.reduceSub, Int.reduceMul, Int.reduceNeg, Int.reduceLT, Int.reduceLE, Int.reduceEq, Int.reduceToNat, reduceIte]))
              refine ⟨List.replicate (xs.length - q) nd0.c ++ List.drop (q + (List.replicate (xs.length - q) nd0.c).length) (A.map ND.c ++ ex), by rw [g5], ?_⟩
              show St.none.set l (.row 49 5 (List.take q (A.map ND.c ++ ex) ++ List.replicate (xs.length - q) nd0.c ++ List.drop (q + (List.replicate (xs.length - q) nd0.c).length) (A.map ND.c ++ ex))) = _
              rw [List.append_assoc, List.take_append_of_le_length (by rw [List.length_map]; omega), ← List.map_take, g6]
        · rw [if_neg he, h5] at hcs
          have hne : ¬ ((xs.getD k nd0).op = (xs.getD (k - 1) nd0).op ∧ (xs.getD k nd0).n = (xs.getD (k - 1) nd0).n ∧ (xs.getD k nd0).v.kd = (xs.getD (k - 1) nd0).v.kd ∧ (xs.getD k nd0).v.n = (xs.getD (k - 1) nd0).v.n ∧ (xs.getD k nd0).v.s = (xs.getD (k - 1) nd0).v.s) := fun h => he (nd_ext h)
          repeat' (first | ((with_reducible refine wN fun nl hnl => ?_); revert hnl; (repeat with_reducible refine wS fun _ _ => ?_); intro hnl) | (with_reducible first | refine mdraw_plain mixed (by decide +kernel) ?_ | refine wI (fun h => ?_) (fun h => ?_) | refine wF (fun h => ?_) (fun h => ?_) | refine wG (fun h => ?_) (fun h => ?_) | refine wH (fun h => ?_) (fun h => ?_)) | (with_reducible refine mfork_bool (fun h => ?_) (fun h => ?_) <;> simp only [h]) | (with_reducible refine mgfork_bool (fun h => ?_) (fun h => ?_) <;> simp only [h]) | (simp (config := { maxSteps := 4000000 }) (disch := first | decide | assumption | omega | (simp only [wL]; omega)) only [go_sem, Nat.reduceAdd, Nat.reduceSub, Nat.reduceMul, Nat.reduceDiv, Nat.reduceMod, Nat.reduceLT, Nat.reduceLeDiff, Nat.reduceEqDiff, Nat.reduceSucc, Nat.reduceGT, Int.reduceAdd, Int.reduceSub, Int.reduceMul, Int.reduceNeg, Int.reduceLT, Int.reduceLE, Int.reduceEq, Int.reduceToNat, reduceIte, getD_mapd nd0, hk1]))
          refine .of (.less (l1 := [(3, .int .i64 ((k + 1 : Nat) : Int)), (0, .vec 5 l 0 xs.length)]) ?_ (St.le_refl _)) ⟨k + 1, rfl, rfl, ⟨by omega, by omega, ?_⟩, by omega⟩
          · simp (config := { maxSteps := 4000000 }) (disch := first | decide | assumption | omega | (simp only [wL]; omega)) only [go_sem, Nat.reduceAdd, Nat.reduceSub, Nat.reduceMul, Nat.reduceDiv, Nat.reduceMod, Nat.reduceLT, Nat.reduceLeDiff, Nat.reduceEqDiff, Nat.reduceSucc, Nat.reduceGT, Int.reduceAdd, Int.reduceSub, Int.reduceMul, Int.reduceNeg, Int.reduceLT, Int.reduceLE, Int.reduceEq, Int.reduceToNat, reduceIte, weak_int, weak_same]
            omega
          · rw [hcs, List.take_succ_eq_append_getElem hk, ← getD_of_lt nd0 hk]
      · have : k = xs.length := by omega
        subst this
        rw [List.take_length] at h5
        rw [h5]
        repeat' (first | ((with_reducible refine wN fun nl hnl => ?_); revert hnl; (repeat with_reducible refine wS fun _ _ => ?_); intro hnl) | (with_reducible first | refine mdraw_plain mixed (by decide +kernel) ?_ | refine wI (fun h => ?_) (fun h => ?_) | refine wF (fun h => ?_) (fun h => ?_) | refine wG (fun h => ?_) (fun h => ?_) | refine wH (fun h => ?_) (fun h => ?_)) | (with_reducible refine mfork_bool (fun h => ?_) (fun h => ?_) <;> simp only [h]) | (with_reducible refine mgfork_bool (fun h => ?_) (fun h => ?_) <;> simp only [h]) | (simp (config := { maxSteps := 4000000 }) (disch := first | decide | assumption | omega | (simp only [wL]; omega)) only [go_sem, Nat.reduceAdd, Nat.reduceSub, Nat.reduceMul, Nat.reduceDiv, Nat.reduceMod, Nat.reduceLT, Nat.reduceLeDiff, Nat.reduceEqDiff, Nat.reduceSucc, Nat.reduceGT, Int.reduceAdd, Int.reduceSub, Int.reduceMul, Int.reduceNeg, Int.reduceLT, Int.reduceLE, Int.reduceEq, Int.reduceToNat, reduceIte]))
        exact ⟨ex, rfl⟩
end Go.Proofs.Ytielcgplbnlgbaa
end

section
/- Contracts of the program's own functions for values and filters, and of the library's that they call: the conditions that each theorem names. -/
set_option linter.unusedVariables false
set_option linter.unusedSimpArgs false
namespace Go.Proofs.Ytielcgplbnlgbaa

theorem parts_call (op : Int) : MCalls Try.prog 42 [.int .i64 op] St.none (fun r _ => r = .int .i64 (parts op)) := by
  refine (MCalls.body 9 [.tmp 2] Try.func42 rfl rfl rfl rfl ?_)
  repeat' (first | ((with_reducible refine wN fun nl hnl => ?_); revert hnl; (repeat with_reducible refine wS fun _ _ => ?_); intro hnl) | (with_reducible first | refine mdraw_plain mixed (by decide +kernel) ?_ | refine wI (fun h => ?_) (fun h => ?_) | refine wF (fun h => ?_) (fun h => ?_) | refine wG (fun h => ?_) (fun h => ?_) | refine wH (fun h => ?_) (fun h => ?_)) | (with_reducible refine mfork_bool (fun h => ?_) (fun h => ?_) <;> simp only [h]) | (with_reducible refine mgfork_bool (fun h => ?_) (fun h => ?_) <;> simp only [h]) | (simp (config := { maxSteps := 4000000 }) (disch := first | decide | assumption | omega | (simp only [wL]; omega)) only [go_sem, Nat.reduceAdd, Nat.reduceSub, Nat.reduceMul, Nat.reduceDiv, Nat.reduceMod, Nat.reduceLT, Nat.reduceLeDiff, Nat.reduceEqDiff, Nat.reduceSucc, Nat.reduceGT, Int.reduceAdd, Int.reduceSub, Int.reduceMul, Int.reduceNeg, Int.reduceLT, Int.reduceLE, Int.reduceEq, Int.reduceToNat, reduceIte, Try.f42]))
  all_goals simp [parts, *]

theorem vcheck_call (kd n : Int) (s : ByteArray) : MCalls Try.prog 76 [.agg [.int .i64 kd, .int .i64 n, .str s]] St.none (fun r _ => r = .bool (vaOk ⟨kd, n, s⟩)) := by
  refine (MCalls.body 36 [.tmp 2] Try.func76 rfl rfl rfl rfl ?_)
  repeat' (first | ((with_reducible refine wN fun nl hnl => ?_); revert hnl; (repeat with_reducible refine wS fun _ _ => ?_); intro hnl) | (with_reducible first | refine mdraw_plain mixed (by decide +kernel) ?_ | refine wI (fun h => ?_) (fun h => ?_) | refine wF (fun h => ?_) (fun h => ?_) | refine wG (fun h => ?_) (fun h => ?_) | refine wH (fun h => ?_) (fun h => ?_)) | (with_reducible refine mfork_bool (fun h => ?_) (fun h => ?_) <;> simp only [h]) | (with_reducible refine mgfork_bool (fun h => ?_) (fun h => ?_) <;> simp only [h]) | (simp (config := { maxSteps := 4000000 }) (disch := first | decide | assumption | omega | (simp only [wL]; omega)) only [go_sem, Nat.reduceAdd, Nat.reduceSub, Nat.reduceMul, Nat.reduceDiv, Nat.reduceMod, Nat.reduceLT, Nat.reduceLeDiff, Nat.reduceEqDiff, Nat.reduceSucc, Nat.reduceGT, Int.reduceAdd, Int.reduceSub, Int.reduceMul, Int.reduceNeg, Int.reduceLT, Int.reduceLE, Int.reduceEq, Int.reduceToNat, reduceIte, Try.f76]))
  all_goals first
    | (simp [vaOk, va0, *]; done)
    | (simp [vaOk, va0, *]; omega)

theorem nanint_call (a : Int) : MCalls Try.prog 99 [.int .i64 a] St.none (fun r _ => r = .bool false) := by
  refine (MCalls.body 6 [.tmp 2] Try.func99 rfl rfl rfl rfl ?_)
  repeat' (first | ((with_reducible refine wN fun nl hnl => ?_); revert hnl; (repeat with_reducible refine wS fun _ _ => ?_); intro hnl) | (with_reducible first | refine mdraw_plain mixed (by decide +kernel) ?_ | refine wI (fun h => ?_) (fun h => ?_) | refine wF (fun h => ?_) (fun h => ?_) | refine wG (fun h => ?_) (fun h => ?_) | refine wH (fun h => ?_) (fun h => ?_)) | (with_reducible refine mfork_bool (fun h => ?_) (fun h => ?_) <;> simp only [h]) | (with_reducible refine mgfork_bool (fun h => ?_) (fun h => ?_) <;> simp only [h]) | (simp (config := { maxSteps := 4000000 }) (disch := first | decide | assumption | omega | (simp only [wL]; omega)) only [go_sem, Nat.reduceAdd, Nat.reduceSub, Nat.reduceMul, Nat.reduceDiv, Nat.reduceMod, Nat.reduceLT, Nat.reduceLeDiff, Nat.reduceEqDiff, Nat.reduceSucc, Nat.reduceGT, Int.reduceAdd, Int.reduceSub, Int.reduceMul, Int.reduceNeg, Int.reduceLT, Int.reduceLE, Int.reduceEq, Int.reduceToNat, reduceIte, Try.f99, dec_not_self]))
theorem nanstr_call (a : ByteArray) : MCalls Try.prog 111 [.str a] St.none (fun r _ => r = .bool false) := by
  refine (MCalls.body 6 [.tmp 2] Try.func111 rfl rfl rfl rfl ?_)
  repeat' (first | ((with_reducible refine wN fun nl hnl => ?_); revert hnl; (repeat with_reducible refine wS fun _ _ => ?_); intro hnl) | (with_reducible first | refine mdraw_plain mixed (by decide +kernel) ?_ | refine wI (fun h => ?_) (fun h => ?_) | refine wF (fun h => ?_) (fun h => ?_) | refine wG (fun h => ?_) (fun h => ?_) | refine wH (fun h => ?_) (fun h => ?_)) | (with_reducible refine mfork_bool (fun h => ?_) (fun h => ?_) <;> simp only [h]) | (with_reducible refine mgfork_bool (fun h => ?_) (fun h => ?_) <;> simp only [h]) | (simp (config := { maxSteps := 4000000 }) (disch := first | decide | assumption | omega | (simp only [wL]; omega)) only [go_sem, Nat.reduceAdd, Nat.reduceSub, Nat.reduceMul, Nat.reduceDiv, Nat.reduceMod, Nat.reduceLT, Nat.reduceLeDiff, Nat.reduceEqDiff, Nat.reduceSucc, Nat.reduceGT, Int.reduceAdd, Int.reduceSub, Int.reduceMul, Int.reduceNeg, Int.reduceLT, Int.reduceLE, Int.reduceEq, Int.reduceToNat, reduceIte, Try.f111, dec_not_self]))

theorem cmpint_call (a b : Int) : MCalls Try.prog 73 [.int .i64 a, .int .i64 b] St.none (fun r _ => r = .int .i64 (ordI (cmpL [a] [b]))) := by
  refine (MCalls.body 20 [.tmp 4] Try.func73 rfl rfl rfl rfl ?_)
  repeat' (first | (with_reducible refine use_pure (nanint_call _) ?_) | ((with_reducible refine wN fun nl hnl => ?_); revert hnl; (repeat with_reducible refine wS fun _ _ => ?_); intro hnl) | (with_reducible first | refine mdraw_plain mixed (by decide +kernel) ?_ | refine wI (fun h => ?_) (fun h => ?_) | refine wF (fun h => ?_) (fun h => ?_) | refine wG (fun h => ?_) (fun h => ?_) | refine wH (fun h => ?_) (fun h => ?_)) | (with_reducible refine mfork_bool (fun h => ?_) (fun h => ?_) <;> simp only [h]) | (with_reducible refine mgfork_bool (fun h => ?_) (fun h => ?_) <;> simp only [h]) | (simp (config := { maxSteps := 4000000 }) (disch := first | decide | assumption | omega | (simp only [wL]; omega)) only [go_sem, Nat.reduceAdd, Nat.reduceSub, Nat.reduceMul, Nat.reduceDiv, Nat.reduceMod, Nat.reduceLT, Nat.reduceLeDiff, Nat.reduceEqDiff, Nat.reduceSucc, Nat.reduceGT, Int.reduceAdd, Int.reduceSub, Int.reduceMul, Int.reduceNeg, Int.reduceLT, Int.reduceLE, Int.reduceEq, Int.reduceToNat, reduceIte, Try.f73]))
  all_goals simp [cmpL, ordI, *]

theorem cmpstr_call (a b : ByteArray) : MCalls Try.prog 100 [.str a, .str b] St.none (fun r _ => r = .int .i64 (ordI (cmpL (bk a) (bk b)))) := by
  refine (MCalls.body 20 [.tmp 4] Try.func100 rfl rfl rfl rfl ?_)
  have hb := bytesLess_cmp a.toList b.toList
  change _ = decide (cmpL (bk a) (bk b) = .lt) at hb
  repeat' (first | (with_reducible refine use_pure (nanstr_call _) ?_) | ((with_reducible refine wN fun nl hnl => ?_); revert hnl; (repeat with_reducible refine wS fun _ _ => ?_); intro hnl) | (with_reducible first | refine mdraw_plain mixed (by decide +kernel) ?_ | refine wI (fun h => ?_) (fun h => ?_) | refine wF (fun h => ?_) (fun h => ?_) | refine wG (fun h => ?_) (fun h => ?_) | refine wH (fun h => ?_) (fun h => ?_)) | (with_reducible refine mfork_bool (fun h => ?_) (fun h => ?_) <;> simp only [h]) | (with_reducible refine mgfork_bool (fun h => ?_) (fun h => ?_) <;> simp only [h]) | (simp (config := { maxSteps := 4000000 }) (disch := first | decide | assumption | omega | (simp only [wL]; omega)) only [go_sem, Nat.reduceAdd, Nat.reduceSub, Nat.reduceMul, Nat.reduceDiv, Nat.reduceMod, Nat.reduceLT, Nat.reduceLeDiff, Nat.reduceEqDiff, Nat.reduceSucc, Nat.reduceGT, Int.reduceAdd, Int.reduceSub, Int.reduceMul, Int.reduceNeg, Int.reduceLT, Int.reduceLE, Int.reduceEq, Int.reduceToNat, reduceIte, Try.f100]))
  · rw [hb] at h
    simp only [decide_eq_true_eq] at h
    rw [h]; rfl
  · rename_i h0
    rw [hb] at h0
    simp only [decide_eq_false_iff_not] at h0
    simp only [Bool.not_eq_true', Bool.or_eq_false_iff, decide_eq_false_iff_not] at h
    have h1 : cmpL (bk a) (bk b) ≠ .eq := fun e => h.2 (bytes_inj (cmpL_eq.1 e))
    cases e : cmpL (bk a) (bk b)
    · exact absurd e h0
    · exact absurd e h1
    · rfl
  · rename_i h0
    simp only [h0, Bool.false_or, Bool.not_eq_false', decide_eq_true_eq] at h
    rw [h, cmpL_refl]; rfl

theorem endS_in {l : List ND} {i : Int} (h : ¬ (i < 0 ∨ (l.length : Int) ≤ i)) : endS l i = match endN 1 (l.drop i.toNat) with
    | none => -1
    | some k => i + k := by
  unfold endS
  rw [if_neg (by omega)]
  cases endN 1 (l.drop i.toNat) <;> rfl

theorem pend_call (l : List ND) (hl : l.length ≤ 1000000) (t : Bool) (i : Int) : MCalls Try.prog 52 [.lst 5 (l.map ND.c) t, .int .i64 i] St.none (fun r _ => r = .int .i64 (endS l i)) := by
  refine (MCalls.body 38 [.tmp 4] Try.func52 rfl rfl rfl rfl ?_)
  by_cases hi : i < 0 ∨ (l.length : Int) ≤ i
  · have he : endS l i = -1 := by
      unfold endS
      by_cases h0 : i < 0
      · rw [if_pos h0]
      · rw [if_neg h0, List.drop_eq_nil_of_le (by omega)]; rfl
    rw [he]
    repeat' (first | ((with_reducible refine wN fun nl hnl => ?_); revert hnl; (repeat with_reducible refine wS fun _ _ => ?_); intro hnl) | (with_reducible first | refine mdraw_plain mixed (by decide +kernel) ?_ | refine wI (fun h => ?_) (fun h => ?_) | refine wF (fun h => ?_) (fun h => ?_) | refine wG (fun h => ?_) (fun h => ?_) | refine wH (fun h => ?_) (fun h => ?_)) | (with_reducible refine mfork_bool (fun h => ?_) (fun h => ?_) <;> simp only [h]) | (with_reducible refine mgfork_bool (fun h => ?_) (fun h => ?_) <;> simp only [h]) | (simp (config := { maxSteps := 4000000 }) (disch := first | decide | assumption | omega | (simp only [wL]; omega)) only [go_sem, Nat.reduceAdd, Nat.reduceSub, Nat.reduceMul, Nat.reduceDiv, Nat.reduceMod, Nat.reduceLT, Nat.reduceLeDiff, Nat.reduceEqDiff, Nat.reduceSucc, Nat.reduceGT, Int.reduceAdd, Int.reduceSub, Int.reduceMul, Int.reduceNeg, Int.reduceLT, Int.reduceLE, Int.reduceEq, Int.reduceToNat, reduceIte, Try.f52]))
  · obtain ⟨m, hm⟩ : ∃ m, l.drop i.toNat = m := ⟨_, rfl⟩
    have hml : l.length - i.toNat = m.length := by rw [← hm]; simp
    have hm0 : m.length ≤ 1000000 := by omega
    have hb : i + m.length ≤ 1000000 := by omega
    have h0 : 0 ≤ i := by omega
    rw [endS_in hi, hm]
    repeat' (first | ((with_reducible refine wN fun nl hnl => ?_); revert hnl; (repeat with_reducible refine wS fun _ _ => ?_); intro hnl) | (with_reducible first | refine mdraw_plain mixed (by decide +kernel) ?_ | refine wI (fun h => ?_) (fun h => ?_) | refine wF (fun h => ?_) (fun h => ?_) | refine wG (fun h => ?_) (fun h => ?_) | refine wH (fun h => ?_) (fun h => ?_)) | (with_reducible refine mfork_bool (fun h => ?_) (fun h => ?_) <;> simp only [h]) | (with_reducible refine mgfork_bool (fun h => ?_) (fun h => ?_) <;> simp only [h]) | (simp (config := { maxSteps := 4000000 }) (disch := first | decide | assumption | omega | (simp only [wL]; omega)) only [go_sem, Nat.reduceAdd, Nat.reduceSub, Nat.reduceMul, Nat.reduceDiv, Nat.reduceMod, Nat.reduceLT, Nat.reduceLeDiff, Nat.reduceEqDiff, Nat.reduceSucc, Nat.reduceGT, Int.reduceAdd, Int.reduceSub, Int.reduceMul, Int.reduceNeg, Int.reduceLT, Int.reduceLE, Int.reduceEq, Int.reduceToNat, reduceIte, Try.f52, hm, hml]))
    refine mloop_intro (α := Nat × Nat) (fun a => ⟨38, [(20, .int .i64 (a.1 : Int)), (19, .int .i64 (m.length : Int)), (18, .lst 5 (m.map ND.c) t), (5, .int .i64 (a.2 : Int)), (1, .int .i64 i)], []⟩) (fun _ => St.none)
      (fun a => a.1 ≤ m.length ∧ 1 ≤ a.2 ∧ a.2 ≤ 1 + a.1 ∧ endN 1 m = (endN a.2 (m.drop a.1)).map (· + a.1)) (fun a => m.length - a.1) (.of (.less ?_ (St.le_refl _)) ⟨(0, 1), rfl, rfl, by simp⟩) ?_
    · simp (config := { maxSteps := 4000000 }) (disch := first | decide | assumption | omega | (simp only [wL]; omega)) only [go_sem, Nat.reduceAdd, Nat.reduceSub, Nat.reduceMul, Nat.reduceDiv, Nat.reduceMod, Nat.reduceLT, Nat.reduceLeDiff, Nat.reduceEqDiff, Nat.reduceSucc, Nat.reduceGT, Int.reduceAdd, Int.reduceSub, Int.reduceMul, Int.reduceNeg, Int.reduceLT, Int.reduceLE, Int.reduceEq, Int.reduceToNat, reduceIte, weak_int, weak_same]
      omega
    · rintro ⟨k, n⟩ ⟨h1, h2, h3, h4⟩
      simp only at h1 h2 h3 h4 ⊢
      obtain ⟨q, rfl⟩ : ∃ q, n = q + 1 := ⟨n - 1, by omega⟩
      by_cases hk : k < m.length
      · have hp := parts_cases (m.getD k nd0).op
        rw [endN_step hk] at h4
        obtain ⟨pp, hpp⟩ : ∃ pp : Nat, parts (m.getD k nd0).op = pp := ⟨_, rfl⟩
        rw [hpp] at h4 hp
        by_cases hz : q + pp = 0
        · rw [hz] at h4
          have hq : q = 0 := by omega
          have hpz : pp = 0 := by omega
          subst hq
          rw [hpz] at hpp
          repeat' (first | (with_reducible refine use_pure (parts_call _) ?_) | ((with_reducible refine wN fun nl hnl => ?_); revert hnl; (repeat with_reducible refine wS fun _ _ => ?_); intro hnl) | (with_reducible first | refine mdraw_plain mixed (by decide +kernel) ?_ | refine wI (fun h => ?_) (fun h => ?_) | refine wF (fun h => ?_) (fun h => ?_) | refine wG (fun h => ?_) (fun h => ?_) | refine wH (fun h => ?_) (fun h => ?_)) | (with_reducible refine mfork_bool (fun h => ?_) (fun h => ?_) <;> simp only [h]) | (with_reducible refine mgfork_bool (fun h => ?_) (fun h => ?_) <;> simp only [h]) | (simp (config := { maxSteps := 4000000 }) (disch := first | decide | assumption | omega | (simp only [wL]; omega)) only [go_sem, Nat.reduceAdd, Nat.reduceSub, Nat.reduceMul, Nat.reduceDiv, Nat.reduceMod, Nat.reduceLT, Nat.reduceLeDiff, Nat.reduceEqDiff, Nat.reduceSucc, Nat.reduceGT, Int.reduceAdd, Int.reduceSub, Int.reduceMul, Int.reduceNeg, Int.reduceLT, Int.reduceLE, Int.reduceEq, Int.reduceToNat, reduceIte, getD_mapd nd0, hpp]))
          rw [h4]
          simp only [endN, Option.map_some, MV.int.injEq, true_and]
          have e1 : ((0 + 1 + k : Nat) : Int) = (k : Int) + 1 := by omega
          rw [e1, Int.add_assoc]
        · repeat' (first | (with_reducible refine use_pure (parts_call _) ?_) | ((with_reducible refine wN fun nl hnl => ?_); revert hnl; (repeat with_reducible refine wS fun _ _ => ?_); intro hnl) | (with_reducible first | refine mdraw_plain mixed (by decide +kernel) ?_ | refine wI (fun h => ?_) (fun h => ?_) | refine wF (fun h => ?_) (fun h => ?_) | refine wG (fun h => ?_) (fun h => ?_) | refine wH (fun h => ?_) (fun h => ?_)) | (with_reducible refine mfork_bool (fun h => ?_) (fun h => ?_) <;> simp only [h]) | (with_reducible refine mgfork_bool (fun h => ?_) (fun h => ?_) <;> simp only [h]) | (simp (config := { maxSteps := 4000000 }) (disch := first | decide | assumption | omega | (simp only [wL]; omega)) only [go_sem, Nat.reduceAdd, Nat.reduceSub, Nat.reduceMul, Nat.reduceDiv, Nat.reduceMod, Nat.reduceLT, Nat.reduceLeDiff, Nat.reduceEqDiff, Nat.reduceSucc, Nat.reduceGT, Int.reduceAdd, Int.reduceSub, Int.reduceMul, Int.reduceNeg, Int.reduceLT, Int.reduceLE, Int.reduceEq, Int.reduceToNat, reduceIte, getD_mapd nd0, hpp]))
          refine .of (.less (l1 := [(20, .int .i64 ((k + 1 : Nat) : Int)), (19, .int .i64 (m.length : Int)), (18, .lst 5 (m.map ND.c) t), (5, .int .i64 ((q + pp : Nat) : Int)), (1, .int .i64 i)]) ?_ (St.none_le _)) ⟨(k + 1, q + pp), rfl, rfl, ⟨by simp only; omega, by simp only; omega, by simp only; omega, ?_⟩, by simp only; omega⟩
          · simp (config := { maxSteps := 4000000 }) (disch := first | decide | assumption | omega | (simp only [wL]; omega)) only [go_sem, Nat.reduceAdd, Nat.reduceSub, Nat.reduceMul, Nat.reduceDiv, Nat.reduceMod, Nat.reduceLT, Nat.reduceLeDiff, Nat.reduceEqDiff, Nat.reduceSucc, Nat.reduceGT, Int.reduceAdd, Int.reduceSub, Int.reduceMul, Int.reduceNeg, Int.reduceLT, Int.reduceLE, Int.reduceEq, Int.reduceToNat, reduceIte, weak_int, weak_same]
            omega
          · rw [h4]
            simp only [Option.map_map]
            congr 1
            funext k
            simp only [Function.comp]
            omega
      · rw [List.drop_eq_nil_of_le (by omega)] at h4
        rw [h4]
        repeat' (first | ((with_reducible refine wN fun nl hnl => ?_); revert hnl; (repeat with_reducible refine wS fun _ _ => ?_); intro hnl) | (with_reducible first | refine mdraw_plain mixed (by decide +kernel) ?_ | refine wI (fun h => ?_) (fun h => ?_) | refine wF (fun h => ?_) (fun h => ?_) | refine wG (fun h => ?_) (fun h => ?_) | refine wH (fun h => ?_) (fun h => ?_)) | (with_reducible refine mfork_bool (fun h => ?_) (fun h => ?_) <;> simp only [h]) | (with_reducible refine mgfork_bool (fun h => ?_) (fun h => ?_) <;> simp only [h]) | (simp (config := { maxSteps := 4000000 }) (disch := first | decide | assumption | omega | (simp only [wL]; omega)) only [go_sem, Nat.reduceAdd, Nat.reduceSub, Nat.reduceMul, Nat.reduceDiv, Nat.reduceMod, Nat.reduceLT, Nat.reduceLeDiff, Nat.reduceEqDiff, Nat.reduceSucc, Nat.reduceGT, Int.reduceAdd, Int.reduceSub, Int.reduceMul, Int.reduceNeg, Int.reduceLT, Int.reduceLE, Int.reduceEq, Int.reduceToNat, reduceIte, getD_mapd nd0]))
        rfl

theorem index_call (p : ND → Bool) (g : FuncId) (l : List ND) (hl : l.length ≤ 1000000) (t : Bool) (hg : ∀ x, x ∈ l → MCalls Try.prog g [.agg x.c] St.none (fun r _ => r = .bool (p x))) :
    MCalls Try.prog 75 [.lst 5 (l.map ND.c) t, .fn (.func g) [] []] St.none (fun r _ => r = .int .i64 (if l.any p then (l.findIdx p : Int) else -1)) := by
  refine (MCalls.body 19 [.tmp 4] Try.func75 rfl rfl rfl rfl ?_)
  repeat' (first | ((with_reducible refine wN fun nl hnl => ?_); revert hnl; (repeat with_reducible refine wS fun _ _ => ?_); intro hnl) | (with_reducible first | refine mdraw_plain mixed (by decide +kernel) ?_ | refine wI (fun h => ?_) (fun h => ?_) | refine wF (fun h => ?_) (fun h => ?_) | refine wG (fun h => ?_) (fun h => ?_) | refine wH (fun h => ?_) (fun h => ?_)) | (with_reducible refine mfork_bool (fun h => ?_) (fun h => ?_) <;> simp only [h]) | (with_reducible refine mgfork_bool (fun h => ?_) (fun h => ?_) <;> simp only [h]) | (simp (config := { maxSteps := 4000000 }) (disch := first | decide | assumption | omega | (simp only [wL]; omega)) only [go_sem, Nat.reduceAdd, Nat.reduceSub, Nat.reduceMul, Nat.reduceDiv, Nat.reduceMod, Nat.reduceLT, Nat.reduceLeDiff, Nat.reduceEqDiff, Nat.reduceSucc, Nat.reduceGT, Int.reduceAdd, Int.reduceSub, Int.reduceMul, Int.reduceNeg, Int.reduceLT, Int.reduceLE, Int.reduceEq, Int.reduceToNat, reduceIte, Try.f75]))
  refine mloop_intro (α := Nat) (fun k => ⟨19, [(8, .int .i64 (k : Int)), (7, .int .i64 (l.length : Int)), (6, .lst 5 (l.map ND.c) t), (0, .lst 5 (l.map ND.c) t), (1, .fn (.func g) [] [])], []⟩) (fun _ => St.none)
    (fun k => k ≤ l.length ∧ (l.take k).any p = false) (fun k => l.length - k) (.of (.less ?_ (St.le_refl _)) ⟨0, rfl, rfl, by simp⟩) ?_
  · simp (config := { maxSteps := 4000000 }) (disch := first | decide | assumption | omega | (simp only [wL]; omega)) only [go_sem, Nat.reduceAdd, Nat.reduceSub, Nat.reduceMul, Nat.reduceDiv, Nat.reduceMod, Nat.reduceLT, Nat.reduceLeDiff, Nat.reduceEqDiff, Nat.reduceSucc, Nat.reduceGT, Int.reduceAdd, Int.reduceSub, Int.reduceMul, Int.reduceNeg, Int.reduceLT, Int.reduceLE, Int.reduceEq, Int.reduceToNat, reduceIte, weak_int, weak_same]
    rfl
  · rintro k ⟨h1, h2⟩
    by_cases hk : k < l.length
    · have hgk := hg _ (getD_mem nd0 hk)
      cases hp : p (l.getD k nd0)
      · rw [hp] at hgk
        repeat' (first | (with_reducible refine use_pure hgk ?_) | ((with_reducible refine wN fun nl hnl => ?_); revert hnl; (repeat with_reducible refine wS fun _ _ => ?_); intro hnl) | (with_reducible first | refine mdraw_plain mixed (by decide +kernel) ?_ | refine wI (fun h => ?_) (fun h => ?_) | refine wF (fun h => ?_) (fun h => ?_) | refine wG (fun h => ?_) (fun h => ?_) | refine wH (fun h => ?_) (fun h => ?_)) | (with_reducible refine mfork_bool (fun h => ?_) (fun h => ?_) <;> simp only [h]) | (with_reducible refine mgfork_bool (fun h => ?_) (fun h => ?_) <;> simp only [h]) | (simp (config := { maxSteps := 4000000 }) (disch := first | decide | assumption | omega | (simp only [wL]; omega)) only [go_sem, Nat.reduceAdd, Nat.reduceSub, Nat.reduceMul, Nat.reduceDiv, Nat.reduceMod, Nat.reduceLT, Nat.reduceLeDiff, Nat.reduceEqDiff, Nat.reduceSucc, Nat.reduceGT, Int.reduceAdd, Int.reduceSub, Int.reduceMul, Int.reduceNeg, Int.reduceLT, Int.reduceLE, Int.reduceEq, Int.reduceToNat, reduceIte, getD_mapd nd0]))
        refine .of (.less (l1 := [(8, .int .i64 ((k + 1 : Nat) : Int)), (7, .int .i64 (l.length : Int)), (6, .lst 5 (l.map ND.c) t), (0, .lst 5 (l.map ND.c) t), (1, .fn (.func g) [] [])]) ?_ (St.le_refl _)) ⟨k + 1, rfl, rfl, ⟨by omega, ?_⟩, by omega⟩
        · simp (config := { maxSteps := 4000000 }) (disch := first | decide | assumption | omega | (simp only [wL]; omega)) only [go_sem, Nat.reduceAdd, Nat.reduceSub, Nat.reduceMul, Nat.reduceDiv, Nat.reduceMod, Nat.reduceLT, Nat.reduceLeDiff, Nat.reduceEqDiff, Nat.reduceSucc, Nat.reduceGT, Int.reduceAdd, Int.reduceSub, Int.reduceMul, Int.reduceNeg, Int.reduceLT, Int.reduceLE, Int.reduceEq, Int.reduceToNat, reduceIte, weak_int, weak_same]
          omega
        · rw [any_take_succ hk, h2, ← getD_of_lt nd0 hk, hp]; rfl
      · rw [hp] at hgk
        have hany : l.any p = true := List.any_eq_true.2 ⟨_, getD_mem nd0 hk, hp⟩
        have hf : l.findIdx p = k := by
          rw [List.findIdx_eq hk]
          refine ⟨by rw [← getD_of_lt nd0 hk]; exact hp, fun j hj => ?_⟩
          have := List.any_eq_false.1 h2 l[j] (by rw [List.mem_take_iff_getElem]; exact ⟨j, by omega, rfl⟩)
          simpa using this
        rw [hany, hf]
        repeat' (first | (with_reducible refine use_pure hgk ?_) | ((with_reducible refine wN fun nl hnl => ?_); revert hnl; (repeat with_reducible refine wS fun _ _ => ?_); intro hnl) | (with_reducible first | refine mdraw_plain mixed (by decide +kernel) ?_ | refine wI (fun h => ?_) (fun h => ?_) | refine wF (fun h => ?_) (fun h => ?_) | refine wG (fun h => ?_) (fun h => ?_) | refine wH (fun h => ?_) (fun h => ?_)) | (with_reducible refine mfork_bool (fun h => ?_) (fun h => ?_) <;> simp only [h]) | (with_reducible refine mgfork_bool (fun h => ?_) (fun h => ?_) <;> simp only [h]) | (simp (config := { maxSteps := 4000000 }) (disch := first | decide | assumption | omega | (simp only [wL]; omega)) only [go_sem, Nat.reduceAdd, Nat.reduceSub, Nat.reduceMul, Nat.reduceDiv, Nat.reduceMod, Nat.reduceLT, Nat.reduceLeDiff, Nat.reduceEqDiff, Nat.reduceSucc, Nat.reduceGT, Int.reduceAdd, Int.reduceSub, Int.reduceMul, Int.reduceNeg, Int.reduceLT, Int.reduceLE, Int.reduceEq, Int.reduceToNat, reduceIte, getD_mapd nd0]))
    · have : k = l.length := by omega
      subst this
      rw [List.take_length] at h2
      rw [h2]
      repeat' (first | ((with_reducible refine wN fun nl hnl => ?_); revert hnl; (repeat with_reducible refine wS fun _ _ => ?_); intro hnl) | (with_reducible first | refine mdraw_plain mixed (by decide +kernel) ?_ | refine wI (fun h => ?_) (fun h => ?_) | refine wF (fun h => ?_) (fun h => ?_) | refine wG (fun h => ?_) (fun h => ?_) | refine wH (fun h => ?_) (fun h => ?_)) | (with_reducible refine mfork_bool (fun h => ?_) (fun h => ?_) <;> simp only [h]) | (with_reducible refine mgfork_bool (fun h => ?_) (fun h => ?_) <;> simp only [h]) | (simp (config := { maxSteps := 4000000 }) (disch := first | decide | assumption | omega | (simp only [wL]; omega)) only [go_sem, Nat.reduceAdd, Nat.reduceSub, Nat.reduceMul, Nat.reduceDiv, Nat.reduceMod, Nat.reduceLT, Nat.reduceLeDiff, Nat.reduceEqDiff, Nat.reduceSucc, Nat.reduceGT, Int.reduceAdd, Int.reduceSub, Int.reduceMul, Int.reduceNeg, Int.reduceLT, Int.reduceLE, Int.reduceEq, Int.reduceToNat, reduceIte, getD_mapd nd0]))

theorem contains_call (p : ND → Bool) (g : FuncId) (l : List ND) (hl : l.length ≤ 1000000) (t : Bool) (hg : ∀ x, x ∈ l → MCalls Try.prog g [.agg x.c] St.none (fun r _ => r = .bool (p x))) :
    MCalls Try.prog 53 [.lst 5 (l.map ND.c) t, .fn (.func g) [] []] St.none (fun r _ => r = .bool (l.any p)) := by
  refine (MCalls.body 9 [.tmp 4] Try.func53 rfl rfl rfl rfl ?_)
  have hi := index_call p g l hl t hg
  cases hany : l.any p
  · rw [hany] at hi
    simp only [Bool.false_eq_true, if_false] at hi
    repeat' (first | (with_reducible refine use_pure hi ?_) | ((with_reducible refine wN fun nl hnl => ?_); revert hnl; (repeat with_reducible refine wS fun _ _ => ?_); intro hnl) | (with_reducible first | refine mdraw_plain mixed (by decide +kernel) ?_ | refine wI (fun h => ?_) (fun h => ?_) | refine wF (fun h => ?_) (fun h => ?_) | refine wG (fun h => ?_) (fun h => ?_) | refine wH (fun h => ?_) (fun h => ?_)) | (with_reducible refine mfork_bool (fun h => ?_) (fun h => ?_) <;> simp only [h]) | (with_reducible refine mgfork_bool (fun h => ?_) (fun h => ?_) <;> simp only [h]) | (simp (config := { maxSteps := 4000000 }) (disch := first | decide | assumption | omega | (simp only [wL]; omega)) only [go_sem, Nat.reduceAdd, Nat.reduceSub, Nat.reduceMul, Nat.reduceDiv, Nat.reduceMod, Nat.reduceLT, Nat.reduceLeDiff, Nat.reduceEqDiff, Nat.reduceSucc, Nat.reduceGT, Int.reduceAdd, Int.reduceSub, Int.reduceMul, Int.reduceNeg, Int.reduceLT, Int.reduceLE, Int.reduceEq, Int.reduceToNat, reduceIte, Try.f53]))
  · rw [hany] at hi
    simp only [if_true] at hi
    repeat' (first | (with_reducible refine use_pure hi ?_) | ((with_reducible refine wN fun nl hnl => ?_); revert hnl; (repeat with_reducible refine wS fun _ _ => ?_); intro hnl) | (with_reducible first | refine mdraw_plain mixed (by decide +kernel) ?_ | refine wI (fun h => ?_) (fun h => ?_) | refine wF (fun h => ?_) (fun h => ?_) | refine wG (fun h => ?_) (fun h => ?_) | refine wH (fun h => ?_) (fun h => ?_)) | (with_reducible refine mfork_bool (fun h => ?_) (fun h => ?_) <;> simp only [h]) | (with_reducible refine mgfork_bool (fun h => ?_) (fun h => ?_) <;> simp only [h]) | (simp (config := { maxSteps := 4000000 }) (disch := first | decide | assumption | omega | (simp only [wL]; omega)) only [go_sem, Nat.reduceAdd, Nat.reduceSub, Nat.reduceMul, Nat.reduceDiv, Nat.reduceMod, Nat.reduceLT, Nat.reduceLeDiff, Nat.reduceEqDiff, Nat.reduceSucc, Nat.reduceGT, Int.reduceAdd, Int.reduceSub, Int.reduceMul, Int.reduceNeg, Int.reduceLT, Int.reduceLE, Int.reduceEq, Int.reduceToNat, reduceIte, Try.f53]))
    simp

theorem or_call (a b c : Int) : MCalls Try.prog 72 [.lst 1 [[.int .i64 a], [.int .i64 b], [.int .i64 c]] false] St.none (fun r _ => r = .int .i64 (if a ≠ 0 then a else if b ≠ 0 then b else c)) := by
  refine (MCalls.body 18 [.tmp 2] Try.func72 rfl rfl rfl rfl ?_)
  repeat' (first | ((with_reducible refine wN fun nl hnl => ?_); revert hnl; (repeat with_reducible refine wS fun _ _ => ?_); intro hnl) | (with_reducible first | refine mdraw_plain mixed (by decide +kernel) ?_ | refine wI (fun h => ?_) (fun h => ?_) | refine wF (fun h => ?_) (fun h => ?_) | refine wG (fun h => ?_) (fun h => ?_) | refine wH (fun h => ?_) (fun h => ?_)) | (with_reducible refine mfork_bool (fun h => ?_) (fun h => ?_) <;> simp only [h]) | (with_reducible refine mgfork_bool (fun h => ?_) (fun h => ?_) <;> simp only [h]) | (simp (config := { maxSteps := 4000000 }) (disch := first | decide | assumption | omega | (simp only [wL]; omega)) only [go_sem, Nat.reduceAdd, Nat.reduceSub, Nat.reduceMul, Nat.reduceDiv, Nat.reduceMod, Nat.reduceLT, Nat.reduceLeDiff, Nat.reduceEqDiff, Nat.reduceSucc, Nat.reduceGT, Int.reduceAdd, Int.reduceSub, Int.reduceMul, Int.reduceNeg, Int.reduceLT, Int.reduceLE, Int.reduceEq, Int.reduceToNat, reduceIte, Try.f72]))
  refine mloop_intro (α := Nat) (fun k => ⟨18, [(8, .int .i64 (k : Int)), (7, .int .i64 3), (6, .lst 1 [[.int .i64 a], [.int .i64 b], [.int .i64 c]] false), (3, .int .i64 0)], []⟩) (fun _ => St.none)
    (fun k => k ≤ 3 ∧ (0 < k → a = 0) ∧ (1 < k → b = 0) ∧ (2 < k → c = 0)) (fun k => 3 - k) (.of (.less ?_ (St.le_refl _)) ⟨0, rfl, rfl, by omega⟩) ?_
  · simp (config := { maxSteps := 4000000 }) (disch := first | decide | assumption | omega | (simp only [wL]; omega)) only [go_sem, Nat.reduceAdd, Nat.reduceSub, Nat.reduceMul, Nat.reduceDiv, Nat.reduceMod, Nat.reduceLT, Nat.reduceLeDiff, Nat.reduceEqDiff, Nat.reduceSucc, Nat.reduceGT, Int.reduceAdd, Int.reduceSub, Int.reduceMul, Int.reduceNeg, Int.reduceLT, Int.reduceLE, Int.reduceEq, Int.reduceToNat, reduceIte, weak_int, weak_same]
    omega
  · rintro k ⟨h1, h2, h3, h4⟩
    have hk : k = 0 ∨ k = 1 ∨ k = 2 ∨ k = 3 := by omega
    rcases hk with rfl | rfl | rfl | rfl
    · by_cases ha : a = 0
      · subst ha
        repeat' (first | ((with_reducible refine wN fun nl hnl => ?_); revert hnl; (repeat with_reducible refine wS fun _ _ => ?_); intro hnl) | (with_reducible first | refine mdraw_plain mixed (by decide +kernel) ?_ | refine wI (fun h => ?_) (fun h => ?_) | refine wF (fun h => ?_) (fun h => ?_) | refine wG (fun h => ?_) (fun h => ?_) | refine wH (fun h => ?_) (fun h => ?_)) | (with_reducible refine mfork_bool (fun h => ?_) (fun h => ?_) <;> simp only [h]) | (with_reducible refine mgfork_bool (fun h => ?_) (fun h => ?_) <;> simp only [h]) | (simp (config := { maxSteps := 4000000 }) (disch := first | decide | assumption | omega | (simp only [wL]; omega)) only [go_sem, Nat.reduceAdd, Nat.reduceSub, Nat.reduceMul, Nat.reduceDiv, Nat.reduceMod, Nat.reduceLT, Nat.reduceLeDiff, Nat.reduceEqDiff, Nat.reduceSucc, Nat.reduceGT, Int.reduceAdd, Int.reduceSub, Int.reduceMul, Int.reduceNeg, Int.reduceLT, Int.reduceLE, Int.reduceEq, Int.reduceToNat, reduceIte]))
        refine .of (.less (l1 := [(8, .int .i64 ((1 : Nat) : Int)), (7, .int .i64 3), (6, .lst 1 [[.int .i64 0], [.int .i64 b], [.int .i64 c]] false), (3, .int .i64 0)]) ?_ (St.none_le _)) ⟨1, rfl, rfl, ⟨by omega, fun _ => trivial, fun h => by first | assumption | omega, fun h => by first | assumption | omega⟩, by omega⟩
        simp (config := { maxSteps := 4000000 }) (disch := first | decide | assumption | omega | (simp only [wL]; omega)) only [go_sem, Nat.reduceAdd, Nat.reduceSub, Nat.reduceMul, Nat.reduceDiv, Nat.reduceMod, Nat.reduceLT, Nat.reduceLeDiff, Nat.reduceEqDiff, Nat.reduceSucc, Nat.reduceGT, Int.reduceAdd, Int.reduceSub, Int.reduceMul, Int.reduceNeg, Int.reduceLT, Int.reduceLE, Int.reduceEq, Int.reduceToNat, reduceIte, weak_int, weak_same]
        all_goals omega
      · repeat' (first | ((with_reducible refine wN fun nl hnl => ?_); revert hnl; (repeat with_reducible refine wS fun _ _ => ?_); intro hnl) | (with_reducible first | refine mdraw_plain mixed (by decide +kernel) ?_ | refine wI (fun h => ?_) (fun h => ?_) | refine wF (fun h => ?_) (fun h => ?_) | refine wG (fun h => ?_) (fun h => ?_) | refine wH (fun h => ?_) (fun h => ?_)) | (with_reducible refine mfork_bool (fun h => ?_) (fun h => ?_) <;> simp only [h]) | (with_reducible refine mgfork_bool (fun h => ?_) (fun h => ?_) <;> simp only [h]) | (simp (config := { maxSteps := 4000000 }) (disch := first | decide | assumption | omega | (simp only [wL]; omega)) only [go_sem, Nat.reduceAdd, Nat.reduceSub, Nat.reduceMul, Nat.reduceDiv, Nat.reduceMod, Nat.reduceLT, Nat.reduceLeDiff, Nat.reduceEqDiff, Nat.reduceSucc, Nat.reduceGT, Int.reduceAdd, Int.reduceSub, Int.reduceMul, Int.reduceNeg, Int.reduceLT, Int.reduceLE, Int.reduceEq, Int.reduceToNat, reduceIte]))
        all_goals simp [ha]
    · have ha := h2 (by omega)
      by_cases hb : b = 0
      · repeat' (first | ((with_reducible refine wN fun nl hnl => ?_); revert hnl; (repeat with_reducible refine wS fun _ _ => ?_); intro hnl) | (with_reducible first | refine mdraw_plain mixed (by decide +kernel) ?_ | refine wI (fun h => ?_) (fun h => ?_) | refine wF (fun h => ?_) (fun h => ?_) | refine wG (fun h => ?_) (fun h => ?_) | refine wH (fun h => ?_) (fun h => ?_)) | (with_reducible refine mfork_bool (fun h => ?_) (fun h => ?_) <;> simp only [h]) | (with_reducible refine mgfork_bool (fun h => ?_) (fun h => ?_) <;> simp only [h]) | (simp (config := { maxSteps := 4000000 }) (disch := first | decide | assumption | omega | (simp only [wL]; omega)) only [go_sem, Nat.reduceAdd, Nat.reduceSub, Nat.reduceMul, Nat.reduceDiv, Nat.reduceMod, Nat.reduceLT, Nat.reduceLeDiff, Nat.reduceEqDiff, Nat.reduceSucc, Nat.reduceGT, Int.reduceAdd, Int.reduceSub, Int.reduceMul, Int.reduceNeg, Int.reduceLT, Int.reduceLE, Int.reduceEq, Int.reduceToNat, reduceIte]))
        refine .of (.less (l1 := [(8, .int .i64 ((2 : Nat) : Int)), (7, .int .i64 3), (6, .lst 1 [[.int .i64 a], [.int .i64 b], [.int .i64 c]] false), (3, .int .i64 0)]) ?_ (St.none_le _)) ⟨2, rfl, rfl, ⟨by omega, fun _ => by assumption, fun h => by first | assumption | omega, fun h => by first | assumption | omega⟩, by omega⟩
        simp (config := { maxSteps := 4000000 }) (disch := first | decide | assumption | omega | (simp only [wL]; omega)) only [go_sem, Nat.reduceAdd, Nat.reduceSub, Nat.reduceMul, Nat.reduceDiv, Nat.reduceMod, Nat.reduceLT, Nat.reduceLeDiff, Nat.reduceEqDiff, Nat.reduceSucc, Nat.reduceGT, Int.reduceAdd, Int.reduceSub, Int.reduceMul, Int.reduceNeg, Int.reduceLT, Int.reduceLE, Int.reduceEq, Int.reduceToNat, reduceIte, weak_int, weak_same]
        all_goals omega
      · repeat' (first | ((with_reducible refine wN fun nl hnl => ?_); revert hnl; (repeat with_reducible refine wS fun _ _ => ?_); intro hnl) | (with_reducible first | refine mdraw_plain mixed (by decide +kernel) ?_ | refine wI (fun h => ?_) (fun h => ?_) | refine wF (fun h => ?_) (fun h => ?_) | refine wG (fun h => ?_) (fun h => ?_) | refine wH (fun h => ?_) (fun h => ?_)) | (with_reducible refine mfork_bool (fun h => ?_) (fun h => ?_) <;> simp only [h]) | (with_reducible refine mgfork_bool (fun h => ?_) (fun h => ?_) <;> simp only [h]) | (simp (config := { maxSteps := 4000000 }) (disch := first | decide | assumption | omega | (simp only [wL]; omega)) only [go_sem, Nat.reduceAdd, Nat.reduceSub, Nat.reduceMul, Nat.reduceDiv, Nat.reduceMod, Nat.reduceLT, Nat.reduceLeDiff, Nat.reduceEqDiff, Nat.reduceSucc, Nat.reduceGT, Int.reduceAdd, Int.reduceSub, Int.reduceMul, Int.reduceNeg, Int.reduceLT, Int.reduceLE, Int.reduceEq, Int.reduceToNat, reduceIte]))
        all_goals simp [ha, hb]
    · have ha := h2 (by omega)
      have hb := h3 (by omega)
      by_cases hc : c = 0
      · repeat' (first | ((with_reducible refine wN fun nl hnl => ?_); revert hnl; (repeat with_reducible refine wS fun _ _ => ?_); intro hnl) | (with_reducible first | refine mdraw_plain mixed (by decide +kernel) ?_ | refine wI (fun h => ?_) (fun h => ?_) | refine wF (fun h => ?_) (fun h => ?_) | refine wG (fun h => ?_) (fun h => ?_) | refine wH (fun h => ?_) (fun h => ?_)) | (with_reducible refine mfork_bool (fun h => ?_) (fun h => ?_) <;> simp only [h]) | (with_reducible refine mgfork_bool (fun h => ?_) (fun h => ?_) <;> simp only [h]) | (simp (config := { maxSteps := 4000000 }) (disch := first | decide | assumption | omega | (simp only [wL]; omega)) only [go_sem, Nat.reduceAdd, Nat.reduceSub, Nat.reduceMul, Nat.reduceDiv, Nat.reduceMod, Nat.reduceLT, Nat.reduceLeDiff, Nat.reduceEqDiff, Nat.reduceSucc, Nat.reduceGT, Int.reduceAdd, Int.reduceSub, Int.reduceMul, Int.reduceNeg, Int.reduceLT, Int.reduceLE, Int.reduceEq, Int.reduceToNat, reduceIte]))
        refine .of (.less (l1 := [(8, .int .i64 ((3 : Nat) : Int)), (7, .int .i64 3), (6, .lst 1 [[.int .i64 a], [.int .i64 b], [.int .i64 c]] false), (3, .int .i64 0)]) ?_ (St.none_le _)) ⟨3, rfl, rfl, ⟨by omega, fun _ => by assumption, fun h => by first | assumption | omega, fun h => by first | assumption | omega⟩, by omega⟩
        simp (config := { maxSteps := 4000000 }) (disch := first | decide | assumption | omega | (simp only [wL]; omega)) only [go_sem, Nat.reduceAdd, Nat.reduceSub, Nat.reduceMul, Nat.reduceDiv, Nat.reduceMod, Nat.reduceLT, Nat.reduceLeDiff, Nat.reduceEqDiff, Nat.reduceSucc, Nat.reduceGT, Int.reduceAdd, Int.reduceSub, Int.reduceMul, Int.reduceNeg, Int.reduceLT, Int.reduceLE, Int.reduceEq, Int.reduceToNat, reduceIte, weak_int, weak_same]
        all_goals omega
      · repeat' (first | ((with_reducible refine wN fun nl hnl => ?_); revert hnl; (repeat with_reducible refine wS fun _ _ => ?_); intro hnl) | (with_reducible first | refine mdraw_plain mixed (by decide +kernel) ?_ | refine wI (fun h => ?_) (fun h => ?_) | refine wF (fun h => ?_) (fun h => ?_) | refine wG (fun h => ?_) (fun h => ?_) | refine wH (fun h => ?_) (fun h => ?_)) | (with_reducible refine mfork_bool (fun h => ?_) (fun h => ?_) <;> simp only [h]) | (with_reducible refine mgfork_bool (fun h => ?_) (fun h => ?_) <;> simp only [h]) | (simp (config := { maxSteps := 4000000 }) (disch := first | decide | assumption | omega | (simp only [wL]; omega)) only [go_sem, Nat.reduceAdd, Nat.reduceSub, Nat.reduceMul, Nat.reduceDiv, Nat.reduceMod, Nat.reduceLT, Nat.reduceLeDiff, Nat.reduceEqDiff, Nat.reduceSucc, Nat.reduceGT, Int.reduceAdd, Int.reduceSub, Int.reduceMul, Int.reduceNeg, Int.reduceLT, Int.reduceLE, Int.reduceEq, Int.reduceToNat, reduceIte]))
        all_goals simp [ha, hb]
    · repeat' (first | ((with_reducible refine wN fun nl hnl => ?_); revert hnl; (repeat with_reducible refine wS fun _ _ => ?_); intro hnl) | (with_reducible first | refine mdraw_plain mixed (by decide +kernel) ?_ | refine wI (fun h => ?_) (fun h => ?_) | refine wF (fun h => ?_) (fun h => ?_) | refine wG (fun h => ?_) (fun h => ?_) | refine wH (fun h => ?_) (fun h => ?_)) | (with_reducible refine mfork_bool (fun h => ?_) (fun h => ?_) <;> simp only [h]) | (with_reducible refine mgfork_bool (fun h => ?_) (fun h => ?_) <;> simp only [h]) | (simp (config := { maxSteps := 4000000 }) (disch := first | decide | assumption | omega | (simp only [wL]; omega)) only [go_sem, Nat.reduceAdd, Nat.reduceSub, Nat.reduceMul, Nat.reduceDiv, Nat.reduceMod, Nat.reduceLT, Nat.reduceLeDiff, Nat.reduceEqDiff, Nat.reduceSucc, Nat.reduceGT, Int.reduceAdd, Int.reduceSub, Int.reduceMul, Int.reduceNeg, Int.reduceLT, Int.reduceLE, Int.reduceEq, Int.reduceToNat, reduceIte]))
      simp [h2 (by omega), h3 (by omega), h4 (by omega)]

theorem cmpfn_call (g : FuncId) (a b : List ND) (la : a.length ≤ 1000000) (lb : b.length ≤ 1000000) (ta tb : Bool) (hg : ∀ x y, x ∈ a → y ∈ b → MCalls Try.prog g [.agg x.c, .agg y.c] St.none (fun r _ => r = .int .i64 (ordI (cmpL x.key y.key)))) :
    MCalls Try.prog 70 [.lst 5 (a.map ND.c) ta, .lst 5 (b.map ND.c) tb, .fn (.func g) [] []] St.none (fun r _ => r = .int .i64 (ordI (cmpF a b))) := by
  refine (MCalls.body 39 [.tmp 6] Try.func70 rfl rfl rfl rfl ?_)
  repeat' (first | ((with_reducible refine wN fun nl hnl => ?_); revert hnl; (repeat with_reducible refine wS fun _ _ => ?_); intro hnl) | (with_reducible first | refine mdraw_plain mixed (by decide +kernel) ?_ | refine wI (fun h => ?_) (fun h => ?_) | refine wF (fun h => ?_) (fun h => ?_) | refine wG (fun h => ?_) (fun h => ?_) | refine wH (fun h => ?_) (fun h => ?_)) | (with_reducible refine mfork_bool (fun h => ?_) (fun h => ?_) <;> simp only [h]) | (with_reducible refine mgfork_bool (fun h => ?_) (fun h => ?_) <;> simp only [h]) | (simp (config := { maxSteps := 4000000 }) (disch := first | decide | assumption | omega | (simp only [wL]; omega)) only [go_sem, Nat.reduceAdd, Nat.reduceSub, Nat.reduceMul, Nat.reduceDiv, Nat.reduceMod, Nat.reduceLT, Nat.reduceLeDiff, Nat.reduceEqDiff, Nat.reduceSucc, Nat.reduceGT, Int.reduceAdd, Int.reduceSub, Int.reduceMul, Int.reduceNeg, Int.reduceLT, Int.reduceLE, Int.reduceEq, Int.reduceToNat, reduceIte, Try.f70]))
  refine mloop_intro (α := Nat) (fun k => ⟨39, [(13, .int .i64 (k : Int)), (12, .int .i64 (a.length : Int)), (11, .lst 5 (a.map ND.c) ta), (0, .lst 5 (a.map ND.c) ta), (1, .lst 5 (b.map ND.c) tb), (2, .fn (.func g) [] [])], []⟩) (fun _ => St.none)
    (fun i => i ≤ a.length ∧ i ≤ b.length ∧ cmpF a b = cmpF (a.drop i) (b.drop i)) (fun k => a.length - k) (.of (.less ?_ (St.le_refl _)) ⟨0, rfl, rfl, by simp⟩) ?_
  · simp (config := { maxSteps := 4000000 }) (disch := first | decide | assumption | omega | (simp only [wL]; omega)) only [go_sem, Nat.reduceAdd, Nat.reduceSub, Nat.reduceMul, Nat.reduceDiv, Nat.reduceMod, Nat.reduceLT, Nat.reduceLeDiff, Nat.reduceEqDiff, Nat.reduceSucc, Nat.reduceGT, Int.reduceAdd, Int.reduceSub, Int.reduceMul, Int.reduceNeg, Int.reduceLT, Int.reduceLE, Int.reduceEq, Int.reduceToNat, reduceIte, weak_int, weak_same]
    rfl
  · rintro i ⟨h3, h4, h5⟩
    by_cases hi1 : i < a.length
    · by_cases hi2 : i < b.length
      · rw [drop_getD nd0 hi1, drop_getD nd0 hi2, cmpF_cons] at h5
        have hord := hg _ _ (getD_mem nd0 hi1) (getD_mem nd0 hi2)
        generalize ho : cmpL (a.getD i nd0).key (b.getD i nd0).key = o at h5 hord
        by_cases hoe : o = .eq
        · have h0 : ordI o = 0 := by rw [hoe]; rfl
          rw [h0] at hord
          rw [if_pos hoe] at h5
          repeat' (first | (with_reducible refine use_pure hord ?_) | ((with_reducible refine wN fun nl hnl => ?_); revert hnl; (repeat with_reducible refine wS fun _ _ => ?_); intro hnl) | (with_reducible first | refine mdraw_plain mixed (by decide +kernel) ?_ | refine wI (fun h => ?_) (fun h => ?_) | refine wF (fun h => ?_) (fun h => ?_) | refine wG (fun h => ?_) (fun h => ?_) | refine wH (fun h => ?_) (fun h => ?_)) | (with_reducible refine mfork_bool (fun h => ?_) (fun h => ?_) <;> simp only [h]) | (with_reducible refine mgfork_bool (fun h => ?_) (fun h => ?_) <;> simp only [h]) | (simp (config := { maxSteps := 4000000 }) (disch := first | decide | assumption | omega | (simp only [wL]; omega)) only [go_sem, Nat.reduceAdd, Nat.reduceSub, Nat.reduceMul, Nat.reduceDiv, Nat.reduceMod, Nat.reduceLT, Nat.reduceLeDiff, Nat.reduceEqDiff, Nat.reduceSucc, Nat.reduceGT, Int.reduceAdd, Int.reduceSub, Int.reduceMul, Int.reduceNeg, Int.reduceLT, Int.reduceLE, Int.reduceEq, Int.reduceToNat, reduceIte, getD_mapd nd0]))
          refine .of (.less (l1 := [(13, .int .i64 ((i + 1 : Nat) : Int)), (12, .int .i64 (a.length : Int)), (11, .lst 5 (a.map ND.c) ta), (0, .lst 5 (a.map ND.c) ta), (1, .lst 5 (b.map ND.c) tb), (2, .fn (.func g) [] [])]) ?_ (St.none_le _)) ⟨i + 1, rfl, rfl, ⟨by omega, by omega, h5⟩, by omega⟩
          simp (config := { maxSteps := 4000000 }) (disch := first | decide | assumption | omega | (simp only [wL]; omega)) only [go_sem, Nat.reduceAdd, Nat.reduceSub, Nat.reduceMul, Nat.reduceDiv, Nat.reduceMod, Nat.reduceLT, Nat.reduceLeDiff, Nat.reduceEqDiff, Nat.reduceSucc, Nat.reduceGT, Int.reduceAdd, Int.reduceSub, Int.reduceMul, Int.reduceNeg, Int.reduceLT, Int.reduceLE, Int.reduceEq, Int.reduceToNat, reduceIte, weak_int, weak_same]
          omega
        · have h0 : ordI o ≠ 0 := fun h => hoe (ordI_zero.1 h)
          rw [if_neg hoe] at h5
          rw [h5]
          repeat' (first | (with_reducible refine use_pure hord ?_) | ((with_reducible refine wN fun nl hnl => ?_); revert hnl; (repeat with_reducible refine wS fun _ _ => ?_); intro hnl) | (with_reducible first | refine mdraw_plain mixed (by decide +kernel) ?_ | refine wI (fun h => ?_) (fun h => ?_) | refine wF (fun h => ?_) (fun h => ?_) | refine wG (fun h => ?_) (fun h => ?_) | refine wH (fun h => ?_) (fun h => ?_)) | (with_reducible refine mfork_bool (fun h => ?_) (fun h => ?_) <;> simp only [h]) | (with_reducible refine mgfork_bool (fun h => ?_) (fun h => ?_) <;> simp only [h]) | (simp (config := { maxSteps := 4000000 }) (disch := first | decide | assumption | omega | (simp only [wL]; omega)) only [go_sem, Nat.reduceAdd, Nat.reduceSub, Nat.reduceMul, Nat.reduceDiv, Nat.reduceMod, Nat.reduceLT, Nat.reduceLeDiff, Nat.reduceEqDiff, Nat.reduceSucc, Nat.reduceGT, Int.reduceAdd, Int.reduceSub, Int.reduceMul, Int.reduceNeg, Int.reduceLT, Int.reduceLE, Int.reduceEq, Int.reduceToNat, reduceIte, getD_mapd nd0]))
      · rw [drop_getD nd0 hi1, List.drop_eq_nil_of_le (show b.length ≤ i by omega)] at h5
        rw [h5]
        repeat' (first | ((with_reducible refine wN fun nl hnl => ?_); revert hnl; (repeat with_reducible refine wS fun _ _ => ?_); intro hnl) | (with_reducible first | refine mdraw_plain mixed (by decide +kernel) ?_ | refine wI (fun h => ?_) (fun h => ?_) | refine wF (fun h => ?_) (fun h => ?_) | refine wG (fun h => ?_) (fun h => ?_) | refine wH (fun h => ?_) (fun h => ?_)) | (with_reducible refine mfork_bool (fun h => ?_) (fun h => ?_) <;> simp only [h]) | (with_reducible refine mgfork_bool (fun h => ?_) (fun h => ?_) <;> simp only [h]) | (simp (config := { maxSteps := 4000000 }) (disch := first | decide | assumption | omega | (simp only [wL]; omega)) only [go_sem, Nat.reduceAdd, Nat.reduceSub, Nat.reduceMul, Nat.reduceDiv, Nat.reduceMod, Nat.reduceLT, Nat.reduceLeDiff, Nat.reduceEqDiff, Nat.reduceSucc, Nat.reduceGT, Int.reduceAdd, Int.reduceSub, Int.reduceMul, Int.reduceNeg, Int.reduceLT, Int.reduceLE, Int.reduceEq, Int.reduceToNat, reduceIte, getD_mapd nd0]))
        rfl
    · rw [List.drop_eq_nil_of_le (show a.length ≤ i by omega)] at h5
      by_cases h8 : i < b.length
      · rw [drop_getD nd0 h8] at h5
        rw [h5]
        repeat' (first | ((with_reducible refine wN fun nl hnl => ?_); revert hnl; (repeat with_reducible refine wS fun _ _ => ?_); intro hnl) | (with_reducible first | refine mdraw_plain mixed (by decide +kernel) ?_ | refine wI (fun h => ?_) (fun h => ?_) | refine wF (fun h => ?_) (fun h => ?_) | refine wG (fun h => ?_) (fun h => ?_) | refine wH (fun h => ?_) (fun h => ?_)) | (with_reducible refine mfork_bool (fun h => ?_) (fun h => ?_) <;> simp only [h]) | (with_reducible refine mgfork_bool (fun h => ?_) (fun h => ?_) <;> simp only [h]) | (simp (config := { maxSteps := 4000000 }) (disch := first | decide | assumption | omega | (simp only [wL]; omega)) only [go_sem, Nat.reduceAdd, Nat.reduceSub, Nat.reduceMul, Nat.reduceDiv, Nat.reduceMod, Nat.reduceLT, Nat.reduceLeDiff, Nat.reduceEqDiff, Nat.reduceSucc, Nat.reduceGT, Int.reduceAdd, Int.reduceSub, Int.reduceMul, Int.reduceNeg, Int.reduceLT, Int.reduceLE, Int.reduceEq, Int.reduceToNat, reduceIte, getD_mapd nd0]))
        rfl
      · rw [List.drop_eq_nil_of_le (show b.length ≤ i by omega)] at h5
        rw [h5]
        repeat' (first | ((with_reducible refine wN fun nl hnl => ?_); revert hnl; (repeat with_reducible refine wS fun _ _ => ?_); intro hnl) | (with_reducible first | refine mdraw_plain mixed (by decide +kernel) ?_ | refine wI (fun h => ?_) (fun h => ?_) | refine wF (fun h => ?_) (fun h => ?_) | refine wG (fun h => ?_) (fun h => ?_) | refine wH (fun h => ?_) (fun h => ?_)) | (with_reducible refine mfork_bool (fun h => ?_) (fun h => ?_) <;> simp only [h]) | (with_reducible refine mgfork_bool (fun h => ?_) (fun h => ?_) <;> simp only [h]) | (simp (config := { maxSteps := 4000000 }) (disch := first | decide | assumption | omega | (simp only [wL]; omega)) only [go_sem, Nat.reduceAdd, Nat.reduceSub, Nat.reduceMul, Nat.reduceDiv, Nat.reduceMod, Nat.reduceLT, Nat.reduceLeDiff, Nat.reduceEqDiff, Nat.reduceSucc, Nat.reduceGT, Int.reduceAdd, Int.reduceSub, Int.reduceMul, Int.reduceNeg, Int.reduceLT, Int.reduceLE, Int.reduceEq, Int.reduceToNat, reduceIte, getD_mapd nd0]))
        rfl

theorem vcompare_call (a b : VA) : MCalls Try.prog 74 [.agg a.c, .agg b.c] St.none (fun r _ => r = .int .i64 (ordI (cmpL a.key b.key))) := by
  refine (MCalls.body 28 [.tmp 4] Try.func74 rfl rfl rfl rfl ?_)
  by_cases h1 : a.kd = b.kd
  · have e1 : cmpL a.key b.key = cmpL (a.n :: bk a.s) (b.n :: bk b.s) := by rw [VA.key, VA.key, h1, cmpL_same]; rfl
    have c1 : ordI (cmpL [a.kd] [b.kd]) = 0 := by rw [h1, cmpL_refl]; rfl
    by_cases h2 : a.n = b.n
    · have e2 : cmpL a.key b.key = cmpL (bk a.s) (bk b.s) := by rw [e1, h2, cmpL_same]
      have c2 : ordI (cmpL [a.n] [b.n]) = 0 := by rw [h2, cmpL_refl]; rfl
      rw [e2]
      repeat' (first | (with_reducible refine use_pure (cmpint_call _ _) ?_) | (with_reducible refine use_pure (cmpstr_call _ _) ?_) | ((with_reducible refine wN fun nl hnl => ?_); revert hnl; (repeat with_reducible refine wS fun _ _ => ?_); intro hnl) | (with_reducible first | refine mdraw_plain mixed (by decide +kernel) ?_ | refine wI (fun h => ?_) (fun h => ?_) | refine wF (fun h => ?_) (fun h => ?_) | refine wG (fun h => ?_) (fun h => ?_) | refine wH (fun h => ?_) (fun h => ?_)) | (with_reducible refine mfork_bool (fun h => ?_) (fun h => ?_) <;> simp only [h]) | (with_reducible refine mgfork_bool (fun h => ?_) (fun h => ?_) <;> simp only [h]) | (simp (config := { maxSteps := 4000000 }) (disch := first | decide | assumption | omega | (simp only [wL]; omega)) only [go_sem, Nat.reduceAdd, Nat.reduceSub, Nat.reduceMul, Nat.reduceDiv, Nat.reduceMod, Nat.reduceLT, Nat.reduceLeDiff, Nat.reduceEqDiff, Nat.reduceSucc, Nat.reduceGT, Int.reduceAdd, Int.reduceSub, Int.reduceMul, Int.reduceNeg, Int.reduceLT, Int.reduceLE, Int.reduceEq, Int.reduceToNat, reduceIte, Try.f74, c1, c2]))
    · have e2 : cmpL a.key b.key = cmpL [a.n] [b.n] := by rw [e1, cmpL_ne h2]
      have c2 : ordI (cmpL [a.n] [b.n]) ≠ 0 := fun h => h2 (by have := cmpL_eq.1 (ordI_zero.1 h); simpa using this)
      rw [e2]
      repeat' (first | (with_reducible refine use_pure (cmpint_call _ _) ?_) | (with_reducible refine use_pure (cmpstr_call _ _) ?_) | ((with_reducible refine wN fun nl hnl => ?_); revert hnl; (repeat with_reducible refine wS fun _ _ => ?_); intro hnl) | (with_reducible first | refine mdraw_plain mixed (by decide +kernel) ?_ | refine wI (fun h => ?_) (fun h => ?_) | refine wF (fun h => ?_) (fun h => ?_) | refine wG (fun h => ?_) (fun h => ?_) | refine wH (fun h => ?_) (fun h => ?_)) | (with_reducible refine mfork_bool (fun h => ?_) (fun h => ?_) <;> simp only [h]) | (with_reducible refine mgfork_bool (fun h => ?_) (fun h => ?_) <;> simp only [h]) | (simp (config := { maxSteps := 4000000 }) (disch := first | decide | assumption | omega | (simp only [wL]; omega)) only [go_sem, Nat.reduceAdd, Nat.reduceSub, Nat.reduceMul, Nat.reduceDiv, Nat.reduceMod, Nat.reduceLT, Nat.reduceLeDiff, Nat.reduceEqDiff, Nat.reduceSucc, Nat.reduceGT, Int.reduceAdd, Int.reduceSub, Int.reduceMul, Int.reduceNeg, Int.reduceLT, Int.reduceLE, Int.reduceEq, Int.reduceToNat, reduceIte, Try.f74, c1]))
  · have e1 : cmpL a.key b.key = cmpL [a.kd] [b.kd] := by rw [VA.key, VA.key, cmpL_ne h1]
    have c1 : ordI (cmpL [a.kd] [b.kd]) ≠ 0 := fun h => h1 (by have := cmpL_eq.1 (ordI_zero.1 h); simpa using this)
    rw [e1]
    repeat' (first | (with_reducible refine use_pure (cmpint_call _ _) ?_) | (with_reducible refine use_pure (cmpstr_call _ _) ?_) | ((with_reducible refine wN fun nl hnl => ?_); revert hnl; (repeat with_reducible refine wS fun _ _ => ?_); intro hnl) | (with_reducible first | refine mdraw_plain mixed (by decide +kernel) ?_ | refine wI (fun h => ?_) (fun h => ?_) | refine wF (fun h => ?_) (fun h => ?_) | refine wG (fun h => ?_) (fun h => ?_) | refine wH (fun h => ?_) (fun h => ?_)) | (with_reducible refine mfork_bool (fun h => ?_) (fun h => ?_) <;> simp only [h]) | (with_reducible refine mgfork_bool (fun h => ?_) (fun h => ?_) <;> simp only [h]) | (simp (config := { maxSteps := 4000000 }) (disch := first | decide | assumption | omega | (simp only [wL]; omega)) only [go_sem, Nat.reduceAdd, Nat.reduceSub, Nat.reduceMul, Nat.reduceDiv, Nat.reduceMod, Nat.reduceLT, Nat.reduceLeDiff, Nat.reduceEqDiff, Nat.reduceSucc, Nat.reduceGT, Int.reduceAdd, Int.reduceSub, Int.reduceMul, Int.reduceNeg, Int.reduceLT, Int.reduceLE, Int.reduceEq, Int.reduceToNat, reduceIte, Try.f74]))
end Go.Proofs.Ytielcgplbnlgbaa
end

section
/- Contracts of the program's own functions for filters: the conditions that each theorem names. -/
set_option linter.unusedVariables false
set_option linter.unusedSimpArgs false
namespace Go.Proofs.Ytielcgplbnlgbaa

def cmpIntV : List MV → MV
  | [.int _ a, .int _ b] => .int .i64 (ordI (cmpL [a] [b]))
  | _ => .junk

theorem or_at (l : Nat) (a b c : Int) : MCalls Try.prog 72 [.vec 1 l 0 3] (St.ofList [l] [.row 3 1 [[.int .i64 a], [.int .i64 b], [.int .i64 c]]]) (fun r σ' => r = .int .i64 (if a ≠ 0 then a else if b ≠ 0 then b else c) ∧ σ' = St.ofList [l] [.row 3 1 [[.int .i64 a], [.int .i64 b], [.int .i64 c]]]) :=
  MCalls.lend (or_call a b c) (fun r hr => by rw [hr]; exact .int _ _) rfl (fun i m m' h1 h2 => by
    match i, h1, h2 with
    | 0, h1, h2 =>
      simp only [List.getElem?_cons_zero, Option.some.injEq] at h1 h2
      subst h1 h2
      exact .vecAll (set_hit _ _ _) rfl)

theorem key_or (x y : ND) : (if ordI (cmpL [x.op] [y.op]) ≠ 0 then ordI (cmpL [x.op] [y.op]) else if ordI (cmpL [x.n] [y.n]) ≠ 0 then ordI (cmpL [x.n] [y.n]) else ordI (cmpL x.v.key y.v.key)) = ordI (cmpL x.key y.key) := by
  have z : ∀ a b : Int, ordI (cmpL [a] [b]) = 0 ↔ a = b := fun a b => by rw [ordI_zero, cmpL_eq]; simp
  by_cases h1 : x.op = y.op
  · rw [if_neg (by simp [(z _ _).2 h1])]
    have e1 : cmpL x.key y.key = cmpL (x.n :: x.v.key) (y.n :: y.v.key) := by rw [ND.key, ND.key, h1, cmpL_same]
    by_cases h2 : x.n = y.n
    · rw [if_neg (by simp [(z _ _).2 h2]), e1, h2, cmpL_same]
    · rw [if_pos (by rw [ne_eq, z]; exact h2), e1, cmpL_ne (x := x.v.key) (y := y.v.key) h2]
  · rw [if_pos (by rw [ne_eq, z]; exact h1), ND.key, ND.key, cmpL_ne (x := x.n :: x.v.key) (y := y.n :: y.v.key) h1]

def orC (x y : ND) : Know := fun g ms => if g = 73 then some ⟨[], fun v => v = cmpIntV ms, none⟩ else if g = 74 then some ⟨[], fun v => v = .int .i64 (ordI (cmpL x.v.key y.v.key)), none⟩ else if g = 72 then (match ms with
    | [.vec _ l _ _] => some ⟨[l], fun v => v = .int .i64 (ordI (cmpL x.key y.key)), none⟩
    | _ => none) else none

theorem pcmp1_call (x y : ND) : MCalls Try.prog 71 [.agg x.c, .agg y.c] St.none (fun r _ => r = .int .i64 (ordI (cmpL x.key y.key))) := by
  refine (MCalls.body 22 [.tmp 4] Try.func71 rfl rfl rfl rfl ?_)
  have hv := vcompare_call x.v y.v
  have ho := fun l => or_at l (ordI (cmpL [x.op] [y.op])) (ordI (cmpL [x.n] [y.n])) (ordI (cmpL x.v.key y.v.key))
  simp only [key_or] at ho
  repeat' (first | (with_reducible refine mdraw_know mixed (by decide +kernel) (orC x y) ?_) | (with_reducible refine know_pure rfl (cmpint_call _ _) ?_) | (with_reducible refine know_pure rfl hv ?_) | ((with_reducible refine wN fun nl hnl => ?_); revert hnl; (repeat with_reducible refine wS fun _ _ => ?_); intro hnl) | (with_reducible first | refine mdraw_plain mixed (by decide +kernel) ?_ | refine wI (fun h => ?_) (fun h => ?_) | refine wF (fun h => ?_) (fun h => ?_) | refine wG (fun h => ?_) (fun h => ?_) | refine wH (fun h => ?_) (fun h => ?_)) | (with_reducible refine mfork_bool (fun h => ?_) (fun h => ?_) <;> simp only [h]) | (with_reducible refine mgfork_bool (fun h => ?_) (fun h => ?_) <;> simp only [h]) | (simp (config := { maxSteps := 4000000 }) (disch := first | decide | assumption | omega | (simp only [wL]; omega)) only [go_sem, Nat.reduceAdd, Nat.reduceSub, Nat.reduceMul, Nat.reduceDiv, Nat.reduceMod, Nat.reduceLT, Nat.reduceLeDiff, Nat.reduceEqDiff, Nat.reduceSucc, Nat.reduceGT, Int.reduceAdd, Int.reduceSub, Int.reduceMul, Int.reduceNeg, Int.reduceLT, Int.reduceLE, Int.reduceEq, Int.reduceToNat, reduceIte, Try.f71]))
  refine know_at [nl] [.row 3 1 [[.int .i64 (ordI (cmpL [x.op] [y.op]))], [.int .i64 (ordI (cmpL [x.n] [y.n]))], [.int .i64 (ordI (cmpL x.v.key y.v.key))]]] rfl ?_ (ho nl) ⟨_, rfl⟩ (fun v hv => ?_)
  · simp (config := { maxSteps := 4000000 }) (disch := first | decide | assumption | omega | (simp only [wL]; omega)) only [go_sem, Nat.reduceAdd, Nat.reduceSub, Nat.reduceMul, Nat.reduceDiv, Nat.reduceMod, Nat.reduceLT, Nat.reduceLeDiff, Nat.reduceEqDiff, Nat.reduceSucc, Nat.reduceGT, Int.reduceAdd, Int.reduceSub, Int.reduceMul, Int.reduceNeg, Int.reduceLT, Int.reduceLE, Int.reduceEq, Int.reduceToNat, reduceIte]
  subst hv
  repeat' (first | ((with_reducible refine wN fun nl hnl => ?_); revert hnl; (repeat with_reducible refine wS fun _ _ => ?_); intro hnl) | (with_reducible first | refine mdraw_plain mixed (by decide +kernel) ?_ | refine wI (fun h => ?_) (fun h => ?_) | refine wF (fun h => ?_) (fun h => ?_) | refine wG (fun h => ?_) (fun h => ?_) | refine wH (fun h => ?_) (fun h => ?_)) | (with_reducible refine mfork_bool (fun h => ?_) (fun h => ?_) <;> simp only [h]) | (with_reducible refine mgfork_bool (fun h => ?_) (fun h => ?_) <;> simp only [h]) | (simp (config := { maxSteps := 4000000 }) (disch := first | decide | assumption | omega | (simp only [wL]; omega)) only [go_sem, Nat.reduceAdd, Nat.reduceSub, Nat.reduceMul, Nat.reduceDiv, Nat.reduceMod, Nat.reduceLT, Nat.reduceLeDiff, Nat.reduceEqDiff, Nat.reduceSucc, Nat.reduceGT, Int.reduceAdd, Int.reduceSub, Int.reduceMul, Int.reduceNeg, Int.reduceLT, Int.reduceLE, Int.reduceEq, Int.reduceToNat, reduceIte]))

theorem vaOk_kd {v : VA} (h : vaOk v = true) : v.kd = 0 ∨ v.kd = 1 ∨ v.kd = 2 := by
  unfold vaOk at h
  split at h
  · exact .inl ‹_›
  · split at h
    · exact .inr (.inl ‹_›)
    · split at h
      · exact .inr (.inr ‹_›)
      · cases h

set_option maxHeartbeats 4000000 in
theorem pnode_call (x : ND) : MCalls Try.prog 55 [.agg x.c] St.none (fun r _ => r = .bool (ndOk x)) := by
  refine (MCalls.body 49 [.tmp 2] Try.func55 rfl rfl rfl rfl ?_)
  obtain ⟨op, n, kd, vn, s⟩ := x
  have hvc := vcheck_call kd vn s
  cases hv : vaOk ⟨kd, vn, s⟩
  · rw [hv] at hvc
    have h0 : (⟨kd, vn, s⟩ : VA) ≠ va0 := fun e => by rw [e] at hv; simp [vaOk, va0] at hv
    have hn : ndOk ⟨op, n, kd, vn, s⟩ = false := by simp [ndOk, h0, hv]
    rw [hn]
    repeat' (first | (with_reducible refine use_pure hvc ?_) | ((with_reducible refine wN fun nl hnl => ?_); revert hnl; (repeat with_reducible refine wS fun _ _ => ?_); intro hnl) | (with_reducible first | refine mdraw_plain mixed (by decide +kernel) ?_ | refine wI (fun h => ?_) (fun h => ?_) | refine wF (fun h => ?_) (fun h => ?_) | refine wG (fun h => ?_) (fun h => ?_) | refine wH (fun h => ?_) (fun h => ?_)) | (with_reducible refine mfork_bool (fun h => ?_) (fun h => ?_) <;> simp only [h]) | (with_reducible refine mgfork_bool (fun h => ?_) (fun h => ?_) <;> simp only [h]) | (simp (config := { maxSteps := 4000000 }) (disch := first | decide | assumption | omega | (simp only [wL]; omega)) only [go_sem, Nat.reduceAdd, Nat.reduceSub, Nat.reduceMul, Nat.reduceDiv, Nat.reduceMod, Nat.reduceLT, Nat.reduceLeDiff, Nat.reduceEqDiff, Nat.reduceSucc, Nat.reduceGT, Int.reduceAdd, Int.reduceSub, Int.reduceMul, Int.reduceNeg, Int.reduceLT, Int.reduceLE, Int.reduceEq, Int.reduceToNat, reduceIte, Try.f55]))
  · rw [hv] at hvc
    rcases vaOk_kd hv with h | h | h
    · simp only at h
      subst h
      have hz : (⟨0, vn, s⟩ : VA) = va0 := by simpa [vaOk] using hv
      simp only [va0, VA.mk.injEq, true_and] at hz
      obtain ⟨rfl, rfl⟩ := hz
      repeat' (first | (with_reducible refine use_pure hvc ?_) | ((with_reducible refine wN fun nl hnl => ?_); revert hnl; (repeat with_reducible refine wS fun _ _ => ?_); intro hnl) | (with_reducible first | refine mdraw_plain mixed (by decide +kernel) ?_ | refine wI (fun h => ?_) (fun h => ?_) | refine wF (fun h => ?_) (fun h => ?_) | refine wG (fun h => ?_) (fun h => ?_) | refine wH (fun h => ?_) (fun h => ?_)) | (with_reducible refine mfork_bool (fun h => ?_) (fun h => ?_) <;> simp only [h]) | (with_reducible refine mgfork_bool (fun h => ?_) (fun h => ?_) <;> simp only [h]) | (simp (config := { maxSteps := 4000000 }) (disch := first | decide | assumption | omega | (simp only [wL]; omega)) only [go_sem, Nat.reduceAdd, Nat.reduceSub, Nat.reduceMul, Nat.reduceDiv, Nat.reduceMod, Nat.reduceLT, Nat.reduceLeDiff, Nat.reduceEqDiff, Nat.reduceSucc, Nat.reduceGT, Int.reduceAdd, Int.reduceSub, Int.reduceMul, Int.reduceNeg, Int.reduceLT, Int.reduceLE, Int.reduceEq, Int.reduceToNat, reduceIte, Try.f55]))
      all_goals first
        | (simp [ndOk, va0, vaOk, andK, IntKind.wrap, IntKind.bits, IntKind.signed, *]; done)
        | (simp [ndOk, va0, vaOk, andK, IntKind.wrap, IntKind.bits, IntKind.signed, *]; omega)
        | (simp [ndOk, va0, vaOk, andK, IntKind.wrap, IntKind.bits, IntKind.signed, *]; decide)
    · simp only at h
      subst h
      have hz : (⟨1, vn, s⟩ : VA) ≠ va0 := by simp [va0]
      repeat' (first | (with_reducible refine use_pure hvc ?_) | ((with_reducible refine wN fun nl hnl => ?_); revert hnl; (repeat with_reducible refine wS fun _ _ => ?_); intro hnl) | (with_reducible first | refine mdraw_plain mixed (by decide +kernel) ?_ | refine wI (fun h => ?_) (fun h => ?_) | refine wF (fun h => ?_) (fun h => ?_) | refine wG (fun h => ?_) (fun h => ?_) | refine wH (fun h => ?_) (fun h => ?_)) | (with_reducible refine mfork_bool (fun h => ?_) (fun h => ?_) <;> simp only [h]) | (with_reducible refine mgfork_bool (fun h => ?_) (fun h => ?_) <;> simp only [h]) | (simp (config := { maxSteps := 4000000 }) (disch := first | decide | assumption | omega | (simp only [wL]; omega)) only [go_sem, Nat.reduceAdd, Nat.reduceSub, Nat.reduceMul, Nat.reduceDiv, Nat.reduceMod, Nat.reduceLT, Nat.reduceLeDiff, Nat.reduceEqDiff, Nat.reduceSucc, Nat.reduceGT, Int.reduceAdd, Int.reduceSub, Int.reduceMul, Int.reduceNeg, Int.reduceLT, Int.reduceLE, Int.reduceEq, Int.reduceToNat, reduceIte, Try.f55]))
      all_goals first
        | (simp [ndOk, hz, hv, andK, IntKind.wrap, IntKind.bits, IntKind.signed, *]; done)
        | (simp [ndOk, hz, hv, andK, IntKind.wrap, IntKind.bits, IntKind.signed, *]; omega)
        | (simp [ndOk, hz, hv, andK, IntKind.wrap, IntKind.bits, IntKind.signed, *]; decide)
    · simp only at h
      subst h
      have hz : (⟨2, vn, s⟩ : VA) ≠ va0 := by simp [va0]
      repeat' (first | (with_reducible refine use_pure hvc ?_) | ((with_reducible refine wN fun nl hnl => ?_); revert hnl; (repeat with_reducible refine wS fun _ _ => ?_); intro hnl) | (with_reducible first | refine mdraw_plain mixed (by decide +kernel) ?_ | refine wI (fun h => ?_) (fun h => ?_) | refine wF (fun h => ?_) (fun h => ?_) | refine wG (fun h => ?_) (fun h => ?_) | refine wH (fun h => ?_) (fun h => ?_)) | (with_reducible refine mfork_bool (fun h => ?_) (fun h => ?_) <;> simp only [h]) | (with_reducible refine mgfork_bool (fun h => ?_) (fun h => ?_) <;> simp only [h]) | (simp (config := { maxSteps := 4000000 }) (disch := first | decide | assumption | omega | (simp only [wL]; omega)) only [go_sem, Nat.reduceAdd, Nat.reduceSub, Nat.reduceMul, Nat.reduceDiv, Nat.reduceMod, Nat.reduceLT, Nat.reduceLeDiff, Nat.reduceEqDiff, Nat.reduceSucc, Nat.reduceGT, Int.reduceAdd, Int.reduceSub, Int.reduceMul, Int.reduceNeg, Int.reduceLT, Int.reduceLE, Int.reduceEq, Int.reduceToNat, reduceIte, Try.f55]))
      all_goals first
        | (simp [ndOk, hz, hv, andK, IntKind.wrap, IntKind.bits, IntKind.signed, *]; done)
        | (simp [ndOk, hz, hv, andK, IntKind.wrap, IntKind.bits, IntKind.signed, *]; omega)
        | (simp [ndOk, hz, hv, andK, IntKind.wrap, IntKind.bits, IntKind.signed, *]; decide)
end Go.Proofs.Ytielcgplbnlgbaa
end

section
/- Contracts of the program's own functions for filters (2), and of the library's that they call: the conditions that each theorem names. -/
set_option linter.unusedVariables false
set_option linter.unusedSimpArgs false
namespace Go.Proofs.Ytielcgplbnlgbaa

theorem nfit1_call (x : ND) : MCalls Try.prog 54 [.agg x.c] St.none (fun r _ => r = .bool (!ndOk x)) := by
  refine (MCalls.body 6 [.tmp 2] Try.func54 rfl rfl rfl rfl ?_)
  have h := pnode_call x
  repeat' (first | (with_reducible refine use_pure h ?_) | ((with_reducible refine wN fun nl hnl => ?_); revert hnl; (repeat with_reducible refine wS fun _ _ => ?_); intro hnl) | (with_reducible first | refine mdraw_plain mixed (by decide +kernel) ?_ | refine wI (fun h => ?_) (fun h => ?_) | refine wF (fun h => ?_) (fun h => ?_) | refine wG (fun h => ?_) (fun h => ?_) | refine wH (fun h => ?_) (fun h => ?_)) | (with_reducible refine mfork_bool (fun h => ?_) (fun h => ?_) <;> simp only [h]) | (with_reducible refine mgfork_bool (fun h => ?_) (fun h => ?_) <;> simp only [h]) | (simp (config := { maxSteps := 4000000 }) (disch := first | decide | assumption | omega | (simp only [wL]; omega)) only [go_sem, Nat.reduceAdd, Nat.reduceSub, Nat.reduceMul, Nat.reduceDiv, Nat.reduceMod, Nat.reduceLT, Nat.reduceLeDiff, Nat.reduceEqDiff, Nat.reduceSucc, Nat.reduceGT, Int.reduceAdd, Int.reduceSub, Int.reduceMul, Int.reduceNeg, Int.reduceLT, Int.reduceLE, Int.reduceEq, Int.reduceToNat, reduceIte, Try.f54]))

theorem nfit_call (l : List ND) (t : Bool) : MCalls Try.prog 33 [.lst 5 (l.map ND.c) t] St.none (fun r _ => r = .bool (fitS l)) := by
  refine (MCalls.body 21 [.tmp 2] Try.func33 rfl rfl rfl rfl ?_)
  by_cases h63 : l.length ≤ 63 ∧ 0 < l.length
  · have hne : l ≠ [] := List.length_pos_iff.1 h63.2
    have hc := contains_call (fun x => !ndOk x) 54 l (by omega) t (fun x _ => nfit1_call x)
    have hall : (l.any fun x => !ndOk x) = !l.all ndOk := by
      rw [Bool.eq_iff_iff]
      simp
    rw [hall] at hc
    repeat' (first | (with_reducible refine use_pure (pend_call _ (by omega) _ _) ?_) | (with_reducible refine use_pure hc ?_) | ((with_reducible refine wN fun nl hnl => ?_); revert hnl; (repeat with_reducible refine wS fun _ _ => ?_); intro hnl) | (with_reducible first | refine mdraw_plain mixed (by decide +kernel) ?_ | refine wI (fun h => ?_) (fun h => ?_) | refine wF (fun h => ?_) (fun h => ?_) | refine wG (fun h => ?_) (fun h => ?_) | refine wH (fun h => ?_) (fun h => ?_)) | (with_reducible refine mfork_bool (fun h => ?_) (fun h => ?_) <;> simp only [h]) | (with_reducible refine mgfork_bool (fun h => ?_) (fun h => ?_) <;> simp only [h]) | (simp (config := { maxSteps := 4000000 }) (disch := first | decide | assumption | omega | (simp only [wL]; omega)) only [go_sem, Nat.reduceAdd, Nat.reduceSub, Nat.reduceMul, Nat.reduceDiv, Nat.reduceMod, Nat.reduceLT, Nat.reduceLeDiff, Nat.reduceEqDiff, Nat.reduceSucc, Nat.reduceGT, Int.reduceAdd, Int.reduceSub, Int.reduceMul, Int.reduceNeg, Int.reduceLT, Int.reduceLE, Int.reduceEq, Int.reduceToNat, reduceIte, Try.f33]))
    · simp [fitS, *]
    · have he := Classical.not_not.1 h
      simp [fitS, *]
  · have hf : fitS l = false := by
      simp only [fitS, Bool.and_eq_false_iff, decide_eq_false_iff_not]
      left; left
      rintro ⟨h1, h2⟩; exact h63 ⟨h2, List.length_pos_iff.2 h1⟩
    rw [hf]
    repeat' (first | (with_reducible refine use_pure (pend_call _ (by omega) _ _) ?_) | ((with_reducible refine wN fun nl hnl => ?_); revert hnl; (repeat with_reducible refine wS fun _ _ => ?_); intro hnl) | (with_reducible first | refine mdraw_plain mixed (by decide +kernel) ?_ | refine wI (fun h => ?_) (fun h => ?_) | refine wF (fun h => ?_) (fun h => ?_) | refine wG (fun h => ?_) (fun h => ?_) | refine wH (fun h => ?_) (fun h => ?_)) | (with_reducible refine mfork_bool (fun h => ?_) (fun h => ?_) <;> simp only [h]) | (with_reducible refine mgfork_bool (fun h => ?_) (fun h => ?_) <;> simp only [h]) | (simp (config := { maxSteps := 4000000 }) (disch := first | decide | assumption | omega | (simp only [wL]; omega)) only [go_sem, Nat.reduceAdd, Nat.reduceSub, Nat.reduceMul, Nat.reduceDiv, Nat.reduceMod, Nat.reduceLT, Nat.reduceLeDiff, Nat.reduceEqDiff, Nat.reduceSucc, Nat.reduceGT, Int.reduceAdd, Int.reduceSub, Int.reduceMul, Int.reduceNeg, Int.reduceLT, Int.reduceLE, Int.reduceEq, Int.reduceToNat, reduceIte, Try.f33]))

theorem pcompare_call (a b : List ND) (la : a.length ≤ 1000000) (lb : b.length ≤ 1000000) (ta tb : Bool) : MCalls Try.prog 49 [.lst 5 (a.map ND.c) ta, .lst 5 (b.map ND.c) tb] St.none (fun r _ => r = .int .i64 (ordI (cmpF a b))) := by
  refine (MCalls.body 8 [.tmp 4] Try.func49 rfl rfl rfl rfl ?_)
  have h := cmpfn_call 71 a b la lb ta tb (fun x y _ _ => pcmp1_call x y)
  repeat' (first | (with_reducible refine use_pure h ?_) | ((with_reducible refine wN fun nl hnl => ?_); revert hnl; (repeat with_reducible refine wS fun _ _ => ?_); intro hnl) | (with_reducible first | refine mdraw_plain mixed (by decide +kernel) ?_ | refine wI (fun h => ?_) (fun h => ?_) | refine wF (fun h => ?_) (fun h => ?_) | refine wG (fun h => ?_) (fun h => ?_) | refine wH (fun h => ?_) (fun h => ?_)) | (with_reducible refine mfork_bool (fun h => ?_) (fun h => ?_) <;> simp only [h]) | (with_reducible refine mgfork_bool (fun h => ?_) (fun h => ?_) <;> simp only [h]) | (simp (config := { maxSteps := 4000000 }) (disch := first | decide | assumption | omega | (simp only [wL]; omega)) only [go_sem, Nat.reduceAdd, Nat.reduceSub, Nat.reduceMul, Nat.reduceDiv, Nat.reduceMod, Nat.reduceLT, Nat.reduceLeDiff, Nat.reduceEqDiff, Nat.reduceSucc, Nat.reduceGT, Int.reduceAdd, Int.reduceSub, Int.reduceMul, Int.reduceNeg, Int.reduceLT, Int.reduceLE, Int.reduceEq, Int.reduceToNat, reduceIte, Try.f49]))

theorem lorder_call (x y : ND) : MCalls Try.prog 44 [.agg x.c, .agg y.c] St.none (fun r _ => r = .int .i64 (ordI (cmpL x.key y.key))) := by
  refine (MCalls.body 10 [.tmp 4] Try.func44 rfl rfl rfl rfl ?_)
  have h := pcompare_call [x] [y] (by simp) (by simp) false false
  have e : cmpF [x] [y] = cmpL x.key y.key := by
    rw [cmpF_cons]
    split
    · rename_i h; rw [h]; rfl
    · rfl
  rw [e] at h
  repeat' (first | ((with_reducible refine wN fun nl hnl => ?_); revert hnl; (repeat with_reducible refine wS fun _ _ => ?_); intro hnl) | (with_reducible first | refine mdraw_plain mixed (by decide +kernel) ?_ | refine wI (fun h => ?_) (fun h => ?_) | refine wF (fun h => ?_) (fun h => ?_) | refine wG (fun h => ?_) (fun h => ?_) | refine wH (fun h => ?_) (fun h => ?_)) | (with_reducible refine mfork_bool (fun h => ?_) (fun h => ?_) <;> simp only [h]) | (with_reducible refine mgfork_bool (fun h => ?_) (fun h => ?_) <;> simp only [h]) | (simp (config := { maxSteps := 4000000 }) (disch := first | decide | assumption | omega | (simp only [wL]; omega)) only [go_sem, Nat.reduceAdd, Nat.reduceSub, Nat.reduceMul, Nat.reduceDiv, Nat.reduceMod, Nat.reduceLT, Nat.reduceLeDiff, Nat.reduceEqDiff, Nat.reduceSucc, Nat.reduceGT, Int.reduceAdd, Int.reduceSub, Int.reduceMul, Int.reduceNeg, Int.reduceLT, Int.reduceLE, Int.reduceEq, Int.reduceToNat, reduceIte, Try.f44]))
  refine use_lend [.lst 5 ([x].map ND.c) false, .lst 5 ([y].map ND.c) false] h (.int _ _) rfl (fun i m m' h1 h2 => ?_) ?_
  · match i, h1, h2 with
    | 0, h1, h2 =>
      simp only [List.getElem?_cons_zero, Option.some.injEq] at h1 h2
      subst h1 h2
      exact .vecAll (by first | (simp (config := { maxSteps := 4000000 }) (disch := first | decide | assumption | omega | (simp only [wL]; omega)) only [go_sem, Nat.reduceAdd, Nat.reduceSub, Nat.reduceMul, Nat.reduceDiv, Nat.reduceMod, Nat.reduceLT, Nat.reduceLeDiff, Nat.reduceEqDiff, Nat.reduceSucc, Nat.reduceGT, Int.reduceAdd, Int.reduceSub, Int.reduceMul, Int.reduceNeg, Int.reduceLT, Int.reduceLE, Int.reduceEq, Int.reduceToNat, reduceIte]; done) | (simp (config := { maxSteps := 4000000 }) (disch := first | decide | assumption | omega | (simp only [wL]; omega)) only [go_sem, Nat.reduceAdd, Nat.reduceSub, Nat.reduceMul, Nat.reduceDiv, Nat.reduceMod, Nat.reduceLT, Nat.reduceLeDiff, Nat.reduceEqDiff, Nat.reduceSucc, Nat.reduceGT, Int.reduceAdd, Int.reduceSub, Int.reduceMul, Int.reduceNeg, Int.reduceLT, Int.reduceLE, Int.reduceEq, Int.reduceToNat, reduceIte]; rfl)) rfl
    | 1, h1, h2 =>
      simp only [List.getElem?_cons_succ, List.getElem?_cons_zero, Option.some.injEq] at h1 h2
      subst h1 h2
      exact .vecAll (set_hit _ _ _) rfl
  · repeat' (first | ((with_reducible refine wN fun nl hnl => ?_); revert hnl; (repeat with_reducible refine wS fun _ _ => ?_); intro hnl) | (with_reducible first | refine mdraw_plain mixed (by decide +kernel) ?_ | refine wI (fun h => ?_) (fun h => ?_) | refine wF (fun h => ?_) (fun h => ?_) | refine wG (fun h => ?_) (fun h => ?_) | refine wH (fun h => ?_) (fun h => ?_)) | (with_reducible refine mfork_bool (fun h => ?_) (fun h => ?_) <;> simp only [h]) | (with_reducible refine mgfork_bool (fun h => ?_) (fun h => ?_) <;> simp only [h]) | (simp (config := { maxSteps := 4000000 }) (disch := first | decide | assumption | omega | (simp only [wL]; omega)) only [go_sem, Nat.reduceAdd, Nat.reduceSub, Nat.reduceMul, Nat.reduceDiv, Nat.reduceMod, Nat.reduceLT, Nat.reduceLeDiff, Nat.reduceEqDiff, Nat.reduceSucc, Nat.reduceGT, Int.reduceAdd, Int.reduceSub, Int.reduceMul, Int.reduceNeg, Int.reduceLT, Int.reduceLE, Int.reduceEq, Int.reduceToNat, reduceIte]))

theorem grow_call (n : Nat) (hn : n ≤ 1000000) : MCalls Try.prog 61 [.nils, .int .i64 n] St.none (fun r σ' => (n = 0 ∧ r = .nils ∧ σ' = St.none) ∨ (0 < n ∧ ∃ l, r = .vec 5 l 0 0 ∧ σ' = St.none.set l (.row 49 5 (List.replicate n nd0.c)))) := by
  refine (MCalls.body 27 [.tmp 4] Try.func61 rfl rfl rfl rfl ?_)
  by_cases h0 : n = 0
  · subst h0
    repeat' (first | ((with_reducible refine wN fun nl hnl => ?_); revert hnl; (repeat with_reducible refine wS fun _ _ => ?_); intro hnl) | (with_reducible first | refine mdraw_plain mixed (by decide +kernel) ?_ | refine wI (fun h => ?_) (fun h => ?_) | refine wF (fun h => ?_) (fun h => ?_) | refine wG (fun h => ?_) (fun h => ?_) | refine wH (fun h => ?_) (fun h => ?_)) | (with_reducible refine mfork_bool (fun h => ?_) (fun h => ?_) <;> simp only [h]) | (with_reducible refine mgfork_bool (fun h => ?_) (fun h => ?_) <;> simp only [h]) | (simp (config := { maxSteps := 4000000 }) (disch := first | decide | assumption | omega | (simp only [wL]; omega)) only [go_sem, Nat.reduceAdd, Nat.reduceSub, Nat.reduceMul, Nat.reduceDiv, Nat.reduceMod, Nat.reduceLT, Nat.reduceLeDiff, Nat.reduceEqDiff, Nat.reduceSucc, Nat.reduceGT, Int.reduceAdd, Int.reduceSub, Int.reduceMul, Int.reduceNeg, Int.reduceLT, Int.reduceLE, Int.reduceEq, Int.reduceToNat, reduceIte, Try.f61]))
    exact .inl trivial
  · repeat' (first | ((with_reducible refine wN fun nl hnl => ?_); revert hnl; (repeat with_reducible refine wS fun _ _ => ?_); intro hnl) | (with_reducible first | refine mdraw_plain mixed (by decide +kernel) ?_ | refine wI (fun h => ?_) (fun h => ?_) | refine wF (fun h => ?_) (fun h => ?_) | refine wG (fun h => ?_) (fun h => ?_) | refine wH (fun h => ?_) (fun h => ?_)) | (with_reducible refine mfork_bool (fun h => ?_) (fun h => ?_) <;> simp only [h]) | (with_reducible refine mgfork_bool (fun h => ?_) (fun h => ?_) <;> simp only [h]) | (simp (config := { maxSteps := 4000000 }) (disch := first | decide | assumption | omega | (simp only [wL]; omega)) only [go_sem, Nat.reduceAdd, Nat.reduceSub, Nat.reduceMul, Nat.reduceDiv, Nat.reduceMod, Nat.reduceLT, Nat.reduceLeDiff, Nat.reduceEqDiff, Nat.reduceSucc, Nat.reduceGT, Int.reduceAdd, Int.reduceSub, Int.reduceMul, Int.reduceNeg, Int.reduceLT, Int.reduceLE, Int.reduceEq, Int.reduceToNat, reduceIte, Try.f61]))
    refine .inr ⟨by show 0 < n; omega, nl, rfl, ?_⟩
    rw [show ((n : Int) - 0).toNat = n by omega]
    rfl

theorem flat_take_succ {ls : List (List ND)} {i : Nat} (h : i < ls.length) : (ls.take (i + 1)).flatten = (ls.take i).flatten ++ ls.getD i [] := by
  rw [List.take_succ_eq_append_getElem h, List.flatten_append, getD_of_lt [] h]
  simp

theorem flat_le {ls : List (List ND)} (hs : ∀ l, l ∈ ls → l.length ≤ 1000) : ∀ {i : Nat}, i ≤ ls.length → (ls.take i).flatten.length ≤ 1000 * i
  | 0, _ => by simp
  | i + 1, h => by
    rw [flat_take_succ h, List.length_append]
    have := hs _ (getD_mem [] h)
    have := flat_le hs (i := i) (by omega)
    omega

theorem app_flat {α : Type} (D ex Y : List α) (m y : Nat) (h1 : D.length = m) (h2 : Y.length = y) : List.take m (D ++ ex) ++ Y ++ List.drop (m + y) (D ++ ex) = (D ++ Y) ++ ex.drop y := by
  subst h1 h2
  rw [List.take_left, List.drop_append, List.drop_eq_nil_of_le (by omega), List.nil_append, Nat.add_sub_cancel_left]

theorem concat_call (ls : List (List ND)) (t : Bool) (hl : ls.length ≤ 1000) (hs : ∀ l, l ∈ ls → l.length ≤ 1000) : MCalls Try.prog 41 [.lst 1 (ls.map fun l => [.lst 5 (l.map ND.c) false]) t] St.none (fun r _ => r = .lst 5 (ls.flatten.map ND.c) false) := by
  refine MCalls.seen (MCalls.body 36 [.tmp 2] Try.func41 rfl rfl rfl rfl ?_)
  have htot := flat_le hs (i := ls.length) (Nat.le_refl _)
  rw [List.take_length] at htot
  repeat' (first | ((with_reducible refine wN fun nl hnl => ?_); revert hnl; (repeat with_reducible refine wS fun _ _ => ?_); intro hnl) | (with_reducible first | refine mdraw_plain mixed (by decide +kernel) ?_ | refine wI (fun h => ?_) (fun h => ?_) | refine wF (fun h => ?_) (fun h => ?_) | refine wG (fun h => ?_) (fun h => ?_) | refine wH (fun h => ?_) (fun h => ?_)) | (with_reducible refine mfork_bool (fun h => ?_) (fun h => ?_) <;> simp only [h]) | (with_reducible refine mgfork_bool (fun h => ?_) (fun h => ?_) <;> simp only [h]) | (simp (config := { maxSteps := 4000000 }) (disch := first | decide | assumption | omega | (simp only [wL]; omega)) only [go_sem, Nat.reduceAdd, Nat.reduceSub, Nat.reduceMul, Nat.reduceDiv, Nat.reduceMod, Nat.reduceLT, Nat.reduceLeDiff, Nat.reduceEqDiff, Nat.reduceSucc, Nat.reduceGT, Int.reduceAdd, Int.reduceSub, Int.reduceMul, Int.reduceNeg, Int.reduceLT, Int.reduceLE, Int.reduceEq, Int.reduceToNat, reduceIte, Try.f41]))
  refine mloop_intro (α := Nat) (fun i => ⟨36, [(11, .int .i64 (i : Int)), (10, .int .i64 (ls.length : Int)), (9, .lst 1 (ls.map fun l => [.lst 5 (l.map ND.c) false]) t), (3, .int .i64 ((ls.take i).flatten.length : Int)), (0, .lst 1 (ls.map fun l => [.lst 5 (l.map ND.c) false]) t)], []⟩) (fun _ => St.none)
    (fun i => i ≤ ls.length) (fun i => ls.length - i) (.of (.less ?_ (St.le_refl _)) ⟨0, rfl, rfl, by simp⟩) ?_
  · simp (config := { maxSteps := 4000000 }) (disch := first | decide | assumption | omega | (simp only [wL]; omega)) only [go_sem, Nat.reduceAdd, Nat.reduceSub, Nat.reduceMul, Nat.reduceDiv, Nat.reduceMod, Nat.reduceLT, Nat.reduceLeDiff, Nat.reduceEqDiff, Nat.reduceSucc, Nat.reduceGT, Int.reduceAdd, Int.reduceSub, Int.reduceMul, Int.reduceNeg, Int.reduceLT, Int.reduceLE, Int.reduceEq, Int.reduceToNat, reduceIte, weak_int, weak_same]
    first | rfl | omega | simp
  · intro i hi
    by_cases hlt : i < ls.length
    · have h1 := hs _ (getD_mem [] hlt)
      have h2 := flat_le hs hi
      repeat' (first | ((with_reducible refine wN fun nl hnl => ?_); revert hnl; (repeat with_reducible refine wS fun _ _ => ?_); intro hnl) | (with_reducible first | refine mdraw_plain mixed (by decide +kernel) ?_ | refine wI (fun h => ?_) (fun h => ?_) | refine wF (fun h => ?_) (fun h => ?_) | refine wG (fun h => ?_) (fun h => ?_) | refine wH (fun h => ?_) (fun h => ?_)) | (with_reducible refine mfork_bool (fun h => ?_) (fun h => ?_) <;> simp only [h]) | (with_reducible refine mgfork_bool (fun h => ?_) (fun h => ?_) <;> simp only [h]) | (simp (config := { maxSteps := 4000000 }) (disch := first | decide | assumption | omega | (simp only [wL]; omega)) only [go_sem, Nat.reduceAdd, Nat.reduceSub, Nat.reduceMul, Nat.reduceDiv, Nat.reduceMod, Nat.reduceLT, Nat.reduceLeDiff, Nat.reduceEqDiff, Nat.reduceSucc, Nat.reduceGT, Int.reduceAdd, Int.reduceSub, Int.reduceMul, Int.reduceNeg, Int.reduceLT, Int.reduceLE, Int.reduceEq, Int.reduceToNat, reduceIte, getD_mapd []]))
      refine .of (.less (l1 := [(11, .int .i64 ((i + 1 : Nat) : Int)), (10, .int .i64 (ls.length : Int)), (9, .lst 1 (ls.map fun l => [.lst 5 (l.map ND.c) false]) t), (3, .int .i64 ((ls.take (i + 1)).flatten.length : Int)), (0, .lst 1 (ls.map fun l => [.lst 5 (l.map ND.c) false]) t)]) ?_ (St.le_refl _)) ⟨i + 1, rfl, rfl, by omega, by omega⟩
      rw [flat_take_succ hlt, List.length_append]
      simp (config := { maxSteps := 4000000 }) (disch := first | decide | assumption | omega | (simp only [wL]; omega)) only [go_sem, Nat.reduceAdd, Nat.reduceSub, Nat.reduceMul, Nat.reduceDiv, Nat.reduceMod, Nat.reduceLT, Nat.reduceLeDiff, Nat.reduceEqDiff, Nat.reduceSucc, Nat.reduceGT, Int.reduceAdd, Int.reduceSub, Int.reduceMul, Int.reduceNeg, Int.reduceLT, Int.reduceLE, Int.reduceEq, Int.reduceToNat, reduceIte, weak_int, weak_same]
      omega
    · have : i = ls.length := by omega
      subst this
      repeat' (first | ((with_reducible refine wN fun nl hnl => ?_); revert hnl; (repeat with_reducible refine wS fun _ _ => ?_); intro hnl) | (with_reducible first | refine mdraw_plain mixed (by decide +kernel) ?_ | refine wI (fun h => ?_) (fun h => ?_) | refine wF (fun h => ?_) (fun h => ?_) | refine wG (fun h => ?_) (fun h => ?_) | refine wH (fun h => ?_) (fun h => ?_)) | (with_reducible refine mfork_bool (fun h => ?_) (fun h => ?_) <;> simp only [h]) | (with_reducible refine mgfork_bool (fun h => ?_) (fun h => ?_) <;> simp only [h]) | (simp (config := { maxSteps := 4000000 }) (disch := first | decide | assumption | omega | (simp only [wL]; omega)) only [go_sem, Nat.reduceAdd, Nat.reduceSub, Nat.reduceMul, Nat.reduceDiv, Nat.reduceMod, Nat.reduceLT, Nat.reduceLeDiff, Nat.reduceEqDiff, Nat.reduceSucc, Nat.reduceGT, Int.reduceAdd, Int.reduceSub, Int.reduceMul, Int.reduceNeg, Int.reduceLT, Int.reduceLE, Int.reduceEq, Int.reduceToNat, reduceIte, List.take_length]))
      refine use_frame (grow_call ls.flatten.length (by omega)) (St.none_le _) ?_
      rintro v σ' h -
      rw [minus_none]
      rcases h with ⟨h0, rfl, rfl⟩ | ⟨h0, l, rfl, rfl⟩
      · repeat' (first | ((with_reducible refine wN fun nl hnl => ?_); revert hnl; (repeat with_reducible refine wS fun _ _ => ?_); intro hnl) | (with_reducible first | refine mdraw_plain mixed (by decide +kernel) ?_ | refine wI (fun h => ?_) (fun h => ?_) | refine wF (fun h => ?_) (fun h => ?_) | refine wG (fun h => ?_) (fun h => ?_) | refine wH (fun h => ?_) (fun h => ?_)) | (with_reducible refine mfork_bool (fun h => ?_) (fun h => ?_) <;> simp only [h]) | (with_reducible refine mgfork_bool (fun h => ?_) (fun h => ?_) <;> simp only [h]) | (simp (config := { maxSteps := 4000000 }) (disch := first | decide | assumption | omega | (simp only [wL]; omega)) only [go_sem, Nat.reduceAdd, Nat.reduceSub, Nat.reduceMul, Nat.reduceDiv, Nat.reduceMod, Nat.reduceLT, Nat.reduceLeDiff, Nat.reduceEqDiff, Nat.reduceSucc, Nat.reduceGT, Int.reduceAdd, Int.reduceSub, Int.reduceMul, Int.reduceNeg, Int.reduceLT, Int.reduceLE, Int.reduceEq, Int.reduceToNat, reduceIte, over_none, over_set]))
        refine mloop_intro (α := Nat × Nat × List (List MV)) (fun a => ⟨36, [(27, .int .i64 (a.1 : Int)), (26, .int .i64 (ls.length : Int)), (25, .lst 1 (ls.map fun l => [.lst 5 (l.map ND.c) false]) t), (6, .vec 5 a.2.1 0 (ls.take a.1).flatten.length)], []⟩)
          (fun a => St.none.set a.2.1 (.row 49 5 ((ls.take a.1).flatten.map ND.c ++ a.2.2))) (fun a => a.1 ≤ ls.length) (fun a => ls.length - a.1) ?_ ?_
        · refine Gh.row 49 5 (fun k => [(27, .int .i64 0), (26, .int .i64 (ls.length : Int)), (25, .lst 1 (ls.map fun l => [.lst 5 (l.map ND.c) false]) t), (6, .vec 5 k 0 0)]) (fun k p hp => ?_) fun k hk => .done ⟨(0, k, []), rfl, rfl, Nat.zero_le _⟩
          simp only [List.mem_cons, List.not_mem_nil, or_false] at hp
          rcases hp with rfl | rfl | rfl | rfl
          · exact .inl rfl
          · exact .inl rfl
          · exact .inl rfl
          · exact .inr ⟨rfl, .inl rfl⟩
        · rintro ⟨i, q, ex⟩ hi
          simp only at hi ⊢
          by_cases hlt : i < ls.length
          · have h1 := hs _ (getD_mem [] hlt)
            have h2 := flat_le hs hi
            repeat' (first | ((with_reducible refine wN fun nl hnl => ?_); revert hnl; (repeat with_reducible refine wS fun _ _ => ?_); intro hnl) | (with_reducible first | refine mdraw_plain mixed (by decide +kernel) ?_ | refine wI (fun h => ?_) (fun h => ?_) | refine wF (fun h => ?_) (fun h => ?_) | refine wG (fun h => ?_) (fun h => ?_) | refine wH (fun h => ?_) (fun h => ?_)) | (with_reducible refine mfork_bool (fun h => ?_) (fun h => ?_) <;> simp only [h]) | (with_reducible refine mgfork_bool (fun h => ?_) (fun h => ?_) <;> simp only [h]) | (simp (config := { maxSteps := 4000000 }) (disch := first | decide | assumption | omega | (simp only [wL]; omega)) only [go_sem, Nat.reduceAdd, Nat.reduceSub, Nat.reduceMul, Nat.reduceDiv, Nat.reduceMod, Nat.reduceLT, Nat.reduceLeDiff, Nat.reduceEqDiff, Nat.reduceSucc, Nat.reduceGT, Int.reduceAdd, Int.reduceSub, Int.reduceMul, Int.reduceNeg, Int.reduceLT, Int.reduceLE, Int.reduceEq, Int.reduceToNat, reduceIte, getD_mapd []]))
            · have hex : ex = [] := List.eq_nil_of_length_eq_zero (by omega)
              subst hex
              refine .of (.less (l1 := [(27, .int .i64 ((i + 1 : Nat) : Int)), (26, .int .i64 (ls.length : Int)), (25, .lst 1 (ls.map fun l => [.lst 5 (l.map ND.c) false]) t), (6, .vec 5 nl 0 (ls.take (i + 1)).flatten.length)])
                (σ1 := St.none.set nl (.row 49 5 ((ls.take (i + 1)).flatten.map ND.c ++ []))) ?_ (St.set_le (St.none_le _) ((set_hit _ _ _).trans ?_))) ⟨(i + 1, nl, []), rfl, rfl, by simp only; omega, by simp only; omega⟩
              · rw [flat_take_succ hlt, List.length_append]
                simp (config := { maxSteps := 4000000 }) (disch := first | decide | assumption | omega | (simp only [wL]; omega)) only [go_sem, Nat.reduceAdd, Nat.reduceSub, Nat.reduceMul, Nat.reduceDiv, Nat.reduceMod, Nat.reduceLT, Nat.reduceLeDiff, Nat.reduceEqDiff, Nat.reduceSucc, Nat.reduceGT, Int.reduceAdd, Int.reduceSub, Int.reduceMul, Int.reduceNeg, Int.reduceLT, Int.reduceLE, Int.reduceEq, Int.reduceToNat, reduceIte, weak_int, weak_same]
                omega
              · rw [flat_take_succ hlt, List.map_append, List.append_nil, List.append_nil]
            · refine .of (.less (l1 := [(27, .int .i64 ((i + 1 : Nat) : Int)), (26, .int .i64 (ls.length : Int)), (25, .lst 1 (ls.map fun l => [.lst 5 (l.map ND.c) false]) t), (6, .vec 5 nl 0 (ls.take (i + 1)).flatten.length)])
                (σ1 := St.none.set nl (.row 49 5 ((ls.take (i + 1)).flatten.map ND.c ++ ex.drop (ls.getD i []).length))) ?_ (St.set_le (St.none_le _) ((set_hit _ _ _).trans ?_))) ⟨(i + 1, nl, ex.drop (ls.getD i []).length), rfl, rfl, by simp only; omega, by simp only; omega⟩
              · rw [flat_take_succ hlt, List.length_append]
                simp (config := { maxSteps := 4000000 }) (disch := first | decide | assumption | omega | (simp only [wL]; omega)) only [go_sem, Nat.reduceAdd, Nat.reduceSub, Nat.reduceMul, Nat.reduceDiv, Nat.reduceMod, Nat.reduceLT, Nat.reduceLeDiff, Nat.reduceEqDiff, Nat.reduceSucc, Nat.reduceGT, Int.reduceAdd, Int.reduceSub, Int.reduceMul, Int.reduceNeg, Int.reduceLT, Int.reduceLE, Int.reduceEq, Int.reduceToNat, reduceIte, weak_int, weak_same]
                omega
              · rw [flat_take_succ hlt, List.map_append]
                exact congrArg (fun r => some (MObj.row 49 5 r)) (app_flat _ _ _ _ _ (by rw [List.length_map]) (by rw [List.length_map]))
          · have : i = ls.length := by omega
            subst this
            repeat' (first | ((with_reducible refine wN fun nl hnl => ?_); revert hnl; (repeat with_reducible refine wS fun _ _ => ?_); intro hnl) | (with_reducible first | refine mdraw_plain mixed (by decide +kernel) ?_ | refine wI (fun h => ?_) (fun h => ?_) | refine wF (fun h => ?_) (fun h => ?_) | refine wG (fun h => ?_) (fun h => ?_) | refine wH (fun h => ?_) (fun h => ?_)) | (with_reducible refine mfork_bool (fun h => ?_) (fun h => ?_) <;> simp only [h]) | (with_reducible refine mgfork_bool (fun h => ?_) (fun h => ?_) <;> simp only [h]) | (simp (config := { maxSteps := 4000000 }) (disch := first | decide | assumption | omega | (simp only [wL]; omega)) only [go_sem, Nat.reduceAdd, Nat.reduceSub, Nat.reduceMul, Nat.reduceDiv, Nat.reduceMod, Nat.reduceLT, Nat.reduceLeDiff, Nat.reduceEqDiff, Nat.reduceSucc, Nat.reduceGT, Int.reduceAdd, Int.reduceSub, Int.reduceMul, Int.reduceNeg, Int.reduceLT, Int.reduceLE, Int.reduceEq, Int.reduceToNat, reduceIte, List.take_length]))
            have hv := View.vec (σ := St.none.set q (.row 49 5 (ls.flatten.map ND.c ++ ex))) (l := q) (lo := 0) (n := ls.flatten.length) (set_hit _ _ _) (by rw [List.length_append, List.length_map]; omega)
            have e : ((ls.flatten.map ND.c ++ ex).drop 0).take ls.flatten.length = ls.flatten.map ND.c := by
              rw [List.drop_zero, List.take_append_of_le_length (by rw [List.length_map]; omega), List.take_of_length_le (by rw [List.length_map]; omega)]
            rw [e] at hv
            exact hv
      · repeat' (first | ((with_reducible refine wN fun nl hnl => ?_); revert hnl; (repeat with_reducible refine wS fun _ _ => ?_); intro hnl) | (with_reducible first | refine mdraw_plain mixed (by decide +kernel) ?_ | refine wI (fun h => ?_) (fun h => ?_) | refine wF (fun h => ?_) (fun h => ?_) | refine wG (fun h => ?_) (fun h => ?_) | refine wH (fun h => ?_) (fun h => ?_)) | (with_reducible refine mfork_bool (fun h => ?_) (fun h => ?_) <;> simp only [h]) | (with_reducible refine mgfork_bool (fun h => ?_) (fun h => ?_) <;> simp only [h]) | (simp (config := { maxSteps := 4000000 }) (disch := first | decide | assumption | omega | (simp only [wL]; omega)) only [go_sem, Nat.reduceAdd, Nat.reduceSub, Nat.reduceMul, Nat.reduceDiv, Nat.reduceMod, Nat.reduceLT, Nat.reduceLeDiff, Nat.reduceEqDiff, Nat.reduceSucc, Nat.reduceGT, Int.reduceAdd, Int.reduceSub, Int.reduceMul, Int.reduceNeg, Int.reduceLT, Int.reduceLE, Int.reduceEq, Int.reduceToNat, reduceIte, over_none, over_set]))
        refine mloop_intro (α := Nat × Nat × List (List MV)) (fun a => ⟨36, [(27, .int .i64 (a.1 : Int)), (26, .int .i64 (ls.length : Int)), (25, .lst 1 (ls.map fun l => [.lst 5 (l.map ND.c) false]) t), (6, .vec 5 a.2.1 0 (ls.take a.1).flatten.length)], []⟩)
          (fun a => St.none.set a.2.1 (.row 49 5 ((ls.take a.1).flatten.map ND.c ++ a.2.2))) (fun a => a.1 ≤ ls.length) (fun a => ls.length - a.1) ?_ ?_
        · refine .of (.less ?_ (St.le_refl _)) ⟨(0, l, List.replicate ls.flatten.length nd0.c), rfl, rfl, Nat.zero_le _⟩
          simp (config := { maxSteps := 4000000 }) (disch := first | decide | assumption | omega | (simp only [wL]; omega)) only [go_sem, Nat.reduceAdd, Nat.reduceSub, Nat.reduceMul, Nat.reduceDiv, Nat.reduceMod, Nat.reduceLT, Nat.reduceLeDiff, Nat.reduceEqDiff, Nat.reduceSucc, Nat.reduceGT, Int.reduceAdd, Int.reduceSub, Int.reduceMul, Int.reduceNeg, Int.reduceLT, Int.reduceLE, Int.reduceEq, Int.reduceToNat, reduceIte, weak_int, weak_same]
          first
            | rfl
            | omega
            | exact ⟨rfl, weak_same.2 trivial⟩
            | exact weak_same.2 trivial
        · rintro ⟨i, q, ex⟩ hi
          simp only at hi ⊢
          by_cases hlt : i < ls.length
          · have h1 := hs _ (getD_mem [] hlt)
            have h2 := flat_le hs hi
            repeat' (first | ((with_reducible refine wN fun nl hnl => ?_); revert hnl; (repeat with_reducible refine wS fun _ _ => ?_); intro hnl) | (with_reducible first | refine mdraw_plain mixed (by decide +kernel) ?_ | refine wI (fun h => ?_) (fun h => ?_) | refine wF (fun h => ?_) (fun h => ?_) | refine wG (fun h => ?_) (fun h => ?_) | refine wH (fun h => ?_) (fun h => ?_)) | (with_reducible refine mfork_bool (fun h => ?_) (fun h => ?_) <;> simp only [h]) | (with_reducible refine mgfork_bool (fun h => ?_) (fun h => ?_) <;> simp only [h]) | (simp (config := { maxSteps := 4000000 }) (disch := first | decide | assumption | omega | (simp only [wL]; omega)) only [go_sem, Nat.reduceAdd, Nat.reduceSub, Nat.reduceMul, Nat.reduceDiv, Nat.reduceMod, Nat.reduceLT, Nat.reduceLeDiff, Nat.reduceEqDiff, Nat.reduceSucc, Nat.reduceGT, Int.reduceAdd, Int.reduceSub, Int.reduceMul, Int.reduceNeg, Int.reduceLT, Int.reduceLE, Int.reduceEq, Int.reduceToNat, reduceIte, getD_mapd []]))
            · have hex : ex = [] := List.eq_nil_of_length_eq_zero (by omega)
              subst hex
              refine .of (.less (l1 := [(27, .int .i64 ((i + 1 : Nat) : Int)), (26, .int .i64 (ls.length : Int)), (25, .lst 1 (ls.map fun l => [.lst 5 (l.map ND.c) false]) t), (6, .vec 5 nl 0 (ls.take (i + 1)).flatten.length)])
                (σ1 := St.none.set nl (.row 49 5 ((ls.take (i + 1)).flatten.map ND.c ++ []))) ?_ (St.set_le (St.none_le _) ((set_hit _ _ _).trans ?_))) ⟨(i + 1, nl, []), rfl, rfl, by simp only; omega, by simp only; omega⟩
              · rw [flat_take_succ hlt, List.length_append]
                simp (config := { maxSteps := 4000000 }) (disch := first | decide | assumption | omega | (simp only [wL]; omega)) only [go_sem, Nat.reduceAdd, Nat.reduceSub, Nat.reduceMul, Nat.reduceDiv, Nat.reduceMod, Nat.reduceLT, Nat.reduceLeDiff, Nat.reduceEqDiff, Nat.reduceSucc, Nat.reduceGT, Int.reduceAdd, Int.reduceSub, Int.reduceMul, Int.reduceNeg, Int.reduceLT, Int.reduceLE, Int.reduceEq, Int.reduceToNat, reduceIte, weak_int, weak_same]
                omega
              · rw [flat_take_succ hlt, List.map_append, List.append_nil, List.append_nil]
            · refine .of (.less (l1 := [(27, .int .i64 ((i + 1 : Nat) : Int)), (26, .int .i64 (ls.length : Int)), (25, .lst 1 (ls.map fun l => [.lst 5 (l.map ND.c) false]) t), (6, .vec 5 nl 0 (ls.take (i + 1)).flatten.length)])
                (σ1 := St.none.set nl (.row 49 5 ((ls.take (i + 1)).flatten.map ND.c ++ ex.drop (ls.getD i []).length))) ?_ (St.set_le (St.none_le _) ((set_hit _ _ _).trans ?_))) ⟨(i + 1, nl, ex.drop (ls.getD i []).length), rfl, rfl, by simp only; omega, by simp only; omega⟩
              · rw [flat_take_succ hlt, List.length_append]
                simp (config := { maxSteps := 4000000 }) (disch := first | decide | assumption | omega | (simp only [wL]; omega)) only [go_sem, Nat.reduceAdd, Nat.reduceSub, Nat.reduceMul, Nat.reduceDiv, Nat.reduceMod, Nat.reduceLT, Nat.reduceLeDiff, Nat.reduceEqDiff, Nat.reduceSucc, Nat.reduceGT, Int.reduceAdd, Int.reduceSub, Int.reduceMul, Int.reduceNeg, Int.reduceLT, Int.reduceLE, Int.reduceEq, Int.reduceToNat, reduceIte, weak_int, weak_same]
                omega
              · rw [flat_take_succ hlt, List.map_append]
                exact congrArg (fun r => some (MObj.row 49 5 r)) (app_flat _ _ _ _ _ (by rw [List.length_map]) (by rw [List.length_map]))
          · have : i = ls.length := by omega
            subst this
            repeat' (first | ((with_reducible refine wN fun nl hnl => ?_); revert hnl; (repeat with_reducible refine wS fun _ _ => ?_); intro hnl) | (with_reducible first | refine mdraw_plain mixed (by decide +kernel) ?_ | refine wI (fun h => ?_) (fun h => ?_) | refine wF (fun h => ?_) (fun h => ?_) | refine wG (fun h => ?_) (fun h => ?_) | refine wH (fun h => ?_) (fun h => ?_)) | (with_reducible refine mfork_bool (fun h => ?_) (fun h => ?_) <;> simp only [h]) | (with_reducible refine mgfork_bool (fun h => ?_) (fun h => ?_) <;> simp only [h]) | (simp (config := { maxSteps := 4000000 }) (disch := first | decide | assumption | omega | (simp only [wL]; omega)) only [go_sem, Nat.reduceAdd, Nat.reduceSub, Nat.reduceMul, Nat.reduceDiv, Nat.reduceMod, Nat.reduceLT, Nat.reduceLeDiff, Nat.reduceEqDiff, Nat.reduceSucc, Nat.reduceGT, Int.reduceAdd, Int.reduceSub, Int.reduceMul, Int.reduceNeg, Int.reduceLT, Int.reduceLE, Int.reduceEq, Int.reduceToNat, reduceIte, List.take_length]))
            have hv := View.vec (σ := St.none.set q (.row 49 5 (ls.flatten.map ND.c ++ ex))) (l := q) (lo := 0) (n := ls.flatten.length) (set_hit _ _ _) (by rw [List.length_append, List.length_map]; omega)
            have e : ((ls.flatten.map ND.c ++ ex).drop 0).take ls.flatten.length = ls.flatten.map ND.c := by
              rw [List.drop_zero, List.take_append_of_le_length (by rw [List.length_map]; omega), List.take_of_length_le (by rw [List.length_map]; omega)]
            rw [e] at hv
            exact hv
end Go.Proofs.Ytielcgplbnlgbaa
end

section
/- slices.SortFunc, as the logic says it: elements of some cells that say nothing of memory. -/
set_option linter.unusedVariables false
set_option linter.unusedSimpArgs false
namespace Go.Proofs.Ytielcgplbnlgbaa
open Go.Shelf Go.Sort

/-- A world that has grown. -/
theorem Inv.grown {Φ : Phi} {w w' : World} {σ : St} (hi : Inv Φ w σ) (h1 : w'.os = w.os) (h2 : w'.tape = w.tape) (h3 : w'.output = w.output) (h4 : w.drawn ≤ w'.drawn) (h5 : w.heap.size ≤ w'.heap.size) (hb : ∀ k, k < w.heap.size → w'.heap[k]? = w.heap[k]?) :
    Inv Φ w' σ ∧ Step Φ σ w Φ σ w' :=
  ⟨⟨fun l o h => (hi.own l o h).mono (.refl Φ) fun p R hp hR => by
      obtain ⟨p', hp', hlt⟩ := (hi.own l o h).place
      rw [hp] at hp'; cases hp'
      exact hb R (hlt R hR), hi.inj, fun a v h => by
      rw [World.cell?_heap (hb _ (World.block_lt_of_cell? w a (hi.snap a v h)))]
      exact hi.snap a v h, hi.apart, hi.fresh⟩,
   ⟨.refl Φ, h1, h2, h3, h4, h5, fun k hk _ => hb k hk, fun _ _ h => .inl h, fun l o h => .inl ⟨o, h⟩, fun _ h => .inl h⟩⟩

theorem step_grow {Φ Φ' : Phi} {σ' : St} {w w' : World} (h : Step Φ St.none w Φ' σ' w') : ∃ q os', w' = Sort.grow (w.drewN q) os' := by
  refine ⟨w'.drawn - w.drawn, w'.heap.extract w.heap.size w'.heap.size, ?_⟩
  have hd := h.drawn
  have hh : w'.heap = w.heap ++ w'.heap.extract w.heap.size w'.heap.size := by
    refine Array.ext (by simp; have := h.size; omega) fun i h1 h2 => ?_
    by_cases hi : i < w.heap.size
    · have e := h.block i hi (by rintro ⟨l, o, p, q, _⟩; simp [St.none] at q)
      rw [Array.getElem?_eq_getElem h1, Array.getElem?_eq_getElem hi] at e
      rw [Array.getElem_append_left hi]
      exact Option.some.inj e
    · rw [Array.getElem_append_right (by omega)]
      simp
      congr 1
      omega
  have e1 := h.os; have e2 := h.tape; have e3 := h.output
  obtain ⟨heap, tape, drawn, os, output⟩ := w
  obtain ⟨heap', tape', drawn', os', output'⟩ := w'
  simp only at e1 e2 e3 hd hh
  subst e1 e2 e3
  simp only [Sort.grow, World.drewN]
  rw [← hh]
  congr 1
  omega

/-- The cells that say nothing of memory. -/
def PlainC {X : Type} (encM : X → List MV) (encV : X → List Value) : Prop := ∀ x, (encV x).length = (encM x).length ∧ ∀ (j : Nat) m, (encM x)[j]? = some m → m.isCell = true ∧ ∀ Φ v, Rel Φ v m ↔ v = (encV x).getD j undef

theorem inv_empty (w : World) : Inv ⟨fun _ => none, fun _ => none, 0⟩ w St.none where
  own := fun l o h => by simp [St.none] at h
  inj := fun l l' o o' p p' R h => by simp [St.none] at h
  snap := fun a v h => by cases h
  apart := fun l o p R a v h => by simp [St.none] at h
  fresh := ⟨0, fun _ _ => rfl⟩

theorem plain_agg {X : Type} {encM : X → List MV} {encV : X → List Value} (hp : PlainC encM encV) (Φ : Phi) (x : X) : Rel Φ (.agg (encV x).toArray) (.agg (encM x)) := by
  obtain ⟨h1, h2⟩ := hp x
  refine .agg (by simpa using h1) (fun i m hm => (h2 i m hm).1) (fun i m hm => ((h2 i m hm).2 Φ _).2 ?_)
  simp [Array.getD_eq_getD_getElem?, List.getD_eq_getElem?_getD]

theorem div_mod_of {i j k t : Nat} (hj : j < k) (ht : t = i * k + j) : t / k = i ∧ t % k = j := by
  subst ht
  have hk : 0 < k := by omega
  constructor
  · rw [Nat.mul_comm, Nat.mul_add_div hk, Nat.div_eq_of_lt hj, Nat.add_zero]
  · rw [Nat.mul_comm, Nat.mul_add_mod, Nat.mod_eq_of_lt hj]

/-- The cells of a row of the sort's. -/
theorem flat_at {X : Type} [Inhabited X] {encV : X → List Value} {k : Nat} (hk : ∀ x, (encV x).length = k) (d : Array X) {i j : Nat} (hi : i < d.size) (hj : j < k) : (flatK encV k d)[i * k + j]! = (encV (d.getD i default)).getD j undef := by
  have ht : i * k + j < d.size * k := by
    have : (i + 1) * k ≤ d.size * k := Nat.mul_le_mul_right _ hi
    rw [Nat.add_mul, Nat.one_mul] at this
    omega
  obtain ⟨e1, e2⟩ := div_mod_of (i := i) (k := k) hj rfl
  rw [get_flatK _ _ _ _ ht, e1, e2]
  have : d[i]! = d.getD i default := by simp [Array.getD, hi]
  rw [this]
  have hl := hk (d.getD i default)
  rw [getElem!_pos _ _ (by omega), List.getD_eq_getElem?_getD, List.getElem?_eq_getElem (by omega)]
  rfl

theorem sort_any {X : Type} [Inhabited X] {P : Program} {ρ : Ren} (L : SlLaysF0.n6 P ρ) (k : Nat) (hk0 : 0 < k) (aE : ∀ w, (isAgg (ρ.t 24)).run P w = .ok true w) (zE : ∀ w, (Go.sizeOf (ρ.t 24)).run P w = .ok k w)
    (encM : X → List MV) (encV : X → List Value) (hk : ∀ x, (encV x).length = k) (hp : PlainC encM encV) (h1 : ∀ x, ∀ v ∈ encV x, v.oneCell' = true) (cf : X → X → Int) (hO : SWO (ltOf cf)) (g : Nat)
    (hg : ∀ x y, MCalls P g [.agg (encM x), .agg (encM y)] St.none fun r _ => r = .int .i64 (cf x y)) (eg : ∀ args w, (callFunc g args).run P w = .ok (.enter g args) w)
    (hent : Enters P (ρ.f 6)) (l : Nat) (t : TypeId) (xs : List X) (ex : List (List MV)) (hn : 0 < xs.length) (hsz : xs.length < 4611686018427387904) :
    MCalls P (ρ.f 6) [.vec k l 0 xs.length, .fn (.func g) [] []] (St.none.set l (.row t k (xs.map encM ++ ex))) fun r σ' =>
      r = .tup [] ∧ ∃ ys : List X, ys.Perm xs ∧ ys.Pairwise (fun a b => ltOf cf b a = false) ∧ σ' = St.none.set l (.row t k (ys.map encM ++ ex)) := by
  refine ⟨hent, fun Φ w vs hi hr => ?_⟩
  have hkM : ∀ x, (encM x).length = k := fun x => by rw [← (hp x).1]; exact hk x
  obtain ⟨a, cap, p, e0, hpo, hpe, hcap, hncap, hblk⟩ := (hr.2 0 _ rfl).inv_vec
  obtain ⟨first, capv, e1, r1, r2⟩ := (hr.2 1 _ rfl).inv_fn
  have hf0 : first = #[] := by have := r1.1; simp at this; exact this
  have hc0 : capv = #[] := by have := r2.1; simp at this; exact this
  subst hf0 hc0
  have hvs : vs = #[.slice a xs.length cap, .func (.func g) #[] #[]] := by
    have h2 := hr.1
    simp at h2
    refine Array.ext (by simpa using h2) fun i q1 q2 => ?_
    match i, q1, q2 with
    | 0, q1, _ => have := e0; simp [Array.getD, q1] at this; exact this
    | 1, q1, _ => have := e1; simp [Array.getD, q1] at this; exact this
  obtain ⟨p', hp', hpe', hlen, hmax, hx, hmatch⟩ := hi.own l _ (set_hit _ _ _)
  rw [hpo] at hp'
  cases hp'
  rcases hblk with ⟨R, hR, ha⟩ | hc0
  · rw [hR] at hmatch
    obtain ⟨c, fz, hheap, hfz, hfit, hcell⟩ := hmatch
    simp only [Nat.zero_mul, Nat.add_zero] at ha
    subst ha
    have hRlt : R < w.heap.size := by
      obtain ⟨q, _⟩ := Array.getElem?_eq_some_iff.1 hheap; exact q
    have hRp : p.blk = some R := hR
    -- the cells of the elements
    have hxs : ∀ (i : Nat) (x : X), xs[i]? = some x → ∀ j, j < k → c[p.bo + (i * k + j)]? = some ((encV x).getD j undef) := fun i x hx j hj => by
      have h1 : (xs.map encM ++ ex)[i]? = some (encM x) := by
        rw [List.getElem?_append_left (by have := (List.getElem?_eq_some_iff.1 hx).1; simpa using this), List.getElem?_map, hx]; rfl
      have h2 : (encM x)[j]? = some ((encM x)[j]'(by rw [hkM]; exact hj)) := by simp
      obtain ⟨_, v, hv, hrel⟩ := hcell i _ j _ h1 h2
      rw [hv, (((hp x).2 j _ h2).2 Φ v).1 hrel]
    let d : Array X := xs.toArray
    have hds : d.size = xs.length := by simp [d]
    have hdi : ∀ i, i < xs.length → xs[i]? = some (d.getD i default) := fun i hi => by simp [d, Array.getD, hi]
    have hnk : p.bo + xs.length * k ≤ c.size := by
      have : xs.length ≤ p.C := by have := hlen; simp at this; omega
      have := Nat.mul_le_mul_right k this
      omega
    have hH : HoldsK encV k w R p.bo d := by
      intro t ht
      have ht' : t < xs.length * k := by simpa [hds] using ht
      have hi : t / k < xs.length := Nat.div_lt_of_lt_mul (by rw [Nat.mul_comm]; exact ht')
      have hj : t % k < k := Nat.mod_lt _ hk0
      have e : t / k * k + t % k = t := by rw [Nat.mul_comm]; exact Nat.div_add_mod t k
      have h1 := hxs _ _ (hdi _ hi) (t % k) hj
      have h2 := flat_at (encV := encV) hk d (i := t / k) (j := t % k) (by omega) hj
      rw [e] at h1 h2
      refine ⟨?_, ?_⟩
      · rw [show (id : Value → Value) ((flatK encV k d)[t]!) = (flatK encV k d)[t]! from rfl, h2, ← h1]
        simp only [World.cell?, hheap]
        rfl
      · simp only [World.frozen?, hheap]
        rcases hfz with h | h
        · simp; omega
        · simp; omega
    have hcmp : CmpLays P g #[] encV k cf R p.bo d.size w := fun m os dk hs x y => by
      refine ((hg x y).2 _ (sortWorldK encV k w R p.bo m dk os) _ (inv_empty _) (?_ : Rels _ (#[.agg (encV x).toArray, .agg (encV y).toArray] ++ #[]) _)).mono ?_
      · refine ⟨by simp, fun i m hm => ?_⟩
        match i, hm with
        | 0, hm => simp at hm; subst hm; exact plain_agg hp _ x
        | 1, hm => simp at hm; subst hm; exact plain_agg hp _ y
      · rintro e w' ⟨v, mv, σ', Φ', he, hv, hi', hst, rfl⟩
        cases hv
        exact ⟨he, step_grow hst⟩
    have key := AnyQ.slices_SortFunc L k aE zE encV hk h1 cf hO g #[] R p.bo cap d w eg hcmp hH hRlt (by rw [hds]; exact hsz)
    subst hvs
    rw [← hds]
    refine key.mono ?_
    rintro e W' ⟨rfl, d', m, os, hperm, hsort, rfl⟩
    obtain ⟨hsz', _, hpm⟩ := hperm
    have hds' : d'.size = xs.length := by rw [hsz', hds]
    have hpm' : d'.toList.Perm xs := by
      have e1 : d'.extract 0 d.size = d' := by rw [← hsz']; simp
      have e2 : d.extract 0 d.size = d := by simp
      rw [e1, e2] at hpm
      simpa [d] using hpm
    have hll : d'.toList.length = xs.length := by simpa using hds'
    let c' : Array Value := putCells id p.bo (flatK encV k d') c
    have hc's : c'.size = c.size := by simp [c', putCells]
    have hfs : (flatK encV k d').size = xs.length * k := by simp [flatK, hds']
    have hc'in : ∀ i j, i < xs.length → j < k → c'[p.bo + (i * k + j)]? = some ((encV (d'.getD i default)).getD j undef) := fun i j hi hj => by
      have hlt : i * k + j < xs.length * k := by
        have : (i + 1) * k ≤ xs.length * k := Nat.mul_le_mul_right _ hi
        rw [Nat.add_mul, Nat.one_mul] at this
        omega
      have hcs : p.bo + (i * k + j) < c.size := by omega
      have := flat_at (encV := encV) hk d' (i := i) (j := j) (by omega) hj
      rw [← this]
      simp only [c', putCells, Array.getElem?_mapIdx, Array.getElem?_eq_getElem hcs, Option.map_some, hfs]
      rw [if_pos (by omega), Nat.add_sub_cancel_left]
      rfl
    have hc'out : ∀ q, p.bo + xs.length * k ≤ q → c'[q]? = c[q]? := fun q hq => by
      simp only [c', putCells, Array.getElem?_mapIdx, hfs]
      cases hcq : c[q]? with
      | none => rfl
      | some v => simp only [Option.map_some]; rw [if_neg (by omega)]
    have hW1 : (putRowK encV k w R p.bo d').heap[R]? = some (.cells c' t fz) := by
      show (w.heap.modify R _)[R]? = _
      rw [Array.getElem?_modify, if_pos rfl, hheap]
      rfl
    have hWo : ∀ q, q ≠ R → (putRowK encV k w R p.bo d').heap[q]? = w.heap[q]? := fun q hq => by
      show (w.heap.modify R _)[q]? = _
      rw [Array.getElem?_modify, if_neg (Ne.symm hq)]
    have hown : OwnOk Φ (putRowK encV k w R p.bo d') l (.row t k (d'.toList.map encM ++ ex)) := by
      refine ⟨p, hpo, hpe', by simpa [hll] using hlen, hmax, fun i x hx' => ?_, ?_⟩
      · by_cases hi : i < xs.length
        · rw [List.getElem?_append_left (by simpa [hds'] using hi), List.getElem?_map, Option.map_eq_some_iff] at hx'
          obtain ⟨y, _, rfl⟩ := hx'
          exact hkM y
        · refine hx i x ?_
          rw [List.getElem?_append_right (by simp; omega)] at hx' ⊢
          simpa [hds'] using hx'
      · rw [hRp]
        refine ⟨c', fz, hW1, by rw [hc's]; exact hfz, by rw [hc's]; exact hfit, fun i x j m' hx' hm' => ?_⟩
        by_cases hi : i < xs.length
        · rw [List.getElem?_append_left (by simpa [hds'] using hi), List.getElem?_map, Option.map_eq_some_iff] at hx'
          obtain ⟨y, hy, rfl⟩ := hx'
          have hj : j < k := by rw [← hkM y]; exact (List.getElem?_eq_some_iff.1 hm').1
          have hyd : d'.getD i default = y := by
            have : d'[i]? = some y := by simpa using hy
            simp [Array.getD_eq_getD_getElem?, this]
          obtain ⟨q1, q2⟩ := (hp y).2 j m' hm'
          refine ⟨q1, _, hc'in i j hi hj, (q2 Φ _).2 (by rw [hyd])⟩
        · have hx2 : (xs.map encM ++ ex)[i]? = some x := by
            rw [List.getElem?_append_right (by simp; omega)] at hx' ⊢
            simpa [hds'] using hx'
          obtain ⟨q1, v, q2, q3⟩ := hcell i x j m' hx2 hm'
          refine ⟨q1, v, ?_, q3⟩
          rw [hc'out _ (by have := Nat.mul_le_mul_right k (Nat.le_of_not_lt hi); omega)]
          exact q2
    obtain ⟨i1, s1⟩ := hi.turn (w' := putRowK encV k w R p.bo d') l (set_hit _ _ _) (.row t k (d'.toList.map encM ++ ex)) hpo hRp (by simp [putRowK]) hWo rfl rfl rfl (Nat.le_refl _) hown
    rw [set_set] at i1 s1
    obtain ⟨i2, s2⟩ := i1.grown (w' := sortWorldK encV k w R p.bo m d' os) rfl rfl rfl (by show w.drawn ≤ w.drawn + m; omega) (by show _ ≤ ((putRowK encV k w R p.bo d').heap ++ os).size; simp) (fun q hq => by
      show ((putRowK encV k w R p.bo d').heap ++ os)[q]? = _
      rw [Array.getElem?_append_left hq])
    refine ⟨.tuple #[], .tup [], _, Φ, rfl, .tup rfl (fun i m h => by simp at h), i2, s1.trans s2, rfl, d'.toList, hpm', ?_, rfl⟩
    refine List.pairwise_iff_getElem.2 fun i j hi hj hij => ?_
    have := hsort i j (Nat.zero_le _) hij (by rw [← hsz']; simpa using hj)
    rw [getElem!_pos _ _ (by simpa using hj), getElem!_pos _ _ (by simpa using hi)] at this
    simpa using this
  · omega
end Go.Proofs.Ytielcgplbnlgbaa
end

section
/- Layings of the library's functions in this translation, as the kit's own tool (lay-plain.mjs) prints them: no condition. -/
set_option linter.unusedVariables false
namespace Go.Proofs.Ytielcgplbnlgbaa
open Go.Shelf
def lay_sortN_ren : Go.Shelf.Ren := ⟨fun | 6 => 43 | 15 => 63 | 14 => 62 | 28 => 91 | 29 => 92 | 20 => 83 | 21 => 84 | 22 => 85 | 23 => 86 | 24 => 87 | 25 => 88 | 26 => 89 | 27 => 90 | 46 => 103 | 47 => 104 | 48 => 105 | 49 => 106 | 50 => 107 | 57 => 112 | n => n, fun | 22 => 22 | 24 => 49 | 25 => 62 | 3 => 3 | 39 => 75 | 0 => 0 | 53 => 30 | 55 => 52 | 4 => 4 | 46 => 91 | 45 => 90 | 50 => 76 | 5 => 5 | 9 => 9 | 66 => 114 | 70 => 118 | 76 => 123 | 77 => 124 | n => n, fun | n => n⟩
theorem lay_sortN : Go.Proofs.SlLaysF0.n6 Try.prog lay_sortN_ren := {
  mixed := by kernel_rfl
  f6 := ⟨Try.f43.name, by decide, Try.func43.trans (congrArg some (by kernel_rfl))⟩
  f14 := ⟨Try.f62.name, by decide, Try.func62.trans (congrArg some (by kernel_rfl))⟩
  f15 := Try.func63.trans (congrArg some (by kernel_rfl))
  f20 := ⟨Try.f83.name, by decide, Try.func83.trans (congrArg some (by kernel_rfl))⟩
  f21 := ⟨Try.f84.name, by decide, Try.func84.trans (congrArg some (by kernel_rfl))⟩
  f22 := ⟨Try.f85.name, by decide, Try.func85.trans (congrArg some (by kernel_rfl))⟩
  f23 := ⟨Try.f86.name, by decide, Try.func86.trans (congrArg some (by kernel_rfl))⟩
  f24 := ⟨Try.f87.name, by decide, Try.func87.trans (congrArg some (by kernel_rfl))⟩
  f25 := ⟨Try.f88.name, by decide, Try.func88.trans (congrArg some (by kernel_rfl))⟩
  f26 := ⟨Try.f89.name, by decide, Try.func89.trans (congrArg some (by kernel_rfl))⟩
  f27 := ⟨Try.f90.name, by decide, Try.func90.trans (congrArg some (by kernel_rfl))⟩
  f28 := Try.func91.trans (congrArg some (by kernel_rfl))
  f29 := Try.func92.trans (congrArg some (by kernel_rfl))
  f46 := ⟨Try.f103.name, by decide, Try.func103.trans (congrArg some (by kernel_rfl))⟩
  f47 := Try.func104.trans (congrArg some (by kernel_rfl))
  f48 := Try.func105.trans (congrArg some (by kernel_rfl))
  f49 := ⟨Try.f106.name, by decide, Try.func106.trans (congrArg some (by kernel_rfl))⟩
  f50 := ⟨Try.f107.name, by decide, Try.func107.trans (congrArg some (by kernel_rfl))⟩
  f57 := ⟨Try.f112.name, by decide, Try.func112.trans (congrArg some (by kernel_rfl))⟩
  t0 := Try.underlying0
  a0 := Try.isAgg0
  z0 := Try.sizeOf0
  v0 := Try.zeroValue0
  t3 := Try.underlying3
  a3 := Try.isAgg3
  z3 := Try.sizeOf3
  v3 := Try.zeroValue3
  t4 := Try.underlying4
  a4 := Try.isAgg4
  z4 := Try.sizeOf4
  v4 := Try.zeroValue4
  t5 := Try.underlying5
  a5 := Try.isAgg5
  z5 := Try.sizeOf5
  v5 := Try.zeroValue5
  t9 := Try.underlying9
  a9 := Try.isAgg9
  z9 := Try.sizeOf9
  v9 := Try.zeroValue9
  t22 := Try.underlying22
  a22 := Try.isAgg22
  z22 := Try.sizeOf22
  v22 := Try.zeroValue22
  t25 := Try.underlying62
  a25 := Try.isAgg62
  z25 := Try.sizeOf62
  v25 := Try.zeroValue62
  t39 := Try.underlying75
  a39 := Try.isAgg75
  z39 := Try.sizeOf75
  v39 := Try.zeroValue75
  t45 := Try.underlying90
  a45 := Try.isAgg90
  z45 := Try.sizeOf90
  v45 := Try.zeroValue90
  t46 := Try.underlying91
  a46 := Try.isAgg91
  z46 := Try.sizeOf91
  v46 := Try.zeroValue91
  t50 := Try.underlying76
  a50 := Try.isAgg76
  z50 := Try.sizeOf76
  v50 := Try.zeroValue76
  t53 := Try.underlying30
  a53 := Try.isAgg30
  z53 := Try.sizeOf30
  v53 := Try.zeroValue30
  t55 := Try.underlying52
  a55 := Try.isAgg52
  z55 := Try.sizeOf52
  v55 := Try.zeroValue52
  t66 := Try.underlying114
  a66 := Try.isAgg114
  z66 := Try.sizeOf114
  v66 := Try.zeroValue114
  t70 := Try.underlying118
  a70 := Try.isAgg118
  z70 := Try.sizeOf118
  v70 := Try.zeroValue118
  t76 := Try.underlying123
  a76 := Try.isAgg123
  z76 := Try.sizeOf123
  v76 := Try.zeroValue123
  t77 := Try.underlying124
  a77 := Try.isAgg124
  z77 := Try.sizeOf124
  v77 := Try.zeroValue124 }
end Go.Proofs.Ytielcgplbnlgbaa
end

section
/- Contract of slices.SortFunc at nodes: the conditions that the theorem names. -/
set_option linter.unusedVariables false
set_option linter.unusedSimpArgs false
namespace Go.Proofs.Ytielcgplbnlgbaa
open Go.Shelf Go.Sort

def ND.v0 (x : ND) : List Value := [.int .i64 x.op, .int .i64 x.n, .int .i64 x.v.kd, .int .i64 x.v.n, .string x.v.s]
instance : Inhabited ND := ⟨nd0⟩

theorem nd_plain : PlainC ND.c ND.v0 := fun x => ⟨rfl, fun j m h => by
  match j, h with
  | 0, h => simp at h; subst h; exact ⟨rfl, fun Φ v => ⟨fun r => r.inv_int, fun e => e ▸ .int _ _⟩⟩
  | 1, h => simp at h; subst h; exact ⟨rfl, fun Φ v => ⟨fun r => r.inv_int, fun e => e ▸ .int _ _⟩⟩
  | 2, h => simp at h; subst h; exact ⟨rfl, fun Φ v => ⟨fun r => r.inv_int, fun e => e ▸ .int _ _⟩⟩
  | 3, h => simp at h; subst h; exact ⟨rfl, fun Φ v => ⟨fun r => r.inv_int, fun e => e ▸ .int _ _⟩⟩
  | 4, h => simp at h; subst h; exact ⟨rfl, fun Φ v => ⟨fun r => r.inv_str, fun e => e ▸ .str _⟩⟩⟩

theorem nd_lt (x y : ND) : ltOf (fun x y : ND => ordI (cmpL x.key y.key)) x y = decide (lessK x.key y.key) := by
  have e : (ordI (cmpL x.key y.key) < 0) ↔ lessK x.key y.key := by
    unfold lessK
    cases cmpL x.key y.key <;> simp [ordI]
  unfold ltOf
  simp only [e]

theorem nd_swo : SWO (ltOf fun x y : ND => ordI (cmpL x.key y.key)) where
  irrefl x := by rw [nd_lt]; simp [lessK_irrefl]
  trans x y z h1 h2 := by rw [nd_lt] at *; simp only [decide_eq_true_eq] at *; exact lessK_trans h1 h2
  ntrans x y z h1 h2 := by
    rw [nd_lt] at *
    simp only [decide_eq_false_iff_not] at *
    intro h3
    by_cases e : y.key = z.key
    · rw [e] at h1; exact h1 h3
    · exact h1 (lessK_trans h3 (lessK_total h2 e))

theorem sort_pos (l : Nat) (xs : List ND) (hx : xs.length ≤ 1000000) (h0 : 0 < xs.length) (ex : List (List MV)) : MCalls Try.prog 43 [.vec 5 l 0 xs.length, .fn (.func 44) [] []] (St.none.set l (.row 49 5 (xs.map ND.c ++ ex)))
    (fun r σ' => r = .tup [] ∧ ∃ ys : List ND, ys.Perm xs ∧ Sorted ys ∧ σ' = St.none.set l (.row 49 5 (ys.map ND.c ++ ex))) :=
  (sort_any (P := Try.prog) (ρ := lay_sortN_ren) lay_sortN 5 (by omega) Try.isAgg49 Try.sizeOf49 ND.c ND.v0 (fun _ => rfl) nd_plain (fun x v hv => by simp [ND.v0] at hv; rcases hv with rfl | rfl | rfl | rfl | rfl <;> rfl) (fun x y => ordI (cmpL x.key y.key)) nd_swo 44
    lorder_call (enters_of Try.func44 (by kernel_rfl) rfl) ⟨_, Try.func43, rfl, by kernel_rfl⟩ l 49 xs ex h0 (by omega)).mono fun r σ' ⟨h1, ys, h2, h3, h4⟩ => ⟨h1, ys, h2, List.pairwise_iff_getElem.2 fun i j hi hj hij => by
      have h := List.pairwise_iff_getElem.1 h3 i j hi hj hij
      rw [nd_lt] at h
      simpa using h, h4⟩
end Go.Proofs.Ytielcgplbnlgbaa
end

section
/- Contracts of slices.SortFunc at nodes, at any length, and of logic.Atoms: the conditions that each theorem names. -/
set_option linter.unusedVariables false
set_option linter.unusedSimpArgs false
namespace Go.Proofs.Ytielcgplbnlgbaa
open Go.Shelf Go.Sort

theorem bitslen_call (n : Nat) (hn : n ≤ 1000000) : MCalls Try.prog 63 [.int .u64 n] St.none (fun r _ => r = .int .i64 (Lib.bitLen n)) := by
  refine ⟨⟨_, Try.func63, rfl, by kernel_rfl⟩, fun Φ w vs hi hr => ?_⟩
  have e0 : vs.getD 0 undef = .int .u64 n := (hr.2 0 _ rfl).inv_int
  have hvs : vs = #[.int .u64 n] := by
    have h2 := hr.1
    simp at h2
    refine Array.ext (by simpa using h2) fun i q1 q2 => ?_
    match i, q1, q2 with
    | 0, q1, _ => have := e0; simp [Array.getD, q1] at this; exact this
  subst hvs
  have h := Any.bits_Len (SlLaysF0.n15.bits (P := Try.prog) (ρ := lay_sortN_ren) { lay_sortN with }) (n : Int) w (by omega) (by omega)
  rw [Int.toNat_natCast] at h
  refine h.mono ?_
  rintro e w' ⟨rfl, rfl⟩
  exact ⟨_, _, _, Φ, rfl, .int _ _, hi, .refl _ _ _, rfl⟩

theorem ins_nil (l : Nat) (ex : List (List MV)) : MCalls Try.prog 83 [.vec 5 l 0 0, .int .i64 0, .int .i64 0, .fn (.func 44) [] []] (St.none.set l (.row 49 5 ex)) (fun r σ' => r = .tup [] ∧ σ' = St.none.set l (.row 49 5 ex)) := by
  refine (MCalls.body 53 [] Try.func83 rfl rfl rfl rfl ?_)
  repeat' (first | ((with_reducible refine wN fun nl hnl => ?_); revert hnl; (repeat with_reducible refine wS fun _ _ => ?_); intro hnl) | (with_reducible first | refine mdraw_plain mixed (by decide +kernel) ?_ | refine wI (fun h => ?_) (fun h => ?_) | refine wF (fun h => ?_) (fun h => ?_) | refine wG (fun h => ?_) (fun h => ?_) | refine wH (fun h => ?_) (fun h => ?_)) | (with_reducible refine mfork_bool (fun h => ?_) (fun h => ?_) <;> simp only [h]) | (with_reducible refine mgfork_bool (fun h => ?_) (fun h => ?_) <;> simp only [h]) | (simp (config := { maxSteps := 4000000 }) (disch := first | decide | assumption | omega | (simp only [wL]; omega)) only [go_sem, Nat.reduceAdd, Nat.reduceSub, Nat.reduceMul, Nat.reduceDiv, Nat.reduceMod, Nat.reduceLT, Nat.reduceLeDiff, Nat.reduceEqDiff, Nat.reduceSucc, Nat.reduceGT, Int.reduceAdd, Int.reduceSub, Int.reduceMul, Int.reduceNeg, Int.reduceLT, Int.reduceLE, Int.reduceEq, Int.reduceToNat, reduceIte, Try.f83]))
  refine mloop_intro (α := Unit) (fun _ => ⟨53, [(8, .int .i64 1), (0, .vec 5 l 0 0), (1, .int .i64 0), (2, .int .i64 0), (3, .fn (.func 44) [] [])], []⟩) (fun _ => St.none.set l (.row 49 5 ex)) (fun _ => True) (fun _ => 0) (.of (.less ?_ (St.le_refl _)) ⟨(), rfl, rfl, trivial⟩) ?_
  · simp (config := { maxSteps := 4000000 }) (disch := first | decide | assumption | omega | (simp only [wL]; omega)) only [go_sem, Nat.reduceAdd, Nat.reduceSub, Nat.reduceMul, Nat.reduceDiv, Nat.reduceMod, Nat.reduceLT, Nat.reduceLeDiff, Nat.reduceEqDiff, Nat.reduceSucc, Nat.reduceGT, Int.reduceAdd, Int.reduceSub, Int.reduceMul, Int.reduceNeg, Int.reduceLT, Int.reduceLE, Int.reduceEq, Int.reduceToNat, reduceIte, weak_int, weak_same]
  · intro _ _
    repeat' (first | ((with_reducible refine wN fun nl hnl => ?_); revert hnl; (repeat with_reducible refine wS fun _ _ => ?_); intro hnl) | (with_reducible first | refine mdraw_plain mixed (by decide +kernel) ?_ | refine wI (fun h => ?_) (fun h => ?_) | refine wF (fun h => ?_) (fun h => ?_) | refine wG (fun h => ?_) (fun h => ?_) | refine wH (fun h => ?_) (fun h => ?_)) | (with_reducible refine mfork_bool (fun h => ?_) (fun h => ?_) <;> simp only [h]) | (with_reducible refine mgfork_bool (fun h => ?_) (fun h => ?_) <;> simp only [h]) | (simp (config := { maxSteps := 4000000 }) (disch := first | decide | assumption | omega | (simp only [wL]; omega)) only [go_sem, Nat.reduceAdd, Nat.reduceSub, Nat.reduceMul, Nat.reduceDiv, Nat.reduceMod, Nat.reduceLT, Nat.reduceLeDiff, Nat.reduceEqDiff, Nat.reduceSucc, Nat.reduceGT, Int.reduceAdd, Int.reduceSub, Int.reduceMul, Int.reduceNeg, Int.reduceLT, Int.reduceLE, Int.reduceEq, Int.reduceToNat, reduceIte]))

theorem pdq_nil (l : Nat) (ex : List (List MV)) : MCalls Try.prog 62 [.vec 5 l 0 0, .int .i64 0, .int .i64 0, .int .i64 0, .fn (.func 44) [] []] (St.none.set l (.row 49 5 ex)) (fun r σ' => r = .tup [] ∧ σ' = St.none.set l (.row 49 5 ex)) := by
  refine (MCalls.body 148 [] Try.func62 rfl rfl rfl rfl ?_)
  repeat' (first | ((with_reducible refine wN fun nl hnl => ?_); revert hnl; (repeat with_reducible refine wS fun _ _ => ?_); intro hnl) | (with_reducible first | refine mdraw_plain mixed (by decide +kernel) ?_ | refine wI (fun h => ?_) (fun h => ?_) | refine wF (fun h => ?_) (fun h => ?_) | refine wG (fun h => ?_) (fun h => ?_) | refine wH (fun h => ?_) (fun h => ?_)) | (with_reducible refine mfork_bool (fun h => ?_) (fun h => ?_) <;> simp only [h]) | (with_reducible refine mgfork_bool (fun h => ?_) (fun h => ?_) <;> simp only [h]) | (simp (config := { maxSteps := 4000000 }) (disch := first | decide | assumption | omega | (simp only [wL]; omega)) only [go_sem, Nat.reduceAdd, Nat.reduceSub, Nat.reduceMul, Nat.reduceDiv, Nat.reduceMod, Nat.reduceLT, Nat.reduceLeDiff, Nat.reduceEqDiff, Nat.reduceSucc, Nat.reduceGT, Int.reduceAdd, Int.reduceSub, Int.reduceMul, Int.reduceNeg, Int.reduceLT, Int.reduceLE, Int.reduceEq, Int.reduceToNat, reduceIte, Try.f62]))
  refine mloop_intro (α := Unit) (fun _ => ⟨148, [(11, .bool true), (10, .bool true), (0, .vec 5 l 0 0), (1, .int .i64 0), (2, .int .i64 0), (3, .int .i64 0), (4, .fn (.func 44) [] [])], []⟩) (fun _ => St.none.set l (.row 49 5 ex)) (fun _ => True) (fun _ => 0) (.of (.less ?_ (St.le_refl _)) ⟨(), rfl, rfl, trivial⟩) ?_
  · simp (config := { maxSteps := 4000000 }) (disch := first | decide | assumption | omega | (simp only [wL]; omega)) only [go_sem, Nat.reduceAdd, Nat.reduceSub, Nat.reduceMul, Nat.reduceDiv, Nat.reduceMod, Nat.reduceLT, Nat.reduceLeDiff, Nat.reduceEqDiff, Nat.reduceSucc, Nat.reduceGT, Int.reduceAdd, Int.reduceSub, Int.reduceMul, Int.reduceNeg, Int.reduceLT, Int.reduceLE, Int.reduceEq, Int.reduceToNat, reduceIte, weak_int, weak_same]
  · intro _ _
    repeat' (first | (with_reducible refine use_same (ins_nil l ex) (St.le_refl _) ?_) | ((with_reducible refine wN fun nl hnl => ?_); revert hnl; (repeat with_reducible refine wS fun _ _ => ?_); intro hnl) | (with_reducible first | refine mdraw_plain mixed (by decide +kernel) ?_ | refine wI (fun h => ?_) (fun h => ?_) | refine wF (fun h => ?_) (fun h => ?_) | refine wG (fun h => ?_) (fun h => ?_) | refine wH (fun h => ?_) (fun h => ?_)) | (with_reducible refine mfork_bool (fun h => ?_) (fun h => ?_) <;> simp only [h]) | (with_reducible refine mgfork_bool (fun h => ?_) (fun h => ?_) <;> simp only [h]) | (simp (config := { maxSteps := 4000000 }) (disch := first | decide | assumption | omega | (simp only [wL]; omega)) only [go_sem, Nat.reduceAdd, Nat.reduceSub, Nat.reduceMul, Nat.reduceDiv, Nat.reduceMod, Nat.reduceLT, Nat.reduceLeDiff, Nat.reduceEqDiff, Nat.reduceSucc, Nat.reduceGT, Int.reduceAdd, Int.reduceSub, Int.reduceMul, Int.reduceNeg, Int.reduceLT, Int.reduceLE, Int.reduceEq, Int.reduceToNat, reduceIte]))

theorem sort_nil (l : Nat) (ex : List (List MV)) : MCalls Try.prog 43 [.vec 5 l 0 0, .fn (.func 44) [] []] (St.none.set l (.row 49 5 ex)) (fun r σ' => r = .tup [] ∧ σ' = St.none.set l (.row 49 5 ex)) := by
  refine (MCalls.body 14 [] Try.func43 rfl rfl rfl rfl ?_)
  have hb := bitslen_call 0 (by omega)
  rw [show Lib.bitLen 0 = 0 by decide] at hb
  repeat' (first | (with_reducible refine use_pure hb ?_) | ((with_reducible refine wN fun nl hnl => ?_); revert hnl; (repeat with_reducible refine wS fun _ _ => ?_); intro hnl) | (with_reducible first | refine mdraw_plain mixed (by decide +kernel) ?_ | refine wI (fun h => ?_) (fun h => ?_) | refine wF (fun h => ?_) (fun h => ?_) | refine wG (fun h => ?_) (fun h => ?_) | refine wH (fun h => ?_) (fun h => ?_)) | (with_reducible refine mfork_bool (fun h => ?_) (fun h => ?_) <;> simp only [h]) | (with_reducible refine mgfork_bool (fun h => ?_) (fun h => ?_) <;> simp only [h]) | (simp (config := { maxSteps := 4000000 }) (disch := first | decide | assumption | omega | (simp only [wL]; omega)) only [go_sem, Nat.reduceAdd, Nat.reduceSub, Nat.reduceMul, Nat.reduceDiv, Nat.reduceMod, Nat.reduceLT, Nat.reduceLeDiff, Nat.reduceEqDiff, Nat.reduceSucc, Nat.reduceGT, Int.reduceAdd, Int.reduceSub, Int.reduceMul, Int.reduceNeg, Int.reduceLT, Int.reduceLE, Int.reduceEq, Int.reduceToNat, reduceIte, Try.f43]))
  refine use_same (pdq_nil l ex) (St.le_refl _) ?_
  repeat' (first | ((with_reducible refine wN fun nl hnl => ?_); revert hnl; (repeat with_reducible refine wS fun _ _ => ?_); intro hnl) | (with_reducible first | refine mdraw_plain mixed (by decide +kernel) ?_ | refine wI (fun h => ?_) (fun h => ?_) | refine wF (fun h => ?_) (fun h => ?_) | refine wG (fun h => ?_) (fun h => ?_) | refine wH (fun h => ?_) (fun h => ?_)) | (with_reducible refine mfork_bool (fun h => ?_) (fun h => ?_) <;> simp only [h]) | (with_reducible refine mgfork_bool (fun h => ?_) (fun h => ?_) <;> simp only [h]) | (simp (config := { maxSteps := 4000000 }) (disch := first | decide | assumption | omega | (simp only [wL]; omega)) only [go_sem, Nat.reduceAdd, Nat.reduceSub, Nat.reduceMul, Nat.reduceDiv, Nat.reduceMod, Nat.reduceLT, Nat.reduceLeDiff, Nat.reduceEqDiff, Nat.reduceSucc, Nat.reduceGT, Int.reduceAdd, Int.reduceSub, Int.reduceMul, Int.reduceNeg, Int.reduceLT, Int.reduceLE, Int.reduceEq, Int.reduceToNat, reduceIte]))

theorem sort_call (l : Nat) (xs : List ND) (hx : xs.length ≤ 1000000) (ex : List (List MV)) : MCalls Try.prog 43 [.vec 5 l 0 xs.length, .fn (.func 44) [] []] (St.none.set l (.row 49 5 (xs.map ND.c ++ ex)))
    (fun r σ' => r = .tup [] ∧ ∃ ys : List ND, ys.Perm xs ∧ Sorted ys ∧ σ' = St.none.set l (.row 49 5 (ys.map ND.c ++ ex))) := by
  rcases Nat.eq_zero_or_pos xs.length with h | h
  · have : xs = [] := List.eq_nil_of_length_eq_zero h
    subst this
    exact (sort_nil l ex).mono fun r σ' ⟨h1, h2⟩ => ⟨h1, [], .refl _, List.Pairwise.nil, h2⟩
  · exact sort_pos l xs hx h ex
end Go.Proofs.Ytielcgplbnlgbaa
end

section
/- Contract of logic.Atoms: the conditions that the theorem names. -/
set_option linter.unusedVariables false
set_option linter.unusedSimpArgs false
namespace Go.Proofs.Ytielcgplbnlgbaa

theorem filt_succ {m : List ND} {k : Nat} (h : k < m.length) : (m.take (k + 1)).filter isAtom = (m.take k).filter isAtom ++ (if isAtom (m.getD k nd0) = true then [m.getD k nd0] else []) := by
  rw [List.take_succ_eq_append_getElem h, List.filter_append, getD_of_lt nd0 h]
  congr 1
  cases e : isAtom m[k] <;> simp [e]

theorem filt_le (m : List ND) (k : Nat) : ((m.take k).filter isAtom).length ≤ k :=
  Nat.le_trans (List.length_filter_le ..) (by simp; omega)

set_option maxHeartbeats 4000000 in
theorem atoms_call (ls : List (List ND)) (t : Bool) (hl : ls.length ≤ 1000) (hs : ∀ l, l ∈ ls → l.length ≤ 1000) : MCalls Try.prog 23 [.lst 1 (ls.map fun l => [.lst 5 (l.map ND.c) false]) t] St.none (fun r _ => r = .lst 5 ((atomsS ls.flatten).map ND.c) false) := by
  refine MCalls.seen (MCalls.body 36 [.tmp 2] Try.func23 rfl rfl rfl rfl ?_)
  have hc := concat_call ls t hl hs
  have htot := flat_le hs (i := ls.length) (Nat.le_refl _)
  rw [List.take_length] at htot
  obtain ⟨m, hm⟩ : ∃ m, ls.flatten = m := ⟨_, rfl⟩
  rw [hm] at hc htot ⊢
  have hml : m.length ≤ 1000000 := by omega
  repeat' (first | (with_reducible refine use_pure hc ?_) | ((with_reducible refine wN fun nl hnl => ?_); revert hnl; (repeat with_reducible refine wS fun _ _ => ?_); intro hnl) | (with_reducible first | refine mdraw_plain mixed (by decide +kernel) ?_ | refine wI (fun h => ?_) (fun h => ?_) | refine wF (fun h => ?_) (fun h => ?_) | refine wG (fun h => ?_) (fun h => ?_) | refine wH (fun h => ?_) (fun h => ?_)) | (with_reducible refine mfork_bool (fun h => ?_) (fun h => ?_) <;> simp only [h]) | (with_reducible refine mgfork_bool (fun h => ?_) (fun h => ?_) <;> simp only [h]) | (simp (config := { maxSteps := 4000000 }) (disch := first | decide | assumption | omega | (simp only [wL]; omega)) only [go_sem, Nat.reduceAdd, Nat.reduceSub, Nat.reduceMul, Nat.reduceDiv, Nat.reduceMod, Nat.reduceLT, Nat.reduceLeDiff, Nat.reduceEqDiff, Nat.reduceSucc, Nat.reduceGT, Int.reduceAdd, Int.reduceSub, Int.reduceMul, Int.reduceNeg, Int.reduceLT, Int.reduceLE, Int.reduceEq, Int.reduceToNat, reduceIte, Try.f23]))
  refine mloop_intro (α := Nat × Nat × List (List MV)) (fun a => ⟨36, [(9, .int .i64 (a.1 : Int)), (8, .int .i64 (m.length : Int)), (7, .lst 5 (m.map ND.c) false), (3, .vec 5 a.2.1 0 ((m.take a.1).filter isAtom).length)], []⟩)
    (fun a => St.none.set a.2.1 (.row 49 5 (((m.take a.1).filter isAtom).map ND.c ++ a.2.2))) (fun a => a.1 ≤ m.length) (fun a => m.length - a.1) ?_ ?_
  · refine Gh.row 49 5 (fun k => [(9, .int .i64 0), (8, .int .i64 (m.length : Int)), (7, .lst 5 (m.map ND.c) false), (3, .vec 5 k 0 0)]) (fun k p hp => ?_) fun k hk => .done ⟨(0, k, []), rfl, rfl, Nat.zero_le _⟩
    simp only [List.mem_cons, List.not_mem_nil, or_false] at hp
    rcases hp with rfl | rfl | rfl | rfl
    · exact .inl rfl
    · exact .inl rfl
    · exact .inl rfl
    · exact .inr ⟨rfl, .inl rfl⟩
  · rintro ⟨k, q, ex⟩ hk
    simp only at hk ⊢
    by_cases hlt : k < m.length
    · have hfl := filt_le m k
      have hsucc := filt_succ hlt
      cases ha : isAtom (m.getD k nd0)
      · rw [ha, if_neg (by simp), List.append_nil] at hsucc
        have hn : parts (m.getD k nd0).op ≠ 0 ∨ (parts (m.getD k nd0).op = 0 ∧ (m.getD k nd0).op = 1) ∨ (parts (m.getD k nd0).op = 0 ∧ (m.getD k nd0).op ≠ 1 ∧ (m.getD k nd0).op = 2) := by
          simp only [isAtom, decide_eq_false_iff_not] at ha
          rcases Classical.em (parts (m.getD k nd0).op = 0) with h0 | h0
          · rcases Classical.em ((m.getD k nd0).op = 1) with h1 | h1
            · exact .inr (.inl ⟨h0, h1⟩)
            · rcases Classical.em ((m.getD k nd0).op = 2) with h2 | h2
              · exact .inr (.inr ⟨h0, h1, h2⟩)
              · exact absurd ⟨h0, h1, h2⟩ ha
          · exact .inl h0
        rcases hn with a1 | ⟨a1, a2⟩ | ⟨a1, a2, a3⟩
        · repeat' (first | (with_reducible refine use_pure (parts_call _) ?_) | ((with_reducible refine wN fun nl hnl => ?_); revert hnl; (repeat with_reducible refine wS fun _ _ => ?_); intro hnl) | (with_reducible first | refine mdraw_plain mixed (by decide +kernel) ?_ | refine wI (fun h => ?_) (fun h => ?_) | refine wF (fun h => ?_) (fun h => ?_) | refine wG (fun h => ?_) (fun h => ?_) | refine wH (fun h => ?_) (fun h => ?_)) | (with_reducible refine mfork_bool (fun h => ?_) (fun h => ?_) <;> simp only [h]) | (with_reducible refine mgfork_bool (fun h => ?_) (fun h => ?_) <;> simp only [h]) | (simp (config := { maxSteps := 4000000 }) (disch := first | decide | assumption | omega | (simp only [wL]; omega)) only [go_sem, Nat.reduceAdd, Nat.reduceSub, Nat.reduceMul, Nat.reduceDiv, Nat.reduceMod, Nat.reduceLT, Nat.reduceLeDiff, Nat.reduceEqDiff, Nat.reduceSucc, Nat.reduceGT, Int.reduceAdd, Int.reduceSub, Int.reduceMul, Int.reduceNeg, Int.reduceLT, Int.reduceLE, Int.reduceEq, Int.reduceToNat, reduceIte, getD_mapd nd0, a1]))
          all_goals refine .of (.less (l1 := [(9, .int .i64 ((k + 1 : Nat) : Int)), (8, .int .i64 (m.length : Int)), (7, .lst 5 (m.map ND.c) false), (3, .vec 5 q 0 ((m.take (k + 1)).filter isAtom).length)]) (σ1 := St.none.set q (.row 49 5 (((m.take (k + 1)).filter isAtom).map ND.c ++ ex))) ?_ (St.set_le (St.none_le _) ((set_miss _ _ _ _ (by assumption)).trans ((set_hit _ _ _).trans ?_)))) ⟨(k + 1, q, ex), rfl, rfl, by simp only; omega, by simp only; omega⟩
          all_goals first | rfl | (rw [hsucc]; done) | (rw [hsucc]; simp (config := { maxSteps := 4000000 }) (disch := first | decide | assumption | omega | (simp only [wL]; omega)) only [go_sem, Nat.reduceAdd, Nat.reduceSub, Nat.reduceMul, Nat.reduceDiv, Nat.reduceMod, Nat.reduceLT, Nat.reduceLeDiff, Nat.reduceEqDiff, Nat.reduceSucc, Nat.reduceGT, Int.reduceAdd, Int.reduceSub, Int.reduceMul, Int.reduceNeg, Int.reduceLT, Int.reduceLE, Int.reduceEq, Int.reduceToNat, reduceIte, weak_int, weak_same]; done) | (rw [hsucc]; simp (config := { maxSteps := 4000000 }) (disch := first | decide | assumption | omega | (simp only [wL]; omega)) only [go_sem, Nat.reduceAdd, Nat.reduceSub, Nat.reduceMul, Nat.reduceDiv, Nat.reduceMod, Nat.reduceLT, Nat.reduceLeDiff, Nat.reduceEqDiff, Nat.reduceSucc, Nat.reduceGT, Int.reduceAdd, Int.reduceSub, Int.reduceMul, Int.reduceNeg, Int.reduceLT, Int.reduceLE, Int.reduceEq, Int.reduceToNat, reduceIte, weak_int, weak_same]; omega)
        · repeat' (first | (with_reducible refine use_pure (parts_call _) ?_) | ((with_reducible refine wN fun nl hnl => ?_); revert hnl; (repeat with_reducible refine wS fun _ _ => ?_); intro hnl) | (with_reducible first | refine mdraw_plain mixed (by decide +kernel) ?_ | refine wI (fun h => ?_) (fun h => ?_) | refine wF (fun h => ?_) (fun h => ?_) | refine wG (fun h => ?_) (fun h => ?_) | refine wH (fun h => ?_) (fun h => ?_)) | (with_reducible refine mfork_bool (fun h => ?_) (fun h => ?_) <;> simp only [h]) | (with_reducible refine mgfork_bool (fun h => ?_) (fun h => ?_) <;> simp only [h]) | (simp (config := { maxSteps := 4000000 }) (disch := first | decide | assumption | omega | (simp only [wL]; omega)) only [go_sem, Nat.reduceAdd, Nat.reduceSub, Nat.reduceMul, Nat.reduceDiv, Nat.reduceMod, Nat.reduceLT, Nat.reduceLeDiff, Nat.reduceEqDiff, Nat.reduceSucc, Nat.reduceGT, Int.reduceAdd, Int.reduceSub, Int.reduceMul, Int.reduceNeg, Int.reduceLT, Int.reduceLE, Int.reduceEq, Int.reduceToNat, reduceIte, getD_mapd nd0, a1, a2]))
          all_goals refine .of (.less (l1 := [(9, .int .i64 ((k + 1 : Nat) : Int)), (8, .int .i64 (m.length : Int)), (7, .lst 5 (m.map ND.c) false), (3, .vec 5 q 0 ((m.take (k + 1)).filter isAtom).length)]) (σ1 := St.none.set q (.row 49 5 (((m.take (k + 1)).filter isAtom).map ND.c ++ ex))) ?_ (St.set_le (St.none_le _) ((set_miss _ _ _ _ (by assumption)).trans ((set_hit _ _ _).trans ?_)))) ⟨(k + 1, q, ex), rfl, rfl, by simp only; omega, by simp only; omega⟩
          all_goals first | rfl | (rw [hsucc]; done) | (rw [hsucc]; simp (config := { maxSteps := 4000000 }) (disch := first | decide | assumption | omega | (simp only [wL]; omega)) only [go_sem, Nat.reduceAdd, Nat.reduceSub, Nat.reduceMul, Nat.reduceDiv, Nat.reduceMod, Nat.reduceLT, Nat.reduceLeDiff, Nat.reduceEqDiff, Nat.reduceSucc, Nat.reduceGT, Int.reduceAdd, Int.reduceSub, Int.reduceMul, Int.reduceNeg, Int.reduceLT, Int.reduceLE, Int.reduceEq, Int.reduceToNat, reduceIte, weak_int, weak_same]; done) | (rw [hsucc]; simp (config := { maxSteps := 4000000 }) (disch := first | decide | assumption | omega | (simp only [wL]; omega)) only [go_sem, Nat.reduceAdd, Nat.reduceSub, Nat.reduceMul, Nat.reduceDiv, Nat.reduceMod, Nat.reduceLT, Nat.reduceLeDiff, Nat.reduceEqDiff, Nat.reduceSucc, Nat.reduceGT, Int.reduceAdd, Int.reduceSub, Int.reduceMul, Int.reduceNeg, Int.reduceLT, Int.reduceLE, Int.reduceEq, Int.reduceToNat, reduceIte, weak_int, weak_same]; omega)
        · repeat' (first | (with_reducible refine use_pure (parts_call _) ?_) | ((with_reducible refine wN fun nl hnl => ?_); revert hnl; (repeat with_reducible refine wS fun _ _ => ?_); intro hnl) | (with_reducible first | refine mdraw_plain mixed (by decide +kernel) ?_ | refine wI (fun h => ?_) (fun h => ?_) | refine wF (fun h => ?_) (fun h => ?_) | refine wG (fun h => ?_) (fun h => ?_) | refine wH (fun h => ?_) (fun h => ?_)) | (with_reducible refine mfork_bool (fun h => ?_) (fun h => ?_) <;> simp only [h]) | (with_reducible refine mgfork_bool (fun h => ?_) (fun h => ?_) <;> simp only [h]) | (simp (config := { maxSteps := 4000000 }) (disch := first | decide | assumption | omega | (simp only [wL]; omega)) only [go_sem, Nat.reduceAdd, Nat.reduceSub, Nat.reduceMul, Nat.reduceDiv, Nat.reduceMod, Nat.reduceLT, Nat.reduceLeDiff, Nat.reduceEqDiff, Nat.reduceSucc, Nat.reduceGT, Int.reduceAdd, Int.reduceSub, Int.reduceMul, Int.reduceNeg, Int.reduceLT, Int.reduceLE, Int.reduceEq, Int.reduceToNat, reduceIte, getD_mapd nd0, a1, a2, a3]))
          all_goals refine .of (.less (l1 := [(9, .int .i64 ((k + 1 : Nat) : Int)), (8, .int .i64 (m.length : Int)), (7, .lst 5 (m.map ND.c) false), (3, .vec 5 q 0 ((m.take (k + 1)).filter isAtom).length)]) (σ1 := St.none.set q (.row 49 5 (((m.take (k + 1)).filter isAtom).map ND.c ++ ex))) ?_ (St.set_le (St.none_le _) ((set_miss _ _ _ _ (by assumption)).trans ((set_hit _ _ _).trans ?_)))) ⟨(k + 1, q, ex), rfl, rfl, by simp only; omega, by simp only; omega⟩
          all_goals first | rfl | (rw [hsucc]; done) | (rw [hsucc]; simp (config := { maxSteps := 4000000 }) (disch := first | decide | assumption | omega | (simp only [wL]; omega)) only [go_sem, Nat.reduceAdd, Nat.reduceSub, Nat.reduceMul, Nat.reduceDiv, Nat.reduceMod, Nat.reduceLT, Nat.reduceLeDiff, Nat.reduceEqDiff, Nat.reduceSucc, Nat.reduceGT, Int.reduceAdd, Int.reduceSub, Int.reduceMul, Int.reduceNeg, Int.reduceLT, Int.reduceLE, Int.reduceEq, Int.reduceToNat, reduceIte, weak_int, weak_same]; done) | (rw [hsucc]; simp (config := { maxSteps := 4000000 }) (disch := first | decide | assumption | omega | (simp only [wL]; omega)) only [go_sem, Nat.reduceAdd, Nat.reduceSub, Nat.reduceMul, Nat.reduceDiv, Nat.reduceMod, Nat.reduceLT, Nat.reduceLeDiff, Nat.reduceEqDiff, Nat.reduceSucc, Nat.reduceGT, Int.reduceAdd, Int.reduceSub, Int.reduceMul, Int.reduceNeg, Int.reduceLT, Int.reduceLE, Int.reduceEq, Int.reduceToNat, reduceIte, weak_int, weak_same]; omega)
      · rw [ha, if_pos rfl] at hsucc
        have ha' := ha
        simp only [isAtom, decide_eq_true_eq] at ha'
        obtain ⟨a1, a2, a3⟩ := ha'
        repeat' (first | (with_reducible refine use_pure (parts_call _) ?_) | ((with_reducible refine wN fun nl hnl => ?_); revert hnl; (repeat with_reducible refine wS fun _ _ => ?_); intro hnl) | (with_reducible first | refine mdraw_plain mixed (by decide +kernel) ?_ | refine wI (fun h => ?_) (fun h => ?_) | refine wF (fun h => ?_) (fun h => ?_) | refine wG (fun h => ?_) (fun h => ?_) | refine wH (fun h => ?_) (fun h => ?_)) | (with_reducible refine mfork_bool (fun h => ?_) (fun h => ?_) <;> simp only [h]) | (with_reducible refine mgfork_bool (fun h => ?_) (fun h => ?_) <;> simp only [h]) | (simp (config := { maxSteps := 4000000 }) (disch := first | decide | assumption | omega | (simp only [wL]; omega)) only [go_sem, Nat.reduceAdd, Nat.reduceSub, Nat.reduceMul, Nat.reduceDiv, Nat.reduceMod, Nat.reduceLT, Nat.reduceLeDiff, Nat.reduceEqDiff, Nat.reduceSucc, Nat.reduceGT, Int.reduceAdd, Int.reduceSub, Int.reduceMul, Int.reduceNeg, Int.reduceLT, Int.reduceLE, Int.reduceEq, Int.reduceToNat, reduceIte, getD_mapd nd0, a1]))
        · have hex : ex = [] := List.eq_nil_of_length_eq_zero (by omega)
          subst hex
          refine .of (.less (l1 := [(9, .int .i64 ((k + 1 : Nat) : Int)), (8, .int .i64 (m.length : Int)), (7, .lst 5 (m.map ND.c) false), (3, .vec 5 nl 0 ((m.take (k + 1)).filter isAtom).length)]) (σ1 := St.none.set nl (.row 49 5 (((m.take (k + 1)).filter isAtom).map ND.c ++ []))) ?_ (St.set_le (St.none_le _) ((set_hit _ _ _).trans ?_))) ⟨(k + 1, nl, []), rfl, rfl, by simp only; omega, by simp only; omega⟩
          · rw [hsucc, List.length_append]
            simp (config := { maxSteps := 4000000 }) (disch := first | decide | assumption | omega | (simp only [wL]; omega)) only [go_sem, Nat.reduceAdd, Nat.reduceSub, Nat.reduceMul, Nat.reduceDiv, Nat.reduceMod, Nat.reduceLT, Nat.reduceLeDiff, Nat.reduceEqDiff, Nat.reduceSucc, Nat.reduceGT, Int.reduceAdd, Int.reduceSub, Int.reduceMul, Int.reduceNeg, Int.reduceLT, Int.reduceLE, Int.reduceEq, Int.reduceToNat, reduceIte, weak_int, weak_same]
            omega
          · rw [hsucc, List.map_append]
            rw [List.append_nil, List.append_nil]; rfl
        · refine .of (.less (l1 := [(9, .int .i64 ((k + 1 : Nat) : Int)), (8, .int .i64 (m.length : Int)), (7, .lst 5 (m.map ND.c) false), (3, .vec 5 nl 0 ((m.take (k + 1)).filter isAtom).length)]) (σ1 := St.none.set nl (.row 49 5 (((m.take (k + 1)).filter isAtom).map ND.c ++ ex.drop 1))) ?_ (St.set_le (St.none_le _) ((set_hit _ _ _).trans ?_))) ⟨(k + 1, nl, ex.drop 1), rfl, rfl, by simp only; omega, by simp only; omega⟩
          · rw [hsucc, List.length_append]
            simp (config := { maxSteps := 4000000 }) (disch := first | decide | assumption | omega | (simp only [wL]; omega)) only [go_sem, Nat.reduceAdd, Nat.reduceSub, Nat.reduceMul, Nat.reduceDiv, Nat.reduceMod, Nat.reduceLT, Nat.reduceLeDiff, Nat.reduceEqDiff, Nat.reduceSucc, Nat.reduceGT, Int.reduceAdd, Int.reduceSub, Int.reduceMul, Int.reduceNeg, Int.reduceLT, Int.reduceLE, Int.reduceEq, Int.reduceToNat, reduceIte, weak_int, weak_same]
            omega
          · rw [hsucc, List.map_append]
            exact congrArg (fun r => some (MObj.row 49 5 r)) (app_flat _ _ [(m.getD k nd0).c] _ _ (by rw [List.length_map]) rfl)
    · have : k = m.length := by omega
      subst this
      repeat' (first | ((with_reducible refine wN fun nl hnl => ?_); revert hnl; (repeat with_reducible refine wS fun _ _ => ?_); intro hnl) | (with_reducible first | refine mdraw_plain mixed (by decide +kernel) ?_ | refine wI (fun h => ?_) (fun h => ?_) | refine wF (fun h => ?_) (fun h => ?_) | refine wG (fun h => ?_) (fun h => ?_) | refine wH (fun h => ?_) (fun h => ?_)) | (with_reducible refine mfork_bool (fun h => ?_) (fun h => ?_) <;> simp only [h]) | (with_reducible refine mgfork_bool (fun h => ?_) (fun h => ?_) <;> simp only [h]) | (simp (config := { maxSteps := 4000000 }) (disch := first | decide | assumption | omega | (simp only [wL]; omega)) only [go_sem, Nat.reduceAdd, Nat.reduceSub, Nat.reduceMul, Nat.reduceDiv, Nat.reduceMod, Nat.reduceLT, Nat.reduceLeDiff, Nat.reduceEqDiff, Nat.reduceSucc, Nat.reduceGT, Int.reduceAdd, Int.reduceSub, Int.reduceMul, Int.reduceNeg, Int.reduceLT, Int.reduceLE, Int.reduceEq, Int.reduceToNat, reduceIte, List.take_length]))
      refine use_frame (sort_call q (m.filter isAtom) (Nat.le_trans (List.length_filter_le ..) hml) ex) (St.le_refl _) ?_
      rintro v σ' ⟨rfl, ys, hperm, hsort, rfl⟩ -
      have hyl := hperm.length_eq
      repeat' (first | ((with_reducible refine wN fun nl hnl => ?_); revert hnl; (repeat with_reducible refine wS fun _ _ => ?_); intro hnl) | (with_reducible first | refine mdraw_plain mixed (by decide +kernel) ?_ | refine wI (fun h => ?_) (fun h => ?_) | refine wF (fun h => ?_) (fun h => ?_) | refine wG (fun h => ?_) (fun h => ?_) | refine wH (fun h => ?_) (fun h => ?_)) | (with_reducible refine mfork_bool (fun h => ?_) (fun h => ?_) <;> simp only [h]) | (with_reducible refine mgfork_bool (fun h => ?_) (fun h => ?_) <;> simp only [h]) | (simp (config := { maxSteps := 4000000 }) (disch := first | decide | assumption | omega | (simp only [wL]; omega)) only [go_sem, Nat.reduceAdd, Nat.reduceSub, Nat.reduceMul, Nat.reduceDiv, Nat.reduceMod, Nat.reduceLT, Nat.reduceLeDiff, Nat.reduceEqDiff, Nat.reduceSucc, Nat.reduceGT, Int.reduceAdd, Int.reduceSub, Int.reduceMul, Int.reduceNeg, Int.reduceLT, Int.reduceLE, Int.reduceEq, Int.reduceToNat, reduceIte, over_set, over_none, minus_set, minus_none, hyl.symm]))
      have hy2 : ys.length ≤ 1000000 := by rw [hyl]; exact Nat.le_trans (List.length_filter_le ..) hml
      refine use_frame (compact_call q ys hy2 ex) (St.le_refl _) ?_
      rintro v σ' ⟨ex', rfl, rfl⟩ -
      rw [comp_atoms hperm hsort]
      repeat' (first | ((with_reducible refine wN fun nl hnl => ?_); revert hnl; (repeat with_reducible refine wS fun _ _ => ?_); intro hnl) | (with_reducible first | refine mdraw_plain mixed (by decide +kernel) ?_ | refine wI (fun h => ?_) (fun h => ?_) | refine wF (fun h => ?_) (fun h => ?_) | refine wG (fun h => ?_) (fun h => ?_) | refine wH (fun h => ?_) (fun h => ?_)) | (with_reducible refine mfork_bool (fun h => ?_) (fun h => ?_) <;> simp only [h]) | (with_reducible refine mgfork_bool (fun h => ?_) (fun h => ?_) <;> simp only [h]) | (simp (config := { maxSteps := 4000000 }) (disch := first | decide | assumption | omega | (simp only [wL]; omega)) only [go_sem, Nat.reduceAdd, Nat.reduceSub, Nat.reduceMul, Nat.reduceDiv, Nat.reduceMod, Nat.reduceLT, Nat.reduceLeDiff, Nat.reduceEqDiff, Nat.reduceSucc, Nat.reduceGT, Int.reduceAdd, Int.reduceSub, Int.reduceMul, Int.reduceNeg, Int.reduceLT, Int.reduceLE, Int.reduceEq, Int.reduceToNat, reduceIte, over_set, over_none, minus_set, minus_none]))
      have hv := View.vec (σ := St.none.set q (.row 49 5 ((atomsS m).map ND.c ++ ex'))) (l := q) (lo := 0) (n := (atomsS m).length) (set_hit _ _ _) (by rw [List.length_append, List.length_map]; omega)
      have e : (((atomsS m).map ND.c ++ ex').drop 0).take (atomsS m).length = (atomsS m).map ND.c := by
        rw [List.drop_zero, List.take_append_of_le_length (by rw [List.length_map]; omega), List.take_of_length_le (by rw [List.length_map]; omega)]
      rw [e] at hv
      exact hv
end Go.Proofs.Ytielcgplbnlgbaa
end

section
/- Contracts of the reference's atom and Has: the conditions that the theorems name. -/
set_option linter.unusedVariables false
set_option linter.unusedSimpArgs false
namespace Go.Proofs.Ytielcgplbnlgbaa

theorem ratom_call (x : ND) : MCalls Try.prog 35 [.agg x.c] St.none (fun r _ => r = .bool (atomR x)) := by
  refine (MCalls.body 11 [.tmp 2] Try.func35 rfl rfl rfl rfl ?_)
  obtain ⟨op, n, kd, vn, s⟩ := x
  repeat' (first | ((with_reducible refine wN fun nl hnl => ?_); revert hnl; (repeat with_reducible refine wS fun _ _ => ?_); intro hnl) | (with_reducible first | refine mdraw_plain mixed (by decide +kernel) ?_ | refine wI (fun h => ?_) (fun h => ?_) | refine wF (fun h => ?_) (fun h => ?_) | refine wG (fun h => ?_) (fun h => ?_) | refine wH (fun h => ?_) (fun h => ?_)) | (with_reducible refine mfork_bool (fun h => ?_) (fun h => ?_) <;> simp only [h]) | (with_reducible refine mgfork_bool (fun h => ?_) (fun h => ?_) <;> simp only [h]) | (simp (config := { maxSteps := 4000000 }) (disch := first | decide | assumption | omega | (simp only [wL]; omega)) only [go_sem, Nat.reduceAdd, Nat.reduceSub, Nat.reduceMul, Nat.reduceDiv, Nat.reduceMod, Nat.reduceLT, Nat.reduceLeDiff, Nat.reduceEqDiff, Nat.reduceSucc, Nat.reduceGT, Int.reduceAdd, Int.reduceSub, Int.reduceMul, Int.reduceNeg, Int.reduceLT, Int.reduceLE, Int.reduceEq, Int.reduceToNat, reduceIte, Try.f35]))
  all_goals simp [atomR, *]
  all_goals omega

/-- Bit n of s. -/
def hasB (s : Nat) (n : Int) : Bool := decide (0 ≤ n ∧ n ≤ 31 ∧ s / 2 ^ n.toNat % 2 = 1)

theorem half_pow (s : Nat) (k : Nat) : s / 2 ^ k / 2 = s / 2 ^ (k + 1) := by
  rw [Nat.pow_succ, Nat.div_div_eq_div_mul]

set_option maxHeartbeats 2000000 in
theorem rhas_call (s : Nat) (n : Int) (h1 : s < 4294967296) : MCalls Try.prog 47 [.int .u32 (s : Int), .int .i64 n] St.none (fun r _ => r = .bool (hasB s n)) := by
  refine (MCalls.body 22 [.tmp 4] Try.func47 rfl rfl rfl rfl ?_)
  by_cases hn : n < 0 ∨ 31 < n
  · repeat' (first | ((with_reducible refine wN fun nl hnl => ?_); revert hnl; (repeat with_reducible refine wS fun _ _ => ?_); intro hnl) | (with_reducible first | refine mdraw_plain mixed (by decide +kernel) ?_ | refine wI (fun h => ?_) (fun h => ?_) | refine wF (fun h => ?_) (fun h => ?_) | refine wG (fun h => ?_) (fun h => ?_) | refine wH (fun h => ?_) (fun h => ?_)) | (with_reducible refine mfork_bool (fun h => ?_) (fun h => ?_) <;> simp only [h]) | (with_reducible refine mgfork_bool (fun h => ?_) (fun h => ?_) <;> simp only [h]) | (simp (config := { maxSteps := 4000000 }) (disch := first | decide | assumption | omega | (simp only [wL]; omega)) only [go_sem, Nat.reduceAdd, Nat.reduceSub, Nat.reduceMul, Nat.reduceDiv, Nat.reduceMod, Nat.reduceLT, Nat.reduceLeDiff, Nat.reduceEqDiff, Nat.reduceSucc, Nat.reduceGT, Int.reduceAdd, Int.reduceSub, Int.reduceMul, Int.reduceNeg, Int.reduceLT, Int.reduceLE, Int.reduceEq, Int.reduceToNat, reduceIte, Try.f47]))
    all_goals simp only [hasB, MV.bool.injEq, Bool.false_eq, decide_eq_false_iff_not]
    all_goals omega
  · obtain ⟨m, rfl⟩ : ∃ m : Nat, n = m := ⟨n.toNat, by omega⟩
    repeat' (first | ((with_reducible refine wN fun nl hnl => ?_); revert hnl; (repeat with_reducible refine wS fun _ _ => ?_); intro hnl) | (with_reducible first | refine mdraw_plain mixed (by decide +kernel) ?_ | refine wI (fun h => ?_) (fun h => ?_) | refine wF (fun h => ?_) (fun h => ?_) | refine wG (fun h => ?_) (fun h => ?_) | refine wH (fun h => ?_) (fun h => ?_)) | (with_reducible refine mfork_bool (fun h => ?_) (fun h => ?_) <;> simp only [h]) | (with_reducible refine mgfork_bool (fun h => ?_) (fun h => ?_) <;> simp only [h]) | (simp (config := { maxSteps := 4000000 }) (disch := first | decide | assumption | omega | (simp only [wL]; omega)) only [go_sem, Nat.reduceAdd, Nat.reduceSub, Nat.reduceMul, Nat.reduceDiv, Nat.reduceMod, Nat.reduceLT, Nat.reduceLeDiff, Nat.reduceEqDiff, Nat.reduceSucc, Nat.reduceGT, Int.reduceAdd, Int.reduceSub, Int.reduceMul, Int.reduceNeg, Int.reduceLT, Int.reduceLE, Int.reduceEq, Int.reduceToNat, reduceIte, Try.f47]))
    refine mloop_intro (α := Nat) (fun a => ⟨22, [(5, .int .i64 (a : Int)), (0, .int .u32 ((s / 2 ^ a : Nat) : Int)), (1, .int .i64 (m : Int))], []⟩) (fun _ => St.none)
      (fun a => a ≤ m) (fun a => m - a) (.of (.less ?_ (St.le_refl _)) ⟨0, rfl, rfl, Nat.zero_le _⟩) ?_
    · simp (config := { maxSteps := 4000000 }) (disch := first | decide | assumption | omega | (simp only [wL]; omega)) only [go_sem, Nat.reduceAdd, Nat.reduceSub, Nat.reduceMul, Nat.reduceDiv, Nat.reduceMod, Nat.reduceLT, Nat.reduceLeDiff, Nat.reduceEqDiff, Nat.reduceSucc, Nat.reduceGT, Int.reduceAdd, Int.reduceSub, Int.reduceMul, Int.reduceNeg, Int.reduceLT, Int.reduceLE, Int.reduceEq, Int.reduceToNat, reduceIte, weak_int, weak_same, Nat.pow_zero, Nat.div_one]
      rfl
    · intro k hk
      have hk : k ≤ m := hk
      have hb : s / 2 ^ k < 4294967296 := Nat.lt_of_le_of_lt (Nat.div_le_self ..) h1
      by_cases hlt : k < m
      · repeat' (first | ((with_reducible refine wN fun nl hnl => ?_); revert hnl; (repeat with_reducible refine wS fun _ _ => ?_); intro hnl) | (with_reducible first | refine mdraw_plain mixed (by decide +kernel) ?_ | refine wI (fun h => ?_) (fun h => ?_) | refine wF (fun h => ?_) (fun h => ?_) | refine wG (fun h => ?_) (fun h => ?_) | refine wH (fun h => ?_) (fun h => ?_)) | (with_reducible refine mfork_bool (fun h => ?_) (fun h => ?_) <;> simp only [h]) | (with_reducible refine mgfork_bool (fun h => ?_) (fun h => ?_) <;> simp only [h]) | (simp (config := { maxSteps := 4000000 }) (disch := first | decide | assumption | omega | (simp only [wL]; omega)) only [go_sem, Nat.reduceAdd, Nat.reduceSub, Nat.reduceMul, Nat.reduceDiv, Nat.reduceMod, Nat.reduceLT, Nat.reduceLeDiff, Nat.reduceEqDiff, Nat.reduceSucc, Nat.reduceGT, Int.reduceAdd, Int.reduceSub, Int.reduceMul, Int.reduceNeg, Int.reduceLT, Int.reduceLE, Int.reduceEq, Int.reduceToNat, reduceIte, Nat.add_zero]))
        refine .of (.less (l1 := [(5, .int .i64 ((k + 1 : Nat) : Int)), (0, .int .u32 ((s / 2 ^ (k + 1) : Nat) : Int)), (1, .int .i64 (m : Int))]) ?_ (St.le_refl _)) ⟨k + 1, rfl, rfl, by omega, by omega⟩
        rw [← half_pow]
        have ew : IntKind.u32.wrap (((s / 2 ^ k : Nat) : Int).tdiv 2) = ((s / 2 ^ k / 2 : Nat) : Int) := by
          generalize s / 2 ^ k = w at hb ⊢
          have e2 : ((w : Int)).tdiv 2 = ((w / 2 : Nat) : Int) := by
            rw [Int.tdiv_eq_ediv_of_nonneg (by omega)]
            omega
          rw [e2]
          simp only [IntKind.wrap, IntKind.signed, IntKind.bits]
          simp
          omega
        simp (config := { maxSteps := 4000000 }) (disch := first | decide | assumption | omega | (simp only [wL]; omega)) only [go_sem, Nat.reduceAdd, Nat.reduceSub, Nat.reduceMul, Nat.reduceDiv, Nat.reduceMod, Nat.reduceLT, Nat.reduceLeDiff, Nat.reduceEqDiff, Nat.reduceSucc, Nat.reduceGT, Int.reduceAdd, Int.reduceSub, Int.reduceMul, Int.reduceNeg, Int.reduceLT, Int.reduceLE, Int.reduceEq, Int.reduceToNat, reduceIte, weak_int, weak_same, ew]
        all_goals rfl
      · have : k = m := by omega
        subst this
        repeat' (first | ((with_reducible refine wN fun nl hnl => ?_); revert hnl; (repeat with_reducible refine wS fun _ _ => ?_); intro hnl) | (with_reducible first | refine mdraw_plain mixed (by decide +kernel) ?_ | refine wI (fun h => ?_) (fun h => ?_) | refine wF (fun h => ?_) (fun h => ?_) | refine wG (fun h => ?_) (fun h => ?_) | refine wH (fun h => ?_) (fun h => ?_)) | (with_reducible refine mfork_bool (fun h => ?_) (fun h => ?_) <;> simp only [h]) | (with_reducible refine mgfork_bool (fun h => ?_) (fun h => ?_) <;> simp only [h]) | (simp (config := { maxSteps := 4000000 }) (disch := first | decide | assumption | omega | (simp only [wL]; omega)) only [go_sem, Nat.reduceAdd, Nat.reduceSub, Nat.reduceMul, Nat.reduceDiv, Nat.reduceMod, Nat.reduceLT, Nat.reduceLeDiff, Nat.reduceEqDiff, Nat.reduceSucc, Nat.reduceGT, Int.reduceAdd, Int.reduceSub, Int.reduceMul, Int.reduceNeg, Int.reduceLT, Int.reduceLE, Int.reduceEq, Int.reduceToNat, reduceIte]))
        simp only [hasB, Int.toNat_natCast, MV.bool.injEq]
        have e2 : (((s / 2 ^ k : Nat) : Int).tmod 2) = ((s / 2 ^ k % 2 : Nat) : Int) := by
          generalize s / 2 ^ k = w at hb ⊢
          rw [Int.tmod_eq_emod_of_nonneg (by omega)]
          omega
        refine decide_eq_decide.mpr ?_
        rw [e2]
        generalize s / 2 ^ k % 2 = w
        omega

theorem cmpF_one (x y : ND) : cmpF [x] [y] = cmpL x.key y.key := by
  simp only [cmpF]
  cases h : cmpL x.key y.key <;> simp_all

theorem insN_len (x : ND) : ∀ l : List ND, (insN x l).length ≤ l.length + 1
  | [] => by simp [insN]
  | y :: l => by
    have := insN_len x l
    simp only [insN]
    repeat' split
    all_goals simp
    all_goals omega

theorem foldl_len : ∀ (l acc : List ND), (l.foldl (fun acc x => insN x acc) acc).length ≤ acc.length + l.length
  | [], acc => by simp
  | x :: l, acc => by
    have h1 := foldl_len l (insN x acc)
    have h2 := insN_len x acc
    simp only [List.foldl_cons, List.length_cons]
    omega

theorem mem_foldl {z : ND} : ∀ {l acc : List ND}, z ∈ l.foldl (fun acc x => insN x acc) acc → z ∈ acc ∨ z ∈ l
  | [], acc, h => .inl h
  | x :: l, acc, h => by
    rcases mem_foldl (l := l) h with h | h
    · rcases mem_insN.1 h with h | h
      · exact .inr (List.mem_cons.2 (.inl h))
      · exact .inl h
    · exact .inr (List.mem_cons.2 (.inr h))

theorem insN_pos (x : ND) : ∀ (l : List ND) (i : Nat), i ≤ l.length → (∀ q, q < i → lessK (l.getD q nd0).key x.key) → insN x l = l.take i ++ insN x (l.drop i)
  | l, 0, _, _ => by simp
  | [], i + 1, h, _ => by simp at h
  | y :: l, i + 1, h, hq => by
    have h0 := hq 0 (by omega)
    have ih := insN_pos x l i (by simp at h; omega) (fun q hlt => by have := hq (q + 1) (by omega); simpa using this)
    simp only [List.getD_cons_zero] at h0
    rw [List.take_succ_cons, List.drop_succ_cons, List.cons_append, ← ih]
    simp only [insN]
    rw [if_pos h0]
end Go.Proofs.Ytielcgplbnlgbaa
end

section
/- Contracts of the document's functions for values: the conditions that the theorems name. -/
set_option linter.unusedVariables false
set_option linter.unusedSimpArgs false
namespace Go.Proofs.Ytielcgplbnlgbaa

def lowB (c : Int) : Int := if 65 ≤ c ∧ c ≤ 90 then c + 32 else c
theorem lowB_range {c : Int} (h0 : 0 ≤ c) (h1 : c ≤ 255) : 0 ≤ lowB c ∧ lowB c ≤ 255 := by unfold lowB; split <;> omega
theorem rlow_call (c : Int) (h0 : 0 ≤ c) (h1 : c ≤ 255) : MCalls Try.prog 102 [.int .u8 c] St.none (fun r _ => r = .int .u8 (lowB c)) := by
  refine (MCalls.body 12 [.tmp 2] Try.func102 rfl rfl rfl rfl ?_)
  by_cases h2 : 65 ≤ c
  · by_cases h3 : c ≤ 90
    · rw [show lowB c = c + 32 from if_pos ⟨h2, h3⟩]
      repeat' (first | ((with_reducible refine wT ?_); (with_reducible refine wN fun _ hnl => ?_); revert hnl; (repeat with_reducible refine wS fun _ _ => ?_); intro hnl) | (with_reducible first | refine mdraw_plain mixed (by decide +kernel) ?_ | refine wI (fun h => ?_) (fun h => ?_) | refine wF (fun h => ?_) (fun h => ?_) | refine wG (fun h => ?_) (fun h => ?_) | refine wH (fun h => ?_) (fun h => ?_)) | (with_reducible refine mfork_bool (fun h => ?_) (fun h => ?_) <;> simp only [h]) | (with_reducible refine mgfork_bool (fun h => ?_) (fun h => ?_) <;> simp only [h]) | (simp (config := { maxSteps := 4000000 }) (disch := first | decide | assumption | omega | (simp only [wL]; omega)) only [go_sem, Nat.reduceAdd, Nat.reduceSub, Nat.reduceMul, Nat.reduceDiv, Nat.reduceMod, Nat.reduceLT, Nat.reduceLeDiff, Nat.reduceEqDiff, Nat.reduceSucc, Nat.reduceGT, Int.reduceAdd, Int.reduceSub, Int.reduceMul, Int.reduceNeg, Int.reduceLT, Int.reduceLE, Int.reduceEq, Int.reduceToNat, reduceIte, Try.f102]))
    · rw [show lowB c = c from if_neg fun h => h3 h.2]
      repeat' (first | ((with_reducible refine wT ?_); (with_reducible refine wN fun _ hnl => ?_); revert hnl; (repeat with_reducible refine wS fun _ _ => ?_); intro hnl) | (with_reducible first | refine mdraw_plain mixed (by decide +kernel) ?_ | refine wI (fun h => ?_) (fun h => ?_) | refine wF (fun h => ?_) (fun h => ?_) | refine wG (fun h => ?_) (fun h => ?_) | refine wH (fun h => ?_) (fun h => ?_)) | (with_reducible refine mfork_bool (fun h => ?_) (fun h => ?_) <;> simp only [h]) | (with_reducible refine mgfork_bool (fun h => ?_) (fun h => ?_) <;> simp only [h]) | (simp (config := { maxSteps := 4000000 }) (disch := first | decide | assumption | omega | (simp only [wL]; omega)) only [go_sem, Nat.reduceAdd, Nat.reduceSub, Nat.reduceMul, Nat.reduceDiv, Nat.reduceMod, Nat.reduceLT, Nat.reduceLeDiff, Nat.reduceEqDiff, Nat.reduceSucc, Nat.reduceGT, Int.reduceAdd, Int.reduceSub, Int.reduceMul, Int.reduceNeg, Int.reduceLT, Int.reduceLE, Int.reduceEq, Int.reduceToNat, reduceIte, Try.f102]))
  · rw [show lowB c = c from if_neg fun h => h2 h.1]
    repeat' (first | ((with_reducible refine wT ?_); (with_reducible refine wN fun _ hnl => ?_); revert hnl; (repeat with_reducible refine wS fun _ _ => ?_); intro hnl) | (with_reducible first | refine mdraw_plain mixed (by decide +kernel) ?_ | refine wI (fun h => ?_) (fun h => ?_) | refine wF (fun h => ?_) (fun h => ?_) | refine wG (fun h => ?_) (fun h => ?_) | refine wH (fun h => ?_) (fun h => ?_)) | (with_reducible refine mfork_bool (fun h => ?_) (fun h => ?_) <;> simp only [h]) | (with_reducible refine mgfork_bool (fun h => ?_) (fun h => ?_) <;> simp only [h]) | (simp (config := { maxSteps := 4000000 }) (disch := first | decide | assumption | omega | (simp only [wL]; omega)) only [go_sem, Nat.reduceAdd, Nat.reduceSub, Nat.reduceMul, Nat.reduceDiv, Nat.reduceMod, Nat.reduceLT, Nat.reduceLeDiff, Nat.reduceEqDiff, Nat.reduceSucc, Nat.reduceGT, Int.reduceAdd, Int.reduceSub, Int.reduceMul, Int.reduceNeg, Int.reduceLT, Int.reduceLE, Int.reduceEq, Int.reduceToNat, reduceIte, Try.f102]))

def fch (s : ByteArray) (i : Nat) : List (List MV) := [[.int .u8 (lowB ((s.toList.getD i 0).toNat : Int))]]
def foldT (s : ByteArray) : Nat → ByteArray
  | 0 => ⟨#[]⟩
  | i + 1 => foldT s i ++ bytesOf (fch s i)
def foldS (s : ByteArray) : ByteArray := foldT s s.size
theorem bytesOf_one (x : List MV) : (bytesOf [x]).size = 1 := rfl
theorem foldT_size (s : ByteArray) : ∀ i, (foldT s i).size = i
  | 0 => rfl
  | i + 1 => by rw [foldT, ByteArray.size_append, foldT_size s i, fch, bytesOf_one]

set_option maxHeartbeats 1000000 in
theorem rfold_call (s : ByteArray) (h : s.size ≤ 1000000) : MCalls Try.prog 79 [.str s] St.none (fun r _ => r = .str (foldS s)) := by
  refine (MCalls.body 20 [.tmp 2] Try.func79 rfl rfl rfl rfl ?_)
  repeat' (first | ((with_reducible refine wT ?_); (with_reducible refine wN fun _ hnl => ?_); revert hnl; (repeat with_reducible refine wS fun _ _ => ?_); intro hnl) | (with_reducible first | refine mdraw_plain mixed (by decide +kernel) ?_ | refine wI (fun h => ?_) (fun h => ?_) | refine wF (fun h => ?_) (fun h => ?_) | refine wG (fun h => ?_) (fun h => ?_) | refine wH (fun h => ?_) (fun h => ?_)) | (with_reducible refine mfork_bool (fun h => ?_) (fun h => ?_) <;> simp only [h]) | (with_reducible refine mgfork_bool (fun h => ?_) (fun h => ?_) <;> simp only [h]) | (simp (config := { maxSteps := 4000000 }) (disch := first | decide | assumption | omega | (simp only [wL]; omega)) only [go_sem, Nat.reduceAdd, Nat.reduceSub, Nat.reduceMul, Nat.reduceDiv, Nat.reduceMod, Nat.reduceLT, Nat.reduceLeDiff, Nat.reduceEqDiff, Nat.reduceSucc, Nat.reduceGT, Int.reduceAdd, Int.reduceSub, Int.reduceMul, Int.reduceNeg, Int.reduceLT, Int.reduceLE, Int.reduceEq, Int.reduceToNat, reduceIte, Try.f79]))
  refine mloop_intro (α := Nat) (fun i => ⟨20, [(4, .int .i64 (i : Int)), (3, .str (foldT s i)), (0, .str s)], []⟩)
    (fun _ => St.none) (fun i => i ≤ s.size) (fun i => s.size - i) (.of (.less ?_ (St.le_refl _)) ⟨0, rfl, rfl, Nat.zero_le _⟩) ?_
  · simp (config := { maxSteps := 4000000 }) (disch := first | decide | assumption | omega | (simp only [wL]; omega)) only [go_sem, Nat.reduceAdd, Nat.reduceSub, Nat.reduceMul, Nat.reduceDiv, Nat.reduceMod, Nat.reduceLT, Nat.reduceLeDiff, Nat.reduceEqDiff, Nat.reduceSucc, Nat.reduceGT, Int.reduceAdd, Int.reduceSub, Int.reduceMul, Int.reduceNeg, Int.reduceLT, Int.reduceLE, Int.reduceEq, Int.reduceToNat, reduceIte, weak_int, weak_same]
    exact ⟨rfl, .same _⟩
  · intro i hi
    have hi : i ≤ s.size := hi
    by_cases hlt : i < s.size
    · have hsz := foldT_size s i
      have hc0 : 0 ≤ ((s.toList.getD i 0).toNat : Int) := by omega
      have hc1 : ((s.toList.getD i 0).toNat : Int) ≤ 255 := by have := (s.toList.getD i 0).toNat_lt; omega
      have hlo := rlow_call _ hc0 hc1
      obtain ⟨hr0, hr1⟩ := lowB_range hc0 hc1
      have hf : foldT s (i + 1) = foldT s i ++ bytesOf (fch s i) := rfl
      have hfc : fch s i = [[.int .u8 (lowB ((s.toList.getD i 0).toNat : Int))]] := rfl
      have hone := bytesOf_one [.int .u8 (lowB ((s.toList.getD i 0).toNat : Int))]
      rw [hfc] at hf
      obtain ⟨c, hc⟩ : ∃ c : Int, ((s.toList.getD i 0).toNat : Int) = c := ⟨_, rfl⟩
      rw [hc] at hlo hr0 hr1 hf hone hc0 hc1
      repeat' (first | (with_reducible refine use_pure hlo ?_) | ((with_reducible refine wT ?_); (with_reducible refine wN fun _ hnl => ?_); revert hnl; (repeat with_reducible refine wS fun _ _ => ?_); intro hnl) | (with_reducible first | refine mdraw_plain mixed (by decide +kernel) ?_ | refine wI (fun h => ?_) (fun h => ?_) | refine wF (fun h => ?_) (fun h => ?_) | refine wG (fun h => ?_) (fun h => ?_) | refine wH (fun h => ?_) (fun h => ?_)) | (with_reducible refine mfork_bool (fun h => ?_) (fun h => ?_) <;> simp only [h]) | (with_reducible refine mgfork_bool (fun h => ?_) (fun h => ?_) <;> simp only [h]) | (simp (config := { maxSteps := 4000000 }) (disch := first | decide | assumption | omega | (simp only [wL]; omega)) only [go_sem, Nat.reduceAdd, Nat.reduceSub, Nat.reduceMul, Nat.reduceDiv, Nat.reduceMod, Nat.reduceLT, Nat.reduceLeDiff, Nat.reduceEqDiff, Nat.reduceSucc, Nat.reduceGT, Int.reduceAdd, Int.reduceSub, Int.reduceMul, Int.reduceNeg, Int.reduceLT, Int.reduceLE, Int.reduceEq, Int.reduceToNat, reduceIte, hc, hsz, hone, isByte]))
      refine .of (.less ?_ (St.none_le _)) ⟨i + 1, rfl, rfl, by omega, by omega⟩
      rw [hf]
      simp (config := { maxSteps := 4000000 }) (disch := first | decide | assumption | omega | (simp only [wL]; omega)) only [go_sem, Nat.reduceAdd, Nat.reduceSub, Nat.reduceMul, Nat.reduceDiv, Nat.reduceMod, Nat.reduceLT, Nat.reduceLeDiff, Nat.reduceEqDiff, Nat.reduceSucc, Nat.reduceGT, Int.reduceAdd, Int.reduceSub, Int.reduceMul, Int.reduceNeg, Int.reduceLT, Int.reduceLE, Int.reduceEq, Int.reduceToNat, reduceIte, weak_int, weak_same]
      rfl
    · have hie : i = s.size := by omega
      subst hie
      repeat' (first | ((with_reducible refine wT ?_); (with_reducible refine wN fun _ hnl => ?_); revert hnl; (repeat with_reducible refine wS fun _ _ => ?_); intro hnl) | (with_reducible first | refine mdraw_plain mixed (by decide +kernel) ?_ | refine wI (fun h => ?_) (fun h => ?_) | refine wF (fun h => ?_) (fun h => ?_) | refine wG (fun h => ?_) (fun h => ?_) | refine wH (fun h => ?_) (fun h => ?_)) | (with_reducible refine mfork_bool (fun h => ?_) (fun h => ?_) <;> simp only [h]) | (with_reducible refine mgfork_bool (fun h => ?_) (fun h => ?_) <;> simp only [h]) | (simp (config := { maxSteps := 4000000 }) (disch := first | decide | assumption | omega | (simp only [wL]; omega)) only [go_sem, Nat.reduceAdd, Nat.reduceSub, Nat.reduceMul, Nat.reduceDiv, Nat.reduceMod, Nat.reduceLT, Nat.reduceLeDiff, Nat.reduceEqDiff, Nat.reduceSucc, Nat.reduceGT, Int.reduceAdd, Int.reduceSub, Int.reduceMul, Int.reduceNeg, Int.reduceLT, Int.reduceLE, Int.reduceEq, Int.reduceToNat, reduceIte]))
      rfl

def lessB (a b : VA) : Bool := decide (a.kd = b.kd) && (decide (a.kd = 1) || decide (a.kd = 2)) && decide (ordI (cmpL a.key b.key) < 0)
set_option maxHeartbeats 1000000 in
theorem rvless_call (a b : VA) (ha : a.s.size ≤ 1000000) (hb : b.s.size ≤ 1000000) : MCalls Try.prog 58 [.agg a.c, .agg b.c] St.none (fun r _ => r = .bool (lessB a b)) := by
  refine (MCalls.body 26 [.tmp 4] Try.func58 rfl rfl rfl rfl ?_)
  have h1 := rvcompare_call a b ha hb
  have hd : lessB a b = (decide (a.kd = b.kd) && (decide (a.kd = 1) || decide (a.kd = 2)) && decide (ordI (cmpL a.key b.key) < 0)) := rfl
  generalize ordI (cmpL a.key b.key) = o at h1 hd
  generalize lessB a b = out at hd ⊢
  by_cases e1 : a.kd = b.kd
  · by_cases e2 : a.kd = 1
    · rw [decide_eq_true e1, decide_eq_true e2, Bool.true_or, Bool.true_and, Bool.true_and] at hd
      subst hd
      repeat' (first | (with_reducible first | refine up h1 ?_) | ((with_reducible refine wT ?_); (with_reducible refine wN fun _ hnl => ?_); revert hnl; (repeat with_reducible refine wS fun _ _ => ?_); intro hnl) | (with_reducible first | refine mdraw_plain mixed (by decide +kernel) ?_ | refine wI (fun h => ?_) (fun h => ?_) | refine wF (fun h => ?_) (fun h => ?_) | refine wG (fun h => ?_) (fun h => ?_) | refine wH (fun h => ?_) (fun h => ?_)) | (with_reducible refine mfork_bool (fun h => ?_) (fun h => ?_) <;> simp only [h]) | (with_reducible refine mgfork_bool (fun h => ?_) (fun h => ?_) <;> simp only [h]) | (simp (config := { maxSteps := 4000000 }) (disch := first | decide | assumption | omega | (simp only [wL]; omega)) only [go_sem, Nat.reduceAdd, Nat.reduceSub, Nat.reduceMul, Nat.reduceDiv, Nat.reduceMod, Nat.reduceLT, Nat.reduceLeDiff, Nat.reduceEqDiff, Nat.reduceSucc, Nat.reduceGT, Int.reduceAdd, Int.reduceSub, Int.reduceMul, Int.reduceNeg, Int.reduceLT, Int.reduceLE, Int.reduceEq, Int.reduceToNat, reduceIte, Try.f58]))
    · by_cases e3 : a.kd = 2
      · rw [decide_eq_true e1, decide_eq_true e3, Bool.or_true, Bool.true_and, Bool.true_and] at hd
        subst hd
        repeat' (first | (with_reducible first | refine up h1 ?_) | ((with_reducible refine wT ?_); (with_reducible refine wN fun _ hnl => ?_); revert hnl; (repeat with_reducible refine wS fun _ _ => ?_); intro hnl) | (with_reducible first | refine mdraw_plain mixed (by decide +kernel) ?_ | refine wI (fun h => ?_) (fun h => ?_) | refine wF (fun h => ?_) (fun h => ?_) | refine wG (fun h => ?_) (fun h => ?_) | refine wH (fun h => ?_) (fun h => ?_)) | (with_reducible refine mfork_bool (fun h => ?_) (fun h => ?_) <;> simp only [h]) | (with_reducible refine mgfork_bool (fun h => ?_) (fun h => ?_) <;> simp only [h]) | (simp (config := { maxSteps := 4000000 }) (disch := first | decide | assumption | omega | (simp only [wL]; omega)) only [go_sem, Nat.reduceAdd, Nat.reduceSub, Nat.reduceMul, Nat.reduceDiv, Nat.reduceMod, Nat.reduceLT, Nat.reduceLeDiff, Nat.reduceEqDiff, Nat.reduceSucc, Nat.reduceGT, Int.reduceAdd, Int.reduceSub, Int.reduceMul, Int.reduceNeg, Int.reduceLT, Int.reduceLE, Int.reduceEq, Int.reduceToNat, reduceIte, Try.f58]))
      · rw [decide_eq_false e2, decide_eq_false e3, Bool.or_false, Bool.and_false, Bool.false_and] at hd
        subst hd
        repeat' (first | (with_reducible first | refine up h1 ?_) | ((with_reducible refine wT ?_); (with_reducible refine wN fun _ hnl => ?_); revert hnl; (repeat with_reducible refine wS fun _ _ => ?_); intro hnl) | (with_reducible first | refine mdraw_plain mixed (by decide +kernel) ?_ | refine wI (fun h => ?_) (fun h => ?_) | refine wF (fun h => ?_) (fun h => ?_) | refine wG (fun h => ?_) (fun h => ?_) | refine wH (fun h => ?_) (fun h => ?_)) | (with_reducible refine mfork_bool (fun h => ?_) (fun h => ?_) <;> simp only [h]) | (with_reducible refine mgfork_bool (fun h => ?_) (fun h => ?_) <;> simp only [h]) | (simp (config := { maxSteps := 4000000 }) (disch := first | decide | assumption | omega | (simp only [wL]; omega)) only [go_sem, Nat.reduceAdd, Nat.reduceSub, Nat.reduceMul, Nat.reduceDiv, Nat.reduceMod, Nat.reduceLT, Nat.reduceLeDiff, Nat.reduceEqDiff, Nat.reduceSucc, Nat.reduceGT, Int.reduceAdd, Int.reduceSub, Int.reduceMul, Int.reduceNeg, Int.reduceLT, Int.reduceLE, Int.reduceEq, Int.reduceToNat, reduceIte, Try.f58]))
  · rw [decide_eq_false e1, Bool.false_and, Bool.false_and] at hd
    subst hd
    repeat' (first | (with_reducible first | refine up h1 ?_) | ((with_reducible refine wT ?_); (with_reducible refine wN fun _ hnl => ?_); revert hnl; (repeat with_reducible refine wS fun _ _ => ?_); intro hnl) | (with_reducible first | refine mdraw_plain mixed (by decide +kernel) ?_ | refine wI (fun h => ?_) (fun h => ?_) | refine wF (fun h => ?_) (fun h => ?_) | refine wG (fun h => ?_) (fun h => ?_) | refine wH (fun h => ?_) (fun h => ?_)) | (with_reducible refine mfork_bool (fun h => ?_) (fun h => ?_) <;> simp only [h]) | (with_reducible refine mgfork_bool (fun h => ?_) (fun h => ?_) <;> simp only [h]) | (simp (config := { maxSteps := 4000000 }) (disch := first | decide | assumption | omega | (simp only [wL]; omega)) only [go_sem, Nat.reduceAdd, Nat.reduceSub, Nat.reduceMul, Nat.reduceDiv, Nat.reduceMod, Nat.reduceLT, Nat.reduceLeDiff, Nat.reduceEqDiff, Nat.reduceSucc, Nat.reduceGT, Int.reduceAdd, Int.reduceSub, Int.reduceMul, Int.reduceNeg, Int.reduceLT, Int.reduceLE, Int.reduceEq, Int.reduceToNat, reduceIte, Try.f58]))

/-- Is one text a part of another one? -/
def partB (A B : ByteArray) : Bool := (List.range (A.size + 1 - B.size)).any fun i => decide (A.extract i (i + B.size) = B)
def holdsB (a b : VA) : Bool := decide (a.kd = 2) && decide (b.kd = 2) && partB (foldS a.s) (foldS b.s)
theorem foldS_size (s : ByteArray) : (foldS s).size = s.size := foldT_size s s.size
set_option maxHeartbeats 1000000 in
theorem rvholds_call (a b : VA) (ha : a.s.size ≤ 1000000) (hb : b.s.size ≤ 1000000) : MCalls Try.prog 59 [.agg a.c, .agg b.c] St.none (fun r _ => r = .bool (holdsB a b)) := by
  refine (MCalls.body 40 [.tmp 4] Try.func59 rfl rfl rfl rfl ?_)
  have h1 := rfold_call a.s ha
  have h2 := rfold_call b.s hb
  have hd : holdsB a b = (decide (a.kd = 2) && decide (b.kd = 2) && partB (foldS a.s) (foldS b.s)) := rfl
  have s1 := foldS_size a.s
  have s2 := foldS_size b.s
  generalize holdsB a b = out at hd ⊢
  by_cases e1 : a.kd = 2
  · by_cases e2 : b.kd = 2
    · rw [decide_eq_true e1, decide_eq_true e2, Bool.true_and, Bool.true_and] at hd
      obtain ⟨C, hC⟩ : ∃ C, C = kn [(79, [.str a.s], ⟨[], fun v => v = .str (foldS a.s), none⟩), (79, [.str b.s], ⟨[], fun v => v = .str (foldS b.s), none⟩)] := ⟨_, rfl⟩
      have f1 : C 79 [.str a.s] = some ⟨[], fun v => v = .str (foldS a.s), none⟩ := by rw [hC]; exact kn_hit
      have f2 : C 79 [.str b.s] = some ⟨[], fun v => v = .str (foldS b.s), none⟩ := by
        rw [hC]
        refine kn_skip (fun h => ?_) kn_hit
        have h := h.2
        simp only [List.cons.injEq, MV.str.injEq, and_true] at h
        rw [h]
      clear hC
      generalize foldS a.s = A at h1 hd s1 f1
      generalize foldS b.s = B at h2 hd s2 f2
      subst hd
      repeat' (first | ((with_reducible refine wT ?_); (with_reducible refine wN fun _ hnl => ?_); revert hnl; (repeat with_reducible refine wS fun _ _ => ?_); intro hnl) | (with_reducible first | refine mdraw_plain mixed (by decide +kernel) ?_ | refine wI (fun h => ?_) (fun h => ?_) | refine wF (fun h => ?_) (fun h => ?_) | refine wG (fun h => ?_) (fun h => ?_) | refine wH (fun h => ?_) (fun h => ?_)) | (with_reducible refine mfork_bool (fun h => ?_) (fun h => ?_) <;> simp only [h]) | (with_reducible refine mgfork_bool (fun h => ?_) (fun h => ?_) <;> simp only [h]) | (simp (config := { maxSteps := 4000000 }) (disch := first | decide | assumption | omega | (simp only [wL]; omega)) only [go_sem, Nat.reduceAdd, Nat.reduceSub, Nat.reduceMul, Nat.reduceDiv, Nat.reduceMod, Nat.reduceLT, Nat.reduceLeDiff, Nat.reduceEqDiff, Nat.reduceSucc, Nat.reduceGT, Int.reduceAdd, Int.reduceSub, Int.reduceMul, Int.reduceNeg, Int.reduceLT, Int.reduceLE, Int.reduceEq, Int.reduceToNat, reduceIte, Try.f59]))
      refine mdraw_know mixed (by decide +kernel) C ?_
      repeat' (first | (with_reducible refine know_pure f1 h1 ?_) | (with_reducible refine know_pure f2 h2 ?_) | ((with_reducible refine wT ?_); (with_reducible refine wN fun _ hnl => ?_); revert hnl; (repeat with_reducible refine wS fun _ _ => ?_); intro hnl) | (with_reducible first | refine mdraw_plain mixed (by decide +kernel) ?_ | refine wI (fun h => ?_) (fun h => ?_) | refine wF (fun h => ?_) (fun h => ?_) | refine wG (fun h => ?_) (fun h => ?_) | refine wH (fun h => ?_) (fun h => ?_)) | (with_reducible refine mfork_bool (fun h => ?_) (fun h => ?_) <;> simp only [h]) | (with_reducible refine mgfork_bool (fun h => ?_) (fun h => ?_) <;> simp only [h]) | (simp (config := { maxSteps := 4000000 }) (disch := first | decide | assumption | omega | (simp only [wL]; omega)) only [go_sem, Nat.reduceAdd, Nat.reduceSub, Nat.reduceMul, Nat.reduceDiv, Nat.reduceMod, Nat.reduceLT, Nat.reduceLeDiff, Nat.reduceEqDiff, Nat.reduceSucc, Nat.reduceGT, Int.reduceAdd, Int.reduceSub, Int.reduceMul, Int.reduceNeg, Int.reduceLT, Int.reduceLE, Int.reduceEq, Int.reduceToNat, reduceIte]))
      refine mloop_intro (α := Nat) (fun i => ⟨40, [(7, .int .i64 (i : Int)), (6, .str B), (5, .str A)], []⟩)
        (fun _ => St.none) (fun i => i ≤ A.size + 1 ∧ ∀ j, j < i → j + B.size ≤ A.size → A.extract j (j + B.size) ≠ B) (fun i => A.size + 1 - i) (.of (.less ?_ (St.none_le _)) ⟨0, rfl, rfl, Nat.zero_le _, fun j hj => absurd hj (by omega)⟩) ?_
      · simp (config := { maxSteps := 4000000 }) (disch := first | decide | assumption | omega | (simp only [wL]; omega)) only [go_sem, Nat.reduceAdd, Nat.reduceSub, Nat.reduceMul, Nat.reduceDiv, Nat.reduceMod, Nat.reduceLT, Nat.reduceLeDiff, Nat.reduceEqDiff, Nat.reduceSucc, Nat.reduceGT, Int.reduceAdd, Int.reduceSub, Int.reduceMul, Int.reduceNeg, Int.reduceLT, Int.reduceLE, Int.reduceEq, Int.reduceToNat, reduceIte, weak_int, weak_same]
        rfl
      · rintro i ⟨hi, hq⟩
        by_cases hlt : i + B.size ≤ A.size
        · have e1 : ((i : Int) + (B.size : Int)).toNat = i + B.size := by omega
          have e2 : ((i : Int)).toNat = i := by omega
          repeat' (first | ((with_reducible refine wT ?_); (with_reducible refine wN fun _ hnl => ?_); revert hnl; (repeat with_reducible refine wS fun _ _ => ?_); intro hnl) | (with_reducible first | refine mdraw_plain mixed (by decide +kernel) ?_ | refine wI (fun h => ?_) (fun h => ?_) | refine wF (fun h => ?_) (fun h => ?_) | refine wG (fun h => ?_) (fun h => ?_) | refine wH (fun h => ?_) (fun h => ?_)) | (with_reducible refine mfork_bool (fun h => ?_) (fun h => ?_) <;> simp only [h]) | (with_reducible refine mgfork_bool (fun h => ?_) (fun h => ?_) <;> simp only [h]) | (simp (config := { maxSteps := 4000000 }) (disch := first | decide | assumption | omega | (simp only [wL]; omega)) only [go_sem, Nat.reduceAdd, Nat.reduceSub, Nat.reduceMul, Nat.reduceDiv, Nat.reduceMod, Nat.reduceLT, Nat.reduceLeDiff, Nat.reduceEqDiff, Nat.reduceSucc, Nat.reduceGT, Int.reduceAdd, Int.reduceSub, Int.reduceMul, Int.reduceNeg, Int.reduceLT, Int.reduceLE, Int.reduceEq, Int.reduceToNat, reduceIte, e1, e2]))
          · refine (List.any_eq_true.2 ⟨i, List.mem_range.2 (by omega), ?_⟩).symm
            exact decide_eq_true h
          · refine .of (.less ?_ (St.none_le _)) ⟨i + 1, rfl, rfl, ⟨by omega, fun j hj hjl => ?_⟩, by omega⟩
            · simp (config := { maxSteps := 4000000 }) (disch := first | decide | assumption | omega | (simp only [wL]; omega)) only [go_sem, Nat.reduceAdd, Nat.reduceSub, Nat.reduceMul, Nat.reduceDiv, Nat.reduceMod, Nat.reduceLT, Nat.reduceLeDiff, Nat.reduceEqDiff, Nat.reduceSucc, Nat.reduceGT, Int.reduceAdd, Int.reduceSub, Int.reduceMul, Int.reduceNeg, Int.reduceLT, Int.reduceLE, Int.reduceEq, Int.reduceToNat, reduceIte, weak_int, weak_same]
              rfl
            · by_cases hji : j = i
              · subst hji; exact h
              · exact hq j (by omega) hjl
        · have hF : partB A B = false := by
            rw [partB, List.any_eq_false]
            intro j hj
            rw [List.mem_range] at hj
            have := hq j (by omega) (by omega)
            simpa using this
          rw [hF]
          repeat' (first | ((with_reducible refine wT ?_); (with_reducible refine wN fun _ hnl => ?_); revert hnl; (repeat with_reducible refine wS fun _ _ => ?_); intro hnl) | (with_reducible first | refine mdraw_plain mixed (by decide +kernel) ?_ | refine wI (fun h => ?_) (fun h => ?_) | refine wF (fun h => ?_) (fun h => ?_) | refine wG (fun h => ?_) (fun h => ?_) | refine wH (fun h => ?_) (fun h => ?_)) | (with_reducible refine mfork_bool (fun h => ?_) (fun h => ?_) <;> simp only [h]) | (with_reducible refine mgfork_bool (fun h => ?_) (fun h => ?_) <;> simp only [h]) | (simp (config := { maxSteps := 4000000 }) (disch := first | decide | assumption | omega | (simp only [wL]; omega)) only [go_sem, Nat.reduceAdd, Nat.reduceSub, Nat.reduceMul, Nat.reduceDiv, Nat.reduceMod, Nat.reduceLT, Nat.reduceLeDiff, Nat.reduceEqDiff, Nat.reduceSucc, Nat.reduceGT, Int.reduceAdd, Int.reduceSub, Int.reduceMul, Int.reduceNeg, Int.reduceLT, Int.reduceLE, Int.reduceEq, Int.reduceToNat, reduceIte]))
    · rw [decide_eq_false e2, Bool.and_false, Bool.false_and] at hd
      subst hd
      repeat' (first | ((with_reducible refine wT ?_); (with_reducible refine wN fun _ hnl => ?_); revert hnl; (repeat with_reducible refine wS fun _ _ => ?_); intro hnl) | (with_reducible first | refine mdraw_plain mixed (by decide +kernel) ?_ | refine wI (fun h => ?_) (fun h => ?_) | refine wF (fun h => ?_) (fun h => ?_) | refine wG (fun h => ?_) (fun h => ?_) | refine wH (fun h => ?_) (fun h => ?_)) | (with_reducible refine mfork_bool (fun h => ?_) (fun h => ?_) <;> simp only [h]) | (with_reducible refine mgfork_bool (fun h => ?_) (fun h => ?_) <;> simp only [h]) | (simp (config := { maxSteps := 4000000 }) (disch := first | decide | assumption | omega | (simp only [wL]; omega)) only [go_sem, Nat.reduceAdd, Nat.reduceSub, Nat.reduceMul, Nat.reduceDiv, Nat.reduceMod, Nat.reduceLT, Nat.reduceLeDiff, Nat.reduceEqDiff, Nat.reduceSucc, Nat.reduceGT, Int.reduceAdd, Int.reduceSub, Int.reduceMul, Int.reduceNeg, Int.reduceLT, Int.reduceLE, Int.reduceEq, Int.reduceToNat, reduceIte, Try.f59]))
  · rw [decide_eq_false e1, Bool.false_and, Bool.false_and] at hd
    subst hd
    repeat' (first | ((with_reducible refine wT ?_); (with_reducible refine wN fun _ hnl => ?_); revert hnl; (repeat with_reducible refine wS fun _ _ => ?_); intro hnl) | (with_reducible first | refine mdraw_plain mixed (by decide +kernel) ?_ | refine wI (fun h => ?_) (fun h => ?_) | refine wF (fun h => ?_) (fun h => ?_) | refine wG (fun h => ?_) (fun h => ?_) | refine wH (fun h => ?_) (fun h => ?_)) | (with_reducible refine mfork_bool (fun h => ?_) (fun h => ?_) <;> simp only [h]) | (with_reducible refine mgfork_bool (fun h => ?_) (fun h => ?_) <;> simp only [h]) | (simp (config := { maxSteps := 4000000 }) (disch := first | decide | assumption | omega | (simp only [wL]; omega)) only [go_sem, Nat.reduceAdd, Nat.reduceSub, Nat.reduceMul, Nat.reduceDiv, Nat.reduceMod, Nat.reduceLT, Nat.reduceLeDiff, Nat.reduceEqDiff, Nat.reduceSucc, Nat.reduceGT, Int.reduceAdd, Int.reduceSub, Int.reduceMul, Int.reduceNeg, Int.reduceLT, Int.reduceLE, Int.reduceEq, Int.reduceToNat, reduceIte, Try.f59]))
end Go.Proofs.Ytielcgplbnlgbaa
end

section
/- Ghost steps for rows whose elements are rows: an element that was grown apart is frozen. -/
set_option linter.unusedVariables false
set_option linter.unusedSimpArgs false
namespace Go.Proofs.Ytielcgplbnlgbaa

theorem Weak.view {σ : St} {m m' : MV} (h : Weak m m') : View σ m m' := by
  cases h with
  | same => exact .same _
  | junk => exact .junk _
  | nil e t => exact .nil e t
  | tight e xs => exact .tight e xs

/-- An element's one cell, grown apart, is frozen. -/
theorem Ghost.nest {n : Nat} {l l1 : List (Nat × MV)} {d : List (FuncId × List MV)} {σ : St} {q m : Nat} {t t1 : TypeId} {e1 : Nat} {pre post ys : List (List MV)} {n1 : Nat} (σ2 : St)
    (hm : σ m = some (.row t1 e1 ys)) (hq : σ q = some (.row t 1 (pre ++ [.vec e1 m 0 n1] :: post))) (hn : n1 = ys.length) (h2 : σ2.le σ) (h2m : σ2 m = none) (hne : q ≠ m)
    (hw : ∀ p, p ∈ l1 → Weak (lget l p.1) p.2) : Ghost ⟨n, l, d⟩ σ ⟨n, l1, d⟩ (σ2.set q (.row t 1 (pre ++ [.lst e1 ys false] :: post))) := by
  subst hn
  have hv : (St.none.set m (.row t1 e1 ys)) m = some (.row t1 e1 ys) := set_hit _ _ _
  refine Ghost.freezeIn (St.none.set m (.row t1 e1 ys)) (St.set_le (St.none_le _) hm) (fun k o1 hk => ?_) (fun k o hk => ?_) fun p hp => (hw p hp).view
  · by_cases h : k = q
    · subst h
      rw [set_hit] at hk
      cases hk
      refine ⟨_, hq, .inr ⟨t, 1, _, _, rfl, rfl, by simp, fun i x x1 hx hx1 => ?_⟩⟩
      rcases Nat.lt_trichotomy i pre.length with hi | hi | hi
      · rw [List.getElem?_append_left hi] at hx hx1
        rw [hx] at hx1; cases hx1
        exact ⟨rfl, fun j a b ha hb => by rw [ha] at hb; cases hb; exact .inl rfl⟩
      · subst hi
        rw [List.getElem?_append_right (Nat.le_refl _), Nat.sub_self] at hx hx1
        simp only [List.getElem?_cons_zero, Option.some.injEq] at hx hx1
        subst hx; subst hx1
        refine ⟨rfl, fun j a b ha hb => ?_⟩
        cases j with
        | zero =>
          simp only [List.getElem?_cons_zero, Option.some.injEq] at ha hb
          subst ha; subst hb
          exact .inr ⟨rfl, .vecAll hv rfl⟩
        | succ j => simp at ha
      · rw [List.getElem?_append_right (by omega)] at hx hx1
        obtain ⟨j, hj⟩ : ∃ j, i - pre.length = j + 1 := ⟨i - pre.length - 1, by omega⟩
        rw [hj, List.getElem?_cons_succ] at hx hx1
        rw [hx] at hx1; cases hx1
        exact ⟨rfl, fun j a b ha hb => by rw [ha] at hb; cases hb; exact .inl rfl⟩
    · rw [set_miss _ _ _ _ h] at hk
      exact ⟨o1, h2 k o1 hk, .inl rfl⟩
  · by_cases h : k = m
    · subst h
      by_cases hq' : k = q
      · exact absurd hq'.symm hne
      · rw [set_miss _ _ _ _ hq', h2m] at hk; cases hk
    · exact set_miss _ _ _ _ h ▸ rfl
/-- A call whose arguments are seen as more than they are: what they lie in is given away. -/
theorem MCalls.pre {P : Program} {g : FuncId} {ms ms' : List MV} {σ σ2 : St} {Q : MV → St → Prop} (hl : ms.length = ms'.length) (hg : Ghost ⟨ms.length, args0 0 ms, []⟩ σ ⟨ms.length, args0 0 ms', []⟩ σ2) (h : MCalls P g ms' σ2 Q) : MCalls P g ms σ Q := by
  refine ⟨h.1, fun Φ w vs hi hr => ?_⟩
  obtain ⟨-, hg⟩ := hg
  obtain ⟨Φ1, i1, r1, s1⟩ := hg Φ w vs hi ⟨hr.1, fun t => by
    simp only [FR.get, args0_get, Nat.sub_zero, Nat.zero_le, if_true]
    cases hm : ms[t]? with
    | none => exact .junk _
    | some m => exact hr.2 t m hm⟩
  refine (h.2 Φ1 w vs i1 ⟨hr.1.trans hl, fun i m hm => ?_⟩).mono ?_
  · have := r1.2 i
    simp only [FR.get, args0_get, Nat.sub_zero, Nat.zero_le, if_true, hm] at this
    exact this
  · rintro e w' ⟨v, mv, σ', Φ', rfl, q1, q2, q3, hq⟩
    exact ⟨v, mv, σ', Φ', rfl, q1, q2, s1.trans q3, hq⟩

theorem mem_args0 : ∀ {ms : List MV} {i : Nat} {p : Nat × MV}, p ∈ args0 i ms → ∃ j, p.1 = i + j ∧ ms[j]? = some p.2
  | [], _, _, h => by simp [args0] at h
  | m :: ms, i, p, h => by
    rw [args0, List.mem_cons] at h
    rcases h with rfl | h
    · exact ⟨0, rfl, rfl⟩
    · obtain ⟨j, h1, h2⟩ := mem_args0 h
      exact ⟨j + 1, by omega, by simpa using h2⟩

theorem use_give {P : Program} {g : FuncId} {ms : List MV} (ms' : List MV) {σ : St} (σv σ2 : St) {r : MV} {k : MV → St → Prop} (h : MCalls P g ms' St.none fun v _ => v = r) (hle : σv.le σ) (h2 : σ2.le σ) (hd : ∀ k o, σ2 k = some o → σv k = none)
    (hl : ms.length = ms'.length) (hv : ∀ (i : Nat) (m m' : MV), ms[i]? = some m → ms'[i]? = some m' → View σv m m') (hk : R (mlet r σ2 k)) : R (mcallE P g ms σ k) := by
  refine MCalls.pre hl (Ghost.freeze σv hle h2 hd fun p hp => ?_) (use_pure h hk)
  obtain ⟨j, h1, h3⟩ := mem_args0 hp
  rw [h1, args0_get]
  simp only [Nat.zero_add, Nat.zero_le, if_true, Nat.sub_zero]
  have hj := (List.getElem?_eq_some_iff.1 h3).1
  obtain ⟨m, hm⟩ : ∃ m, ms[j]? = some m := ⟨ms[j]'(by omega), by simp⟩
  rw [hm]
  exact hv j m _ hm h3

/-- One place is given away. -/
theorem use_give1 {P : Program} {g : FuncId} {ms : List MV} (ms' : List MV) {σ : St} (l : Nat) {o : MObj} {r : MV} {k : MV → St → Prop} (h : MCalls P g ms' St.none fun v _ => v = r) (ho : σ l = some o)
    (hl : ms.length = ms'.length) (hv : ∀ (i : Nat) (m m' : MV), ms[i]? = some m → ms'[i]? = some m' → View (St.none.set l o) m m') (hk : R (mlet r (σ.del l) k)) : R (mcallE P g ms σ k) :=
  use_give ms' (St.none.set l o) (σ.del l) h (St.set_le (St.none_le _) ho) (fun j q hq => by
    simp only [St.del] at hq
    split at hq
    · cases hq
    · exact hq) (fun j q hq => by
    simp only [St.del] at hq
    split at hq
    · cases hq
    · exact set_miss _ _ _ _ (by assumption)) hl hv hk

/-- Nothing is given away. -/
theorem use_weak {P : Program} {g : FuncId} {ms : List MV} (ms' : List MV) {σ : St} {r : MV} {k : MV → St → Prop} (h : MCalls P g ms' St.none fun v _ => v = r)
    (hl : ms.length = ms'.length) (hv : ∀ (i : Nat) (m m' : MV), ms[i]? = some m → ms'[i]? = some m' → View St.none m m') (hk : R (mlet r σ k)) : R (mcallE P g ms σ k) :=
  use_give ms' St.none σ h (St.none_le _) (St.le_refl _) (fun _ _ _ => rfl) hl hv hk

theorem views_one {σ : St} {a a' : MV} (h : View σ a a') : ∀ (i : Nat) (m m' : MV), [a][i]? = some m → [a'][i]? = some m' → View σ m m' := fun i m m' h1 h2 => by
  match i, h1, h2 with
  | 0, h1, h2 => simp only [List.getElem?_cons_zero, Option.some.injEq] at h1 h2; subst h1 h2; exact h
theorem views_two {σ : St} {a b a' b' : MV} (h : View σ a a') (k : View σ b b') : ∀ (i : Nat) (m m' : MV), [a, b][i]? = some m → [a', b'][i]? = some m' → View σ m m' := fun i m m' h1 h2 => by
  match i, h1, h2 with
  | 0, h1, h2 => simp only [List.getElem?_cons_zero, Option.some.injEq] at h1 h2; subst h1 h2; exact h
  | 1, h1, h2 => simp only [List.getElem?_cons_succ, List.getElem?_cons_zero, Option.some.injEq] at h1 h2; subst h1 h2; exact k
theorem views_three {σ : St} {a b c a' b' c' : MV} (h : View σ a a') (k : View σ b b') (k2 : View σ c c') : ∀ (i : Nat) (m m' : MV), [a, b, c][i]? = some m → [a', b', c'][i]? = some m' → View σ m m' := fun i m m' h1 h2 => by
  match i, h1, h2 with
  | 0, h1, h2 => simp only [List.getElem?_cons_zero, Option.some.injEq] at h1 h2; subst h1 h2; exact h
  | 1, h1, h2 => simp only [List.getElem?_cons_succ, List.getElem?_cons_zero, Option.some.injEq] at h1 h2; subst h1 h2; exact k
  | 2, h1, h2 => simp only [List.getElem?_cons_succ, List.getElem?_cons_zero, Option.some.injEq] at h1 h2; subst h1 h2; exact k2
end Go.Proofs.Ytielcgplbnlgbaa
end

section
/- Words and tables of bits; what trees say of sets of atoms. No program in sight. -/
set_option linter.unusedVariables false
set_option linter.unusedSimpArgs false
namespace Go.Proofs.Ytielcgplbnlgbaa

/-- The word whose bits are told. -/
def wd (g : Nat → Bool) : Nat → Nat
  | 0 => 0
  | n + 1 => wd g n ||| (if g n = true then 2 ^ n else 0)

theorem wd_bit (g : Nat → Bool) : ∀ (n j : Nat), (wd g n).testBit j = (decide (j < n) && g j)
  | 0, j => by simp [wd]
  | n + 1, j => by
    rw [wd, Nat.testBit_or, wd_bit g n j]
    have e : (if g n = true then 2 ^ n else 0 : Nat).testBit j = (decide (j = n) && g n) := by
      cases g n
      · simp
      · simp only [if_true, Nat.testBit_two_pow, Bool.and_true]
        exact decide_eq_decide.mpr ⟨fun h => h.symm, fun h => h.symm⟩
    rw [e]
    by_cases h : j = n
    · subst h; simp
    · have : decide (j < n + 1) = decide (j < n) := decide_eq_decide.mpr ⟨fun _ => by omega, fun _ => by omega⟩
      rw [this]
      simp [h]

theorem wd_lt (g : Nat → Bool) : ∀ n, wd g n < 2 ^ n
  | 0 => by simp [wd]
  | n + 1 => by
    rw [wd]
    refine Nat.or_lt_two_pow (Nat.lt_of_lt_of_le (wd_lt g n) (Nat.pow_le_pow_right (by omega) (by omega))) ?_
    split
    · exact Nat.pow_lt_pow_right (by omega) (by omega)
    · exact Nat.two_pow_pos _

theorem wd_ext {g h : Nat → Bool} {n : Nat} (e : ∀ j, j < n → g j = h j) : wd g n = wd h n := by
  refine Nat.eq_of_testBit_eq fun j => ?_
  rw [wd_bit, wd_bit]
  by_cases hj : j < n
  · rw [e j hj]
  · simp [hj]

theorem wd_and (g h : Nat → Bool) (n : Nat) : wd g n &&& wd h n = wd (fun j => g j && h j) n := by
  refine Nat.eq_of_testBit_eq fun j => ?_
  rw [Nat.testBit_and, wd_bit, wd_bit, wd_bit]
  cases decide (j < n) <;> simp

theorem wd_or (g h : Nat → Bool) (n : Nat) : wd g n ||| wd h n = wd (fun j => g j || h j) n := by
  refine Nat.eq_of_testBit_eq fun j => ?_
  rw [Nat.testBit_or, wd_bit, wd_bit, wd_bit]
  cases decide (j < n) <;> simp

theorem wd_not (g : Nat → Bool) (n : Nat) : (2 ^ n - 1) ^^^ wd g n = wd (fun j => !g j) n := by
  refine Nat.eq_of_testBit_eq fun j => ?_
  rw [Nat.testBit_xor, wd_bit, wd_bit, Nat.testBit_two_pow_sub_one]
  cases decide (j < n) <;> simp

theorem wd_zero (n : Nat) : wd (fun _ => false) n = 0 := by
  refine Nat.eq_of_testBit_eq fun j => ?_
  rw [wd_bit]; simp

theorem wd_ones (n : Nat) : wd (fun _ => true) n = 2 ^ n - 1 := by
  refine Nat.eq_of_testBit_eq fun j => ?_
  rw [wd_bit, Nat.testBit_two_pow_sub_one]; simp

theorem wd_inj {g h : Nat → Bool} {n : Nat} (e : wd g n = wd h n) : ∀ j, j < n → g j = h j := fun j hj => by
  have := congrArg (·.testBit j) e
  simpa [wd_bit, hj] using this

theorem wd_iff0 {g : Nat → Bool} {n : Nat} : wd g n = 0 ↔ ∀ j, j < n → g j = false :=
  ⟨fun h => wd_inj (h.trans (wd_zero n).symm), fun h => (wd_ext h).trans (wd_zero n)⟩

/-- A table's word. -/
def tw (f : Nat → Bool) (i : Nat) : Nat := wd (fun j => f (64 * i + j)) 64
theorem tw_lt (f : Nat → Bool) (i : Nat) : tw f i < 18446744073709551616 := wd_lt _ 64
theorem tw_all {f g : Nat → Bool} : (∀ i, i < 16 → tw f i = tw g i) ↔ ∀ on, on < 1024 → f on = g on := by
  constructor
  · intro h on hon
    have := wd_inj (h (on / 64) (by omega)) (on % 64) (by omega)
    rwa [show 64 * (on / 64) + on % 64 = on by omega] at this
  · intro h i hi
    exact wd_ext fun j hj => h _ (by omega)
theorem tw_le {f g : Nat → Bool} : (∀ i, i < 16 → wd (fun j => f (64 * i + j) && !g (64 * i + j)) 64 = 0) ↔ ∀ on, on < 1024 → f on = true → g on = true := by
  constructor
  · intro h on hon hf
    have := wd_iff0.1 (h (on / 64) (by omega)) (on % 64) (by omega)
    rw [show 64 * (on / 64) + on % 64 = on by omega, hf] at this
    simpa using this
  · intro h i hi
    refine wd_iff0.2 fun j hj => ?_
    have := h (64 * i + j) (by omega)
    cases hf : f (64 * i + j)
    · rfl
    · rw [this hf]; rfl

theorem add_bit {i j p : Nat} (hj : j < 64) : (64 * i + j).testBit p = if p < 6 then j.testBit p else i.testBit (p - 6) := by
  rw [show 64 = 2 ^ 6 from rfl, Nat.testBit_two_pow_mul_add (j := p) (b := j) (i := 6) i hj]

/-- Place of an atom, sets of atoms. -/
def posK (l : List ND) (x : ND) : Nat := l.findIdx fun y => !decide (lessK y.key x.key)
def asg (l : List ND) (on : Nat) (x : ND) : Bool := decide (x ∈ l) && on.testBit (posK l x)

theorem posK_lt {l : List ND} (h : Rising (l.map ND.key)) {x : ND} (hx : x ∈ l) : posK l x < l.length :=
  List.findIdx_lt_length_of_exists ⟨x, hx, by simp [lessK_irrefl]⟩

theorem asg_mod {l : List ND} (h : Rising (l.map ND.key)) {n : Nat} (hn : l.length ≤ n) (on : Nat) (x : ND) : asg l (on % 2 ^ n) x = asg l on x := by
  unfold asg
  by_cases hx : x ∈ l
  · have := posK_lt h hx
    rw [Nat.testBit_mod_two_pow]
    simp [show posK l x < n by omega]
  · simp [hx]

theorem sem_mod {l : List ND} (h : Rising (l.map ND.key)) {n : Nat} (hn : l.length ≤ n) (on : Nat) (t : T) : t.sem (asg l (on % 2 ^ n)) = t.sem (asg l on) := by
  rw [show asg l (on % 2 ^ n) = asg l on from funext fun x => asg_mod h hn on x]

theorem all_mod {l : List ND} (h : Rising (l.map ND.key)) (hl : l.length ≤ 10) {p : Nat → Bool} (hp : ∀ on, p (on % 2 ^ l.length) = p on) : (∀ on, on < 1024 → p on = true) ↔ ∀ on, on < 2 ^ l.length → p on = true := by
  have h1 : 2 ^ l.length ≤ 1024 := by
    have := Nat.pow_le_pow_right (n := 2) (by omega) hl
    simpa using this
  constructor
  · exact fun k on hon => k on (by omega)
  · exact fun k on _ => by rw [← hp]; exact k _ (Nat.mod_lt _ (Nat.two_pow_pos _))

/-- What Implies tells of two trees that are fit, with not too many atoms. -/
def impB (l : List ND) (s t : T) : Bool := decide (∀ on, on < 2 ^ l.length → (!s.sem (asg l on) || t.sem (asg l on)) = true)
theorem impB_1024 {l : List ND} (h : Rising (l.map ND.key)) (hl : l.length ≤ 10) (s t : T) : impB l s t = (List.range 1024).all fun on => !s.sem (asg l on) || t.sem (asg l on) := by
  unfold impB
  rw [Bool.eq_iff_iff, decide_eq_true_eq, List.all_eq_true, ← all_mod h hl (p := fun on => !s.sem (asg l on) || t.sem (asg l on)) (fun on => by simp only [sem_mod h (Nat.le_refl _)])]
  simp only [List.mem_range]
end Go.Proofs.Ytielcgplbnlgbaa
end

section
/- Forms of filters. No program in sight. -/
set_option linter.unusedVariables false
set_option linter.unusedSimpArgs false
namespace Go.Proofs.Ytielcgplbnlgbaa

def nd (op : Int) : ND := ⟨op, 0, va0⟩
def T.root : T → ND
  | .leaf x => x
  | .one x _ => x
  | .two x _ _ => x
def T.kids : T → List T
  | .leaf _ => []
  | .one _ a => [a]
  | .two _ a b => [a, b]

theorem T.fl_kids (t : T) : t.fl = t.root :: (t.kids.map T.fl).flatten := by cases t <;> simp [T.fl, T.kids, T.root]
theorem T.ok_kids {t : T} (h : t.ok) : t.kids.length = parts t.root.op ∧ ∀ k, k ∈ t.kids → k.ok := by
  cases t with
  | leaf x => simp only [T.ok] at h; simp [T.kids, T.root, h]
  | one x a => simp only [T.ok] at h; simp [T.kids, T.root, h.1, h.2]
  | two x a b => simp only [T.ok] at h; simp [T.kids, T.root, h.1, h.2.1, h.2.2]

/-- What a tree's nodes say tells the tree. -/
theorem fl_inj : ∀ (t u : T) (r s : List ND), t.ok → u.ok → t.fl ++ r = u.fl ++ s → t = u ∧ r = s
  | .leaf x, .leaf y, r, s, ht, hu, h => by simp only [T.fl, List.cons_append, List.nil_append, List.cons.injEq] at h; exact ⟨by rw [h.1], h.2⟩
  | .leaf x, .one y b, r, s, ht, hu, h => by simp only [T.fl, List.cons_append, List.cons.injEq] at h; simp only [T.ok] at ht hu; rw [h.1] at ht; omega
  | .leaf x, .two y b c, r, s, ht, hu, h => by simp only [T.fl, List.cons_append, List.cons.injEq] at h; simp only [T.ok] at ht hu; rw [h.1] at ht; omega
  | .one x a, .leaf y, r, s, ht, hu, h => by simp only [T.fl, List.cons_append, List.cons.injEq] at h; simp only [T.ok] at ht hu; rw [h.1] at ht; omega
  | .one x a, .one y b, r, s, ht, hu, h => by
    simp only [T.fl, List.cons_append, List.cons.injEq] at h
    obtain ⟨e1, e2⟩ := fl_inj a b r s ht.2 hu.2 h.2
    exact ⟨by rw [h.1, e1], e2⟩
  | .one x a, .two y b c, r, s, ht, hu, h => by simp only [T.fl, List.cons_append, List.cons.injEq] at h; simp only [T.ok] at ht hu; rw [h.1] at ht; omega
  | .two x a a', .leaf y, r, s, ht, hu, h => by simp only [T.fl, List.cons_append, List.cons.injEq] at h; simp only [T.ok] at ht hu; rw [h.1] at ht; omega
  | .two x a a', .one y b, r, s, ht, hu, h => by simp only [T.fl, List.cons_append, List.cons.injEq] at h; simp only [T.ok] at ht hu; rw [h.1] at ht; omega
  | .two x a a', .two y b b', r, s, ht, hu, h => by
    simp only [T.fl, List.cons_append, List.cons.injEq, List.append_assoc] at h
    obtain ⟨e1, e2⟩ := fl_inj a b _ _ ht.2.1 hu.2.1 h.2
    obtain ⟨e3, e4⟩ := fl_inj a' b' r s ht.2.2 hu.2.2 e2
    exact ⟨by rw [h.1, e1, e3], e4⟩

theorem fl_eq {t u : T} (ht : t.ok) (hu : u.ok) (h : t.fl = u.fl) : t = u := (fl_inj t u [] [] ht hu (by rw [h])).1

/-! ### The order of filters -/
theorem cmpF_eq : ∀ {a b : List ND}, cmpF a b = .eq ↔ a = b
  | [], [] => by simp [cmpF]
  | [], _ :: _ => by simp [cmpF]
  | _ :: _, [] => by simp [cmpF]
  | a :: x, b :: y => by
    rw [cmpF_cons]
    constructor
    · intro h
      split at h
      · rename_i h1; rw [ND.key_inj (cmpL_eq.1 h1), cmpF_eq.1 h]
      · contradiction
    · intro h
      simp only [List.cons.injEq] at h
      rw [h.1, h.2, if_pos (cmpL_refl _)]
      exact cmpF_eq.2 rfl

theorem cmpF_swap : ∀ {a b : List ND}, cmpF a b = (cmpF b a).swap
  | [], [] => rfl
  | [], _ :: _ => rfl
  | _ :: _, [] => rfl
  | a :: x, b :: y => by
    rw [cmpF_cons, cmpF_cons, cmpL_swap]
    by_cases h : cmpL b.key a.key = .eq
    · rw [h]; simp [Ordering.swap]; exact cmpF_swap
    · rw [if_neg h, if_neg (fun e => h (by cases hq : cmpL b.key a.key <;> rw [hq] at e <;> simp_all [Ordering.swap]))]

theorem cmpF_trans : ∀ {a b c : List ND}, cmpF a b = .lt → cmpF b c = .lt → cmpF a c = .lt
  | [], [], _, h, _ => by simp [cmpF] at h
  | _ :: _, [], _, h, _ => by simp [cmpF] at h
  | [], _ :: _, [], _, h => by simp [cmpF] at h
  | [], _ :: _, _ :: _, _, _ => rfl
  | _ :: _, _ :: _, [], _, h => by simp [cmpF] at h
  | a :: x, b :: y, c :: z, h, k => by
    rw [cmpF_cons] at h k ⊢
    by_cases h1 : cmpL a.key b.key = .eq
    · rw [if_pos h1] at h
      rw [cmpL_eq.1 h1]
      by_cases h2 : cmpL b.key c.key = .eq
      · rw [if_pos h2] at k ⊢; exact cmpF_trans h k
      · rw [if_neg h2] at k ⊢; exact k
    · rw [if_neg h1] at h
      by_cases h2 : cmpL b.key c.key = .eq
      · rw [← cmpL_eq.1 h2, if_neg h1]; exact h
      · rw [if_neg h2] at k
        have := cmpL_trans h k
        rw [if_neg (by rw [this]; simp)]; exact this

def lessF (a b : T) : Prop := cmpF a.fl b.fl = .lt
theorem lessF_irrefl {a : T} : ¬ lessF a a := by unfold lessF; rw [cmpF_eq.2 rfl]; simp
theorem lessF_trans {a b c : T} (h : lessF a b) (k : lessF b c) : lessF a c := cmpF_trans h k
theorem lessF_asymm {a b : T} (h : lessF a b) : ¬ lessF b a := fun k => lessF_irrefl (lessF_trans h k)
theorem cmpF_gt {a b : T} : cmpF a.fl b.fl = .gt ↔ lessF b a := by
  unfold lessF; rw [cmpF_swap]; cases cmpF b.fl a.fl <;> simp [Ordering.swap]

/-- In order, each once. -/
def RisF (l : List T) : Prop := l.Pairwise lessF

theorem risF_unique : ∀ {l m : List T}, RisF l → RisF m → (∀ x, x ∈ l ↔ x ∈ m) → l = m
  | [], [], _, _, _ => rfl
  | [], y :: m, _, _, h => absurd ((h y).2 (List.mem_cons_self ..)) (by simp)
  | x :: l, [], _, _, h => absurd ((h x).1 (List.mem_cons_self ..)) (by simp)
  | x :: l, y :: m, h1, h2, h => by
    obtain ⟨a1, a2⟩ := List.pairwise_cons.1 h1
    obtain ⟨b1, b2⟩ := List.pairwise_cons.1 h2
    have e : x = y := by
      rcases List.mem_cons.1 ((h x).1 (List.mem_cons_self ..)) with e | hx
      · exact e
      · rcases List.mem_cons.1 ((h y).2 (List.mem_cons_self ..)) with e | hy
        · exact e.symm
        · exact absurd (a1 y hy) (lessF_asymm (b1 x hx))
    subst e
    rw [risF_unique a2 b2 fun z => ?_]
    constructor
    · intro hz
      rcases List.mem_cons.1 ((h z).1 (List.mem_cons_of_mem _ hz)) with e | hz'
      · subst e; exact absurd (a1 z hz) lessF_irrefl
      · exact hz'
    · intro hz
      rcases List.mem_cons.1 ((h z).2 (List.mem_cons_of_mem _ hz)) with e | hz'
      · subst e; exact absurd (b1 z hz) lessF_irrefl
      · exact hz'

/-- A list with one more, if it is not there: as the document goes through it. -/
def insT (x : T) : Bool → List T → List T
  | d, [] => if d = true then [] else [x]
  | d, y :: r => (if d = false ∧ cmpF x.fl y.fl ≠ .gt then [x] else []) ++ ((if cmpF x.fl y.fl ≠ .eq then [y] else []) ++ insT x (d || decide (cmpF x.fl y.fl ≠ .gt)) r)

theorem insT_past {x : T} : ∀ {l : List T}, (∀ y, y ∈ l → lessF x y) → insT x true l = l
  | [], _ => rfl
  | y :: r, h => by
    have hy : cmpF x.fl y.fl = .lt := h y (List.mem_cons_self ..)
    simp only [insT, hy]
    rw [if_neg (by simp), if_pos (by simp), Bool.true_or, insT_past fun z hz => h z (List.mem_cons_of_mem _ hz)]
    rfl

theorem insT_rising {x : T} (hx : x.ok) : ∀ {l : List T}, (∀ y, y ∈ l → y.ok) → RisF l → RisF (insT x false l) ∧ ∀ z, z ∈ insT x false l ↔ z = x ∨ z ∈ l
  | [], _, _ => by simp [insT, RisF]
  | y :: r, ho, h => by
    obtain ⟨h1, h2⟩ := List.pairwise_cons.1 h
    have hr := fun z hz => ho z (List.mem_cons_of_mem _ hz)
    cases hc : cmpF x.fl y.fl with
    | lt =>
      have e : insT x false (y :: r) = x :: y :: r := by
        simp only [insT, hc]
        rw [if_pos (by simp), if_pos (by simp)]
        rw [show (false || decide (Ordering.lt ≠ .gt)) = true by decide, insT_past fun z hz => lessF_trans hc (h1 z hz)]
        rfl
      rw [e]
      refine ⟨List.pairwise_cons.2 ⟨fun z hz => ?_, h⟩, fun z => by simp⟩
      rcases List.mem_cons.1 hz with rfl | hz
      · exact hc
      · exact lessF_trans hc (h1 z hz)
    | eq =>
      have exy := fl_eq hx (ho y (List.mem_cons_self ..)) (cmpF_eq.1 hc)
      subst exy
      have e : insT x false (x :: r) = x :: r := by
        simp only [insT, hc]
        rw [if_pos (by simp), if_neg (by simp)]
        rw [show (false || decide (Ordering.eq ≠ .gt)) = true by decide, insT_past h1]
        rfl
      rw [e]
      exact ⟨h, fun z => by simp⟩
    | gt =>
      have e : insT x false (y :: r) = y :: insT x false r := by
        simp only [insT, hc]
        rw [if_neg (by simp), if_pos (by simp)]
        rfl
      obtain ⟨i1, i2⟩ := insT_rising hx hr h2
      rw [e]
      refine ⟨List.pairwise_cons.2 ⟨fun z hz => ?_, i1⟩, fun z => ?_⟩
      · rcases (i2 z).1 hz with rfl | hz
        · exact cmpF_gt.1 hc
        · exact h1 z hz
      · rw [List.mem_cons, i2, List.mem_cons]
        constructor
        · rintro (h | h | h)
          · exact .inr (.inl h)
          · exact .inl h
          · exact .inr (.inr h)
        · rintro (h | h | h)
          · exact .inr (.inl h)
          · exact .inl h
          · exact .inr (.inr h)

def sortT (p : List T) : List T := p.foldl (fun acc x => insT x false acc) []
theorem foldT_aux : ∀ (p acc : List T), (∀ y, y ∈ p → y.ok) → (∀ y, y ∈ acc → y.ok) → RisF acc → RisF (p.foldl (fun acc x => insT x false acc) acc) ∧ ∀ z, z ∈ p.foldl (fun acc x => insT x false acc) acc ↔ z ∈ p ∨ z ∈ acc
  | [], acc, _, _, h => ⟨h, fun z => by simp⟩
  | x :: p, acc, hp, ha, h => by
    obtain ⟨i1, i2⟩ := insT_rising (hp x (List.mem_cons_self ..)) ha h
    obtain ⟨j1, j2⟩ := foldT_aux p (insT x false acc) (fun y hy => hp y (List.mem_cons_of_mem _ hy)) (fun y hy => ((i2 y).1 hy).elim (fun e => e ▸ hp x (List.mem_cons_self ..)) (ha y)) i1
    refine ⟨j1, fun z => ?_⟩
    rw [List.foldl_cons, j2, i2, List.mem_cons]
    constructor
    · rintro (h | h | h)
      · exact .inl (.inr h)
      · exact .inl (.inl h)
      · exact .inr h
    · rintro ((h | h) | h)
      · exact .inr (.inl h)
      · exact .inl h
      · exact .inr (.inr h)
theorem sortT_rising {p : List T} (hp : ∀ y, y ∈ p → y.ok) : RisF (sortT p) := (foldT_aux p [] hp (by simp) (by simp [RisF])).1
theorem mem_sortT {p : List T} (hp : ∀ y, y ∈ p → y.ok) {z : T} : z ∈ sortT p ↔ z ∈ p := by
  rw [sortT, (foldT_aux p [] hp (by simp) (by simp [RisF])).2]; simp

/-! ### Forms -/
def pcs (op : Int) : T → List T
  | .two x a b => if x.op = op then pcs op a ++ pcs op b else [.two x a b]
  | .one x a => [.one x a]
  | .leaf x => [.leaf x]
def zeroOf (op : Int) : Int := if op = 12 then 1 else 2
def unitOf (op : Int) : Int := if op = 12 then 2 else 1
def agst (l : List T) : Bool := l.any fun a => l.any fun b => decide (a.fl.length = 1 ∧ b.fl = nd 10 :: a.fl)
def foldO (op : Int) : List T → T
  | [] => .leaf (nd (unitOf op))
  | [x] => x
  | x :: y :: r => .two (nd op) x (foldO op (y :: r))
def normL (op : Int) (p : List T) : T :=
  if p.any (fun t => decide (t.root.op = zeroOf op)) = true then .leaf (nd (zeroOf op))
  else if agst (sortT (p.filter fun t => decide (t.root.op ≠ unitOf op))) = true then .leaf (nd (zeroOf op))
  else foldO op (sortT (p.filter fun t => decide (t.root.op ≠ unitOf op)))
def joinT (op : Int) (a b : T) : T := normL op (pcs op a ++ pcs op b)
def formT : T → Bool → T
  | .leaf x, tn => if x.op = 1 ∨ x.op = 2 then .leaf (nd (if tn = true then 3 - x.op else x.op)) else if tn = true then .one (nd 10) (.leaf x) else .leaf x
  | .one x a, tn => formT a (!tn)
  | .two x a b, tn => joinT (if tn = true then 23 - x.op else x.op) (formT a tn) (formT b tn)
end Go.Proofs.Ytielcgplbnlgbaa
end
