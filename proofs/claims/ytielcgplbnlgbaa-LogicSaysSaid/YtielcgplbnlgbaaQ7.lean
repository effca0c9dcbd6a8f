/- Contract of slices.Compact at nodes: the conditions that the theorem names. -/
import Derived.Test.YtielcgplbnlgbaaQ1
import Derived.Test.YtielcgplbnlgbaaP3
set_option linter.unusedVariables false
set_option linter.unusedSimpArgs false
namespace Go.Proofs.Ytielcgplbnlgbaa

theorem comp_step {xs : List ND} {j : Nat} (h0 : 0 < j) (h : j < xs.length) : compS (xs.take (j + 1)) = if xs.getD j nd0 = xs.getD (j - 1) nd0 then compS (xs.take j) else compS (xs.take j) ++ [xs.getD j nd0] := by
  obtain ⟨i, rfl⟩ : ∃ i, j = i + 1 := ⟨j - 1, by omega⟩
  have e1 : xs.take (i + 1) = xs.take i ++ [xs.getD i nd0] := by rw [List.take_succ_eq_append_getElem (by omega), getD_of_lt nd0 (by omega)]
  have e2 : xs.take (i + 1 + 1) = xs.take i ++ [xs.getD i nd0, xs.getD (i + 1) nd0] := by rw [List.take_succ_eq_append_getElem h, e1, getD_of_lt nd0 h]; simp
  rw [e2, e1, compS_snoc _ _ (Nat.le_refl _)]
  rfl

theorem drop_get {A B : List ND} {m j : Nat} (h : A.drop m = B.drop m) (hj : m ≤ j) : A.getD j nd0 = B.getD j nd0 := by
  have e : ∀ l : List ND, l.getD j nd0 = ((l.drop m)[j - m]?).getD nd0 := fun l => by
    rw [List.getElem?_drop, List.getD_eq_getElem?_getD, show m + (j - m) = j by omega]
  rw [e, e, h]

theorem take_set_succ {A : List ND} {q : Nat} (h : q < A.length) (x : ND) : (A.set q x).take (q + 1) = A.take q ++ [x] := by
  rw [List.take_succ_eq_append_getElem (by simpa using h), List.take_set, List.set_eq_of_length_le (by simp; omega)]
  simp

set_option maxHeartbeats 4000000 in
theorem compact_call (l : Nat) (xs : List ND) (hx : xs.length ≤ 1000000) (ex : List (List MV)) : MCalls Try.prog 45 [.vec 5 l 0 xs.length] (St.none.set l (.row 49 5 (xs.map ND.c ++ ex)))
    (fun r σ' => ∃ ex', r = .vec 5 l 0 (compS xs).length ∧ σ' = St.none.set l (.row 49 5 ((compS xs).map ND.c ++ ex'))) := by
  refine (MCalls.body 61 [.tmp 2] Try.func45 rfl rfl rfl rfl ?_)
  by_cases h2 : xs.length < 2
  · have hc : compS xs = xs := by
      match xs, h2 with
      | [], _ => simp [compS]
      | [x], _ => simp [compS]
      | _ :: _ :: _, h2 => simp at h2; omega
    rw [hc]
    repeat' (first | ((with_reducible refine mnew_intro fun nl hnl => ?_); revert hnl; (repeat (with_reducible refine set_none_intro fun _ _ => ?_)); intro hnl) | with_reducible refine mdraw_plain mixed (by decide +kernel) ?_ | with_reducible refine mif_go (fun h => ?_) (fun h => ?_) | with_reducible refine mfork_dec (fun h => ?_) (fun h => ?_) | with_reducible refine mgfork_dec (fun h => ?_) (fun h => ?_) | with_reducible refine mgfork_dec' (fun h => ?_) (fun h => ?_) | (with_reducible refine mfork_bool (fun h => ?_) (fun h => ?_) <;> simp only [h]) | (with_reducible refine mgfork_bool (fun h => ?_) (fun h => ?_) <;> simp only [h]) | (simp (config := { maxSteps := 4000000 }) (disch := first | decide | assumption | omega | (simp only [List.length_append, List.length_take, List.length_drop, List.length_cons, List.length_nil, List.length_map, List.length_set, List.length_replicate]; omega)) only [go_sem, Nat.reduceAdd, Nat.reduceSub, Nat.reduceMul, Nat.reduceDiv, Nat.reduceMod, Nat.reduceLT, Nat.reduceLeDiff, Nat.reduceEqDiff, Nat.reduceSucc, Nat.reduceGT, Int.reduceAdd, Int.reduceSub, Int.reduceMul, Int.reduceNeg, Int.reduceLT, Int.reduceLE, Int.reduceEq, Int.reduceToNat, reduceIte, Try.f45]))
    exact ⟨ex, rfl⟩
  · repeat' (first | ((with_reducible refine mnew_intro fun nl hnl => ?_); revert hnl; (repeat (with_reducible refine set_none_intro fun _ _ => ?_)); intro hnl) | with_reducible refine mdraw_plain mixed (by decide +kernel) ?_ | with_reducible refine mif_go (fun h => ?_) (fun h => ?_) | with_reducible refine mfork_dec (fun h => ?_) (fun h => ?_) | with_reducible refine mgfork_dec (fun h => ?_) (fun h => ?_) | with_reducible refine mgfork_dec' (fun h => ?_) (fun h => ?_) | (with_reducible refine mfork_bool (fun h => ?_) (fun h => ?_) <;> simp only [h]) | (with_reducible refine mgfork_bool (fun h => ?_) (fun h => ?_) <;> simp only [h]) | (simp (config := { maxSteps := 4000000 }) (disch := first | decide | assumption | omega | (simp only [List.length_append, List.length_take, List.length_drop, List.length_cons, List.length_nil, List.length_map, List.length_set, List.length_replicate]; omega)) only [go_sem, Nat.reduceAdd, Nat.reduceSub, Nat.reduceMul, Nat.reduceDiv, Nat.reduceMod, Nat.reduceLT, Nat.reduceLeDiff, Nat.reduceEqDiff, Nat.reduceSucc, Nat.reduceGT, Int.reduceAdd, Int.reduceSub, Int.reduceMul, Int.reduceNeg, Int.reduceLT, Int.reduceLE, Int.reduceEq, Int.reduceToNat, reduceIte, Try.f45]))
    refine mloop_intro (α := Nat) (fun k => ⟨61, [(3, .int .i64 (k : Int)), (0, .vec 5 l 0 xs.length)], []⟩) (fun _ => St.none.set l (.row 49 5 (xs.map ND.c ++ ex))) (fun k => 1 ≤ k ∧ k ≤ xs.length ∧ compS (xs.take k) = xs.take k) (fun k => xs.length - k) (.of (.less ?_ (St.le_refl _)) ⟨1, rfl, rfl, by omega, by omega, ?_⟩) ?_
    · simp (config := { maxSteps := 4000000 }) (disch := first | decide | assumption | omega | (simp only [List.length_append, List.length_take, List.length_drop, List.length_cons, List.length_nil, List.length_map, List.length_set, List.length_replicate]; omega)) only [go_sem, Nat.reduceAdd, Nat.reduceSub, Nat.reduceMul, Nat.reduceDiv, Nat.reduceMod, Nat.reduceLT, Nat.reduceLeDiff, Nat.reduceEqDiff, Nat.reduceSucc, Nat.reduceGT, Int.reduceAdd, Int.reduceSub, Int.reduceMul, Int.reduceNeg, Int.reduceLT, Int.reduceLE, Int.reduceEq, Int.reduceToNat, reduceIte, weak_int, weak_same]
      first | rfl | omega
    · match xs, h2 with
      | x :: _ :: _, _ => simp [compS]
      | [], h => simp at h
      | [_], h => simp at h
    · rintro k ⟨h3, h4, h5⟩
      by_cases hk : k < xs.length
      · have hk1 : ((k : Int) - 1).toNat = k - 1 := by omega
        have hcs := comp_step (xs := xs) (j := k) (by omega) hk
        by_cases he : xs.getD k nd0 = xs.getD (k - 1) nd0
        · rw [if_pos he] at hcs
          rw [h5] at hcs
          repeat' (first | ((with_reducible refine mnew_intro fun nl hnl => ?_); revert hnl; (repeat (with_reducible refine set_none_intro fun _ _ => ?_)); intro hnl) | with_reducible refine mdraw_plain mixed (by decide +kernel) ?_ | with_reducible refine mif_go (fun h => ?_) (fun h => ?_) | with_reducible refine mfork_dec (fun h => ?_) (fun h => ?_) | with_reducible refine mgfork_dec (fun h => ?_) (fun h => ?_) | with_reducible refine mgfork_dec' (fun h => ?_) (fun h => ?_) | (with_reducible refine mfork_bool (fun h => ?_) (fun h => ?_) <;> simp only [h]) | (with_reducible refine mgfork_bool (fun h => ?_) (fun h => ?_) <;> simp only [h]) | (simp (config := { maxSteps := 4000000 }) (disch := first | decide | assumption | omega | (simp only [List.length_append, List.length_take, List.length_drop, List.length_cons, List.length_nil, List.length_map, List.length_set, List.length_replicate]; omega)) only [go_sem, Nat.reduceAdd, Nat.reduceSub, Nat.reduceMul, Nat.reduceDiv, Nat.reduceMod, Nat.reduceLT, Nat.reduceLeDiff, Nat.reduceEqDiff, Nat.reduceSucc, Nat.reduceGT, Int.reduceAdd, Int.reduceSub, Int.reduceMul, Int.reduceNeg, Int.reduceLT, Int.reduceLE, Int.reduceEq, Int.reduceToNat, reduceIte, getD_mapd nd0, hk1, he]))
          refine mloop_intro (α := Nat × Nat × List ND) (fun a => ⟨61, [(3, .int .i64 (a.1 : Int)), (4, .vec 5 l k (xs.length - k)), (5, .int .i64 (a.2.1 : Int)), (0, .vec 5 l 0 xs.length)], []⟩) (fun a => St.none.set l (.row 49 5 (a.2.2.map ND.c ++ ex)))
            (fun a => 1 ≤ a.2.1 ∧ a.2.1 ≤ xs.length - k ∧ a.2.2.length = xs.length ∧ a.1 < k + a.2.1 ∧ a.1 = (compS (xs.take (k + a.2.1))).length ∧ a.2.2.take a.1 = compS (xs.take (k + a.2.1)) ∧ a.2.2.drop (k + a.2.1 - 1) = xs.drop (k + a.2.1 - 1)) (fun a => xs.length - k - a.2.1) ?_ ?_
          · refine .of (.less ?_ (St.le_refl _)) ⟨(k, 1, xs), rfl, rfl, by simp only; omega, by simp only; omega, rfl, by simp only; omega, ?_, ?_, rfl⟩
            · simp (config := { maxSteps := 4000000 }) (disch := first | decide | assumption | omega | (simp only [List.length_append, List.length_take, List.length_drop, List.length_cons, List.length_nil, List.length_map, List.length_set, List.length_replicate]; omega)) only [go_sem, Nat.reduceAdd, Nat.reduceSub, Nat.reduceMul, Nat.reduceDiv, Nat.reduceMod, Nat.reduceLT, Nat.reduceLeDiff, Nat.reduceEqDiff, Nat.reduceSucc, Nat.reduceGT, Int.reduceAdd, Int.reduceSub, Int.reduceMul, Int.reduceNeg, Int.reduceLT, Int.reduceLE, Int.reduceEq, Int.reduceToNat, reduceIte, weak_int, weak_same]
              first | rfl | omega
            · simp only; rw [hcs, List.length_take]; omega
            · simp only; rw [hcs]
          · rintro ⟨q, k2, A⟩ ⟨g1, g2, g3, g4, g5, g6, g7⟩
            simp only at g1 g2 g3 g4 g5 g6 g7 ⊢
            by_cases hk2 : k2 < xs.length - k
            · have hk21 : ((k2 : Int) - 1).toNat = k2 - 1 := by omega
              have hcs2 := comp_step (xs := xs) (j := k + k2) (by omega) (by omega)
              have v1 := drop_get g7 (show k + k2 - 1 ≤ k + k2 by omega)
              have v2 := drop_get g7 (show k + k2 - 1 ≤ k + (k2 - 1) by omega)
              have v3 : k + k2 - 1 = k + (k2 - 1) := by omega
              have hd : A.drop (k + k2) = xs.drop (k + k2) := by
                have := congrArg (List.drop 1) g7
                rw [List.drop_drop, List.drop_drop, show k + k2 - 1 + 1 = k + k2 by omega] at this
                exact this
              rw [v3, ← v1, ← v2] at hcs2
              have hq : q < A.length := by omega
              repeat' (first | ((with_reducible refine mnew_intro fun nl hnl => ?_); revert hnl; (repeat (with_reducible refine set_none_intro fun _ _ => ?_)); intro hnl) | with_reducible refine mdraw_plain mixed (by decide +kernel) ?_ | with_reducible refine mif_go (fun h => ?_) (fun h => ?_) | with_reducible refine mfork_dec (fun h => ?_) (fun h => ?_) | with_reducible refine mgfork_dec (fun h => ?_) (fun h => ?_) | with_reducible refine mgfork_dec' (fun h => ?_) (fun h => ?_) | (with_reducible refine mfork_bool (fun h => ?_) (fun h => ?_) <;> simp only [h]) | (with_reducible refine mgfork_bool (fun h => ?_) (fun h => ?_) <;> simp only [h]) | (simp (config := { maxSteps := 4000000 }) (disch := first | decide | assumption | omega | (simp only [List.length_append, List.length_take, List.length_drop, List.length_cons, List.length_nil, List.length_map, List.length_set, List.length_replicate]; omega)) only [go_sem, Nat.reduceAdd, Nat.reduceSub, Nat.reduceMul, Nat.reduceDiv, Nat.reduceMod, Nat.reduceLT, Nat.reduceLeDiff, Nat.reduceEqDiff, Nat.reduceSucc, Nat.reduceGT, Int.reduceAdd, Int.reduceSub, Int.reduceMul, Int.reduceNeg, Int.reduceLT, Int.reduceLE, Int.reduceEq, Int.reduceToNat, reduceIte, getD_mapd nd0, hk21]))
              · have hne : ¬ A.getD (k + k2) nd0 = A.getD (k + (k2 - 1)) nd0 := fun e => h (by rw [e]; exact ⟨rfl, rfl, rfl, rfl, rfl⟩)
                rw [if_neg hne] at hcs2
                refine .of (.less (l1 := [(3, .int .i64 ((q + 1 : Nat) : Int)), (4, .vec 5 l k (xs.length - k)), (5, .int .i64 ((k2 + 1 : Nat) : Int)), (0, .vec 5 l 0 xs.length)]) (σ1 := St.none.set l (.row 49 5 ((A.set q (A.getD (k + k2) nd0)).map ND.c ++ ex))) ?_ (St.set_le (St.none_le _) ((set_hit _ _ _).trans ?_)))
                  ⟨(q + 1, k2 + 1, A.set q (A.getD (k + k2) nd0)), rfl, rfl, ⟨by simp only; omega, by simp only; omega, by simpa using g3, by simp only; omega, ?_, ?_, ?_⟩, by simp only; omega⟩
                · simp (config := { maxSteps := 4000000 }) (disch := first | decide | assumption | omega | (simp only [List.length_append, List.length_take, List.length_drop, List.length_cons, List.length_nil, List.length_map, List.length_set, List.length_replicate]; omega)) only [go_sem, Nat.reduceAdd, Nat.reduceSub, Nat.reduceMul, Nat.reduceDiv, Nat.reduceMod, Nat.reduceLT, Nat.reduceLeDiff, Nat.reduceEqDiff, Nat.reduceSucc, Nat.reduceGT, Int.reduceAdd, Int.reduceSub, Int.reduceMul, Int.reduceNeg, Int.reduceLT, Int.reduceLE, Int.reduceEq, Int.reduceToNat, reduceIte, weak_int, weak_same]
                  omega
                · show some (MObj.row 49 5 ((A.map ND.c ++ ex).set q (ND.c (A.getD (k + k2) nd0)))) = _
                  rw [List.set_append_left _ _ (by rw [List.length_map]; exact hq), ← List.map_set]
                · show q + 1 = (compS (xs.take (k + k2 + 1))).length
                  rw [hcs2, List.length_append, ← g5]; rfl
                · show (A.set q _).take (q + 1) = compS (xs.take (k + k2 + 1))
                  rw [take_set_succ hq, hcs2, g6]
                · show (A.set q _).drop (k + k2 + 1 - 1) = xs.drop (k + k2 + 1 - 1)
                  rw [Nat.add_sub_cancel, List.drop_set_of_lt g4, hd]
              · have heq := nd_ext (Classical.not_not.1 h)
                rw [if_pos heq] at hcs2
                refine .of (.less (l1 := [(3, .int .i64 (q : Int)), (4, .vec 5 l k (xs.length - k)), (5, .int .i64 ((k2 + 1 : Nat) : Int)), (0, .vec 5 l 0 xs.length)]) ?_ (St.le_refl _))
                  ⟨(q, k2 + 1, A), rfl, rfl, ⟨by simp only; omega, by simp only; omega, g3, by simp only; omega, ?_, ?_, ?_⟩, by simp only; omega⟩
                · simp (config := { maxSteps := 4000000 }) (disch := first | decide | assumption | omega | (simp only [List.length_append, List.length_take, List.length_drop, List.length_cons, List.length_nil, List.length_map, List.length_set, List.length_replicate]; omega)) only [go_sem, Nat.reduceAdd, Nat.reduceSub, Nat.reduceMul, Nat.reduceDiv, Nat.reduceMod, Nat.reduceLT, Nat.reduceLeDiff, Nat.reduceEqDiff, Nat.reduceSucc, Nat.reduceGT, Int.reduceAdd, Int.reduceSub, Int.reduceMul, Int.reduceNeg, Int.reduceLT, Int.reduceLE, Int.reduceEq, Int.reduceToNat, reduceIte, weak_int, weak_same]
                  omega
                · show q = (compS (xs.take (k + k2 + 1))).length
                  rw [hcs2, ← g5]
                · show A.take q = compS (xs.take (k + k2 + 1))
                  rw [hcs2, g6]
                · show A.drop (k + k2 + 1 - 1) = xs.drop (k + k2 + 1 - 1)
                  rw [Nat.add_sub_cancel, hd]
            · have : k2 = xs.length - k := by omega
              subst this
              rw [show k + (xs.length - k) = xs.length by omega, List.take_length] at g5 g6
              repeat' (first | ((with_reducible refine mnew_intro fun nl hnl => ?_); revert hnl; (repeat (with_reducible refine set_none_intro fun _ _ => ?_)); intro hnl) | with_reducible refine mdraw_plain mixed (by decide +kernel) ?_ | with_reducible refine mif_go (fun h => ?_) (fun h => ?_) | with_reducible refine mfork_dec (fun h => ?_) (fun h => ?_) | with_reducible refine mgfork_dec (fun h => ?_) (fun h => ?_) | with_reducible refine mgfork_dec' (fun h => ?_) (fun h => ?_) | (with_reducible refine mfork_bool (fun h => ?_) (fun h => ?_) <;> simp only [h]) | (with_reducible refine mgfork_bool (fun h => ?_) (fun h => ?_) <;> simp only [h]) | (simp (config := { maxSteps := 4000000 }) (disch := first | decide | assumption | omega | (simp only [List.length_append, List.length_take, List.length_drop, List.length_cons, List.length_nil, List.length_map, List.length_set, List.length_replicate]; omega)) only [go_sem, Nat.reduceAdd, Nat.reduceSub, Nat.reduceMul, Nat.reduceDiv, Nat.reduceMod, Nat.reduceLT, Nat.reduceLeDiff, Nat.reduceEqDiff, Nat.reduceSucc, Nat.reduceGT, Int.reduceAdd, Int.reduceSub, Int.reduceMul, Int.reduceNeg, Int.reduceLT, Int.reduceLE, Int.reduceEq, Int.reduceToNat, reduceIte]))
              refine ⟨List.replicate (xs.length - q) nd0.c ++ List.drop (q + (List.replicate (xs.length - q) nd0.c).length) (A.map ND.c ++ ex), by rw [g5], ?_⟩
              show St.none.set l (.row 49 5 (List.take q (A.map ND.c ++ ex) ++ List.replicate (xs.length - q) nd0.c ++ List.drop (q + (List.replicate (xs.length - q) nd0.c).length) (A.map ND.c ++ ex))) = _
              rw [List.append_assoc, List.take_append_of_le_length (by rw [List.length_map]; omega), ← List.map_take, g6]
        · rw [if_neg he, h5] at hcs
          have hne : ¬ ((xs.getD k nd0).op = (xs.getD (k - 1) nd0).op ∧ (xs.getD k nd0).n = (xs.getD (k - 1) nd0).n ∧ (xs.getD k nd0).v.kd = (xs.getD (k - 1) nd0).v.kd ∧ (xs.getD k nd0).v.n = (xs.getD (k - 1) nd0).v.n ∧ (xs.getD k nd0).v.s = (xs.getD (k - 1) nd0).v.s) := fun h => he (nd_ext h)
          repeat' (first | ((with_reducible refine mnew_intro fun nl hnl => ?_); revert hnl; (repeat (with_reducible refine set_none_intro fun _ _ => ?_)); intro hnl) | with_reducible refine mdraw_plain mixed (by decide +kernel) ?_ | with_reducible refine mif_go (fun h => ?_) (fun h => ?_) | with_reducible refine mfork_dec (fun h => ?_) (fun h => ?_) | with_reducible refine mgfork_dec (fun h => ?_) (fun h => ?_) | with_reducible refine mgfork_dec' (fun h => ?_) (fun h => ?_) | (with_reducible refine mfork_bool (fun h => ?_) (fun h => ?_) <;> simp only [h]) | (with_reducible refine mgfork_bool (fun h => ?_) (fun h => ?_) <;> simp only [h]) | (simp (config := { maxSteps := 4000000 }) (disch := first | decide | assumption | omega | (simp only [List.length_append, List.length_take, List.length_drop, List.length_cons, List.length_nil, List.length_map, List.length_set, List.length_replicate]; omega)) only [go_sem, Nat.reduceAdd, Nat.reduceSub, Nat.reduceMul, Nat.reduceDiv, Nat.reduceMod, Nat.reduceLT, Nat.reduceLeDiff, Nat.reduceEqDiff, Nat.reduceSucc, Nat.reduceGT, Int.reduceAdd, Int.reduceSub, Int.reduceMul, Int.reduceNeg, Int.reduceLT, Int.reduceLE, Int.reduceEq, Int.reduceToNat, reduceIte, getD_mapd nd0, hk1]))
          refine .of (.less (l1 := [(3, .int .i64 ((k + 1 : Nat) : Int)), (0, .vec 5 l 0 xs.length)]) ?_ (St.le_refl _)) ⟨k + 1, rfl, rfl, ⟨by omega, by omega, ?_⟩, by omega⟩
          · simp (config := { maxSteps := 4000000 }) (disch := first | decide | assumption | omega | (simp only [List.length_append, List.length_take, List.length_drop, List.length_cons, List.length_nil, List.length_map, List.length_set, List.length_replicate]; omega)) only [go_sem, Nat.reduceAdd, Nat.reduceSub, Nat.reduceMul, Nat.reduceDiv, Nat.reduceMod, Nat.reduceLT, Nat.reduceLeDiff, Nat.reduceEqDiff, Nat.reduceSucc, Nat.reduceGT, Int.reduceAdd, Int.reduceSub, Int.reduceMul, Int.reduceNeg, Int.reduceLT, Int.reduceLE, Int.reduceEq, Int.reduceToNat, reduceIte, weak_int, weak_same]
            omega
          · rw [hcs, List.take_succ_eq_append_getElem hk, ← getD_of_lt nd0 hk]
      · have : k = xs.length := by omega
        subst this
        rw [List.take_length] at h5
        rw [h5]
        repeat' (first | ((with_reducible refine mnew_intro fun nl hnl => ?_); revert hnl; (repeat (with_reducible refine set_none_intro fun _ _ => ?_)); intro hnl) | with_reducible refine mdraw_plain mixed (by decide +kernel) ?_ | with_reducible refine mif_go (fun h => ?_) (fun h => ?_) | with_reducible refine mfork_dec (fun h => ?_) (fun h => ?_) | with_reducible refine mgfork_dec (fun h => ?_) (fun h => ?_) | with_reducible refine mgfork_dec' (fun h => ?_) (fun h => ?_) | (with_reducible refine mfork_bool (fun h => ?_) (fun h => ?_) <;> simp only [h]) | (with_reducible refine mgfork_bool (fun h => ?_) (fun h => ?_) <;> simp only [h]) | (simp (config := { maxSteps := 4000000 }) (disch := first | decide | assumption | omega | (simp only [List.length_append, List.length_take, List.length_drop, List.length_cons, List.length_nil, List.length_map, List.length_set, List.length_replicate]; omega)) only [go_sem, Nat.reduceAdd, Nat.reduceSub, Nat.reduceMul, Nat.reduceDiv, Nat.reduceMod, Nat.reduceLT, Nat.reduceLeDiff, Nat.reduceEqDiff, Nat.reduceSucc, Nat.reduceGT, Int.reduceAdd, Int.reduceSub, Int.reduceMul, Int.reduceNeg, Int.reduceLT, Int.reduceLE, Int.reduceEq, Int.reduceToNat, reduceIte]))
        exact ⟨ex, rfl⟩
end Go.Proofs.Ytielcgplbnlgbaa
