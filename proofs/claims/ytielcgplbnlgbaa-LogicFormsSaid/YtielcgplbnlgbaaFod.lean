/- Parts of the proof, joined: each part says what it proves, and under which conditions. -/
import Derived.Test.YtielcgplbnlgbaaFoc
import Derived.Shelf.SlSortCmp.WholeK
import Derived.Shelf.SlGeneric
import Derived.Test.YtielcgplbnlgbaaRows
section
/- Contract of the document's joined: the conditions that the theorem names. -/
set_option linter.unusedVariables false
set_option linter.unusedSimpArgs false
namespace Go.Proofs.Ytielcgplbnlgbaa

theorem sortT_snoc (p : List T) (x : T) : sortT (p ++ [x]) = insT x false (sortT p) := by simp [sortT]
theorem filter_take_succ {p : List T} {f : T → Bool} {i : Nat} (h : i < p.length) : (p.take (i + 1)).filter f = (p.take i).filter f ++ (if f p[i] = true then [p[i]] else []) := by
  rw [List.take_succ_eq_append_getElem h, List.filter_append]
  congr 1
  rw [List.filter_cons]
  split <;> rfl
theorem foldO_cons (op : Int) (x : T) {l : List T} (h : l ≠ []) : foldO op (x :: l) = .two (nd op) x (foldO op l) := by
  cases l with
  | nil => exact absurd rfl h
  | cons y r => rfl
theorem root_getD (t : T) : (t.fl.map ND.c).getD 0 [] = t.root.c := by rw [T.fl_kids]; rfl

theorem any_take_succ' {p : List T} {f : T → Bool} {i : Nat} (h : i < p.length) : (p.take (i + 1)).any f = ((p.take i).any f || f p[i]) := by
  rw [List.take_succ_eq_append_getElem h, List.any_append]; simp

set_option maxHeartbeats 8000000 in
/-- Behind the pieces. -/
theorem rjoined_call (op : Int) (hop : op = 11 ∨ op = 12) (a b : T) (ga : Good a) (gb : Good b) (la : a.fl.length ≤ 200) (lb : b.fl.length ≤ 200) :
    MCalls Try.prog 60 [.int .i64 op, .lst 5 (a.fl.map ND.c) false, .lst 5 (b.fl.map ND.c) false] St.none (fun r _ => r = .lst 5 ((joinT op a b).fl.map ND.c) false) := by
  refine MCalls.seen (MCalls.body 90 [.tmp 6] Try.func60 rfl rfl rfl rfl ?_)
  have ca := rpieces_call op hop a ga.1 (by omega)
  have cb := rpieces_call op hop b gb.1 (by omega)
  have hwa := pcs_wgt (op := op) a
  have hwb := pcs_wgt (op := op) b
  have hw : wgt (pcs op a ++ pcs op b) ≤ 402 := by rw [wgt_append]; omega
  have gp : ∀ y, y ∈ pcs op a ++ pcs op b → Good y := fun y hy => (List.mem_append.1 hy).elim (good_pcs ga y) (good_pcs gb y)
  have hla := Nat.le_trans (wgt_len _) hwa
  have hlb := Nat.le_trans (wgt_len _) hwb
  have huz : unitOf op ≠ zeroOf op := by unfold unitOf zeroOf; split <;> omega
  have hj : joinT op a b = normL op (pcs op a ++ pcs op b) := rfl
  rw [hj]
  have hPl : (pcs op a ++ pcs op b).length = (pcs op a).length + (pcs op b).length := List.length_append
  obtain ⟨P, hP⟩ : ∃ P, pcs op a ++ pcs op b = P := ⟨_, rfl⟩
  rw [hP] at hw gp hPl ⊢
  have hPn : P.length ≤ 402 := Nat.le_trans (wgt_len P) hw
  -- the sorted part
  have srt : ∀ i, wgt (sortT ((P.take i).filter fun t => decide (t.root.op ≠ unitOf op))) ≤ 402 ∧ ∀ y, y ∈ sortT ((P.take i).filter fun t => decide (t.root.op ≠ unitOf op)) → Good y := fun i => by
    refine ⟨Nat.le_trans (sortT_wgt _) (Nat.le_trans (filter_wgt _ _) (Nat.le_trans (take_wgt _ _) hw)), fun y hy => ?_⟩
    rw [mem_sortT fun z hz => (gp z (List.mem_of_mem_take (List.mem_filter.1 hz).1)).1] at hy
    exact gp y (List.mem_of_mem_take (List.mem_filter.1 hy).1)
  have fin : ∀ L : List T, L = sortT (P.filter fun t => decide (t.root.op ≠ unitOf op)) → P.any (fun t => decide (t.root.op = zeroOf op)) = false → normL op P = (if agst L = true then .leaf (nd (zeroOf op)) else foldO op L) := fun L hL hz => by
    unfold normL
    rw [hL, hz]; simp
  have finz : P.any (fun t => decide (t.root.op = zeroOf op)) = true → normL op P = .leaf (nd (zeroOf op)) := fun hz => by unfold normL; rw [if_pos hz]
  clear hj ga gb
  by_cases h12 : op = 12
  all_goals
    have hun : unitOf op = if op = 12 then 2 else 1 := rfl
    have hze : zeroOf op = if op = 12 then 1 else 2 := rfl
    first | rw [if_pos h12] at hun hze | rw [if_neg h12] at hun hze
    repeat' (first | ((with_reducible refine wT ?_); (first | (fail_if_success (have := nl1)); with_reducible refine wN fun nl1 hnl => ?_ | (fail_if_success (have := nl2)); with_reducible refine wN fun nl2 hnl => ?_ | (fail_if_success (have := nl3)); with_reducible refine wN fun nl3 hnl => ?_ | with_reducible refine wN fun _ hnl => ?_); revert hnl; (repeat with_reducible refine wS fun _ _ => ?_); intro hnl) | (with_reducible first | refine mdraw_plain mixed (by decide +kernel) ?_ | refine wI (fun h => ?_) (fun h => ?_) | refine wF (fun h => ?_) (fun h => ?_) | refine wG (fun h => ?_) (fun h => ?_) | refine wH (fun h => ?_) (fun h => ?_)) | (with_reducible refine mfork_bool (fun h => ?_) (fun h => ?_) <;> simp only [h]) | (with_reducible refine mgfork_bool (fun h => ?_) (fun h => ?_) <;> simp only [h]) | (simp (config := { maxSteps := 4000000 }) (disch := first | decide | assumption | omega | (simp only [wL]; omega)) only [go_sem, Nat.reduceAdd, Nat.reduceSub, Nat.reduceMul, Nat.reduceDiv, Nat.reduceMod, Nat.reduceLT, Nat.reduceLeDiff, Nat.reduceEqDiff, Nat.reduceSucc, Nat.reduceGT, Int.reduceAdd, Int.reduceSub, Int.reduceMul, Int.reduceNeg, Int.reduceLT, Int.reduceLE, Int.reduceEq, Int.reduceToNat, reduceIte, Try.f60]))
    refine use_new ca fun qa hqa => ?_
    repeat' (first | ((with_reducible refine wT ?_); (first | (fail_if_success (have := nl1)); with_reducible refine wN fun nl1 hnl => ?_ | (fail_if_success (have := nl2)); with_reducible refine wN fun nl2 hnl => ?_ | (fail_if_success (have := nl3)); with_reducible refine wN fun nl3 hnl => ?_ | with_reducible refine wN fun _ hnl => ?_); revert hnl; (repeat with_reducible refine wS fun _ _ => ?_); intro hnl) | (with_reducible first | refine mdraw_plain mixed (by decide +kernel) ?_ | refine wI (fun h => ?_) (fun h => ?_) | refine wF (fun h => ?_) (fun h => ?_) | refine wG (fun h => ?_) (fun h => ?_) | refine wH (fun h => ?_) (fun h => ?_)) | (with_reducible refine mfork_bool (fun h => ?_) (fun h => ?_) <;> simp only [h]) | (with_reducible refine mgfork_bool (fun h => ?_) (fun h => ?_) <;> simp only [h]) | (simp (config := { maxSteps := 4000000 }) (disch := first | decide | assumption | omega | (simp only [wL]; omega)) only [go_sem, Nat.reduceAdd, Nat.reduceSub, Nat.reduceMul, Nat.reduceDiv, Nat.reduceMod, Nat.reduceLT, Nat.reduceLeDiff, Nat.reduceEqDiff, Nat.reduceSucc, Nat.reduceGT, Int.reduceAdd, Int.reduceSub, Int.reduceMul, Int.reduceNeg, Int.reduceLT, Int.reduceLE, Int.reduceEq, Int.reduceToNat, reduceIte]))
    refine use_new cb fun qb hqb => ?_
    revert hqb; (repeat (with_reducible refine set_none_intro fun _ _ => ?_)); intro hqb
    repeat' (first | ((with_reducible refine wT ?_); (first | (fail_if_success (have := nl1)); with_reducible refine wN fun nl1 hnl => ?_ | (fail_if_success (have := nl2)); with_reducible refine wN fun nl2 hnl => ?_ | (fail_if_success (have := nl3)); with_reducible refine wN fun nl3 hnl => ?_ | with_reducible refine wN fun _ hnl => ?_); revert hnl; (repeat with_reducible refine wS fun _ _ => ?_); intro hnl) | (with_reducible first | refine mdraw_plain mixed (by decide +kernel) ?_ | refine wI (fun h => ?_) (fun h => ?_) | refine wF (fun h => ?_) (fun h => ?_) | refine wG (fun h => ?_) (fun h => ?_) | refine wH (fun h => ?_) (fun h => ?_)) | (with_reducible refine mfork_bool (fun h => ?_) (fun h => ?_) <;> simp only [h]) | (with_reducible refine mgfork_bool (fun h => ?_) (fun h => ?_) <;> simp only [h]) | (simp (config := { maxSteps := 4000000 }) (disch := first | decide | assumption | omega | (simp only [wL]; omega)) only [go_sem, Nat.reduceAdd, Nat.reduceSub, Nat.reduceMul, Nat.reduceDiv, Nat.reduceMod, Nat.reduceLT, Nat.reduceLeDiff, Nat.reduceEqDiff, Nat.reduceSucc, Nat.reduceGT, Int.reduceAdd, Int.reduceSub, Int.reduceMul, Int.reduceNeg, Int.reduceLT, Int.reduceLE, Int.reduceEq, Int.reduceToNat, reduceIte, List.take_length, Nat.min_self, hP]))
    refine mloop_intro (α := Nat × List T) (fun s => ⟨90, [(11, .int .i64 (s.1 : Int)), (10, .lst 1 (s.2.map tcell) false), (9, .lst 1 (P.map tcell) false), (8, .int .i64 (zeroOf op)), (7, .int .i64 (unitOf op)), (0, .int .i64 op)], []⟩)
      (fun _ => St.none) (fun s => s.1 ≤ P.length ∧ s.2 = sortT ((P.take s.1).filter fun t => decide (t.root.op ≠ unitOf op)) ∧ (P.take s.1).any (fun t => decide (t.root.op = zeroOf op)) = false) (fun s => P.length - s.1) ?_ ?_
    · refine .of (Ghost.freeze _ (St.le_refl _) (σ1 := St.none) (St.none_le _) (fun k o hk => by cases hk) ?_) ⟨(0, []), rfl, rfl, Nat.zero_le _, rfl, rfl⟩
      intro p hp
      simp only [List.mem_cons, List.not_mem_nil, or_false] at hp
      rcases hp with rfl | rfl | rfl | rfl | rfl | rfl
      · exact .same _
      · exact .vecAll (by first | (simp (config := { maxSteps := 4000000 }) (disch := first | decide | assumption | omega | (simp only [wL]; omega)) only [go_sem, Nat.reduceAdd, Nat.reduceSub, Nat.reduceMul, Nat.reduceDiv, Nat.reduceMod, Nat.reduceLT, Nat.reduceLeDiff, Nat.reduceEqDiff, Nat.reduceSucc, Nat.reduceGT, Int.reduceAdd, Int.reduceSub, Int.reduceMul, Int.reduceNeg, Int.reduceLT, Int.reduceLE, Int.reduceEq, Int.reduceToNat, reduceIte]; done) | (simp (config := { maxSteps := 4000000 }) (disch := first | decide | assumption | omega | (simp only [wL]; omega)) only [go_sem, Nat.reduceAdd, Nat.reduceSub, Nat.reduceMul, Nat.reduceDiv, Nat.reduceMod, Nat.reduceLT, Nat.reduceLeDiff, Nat.reduceEqDiff, Nat.reduceSucc, Nat.reduceGT, Int.reduceAdd, Int.reduceSub, Int.reduceMul, Int.reduceNeg, Int.reduceLT, Int.reduceLE, Int.reduceEq, Int.reduceToNat, reduceIte]; rfl)) rfl
      · exact .vecAll (by first | (simp (config := { maxSteps := 4000000 }) (disch := first | decide | assumption | omega | (simp only [wL]; omega)) only [go_sem, Nat.reduceAdd, Nat.reduceSub, Nat.reduceMul, Nat.reduceDiv, Nat.reduceMod, Nat.reduceLT, Nat.reduceLeDiff, Nat.reduceEqDiff, Nat.reduceSucc, Nat.reduceGT, Int.reduceAdd, Int.reduceSub, Int.reduceMul, Int.reduceNeg, Int.reduceLT, Int.reduceLE, Int.reduceEq, Int.reduceToNat, reduceIte]; done) | (simp (config := { maxSteps := 4000000 }) (disch := first | decide | assumption | omega | (simp only [wL]; omega)) only [go_sem, Nat.reduceAdd, Nat.reduceSub, Nat.reduceMul, Nat.reduceDiv, Nat.reduceMod, Nat.reduceLT, Nat.reduceLeDiff, Nat.reduceEqDiff, Nat.reduceSucc, Nat.reduceGT, Int.reduceAdd, Int.reduceSub, Int.reduceMul, Int.reduceNeg, Int.reduceLT, Int.reduceLE, Int.reduceEq, Int.reduceToNat, reduceIte]; rfl)) (by rw [List.length_map]; omega)
      · rw [hze]; exact .same _
      · rw [hun]; exact .same _
      · exact .same _
    · rintro ⟨i, L⟩ ⟨hi, hL, hz⟩
      simp only at hi hL hz ⊢
      obtain ⟨s1, s2⟩ := srt i
      rw [← hL] at s1 s2
      have hLl := Nat.le_trans (wgt_len L) s1
      by_cases hlt : i < P.length
      · have hx := getD_mem (.leaf nd0) hlt
        have hxi : P[i] = P.getD i (.leaf nd0) := (getD_of_lt _ hlt).symm
        obtain ⟨x, hxE⟩ : ∃ x, P.getD i (.leaf nd0) = x := ⟨_, rfl⟩
        rw [hxE] at hx hxi
        have hroot := root_getD x
        have hpos := x.fl_pos
        have gx := gp x hx
        have hwx := wgt_mem hx
        have hins := rinsert_call L x (by omega) (fun y hy => by have := wgt_mem hy; omega) (by omega) (fun y hy => good_size (s2 y hy)) (good_size gx) false
        repeat' (first | (with_reducible refine use_pure hins ?_) | ((with_reducible refine wT ?_); (first | (fail_if_success (have := nl1)); with_reducible refine wN fun nl1 hnl => ?_ | (fail_if_success (have := nl2)); with_reducible refine wN fun nl2 hnl => ?_ | (fail_if_success (have := nl3)); with_reducible refine wN fun nl3 hnl => ?_ | with_reducible refine wN fun _ hnl => ?_); revert hnl; (repeat with_reducible refine wS fun _ _ => ?_); intro hnl) | (with_reducible first | refine mdraw_plain mixed (by decide +kernel) ?_ | refine wI (fun h => ?_) (fun h => ?_) | refine wF (fun h => ?_) (fun h => ?_) | refine wG (fun h => ?_) (fun h => ?_) | refine wH (fun h => ?_) (fun h => ?_)) | (with_reducible refine mfork_bool (fun h => ?_) (fun h => ?_) <;> simp only [h]) | (with_reducible refine mgfork_bool (fun h => ?_) (fun h => ?_) <;> simp only [h]) | (simp (config := { maxSteps := 4000000 }) (disch := first | decide | assumption | omega | (simp only [wL]; omega)) only [go_sem, Nat.reduceAdd, Nat.reduceSub, Nat.reduceMul, Nat.reduceDiv, Nat.reduceMod, Nat.reduceLT, Nat.reduceLeDiff, Nat.reduceEqDiff, Nat.reduceSucc, Nat.reduceGT, Int.reduceAdd, Int.reduceSub, Int.reduceMul, Int.reduceNeg, Int.reduceLT, Int.reduceLE, Int.reduceEq, Int.reduceToNat, reduceIte, getD_mapd (T.leaf nd0), hxE, hroot]))
        · rw [finz (List.any_eq_true.2 ⟨x, hx, by simp [h]⟩)]
          exact .vecAll (set_hit _ _ _) rfl
        · rename_i h1
          have h2 := h
          refine .of (.less ?_ (St.le_refl _)) ⟨(i + 1, insT x false L), rfl, rfl, ⟨by simp only; omega, ?_, ?_⟩, by simp only; omega⟩
          · simp (config := { maxSteps := 4000000 }) (disch := first | decide | assumption | omega | (simp only [wL]; omega)) only [go_sem, Nat.reduceAdd, Nat.reduceSub, Nat.reduceMul, Nat.reduceDiv, Nat.reduceMod, Nat.reduceLT, Nat.reduceLeDiff, Nat.reduceEqDiff, Nat.reduceSucc, Nat.reduceGT, Int.reduceAdd, Int.reduceSub, Int.reduceMul, Int.reduceNeg, Int.reduceLT, Int.reduceLE, Int.reduceEq, Int.reduceToNat, reduceIte, weak_int, weak_same]
            all_goals rfl
          · simp only
            rw [filter_take_succ hlt, hxi, if_pos (by simp [h2]), sortT_snoc, ← hL]
          · simp only
            rw [any_take_succ' hlt, hz, hxi]; simp [h1]
        · rename_i h1
          have h2 := h
          refine .of (.less ?_ (St.le_refl _)) ⟨(i + 1, L), rfl, rfl, ⟨by simp only; omega, ?_, ?_⟩, by simp only; omega⟩
          · simp (config := { maxSteps := 4000000 }) (disch := first | decide | assumption | omega | (simp only [wL]; omega)) only [go_sem, Nat.reduceAdd, Nat.reduceSub, Nat.reduceMul, Nat.reduceDiv, Nat.reduceMod, Nat.reduceLT, Nat.reduceLeDiff, Nat.reduceEqDiff, Nat.reduceSucc, Nat.reduceGT, Int.reduceAdd, Int.reduceSub, Int.reduceMul, Int.reduceNeg, Int.reduceLT, Int.reduceLE, Int.reduceEq, Int.reduceToNat, reduceIte, weak_int, weak_same]
            all_goals rfl
          · simp only
            rw [filter_take_succ hlt, hxi, if_neg (by simpa using h2), List.append_nil, ← hL]
          · simp only
            rw [any_take_succ' hlt, hz, hxi]; simp [h1]
      · have hie : i = P.length := by omega
        subst hie
        rw [List.take_length] at hL hz
        rw [fin L hL hz]
        have hag := ragainst_call L (by omega) (fun y hy => by have := wgt_mem hy; omega) false
        have hfl : ∀ k, (foldO op (L.drop k)).fl.length ≤ 402 := fun k => by
          have h1 := foldO_len op (L.drop k)
          have h2 := drop_wgt L k
          omega
        clear hL hz fin finz srt
        cases hab : agst L <;> rw [hab] at hag
        · by_cases hne : L = []
          · subst hne
            simp only [List.map_nil] at hag
            repeat' (first | (with_reducible refine use_pure hag ?_) | ((with_reducible refine wT ?_); (first | (fail_if_success (have := nl1)); with_reducible refine wN fun nl1 hnl => ?_ | (fail_if_success (have := nl2)); with_reducible refine wN fun nl2 hnl => ?_ | (fail_if_success (have := nl3)); with_reducible refine wN fun nl3 hnl => ?_ | with_reducible refine wN fun _ hnl => ?_); revert hnl; (repeat with_reducible refine wS fun _ _ => ?_); intro hnl) | (with_reducible first | refine mdraw_plain mixed (by decide +kernel) ?_ | refine wI (fun h => ?_) (fun h => ?_) | refine wF (fun h => ?_) (fun h => ?_) | refine wG (fun h => ?_) (fun h => ?_) | refine wH (fun h => ?_) (fun h => ?_)) | (with_reducible refine mfork_bool (fun h => ?_) (fun h => ?_) <;> simp only [h]) | (with_reducible refine mgfork_bool (fun h => ?_) (fun h => ?_) <;> simp only [h]) | (simp (config := { maxSteps := 4000000 }) (disch := first | decide | assumption | omega | (simp only [wL]; omega)) only [go_sem, Nat.reduceAdd, Nat.reduceSub, Nat.reduceMul, Nat.reduceDiv, Nat.reduceMod, Nat.reduceLT, Nat.reduceLeDiff, Nat.reduceEqDiff, Nat.reduceSucc, Nat.reduceGT, Int.reduceAdd, Int.reduceSub, Int.reduceMul, Int.reduceNeg, Int.reduceLT, Int.reduceLE, Int.reduceEq, Int.reduceToNat, reduceIte]))
            exact .vecAll (set_hit _ _ _) rfl
          · have hLp : 0 < L.length := List.length_pos_iff.2 hne
            obtain ⟨m, hm⟩ : ∃ m, L.length = m + 1 := ⟨L.length - 1, by omega⟩
            have em : (((m + 1 : Nat) : Int) - 1) = (m : Int) := by omega
            have hlast : L.getD m (.leaf nd0) = foldO op (L.drop m) := by
              rw [List.drop_eq_getElem_cons (by omega), List.drop_eq_nil_of_le (by omega), getD_of_lt _ (by omega)]; rfl
            repeat' (first | (with_reducible refine use_pure hag ?_) | ((with_reducible refine wT ?_); (first | (fail_if_success (have := nl1)); with_reducible refine wN fun nl1 hnl => ?_ | (fail_if_success (have := nl2)); with_reducible refine wN fun nl2 hnl => ?_ | (fail_if_success (have := nl3)); with_reducible refine wN fun nl3 hnl => ?_ | with_reducible refine wN fun _ hnl => ?_); revert hnl; (repeat with_reducible refine wS fun _ _ => ?_); intro hnl) | (with_reducible first | refine mdraw_plain mixed (by decide +kernel) ?_ | refine wI (fun h => ?_) (fun h => ?_) | refine wF (fun h => ?_) (fun h => ?_) | refine wG (fun h => ?_) (fun h => ?_) | refine wH (fun h => ?_) (fun h => ?_)) | (with_reducible refine mfork_bool (fun h => ?_) (fun h => ?_) <;> simp only [h]) | (with_reducible refine mgfork_bool (fun h => ?_) (fun h => ?_) <;> simp only [h]) | (simp (config := { maxSteps := 4000000 }) (disch := first | decide | assumption | omega | (simp only [wL]; omega)) only [go_sem, Nat.reduceAdd, Nat.reduceSub, Nat.reduceMul, Nat.reduceDiv, Nat.reduceMod, Nat.reduceLT, Nat.reduceLeDiff, Nat.reduceEqDiff, Nat.reduceSucc, Nat.reduceGT, Int.reduceAdd, Int.reduceSub, Int.reduceMul, Int.reduceNeg, Int.reduceLT, Int.reduceLE, Int.reduceEq, Int.reduceToNat, reduceIte, getD_mapd (T.leaf nd0), hm, em, hlast]))
            refine mloop_intro (α := Nat) (fun k => ⟨90, [(13, .int .i64 ((k : Int) - 1)), (12, .lst 5 ((foldO op (L.drop k)).fl.map ND.c) false), (10, .lst 1 (L.map tcell) false), (0, .int .i64 op)], []⟩)
              (fun _ => St.none) (fun k => k ≤ m) (fun k => k) (.of (.less ?_ (St.le_refl _)) ⟨m, rfl, rfl, Nat.le_refl _⟩) ?_
            · simp (config := { maxSteps := 4000000 }) (disch := first | decide | assumption | omega | (simp only [wL]; omega)) only [go_sem, Nat.reduceAdd, Nat.reduceSub, Nat.reduceMul, Nat.reduceDiv, Nat.reduceMod, Nat.reduceLT, Nat.reduceLeDiff, Nat.reduceEqDiff, Nat.reduceSucc, Nat.reduceGT, Int.reduceAdd, Int.reduceSub, Int.reduceMul, Int.reduceNeg, Int.reduceLT, Int.reduceLE, Int.reduceEq, Int.reduceToNat, reduceIte, weak_int, weak_same]
              all_goals omega
            · intro k hk
              have hk : k ≤ m := hk
              cases k with
              | zero =>
                have e0 : (((0 : Nat) : Int) - 1) = -1 := rfl
                repeat' (first | ((with_reducible refine wT ?_); (first | (fail_if_success (have := nl1)); with_reducible refine wN fun nl1 hnl => ?_ | (fail_if_success (have := nl2)); with_reducible refine wN fun nl2 hnl => ?_ | (fail_if_success (have := nl3)); with_reducible refine wN fun nl3 hnl => ?_ | with_reducible refine wN fun _ hnl => ?_); revert hnl; (repeat with_reducible refine wS fun _ _ => ?_); intro hnl) | (with_reducible first | refine mdraw_plain mixed (by decide +kernel) ?_ | refine wI (fun h => ?_) (fun h => ?_) | refine wF (fun h => ?_) (fun h => ?_) | refine wG (fun h => ?_) (fun h => ?_) | refine wH (fun h => ?_) (fun h => ?_)) | (with_reducible refine mfork_bool (fun h => ?_) (fun h => ?_) <;> simp only [h]) | (with_reducible refine mgfork_bool (fun h => ?_) (fun h => ?_) <;> simp only [h]) | (simp (config := { maxSteps := 4000000 }) (disch := first | decide | assumption | omega | (simp only [wL]; omega)) only [go_sem, Nat.reduceAdd, Nat.reduceSub, Nat.reduceMul, Nat.reduceDiv, Nat.reduceMod, Nat.reduceLT, Nat.reduceLeDiff, Nat.reduceEqDiff, Nat.reduceSucc, Nat.reduceGT, Int.reduceAdd, Int.reduceSub, Int.reduceMul, Int.reduceNeg, Int.reduceLT, Int.reduceLE, Int.reduceEq, Int.reduceToNat, reduceIte, e0, List.drop_zero]))
                exact .same _
              | succ k =>
                have ek : (((k + 1 : Nat) : Int) - 1) = (k : Int) := by omega
                have hkl : k < L.length := by omega
                obtain ⟨y, hyE⟩ : ∃ y, L.getD k (.leaf nd0) = y := ⟨_, rfl⟩
                have hym : y ∈ L := hyE ▸ getD_mem _ hkl
                have hyw := wgt_mem hym
                have hf1 := hfl (k + 1)
                have hj := rjoin_call op [y.fl, (foldO op (L.drop (k + 1))).fl] false (by simp) (fun l hl => by
                  simp only [List.mem_cons, List.not_mem_nil, or_false] at hl
                  rcases hl with rfl | rfl <;> omega)
                have hnext : foldO op (L.drop k) = .two (nd op) y (foldO op (L.drop (k + 1))) := by
                  rw [List.drop_eq_getElem_cons hkl, foldO_cons op _ (by rw [Ne, List.drop_eq_nil_iff]; omega), ← getD_of_lt (.leaf nd0) hkl, hyE]
                have hres : (foldO op (L.drop k)).fl = nd op :: [y.fl, (foldO op (L.drop (k + 1))).fl].flatten := by
                  rw [hnext]; simp [T.fl]
                rw [← hres] at hj
                simp only [List.map_cons, List.map_nil] at hj
                repeat' (first | ((with_reducible refine wT ?_); (first | (fail_if_success (have := nl1)); with_reducible refine wN fun nl1 hnl => ?_ | (fail_if_success (have := nl2)); with_reducible refine wN fun nl2 hnl => ?_ | (fail_if_success (have := nl3)); with_reducible refine wN fun nl3 hnl => ?_ | with_reducible refine wN fun _ hnl => ?_); revert hnl; (repeat with_reducible refine wS fun _ _ => ?_); intro hnl) | (with_reducible first | refine mdraw_plain mixed (by decide +kernel) ?_ | refine wI (fun h => ?_) (fun h => ?_) | refine wF (fun h => ?_) (fun h => ?_) | refine wG (fun h => ?_) (fun h => ?_) | refine wH (fun h => ?_) (fun h => ?_)) | (with_reducible refine mfork_bool (fun h => ?_) (fun h => ?_) <;> simp only [h]) | (with_reducible refine mgfork_bool (fun h => ?_) (fun h => ?_) <;> simp only [h]) | (simp (config := { maxSteps := 4000000 }) (disch := first | decide | assumption | omega | (simp only [wL]; omega)) only [go_sem, Nat.reduceAdd, Nat.reduceSub, Nat.reduceMul, Nat.reduceDiv, Nat.reduceMod, Nat.reduceLT, Nat.reduceLeDiff, Nat.reduceEqDiff, Nat.reduceSucc, Nat.reduceGT, Int.reduceAdd, Int.reduceSub, Int.reduceMul, Int.reduceNeg, Int.reduceLT, Int.reduceLE, Int.reduceEq, Int.reduceToNat, reduceIte, getD_mapd (T.leaf nd0), hm, ek, hyE]))
                refine use_give1 _ nl3 hj (set_hit _ _ _) rfl (views_two (.same _) (.vecAll (set_hit _ _ _) rfl)) ?_
                repeat' (first | ((with_reducible refine wT ?_); (first | (fail_if_success (have := nl1)); with_reducible refine wN fun nl1 hnl => ?_ | (fail_if_success (have := nl2)); with_reducible refine wN fun nl2 hnl => ?_ | (fail_if_success (have := nl3)); with_reducible refine wN fun nl3 hnl => ?_ | with_reducible refine wN fun _ hnl => ?_); revert hnl; (repeat with_reducible refine wS fun _ _ => ?_); intro hnl) | (with_reducible first | refine mdraw_plain mixed (by decide +kernel) ?_ | refine wI (fun h => ?_) (fun h => ?_) | refine wF (fun h => ?_) (fun h => ?_) | refine wG (fun h => ?_) (fun h => ?_) | refine wH (fun h => ?_) (fun h => ?_)) | (with_reducible refine mfork_bool (fun h => ?_) (fun h => ?_) <;> simp only [h]) | (with_reducible refine mgfork_bool (fun h => ?_) (fun h => ?_) <;> simp only [h]) | (simp (config := { maxSteps := 4000000 }) (disch := first | decide | assumption | omega | (simp only [wL]; omega)) only [go_sem, Nat.reduceAdd, Nat.reduceSub, Nat.reduceMul, Nat.reduceDiv, Nat.reduceMod, Nat.reduceLT, Nat.reduceLeDiff, Nat.reduceEqDiff, Nat.reduceSucc, Nat.reduceGT, Int.reduceAdd, Int.reduceSub, Int.reduceMul, Int.reduceNeg, Int.reduceLT, Int.reduceLE, Int.reduceEq, Int.reduceToNat, reduceIte]))
                refine .of (.less ?_ (St.none_le _)) ⟨k, rfl, rfl, by omega, by omega⟩
                simp (config := { maxSteps := 4000000 }) (disch := first | decide | assumption | omega | (simp only [wL]; omega)) only [go_sem, Nat.reduceAdd, Nat.reduceSub, Nat.reduceMul, Nat.reduceDiv, Nat.reduceMod, Nat.reduceLT, Nat.reduceLeDiff, Nat.reduceEqDiff, Nat.reduceSucc, Nat.reduceGT, Int.reduceAdd, Int.reduceSub, Int.reduceMul, Int.reduceNeg, Int.reduceLT, Int.reduceLE, Int.reduceEq, Int.reduceToNat, reduceIte, weak_int, weak_same]
        · repeat' (first | (with_reducible refine use_pure hag ?_) | ((with_reducible refine wT ?_); (first | (fail_if_success (have := nl1)); with_reducible refine wN fun nl1 hnl => ?_ | (fail_if_success (have := nl2)); with_reducible refine wN fun nl2 hnl => ?_ | (fail_if_success (have := nl3)); with_reducible refine wN fun nl3 hnl => ?_ | with_reducible refine wN fun _ hnl => ?_); revert hnl; (repeat with_reducible refine wS fun _ _ => ?_); intro hnl) | (with_reducible first | refine mdraw_plain mixed (by decide +kernel) ?_ | refine wI (fun h => ?_) (fun h => ?_) | refine wF (fun h => ?_) (fun h => ?_) | refine wG (fun h => ?_) (fun h => ?_) | refine wH (fun h => ?_) (fun h => ?_)) | (with_reducible refine mfork_bool (fun h => ?_) (fun h => ?_) <;> simp only [h]) | (with_reducible refine mgfork_bool (fun h => ?_) (fun h => ?_) <;> simp only [h]) | (simp (config := { maxSteps := 4000000 }) (disch := first | decide | assumption | omega | (simp only [wL]; omega)) only [go_sem, Nat.reduceAdd, Nat.reduceSub, Nat.reduceMul, Nat.reduceDiv, Nat.reduceMod, Nat.reduceLT, Nat.reduceLeDiff, Nat.reduceEqDiff, Nat.reduceSucc, Nat.reduceGT, Int.reduceAdd, Int.reduceSub, Int.reduceMul, Int.reduceNeg, Int.reduceLT, Int.reduceLE, Int.reduceEq, Int.reduceToNat, reduceIte]))
          exact .vecAll (set_hit _ _ _) rfl
end Go.Proofs.Ytielcgplbnlgbaa
end

section
/- Contracts of the library's search in a sorted list: the conditions that each theorem names. -/
set_option linter.unusedVariables false
set_option linter.unusedSimpArgs false
namespace Go.Proofs.Ytielcgplbnlgbaa

theorem posK_eq {l : List ND} {x : ND} {i : Nat} (h0 : i ≤ l.length) (h1 : ∀ q, q < i → lessK (l.getD q nd0).key x.key) (h2 : ∀ q, i ≤ q → q < l.length → ¬ lessK (l.getD q nd0).key x.key) : posK l x = i := by
  unfold posK
  by_cases hi : i < l.length
  · rw [List.findIdx_eq hi]
    refine ⟨?_, fun j hj => ?_⟩
    · have := h2 i (Nat.le_refl _) hi
      rw [getD_of_lt nd0 hi] at this
      simpa using this
    · have := h1 j hj
      rw [getD_of_lt nd0 (by omega)] at this
      simpa using this
  · have : i = l.length := by omega
    rw [this]
    refine List.findIdx_eq_length_of_false fun y hy => ?_
    obtain ⟨j, hj, rfl⟩ := List.mem_iff_getElem.1 hy
    have := h1 j (by omega)
    rw [getD_of_lt nd0 hj] at this
    simpa using this

theorem rising_lt {l : List ND} (h : Rising (l.map ND.key)) {a b : Nat} (hab : a < b) (hb : b < l.length) : lessK (l.getD a nd0).key (l.getD b nd0).key := by
  have := (List.pairwise_iff_getElem.1 h) a b (by simp; omega) (by simp; omega) hab
  simp only [List.getElem_map] at this
  rw [getD_of_lt nd0 (by omega), getD_of_lt nd0 hb]
  exact this

theorem half (i j : Nat) : Int.fdiv ((i : Int) + j) (2 ^ (min 1 64 : Nat)) = (((i + j) / 2 : Nat) : Int) := by
  rw [show ((2 : Int) ^ (min 1 64 : Nat)) = 2 by decide, Int.fdiv_eq_ediv_of_nonneg _ (by omega)]
  omega

theorem ordI_neg {o : Ordering} : ordI o < 0 ↔ o = .lt := by cases o <;> simp [ordI]

theorem mem_of_key {l : List ND} {x : ND} {i : Nat} (hi : i < l.length) (he : (l.getD i nd0).key = x.key) : x ∈ l := by
  have := ND.key_inj he
  rw [← this]
  exact getD_mem nd0 hi

theorem key_of_mem {l : List ND} {x : ND} {i : Nat} (h : Rising (l.map ND.key)) (hx : x ∈ l) (h1 : ∀ q, q < i → lessK (l.getD q nd0).key x.key) (h2 : ∀ q, i ≤ q → q < l.length → ¬ lessK (l.getD q nd0).key x.key) : i < l.length ∧ (l.getD i nd0).key = x.key := by
  obtain ⟨q, hq, rfl⟩ := List.mem_iff_getElem.1 hx
  have e := getD_of_lt nd0 hq
  rw [← e] at h1 h2 ⊢
  have hiq : i ≤ q := Nat.le_of_not_lt fun hlt => lessK_irrefl (h1 q hlt)
  rcases Nat.lt_or_ge i q with hlt | hge
  · exact absurd (rising_lt h hlt hq) (h2 i (Nat.le_refl _) (by omega))
  · have : i = q := by omega
    subst this
    exact ⟨hq, rfl⟩

theorem bsearch_call (l : List ND) (hl : l.length ≤ 1000000) (t : Bool) (x : ND) (h : Rising (l.map ND.key)) :
    MCalls Try.prog 64 [.lst 5 (l.map ND.c) t, .agg x.c, .fn (.func 44) [] []] St.none (fun r _ => r = .tup [.int .i64 (posK l x), .bool (decide (x ∈ l))]) := by
  refine (MCalls.body 49 [.tmp 6, .tmp 7] Try.func64 rfl rfl rfl rfl ?_)
  repeat' (first | ((with_reducible refine wN fun nl hnl => ?_); revert hnl; (repeat with_reducible refine wS fun _ _ => ?_); intro hnl) | (with_reducible first | refine mdraw_plain mixed (by decide +kernel) ?_ | refine wI (fun h => ?_) (fun h => ?_) | refine wF (fun h => ?_) (fun h => ?_) | refine wG (fun h => ?_) (fun h => ?_) | refine wH (fun h => ?_) (fun h => ?_)) | (with_reducible refine mfork_bool (fun h => ?_) (fun h => ?_) <;> simp only [h]) | (with_reducible refine mgfork_bool (fun h => ?_) (fun h => ?_) <;> simp only [h]) | (simp (config := { maxSteps := 4000000 }) (disch := first | decide | assumption | omega | (simp only [wL]; omega)) only [go_sem, Nat.reduceAdd, Nat.reduceSub, Nat.reduceMul, Nat.reduceDiv, Nat.reduceMod, Nat.reduceLT, Nat.reduceLeDiff, Nat.reduceEqDiff, Nat.reduceSucc, Nat.reduceGT, Int.reduceAdd, Int.reduceSub, Int.reduceMul, Int.reduceNeg, Int.reduceLT, Int.reduceLE, Int.reduceEq, Int.reduceToNat, reduceIte, Try.f64]))
  refine mloop_intro (α := Nat × Nat) (fun a => ⟨49, [(9, .int .i64 (a.1 : Int)), (10, .int .i64 (a.2 : Int)), (8, .int .i64 (l.length : Int)), (4, .ptr nl 0 0), (0, .lst 5 (l.map ND.c) t), (2, .fn (.func 44) [] [])], []⟩)
    (fun _ => St.none.set nl (.row 49 5 [x.c])) (fun a => a.1 ≤ a.2 ∧ a.2 ≤ l.length ∧ (∀ q, q < a.1 → lessK (l.getD q nd0).key x.key) ∧ (∀ q, a.2 ≤ q → q < l.length → ¬ lessK (l.getD q nd0).key x.key)) (fun a => a.2 - a.1) (.of (.less ?_ (St.le_refl _)) ⟨(0, l.length), rfl, rfl, by simp; omega⟩) ?_
  · simp (config := { maxSteps := 4000000 }) (disch := first | decide | assumption | omega | (simp only [wL]; omega)) only [go_sem, Nat.reduceAdd, Nat.reduceSub, Nat.reduceMul, Nat.reduceDiv, Nat.reduceMod, Nat.reduceLT, Nat.reduceLeDiff, Nat.reduceEqDiff, Nat.reduceSucc, Nat.reduceGT, Int.reduceAdd, Int.reduceSub, Int.reduceMul, Int.reduceNeg, Int.reduceLT, Int.reduceLE, Int.reduceEq, Int.reduceToNat, reduceIte, weak_int, weak_same]
    first | rfl | omega | simp
  · rintro ⟨i, j⟩ ⟨h1, h2, h3, h4⟩
    simp only at h1 h2 h3 h4 ⊢
    by_cases hij : i < j
    · have hh := half i j
      have hm1 : i ≤ (i + j) / 2 := by omega
      have hm2 : (i + j) / 2 < j := by omega
      obtain ⟨m, hm⟩ : ∃ m, (i + j) / 2 = m := ⟨_, rfl⟩
      rw [hm] at hh hm1 hm2
      have hml : m < l.length := by omega
      have hord := lorder_call (l.getD m nd0) x
      by_cases hless : lessK (l.getD m nd0).key x.key
      · have ho : ordI (cmpL (l.getD m nd0).key x.key) = -1 := by rw [show cmpL (l.getD m nd0).key x.key = .lt from hless]; rfl
        rw [ho] at hord
        repeat' (first | (with_reducible refine mdraw_know mixed (by decide +kernel) (fun g ms => if g = 44 then some ⟨[], fun v => v = .int .i64 (-1), none⟩ else none) ?_) | (with_reducible refine know_pure rfl hord ?_) | ((with_reducible refine wN fun nl hnl => ?_); revert hnl; (repeat with_reducible refine wS fun _ _ => ?_); intro hnl) | (with_reducible first | refine mdraw_plain mixed (by decide +kernel) ?_ | refine wI (fun h => ?_) (fun h => ?_) | refine wF (fun h => ?_) (fun h => ?_) | refine wG (fun h => ?_) (fun h => ?_) | refine wH (fun h => ?_) (fun h => ?_)) | (with_reducible refine mfork_bool (fun h => ?_) (fun h => ?_) <;> simp only [h]) | (with_reducible refine mgfork_bool (fun h => ?_) (fun h => ?_) <;> simp only [h]) | (simp (config := { maxSteps := 4000000 }) (disch := first | decide | assumption | omega | (simp only [wL]; omega)) only [go_sem, Nat.reduceAdd, Nat.reduceSub, Nat.reduceMul, Nat.reduceDiv, Nat.reduceMod, Nat.reduceLT, Nat.reduceLeDiff, Nat.reduceEqDiff, Nat.reduceSucc, Nat.reduceGT, Int.reduceAdd, Int.reduceSub, Int.reduceMul, Int.reduceNeg, Int.reduceLT, Int.reduceLE, Int.reduceEq, Int.reduceToNat, reduceIte, getD_mapd nd0, hh]))
        refine .of (.less (l1 := [(9, .int .i64 ((m + 1 : Nat) : Int)), (10, .int .i64 (j : Int)), (8, .int .i64 (l.length : Int)), (4, .ptr nl 0 0), (0, .lst 5 (l.map ND.c) t), (2, .fn (.func 44) [] [])]) ?_ (St.le_refl _)) ⟨(m + 1, j), rfl, rfl, ⟨by simp only; omega, h2, fun q hq => ?_, h4⟩, by simp only; omega⟩
        · simp (config := { maxSteps := 4000000 }) (disch := first | decide | assumption | omega | (simp only [wL]; omega)) only [go_sem, Nat.reduceAdd, Nat.reduceSub, Nat.reduceMul, Nat.reduceDiv, Nat.reduceMod, Nat.reduceLT, Nat.reduceLeDiff, Nat.reduceEqDiff, Nat.reduceSucc, Nat.reduceGT, Int.reduceAdd, Int.reduceSub, Int.reduceMul, Int.reduceNeg, Int.reduceLT, Int.reduceLE, Int.reduceEq, Int.reduceToNat, reduceIte, weak_int, weak_same]
          omega
        · simp only at hq
          rcases Nat.lt_or_ge q m with hlt | hge
          · exact lessK_trans (rising_lt h hlt hml) hless
          · have : q = m := by omega
            rw [this]; exact hless
      · have ho : ¬ ordI (cmpL (l.getD m nd0).key x.key) < 0 := fun hh => hless (ordI_neg.1 hh)
        repeat' (first | (with_reducible refine mdraw_know mixed (by decide +kernel) (fun g ms => if g = 44 then some ⟨[], fun v => v = .int .i64 (ordI (cmpL (l.getD m nd0).key x.key)), none⟩ else none) ?_) | (with_reducible refine know_pure rfl hord ?_) | ((with_reducible refine wN fun nl hnl => ?_); revert hnl; (repeat with_reducible refine wS fun _ _ => ?_); intro hnl) | (with_reducible first | refine mdraw_plain mixed (by decide +kernel) ?_ | refine wI (fun h => ?_) (fun h => ?_) | refine wF (fun h => ?_) (fun h => ?_) | refine wG (fun h => ?_) (fun h => ?_) | refine wH (fun h => ?_) (fun h => ?_)) | (with_reducible refine mfork_bool (fun h => ?_) (fun h => ?_) <;> simp only [h]) | (with_reducible refine mgfork_bool (fun h => ?_) (fun h => ?_) <;> simp only [h]) | (simp (config := { maxSteps := 4000000 }) (disch := first | decide | assumption | omega | (simp only [wL]; omega)) only [go_sem, Nat.reduceAdd, Nat.reduceSub, Nat.reduceMul, Nat.reduceDiv, Nat.reduceMod, Nat.reduceLT, Nat.reduceLeDiff, Nat.reduceEqDiff, Nat.reduceSucc, Nat.reduceGT, Int.reduceAdd, Int.reduceSub, Int.reduceMul, Int.reduceNeg, Int.reduceLT, Int.reduceLE, Int.reduceEq, Int.reduceToNat, reduceIte, getD_mapd nd0, hh]))
        refine .of (.less (l1 := [(9, .int .i64 (i : Int)), (10, .int .i64 (m : Int)), (8, .int .i64 (l.length : Int)), (4, .ptr nl 0 0), (0, .lst 5 (l.map ND.c) t), (2, .fn (.func 44) [] [])]) ?_ (St.le_refl _)) ⟨(i, m), rfl, rfl, ⟨hm1, by simp only; omega, h3, fun q hq hql => ?_⟩, by simp only; omega⟩
        · simp (config := { maxSteps := 4000000 }) (disch := first | decide | assumption | omega | (simp only [wL]; omega)) only [go_sem, Nat.reduceAdd, Nat.reduceSub, Nat.reduceMul, Nat.reduceDiv, Nat.reduceMod, Nat.reduceLT, Nat.reduceLeDiff, Nat.reduceEqDiff, Nat.reduceSucc, Nat.reduceGT, Int.reduceAdd, Int.reduceSub, Int.reduceMul, Int.reduceNeg, Int.reduceLT, Int.reduceLE, Int.reduceEq, Int.reduceToNat, reduceIte, weak_int, weak_same]
        · simp only at hq
          rcases Nat.lt_or_ge m q with hlt | hge
          · exact fun hl2 => hless (lessK_trans (rising_lt h hlt hql) hl2)
          · have : q = m := by omega
            rw [this]; exact hless
    · have : i = j := by omega
      subst this
      have hp := posK_eq h2 h3 h4
      rw [hp]
      by_cases hil : i < l.length
      · have hord := lorder_call (l.getD i nd0) x
        repeat' (first | (with_reducible refine mdraw_know mixed (by decide +kernel) (fun g ms => if g = 44 then some ⟨[], fun v => v = .int .i64 (ordI (cmpL (l.getD i nd0).key x.key)), none⟩ else none) ?_) | (with_reducible refine know_pure rfl hord ?_) | ((with_reducible refine wN fun nl hnl => ?_); revert hnl; (repeat with_reducible refine wS fun _ _ => ?_); intro hnl) | (with_reducible first | refine mdraw_plain mixed (by decide +kernel) ?_ | refine wI (fun h => ?_) (fun h => ?_) | refine wF (fun h => ?_) (fun h => ?_) | refine wG (fun h => ?_) (fun h => ?_) | refine wH (fun h => ?_) (fun h => ?_)) | (with_reducible refine mfork_bool (fun h => ?_) (fun h => ?_) <;> simp only [h]) | (with_reducible refine mgfork_bool (fun h => ?_) (fun h => ?_) <;> simp only [h]) | (simp (config := { maxSteps := 4000000 }) (disch := first | decide | assumption | omega | (simp only [wL]; omega)) only [go_sem, Nat.reduceAdd, Nat.reduceSub, Nat.reduceMul, Nat.reduceDiv, Nat.reduceMod, Nat.reduceLT, Nat.reduceLeDiff, Nat.reduceEqDiff, Nat.reduceSucc, Nat.reduceGT, Int.reduceAdd, Int.reduceSub, Int.reduceMul, Int.reduceNeg, Int.reduceLT, Int.reduceLE, Int.reduceEq, Int.reduceToNat, reduceIte, getD_mapd nd0]))
        have : (ordI (cmpL (l.getD i nd0).key x.key) = 0) ↔ x ∈ l := by
          rw [ordI_zero, cmpL_eq]
          exact ⟨fun he => mem_of_key hil he, fun hx => (key_of_mem h hx h3 h4).2⟩
        simp only [this]
      · repeat' (first | (with_reducible refine mdraw_know mixed (by decide +kernel) (fun g ms => none) ?_) | ((with_reducible refine wN fun nl hnl => ?_); revert hnl; (repeat with_reducible refine wS fun _ _ => ?_); intro hnl) | (with_reducible first | refine mdraw_plain mixed (by decide +kernel) ?_ | refine wI (fun h => ?_) (fun h => ?_) | refine wF (fun h => ?_) (fun h => ?_) | refine wG (fun h => ?_) (fun h => ?_) | refine wH (fun h => ?_) (fun h => ?_)) | (with_reducible refine mfork_bool (fun h => ?_) (fun h => ?_) <;> simp only [h]) | (with_reducible refine mgfork_bool (fun h => ?_) (fun h => ?_) <;> simp only [h]) | (simp (config := { maxSteps := 4000000 }) (disch := first | decide | assumption | omega | (simp only [wL]; omega)) only [go_sem, Nat.reduceAdd, Nat.reduceSub, Nat.reduceMul, Nat.reduceDiv, Nat.reduceMod, Nat.reduceLT, Nat.reduceLeDiff, Nat.reduceEqDiff, Nat.reduceSucc, Nat.reduceGT, Int.reduceAdd, Int.reduceSub, Int.reduceMul, Int.reduceNeg, Int.reduceLT, Int.reduceLE, Int.reduceEq, Int.reduceToNat, reduceIte, getD_mapd nd0]))
        have : ¬ x ∈ l := fun hx => hil (key_of_mem h hx h3 h4).1
        simp [this]
end Go.Proofs.Ytielcgplbnlgbaa
end

section
/- Contract of slices.Compact at nodes: the conditions that the theorem names. -/
set_option linter.unusedVariables false
set_option linter.unusedSimpArgs false
namespace Go.Proofs.Ytielcgplbnlgbaa

theorem comp_step {xs : List ND} {j : Nat} (h0 : 0 < j) (h : j < xs.length) : compS (xs.take (j + 1)) = if xs.getD j nd0 = xs.getD (j - 1) nd0 then compS (xs.take j) else compS (xs.take j) ++ [xs.getD j nd0] := by
  obtain ⟨i, rfl⟩ : ∃ i, j = i + 1 := ⟨j - 1, by omega⟩
  have e1 : xs.take (i + 1) = xs.take i ++ [xs.getD i nd0] := by rw [List.take_succ_eq_append_getElem (by omega), getD_of_lt nd0 (by omega)]
  have e2 : xs.take (i + 1 + 1) = xs.take i ++ [xs.getD i nd0, xs.getD (i + 1) nd0] := by rw [List.take_succ_eq_append_getElem h, e1, getD_of_lt nd0 h]; simp
  rw [e2, e1, compS_snoc _ _ (Nat.le_refl _)]
  rfl

theorem drop_get {A B : List ND} {m j : Nat} (h : A.drop m = B.drop m) (hj : m ≤ j) : A.getD j nd0 = B.getD j nd0 := by
  have e : ∀ l : List ND, l.getD j nd0 = ((l.drop m)[j - m]?).getD nd0 := fun l => by
    rw [List.getElem?_drop, List.getD_eq_getElem?_getD, show m + (j - m) = j by omega]
  rw [e, e, h]

theorem take_set_succ {A : List ND} {q : Nat} (h : q < A.length) (x : ND) : (A.set q x).take (q + 1) = A.take q ++ [x] := by
  rw [List.take_succ_eq_append_getElem (by simpa using h), List.take_set, List.set_eq_of_length_le (by simp; omega)]
  simp

set_option maxHeartbeats 4000000 in
theorem compact_call (l : Nat) (xs : List ND) (hx : xs.length ≤ 1000000) (ex : List (List MV)) : MCalls Try.prog 45 [.vec 5 l 0 xs.length] (St.none.set l (.row 49 5 (xs.map ND.c ++ ex)))
    (fun r σ' => ∃ ex', r = .vec 5 l 0 (compS xs).length ∧ σ' = St.none.set l (.row 49 5 ((compS xs).map ND.c ++ ex'))) := by
  refine (MCalls.body 61 [.tmp 2] Try.func45 rfl rfl rfl rfl ?_)
  by_cases h2 : xs.length < 2
  · have hc : compS xs = xs := by
      match xs, h2 with
      | [], _ => simp [compS]
      | [x], _ => simp [compS]
      | _ :: _ :: _, h2 => simp at h2; omega
    rw [hc]
    repeat' (first | ((with_reducible refine wN fun nl hnl => ?_); revert hnl; (repeat with_reducible refine wS fun _ _ => ?_); intro hnl) | (with_reducible first | refine mdraw_plain mixed (by decide +kernel) ?_ | refine wI (fun h => ?_) (fun h => ?_) | refine wF (fun h => ?_) (fun h => ?_) | refine wG (fun h => ?_) (fun h => ?_) | refine wH (fun h => ?_) (fun h => ?_)) | (with_reducible refine mfork_bool (fun h => ?_) (fun h => ?_) <;> simp only [h]) | (with_reducible refine mgfork_bool (fun h => ?_) (fun h => ?_) <;> simp only [h]) | (simp (config := { maxSteps := 4000000 }) (disch := first | decide | assumption | omega | (simp only [wL]; omega)) only [go_sem, Nat.reduceAdd, Nat.reduceSub, Nat.reduceMul, Nat.reduceDiv, Nat.reduceMod, Nat.reduceLT, Nat.reduceLeDiff, Nat.reduceEqDiff, Nat.reduceSucc, Nat.reduceGT, Int.reduceAdd, Int.reduceSub, Int.reduceMul, Int.reduceNeg, Int.reduceLT, Int.reduceLE, Int.reduceEq, Int.reduceToNat, reduceIte, Try.f45]))
    exact ⟨ex, rfl⟩
  · repeat' (first | ((with_reducible refine wN fun nl hnl => ?_); revert hnl; (repeat with_reducible refine wS fun _ _ => ?_); intro hnl) | (with_reducible first | refine mdraw_plain mixed (by decide +kernel) ?_ | refine wI (fun h => ?_) (fun h => ?_) | refine wF (fun h => ?_) (fun h => ?_) | refine wG (fun h => ?_) (fun h => ?_) | refine wH (fun h => ?_) (fun h => ?_)) | (with_reducible refine mfork_bool (fun h => ?_) (fun h => ?_) <;> simp only [h]) | (with_reducible refine mgfork_bool (fun h => ?_) (fun h => ?_) <;> simp only [h]) | (simp (config := { maxSteps := 4000000 }) (disch := first | decide | assumption | omega | (simp only [wL]; omega)) only [go_sem, Nat.reduceAdd, Nat.reduceSub, Nat.reduceMul, Nat.reduceDiv, Nat.reduceMod, Nat.reduceLT, Nat.reduceLeDiff, Nat.reduceEqDiff, Nat.reduceSucc, Nat.reduceGT, Int.reduceAdd, Int.reduceSub, Int.reduceMul, Int.reduceNeg, Int.reduceLT, Int.reduceLE, Int.reduceEq, Int.reduceToNat, reduceIte, Try.f45]))
    refine mloop_intro (α := Nat) (fun k => ⟨61, [(3, .int .i64 (k : Int)), (0, .vec 5 l 0 xs.length)], []⟩) (fun _ => St.none.set l (.row 49 5 (xs.map ND.c ++ ex))) (fun k => 1 ≤ k ∧ k ≤ xs.length ∧ compS (xs.take k) = xs.take k) (fun k => xs.length - k) (.of (.less ?_ (St.le_refl _)) ⟨1, rfl, rfl, by omega, by omega, ?_⟩) ?_
    · simp (config := { maxSteps := 4000000 }) (disch := first | decide | assumption | omega | (simp only [wL]; omega)) only [go_sem, Nat.reduceAdd, Nat.reduceSub, Nat.reduceMul, Nat.reduceDiv, Nat.reduceMod, Nat.reduceLT, Nat.reduceLeDiff, Nat.reduceEqDiff, Nat.reduceSucc, Nat.reduceGT, Int.reduceAdd, Int.reduceSub, Int.reduceMul, Int.reduceNeg, Int.reduceLT, Int.reduceLE, Int.reduceEq, Int.reduceToNat, reduceIte, weak_int, weak_same]
      first | rfl | omega
    · match xs, h2 with
      | x :: _ :: _, _ => simp [compS]
      | [], h => simp at h
      | [_], h => simp at h
    · rintro k ⟨h3, h4, h5⟩
      by_cases hk : k < xs.length
      · have hk1 : ((k : Int) - 1).toNat = k - 1 := by omega
        have hcs := comp_step (xs := xs) (j := k) (by omega) hk
        by_cases he : xs.getD k nd0 = xs.getD (k - 1) nd0
        · rw [if_pos he] at hcs
          rw [h5] at hcs
          repeat' (first | ((with_reducible refine wN fun nl hnl => ?_); revert hnl; (repeat with_reducible refine wS fun _ _ => ?_); intro hnl) | (with_reducible first | refine mdraw_plain mixed (by decide +kernel) ?_ | refine wI (fun h => ?_) (fun h => ?_) | refine wF (fun h => ?_) (fun h => ?_) | refine wG (fun h => ?_) (fun h => ?_) | refine wH (fun h => ?_) (fun h => ?_)) | (with_reducible refine mfork_bool (fun h => ?_) (fun h => ?_) <;> simp only [h]) | (with_reducible refine mgfork_bool (fun h => ?_) (fun h => ?_) <;> simp only [h]) | (simp (config := { maxSteps := 4000000 }) (disch := first | decide | assumption | omega | (simp only [wL]; omega)) only [go_sem, Nat.reduceAdd, Nat.reduceSub, Nat.reduceMul, Nat.reduceDiv, Nat.reduceMod, Nat.reduceLT, Nat.reduceLeDiff, Nat.reduceEqDiff, Nat.reduceSucc, Nat.reduceGT, Int.reduceAdd, Int.reduceSub, Int.reduceMul, Int.reduceNeg, Int.reduceLT, Int.reduceLE, Int.reduceEq, Int.reduceToNat, reduceIte, getD_mapd nd0, hk1, he]))
          refine mloop_intro (α := Nat × Nat × List ND) (fun a => ⟨61, [(3, .int .i64 (a.1 : Int)), (4, .vec 5 l k (xs.length - k)), (5, .int .i64 (a.2.1 : Int)), (0, .vec 5 l 0 xs.length)], []⟩) (fun a => St.none.set l (.row 49 5 (a.2.2.map ND.c ++ ex)))
            (fun a => 1 ≤ a.2.1 ∧ a.2.1 ≤ xs.length - k ∧ a.2.2.length = xs.length ∧ a.1 < k + a.2.1 ∧ a.1 = (compS (xs.take (k + a.2.1))).length ∧ a.2.2.take a.1 = compS (xs.take (k + a.2.1)) ∧ a.2.2.drop (k + a.2.1 - 1) = xs.drop (k + a.2.1 - 1)) (fun a => xs.length - k - a.2.1) ?_ ?_
          · refine .of (.less ?_ (St.le_refl _)) ⟨(k, 1, xs), rfl, rfl, by simp only; omega, by simp only; omega, rfl, by simp only; omega, ?_, ?_, rfl⟩
            · simp (config := { maxSteps := 4000000 }) (disch := first | decide | assumption | omega | (simp only [wL]; omega)) only [go_sem, Nat.reduceAdd, Nat.reduceSub, Nat.reduceMul, Nat.reduceDiv, Nat.reduceMod, Nat.reduceLT, Nat.reduceLeDiff, Nat.reduceEqDiff, Nat.reduceSucc, Nat.reduceGT, Int.reduceAdd, Int.reduceSub, Int.reduceMul, Int.reduceNeg, Int.reduceLT, Int.reduceLE, Int.reduceEq, Int.reduceToNat, reduceIte, weak_int, weak_same]
              first | rfl | omega
            · simp only; rw [hcs, List.length_take]; omega
            · simp only; rw [hcs]
          · rintro ⟨q, k2, A⟩ ⟨g1, g2, g3, g4, g5, g6, g7⟩
            simp only at g1 g2 g3 g4 g5 g6 g7 ⊢
            by_cases hk2 : k2 < xs.length - k
            · have hk21 : ((k2 : Int) - 1).toNat = k2 - 1 := by omega
              have hcs2 := comp_step (xs := xs) (j := k + k2) (by omega) (by omega)
              have v1 := drop_get g7 (show k + k2 - 1 ≤ k + k2 by omega)
              have v2 := drop_get g7 (show k + k2 - 1 ≤ k + (k2 - 1) by omega)
              have v3 : k + k2 - 1 = k + (k2 - 1) := by omega
              have hd : A.drop (k + k2) = xs.drop (k + k2) := by
                have := congrArg (List.drop 1) g7
                rw [List.drop_drop, List.drop_drop, show k + k2 - 1 + 1 = k + k2 by omega] at this
                exact this
              rw [v3, ← v1, ← v2] at hcs2
              have hq : q < A.length := by omega
              repeat' (first | ((with_reducible refine wN fun nl hnl => ?_); revert hnl; (repeat with_reducible refine wS fun _ _ => ?_); intro hnl) | (with_reducible first | refine mdraw_plain mixed (by decide +kernel) ?_ | refine wI (fun h => ?_) (fun h => ?_) | refine wF (fun h => ?_) (fun h => ?_) | refine wG (fun h => ?_) (fun h => ?_) | refine wH (fun h => ?_) (fun h => ?_)) | (with_reducible refine mfork_bool (fun h => ?_) (fun h => ?_) <;> simp only [h]) | (with_reducible refine mgfork_bool (fun h => ?_) (fun h => ?_) <;> simp only [h]) | (simp (config := { maxSteps := 4000000 }) (disch := first | decide | assumption | omega | (simp only [wL]; omega)) only [go_sem, Nat.reduceAdd, Nat.reduceSub, Nat.reduceMul, Nat.reduceDiv, Nat.reduceMod, Nat.reduceLT, Nat.reduceLeDiff, Nat.reduceEqDiff, Nat.reduceSucc, Nat.reduceGT, Int.reduceAdd, Int.reduceSub, Int.reduceMul, Int.reduceNeg, Int.reduceLT, Int.reduceLE, Int.reduceEq, Int.reduceToNat, reduceIte, getD_mapd nd0, hk21]))
              · have hne : ¬ A.getD (k + k2) nd0 = A.getD (k + (k2 - 1)) nd0 := fun e => h (by rw [e]; exact ⟨rfl, rfl, rfl, rfl, rfl⟩)
                rw [if_neg hne] at hcs2
                refine .of (.less (l1 := [(3, .int .i64 ((q + 1 : Nat) : Int)), (4, .vec 5 l k (xs.length - k)), (5, .int .i64 ((k2 + 1 : Nat) : Int)), (0, .vec 5 l 0 xs.length)]) (σ1 := St.none.set l (.row 49 5 ((A.set q (A.getD (k + k2) nd0)).map ND.c ++ ex))) ?_ (St.set_le (St.none_le _) ((set_hit _ _ _).trans ?_)))
                  ⟨(q + 1, k2 + 1, A.set q (A.getD (k + k2) nd0)), rfl, rfl, ⟨by simp only; omega, by simp only; omega, by simpa using g3, by simp only; omega, ?_, ?_, ?_⟩, by simp only; omega⟩
                · simp (config := { maxSteps := 4000000 }) (disch := first | decide | assumption | omega | (simp only [wL]; omega)) only [go_sem, Nat.reduceAdd, Nat.reduceSub, Nat.reduceMul, Nat.reduceDiv, Nat.reduceMod, Nat.reduceLT, Nat.reduceLeDiff, Nat.reduceEqDiff, Nat.reduceSucc, Nat.reduceGT, Int.reduceAdd, Int.reduceSub, Int.reduceMul, Int.reduceNeg, Int.reduceLT, Int.reduceLE, Int.reduceEq, Int.reduceToNat, reduceIte, weak_int, weak_same]
                  omega
                · show some (MObj.row 49 5 ((A.map ND.c ++ ex).set q (ND.c (A.getD (k + k2) nd0)))) = _
                  rw [List.set_append_left _ _ (by rw [List.length_map]; exact hq), ← List.map_set]
                · show q + 1 = (compS (xs.take (k + k2 + 1))).length
                  rw [hcs2, List.length_append, ← g5]; rfl
                · show (A.set q _).take (q + 1) = compS (xs.take (k + k2 + 1))
                  rw [take_set_succ hq, hcs2, g6]
                · show (A.set q _).drop (k + k2 + 1 - 1) = xs.drop (k + k2 + 1 - 1)
                  rw [Nat.add_sub_cancel, List.drop_set_of_lt g4, hd]
              · have heq := nd_ext (Classical.not_not.1 h)
                rw [if_pos heq] at hcs2
                refine .of (.less (l1 := [(3, .int .i64 (q : Int)), (4, .vec 5 l k (xs.length - k)), (5, .int .i64 ((k2 + 1 : Nat) : Int)), (0, .vec 5 l 0 xs.length)]) ?_ (St.le_refl _))
                  ⟨(q, k2 + 1, A), rfl, rfl, ⟨by simp only; omega, by simp only; omega, g3, by simp only; omega, ?_, ?_, ?_⟩, by simp only; omega⟩
                · simp (config := { maxSteps := 4000000 }) (disch := first | decide | assumption | omega | (simp only [wL]; omega)) only [go_sem, Nat.reduceAdd, Nat.reduceSub, Nat.reduceMul, Nat.reduceDiv, Nat.reduceMod, Nat.reduceLT, Nat.reduceLeDiff, Nat.reduceEqDiff, Nat.reduceSucc, Nat.reduceGT, Int.reduceAdd, Int.reduceSub, Int.reduceMul, Int.reduceNeg, Int.reduceLT, Int.reduceLE, Int.reduceEq, Int.reduceToNat, reduceIte, weak_int, weak_same]
                  omega
                · show q = (compS (xs.take (k + k2 + 1))).length
                  rw [hcs2, ← g5]
                · show A.take q = compS (xs.take (k + k2 + 1))
                  rw [hcs2, g6]
                · show A.drop (k + k2 + 1 - 1) = xs.drop (k + k2 + 1 - 1)
                  rw [Nat.add_sub_cancel, hd]
            · have : k2 = xs.length - k := by omega
              subst this
              rw [show k + (xs.length - k) = xs.length by omega, List.take_length] at g5 g6
              repeat' (first | ((with_reducible refine wN fun nl hnl => ?_); revert hnl; (repeat with_reducible refine wS fun _ _ => ?_); intro hnl) | (with_reducible first | refine mdraw_plain mixed (by decide +kernel) ?_ | refine wI (fun h => ?_) (fun h => ?_) | refine wF (fun h => ?_) (fun h => ?_) | refine wG (fun h => ?_) (fun h => ?_) | refine wH (fun h => ?_) (fun h => ?_)) | (with_reducible refine mfork_bool (fun h => ?_) (fun h => ?_) <;> simp only [h]) | (with_reducible refine mgfork_bool (fun h => ?_) (fun h => ?_) <;> simp only [h]) | (simp (config := { maxSteps := 4000000 }) (disch := first | decide | assumption | omega | (simp only [wL]; omega)) only [go_sem, Nat.reduceAdd, Nat.reduceSub, Nat.reduceMul, Nat.reduceDiv, Nat.reduceMod, Nat.reduceLT, Nat.reduceLeDiff, Nat.reduceEqDiff, Nat.reduceSucc, Nat.reduceGT, Int.reduceAdd, Int.reduceSub, Int.reduceMul, Int.reduceNeg, Int.reduceLT, Int.reduceLE, Int.reduceEq, Int.reduceToNat, reduceIte]))
              refine ⟨List.replicate (xs.length - q) nd0.c ++ List.drop (q + (List.replicate (xs.length - q) nd0.c).length) (A.map ND.c ++ ex), by rw [g5], ?_⟩
              show St.none.set l (.row 49 5 (List.take q (A.map ND.c ++ ex) ++ List.replicate (xs.length - q) nd0.c ++ List.drop (q + (List.replicate (xs.length - q) nd0.c).length) (A.map ND.c ++ ex))) = _
              rw [List.append_assoc, List.take_append_of_le_length (by rw [List.length_map]; omega), ← List.map_take, g6]
        · rw [if_neg he, h5] at hcs
          have hne : ¬ ((xs.getD k nd0).op = (xs.getD (k - 1) nd0).op ∧ (xs.getD k nd0).n = (xs.getD (k - 1) nd0).n ∧ (xs.getD k nd0).v.kd = (xs.getD (k - 1) nd0).v.kd ∧ (xs.getD k nd0).v.n = (xs.getD (k - 1) nd0).v.n ∧ (xs.getD k nd0).v.s = (xs.getD (k - 1) nd0).v.s) := fun h => he (nd_ext h)
          repeat' (first | ((with_reducible refine wN fun nl hnl => ?_); revert hnl; (repeat with_reducible refine wS fun _ _ => ?_); intro hnl) | (with_reducible first | refine mdraw_plain mixed (by decide +kernel) ?_ | refine wI (fun h => ?_) (fun h => ?_) | refine wF (fun h => ?_) (fun h => ?_) | refine wG (fun h => ?_) (fun h => ?_) | refine wH (fun h => ?_) (fun h => ?_)) | (with_reducible refine mfork_bool (fun h => ?_) (fun h => ?_) <;> simp only [h]) | (with_reducible refine mgfork_bool (fun h => ?_) (fun h => ?_) <;> simp only [h]) | (simp (config := { maxSteps := 4000000 }) (disch := first | decide | assumption | omega | (simp only [wL]; omega)) only [go_sem, Nat.reduceAdd, Nat.reduceSub, Nat.reduceMul, Nat.reduceDiv, Nat.reduceMod, Nat.reduceLT, Nat.reduceLeDiff, Nat.reduceEqDiff, Nat.reduceSucc, Nat.reduceGT, Int.reduceAdd, Int.reduceSub, Int.reduceMul, Int.reduceNeg, Int.reduceLT, Int.reduceLE, Int.reduceEq, Int.reduceToNat, reduceIte, getD_mapd nd0, hk1]))
          refine .of (.less (l1 := [(3, .int .i64 ((k + 1 : Nat) : Int)), (0, .vec 5 l 0 xs.length)]) ?_ (St.le_refl _)) ⟨k + 1, rfl, rfl, ⟨by omega, by omega, ?_⟩, by omega⟩
          · simp (config := { maxSteps := 4000000 }) (disch := first | decide | assumption | omega | (simp only [wL]; omega)) only [go_sem, Nat.reduceAdd, Nat.reduceSub, Nat.reduceMul, Nat.reduceDiv, Nat.reduceMod, Nat.reduceLT, Nat.reduceLeDiff, Nat.reduceEqDiff, Nat.reduceSucc, Nat.reduceGT, Int.reduceAdd, Int.reduceSub, Int.reduceMul, Int.reduceNeg, Int.reduceLT, Int.reduceLE, Int.reduceEq, Int.reduceToNat, reduceIte, weak_int, weak_same]
            omega
          · rw [hcs, List.take_succ_eq_append_getElem hk, ← getD_of_lt nd0 hk]
      · have : k = xs.length := by omega
        subst this
        rw [List.take_length] at h5
        rw [h5]
        repeat' (first | ((with_reducible refine wN fun nl hnl => ?_); revert hnl; (repeat with_reducible refine wS fun _ _ => ?_); intro hnl) | (with_reducible first | refine mdraw_plain mixed (by decide +kernel) ?_ | refine wI (fun h => ?_) (fun h => ?_) | refine wF (fun h => ?_) (fun h => ?_) | refine wG (fun h => ?_) (fun h => ?_) | refine wH (fun h => ?_) (fun h => ?_)) | (with_reducible refine mfork_bool (fun h => ?_) (fun h => ?_) <;> simp only [h]) | (with_reducible refine mgfork_bool (fun h => ?_) (fun h => ?_) <;> simp only [h]) | (simp (config := { maxSteps := 4000000 }) (disch := first | decide | assumption | omega | (simp only [wL]; omega)) only [go_sem, Nat.reduceAdd, Nat.reduceSub, Nat.reduceMul, Nat.reduceDiv, Nat.reduceMod, Nat.reduceLT, Nat.reduceLeDiff, Nat.reduceEqDiff, Nat.reduceSucc, Nat.reduceGT, Int.reduceAdd, Int.reduceSub, Int.reduceMul, Int.reduceNeg, Int.reduceLT, Int.reduceLE, Int.reduceEq, Int.reduceToNat, reduceIte]))
        exact ⟨ex, rfl⟩
end Go.Proofs.Ytielcgplbnlgbaa
end

section
/- slices.SortFunc, as the logic says it: elements of some cells that say nothing of memory. -/
set_option linter.unusedVariables false
set_option linter.unusedSimpArgs false
namespace Go.Proofs.Ytielcgplbnlgbaa
open Go.Shelf Go.Sort

/-- A world that has grown. -/
theorem Inv.grown {Φ : Phi} {w w' : World} {σ : St} (hi : Inv Φ w σ) (h1 : w'.os = w.os) (h2 : w'.tape = w.tape) (h3 : w'.output = w.output) (h4 : w.drawn ≤ w'.drawn) (h5 : w.heap.size ≤ w'.heap.size) (hb : ∀ k, k < w.heap.size → w'.heap[k]? = w.heap[k]?) :
    Inv Φ w' σ ∧ Step Φ σ w Φ σ w' :=
  ⟨⟨fun l o h => (hi.own l o h).mono (.refl Φ) fun p R hp hR => by
      obtain ⟨p', hp', hlt⟩ := (hi.own l o h).place
      rw [hp] at hp'; cases hp'
      exact hb R (hlt R hR), hi.inj, fun a v h => by
      rw [World.cell?_heap (hb _ (World.block_lt_of_cell? w a (hi.snap a v h)))]
      exact hi.snap a v h, hi.apart, hi.fresh⟩,
   ⟨.refl Φ, h1, h2, h3, h4, h5, fun k hk _ => hb k hk, fun _ _ h => .inl h, fun l o h => .inl ⟨o, h⟩, fun _ h => .inl h⟩⟩

theorem step_grow {Φ Φ' : Phi} {σ' : St} {w w' : World} (h : Step Φ St.none w Φ' σ' w') : ∃ q os', w' = Sort.grow (w.drewN q) os' := by
  refine ⟨w'.drawn - w.drawn, w'.heap.extract w.heap.size w'.heap.size, ?_⟩
  have hd := h.drawn
  have hh : w'.heap = w.heap ++ w'.heap.extract w.heap.size w'.heap.size := by
    refine Array.ext (by simp; have := h.size; omega) fun i h1 h2 => ?_
    by_cases hi : i < w.heap.size
    · have e := h.block i hi (by rintro ⟨l, o, p, q, _⟩; simp [St.none] at q)
      rw [Array.getElem?_eq_getElem h1, Array.getElem?_eq_getElem hi] at e
      rw [Array.getElem_append_left hi]
      exact Option.some.inj e
    · rw [Array.getElem_append_right (by omega)]
      simp
      congr 1
      omega
  have e1 := h.os; have e2 := h.tape; have e3 := h.output
  obtain ⟨heap, tape, drawn, os, output⟩ := w
  obtain ⟨heap', tape', drawn', os', output'⟩ := w'
  simp only at e1 e2 e3 hd hh
  subst e1 e2 e3
  simp only [Sort.grow, World.drewN]
  rw [← hh]
  congr 1
  omega

/-- The cells that say nothing of memory. -/
def PlainC {X : Type} (encM : X → List MV) (encV : X → List Value) : Prop := ∀ x, (encV x).length = (encM x).length ∧ ∀ (j : Nat) m, (encM x)[j]? = some m → m.isCell = true ∧ ∀ Φ v, Rel Φ v m ↔ v = (encV x).getD j undef

theorem inv_empty (w : World) : Inv ⟨fun _ => none, fun _ => none⟩ w St.none where
  own := fun l o h => by simp [St.none] at h
  inj := fun l l' o o' p p' R h => by simp [St.none] at h
  snap := fun a v h => by cases h
  apart := fun l o p R a v h => by simp [St.none] at h
  fresh := ⟨0, fun _ _ => rfl⟩

theorem plain_agg {X : Type} {encM : X → List MV} {encV : X → List Value} (hp : PlainC encM encV) (Φ : Phi) (x : X) : Rel Φ (.agg (encV x).toArray) (.agg (encM x)) := by
  obtain ⟨h1, h2⟩ := hp x
  refine .agg (by simpa using h1) (fun i m hm => (h2 i m hm).1) (fun i m hm => ((h2 i m hm).2 Φ _).2 ?_)
  simp [Array.getD_eq_getD_getElem?, List.getD_eq_getElem?_getD]

theorem div_mod_of {i j k t : Nat} (hj : j < k) (ht : t = i * k + j) : t / k = i ∧ t % k = j := by
  subst ht
  have hk : 0 < k := by omega
  constructor
  · rw [Nat.mul_comm, Nat.mul_add_div hk, Nat.div_eq_of_lt hj, Nat.add_zero]
  · rw [Nat.mul_comm, Nat.mul_add_mod, Nat.mod_eq_of_lt hj]

/-- The cells of a row of the sort's. -/
theorem flat_at {X : Type} [Inhabited X] {encV : X → List Value} {k : Nat} (hk : ∀ x, (encV x).length = k) (d : Array X) {i j : Nat} (hi : i < d.size) (hj : j < k) : (flatK encV k d)[i * k + j]! = (encV (d.getD i default)).getD j undef := by
  have ht : i * k + j < d.size * k := by
    have : (i + 1) * k ≤ d.size * k := Nat.mul_le_mul_right _ hi
    rw [Nat.add_mul, Nat.one_mul] at this
    omega
  obtain ⟨e1, e2⟩ := div_mod_of (i := i) (k := k) hj rfl
  rw [get_flatK _ _ _ _ ht, e1, e2]
  have : d[i]! = d.getD i default := by simp [Array.getD, hi]
  rw [this]
  have hl := hk (d.getD i default)
  rw [getElem!_pos _ _ (by omega), List.getD_eq_getElem?_getD, List.getElem?_eq_getElem (by omega)]
  rfl

theorem sort_any {X : Type} [Inhabited X] {P : Program} {ρ : Ren} (L : SlLaysF0.n6 P ρ) (k : Nat) (hk0 : 0 < k) (aE : ∀ w, (isAgg (ρ.t 24)).run P w = .ok true w) (zE : ∀ w, (Go.sizeOf (ρ.t 24)).run P w = .ok k w)
    (encM : X → List MV) (encV : X → List Value) (hk : ∀ x, (encV x).length = k) (hp : PlainC encM encV) (h1 : ∀ x, ∀ v ∈ encV x, v.oneCell' = true) (cf : X → X → Int) (hO : SWO (ltOf cf)) (g : Nat)
    (hg : ∀ x y, MCalls P g [.agg (encM x), .agg (encM y)] St.none fun r _ => r = .int .i64 (cf x y)) (eg : ∀ args w, (callFunc g args).run P w = .ok (.enter g args) w)
    (hent : Enters P (ρ.f 6)) (l : Nat) (t : TypeId) (xs : List X) (ex : List (List MV)) (hn : 0 < xs.length) (hsz : xs.length < 4611686018427387904) :
    MCalls P (ρ.f 6) [.vec k l 0 xs.length, .fn (.func g) [] []] (St.none.set l (.row t k (xs.map encM ++ ex))) fun r σ' =>
      r = .tup [] ∧ ∃ ys : List X, ys.Perm xs ∧ ys.Pairwise (fun a b => ltOf cf b a = false) ∧ σ' = St.none.set l (.row t k (ys.map encM ++ ex)) := by
  refine ⟨hent, fun Φ w vs hi hr => ?_⟩
  have hkM : ∀ x, (encM x).length = k := fun x => by rw [← (hp x).1]; exact hk x
  obtain ⟨a, cap, p, e0, hpo, hpe, hcap, hncap, hblk⟩ := (hr.2 0 _ rfl).inv_vec
  obtain ⟨first, capv, e1, r1, r2⟩ := (hr.2 1 _ rfl).inv_fn
  have hf0 : first = #[] := by have := r1.1; simp at this; exact this
  have hc0 : capv = #[] := by have := r2.1; simp at this; exact this
  subst hf0 hc0
  have hvs : vs = #[.slice a xs.length cap, .func (.func g) #[] #[]] := by
    have h2 := hr.1
    simp at h2
    refine Array.ext (by simpa using h2) fun i q1 q2 => ?_
    match i, q1, q2 with
    | 0, q1, _ => have := e0; simp [Array.getD, q1] at this; exact this
    | 1, q1, _ => have := e1; simp [Array.getD, q1] at this; exact this
  obtain ⟨p', hp', hpe', hlen, hmax, hx, hmatch⟩ := hi.own l _ (set_hit _ _ _)
  rw [hpo] at hp'
  cases hp'
  rcases hblk with ⟨R, hR, ha⟩ | hc0
  · rw [hR] at hmatch
    obtain ⟨c, fz, hheap, hfz, hfit, hcell⟩ := hmatch
    simp only [Nat.zero_mul, Nat.add_zero] at ha
    subst ha
    have hRlt : R < w.heap.size := by
      obtain ⟨q, _⟩ := Array.getElem?_eq_some_iff.1 hheap; exact q
    have hRp : p.blk = some R := hR
    -- the cells of the elements
    have hxs : ∀ (i : Nat) (x : X), xs[i]? = some x → ∀ j, j < k → c[p.bo + (i * k + j)]? = some ((encV x).getD j undef) := fun i x hx j hj => by
      have h1 : (xs.map encM ++ ex)[i]? = some (encM x) := by
        rw [List.getElem?_append_left (by have := (List.getElem?_eq_some_iff.1 hx).1; simpa using this), List.getElem?_map, hx]; rfl
      have h2 : (encM x)[j]? = some ((encM x)[j]'(by rw [hkM]; exact hj)) := by simp
      obtain ⟨_, v, hv, hrel⟩ := hcell i _ j _ h1 h2
      rw [hv, (((hp x).2 j _ h2).2 Φ v).1 hrel]
    let d : Array X := xs.toArray
    have hds : d.size = xs.length := by simp [d]
    have hdi : ∀ i, i < xs.length → xs[i]? = some (d.getD i default) := fun i hi => by simp [d, Array.getD, hi]
    have hnk : p.bo + xs.length * k ≤ c.size := by
      have : xs.length ≤ p.C := by have := hlen; simp at this; omega
      have := Nat.mul_le_mul_right k this
      omega
    have hH : HoldsK encV k w R p.bo d := by
      intro t ht
      have ht' : t < xs.length * k := by simpa [hds] using ht
      have hi : t / k < xs.length := Nat.div_lt_of_lt_mul (by rw [Nat.mul_comm]; exact ht')
      have hj : t % k < k := Nat.mod_lt _ hk0
      have e : t / k * k + t % k = t := by rw [Nat.mul_comm]; exact Nat.div_add_mod t k
      have h1 := hxs _ _ (hdi _ hi) (t % k) hj
      have h2 := flat_at (encV := encV) hk d (i := t / k) (j := t % k) (by omega) hj
      rw [e] at h1 h2
      refine ⟨?_, ?_⟩
      · rw [show (id : Value → Value) ((flatK encV k d)[t]!) = (flatK encV k d)[t]! from rfl, h2, ← h1]
        simp only [World.cell?, hheap]
        rfl
      · simp only [World.frozen?, hheap]
        rcases hfz with h | h
        · simp; omega
        · simp; omega
    have hcmp : CmpLays P g #[] encV k cf R p.bo d.size w := fun m os dk hs x y => by
      refine ((hg x y).2 _ (sortWorldK encV k w R p.bo m dk os) _ (inv_empty _) (?_ : Rels _ (#[.agg (encV x).toArray, .agg (encV y).toArray] ++ #[]) _)).mono ?_
      · refine ⟨by simp, fun i m hm => ?_⟩
        match i, hm with
        | 0, hm => simp at hm; subst hm; exact plain_agg hp _ x
        | 1, hm => simp at hm; subst hm; exact plain_agg hp _ y
      · rintro e w' ⟨v, mv, σ', Φ', he, hv, hi', hst, rfl⟩
        cases hv
        exact ⟨he, step_grow hst⟩
    have key := AnyQ.slices_SortFunc L k aE zE encV hk h1 cf hO g #[] R p.bo cap d w eg hcmp hH hRlt (by rw [hds]; exact hsz)
    subst hvs
    rw [← hds]
    refine key.mono ?_
    rintro e W' ⟨rfl, d', m, os, hperm, hsort, rfl⟩
    obtain ⟨hsz', _, hpm⟩ := hperm
    have hds' : d'.size = xs.length := by rw [hsz', hds]
    have hpm' : d'.toList.Perm xs := by
      have e1 : d'.extract 0 d.size = d' := by rw [← hsz']; simp
      have e2 : d.extract 0 d.size = d := by simp
      rw [e1, e2] at hpm
      simpa [d] using hpm
    have hll : d'.toList.length = xs.length := by simpa using hds'
    let c' : Array Value := putCells id p.bo (flatK encV k d') c
    have hc's : c'.size = c.size := by simp [c', putCells]
    have hfs : (flatK encV k d').size = xs.length * k := by simp [flatK, hds']
    have hc'in : ∀ i j, i < xs.length → j < k → c'[p.bo + (i * k + j)]? = some ((encV (d'.getD i default)).getD j undef) := fun i j hi hj => by
      have hlt : i * k + j < xs.length * k := by
        have : (i + 1) * k ≤ xs.length * k := Nat.mul_le_mul_right _ hi
        rw [Nat.add_mul, Nat.one_mul] at this
        omega
      have hcs : p.bo + (i * k + j) < c.size := by omega
      have := flat_at (encV := encV) hk d' (i := i) (j := j) (by omega) hj
      rw [← this]
      simp only [c', putCells, Array.getElem?_mapIdx, Array.getElem?_eq_getElem hcs, Option.map_some, hfs]
      rw [if_pos (by omega), Nat.add_sub_cancel_left]
      rfl
    have hc'out : ∀ q, p.bo + xs.length * k ≤ q → c'[q]? = c[q]? := fun q hq => by
      simp only [c', putCells, Array.getElem?_mapIdx, hfs]
      cases hcq : c[q]? with
      | none => rfl
      | some v => simp only [Option.map_some]; rw [if_neg (by omega)]
    have hW1 : (putRowK encV k w R p.bo d').heap[R]? = some (.cells c' t fz) := by
      show (w.heap.modify R _)[R]? = _
      rw [Array.getElem?_modify, if_pos rfl, hheap]
      rfl
    have hWo : ∀ q, q ≠ R → (putRowK encV k w R p.bo d').heap[q]? = w.heap[q]? := fun q hq => by
      show (w.heap.modify R _)[q]? = _
      rw [Array.getElem?_modify, if_neg (Ne.symm hq)]
    have hown : OwnOk Φ (putRowK encV k w R p.bo d') l (.row t k (d'.toList.map encM ++ ex)) := by
      refine ⟨p, hpo, hpe', by simpa [hll] using hlen, hmax, fun i x hx' => ?_, ?_⟩
      · by_cases hi : i < xs.length
        · rw [List.getElem?_append_left (by simpa [hds'] using hi), List.getElem?_map, Option.map_eq_some_iff] at hx'
          obtain ⟨y, _, rfl⟩ := hx'
          exact hkM y
        · refine hx i x ?_
          rw [List.getElem?_append_right (by simp; omega)] at hx' ⊢
          simpa [hds'] using hx'
      · rw [hRp]
        refine ⟨c', fz, hW1, by rw [hc's]; exact hfz, by rw [hc's]; exact hfit, fun i x j m' hx' hm' => ?_⟩
        by_cases hi : i < xs.length
        · rw [List.getElem?_append_left (by simpa [hds'] using hi), List.getElem?_map, Option.map_eq_some_iff] at hx'
          obtain ⟨y, hy, rfl⟩ := hx'
          have hj : j < k := by rw [← hkM y]; exact (List.getElem?_eq_some_iff.1 hm').1
          have hyd : d'.getD i default = y := by
            have : d'[i]? = some y := by simpa using hy
            simp [Array.getD_eq_getD_getElem?, this]
          obtain ⟨q1, q2⟩ := (hp y).2 j m' hm'
          refine ⟨q1, _, hc'in i j hi hj, (q2 Φ _).2 (by rw [hyd])⟩
        · have hx2 : (xs.map encM ++ ex)[i]? = some x := by
            rw [List.getElem?_append_right (by simp; omega)] at hx' ⊢
            simpa [hds'] using hx'
          obtain ⟨q1, v, q2, q3⟩ := hcell i x j m' hx2 hm'
          refine ⟨q1, v, ?_, q3⟩
          rw [hc'out _ (by have := Nat.mul_le_mul_right k (Nat.le_of_not_lt hi); omega)]
          exact q2
    obtain ⟨i1, s1⟩ := hi.turn (w' := putRowK encV k w R p.bo d') l (set_hit _ _ _) (.row t k (d'.toList.map encM ++ ex)) hpo hRp (by simp [putRowK]) hWo rfl rfl rfl (Nat.le_refl _) hown
    rw [set_set] at i1 s1
    obtain ⟨i2, s2⟩ := i1.grown (w' := sortWorldK encV k w R p.bo m d' os) rfl rfl rfl (by show w.drawn ≤ w.drawn + m; omega) (by show _ ≤ ((putRowK encV k w R p.bo d').heap ++ os).size; simp) (fun q hq => by
      show ((putRowK encV k w R p.bo d').heap ++ os)[q]? = _
      rw [Array.getElem?_append_left hq])
    refine ⟨.tuple #[], .tup [], _, Φ, rfl, .tup rfl (fun i m h => by simp at h), i2, s1.trans s2, rfl, d'.toList, hpm', ?_, rfl⟩
    refine List.pairwise_iff_getElem.2 fun i j hi hj hij => ?_
    have := hsort i j (Nat.zero_le _) hij (by rw [← hsz']; simpa using hj)
    rw [getElem!_pos _ _ (by simpa using hj), getElem!_pos _ _ (by simpa using hi)] at this
    simpa using this
  · omega
end Go.Proofs.Ytielcgplbnlgbaa
end

section
/- Layings of the library's functions in this translation, as the kit's own tool (lay-plain.mjs) prints them: no condition. -/
set_option linter.unusedVariables false
namespace Go.Proofs.Ytielcgplbnlgbaa
open Go.Shelf
def lay_sortN_ren : Go.Shelf.Ren := ⟨fun | 6 => 43 | 15 => 63 | 14 => 62 | 28 => 91 | 29 => 92 | 20 => 83 | 21 => 84 | 22 => 85 | 23 => 86 | 24 => 87 | 25 => 88 | 26 => 89 | 27 => 90 | 46 => 103 | 47 => 104 | 48 => 105 | 49 => 106 | 50 => 107 | 57 => 112 | n => n, fun | 22 => 22 | 24 => 49 | 25 => 62 | 3 => 3 | 39 => 75 | 0 => 0 | 53 => 30 | 55 => 52 | 4 => 4 | 46 => 91 | 45 => 90 | 50 => 76 | 5 => 5 | 9 => 9 | 66 => 114 | 70 => 118 | 76 => 123 | 77 => 124 | n => n, fun | n => n⟩
theorem lay_sortN : Go.Proofs.SlLaysF0.n6 Try.prog lay_sortN_ren := {
  mixed := by kernel_rfl
  f6 := ⟨Try.f43.name, by decide, Try.func43.trans (congrArg some (by kernel_rfl))⟩
  f14 := ⟨Try.f62.name, by decide, Try.func62.trans (congrArg some (by kernel_rfl))⟩
  f15 := Try.func63.trans (congrArg some (by kernel_rfl))
  f20 := ⟨Try.f83.name, by decide, Try.func83.trans (congrArg some (by kernel_rfl))⟩
  f21 := ⟨Try.f84.name, by decide, Try.func84.trans (congrArg some (by kernel_rfl))⟩
  f22 := ⟨Try.f85.name, by decide, Try.func85.trans (congrArg some (by kernel_rfl))⟩
  f23 := ⟨Try.f86.name, by decide, Try.func86.trans (congrArg some (by kernel_rfl))⟩
  f24 := ⟨Try.f87.name, by decide, Try.func87.trans (congrArg some (by kernel_rfl))⟩
  f25 := ⟨Try.f88.name, by decide, Try.func88.trans (congrArg some (by kernel_rfl))⟩
  f26 := ⟨Try.f89.name, by decide, Try.func89.trans (congrArg some (by kernel_rfl))⟩
  f27 := ⟨Try.f90.name, by decide, Try.func90.trans (congrArg some (by kernel_rfl))⟩
  f28 := Try.func91.trans (congrArg some (by kernel_rfl))
  f29 := Try.func92.trans (congrArg some (by kernel_rfl))
  f46 := ⟨Try.f103.name, by decide, Try.func103.trans (congrArg some (by kernel_rfl))⟩
  f47 := Try.func104.trans (congrArg some (by kernel_rfl))
  f48 := Try.func105.trans (congrArg some (by kernel_rfl))
  f49 := ⟨Try.f106.name, by decide, Try.func106.trans (congrArg some (by kernel_rfl))⟩
  f50 := ⟨Try.f107.name, by decide, Try.func107.trans (congrArg some (by kernel_rfl))⟩
  f57 := ⟨Try.f112.name, by decide, Try.func112.trans (congrArg some (by kernel_rfl))⟩
  t0 := Try.underlying0
  a0 := Try.isAgg0
  z0 := Try.sizeOf0
  v0 := Try.zeroValue0
  t3 := Try.underlying3
  a3 := Try.isAgg3
  z3 := Try.sizeOf3
  v3 := Try.zeroValue3
  t4 := Try.underlying4
  a4 := Try.isAgg4
  z4 := Try.sizeOf4
  v4 := Try.zeroValue4
  t5 := Try.underlying5
  a5 := Try.isAgg5
  z5 := Try.sizeOf5
  v5 := Try.zeroValue5
  t9 := Try.underlying9
  a9 := Try.isAgg9
  z9 := Try.sizeOf9
  v9 := Try.zeroValue9
  t22 := Try.underlying22
  a22 := Try.isAgg22
  z22 := Try.sizeOf22
  v22 := Try.zeroValue22
  t25 := Try.underlying62
  a25 := Try.isAgg62
  z25 := Try.sizeOf62
  v25 := Try.zeroValue62
  t39 := Try.underlying75
  a39 := Try.isAgg75
  z39 := Try.sizeOf75
  v39 := Try.zeroValue75
  t45 := Try.underlying90
  a45 := Try.isAgg90
  z45 := Try.sizeOf90
  v45 := Try.zeroValue90
  t46 := Try.underlying91
  a46 := Try.isAgg91
  z46 := Try.sizeOf91
  v46 := Try.zeroValue91
  t50 := Try.underlying76
  a50 := Try.isAgg76
  z50 := Try.sizeOf76
  v50 := Try.zeroValue76
  t53 := Try.underlying30
  a53 := Try.isAgg30
  z53 := Try.sizeOf30
  v53 := Try.zeroValue30
  t55 := Try.underlying52
  a55 := Try.isAgg52
  z55 := Try.sizeOf52
  v55 := Try.zeroValue52
  t66 := Try.underlying114
  a66 := Try.isAgg114
  z66 := Try.sizeOf114
  v66 := Try.zeroValue114
  t70 := Try.underlying118
  a70 := Try.isAgg118
  z70 := Try.sizeOf118
  v70 := Try.zeroValue118
  t76 := Try.underlying123
  a76 := Try.isAgg123
  z76 := Try.sizeOf123
  v76 := Try.zeroValue123
  t77 := Try.underlying124
  a77 := Try.isAgg124
  z77 := Try.sizeOf124
  v77 := Try.zeroValue124 }
end Go.Proofs.Ytielcgplbnlgbaa
end

section
/- Contract of slices.SortFunc at nodes: the conditions that the theorem names. -/
set_option linter.unusedVariables false
set_option linter.unusedSimpArgs false
namespace Go.Proofs.Ytielcgplbnlgbaa
open Go.Shelf Go.Sort

def ND.v0 (x : ND) : List Value := [.int .i64 x.op, .int .i64 x.n, .int .i64 x.v.kd, .int .i64 x.v.n, .string x.v.s]
instance : Inhabited ND := ⟨nd0⟩

theorem nd_plain : PlainC ND.c ND.v0 := fun x => ⟨rfl, fun j m h => by
  match j, h with
  | 0, h => simp at h; subst h; exact ⟨rfl, fun Φ v => ⟨fun r => r.inv_int, fun e => e ▸ .int _ _⟩⟩
  | 1, h => simp at h; subst h; exact ⟨rfl, fun Φ v => ⟨fun r => r.inv_int, fun e => e ▸ .int _ _⟩⟩
  | 2, h => simp at h; subst h; exact ⟨rfl, fun Φ v => ⟨fun r => r.inv_int, fun e => e ▸ .int _ _⟩⟩
  | 3, h => simp at h; subst h; exact ⟨rfl, fun Φ v => ⟨fun r => r.inv_int, fun e => e ▸ .int _ _⟩⟩
  | 4, h => simp at h; subst h; exact ⟨rfl, fun Φ v => ⟨fun r => r.inv_str, fun e => e ▸ .str _⟩⟩⟩

theorem nd_lt (x y : ND) : ltOf (fun x y : ND => ordI (cmpL x.key y.key)) x y = decide (lessK x.key y.key) := by
  have e : (ordI (cmpL x.key y.key) < 0) ↔ lessK x.key y.key := by
    unfold lessK
    cases cmpL x.key y.key <;> simp [ordI]
  unfold ltOf
  simp only [e]

theorem nd_swo : SWO (ltOf fun x y : ND => ordI (cmpL x.key y.key)) where
  irrefl x := by rw [nd_lt]; simp [lessK_irrefl]
  trans x y z h1 h2 := by rw [nd_lt] at *; simp only [decide_eq_true_eq] at *; exact lessK_trans h1 h2
  ntrans x y z h1 h2 := by
    rw [nd_lt] at *
    simp only [decide_eq_false_iff_not] at *
    intro h3
    by_cases e : y.key = z.key
    · rw [e] at h1; exact h1 h3
    · exact h1 (lessK_trans h3 (lessK_total h2 e))

theorem sort_pos (l : Nat) (xs : List ND) (hx : xs.length ≤ 1000000) (h0 : 0 < xs.length) (ex : List (List MV)) : MCalls Try.prog 43 [.vec 5 l 0 xs.length, .fn (.func 44) [] []] (St.none.set l (.row 49 5 (xs.map ND.c ++ ex)))
    (fun r σ' => r = .tup [] ∧ ∃ ys : List ND, ys.Perm xs ∧ Sorted ys ∧ σ' = St.none.set l (.row 49 5 (ys.map ND.c ++ ex))) :=
  (sort_any (P := Try.prog) (ρ := lay_sortN_ren) lay_sortN 5 (by omega) Try.isAgg49 Try.sizeOf49 ND.c ND.v0 (fun _ => rfl) nd_plain (fun x v hv => by simp [ND.v0] at hv; rcases hv with rfl | rfl | rfl | rfl | rfl <;> rfl) (fun x y => ordI (cmpL x.key y.key)) nd_swo 44
    lorder_call (enters_of Try.func44 (by kernel_rfl) rfl) ⟨_, Try.func43, rfl, by kernel_rfl⟩ l 49 xs ex h0 (by omega)).mono fun r σ' ⟨h1, ys, h2, h3, h4⟩ => ⟨h1, ys, h2, List.pairwise_iff_getElem.2 fun i j hi hj hij => by
      have h := List.pairwise_iff_getElem.1 h3 i j hi hj hij
      rw [nd_lt] at h
      simpa using h, h4⟩
end Go.Proofs.Ytielcgplbnlgbaa
end

section
/- Contracts of slices.SortFunc at nodes, at any length, and of logic.Atoms: the conditions that each theorem names. -/
set_option linter.unusedVariables false
set_option linter.unusedSimpArgs false
namespace Go.Proofs.Ytielcgplbnlgbaa
open Go.Shelf Go.Sort

theorem bitslen_call (n : Nat) (hn : n ≤ 1000000) : MCalls Try.prog 63 [.int .u64 n] St.none (fun r _ => r = .int .i64 (Lib.bitLen n)) := by
  refine ⟨⟨_, Try.func63, rfl, by kernel_rfl⟩, fun Φ w vs hi hr => ?_⟩
  have e0 : vs.getD 0 undef = .int .u64 n := (hr.2 0 _ rfl).inv_int
  have hvs : vs = #[.int .u64 n] := by
    have h2 := hr.1
    simp at h2
    refine Array.ext (by simpa using h2) fun i q1 q2 => ?_
    match i, q1, q2 with
    | 0, q1, _ => have := e0; simp [Array.getD, q1] at this; exact this
  subst hvs
  have h := Any.bits_Len (SlLaysF0.n15.bits (P := Try.prog) (ρ := lay_sortN_ren) { lay_sortN with }) (n : Int) w (by omega) (by omega)
  rw [Int.toNat_natCast] at h
  refine h.mono ?_
  rintro e w' ⟨rfl, rfl⟩
  exact ⟨_, _, _, Φ, rfl, .int _ _, hi, .refl _ _ _, rfl⟩

theorem ins_nil (l : Nat) (ex : List (List MV)) : MCalls Try.prog 83 [.vec 5 l 0 0, .int .i64 0, .int .i64 0, .fn (.func 44) [] []] (St.none.set l (.row 49 5 ex)) (fun r σ' => r = .tup [] ∧ σ' = St.none.set l (.row 49 5 ex)) := by
  refine (MCalls.body 53 [] Try.func83 rfl rfl rfl rfl ?_)
  repeat' (first | ((with_reducible refine wN fun nl hnl => ?_); revert hnl; (repeat with_reducible refine wS fun _ _ => ?_); intro hnl) | (with_reducible first | refine mdraw_plain mixed (by decide +kernel) ?_ | refine wI (fun h => ?_) (fun h => ?_) | refine wF (fun h => ?_) (fun h => ?_) | refine wG (fun h => ?_) (fun h => ?_) | refine wH (fun h => ?_) (fun h => ?_)) | (with_reducible refine mfork_bool (fun h => ?_) (fun h => ?_) <;> simp only [h]) | (with_reducible refine mgfork_bool (fun h => ?_) (fun h => ?_) <;> simp only [h]) | (simp (config := { maxSteps := 4000000 }) (disch := first | decide | assumption | omega | (simp only [wL]; omega)) only [go_sem, Nat.reduceAdd, Nat.reduceSub, Nat.reduceMul, Nat.reduceDiv, Nat.reduceMod, Nat.reduceLT, Nat.reduceLeDiff, Nat.reduceEqDiff, Nat.reduceSucc, Nat.reduceGT, Int.reduceAdd, Int.reduceSub, Int.reduceMul, Int.reduceNeg, Int.reduceLT, Int.reduceLE, Int.reduceEq, Int.reduceToNat, reduceIte, Try.f83]))
  refine mloop_intro (α := Unit) (fun _ => ⟨53, [(8, .int .i64 1), (0, .vec 5 l 0 0), (1, .int .i64 0), (2, .int .i64 0), (3, .fn (.func 44) [] [])], []⟩) (fun _ => St.none.set l (.row 49 5 ex)) (fun _ => True) (fun _ => 0) (.of (.less ?_ (St.le_refl _)) ⟨(), rfl, rfl, trivial⟩) ?_
  · simp (config := { maxSteps := 4000000 }) (disch := first | decide | assumption | omega | (simp only [wL]; omega)) only [go_sem, Nat.reduceAdd, Nat.reduceSub, Nat.reduceMul, Nat.reduceDiv, Nat.reduceMod, Nat.reduceLT, Nat.reduceLeDiff, Nat.reduceEqDiff, Nat.reduceSucc, Nat.reduceGT, Int.reduceAdd, Int.reduceSub, Int.reduceMul, Int.reduceNeg, Int.reduceLT, Int.reduceLE, Int.reduceEq, Int.reduceToNat, reduceIte, weak_int, weak_same]
  · intro _ _
    repeat' (first | ((with_reducible refine wN fun nl hnl => ?_); revert hnl; (repeat with_reducible refine wS fun _ _ => ?_); intro hnl) | (with_reducible first | refine mdraw_plain mixed (by decide +kernel) ?_ | refine wI (fun h => ?_) (fun h => ?_) | refine wF (fun h => ?_) (fun h => ?_) | refine wG (fun h => ?_) (fun h => ?_) | refine wH (fun h => ?_) (fun h => ?_)) | (with_reducible refine mfork_bool (fun h => ?_) (fun h => ?_) <;> simp only [h]) | (with_reducible refine mgfork_bool (fun h => ?_) (fun h => ?_) <;> simp only [h]) | (simp (config := { maxSteps := 4000000 }) (disch := first | decide | assumption | omega | (simp only [wL]; omega)) only [go_sem, Nat.reduceAdd, Nat.reduceSub, Nat.reduceMul, Nat.reduceDiv, Nat.reduceMod, Nat.reduceLT, Nat.reduceLeDiff, Nat.reduceEqDiff, Nat.reduceSucc, Nat.reduceGT, Int.reduceAdd, Int.reduceSub, Int.reduceMul, Int.reduceNeg, Int.reduceLT, Int.reduceLE, Int.reduceEq, Int.reduceToNat, reduceIte]))

theorem pdq_nil (l : Nat) (ex : List (List MV)) : MCalls Try.prog 62 [.vec 5 l 0 0, .int .i64 0, .int .i64 0, .int .i64 0, .fn (.func 44) [] []] (St.none.set l (.row 49 5 ex)) (fun r σ' => r = .tup [] ∧ σ' = St.none.set l (.row 49 5 ex)) := by
  refine (MCalls.body 148 [] Try.func62 rfl rfl rfl rfl ?_)
  repeat' (first | ((with_reducible refine wN fun nl hnl => ?_); revert hnl; (repeat with_reducible refine wS fun _ _ => ?_); intro hnl) | (with_reducible first | refine mdraw_plain mixed (by decide +kernel) ?_ | refine wI (fun h => ?_) (fun h => ?_) | refine wF (fun h => ?_) (fun h => ?_) | refine wG (fun h => ?_) (fun h => ?_) | refine wH (fun h => ?_) (fun h => ?_)) | (with_reducible refine mfork_bool (fun h => ?_) (fun h => ?_) <;> simp only [h]) | (with_reducible refine mgfork_bool (fun h => ?_) (fun h => ?_) <;> simp only [h]) | (simp (config := { maxSteps := 4000000 }) (disch := first | decide | assumption | omega | (simp only [wL]; omega)) only [go_sem, Nat.reduceAdd, Nat.reduceSub, Nat.reduceMul, Nat.reduceDiv, Nat.reduceMod, Nat.reduceLT, Nat.reduceLeDiff, Nat.reduceEqDiff, Nat.reduceSucc, Nat.reduceGT, Int.reduceAdd, Int.reduceSub, Int.reduceMul, Int.reduceNeg, Int.reduceLT, Int.reduceLE, Int.reduceEq, Int.reduceToNat, reduceIte, Try.f62]))
  refine mloop_intro (α := Unit) (fun _ => ⟨148, [(11, .bool true), (10, .bool true), (0, .vec 5 l 0 0), (1, .int .i64 0), (2, .int .i64 0), (3, .int .i64 0), (4, .fn (.func 44) [] [])], []⟩) (fun _ => St.none.set l (.row 49 5 ex)) (fun _ => True) (fun _ => 0) (.of (.less ?_ (St.le_refl _)) ⟨(), rfl, rfl, trivial⟩) ?_
  · simp (config := { maxSteps := 4000000 }) (disch := first | decide | assumption | omega | (simp only [wL]; omega)) only [go_sem, Nat.reduceAdd, Nat.reduceSub, Nat.reduceMul, Nat.reduceDiv, Nat.reduceMod, Nat.reduceLT, Nat.reduceLeDiff, Nat.reduceEqDiff, Nat.reduceSucc, Nat.reduceGT, Int.reduceAdd, Int.reduceSub, Int.reduceMul, Int.reduceNeg, Int.reduceLT, Int.reduceLE, Int.reduceEq, Int.reduceToNat, reduceIte, weak_int, weak_same]
  · intro _ _
    repeat' (first | (with_reducible refine use_same (ins_nil l ex) (St.le_refl _) ?_) | ((with_reducible refine wN fun nl hnl => ?_); revert hnl; (repeat with_reducible refine wS fun _ _ => ?_); intro hnl) | (with_reducible first | refine mdraw_plain mixed (by decide +kernel) ?_ | refine wI (fun h => ?_) (fun h => ?_) | refine wF (fun h => ?_) (fun h => ?_) | refine wG (fun h => ?_) (fun h => ?_) | refine wH (fun h => ?_) (fun h => ?_)) | (with_reducible refine mfork_bool (fun h => ?_) (fun h => ?_) <;> simp only [h]) | (with_reducible refine mgfork_bool (fun h => ?_) (fun h => ?_) <;> simp only [h]) | (simp (config := { maxSteps := 4000000 }) (disch := first | decide | assumption | omega | (simp only [wL]; omega)) only [go_sem, Nat.reduceAdd, Nat.reduceSub, Nat.reduceMul, Nat.reduceDiv, Nat.reduceMod, Nat.reduceLT, Nat.reduceLeDiff, Nat.reduceEqDiff, Nat.reduceSucc, Nat.reduceGT, Int.reduceAdd, Int.reduceSub, Int.reduceMul, Int.reduceNeg, Int.reduceLT, Int.reduceLE, Int.reduceEq, Int.reduceToNat, reduceIte]))

theorem sort_nil (l : Nat) (ex : List (List MV)) : MCalls Try.prog 43 [.vec 5 l 0 0, .fn (.func 44) [] []] (St.none.set l (.row 49 5 ex)) (fun r σ' => r = .tup [] ∧ σ' = St.none.set l (.row 49 5 ex)) := by
  refine (MCalls.body 14 [] Try.func43 rfl rfl rfl rfl ?_)
  have hb := bitslen_call 0 (by omega)
  rw [show Lib.bitLen 0 = 0 by decide] at hb
  repeat' (first | (with_reducible refine use_pure hb ?_) | ((with_reducible refine wN fun nl hnl => ?_); revert hnl; (repeat with_reducible refine wS fun _ _ => ?_); intro hnl) | (with_reducible first | refine mdraw_plain mixed (by decide +kernel) ?_ | refine wI (fun h => ?_) (fun h => ?_) | refine wF (fun h => ?_) (fun h => ?_) | refine wG (fun h => ?_) (fun h => ?_) | refine wH (fun h => ?_) (fun h => ?_)) | (with_reducible refine mfork_bool (fun h => ?_) (fun h => ?_) <;> simp only [h]) | (with_reducible refine mgfork_bool (fun h => ?_) (fun h => ?_) <;> simp only [h]) | (simp (config := { maxSteps := 4000000 }) (disch := first | decide | assumption | omega | (simp only [wL]; omega)) only [go_sem, Nat.reduceAdd, Nat.reduceSub, Nat.reduceMul, Nat.reduceDiv, Nat.reduceMod, Nat.reduceLT, Nat.reduceLeDiff, Nat.reduceEqDiff, Nat.reduceSucc, Nat.reduceGT, Int.reduceAdd, Int.reduceSub, Int.reduceMul, Int.reduceNeg, Int.reduceLT, Int.reduceLE, Int.reduceEq, Int.reduceToNat, reduceIte, Try.f43]))
  refine use_same (pdq_nil l ex) (St.le_refl _) ?_
  repeat' (first | ((with_reducible refine wN fun nl hnl => ?_); revert hnl; (repeat with_reducible refine wS fun _ _ => ?_); intro hnl) | (with_reducible first | refine mdraw_plain mixed (by decide +kernel) ?_ | refine wI (fun h => ?_) (fun h => ?_) | refine wF (fun h => ?_) (fun h => ?_) | refine wG (fun h => ?_) (fun h => ?_) | refine wH (fun h => ?_) (fun h => ?_)) | (with_reducible refine mfork_bool (fun h => ?_) (fun h => ?_) <;> simp only [h]) | (with_reducible refine mgfork_bool (fun h => ?_) (fun h => ?_) <;> simp only [h]) | (simp (config := { maxSteps := 4000000 }) (disch := first | decide | assumption | omega | (simp only [wL]; omega)) only [go_sem, Nat.reduceAdd, Nat.reduceSub, Nat.reduceMul, Nat.reduceDiv, Nat.reduceMod, Nat.reduceLT, Nat.reduceLeDiff, Nat.reduceEqDiff, Nat.reduceSucc, Nat.reduceGT, Int.reduceAdd, Int.reduceSub, Int.reduceMul, Int.reduceNeg, Int.reduceLT, Int.reduceLE, Int.reduceEq, Int.reduceToNat, reduceIte]))

theorem sort_call (l : Nat) (xs : List ND) (hx : xs.length ≤ 1000000) (ex : List (List MV)) : MCalls Try.prog 43 [.vec 5 l 0 xs.length, .fn (.func 44) [] []] (St.none.set l (.row 49 5 (xs.map ND.c ++ ex)))
    (fun r σ' => r = .tup [] ∧ ∃ ys : List ND, ys.Perm xs ∧ Sorted ys ∧ σ' = St.none.set l (.row 49 5 (ys.map ND.c ++ ex))) := by
  rcases Nat.eq_zero_or_pos xs.length with h | h
  · have : xs = [] := List.eq_nil_of_length_eq_zero h
    subst this
    exact (sort_nil l ex).mono fun r σ' ⟨h1, h2⟩ => ⟨h1, [], .refl _, List.Pairwise.nil, h2⟩
  · exact sort_pos l xs hx h ex
end Go.Proofs.Ytielcgplbnlgbaa
end

section
/- Contract of logic.Atoms: the conditions that the theorem names. -/
set_option linter.unusedVariables false
set_option linter.unusedSimpArgs false
namespace Go.Proofs.Ytielcgplbnlgbaa

theorem filt_succ {m : List ND} {k : Nat} (h : k < m.length) : (m.take (k + 1)).filter isAtom = (m.take k).filter isAtom ++ (if isAtom (m.getD k nd0) = true then [m.getD k nd0] else []) := by
  rw [List.take_succ_eq_append_getElem h, List.filter_append, getD_of_lt nd0 h]
  congr 1
  cases e : isAtom m[k] <;> simp [e]

theorem filt_le (m : List ND) (k : Nat) : ((m.take k).filter isAtom).length ≤ k :=
  Nat.le_trans (List.length_filter_le ..) (by simp; omega)

set_option maxHeartbeats 4000000 in
theorem atoms_call (ls : List (List ND)) (t : Bool) (hl : ls.length ≤ 1000) (hs : ∀ l, l ∈ ls → l.length ≤ 1000) : MCalls Try.prog 23 [.lst 1 (ls.map fun l => [.lst 5 (l.map ND.c) false]) t] St.none (fun r _ => r = .lst 5 ((atomsS ls.flatten).map ND.c) false) := by
  refine MCalls.seen (MCalls.body 36 [.tmp 2] Try.func23 rfl rfl rfl rfl ?_)
  have hc := concat_call ls t hl hs
  have htot := flat_le hs (i := ls.length) (Nat.le_refl _)
  rw [List.take_length] at htot
  obtain ⟨m, hm⟩ : ∃ m, ls.flatten = m := ⟨_, rfl⟩
  rw [hm] at hc htot ⊢
  have hml : m.length ≤ 1000000 := by omega
  repeat' (first | (with_reducible refine use_pure hc ?_) | ((with_reducible refine wN fun nl hnl => ?_); revert hnl; (repeat with_reducible refine wS fun _ _ => ?_); intro hnl) | (with_reducible first | refine mdraw_plain mixed (by decide +kernel) ?_ | refine wI (fun h => ?_) (fun h => ?_) | refine wF (fun h => ?_) (fun h => ?_) | refine wG (fun h => ?_) (fun h => ?_) | refine wH (fun h => ?_) (fun h => ?_)) | (with_reducible refine mfork_bool (fun h => ?_) (fun h => ?_) <;> simp only [h]) | (with_reducible refine mgfork_bool (fun h => ?_) (fun h => ?_) <;> simp only [h]) | (simp (config := { maxSteps := 4000000 }) (disch := first | decide | assumption | omega | (simp only [wL]; omega)) only [go_sem, Nat.reduceAdd, Nat.reduceSub, Nat.reduceMul, Nat.reduceDiv, Nat.reduceMod, Nat.reduceLT, Nat.reduceLeDiff, Nat.reduceEqDiff, Nat.reduceSucc, Nat.reduceGT, Int.reduceAdd, Int.reduceSub, Int.reduceMul, Int.reduceNeg, Int.reduceLT, Int.reduceLE, Int.reduceEq, Int.reduceToNat, reduceIte, Try.f23]))
  refine mloop_intro (α := Nat × Nat × List (List MV)) (fun a => ⟨36, [(9, .int .i64 (a.1 : Int)), (8, .int .i64 (m.length : Int)), (7, .lst 5 (m.map ND.c) false), (3, .vec 5 a.2.1 0 ((m.take a.1).filter isAtom).length)], []⟩)
    (fun a => St.none.set a.2.1 (.row 49 5 (((m.take a.1).filter isAtom).map ND.c ++ a.2.2))) (fun a => a.1 ≤ m.length) (fun a => m.length - a.1) ?_ ?_
  · refine Gh.row 49 5 (fun k => [(9, .int .i64 0), (8, .int .i64 (m.length : Int)), (7, .lst 5 (m.map ND.c) false), (3, .vec 5 k 0 0)]) (fun k p hp => ?_) fun k hk => .done ⟨(0, k, []), rfl, rfl, Nat.zero_le _⟩
    simp only [List.mem_cons, List.not_mem_nil, or_false] at hp
    rcases hp with rfl | rfl | rfl | rfl
    · exact .inl rfl
    · exact .inl rfl
    · exact .inl rfl
    · exact .inr ⟨rfl, .inl rfl⟩
  · rintro ⟨k, q, ex⟩ hk
    simp only at hk ⊢
    by_cases hlt : k < m.length
    · have hfl := filt_le m k
      have hsucc := filt_succ hlt
      cases ha : isAtom (m.getD k nd0)
      · rw [ha, if_neg (by simp), List.append_nil] at hsucc
        have hn : parts (m.getD k nd0).op ≠ 0 ∨ (parts (m.getD k nd0).op = 0 ∧ (m.getD k nd0).op = 1) ∨ (parts (m.getD k nd0).op = 0 ∧ (m.getD k nd0).op ≠ 1 ∧ (m.getD k nd0).op = 2) := by
          simp only [isAtom, decide_eq_false_iff_not] at ha
          rcases Classical.em (parts (m.getD k nd0).op = 0) with h0 | h0
          · rcases Classical.em ((m.getD k nd0).op = 1) with h1 | h1
            · exact .inr (.inl ⟨h0, h1⟩)
            · rcases Classical.em ((m.getD k nd0).op = 2) with h2 | h2
              · exact .inr (.inr ⟨h0, h1, h2⟩)
              · exact absurd ⟨h0, h1, h2⟩ ha
          · exact .inl h0
        rcases hn with a1 | ⟨a1, a2⟩ | ⟨a1, a2, a3⟩
        · repeat' (first | (with_reducible refine use_pure (parts_call _) ?_) | ((with_reducible refine wN fun nl hnl => ?_); revert hnl; (repeat with_reducible refine wS fun _ _ => ?_); intro hnl) | (with_reducible first | refine mdraw_plain mixed (by decide +kernel) ?_ | refine wI (fun h => ?_) (fun h => ?_) | refine wF (fun h => ?_) (fun h => ?_) | refine wG (fun h => ?_) (fun h => ?_) | refine wH (fun h => ?_) (fun h => ?_)) | (with_reducible refine mfork_bool (fun h => ?_) (fun h => ?_) <;> simp only [h]) | (with_reducible refine mgfork_bool (fun h => ?_) (fun h => ?_) <;> simp only [h]) | (simp (config := { maxSteps := 4000000 }) (disch := first | decide | assumption | omega | (simp only [wL]; omega)) only [go_sem, Nat.reduceAdd, Nat.reduceSub, Nat.reduceMul, Nat.reduceDiv, Nat.reduceMod, Nat.reduceLT, Nat.reduceLeDiff, Nat.reduceEqDiff, Nat.reduceSucc, Nat.reduceGT, Int.reduceAdd, Int.reduceSub, Int.reduceMul, Int.reduceNeg, Int.reduceLT, Int.reduceLE, Int.reduceEq, Int.reduceToNat, reduceIte, getD_mapd nd0, a1]))
          all_goals refine .of (.less (l1 := [(9, .int .i64 ((k + 1 : Nat) : Int)), (8, .int .i64 (m.length : Int)), (7, .lst 5 (m.map ND.c) false), (3, .vec 5 q 0 ((m.take (k + 1)).filter isAtom).length)]) (σ1 := St.none.set q (.row 49 5 (((m.take (k + 1)).filter isAtom).map ND.c ++ ex))) ?_ (St.set_le (St.none_le _) ((set_miss _ _ _ _ (by assumption)).trans ((set_hit _ _ _).trans ?_)))) ⟨(k + 1, q, ex), rfl, rfl, by simp only; omega, by simp only; omega⟩
          all_goals first | rfl | (rw [hsucc]; done) | (rw [hsucc]; simp (config := { maxSteps := 4000000 }) (disch := first | decide | assumption | omega | (simp only [wL]; omega)) only [go_sem, Nat.reduceAdd, Nat.reduceSub, Nat.reduceMul, Nat.reduceDiv, Nat.reduceMod, Nat.reduceLT, Nat.reduceLeDiff, Nat.reduceEqDiff, Nat.reduceSucc, Nat.reduceGT, Int.reduceAdd, Int.reduceSub, Int.reduceMul, Int.reduceNeg, Int.reduceLT, Int.reduceLE, Int.reduceEq, Int.reduceToNat, reduceIte, weak_int, weak_same]; done) | (rw [hsucc]; simp (config := { maxSteps := 4000000 }) (disch := first | decide | assumption | omega | (simp only [wL]; omega)) only [go_sem, Nat.reduceAdd, Nat.reduceSub, Nat.reduceMul, Nat.reduceDiv, Nat.reduceMod, Nat.reduceLT, Nat.reduceLeDiff, Nat.reduceEqDiff, Nat.reduceSucc, Nat.reduceGT, Int.reduceAdd, Int.reduceSub, Int.reduceMul, Int.reduceNeg, Int.reduceLT, Int.reduceLE, Int.reduceEq, Int.reduceToNat, reduceIte, weak_int, weak_same]; omega)
        · repeat' (first | (with_reducible refine use_pure (parts_call _) ?_) | ((with_reducible refine wN fun nl hnl => ?_); revert hnl; (repeat with_reducible refine wS fun _ _ => ?_); intro hnl) | (with_reducible first | refine mdraw_plain mixed (by decide +kernel) ?_ | refine wI (fun h => ?_) (fun h => ?_) | refine wF (fun h => ?_) (fun h => ?_) | refine wG (fun h => ?_) (fun h => ?_) | refine wH (fun h => ?_) (fun h => ?_)) | (with_reducible refine mfork_bool (fun h => ?_) (fun h => ?_) <;> simp only [h]) | (with_reducible refine mgfork_bool (fun h => ?_) (fun h => ?_) <;> simp only [h]) | (simp (config := { maxSteps := 4000000 }) (disch := first | decide | assumption | omega | (simp only [wL]; omega)) only [go_sem, Nat.reduceAdd, Nat.reduceSub, Nat.reduceMul, Nat.reduceDiv, Nat.reduceMod, Nat.reduceLT, Nat.reduceLeDiff, Nat.reduceEqDiff, Nat.reduceSucc, Nat.reduceGT, Int.reduceAdd, Int.reduceSub, Int.reduceMul, Int.reduceNeg, Int.reduceLT, Int.reduceLE, Int.reduceEq, Int.reduceToNat, reduceIte, getD_mapd nd0, a1, a2]))
          all_goals refine .of (.less (l1 := [(9, .int .i64 ((k + 1 : Nat) : Int)), (8, .int .i64 (m.length : Int)), (7, .lst 5 (m.map ND.c) false), (3, .vec 5 q 0 ((m.take (k + 1)).filter isAtom).length)]) (σ1 := St.none.set q (.row 49 5 (((m.take (k + 1)).filter isAtom).map ND.c ++ ex))) ?_ (St.set_le (St.none_le _) ((set_miss _ _ _ _ (by assumption)).trans ((set_hit _ _ _).trans ?_)))) ⟨(k + 1, q, ex), rfl, rfl, by simp only; omega, by simp only; omega⟩
          all_goals first | rfl | (rw [hsucc]; done) | (rw [hsucc]; simp (config := { maxSteps := 4000000 }) (disch := first | decide | assumption | omega | (simp only [wL]; omega)) only [go_sem, Nat.reduceAdd, Nat.reduceSub, Nat.reduceMul, Nat.reduceDiv, Nat.reduceMod, Nat.reduceLT, Nat.reduceLeDiff, Nat.reduceEqDiff, Nat.reduceSucc, Nat.reduceGT, Int.reduceAdd, Int.reduceSub, Int.reduceMul, Int.reduceNeg, Int.reduceLT, Int.reduceLE, Int.reduceEq, Int.reduceToNat, reduceIte, weak_int, weak_same]; done) | (rw [hsucc]; simp (config := { maxSteps := 4000000 }) (disch := first | decide | assumption | omega | (simp only [wL]; omega)) only [go_sem, Nat.reduceAdd, Nat.reduceSub, Nat.reduceMul, Nat.reduceDiv, Nat.reduceMod, Nat.reduceLT, Nat.reduceLeDiff, Nat.reduceEqDiff, Nat.reduceSucc, Nat.reduceGT, Int.reduceAdd, Int.reduceSub, Int.reduceMul, Int.reduceNeg, Int.reduceLT, Int.reduceLE, Int.reduceEq, Int.reduceToNat, reduceIte, weak_int, weak_same]; omega)
        · repeat' (first | (with_reducible refine use_pure (parts_call _) ?_) | ((with_reducible refine wN fun nl hnl => ?_); revert hnl; (repeat with_reducible refine wS fun _ _ => ?_); intro hnl) | (with_reducible first | refine mdraw_plain mixed (by decide +kernel) ?_ | refine wI (fun h => ?_) (fun h => ?_) | refine wF (fun h => ?_) (fun h => ?_) | refine wG (fun h => ?_) (fun h => ?_) | refine wH (fun h => ?_) (fun h => ?_)) | (with_reducible refine mfork_bool (fun h => ?_) (fun h => ?_) <;> simp only [h]) | (with_reducible refine mgfork_bool (fun h => ?_) (fun h => ?_) <;> simp only [h]) | (simp (config := { maxSteps := 4000000 }) (disch := first | decide | assumption | omega | (simp only [wL]; omega)) only [go_sem, Nat.reduceAdd, Nat.reduceSub, Nat.reduceMul, Nat.reduceDiv, Nat.reduceMod, Nat.reduceLT, Nat.reduceLeDiff, Nat.reduceEqDiff, Nat.reduceSucc, Nat.reduceGT, Int.reduceAdd, Int.reduceSub, Int.reduceMul, Int.reduceNeg, Int.reduceLT, Int.reduceLE, Int.reduceEq, Int.reduceToNat, reduceIte, getD_mapd nd0, a1, a2, a3]))
          all_goals refine .of (.less (l1 := [(9, .int .i64 ((k + 1 : Nat) : Int)), (8, .int .i64 (m.length : Int)), (7, .lst 5 (m.map ND.c) false), (3, .vec 5 q 0 ((m.take (k + 1)).filter isAtom).length)]) (σ1 := St.none.set q (.row 49 5 (((m.take (k + 1)).filter isAtom).map ND.c ++ ex))) ?_ (St.set_le (St.none_le _) ((set_miss _ _ _ _ (by assumption)).trans ((set_hit _ _ _).trans ?_)))) ⟨(k + 1, q, ex), rfl, rfl, by simp only; omega, by simp only; omega⟩
          all_goals first | rfl | (rw [hsucc]; done) | (rw [hsucc]; simp (config := { maxSteps := 4000000 }) (disch := first | decide | assumption | omega | (simp only [wL]; omega)) only [go_sem, Nat.reduceAdd, Nat.reduceSub, Nat.reduceMul, Nat.reduceDiv, Nat.reduceMod, Nat.reduceLT, Nat.reduceLeDiff, Nat.reduceEqDiff, Nat.reduceSucc, Nat.reduceGT, Int.reduceAdd, Int.reduceSub, Int.reduceMul, Int.reduceNeg, Int.reduceLT, Int.reduceLE, Int.reduceEq, Int.reduceToNat, reduceIte, weak_int, weak_same]; done) | (rw [hsucc]; simp (config := { maxSteps := 4000000 }) (disch := first | decide | assumption | omega | (simp only [wL]; omega)) only [go_sem, Nat.reduceAdd, Nat.reduceSub, Nat.reduceMul, Nat.reduceDiv, Nat.reduceMod, Nat.reduceLT, Nat.reduceLeDiff, Nat.reduceEqDiff, Nat.reduceSucc, Nat.reduceGT, Int.reduceAdd, Int.reduceSub, Int.reduceMul, Int.reduceNeg, Int.reduceLT, Int.reduceLE, Int.reduceEq, Int.reduceToNat, reduceIte, weak_int, weak_same]; omega)
      · rw [ha, if_pos rfl] at hsucc
        have ha' := ha
        simp only [isAtom, decide_eq_true_eq] at ha'
        obtain ⟨a1, a2, a3⟩ := ha'
        repeat' (first | (with_reducible refine use_pure (parts_call _) ?_) | ((with_reducible refine wN fun nl hnl => ?_); revert hnl; (repeat with_reducible refine wS fun _ _ => ?_); intro hnl) | (with_reducible first | refine mdraw_plain mixed (by decide +kernel) ?_ | refine wI (fun h => ?_) (fun h => ?_) | refine wF (fun h => ?_) (fun h => ?_) | refine wG (fun h => ?_) (fun h => ?_) | refine wH (fun h => ?_) (fun h => ?_)) | (with_reducible refine mfork_bool (fun h => ?_) (fun h => ?_) <;> simp only [h]) | (with_reducible refine mgfork_bool (fun h => ?_) (fun h => ?_) <;> simp only [h]) | (simp (config := { maxSteps := 4000000 }) (disch := first | decide | assumption | omega | (simp only [wL]; omega)) only [go_sem, Nat.reduceAdd, Nat.reduceSub, Nat.reduceMul, Nat.reduceDiv, Nat.reduceMod, Nat.reduceLT, Nat.reduceLeDiff, Nat.reduceEqDiff, Nat.reduceSucc, Nat.reduceGT, Int.reduceAdd, Int.reduceSub, Int.reduceMul, Int.reduceNeg, Int.reduceLT, Int.reduceLE, Int.reduceEq, Int.reduceToNat, reduceIte, getD_mapd nd0, a1]))
        · have hex : ex = [] := List.eq_nil_of_length_eq_zero (by omega)
          subst hex
          refine .of (.less (l1 := [(9, .int .i64 ((k + 1 : Nat) : Int)), (8, .int .i64 (m.length : Int)), (7, .lst 5 (m.map ND.c) false), (3, .vec 5 nl 0 ((m.take (k + 1)).filter isAtom).length)]) (σ1 := St.none.set nl (.row 49 5 (((m.take (k + 1)).filter isAtom).map ND.c ++ []))) ?_ (St.set_le (St.none_le _) ((set_hit _ _ _).trans ?_))) ⟨(k + 1, nl, []), rfl, rfl, by simp only; omega, by simp only; omega⟩
          · rw [hsucc, List.length_append]
            simp (config := { maxSteps := 4000000 }) (disch := first | decide | assumption | omega | (simp only [wL]; omega)) only [go_sem, Nat.reduceAdd, Nat.reduceSub, Nat.reduceMul, Nat.reduceDiv, Nat.reduceMod, Nat.reduceLT, Nat.reduceLeDiff, Nat.reduceEqDiff, Nat.reduceSucc, Nat.reduceGT, Int.reduceAdd, Int.reduceSub, Int.reduceMul, Int.reduceNeg, Int.reduceLT, Int.reduceLE, Int.reduceEq, Int.reduceToNat, reduceIte, weak_int, weak_same]
            omega
          · rw [hsucc, List.map_append]
            rw [List.append_nil, List.append_nil]; rfl
        · refine .of (.less (l1 := [(9, .int .i64 ((k + 1 : Nat) : Int)), (8, .int .i64 (m.length : Int)), (7, .lst 5 (m.map ND.c) false), (3, .vec 5 nl 0 ((m.take (k + 1)).filter isAtom).length)]) (σ1 := St.none.set nl (.row 49 5 (((m.take (k + 1)).filter isAtom).map ND.c ++ ex.drop 1))) ?_ (St.set_le (St.none_le _) ((set_hit _ _ _).trans ?_))) ⟨(k + 1, nl, ex.drop 1), rfl, rfl, by simp only; omega, by simp only; omega⟩
          · rw [hsucc, List.length_append]
            simp (config := { maxSteps := 4000000 }) (disch := first | decide | assumption | omega | (simp only [wL]; omega)) only [go_sem, Nat.reduceAdd, Nat.reduceSub, Nat.reduceMul, Nat.reduceDiv, Nat.reduceMod, Nat.reduceLT, Nat.reduceLeDiff, Nat.reduceEqDiff, Nat.reduceSucc, Nat.reduceGT, Int.reduceAdd, Int.reduceSub, Int.reduceMul, Int.reduceNeg, Int.reduceLT, Int.reduceLE, Int.reduceEq, Int.reduceToNat, reduceIte, weak_int, weak_same]
            omega
          · rw [hsucc, List.map_append]
            exact congrArg (fun r => some (MObj.row 49 5 r)) (app_flat _ _ [(m.getD k nd0).c] _ _ (by rw [List.length_map]) rfl)
    · have : k = m.length := by omega
      subst this
      repeat' (first | ((with_reducible refine wN fun nl hnl => ?_); revert hnl; (repeat with_reducible refine wS fun _ _ => ?_); intro hnl) | (with_reducible first | refine mdraw_plain mixed (by decide +kernel) ?_ | refine wI (fun h => ?_) (fun h => ?_) | refine wF (fun h => ?_) (fun h => ?_) | refine wG (fun h => ?_) (fun h => ?_) | refine wH (fun h => ?_) (fun h => ?_)) | (with_reducible refine mfork_bool (fun h => ?_) (fun h => ?_) <;> simp only [h]) | (with_reducible refine mgfork_bool (fun h => ?_) (fun h => ?_) <;> simp only [h]) | (simp (config := { maxSteps := 4000000 }) (disch := first | decide | assumption | omega | (simp only [wL]; omega)) only [go_sem, Nat.reduceAdd, Nat.reduceSub, Nat.reduceMul, Nat.reduceDiv, Nat.reduceMod, Nat.reduceLT, Nat.reduceLeDiff, Nat.reduceEqDiff, Nat.reduceSucc, Nat.reduceGT, Int.reduceAdd, Int.reduceSub, Int.reduceMul, Int.reduceNeg, Int.reduceLT, Int.reduceLE, Int.reduceEq, Int.reduceToNat, reduceIte, List.take_length]))
      refine use_frame (sort_call q (m.filter isAtom) (Nat.le_trans (List.length_filter_le ..) hml) ex) (St.le_refl _) ?_
      rintro v σ' ⟨rfl, ys, hperm, hsort, rfl⟩ -
      have hyl := hperm.length_eq
      repeat' (first | ((with_reducible refine wN fun nl hnl => ?_); revert hnl; (repeat with_reducible refine wS fun _ _ => ?_); intro hnl) | (with_reducible first | refine mdraw_plain mixed (by decide +kernel) ?_ | refine wI (fun h => ?_) (fun h => ?_) | refine wF (fun h => ?_) (fun h => ?_) | refine wG (fun h => ?_) (fun h => ?_) | refine wH (fun h => ?_) (fun h => ?_)) | (with_reducible refine mfork_bool (fun h => ?_) (fun h => ?_) <;> simp only [h]) | (with_reducible refine mgfork_bool (fun h => ?_) (fun h => ?_) <;> simp only [h]) | (simp (config := { maxSteps := 4000000 }) (disch := first | decide | assumption | omega | (simp only [wL]; omega)) only [go_sem, Nat.reduceAdd, Nat.reduceSub, Nat.reduceMul, Nat.reduceDiv, Nat.reduceMod, Nat.reduceLT, Nat.reduceLeDiff, Nat.reduceEqDiff, Nat.reduceSucc, Nat.reduceGT, Int.reduceAdd, Int.reduceSub, Int.reduceMul, Int.reduceNeg, Int.reduceLT, Int.reduceLE, Int.reduceEq, Int.reduceToNat, reduceIte, over_set, over_none, minus_set, minus_none, hyl.symm]))
      have hy2 : ys.length ≤ 1000000 := by rw [hyl]; exact Nat.le_trans (List.length_filter_le ..) hml
      refine use_frame (compact_call q ys hy2 ex) (St.le_refl _) ?_
      rintro v σ' ⟨ex', rfl, rfl⟩ -
      rw [comp_atoms hperm hsort]
      repeat' (first | ((with_reducible refine wN fun nl hnl => ?_); revert hnl; (repeat with_reducible refine wS fun _ _ => ?_); intro hnl) | (with_reducible first | refine mdraw_plain mixed (by decide +kernel) ?_ | refine wI (fun h => ?_) (fun h => ?_) | refine wF (fun h => ?_) (fun h => ?_) | refine wG (fun h => ?_) (fun h => ?_) | refine wH (fun h => ?_) (fun h => ?_)) | (with_reducible refine mfork_bool (fun h => ?_) (fun h => ?_) <;> simp only [h]) | (with_reducible refine mgfork_bool (fun h => ?_) (fun h => ?_) <;> simp only [h]) | (simp (config := { maxSteps := 4000000 }) (disch := first | decide | assumption | omega | (simp only [wL]; omega)) only [go_sem, Nat.reduceAdd, Nat.reduceSub, Nat.reduceMul, Nat.reduceDiv, Nat.reduceMod, Nat.reduceLT, Nat.reduceLeDiff, Nat.reduceEqDiff, Nat.reduceSucc, Nat.reduceGT, Int.reduceAdd, Int.reduceSub, Int.reduceMul, Int.reduceNeg, Int.reduceLT, Int.reduceLE, Int.reduceEq, Int.reduceToNat, reduceIte, over_set, over_none, minus_set, minus_none]))
      have hv := View.vec (σ := St.none.set q (.row 49 5 ((atomsS m).map ND.c ++ ex'))) (l := q) (lo := 0) (n := (atomsS m).length) (set_hit _ _ _) (by rw [List.length_append, List.length_map]; omega)
      have e : (((atomsS m).map ND.c ++ ex').drop 0).take (atomsS m).length = (atomsS m).map ND.c := by
        rw [List.drop_zero, List.take_append_of_le_length (by rw [List.length_map]; omega), List.take_of_length_le (by rw [List.length_map]; omega)]
      rw [e] at hv
      exact hv
end Go.Proofs.Ytielcgplbnlgbaa
end

section
/- Contracts of the reference's atom and Has: the conditions that the theorems name. -/
set_option linter.unusedVariables false
set_option linter.unusedSimpArgs false
namespace Go.Proofs.Ytielcgplbnlgbaa

theorem ratom_call (x : ND) : MCalls Try.prog 35 [.agg x.c] St.none (fun r _ => r = .bool (atomR x)) := by
  refine (MCalls.body 11 [.tmp 2] Try.func35 rfl rfl rfl rfl ?_)
  obtain ⟨op, n, kd, vn, s⟩ := x
  repeat' (first | ((with_reducible refine wN fun nl hnl => ?_); revert hnl; (repeat with_reducible refine wS fun _ _ => ?_); intro hnl) | (with_reducible first | refine mdraw_plain mixed (by decide +kernel) ?_ | refine wI (fun h => ?_) (fun h => ?_) | refine wF (fun h => ?_) (fun h => ?_) | refine wG (fun h => ?_) (fun h => ?_) | refine wH (fun h => ?_) (fun h => ?_)) | (with_reducible refine mfork_bool (fun h => ?_) (fun h => ?_) <;> simp only [h]) | (with_reducible refine mgfork_bool (fun h => ?_) (fun h => ?_) <;> simp only [h]) | (simp (config := { maxSteps := 4000000 }) (disch := first | decide | assumption | omega | (simp only [wL]; omega)) only [go_sem, Nat.reduceAdd, Nat.reduceSub, Nat.reduceMul, Nat.reduceDiv, Nat.reduceMod, Nat.reduceLT, Nat.reduceLeDiff, Nat.reduceEqDiff, Nat.reduceSucc, Nat.reduceGT, Int.reduceAdd, Int.reduceSub, Int.reduceMul, Int.reduceNeg, Int.reduceLT, Int.reduceLE, Int.reduceEq, Int.reduceToNat, reduceIte, Try.f35]))
  all_goals simp [atomR, *]
  all_goals omega

/-- Bit n of s. -/
def hasB (s : Nat) (n : Int) : Bool := decide (0 ≤ n ∧ n ≤ 31 ∧ s / 2 ^ n.toNat % 2 = 1)

theorem half_pow (s : Nat) (k : Nat) : s / 2 ^ k / 2 = s / 2 ^ (k + 1) := by
  rw [Nat.pow_succ, Nat.div_div_eq_div_mul]

set_option maxHeartbeats 2000000 in
theorem rhas_call (s : Nat) (n : Int) (h1 : s < 4294967296) : MCalls Try.prog 47 [.int .u32 (s : Int), .int .i64 n] St.none (fun r _ => r = .bool (hasB s n)) := by
  refine (MCalls.body 22 [.tmp 4] Try.func47 rfl rfl rfl rfl ?_)
  by_cases hn : n < 0 ∨ 31 < n
  · repeat' (first | ((with_reducible refine wN fun nl hnl => ?_); revert hnl; (repeat with_reducible refine wS fun _ _ => ?_); intro hnl) | (with_reducible first | refine mdraw_plain mixed (by decide +kernel) ?_ | refine wI (fun h => ?_) (fun h => ?_) | refine wF (fun h => ?_) (fun h => ?_) | refine wG (fun h => ?_) (fun h => ?_) | refine wH (fun h => ?_) (fun h => ?_)) | (with_reducible refine mfork_bool (fun h => ?_) (fun h => ?_) <;> simp only [h]) | (with_reducible refine mgfork_bool (fun h => ?_) (fun h => ?_) <;> simp only [h]) | (simp (config := { maxSteps := 4000000 }) (disch := first | decide | assumption | omega | (simp only [wL]; omega)) only [go_sem, Nat.reduceAdd, Nat.reduceSub, Nat.reduceMul, Nat.reduceDiv, Nat.reduceMod, Nat.reduceLT, Nat.reduceLeDiff, Nat.reduceEqDiff, Nat.reduceSucc, Nat.reduceGT, Int.reduceAdd, Int.reduceSub, Int.reduceMul, Int.reduceNeg, Int.reduceLT, Int.reduceLE, Int.reduceEq, Int.reduceToNat, reduceIte, Try.f47]))
    all_goals simp only [hasB, MV.bool.injEq, Bool.false_eq, decide_eq_false_iff_not]
    all_goals omega
  · obtain ⟨m, rfl⟩ : ∃ m : Nat, n = m := ⟨n.toNat, by omega⟩
    repeat' (first | ((with_reducible refine wN fun nl hnl => ?_); revert hnl; (repeat with_reducible refine wS fun _ _ => ?_); intro hnl) | (with_reducible first | refine mdraw_plain mixed (by decide +kernel) ?_ | refine wI (fun h => ?_) (fun h => ?_) | refine wF (fun h => ?_) (fun h => ?_) | refine wG (fun h => ?_) (fun h => ?_) | refine wH (fun h => ?_) (fun h => ?_)) | (with_reducible refine mfork_bool (fun h => ?_) (fun h => ?_) <;> simp only [h]) | (with_reducible refine mgfork_bool (fun h => ?_) (fun h => ?_) <;> simp only [h]) | (simp (config := { maxSteps := 4000000 }) (disch := first | decide | assumption | omega | (simp only [wL]; omega)) only [go_sem, Nat.reduceAdd, Nat.reduceSub, Nat.reduceMul, Nat.reduceDiv, Nat.reduceMod, Nat.reduceLT, Nat.reduceLeDiff, Nat.reduceEqDiff, Nat.reduceSucc, Nat.reduceGT, Int.reduceAdd, Int.reduceSub, Int.reduceMul, Int.reduceNeg, Int.reduceLT, Int.reduceLE, Int.reduceEq, Int.reduceToNat, reduceIte, Try.f47]))
    refine mloop_intro (α := Nat) (fun a => ⟨22, [(5, .int .i64 (a : Int)), (0, .int .u32 ((s / 2 ^ a : Nat) : Int)), (1, .int .i64 (m : Int))], []⟩) (fun _ => St.none)
      (fun a => a ≤ m) (fun a => m - a) (.of (.less ?_ (St.le_refl _)) ⟨0, rfl, rfl, Nat.zero_le _⟩) ?_
    · simp (config := { maxSteps := 4000000 }) (disch := first | decide | assumption | omega | (simp only [wL]; omega)) only [go_sem, Nat.reduceAdd, Nat.reduceSub, Nat.reduceMul, Nat.reduceDiv, Nat.reduceMod, Nat.reduceLT, Nat.reduceLeDiff, Nat.reduceEqDiff, Nat.reduceSucc, Nat.reduceGT, Int.reduceAdd, Int.reduceSub, Int.reduceMul, Int.reduceNeg, Int.reduceLT, Int.reduceLE, Int.reduceEq, Int.reduceToNat, reduceIte, weak_int, weak_same, Nat.pow_zero, Nat.div_one]
      rfl
    · intro k hk
      have hk : k ≤ m := hk
      have hb : s / 2 ^ k < 4294967296 := Nat.lt_of_le_of_lt (Nat.div_le_self ..) h1
      by_cases hlt : k < m
      · repeat' (first | ((with_reducible refine wN fun nl hnl => ?_); revert hnl; (repeat with_reducible refine wS fun _ _ => ?_); intro hnl) | (with_reducible first | refine mdraw_plain mixed (by decide +kernel) ?_ | refine wI (fun h => ?_) (fun h => ?_) | refine wF (fun h => ?_) (fun h => ?_) | refine wG (fun h => ?_) (fun h => ?_) | refine wH (fun h => ?_) (fun h => ?_)) | (with_reducible refine mfork_bool (fun h => ?_) (fun h => ?_) <;> simp only [h]) | (with_reducible refine mgfork_bool (fun h => ?_) (fun h => ?_) <;> simp only [h]) | (simp (config := { maxSteps := 4000000 }) (disch := first | decide | assumption | omega | (simp only [wL]; omega)) only [go_sem, Nat.reduceAdd, Nat.reduceSub, Nat.reduceMul, Nat.reduceDiv, Nat.reduceMod, Nat.reduceLT, Nat.reduceLeDiff, Nat.reduceEqDiff, Nat.reduceSucc, Nat.reduceGT, Int.reduceAdd, Int.reduceSub, Int.reduceMul, Int.reduceNeg, Int.reduceLT, Int.reduceLE, Int.reduceEq, Int.reduceToNat, reduceIte, Nat.add_zero]))
        refine .of (.less (l1 := [(5, .int .i64 ((k + 1 : Nat) : Int)), (0, .int .u32 ((s / 2 ^ (k + 1) : Nat) : Int)), (1, .int .i64 (m : Int))]) ?_ (St.le_refl _)) ⟨k + 1, rfl, rfl, by omega, by omega⟩
        rw [← half_pow]
        have ew : IntKind.u32.wrap (((s / 2 ^ k : Nat) : Int).tdiv 2) = ((s / 2 ^ k / 2 : Nat) : Int) := by
          generalize s / 2 ^ k = w at hb ⊢
          have e2 : ((w : Int)).tdiv 2 = ((w / 2 : Nat) : Int) := by
            rw [Int.tdiv_eq_ediv_of_nonneg (by omega)]
            omega
          rw [e2]
          simp only [IntKind.wrap, IntKind.signed, IntKind.bits]
          simp
          omega
        simp (config := { maxSteps := 4000000 }) (disch := first | decide | assumption | omega | (simp only [wL]; omega)) only [go_sem, Nat.reduceAdd, Nat.reduceSub, Nat.reduceMul, Nat.reduceDiv, Nat.reduceMod, Nat.reduceLT, Nat.reduceLeDiff, Nat.reduceEqDiff, Nat.reduceSucc, Nat.reduceGT, Int.reduceAdd, Int.reduceSub, Int.reduceMul, Int.reduceNeg, Int.reduceLT, Int.reduceLE, Int.reduceEq, Int.reduceToNat, reduceIte, weak_int, weak_same, ew]
        all_goals rfl
      · have : k = m := by omega
        subst this
        repeat' (first | ((with_reducible refine wN fun nl hnl => ?_); revert hnl; (repeat with_reducible refine wS fun _ _ => ?_); intro hnl) | (with_reducible first | refine mdraw_plain mixed (by decide +kernel) ?_ | refine wI (fun h => ?_) (fun h => ?_) | refine wF (fun h => ?_) (fun h => ?_) | refine wG (fun h => ?_) (fun h => ?_) | refine wH (fun h => ?_) (fun h => ?_)) | (with_reducible refine mfork_bool (fun h => ?_) (fun h => ?_) <;> simp only [h]) | (with_reducible refine mgfork_bool (fun h => ?_) (fun h => ?_) <;> simp only [h]) | (simp (config := { maxSteps := 4000000 }) (disch := first | decide | assumption | omega | (simp only [wL]; omega)) only [go_sem, Nat.reduceAdd, Nat.reduceSub, Nat.reduceMul, Nat.reduceDiv, Nat.reduceMod, Nat.reduceLT, Nat.reduceLeDiff, Nat.reduceEqDiff, Nat.reduceSucc, Nat.reduceGT, Int.reduceAdd, Int.reduceSub, Int.reduceMul, Int.reduceNeg, Int.reduceLT, Int.reduceLE, Int.reduceEq, Int.reduceToNat, reduceIte]))
        simp only [hasB, Int.toNat_natCast, MV.bool.injEq]
        have e2 : (((s / 2 ^ k : Nat) : Int).tmod 2) = ((s / 2 ^ k % 2 : Nat) : Int) := by
          generalize s / 2 ^ k = w at hb ⊢
          rw [Int.tmod_eq_emod_of_nonneg (by omega)]
          omega
        refine decide_eq_decide.mpr ?_
        rw [e2]
        generalize s / 2 ^ k % 2 = w
        omega

theorem cmpF_one (x y : ND) : cmpF [x] [y] = cmpL x.key y.key := by
  simp only [cmpF]
  cases h : cmpL x.key y.key <;> simp_all

theorem insN_len (x : ND) : ∀ l : List ND, (insN x l).length ≤ l.length + 1
  | [] => by simp [insN]
  | y :: l => by
    have := insN_len x l
    simp only [insN]
    repeat' split
    all_goals simp
    all_goals omega

theorem foldl_len : ∀ (l acc : List ND), (l.foldl (fun acc x => insN x acc) acc).length ≤ acc.length + l.length
  | [], acc => by simp
  | x :: l, acc => by
    have h1 := foldl_len l (insN x acc)
    have h2 := insN_len x acc
    simp only [List.foldl_cons, List.length_cons]
    omega

theorem mem_foldl {z : ND} : ∀ {l acc : List ND}, z ∈ l.foldl (fun acc x => insN x acc) acc → z ∈ acc ∨ z ∈ l
  | [], acc, h => .inl h
  | x :: l, acc, h => by
    rcases mem_foldl (l := l) h with h | h
    · rcases mem_insN.1 h with h | h
      · exact .inr (List.mem_cons.2 (.inl h))
      · exact .inl h
    · exact .inr (List.mem_cons.2 (.inr h))

theorem insN_pos (x : ND) : ∀ (l : List ND) (i : Nat), i ≤ l.length → (∀ q, q < i → lessK (l.getD q nd0).key x.key) → insN x l = l.take i ++ insN x (l.drop i)
  | l, 0, _, _ => by simp
  | [], i + 1, h, _ => by simp at h
  | y :: l, i + 1, h, hq => by
    have h0 := hq 0 (by omega)
    have ih := insN_pos x l i (by simp at h; omega) (fun q hlt => by have := hq (q + 1) (by omega); simpa using this)
    simp only [List.getD_cons_zero] at h0
    rw [List.take_succ_cons, List.drop_succ_cons, List.cons_append, ← ih]
    simp only [insN]
    rw [if_pos h0]
end Go.Proofs.Ytielcgplbnlgbaa
end

section
/- Contracts of the document's Says: the conditions that the theorem names. -/
set_option linter.unusedVariables false
set_option linter.unusedSimpArgs false
namespace Go.Proofs.Ytielcgplbnlgbaa

theorem hasB_bit {s i : Nat} (h : i ≤ 31) : hasB s (i : Int) = s.testBit i := by
  rw [hasB, Nat.testBit_eq_decide_div_mod_eq, Int.toNat_natCast]
  exact decide_eq_decide.mpr ⟨fun h => h.2.2, fun h => ⟨by omega, by omega, h⟩⟩

theorem asg_at {l : List ND} (h : Rising (l.map ND.key)) {i : Nat} (hi : i < l.length) (on : Nat) : asg l on (l.getD i nd0) = on.testBit i := by
  have hp : posK l (l.getD i nd0) = i := posK_eq (Nat.le_of_lt hi) (fun q hq => rising_lt h hq hi) (fun q hq hl => by
    rcases Nat.lt_or_ge i q with h1 | h1
    · exact lessK_asymm (rising_lt h h1 hl)
    · rw [show q = i by omega]; exact lessK_irrefl)
  rw [asg, hp, decide_eq_true (getD_mem nd0 hi), Bool.true_and]

theorem not_mem_of {l : List ND} {x : ND} (h : ∀ q, q < l.length → l.getD q nd0 ≠ x) : ¬ x ∈ l := fun hx => by
  obtain ⟨q, hq, e⟩ := List.mem_iff_getElem.1 hx
  exact h q hq (by rw [getD_of_lt nd0 hq]; exact e)

set_option maxHeartbeats 8000000 in
theorem rsays_call (al : List ND) (la : al.length ≤ 32) (hr : Rising (al.map ND.key)) (ta : Bool) (on : Nat) (hon : on < 4294967296) : ∀ (t : T), t.ok → t.fl.length ≤ 1000 → ∀ (tt : Bool),
    MCalls Try.prog 25 [.lst 5 (t.fl.map ND.c) tt, .lst 5 (al.map ND.c) ta, .int .u32 (on : Int)] St.none (fun r _ => r = .bool (t.sem (asg al on)))
  | .leaf x, h, hl, tt => by
    refine (MCalls.body 81 [.tmp 6] Try.func25 rfl rfl rfl rfl ?_)
    have hk := rkids_call (.leaf x) h hl tt
    have hp : x.op ≠ 10 ∧ x.op ≠ 11 ∧ x.op ≠ 12 := by
      refine ⟨fun e => ?_, fun e => ?_, fun e => ?_⟩ <;> (simp only [T.ok, e] at h; revert h; decide)
    obtain ⟨p1, p2, p3⟩ := hp
    simp only [T.fl, T.kl, T.kids, List.map_cons, List.map_nil] at hk ⊢
    by_cases h1 : x.op = 1
    · repeat' (first | (with_reducible refine use_pure hk ?_) | ((with_reducible refine wT ?_); (with_reducible refine wN fun _ hnl => ?_); revert hnl; (repeat with_reducible refine wS fun _ _ => ?_); intro hnl) | (with_reducible first | refine mdraw_plain mixed (by decide +kernel) ?_ | refine wI (fun h => ?_) (fun h => ?_) | refine wF (fun h => ?_) (fun h => ?_) | refine wG (fun h => ?_) (fun h => ?_) | refine wH (fun h => ?_) (fun h => ?_)) | (with_reducible refine mfork_bool (fun h => ?_) (fun h => ?_) <;> simp only [h]) | (with_reducible refine mgfork_bool (fun h => ?_) (fun h => ?_) <;> simp only [h]) | (simp (config := { maxSteps := 4000000 }) (disch := first | decide | assumption | omega | (simp only [wL]; omega)) only [go_sem, Nat.reduceAdd, Nat.reduceSub, Nat.reduceMul, Nat.reduceDiv, Nat.reduceMod, Nat.reduceLT, Nat.reduceLeDiff, Nat.reduceEqDiff, Nat.reduceSucc, Nat.reduceGT, Int.reduceAdd, Int.reduceSub, Int.reduceMul, Int.reduceNeg, Int.reduceLT, Int.reduceLE, Int.reduceEq, Int.reduceToNat, reduceIte, Try.f25]))
      simp [T.sem, h1]
    · by_cases h2 : x.op = 2
      · repeat' (first | (with_reducible refine use_pure hk ?_) | ((with_reducible refine wT ?_); (with_reducible refine wN fun _ hnl => ?_); revert hnl; (repeat with_reducible refine wS fun _ _ => ?_); intro hnl) | (with_reducible first | refine mdraw_plain mixed (by decide +kernel) ?_ | refine wI (fun h => ?_) (fun h => ?_) | refine wF (fun h => ?_) (fun h => ?_) | refine wG (fun h => ?_) (fun h => ?_) | refine wH (fun h => ?_) (fun h => ?_)) | (with_reducible refine mfork_bool (fun h => ?_) (fun h => ?_) <;> simp only [h]) | (with_reducible refine mgfork_bool (fun h => ?_) (fun h => ?_) <;> simp only [h]) | (simp (config := { maxSteps := 4000000 }) (disch := first | decide | assumption | omega | (simp only [wL]; omega)) only [go_sem, Nat.reduceAdd, Nat.reduceSub, Nat.reduceMul, Nat.reduceDiv, Nat.reduceMod, Nat.reduceLT, Nat.reduceLeDiff, Nat.reduceEqDiff, Nat.reduceSucc, Nat.reduceGT, Int.reduceAdd, Int.reduceSub, Int.reduceMul, Int.reduceNeg, Int.reduceLT, Int.reduceLE, Int.reduceEq, Int.reduceToNat, reduceIte, Try.f25]))
        simp [T.sem, h1, h2]
      · have e : (T.leaf x).sem (asg al on) = asg al on x := by simp [T.sem, h1, h2]
        rw [e]
        repeat' (first | (with_reducible refine use_pure hk ?_) | ((with_reducible refine wT ?_); (with_reducible refine wN fun _ hnl => ?_); revert hnl; (repeat with_reducible refine wS fun _ _ => ?_); intro hnl) | (with_reducible first | refine mdraw_plain mixed (by decide +kernel) ?_ | refine wI (fun h => ?_) (fun h => ?_) | refine wF (fun h => ?_) (fun h => ?_) | refine wG (fun h => ?_) (fun h => ?_) | refine wH (fun h => ?_) (fun h => ?_)) | (with_reducible refine mfork_bool (fun h => ?_) (fun h => ?_) <;> simp only [h]) | (with_reducible refine mgfork_bool (fun h => ?_) (fun h => ?_) <;> simp only [h]) | (simp (config := { maxSteps := 4000000 }) (disch := first | decide | assumption | omega | (simp only [wL]; omega)) only [go_sem, Nat.reduceAdd, Nat.reduceSub, Nat.reduceMul, Nat.reduceDiv, Nat.reduceMod, Nat.reduceLT, Nat.reduceLeDiff, Nat.reduceEqDiff, Nat.reduceSucc, Nat.reduceGT, Int.reduceAdd, Int.reduceSub, Int.reduceMul, Int.reduceNeg, Int.reduceLT, Int.reduceLE, Int.reduceEq, Int.reduceToNat, reduceIte, Try.f25]))
        refine mloop_intro (α := Nat) (fun i => ⟨81, [(8, .int .i64 (i : Int)), (0, .lst 5 [x.c] tt), (1, .lst 5 (al.map ND.c) ta), (2, .int .u32 (on : Int))], []⟩)
          (fun _ => St.none) (fun i => i ≤ al.length ∧ ∀ q, q < i → al.getD q nd0 ≠ x) (fun i => al.length - i) (.of (.less ?_ (St.le_refl _)) ⟨0, rfl, rfl, Nat.zero_le _, fun q hq => absurd hq (Nat.not_lt_zero _)⟩) ?_
        · simp (config := { maxSteps := 4000000 }) (disch := first | decide | assumption | omega | (simp only [wL]; omega)) only [go_sem, Nat.reduceAdd, Nat.reduceSub, Nat.reduceMul, Nat.reduceDiv, Nat.reduceMod, Nat.reduceLT, Nat.reduceLeDiff, Nat.reduceEqDiff, Nat.reduceSucc, Nat.reduceGT, Int.reduceAdd, Int.reduceSub, Int.reduceMul, Int.reduceNeg, Int.reduceLT, Int.reduceLE, Int.reduceEq, Int.reduceToNat, reduceIte, weak_int, weak_same]
          rfl
        · rintro i ⟨hi, hq⟩
          by_cases hlt : i < al.length
          · have hhas := rhas_call on (i : Int) hon
            rw [hasB_bit (by omega)] at hhas
            repeat' (first | (with_reducible refine use_pure hhas ?_) | ((with_reducible refine wT ?_); (with_reducible refine wN fun _ hnl => ?_); revert hnl; (repeat with_reducible refine wS fun _ _ => ?_); intro hnl) | (with_reducible first | refine mdraw_plain mixed (by decide +kernel) ?_ | refine wI (fun h => ?_) (fun h => ?_) | refine wF (fun h => ?_) (fun h => ?_) | refine wG (fun h => ?_) (fun h => ?_) | refine wH (fun h => ?_) (fun h => ?_)) | (with_reducible refine mfork_bool (fun h => ?_) (fun h => ?_) <;> simp only [h]) | (with_reducible refine mgfork_bool (fun h => ?_) (fun h => ?_) <;> simp only [h]) | (simp (config := { maxSteps := 4000000 }) (disch := first | decide | assumption | omega | (simp only [wL]; omega)) only [go_sem, Nat.reduceAdd, Nat.reduceSub, Nat.reduceMul, Nat.reduceDiv, Nat.reduceMod, Nat.reduceLT, Nat.reduceLeDiff, Nat.reduceEqDiff, Nat.reduceSucc, Nat.reduceGT, Int.reduceAdd, Int.reduceSub, Int.reduceMul, Int.reduceNeg, Int.reduceLT, Int.reduceLE, Int.reduceEq, Int.reduceToNat, reduceIte, getD_mapd nd0]))
            · have := nd_ext h
              rw [← this, asg_at hr hlt]
            · refine .of (.less ?_ (St.le_refl _)) ⟨i + 1, rfl, rfl, ⟨by omega, fun q hq' => ?_⟩, by omega⟩
              · simp (config := { maxSteps := 4000000 }) (disch := first | decide | assumption | omega | (simp only [wL]; omega)) only [go_sem, Nat.reduceAdd, Nat.reduceSub, Nat.reduceMul, Nat.reduceDiv, Nat.reduceMod, Nat.reduceLT, Nat.reduceLeDiff, Nat.reduceEqDiff, Nat.reduceSucc, Nat.reduceGT, Int.reduceAdd, Int.reduceSub, Int.reduceMul, Int.reduceNeg, Int.reduceLT, Int.reduceLE, Int.reduceEq, Int.reduceToNat, reduceIte, weak_int, weak_same]
                rfl
              · rcases Nat.lt_or_ge q i with h3 | h3
                · exact hq q h3
                · rw [show q = i by omega]
                  intro e
                  exact h (by rw [e]; exact ⟨rfl, rfl, rfl, rfl, rfl⟩)
          · have hie : i = al.length := by omega
            subst hie
            repeat' (first | ((with_reducible refine wT ?_); (with_reducible refine wN fun _ hnl => ?_); revert hnl; (repeat with_reducible refine wS fun _ _ => ?_); intro hnl) | (with_reducible first | refine mdraw_plain mixed (by decide +kernel) ?_ | refine wI (fun h => ?_) (fun h => ?_) | refine wF (fun h => ?_) (fun h => ?_) | refine wG (fun h => ?_) (fun h => ?_) | refine wH (fun h => ?_) (fun h => ?_)) | (with_reducible refine mfork_bool (fun h => ?_) (fun h => ?_) <;> simp only [h]) | (with_reducible refine mgfork_bool (fun h => ?_) (fun h => ?_) <;> simp only [h]) | (simp (config := { maxSteps := 4000000 }) (disch := first | decide | assumption | omega | (simp only [wL]; omega)) only [go_sem, Nat.reduceAdd, Nat.reduceSub, Nat.reduceMul, Nat.reduceDiv, Nat.reduceMod, Nat.reduceLT, Nat.reduceLeDiff, Nat.reduceEqDiff, Nat.reduceSucc, Nat.reduceGT, Int.reduceAdd, Int.reduceSub, Int.reduceMul, Int.reduceNeg, Int.reduceLT, Int.reduceLE, Int.reduceEq, Int.reduceToNat, reduceIte, getD_mapd nd0]))
            rw [asg, decide_eq_false (not_mem_of hq), Bool.false_and]
  | .one x a, h, hl, tt => by
    refine (MCalls.body 81 [.tmp 6] Try.func25 rfl rfl rfl rfl ?_)
    have hk := rkids_call (.one x a) h hl tt
    have h1 := parts_one h.1
    have hla : a.fl.length ≤ 1000 := by simp only [T.fl, List.length_cons] at hl; omega
    have ih := rsays_call al la hr ta on hon a h.2 hla false
    simp only [T.fl, T.kl, T.kids, List.map_cons, List.map_nil] at hk ⊢
    repeat' (first | (with_reducible refine use_pure hk ?_) | (with_reducible refine use_pure ih ?_) | ((with_reducible refine wT ?_); (with_reducible refine wN fun _ hnl => ?_); revert hnl; (repeat with_reducible refine wS fun _ _ => ?_); intro hnl) | (with_reducible first | refine mdraw_plain mixed (by decide +kernel) ?_ | refine wI (fun h => ?_) (fun h => ?_) | refine wF (fun h => ?_) (fun h => ?_) | refine wG (fun h => ?_) (fun h => ?_) | refine wH (fun h => ?_) (fun h => ?_)) | (with_reducible refine mfork_bool (fun h => ?_) (fun h => ?_) <;> simp only [h]) | (with_reducible refine mgfork_bool (fun h => ?_) (fun h => ?_) <;> simp only [h]) | (simp (config := { maxSteps := 4000000 }) (disch := first | decide | assumption | omega | (simp only [wL]; omega)) only [go_sem, Nat.reduceAdd, Nat.reduceSub, Nat.reduceMul, Nat.reduceDiv, Nat.reduceMod, Nat.reduceLT, Nat.reduceLeDiff, Nat.reduceEqDiff, Nat.reduceSucc, Nat.reduceGT, Int.reduceAdd, Int.reduceSub, Int.reduceMul, Int.reduceNeg, Int.reduceLT, Int.reduceLE, Int.reduceEq, Int.reduceToNat, reduceIte, Try.f25, h1]))
    simp [T.sem]
  | .two x a b, h, hl, tt => by
    refine (MCalls.body 81 [.tmp 6] Try.func25 rfl rfl rfl rfl ?_)
    have hk := rkids_call (.two x a b) h hl tt
    have hla : a.fl.length ≤ 1000 ∧ b.fl.length ≤ 1000 := by simp only [T.fl, List.length_cons, List.length_append] at hl; omega
    have iha := rsays_call al la hr ta on hon a h.2.1 hla.1 false
    have ihb := rsays_call al la hr ta on hon b h.2.2 hla.2 false
    simp only [T.fl, T.kl, T.kids, List.map_cons, List.map_nil] at hk ⊢
    rcases parts_two h.1 with h1 | h1
    · repeat' (first | (with_reducible refine use_pure hk ?_) | (with_reducible refine use_pure iha ?_) | (with_reducible refine use_pure ihb ?_) | ((with_reducible refine wT ?_); (with_reducible refine wN fun _ hnl => ?_); revert hnl; (repeat with_reducible refine wS fun _ _ => ?_); intro hnl) | (with_reducible first | refine mdraw_plain mixed (by decide +kernel) ?_ | refine wI (fun h => ?_) (fun h => ?_) | refine wF (fun h => ?_) (fun h => ?_) | refine wG (fun h => ?_) (fun h => ?_) | refine wH (fun h => ?_) (fun h => ?_)) | (with_reducible refine mfork_bool (fun h => ?_) (fun h => ?_) <;> simp only [h]) | (with_reducible refine mgfork_bool (fun h => ?_) (fun h => ?_) <;> simp only [h]) | (simp (config := { maxSteps := 4000000 }) (disch := first | decide | assumption | omega | (simp only [wL]; omega)) only [go_sem, Nat.reduceAdd, Nat.reduceSub, Nat.reduceMul, Nat.reduceDiv, Nat.reduceMod, Nat.reduceLT, Nat.reduceLeDiff, Nat.reduceEqDiff, Nat.reduceSucc, Nat.reduceGT, Int.reduceAdd, Int.reduceSub, Int.reduceMul, Int.reduceNeg, Int.reduceLT, Int.reduceLE, Int.reduceEq, Int.reduceToNat, reduceIte, Try.f25, h1]))
      all_goals simp [T.sem, *]
    · repeat' (first | (with_reducible refine use_pure hk ?_) | (with_reducible refine use_pure iha ?_) | (with_reducible refine use_pure ihb ?_) | ((with_reducible refine wT ?_); (with_reducible refine wN fun _ hnl => ?_); revert hnl; (repeat with_reducible refine wS fun _ _ => ?_); intro hnl) | (with_reducible first | refine mdraw_plain mixed (by decide +kernel) ?_ | refine wI (fun h => ?_) (fun h => ?_) | refine wF (fun h => ?_) (fun h => ?_) | refine wG (fun h => ?_) (fun h => ?_) | refine wH (fun h => ?_) (fun h => ?_)) | (with_reducible refine mfork_bool (fun h => ?_) (fun h => ?_) <;> simp only [h]) | (with_reducible refine mgfork_bool (fun h => ?_) (fun h => ?_) <;> simp only [h]) | (simp (config := { maxSteps := 4000000 }) (disch := first | decide | assumption | omega | (simp only [wL]; omega)) only [go_sem, Nat.reduceAdd, Nat.reduceSub, Nat.reduceMul, Nat.reduceDiv, Nat.reduceMod, Nat.reduceLT, Nat.reduceLeDiff, Nat.reduceEqDiff, Nat.reduceSucc, Nat.reduceGT, Int.reduceAdd, Int.reduceSub, Int.reduceMul, Int.reduceNeg, Int.reduceLT, Int.reduceLE, Int.reduceEq, Int.reduceToNat, reduceIte, Try.f25, h1]))
      all_goals simp [T.sem, *]
end Go.Proofs.Ytielcgplbnlgbaa
end

section
/- Contract of the reference's Atoms (UNDER WAY): the conditions that the theorem names. -/
set_option linter.unusedVariables false
set_option linter.unusedSimpArgs false
namespace Go.Proofs.Ytielcgplbnlgbaa

theorem insN_at {acc : List ND} {x : ND} {i : Nat} (hi : i ≤ acc.length) (hq : ∀ q, q < i → lessK (acc.getD q nd0).key x.key) (h1 : i < acc.length → ¬ lessK (acc.getD i nd0).key x.key ∧ acc.getD i nd0 ≠ x) : insN x acc = acc.take i ++ [x] ++ acc.drop i := by
  rw [insN_pos x acc i hi hq, List.append_assoc]
  congr 1
  by_cases h : i < acc.length
  · obtain ⟨h2, h3⟩ := h1 h
    rw [drop_getD nd0 h]
    simp only [insN]
    rw [if_neg h2, if_neg h3]
    rfl
  · rw [List.drop_eq_nil_of_le (by omega)]
    rfl
theorem insN_there {acc : List ND} {x : ND} {i : Nat} (hi : i < acc.length) (hq : ∀ q, q < i → lessK (acc.getD q nd0).key x.key) (h1 : acc.getD i nd0 = x) : insN x acc = acc := by
  rw [insN_pos x acc i (Nat.le_of_lt hi) hq, drop_getD nd0 hi, h1]
  simp only [insN]
  rw [if_neg lessK_irrefl, if_pos trivial, ← h1, ← drop_getD nd0 hi, List.take_append_drop]
theorem ord_less {x y : ND} : ordI (cmpF [x] [y]) < 0 ↔ lessK x.key y.key := by
  rw [cmpF_one]; unfold lessK; cases cmpL x.key y.key <;> simp [ordI]
theorem fold_succ {l : List ND} {k : Nat} (h : k < l.length) (hat : atomR (l.getD k nd0) = true) : ((l.take (k + 1)).filter atomR).foldl (fun acc x => insN x acc) [] = insN (l.getD k nd0) (((l.take k).filter atomR).foldl (fun acc x => insN x acc) []) := by
  rw [getD_of_lt nd0 h] at hat ⊢
  rw [List.take_succ_eq_append_getElem h, List.filter_append, List.foldl_append]
  simp [hat]

set_option maxHeartbeats 4000000 in
theorem ratoms_call (a b : List ND) (ta tb : Bool) (la : a.length ≤ 100000) (lb : b.length ≤ 100000) (ha : ∀ x, x ∈ a → x.v.s.size ≤ 1000000) (hb : ∀ x, x ∈ b → x.v.s.size ≤ 1000000) :
    MCalls Try.prog 14 [.lst 5 (a.map ND.c) ta, .lst 5 (b.map ND.c) tb] St.none (fun r _ => r = .lst 5 ((((a ++ b).filter atomR).foldl (fun acc x => insN x acc) []).map ND.c) false) := by
  refine MCalls.seen (MCalls.body 82 [.tmp 4] Try.func14 rfl rfl rfl rfl ?_)
  repeat' (first | ((with_reducible refine wN fun nl hnl => ?_); revert hnl; (repeat with_reducible refine wS fun _ _ => ?_); intro hnl) | (with_reducible first | refine mdraw_plain mixed (by decide +kernel) ?_ | refine wI (fun h => ?_) (fun h => ?_) | refine wF (fun h => ?_) (fun h => ?_) | refine wG (fun h => ?_) (fun h => ?_) | refine wH (fun h => ?_) (fun h => ?_)) | (with_reducible refine mfork_bool (fun h => ?_) (fun h => ?_) <;> simp only [h]) | (with_reducible refine mgfork_bool (fun h => ?_) (fun h => ?_) <;> simp only [h]) | (simp (config := { maxSteps := 4000000 }) (disch := first | decide | assumption | omega | (simp only [wL]; omega)) only [go_sem, Nat.reduceAdd, Nat.reduceSub, Nat.reduceMul, Nat.reduceDiv, Nat.reduceMod, Nat.reduceLT, Nat.reduceLeDiff, Nat.reduceEqDiff, Nat.reduceSucc, Nat.reduceGT, Int.reduceAdd, Int.reduceSub, Int.reduceMul, Int.reduceNeg, Int.reduceLT, Int.reduceLE, Int.reduceEq, Int.reduceToNat, reduceIte, Try.f14]))
  refine mloop_intro (α := Nat × List ND) (fun a1 => ⟨82, [(7, .int .i64 (a1.1 : Int)), (6, .lst 5 (a1.2.map ND.c) false), (5, .lst 5 ((a ++ b).map ND.c) false)], []⟩)
    (fun _ => St.none) (fun a1 => a1.1 ≤ a.length + b.length ∧ a1.2 = (((a ++ b).take a1.1).filter atomR).foldl (fun acc x => insN x acc) []) (fun a1 => a.length + b.length - a1.1) ?_ ?_
  · refine .step (Ghost.freeze (l1 := [(7, .int .i64 0), (6, .lst 5 [] false), (5, .lst 5 ((a ++ b).map ND.c) false)]) _ (St.le_refl _) (σ1 := St.none) (St.none_le _) (fun k o hk => by cases hk) ?_) (.done ⟨(0, []), rfl, rfl, Nat.zero_le _, rfl⟩)
    simp (config := { maxSteps := 4000000 }) (disch := first | decide | assumption | omega | (simp only [wL]; omega)) only [go_sem, Nat.reduceAdd, Nat.reduceSub, Nat.reduceMul, Nat.reduceDiv, Nat.reduceMod, Nat.reduceLT, Nat.reduceLeDiff, Nat.reduceEqDiff, Nat.reduceSucc, Nat.reduceGT, Int.reduceAdd, Int.reduceSub, Int.reduceMul, Int.reduceNeg, Int.reduceLT, Int.reduceLE, Int.reduceEq, Int.reduceToNat, reduceIte, weak_same]
    exact ⟨.same _, .vecAll (set_hit _ _ _) rfl, .vecAll ((set_miss _ _ _ _ (by assumption)).trans (set_hit _ _ _)) (by simp)⟩
  · rintro ⟨k, acc⟩ ⟨hk, hacc⟩
    simp only at hk hacc ⊢
    by_cases hlt : k < a.length + b.length
    · have hm : (a ++ b).length = a.length + b.length := List.length_append ..
      cases hat : atomR ((a ++ b).getD k nd0)
      · repeat' (first | (with_reducible refine use_pure (ratom_call _) ?_) | ((with_reducible refine wN fun nl hnl => ?_); revert hnl; (repeat with_reducible refine wS fun _ _ => ?_); intro hnl) | (with_reducible first | refine mdraw_plain mixed (by decide +kernel) ?_ | refine wI (fun h => ?_) (fun h => ?_) | refine wF (fun h => ?_) (fun h => ?_) | refine wG (fun h => ?_) (fun h => ?_) | refine wH (fun h => ?_) (fun h => ?_)) | (with_reducible refine mfork_bool (fun h => ?_) (fun h => ?_) <;> simp only [h]) | (with_reducible refine mgfork_bool (fun h => ?_) (fun h => ?_) <;> simp only [h]) | (simp (config := { maxSteps := 4000000 }) (disch := first | decide | assumption | omega | (simp only [wL]; omega)) only [go_sem, Nat.reduceAdd, Nat.reduceSub, Nat.reduceMul, Nat.reduceDiv, Nat.reduceMod, Nat.reduceLT, Nat.reduceLeDiff, Nat.reduceEqDiff, Nat.reduceSucc, Nat.reduceGT, Int.reduceAdd, Int.reduceSub, Int.reduceMul, Int.reduceNeg, Int.reduceLT, Int.reduceLE, Int.reduceEq, Int.reduceToNat, reduceIte, getD_mapd nd0, hat, hm, hlt]))
        refine .of (.less (l1 := [(7, .int .i64 ((k + 1 : Nat) : Int)), (6, .lst 5 (acc.map ND.c) false), (5, .lst 5 ((a ++ b).map ND.c) false)]) ?_ (St.le_refl _)) ⟨(k + 1, acc), rfl, rfl, ⟨by simp only; omega, ?_⟩, by simp only; omega⟩
        · simp (config := { maxSteps := 4000000 }) (disch := first | decide | assumption | omega | (simp only [wL]; omega)) only [go_sem, Nat.reduceAdd, Nat.reduceSub, Nat.reduceMul, Nat.reduceDiv, Nat.reduceMod, Nat.reduceLT, Nat.reduceLeDiff, Nat.reduceEqDiff, Nat.reduceSucc, Nat.reduceGT, Int.reduceAdd, Int.reduceSub, Int.reduceMul, Int.reduceNeg, Int.reduceLT, Int.reduceLE, Int.reduceEq, Int.reduceToNat, reduceIte, weak_int, weak_same]
          rfl
        · simp only
          rw [List.take_succ_eq_append_getElem (by omega), List.filter_append, List.foldl_append, ← hacc]
          rw [getD_of_lt nd0 (by omega)] at hat
          simp [hat]
      · repeat' (first | (with_reducible refine use_pure (ratom_call _) ?_) | ((with_reducible refine wN fun nl hnl => ?_); revert hnl; (repeat with_reducible refine wS fun _ _ => ?_); intro hnl) | (with_reducible first | refine mdraw_plain mixed (by decide +kernel) ?_ | refine wI (fun h => ?_) (fun h => ?_) | refine wF (fun h => ?_) (fun h => ?_) | refine wG (fun h => ?_) (fun h => ?_) | refine wH (fun h => ?_) (fun h => ?_)) | (with_reducible refine mfork_bool (fun h => ?_) (fun h => ?_) <;> simp only [h]) | (with_reducible refine mgfork_bool (fun h => ?_) (fun h => ?_) <;> simp only [h]) | (simp (config := { maxSteps := 4000000 }) (disch := first | decide | assumption | omega | (simp only [wL]; omega)) only [go_sem, Nat.reduceAdd, Nat.reduceSub, Nat.reduceMul, Nat.reduceDiv, Nat.reduceMod, Nat.reduceLT, Nat.reduceLeDiff, Nat.reduceEqDiff, Nat.reduceSucc, Nat.reduceGT, Int.reduceAdd, Int.reduceSub, Int.reduceMul, Int.reduceNeg, Int.reduceLT, Int.reduceLE, Int.reduceEq, Int.reduceToNat, reduceIte, getD_mapd nd0, hat, hm, hlt]))
        refine mloop_intro (α := Nat) (fun i => ⟨82, [(8, .int .i64 (i : Int)), (7, .int .i64 (k : Int)), (6, .lst 5 (acc.map ND.c) false), (5, .lst 5 ((a ++ b).map ND.c) false)], []⟩)
          (fun _ => St.none) (fun i => i ≤ acc.length ∧ ∀ q, q < i → lessK (acc.getD q nd0).key ((a ++ b).getD k nd0).key) (fun i => acc.length - i) (.of (.less ?_ (St.le_refl _)) ⟨0, rfl, rfl, Nat.zero_le _, by omega⟩) ?_
        · simp (config := { maxSteps := 4000000 }) (disch := first | decide | assumption | omega | (simp only [wL]; omega)) only [go_sem, Nat.reduceAdd, Nat.reduceSub, Nat.reduceMul, Nat.reduceDiv, Nat.reduceMod, Nat.reduceLT, Nat.reduceLeDiff, Nat.reduceEqDiff, Nat.reduceSucc, Nat.reduceGT, Int.reduceAdd, Int.reduceSub, Int.reduceMul, Int.reduceNeg, Int.reduceLT, Int.reduceLE, Int.reduceEq, Int.reduceToNat, reduceIte, weak_int, weak_same]
          rfl
        · rintro i ⟨hi, hq⟩
          have hkl : k < (a ++ b).length := by omega
          have hal : acc.length ≤ 200000 := by
            have h1 := foldl_len (((a ++ b).take k).filter atomR) []
            have h2 := List.length_filter_le atomR ((a ++ b).take k)
            have h3 : ((a ++ b).take k).length ≤ k := by rw [List.length_take]; omega
            rw [← hacc] at h1
            simp only [List.length_nil] at h1
            omega
          by_cases hia : i < acc.length
          · have hsz : ∀ x, x ∈ a ++ b → x.v.s.size ≤ 1000000 := fun x hx => (List.mem_append.1 hx).elim (ha x) (hb x)
            have hin : ∀ x, x ∈ acc → x ∈ a ++ b := fun x hx => by
              rw [hacc] at hx
              rcases mem_foldl hx with h | h
              · cases h
              · exact List.mem_of_mem_take (List.mem_filter.1 h).1
            have hrc := rcompare_call [acc.getD i nd0] [(a ++ b).getD k nd0] (by simp) (by simp) (fun x hx => by rw [List.mem_singleton.1 hx]; exact hsz _ (hin _ (by rw [getD_of_lt nd0 hia]; exact List.getElem_mem hia))) (fun x hx => by rw [List.mem_singleton.1 hx]; exact hsz _ (by rw [getD_of_lt nd0 (by omega)]; exact List.getElem_mem _)) (false && decide (i + 1 = acc.length)) (false && decide (k + 1 = a.length + b.length))
            simp only [List.map_cons, List.map_nil] at hrc
            have one : ∀ (l : List ND) (q : Nat), q < l.length → (l.take (q + 1)).drop q = [l.getD q nd0] := fun l q h => by
              rw [List.take_succ_eq_append_getElem h, List.drop_append_of_le_length (by simp; omega), List.drop_of_length_le (by simp; omega), getD_of_lt nd0 h]; rfl
            have hd1 := one acc i hia
            have hd2 := one (a ++ b) k hkl
            repeat' (first | ((with_reducible refine wN fun nl hnl => ?_); revert hnl; (repeat with_reducible refine wS fun _ _ => ?_); intro hnl) | (with_reducible first | refine mdraw_plain mixed (by decide +kernel) ?_ | refine wI (fun h => ?_) (fun h => ?_) | refine wF (fun h => ?_) (fun h => ?_) | refine wG (fun h => ?_) (fun h => ?_) | refine wH (fun h => ?_) (fun h => ?_)) | (with_reducible refine mfork_bool (fun h => ?_) (fun h => ?_) <;> simp only [h]) | (with_reducible refine mgfork_bool (fun h => ?_) (fun h => ?_) <;> simp only [h]) | (simp (config := { maxSteps := 4000000 }) (disch := first | decide | assumption | omega | (simp only [wL]; omega)) only [go_sem, Nat.reduceAdd, Nat.reduceSub, Nat.reduceMul, Nat.reduceDiv, Nat.reduceMod, Nat.reduceLT, Nat.reduceLeDiff, Nat.reduceEqDiff, Nat.reduceSucc, Nat.reduceGT, Int.reduceAdd, Int.reduceSub, Int.reduceMul, Int.reduceNeg, Int.reduceLT, Int.reduceLE, Int.reduceEq, Int.reduceToNat, reduceIte, getD_mapd nd0, hm]))
            refine mdraw_know mixed (by decide +kernel) (fun g ms => if g = 36 then some ⟨[], fun v => v = .int .i64 (ordI (cmpF [acc.getD i nd0] [(a ++ b).getD k nd0])), none⟩ else none) ?_
            repeat' (first | (with_reducible refine know_pure rfl hrc ?_) | ((with_reducible refine wN fun nl hnl => ?_); revert hnl; (repeat with_reducible refine wS fun _ _ => ?_); intro hnl) | (with_reducible first | refine mdraw_plain mixed (by decide +kernel) ?_ | refine wI (fun h => ?_) (fun h => ?_) | refine wF (fun h => ?_) (fun h => ?_) | refine wG (fun h => ?_) (fun h => ?_) | refine wH (fun h => ?_) (fun h => ?_)) | (with_reducible refine mfork_bool (fun h => ?_) (fun h => ?_) <;> simp only [h]) | (with_reducible refine mgfork_bool (fun h => ?_) (fun h => ?_) <;> simp only [h]) | (simp (config := { maxSteps := 4000000 }) (disch := first | decide | assumption | omega | (simp only [wL]; omega)) only [go_sem, Nat.reduceAdd, Nat.reduceSub, Nat.reduceMul, Nat.reduceDiv, Nat.reduceMod, Nat.reduceLT, Nat.reduceLeDiff, Nat.reduceEqDiff, Nat.reduceSucc, Nat.reduceGT, Int.reduceAdd, Int.reduceSub, Int.reduceMul, Int.reduceNeg, Int.reduceLT, Int.reduceLE, Int.reduceEq, Int.reduceToNat, reduceIte, getD_mapd nd0, hm, hd1, hd2]))
            · refine .of (.less ?_ (St.le_refl _)) ⟨i + 1, rfl, rfl, ⟨by omega, fun q hq' => ?_⟩, by omega⟩
              · simp (config := { maxSteps := 4000000 }) (disch := first | decide | assumption | omega | (simp only [wL]; omega)) only [go_sem, Nat.reduceAdd, Nat.reduceSub, Nat.reduceMul, Nat.reduceDiv, Nat.reduceMod, Nat.reduceLT, Nat.reduceLeDiff, Nat.reduceEqDiff, Nat.reduceSucc, Nat.reduceGT, Int.reduceAdd, Int.reduceSub, Int.reduceMul, Int.reduceNeg, Int.reduceLT, Int.reduceLE, Int.reduceEq, Int.reduceToNat, reduceIte, weak_int, weak_same]
                all_goals rfl
              · rcases Nat.lt_or_ge q i with hlt' | hge
                · exact hq q hlt'
                · have : q = i := by omega
                  subst this
                  exact ord_less.1 h
            · refine .of (.less ?_ (St.le_refl _)) ⟨(k + 1, acc), rfl, rfl, ⟨by simp only; omega, ?_⟩, by simp only; omega⟩
              · simp (config := { maxSteps := 4000000 }) (disch := first | decide | assumption | omega | (simp only [wL]; omega)) only [go_sem, Nat.reduceAdd, Nat.reduceSub, Nat.reduceMul, Nat.reduceDiv, Nat.reduceMod, Nat.reduceLT, Nat.reduceLeDiff, Nat.reduceEqDiff, Nat.reduceSucc, Nat.reduceGT, Int.reduceAdd, Int.reduceSub, Int.reduceMul, Int.reduceNeg, Int.reduceLT, Int.reduceLE, Int.reduceEq, Int.reduceToNat, reduceIte, weak_int, weak_same]
                all_goals rfl
              · simp only
                rw [fold_succ hkl hat, ← hacc, insN_there hia hq (nd_ext h)]
            · have hnl : ¬ ordI (cmpF [acc.getD i nd0] [(a ++ b).getD k nd0]) < 0 := by assumption
              have hins := insN_at hi hq (fun _ => ⟨fun hl => hnl (ord_less.2 hl), fun e => h (by rw [e]; exact ⟨rfl, rfl, rfl, rfl, rfl⟩)⟩)
              refine .of (Ghost.freeze _ (St.le_refl _) (St.none_le _) (fun k o hk => by cases hk) ?_) ⟨(k + 1, insN ((a ++ b).getD k nd0) acc), rfl, rfl, ⟨by simp only; omega, ?_⟩, by simp only; omega⟩
              · have e : (insN ((a ++ b).getD k nd0) acc).map ND.c = List.map ND.c (List.take i acc) ++ [((a ++ b).getD k nd0).c] ++ List.map ND.c (List.drop i acc) := by
                  rw [hins, List.map_append, List.map_append]; rfl
                simp only [e]
                intro p hp
                simp only [List.mem_cons, List.not_mem_nil, or_false] at hp
                rcases hp with rfl | rfl | rfl
                · exact .same _
                · exact .vecAll (set_hit _ _ _) (by simp only [List.length_append, List.length_map, List.length_take, List.length_drop, List.length_cons, List.length_nil])
                · exact .same _
              · simp only
                rw [fold_succ hkl hat, ← hacc]
          · have hia' : i = acc.length := by omega
            subst hia'
            have hins := insN_at hi hq (fun h => absurd h hia)
            repeat' (first | ((with_reducible refine wN fun nl hnl => ?_); revert hnl; (repeat with_reducible refine wS fun _ _ => ?_); intro hnl) | (with_reducible first | refine mdraw_plain mixed (by decide +kernel) ?_ | refine wI (fun h => ?_) (fun h => ?_) | refine wF (fun h => ?_) (fun h => ?_) | refine wG (fun h => ?_) (fun h => ?_) | refine wH (fun h => ?_) (fun h => ?_)) | (with_reducible refine mfork_bool (fun h => ?_) (fun h => ?_) <;> simp only [h]) | (with_reducible refine mgfork_bool (fun h => ?_) (fun h => ?_) <;> simp only [h]) | (simp (config := { maxSteps := 4000000 }) (disch := first | decide | assumption | omega | (simp only [wL]; omega)) only [go_sem, Nat.reduceAdd, Nat.reduceSub, Nat.reduceMul, Nat.reduceDiv, Nat.reduceMod, Nat.reduceLT, Nat.reduceLeDiff, Nat.reduceEqDiff, Nat.reduceSucc, Nat.reduceGT, Int.reduceAdd, Int.reduceSub, Int.reduceMul, Int.reduceNeg, Int.reduceLT, Int.reduceLE, Int.reduceEq, Int.reduceToNat, reduceIte, getD_mapd nd0, hm]))
            refine mdraw_know mixed (by decide +kernel) (fun g ms => none) ?_
            repeat' (first | ((with_reducible refine wN fun nl hnl => ?_); revert hnl; (repeat with_reducible refine wS fun _ _ => ?_); intro hnl) | (with_reducible first | refine mdraw_plain mixed (by decide +kernel) ?_ | refine wI (fun h => ?_) (fun h => ?_) | refine wF (fun h => ?_) (fun h => ?_) | refine wG (fun h => ?_) (fun h => ?_) | refine wH (fun h => ?_) (fun h => ?_)) | (with_reducible refine mfork_bool (fun h => ?_) (fun h => ?_) <;> simp only [h]) | (with_reducible refine mgfork_bool (fun h => ?_) (fun h => ?_) <;> simp only [h]) | (simp (config := { maxSteps := 4000000 }) (disch := first | decide | assumption | omega | (simp only [wL]; omega)) only [go_sem, Nat.reduceAdd, Nat.reduceSub, Nat.reduceMul, Nat.reduceDiv, Nat.reduceMod, Nat.reduceLT, Nat.reduceLeDiff, Nat.reduceEqDiff, Nat.reduceSucc, Nat.reduceGT, Int.reduceAdd, Int.reduceSub, Int.reduceMul, Int.reduceNeg, Int.reduceLT, Int.reduceLE, Int.reduceEq, Int.reduceToNat, reduceIte, getD_mapd nd0, hm, List.take_length, List.drop_length, Nat.min_self]))
            refine .of (Ghost.freeze _ (St.le_refl _) (St.none_le _) (fun k o hk => by cases hk) ?_) ⟨(k + 1, insN ((a ++ b).getD k nd0) acc), rfl, rfl, ⟨by simp only; omega, ?_⟩, by simp only; omega⟩
            · have e : (insN ((a ++ b).getD k nd0) acc).map ND.c = List.map ND.c acc ++ [((a ++ b).getD k nd0).c] := by
                rw [hins, List.take_length, List.drop_length, List.append_nil, List.map_append]; rfl
              simp only [e]
              intro p hp
              simp only [List.mem_cons, List.not_mem_nil, or_false] at hp
              rcases hp with rfl | rfl | rfl
              · exact .same _
              · exact .vecAll ((set_hit _ _ _).trans (by first | rfl | (rw [List.append_nil]; rfl))) (by simp only [List.length_append, List.length_map, List.length_cons, List.length_nil])
              · exact .same _
            · simp only
              rw [fold_succ hkl (by assumption), ← hacc]
    · have : k = (a ++ b).length := by rw [List.length_append]; omega
      repeat' (first | ((with_reducible refine wN fun nl hnl => ?_); revert hnl; (repeat with_reducible refine wS fun _ _ => ?_); intro hnl) | (with_reducible first | refine mdraw_plain mixed (by decide +kernel) ?_ | refine wI (fun h => ?_) (fun h => ?_) | refine wF (fun h => ?_) (fun h => ?_) | refine wG (fun h => ?_) (fun h => ?_) | refine wH (fun h => ?_) (fun h => ?_)) | (with_reducible refine mfork_bool (fun h => ?_) (fun h => ?_) <;> simp only [h]) | (with_reducible refine mgfork_bool (fun h => ?_) (fun h => ?_) <;> simp only [h]) | (simp (config := { maxSteps := 4000000 }) (disch := first | decide | assumption | omega | (simp only [wL]; omega)) only [go_sem, Nat.reduceAdd, Nat.reduceSub, Nat.reduceMul, Nat.reduceDiv, Nat.reduceMod, Nat.reduceLT, Nat.reduceLeDiff, Nat.reduceEqDiff, Nat.reduceSucc, Nat.reduceGT, Int.reduceAdd, Int.reduceSub, Int.reduceMul, Int.reduceNeg, Int.reduceLT, Int.reduceLE, Int.reduceEq, Int.reduceToNat, reduceIte, List.take_length, List.length_append]))
      rw [hacc, this, List.take_length]
      exact .same _
end Go.Proofs.Ytielcgplbnlgbaa
end

section
/- Contracts of the document's Implies and Equal: the conditions that the theorems name. -/
set_option linter.unusedVariables false
set_option linter.unusedSimpArgs false
namespace Go.Proofs.Ytielcgplbnlgbaa

theorem ratoms_eq {l : List ND} (h : ∀ x, x ∈ l → ndOk x = true) : (l.filter atomR).foldl (fun acc x => insN x acc) [] = atomsS l := by
  rw [atomsS, List.filter_congr fun x hx => (atom_same (h x hx)).symm]
theorem atoms_swap (a b : List ND) : atomsS (b ++ a) = atomsS (a ++ b) :=
  nd_unique (atoms_rising _) (atoms_rising _) fun x => by rw [mem_atoms, mem_atoms, List.mem_append, List.mem_append, Or.comm]

/-- A tree that is fit, as it comes in. -/
structure FT (t : T) : Prop where
  good : Good t
  len : t.fl.length ≤ 63
  size : ∀ x, x ∈ t.fl → x.v.s.size ≤ 1000000
theorem FT.fit {t : T} (h : FT t) : fitS t.fl = true := by
  have hp := t.fl_pos
  have e := endS_fl h.good.1 [] []
  simp only [List.nil_append, List.append_nil, List.length_nil, Nat.zero_add] at e
  simp only [fitS, Bool.and_eq_true, decide_eq_true_eq, List.all_eq_true]
  exact ⟨⟨⟨List.length_pos_iff.1 hp, h.len⟩, e⟩, h.good.2⟩
theorem FT.of {l : List ND} (h : fitS l = true) (hs : ∀ x, x ∈ l → x.v.s.size ≤ 1000000) : ∃ t : T, l = t.fl ∧ FT t := by
  obtain ⟨t, ht, e, hl, hn⟩ := fit_tree h
  subst e
  exact ⟨t, rfl, ⟨⟨ht, hn⟩, hl, hs⟩⟩

theorem ft_atoms {s t : T} (hs : FT s) (ht : FT t) : ((s.fl ++ t.fl).filter atomR).foldl (fun acc x => insN x acc) [] = atomsS (s.fl ++ t.fl) :=
  ratoms_eq fun x hx => (List.mem_append.1 hx).elim (hs.good.2 x) (ht.good.2 x)

def impV (s t : T) : MV := if (atomsS (s.fl ++ t.fl)).length ≤ 10 then .tup [.bool (impB (atomsS (s.fl ++ t.fl)) s t), .int .i64 0] else .tup [.bool false, .int .i64 4]

theorem rimplies_not (a b : List ND) (ta tb : Bool) (h : (fitS a && fitS b) = false) : MCalls Try.prog 16 [.lst 5 (a.map ND.c) ta, .lst 5 (b.map ND.c) tb] St.none (fun r _ => r = .tup [.bool false, .int .i64 1]) := by
  refine (MCalls.body 50 [.tmp 4, .tmp 5] Try.func16 rfl rfl rfl rfl ?_)
  have h1 := rfit_call a ta
  have h2 := rfit_call b tb
  cases ha : fitS a <;> cases hb : fitS b
  · rw [ha] at h1; rw [hb] at h2
    repeat' (first | (with_reducible refine use_pure h1 ?_) | (with_reducible refine use_pure h2 ?_) | ((with_reducible refine wT ?_); (with_reducible refine wN fun _ hnl => ?_); revert hnl; (repeat with_reducible refine wS fun _ _ => ?_); intro hnl) | (with_reducible first | refine mdraw_plain mixed (by decide +kernel) ?_ | refine wI (fun h => ?_) (fun h => ?_) | refine wF (fun h => ?_) (fun h => ?_) | refine wG (fun h => ?_) (fun h => ?_) | refine wH (fun h => ?_) (fun h => ?_)) | (with_reducible refine mfork_bool (fun h => ?_) (fun h => ?_) <;> simp only [h]) | (with_reducible refine mgfork_bool (fun h => ?_) (fun h => ?_) <;> simp only [h]) | (simp (config := { maxSteps := 4000000 }) (disch := first | decide | assumption | omega | (simp only [wL]; omega)) only [go_sem, Nat.reduceAdd, Nat.reduceSub, Nat.reduceMul, Nat.reduceDiv, Nat.reduceMod, Nat.reduceLT, Nat.reduceLeDiff, Nat.reduceEqDiff, Nat.reduceSucc, Nat.reduceGT, Int.reduceAdd, Int.reduceSub, Int.reduceMul, Int.reduceNeg, Int.reduceLT, Int.reduceLE, Int.reduceEq, Int.reduceToNat, reduceIte, Try.f16]))
  · rw [ha] at h1; rw [hb] at h2
    repeat' (first | (with_reducible refine use_pure h1 ?_) | (with_reducible refine use_pure h2 ?_) | ((with_reducible refine wT ?_); (with_reducible refine wN fun _ hnl => ?_); revert hnl; (repeat with_reducible refine wS fun _ _ => ?_); intro hnl) | (with_reducible first | refine mdraw_plain mixed (by decide +kernel) ?_ | refine wI (fun h => ?_) (fun h => ?_) | refine wF (fun h => ?_) (fun h => ?_) | refine wG (fun h => ?_) (fun h => ?_) | refine wH (fun h => ?_) (fun h => ?_)) | (with_reducible refine mfork_bool (fun h => ?_) (fun h => ?_) <;> simp only [h]) | (with_reducible refine mgfork_bool (fun h => ?_) (fun h => ?_) <;> simp only [h]) | (simp (config := { maxSteps := 4000000 }) (disch := first | decide | assumption | omega | (simp only [wL]; omega)) only [go_sem, Nat.reduceAdd, Nat.reduceSub, Nat.reduceMul, Nat.reduceDiv, Nat.reduceMod, Nat.reduceLT, Nat.reduceLeDiff, Nat.reduceEqDiff, Nat.reduceSucc, Nat.reduceGT, Int.reduceAdd, Int.reduceSub, Int.reduceMul, Int.reduceNeg, Int.reduceLT, Int.reduceLE, Int.reduceEq, Int.reduceToNat, reduceIte, Try.f16]))
  · rw [ha] at h1; rw [hb] at h2
    repeat' (first | (with_reducible refine use_pure h1 ?_) | (with_reducible refine use_pure h2 ?_) | ((with_reducible refine wT ?_); (with_reducible refine wN fun _ hnl => ?_); revert hnl; (repeat with_reducible refine wS fun _ _ => ?_); intro hnl) | (with_reducible first | refine mdraw_plain mixed (by decide +kernel) ?_ | refine wI (fun h => ?_) (fun h => ?_) | refine wF (fun h => ?_) (fun h => ?_) | refine wG (fun h => ?_) (fun h => ?_) | refine wH (fun h => ?_) (fun h => ?_)) | (with_reducible refine mfork_bool (fun h => ?_) (fun h => ?_) <;> simp only [h]) | (with_reducible refine mgfork_bool (fun h => ?_) (fun h => ?_) <;> simp only [h]) | (simp (config := { maxSteps := 4000000 }) (disch := first | decide | assumption | omega | (simp only [wL]; omega)) only [go_sem, Nat.reduceAdd, Nat.reduceSub, Nat.reduceMul, Nat.reduceDiv, Nat.reduceMod, Nat.reduceLT, Nat.reduceLeDiff, Nat.reduceEqDiff, Nat.reduceSucc, Nat.reduceGT, Int.reduceAdd, Int.reduceSub, Int.reduceMul, Int.reduceNeg, Int.reduceLT, Int.reduceLE, Int.reduceEq, Int.reduceToNat, reduceIte, Try.f16]))
  · rw [ha, hb] at h; cases h

set_option maxHeartbeats 4000000 in
theorem rimplies_fit (s t : T) (hs : FT s) (ht : FT t) (ta tb : Bool) : MCalls Try.prog 16 [.lst 5 (s.fl.map ND.c) ta, .lst 5 (t.fl.map ND.c) tb] St.none (fun r _ => r = impV s t) := by
  refine (MCalls.body 50 [.tmp 4, .tmp 5] Try.func16 rfl rfl rfl rfl ?_)
  have h1 := rfit_call s.fl ta
  have h2 := rfit_call t.fl tb
  rw [hs.fit] at h1
  rw [ht.fit] at h2
  have hls := hs.len
  have hlt := ht.len
  have h3 := ratoms_call s.fl t.fl ta tb (by omega) (by omega) hs.size ht.size
  rw [ft_atoms hs ht] at h3
  have hr := atoms_rising (s.fl ++ t.fl)
  unfold impV
  generalize atomsS (s.fl ++ t.fl) = l at h3 hr ⊢
  by_cases h10 : l.length ≤ 10
  · rw [if_pos h10]
    have hp10 : 2 ^ l.length ≤ 1024 := by simpa using Nat.pow_le_pow_right (n := 2) (by omega) h10
    repeat' (first | (with_reducible refine use_pure h1 ?_) | (with_reducible refine use_pure h2 ?_) | (with_reducible refine use_pure h3 ?_) | ((with_reducible refine wT ?_); (with_reducible refine wN fun _ hnl => ?_); revert hnl; (repeat with_reducible refine wS fun _ _ => ?_); intro hnl) | (with_reducible first | refine mdraw_plain mixed (by decide +kernel) ?_ | refine wI (fun h => ?_) (fun h => ?_) | refine wF (fun h => ?_) (fun h => ?_) | refine wG (fun h => ?_) (fun h => ?_) | refine wH (fun h => ?_) (fun h => ?_)) | (with_reducible refine mfork_bool (fun h => ?_) (fun h => ?_) <;> simp only [h]) | (with_reducible refine mgfork_bool (fun h => ?_) (fun h => ?_) <;> simp only [h]) | (simp (config := { maxSteps := 4000000 }) (disch := first | decide | assumption | omega | (simp only [wL]; omega)) only [go_sem, Nat.reduceAdd, Nat.reduceSub, Nat.reduceMul, Nat.reduceDiv, Nat.reduceMod, Nat.reduceLT, Nat.reduceLeDiff, Nat.reduceEqDiff, Nat.reduceSucc, Nat.reduceGT, Int.reduceAdd, Int.reduceSub, Int.reduceMul, Int.reduceNeg, Int.reduceLT, Int.reduceLE, Int.reduceEq, Int.reduceToNat, reduceIte, Try.f16]))
    refine mloop_intro (α := Nat) (fun i => ⟨50, [(8, .int .i64 (i : Int)), (7, .int .i64 ((2 ^ i : Nat) : Int)), (6, .lst 5 (l.map ND.c) false), (0, .lst 5 (s.fl.map ND.c) ta), (1, .lst 5 (t.fl.map ND.c) tb)], []⟩)
      (fun _ => St.none) (fun i => i ≤ l.length) (fun i => l.length - i) (.of (.less ?_ (St.le_refl _)) ⟨0, rfl, rfl, Nat.zero_le _⟩) ?_
    · simp (config := { maxSteps := 4000000 }) (disch := first | decide | assumption | omega | (simp only [wL]; omega)) only [go_sem, Nat.reduceAdd, Nat.reduceSub, Nat.reduceMul, Nat.reduceDiv, Nat.reduceMod, Nat.reduceLT, Nat.reduceLeDiff, Nat.reduceEqDiff, Nat.reduceSucc, Nat.reduceGT, Int.reduceAdd, Int.reduceSub, Int.reduceMul, Int.reduceNeg, Int.reduceLT, Int.reduceLE, Int.reduceEq, Int.reduceToNat, reduceIte, weak_int, weak_same]
      exact ⟨rfl, rfl⟩
    · intro i hi
      have hi : i ≤ l.length := hi
      by_cases hlt' : i < l.length
      · have hpi : 2 ^ i ≤ 512 := by simpa using Nat.pow_le_pow_right (n := 2) (by omega) (show i ≤ 9 by omega)
        have hp1 : ((2 ^ (i + 1) : Nat) : Int) = ((2 ^ i : Nat) : Int) * 2 := by rw [Nat.pow_succ]; exact_mod_cast rfl
        obtain ⟨m, hm⟩ : ∃ m : Nat, 2 ^ i = m := ⟨_, rfl⟩
        rw [hm] at hpi hp1
        repeat' (first | ((with_reducible refine wT ?_); (with_reducible refine wN fun _ hnl => ?_); revert hnl; (repeat with_reducible refine wS fun _ _ => ?_); intro hnl) | (with_reducible first | refine mdraw_plain mixed (by decide +kernel) ?_ | refine wI (fun h => ?_) (fun h => ?_) | refine wF (fun h => ?_) (fun h => ?_) | refine wG (fun h => ?_) (fun h => ?_) | refine wH (fun h => ?_) (fun h => ?_)) | (with_reducible refine mfork_bool (fun h => ?_) (fun h => ?_) <;> simp only [h]) | (with_reducible refine mgfork_bool (fun h => ?_) (fun h => ?_) <;> simp only [h]) | (simp (config := { maxSteps := 4000000 }) (disch := first | decide | assumption | omega | (simp only [wL]; omega)) only [go_sem, Nat.reduceAdd, Nat.reduceSub, Nat.reduceMul, Nat.reduceDiv, Nat.reduceMod, Nat.reduceLT, Nat.reduceLeDiff, Nat.reduceEqDiff, Nat.reduceSucc, Nat.reduceGT, Int.reduceAdd, Int.reduceSub, Int.reduceMul, Int.reduceNeg, Int.reduceLT, Int.reduceLE, Int.reduceEq, Int.reduceToNat, reduceIte, hm]))
        refine .of (.less ?_ (St.le_refl _)) ⟨i + 1, rfl, rfl, by omega, by omega⟩
        simp (config := { maxSteps := 4000000 }) (disch := first | decide | assumption | omega | (simp only [wL]; omega)) only [go_sem, Nat.reduceAdd, Nat.reduceSub, Nat.reduceMul, Nat.reduceDiv, Nat.reduceMod, Nat.reduceLT, Nat.reduceLeDiff, Nat.reduceEqDiff, Nat.reduceSucc, Nat.reduceGT, Int.reduceAdd, Int.reduceSub, Int.reduceMul, Int.reduceNeg, Int.reduceLT, Int.reduceLE, Int.reduceEq, Int.reduceToNat, reduceIte, weak_int, weak_same, hp1]
        rfl
      · have hie : i = l.length := by omega
        subst hie
        obtain ⟨m, hm⟩ : ∃ m : Nat, 2 ^ l.length = m := ⟨_, rfl⟩
        rw [hm] at hp10
        repeat' (first | ((with_reducible refine wT ?_); (with_reducible refine wN fun _ hnl => ?_); revert hnl; (repeat with_reducible refine wS fun _ _ => ?_); intro hnl) | (with_reducible first | refine mdraw_plain mixed (by decide +kernel) ?_ | refine wI (fun h => ?_) (fun h => ?_) | refine wF (fun h => ?_) (fun h => ?_) | refine wG (fun h => ?_) (fun h => ?_) | refine wH (fun h => ?_) (fun h => ?_)) | (with_reducible refine mfork_bool (fun h => ?_) (fun h => ?_) <;> simp only [h]) | (with_reducible refine mgfork_bool (fun h => ?_) (fun h => ?_) <;> simp only [h]) | (simp (config := { maxSteps := 4000000 }) (disch := first | decide | assumption | omega | (simp only [wL]; omega)) only [go_sem, Nat.reduceAdd, Nat.reduceSub, Nat.reduceMul, Nat.reduceDiv, Nat.reduceMod, Nat.reduceLT, Nat.reduceLeDiff, Nat.reduceEqDiff, Nat.reduceSucc, Nat.reduceGT, Int.reduceAdd, Int.reduceSub, Int.reduceMul, Int.reduceNeg, Int.reduceLT, Int.reduceLE, Int.reduceEq, Int.reduceToNat, reduceIte, hm]))
        refine mloop_intro (α := Nat) (fun on => ⟨50, [(9, .int .i64 (on : Int)), (7, .int .i64 (m : Int)), (6, .lst 5 (l.map ND.c) false), (0, .lst 5 (s.fl.map ND.c) ta), (1, .lst 5 (t.fl.map ND.c) tb)], []⟩)
          (fun _ => St.none) (fun on => on ≤ m ∧ ∀ q, q < on → (!s.sem (asg l q) || t.sem (asg l q)) = true) (fun on => m - on) (.of (.less ?_ (St.le_refl _)) ⟨0, rfl, rfl, Nat.zero_le _, fun q hq => absurd hq (Nat.not_lt_zero _)⟩) ?_
        · simp (config := { maxSteps := 4000000 }) (disch := first | decide | assumption | omega | (simp only [wL]; omega)) only [go_sem, Nat.reduceAdd, Nat.reduceSub, Nat.reduceMul, Nat.reduceDiv, Nat.reduceMod, Nat.reduceLT, Nat.reduceLeDiff, Nat.reduceEqDiff, Nat.reduceSucc, Nat.reduceGT, Int.reduceAdd, Int.reduceSub, Int.reduceMul, Int.reduceNeg, Int.reduceLT, Int.reduceLE, Int.reduceEq, Int.reduceToNat, reduceIte, weak_int, weak_same]
          rfl
        · rintro on ⟨hon, hq⟩
          by_cases hom : on < m
          · have c1 := rsays_call l (by omega) hr false on (by omega) s hs.good.1 (by omega) ta
            have c2 := rsays_call l (by omega) hr false on (by omega) t ht.good.1 (by omega) tb
            have next : (!s.sem (asg l on) || t.sem (asg l on)) = true → ∀ q, q < on + 1 → (!s.sem (asg l q) || t.sem (asg l q)) = true := fun h q hq' => by
              rcases Nat.lt_or_ge q on with h3 | h3
              · exact hq q h3
              · rw [show q = on by omega]; exact h
            cases e1 : s.sem (asg l on)
            · rw [e1] at c1 next
              repeat' (first | (with_reducible refine use_pure c1 ?_) | (with_reducible refine use_pure c2 ?_) | ((with_reducible refine wT ?_); (with_reducible refine wN fun _ hnl => ?_); revert hnl; (repeat with_reducible refine wS fun _ _ => ?_); intro hnl) | (with_reducible first | refine mdraw_plain mixed (by decide +kernel) ?_ | refine wI (fun h => ?_) (fun h => ?_) | refine wF (fun h => ?_) (fun h => ?_) | refine wG (fun h => ?_) (fun h => ?_) | refine wH (fun h => ?_) (fun h => ?_)) | (with_reducible refine mfork_bool (fun h => ?_) (fun h => ?_) <;> simp only [h]) | (with_reducible refine mgfork_bool (fun h => ?_) (fun h => ?_) <;> simp only [h]) | (simp (config := { maxSteps := 4000000 }) (disch := first | decide | assumption | omega | (simp only [wL]; omega)) only [go_sem, Nat.reduceAdd, Nat.reduceSub, Nat.reduceMul, Nat.reduceDiv, Nat.reduceMod, Nat.reduceLT, Nat.reduceLeDiff, Nat.reduceEqDiff, Nat.reduceSucc, Nat.reduceGT, Int.reduceAdd, Int.reduceSub, Int.reduceMul, Int.reduceNeg, Int.reduceLT, Int.reduceLE, Int.reduceEq, Int.reduceToNat, reduceIte]))
              refine .of (.less ?_ (St.le_refl _)) ⟨on + 1, rfl, rfl, ⟨by omega, next rfl⟩, by omega⟩
              simp (config := { maxSteps := 4000000 }) (disch := first | decide | assumption | omega | (simp only [wL]; omega)) only [go_sem, Nat.reduceAdd, Nat.reduceSub, Nat.reduceMul, Nat.reduceDiv, Nat.reduceMod, Nat.reduceLT, Nat.reduceLeDiff, Nat.reduceEqDiff, Nat.reduceSucc, Nat.reduceGT, Int.reduceAdd, Int.reduceSub, Int.reduceMul, Int.reduceNeg, Int.reduceLT, Int.reduceLE, Int.reduceEq, Int.reduceToNat, reduceIte, weak_int, weak_same]
              rfl
            · cases e2 : t.sem (asg l on)
              · rw [e1] at c1; rw [e2] at c2
                have hf : impB l s t = false := by
                  rw [impB, decide_eq_false_iff_not]
                  intro hall
                  have := hall on (by omega)
                  rw [e1, e2] at this
                  cases this
                rw [hf]
                repeat' (first | (with_reducible refine use_pure c1 ?_) | (with_reducible refine use_pure c2 ?_) | ((with_reducible refine wT ?_); (with_reducible refine wN fun _ hnl => ?_); revert hnl; (repeat with_reducible refine wS fun _ _ => ?_); intro hnl) | (with_reducible first | refine mdraw_plain mixed (by decide +kernel) ?_ | refine wI (fun h => ?_) (fun h => ?_) | refine wF (fun h => ?_) (fun h => ?_) | refine wG (fun h => ?_) (fun h => ?_) | refine wH (fun h => ?_) (fun h => ?_)) | (with_reducible refine mfork_bool (fun h => ?_) (fun h => ?_) <;> simp only [h]) | (with_reducible refine mgfork_bool (fun h => ?_) (fun h => ?_) <;> simp only [h]) | (simp (config := { maxSteps := 4000000 }) (disch := first | decide | assumption | omega | (simp only [wL]; omega)) only [go_sem, Nat.reduceAdd, Nat.reduceSub, Nat.reduceMul, Nat.reduceDiv, Nat.reduceMod, Nat.reduceLT, Nat.reduceLeDiff, Nat.reduceEqDiff, Nat.reduceSucc, Nat.reduceGT, Int.reduceAdd, Int.reduceSub, Int.reduceMul, Int.reduceNeg, Int.reduceLT, Int.reduceLE, Int.reduceEq, Int.reduceToNat, reduceIte]))
              · rw [e1] at c1 next; rw [e2] at c2 next
                repeat' (first | (with_reducible refine use_pure c1 ?_) | (with_reducible refine use_pure c2 ?_) | ((with_reducible refine wT ?_); (with_reducible refine wN fun _ hnl => ?_); revert hnl; (repeat with_reducible refine wS fun _ _ => ?_); intro hnl) | (with_reducible first | refine mdraw_plain mixed (by decide +kernel) ?_ | refine wI (fun h => ?_) (fun h => ?_) | refine wF (fun h => ?_) (fun h => ?_) | refine wG (fun h => ?_) (fun h => ?_) | refine wH (fun h => ?_) (fun h => ?_)) | (with_reducible refine mfork_bool (fun h => ?_) (fun h => ?_) <;> simp only [h]) | (with_reducible refine mgfork_bool (fun h => ?_) (fun h => ?_) <;> simp only [h]) | (simp (config := { maxSteps := 4000000 }) (disch := first | decide | assumption | omega | (simp only [wL]; omega)) only [go_sem, Nat.reduceAdd, Nat.reduceSub, Nat.reduceMul, Nat.reduceDiv, Nat.reduceMod, Nat.reduceLT, Nat.reduceLeDiff, Nat.reduceEqDiff, Nat.reduceSucc, Nat.reduceGT, Int.reduceAdd, Int.reduceSub, Int.reduceMul, Int.reduceNeg, Int.reduceLT, Int.reduceLE, Int.reduceEq, Int.reduceToNat, reduceIte]))
                refine .of (.less ?_ (St.le_refl _)) ⟨on + 1, rfl, rfl, ⟨by omega, next rfl⟩, by omega⟩
                simp (config := { maxSteps := 4000000 }) (disch := first | decide | assumption | omega | (simp only [wL]; omega)) only [go_sem, Nat.reduceAdd, Nat.reduceSub, Nat.reduceMul, Nat.reduceDiv, Nat.reduceMod, Nat.reduceLT, Nat.reduceLeDiff, Nat.reduceEqDiff, Nat.reduceSucc, Nat.reduceGT, Int.reduceAdd, Int.reduceSub, Int.reduceMul, Int.reduceNeg, Int.reduceLT, Int.reduceLE, Int.reduceEq, Int.reduceToNat, reduceIte, weak_int, weak_same]
                rfl
          · have hoe : on = m := by omega
            subst hoe
            have hf : impB l s t = true := by
              rw [impB, decide_eq_true_eq, hm]; exact hq
            rw [hf]
            repeat' (first | ((with_reducible refine wT ?_); (with_reducible refine wN fun _ hnl => ?_); revert hnl; (repeat with_reducible refine wS fun _ _ => ?_); intro hnl) | (with_reducible first | refine mdraw_plain mixed (by decide +kernel) ?_ | refine wI (fun h => ?_) (fun h => ?_) | refine wF (fun h => ?_) (fun h => ?_) | refine wG (fun h => ?_) (fun h => ?_) | refine wH (fun h => ?_) (fun h => ?_)) | (with_reducible refine mfork_bool (fun h => ?_) (fun h => ?_) <;> simp only [h]) | (with_reducible refine mgfork_bool (fun h => ?_) (fun h => ?_) <;> simp only [h]) | (simp (config := { maxSteps := 4000000 }) (disch := first | decide | assumption | omega | (simp only [wL]; omega)) only [go_sem, Nat.reduceAdd, Nat.reduceSub, Nat.reduceMul, Nat.reduceDiv, Nat.reduceMod, Nat.reduceLT, Nat.reduceLeDiff, Nat.reduceEqDiff, Nat.reduceSucc, Nat.reduceGT, Int.reduceAdd, Int.reduceSub, Int.reduceMul, Int.reduceNeg, Int.reduceLT, Int.reduceLE, Int.reduceEq, Int.reduceToNat, reduceIte]))
  · rw [if_neg h10]
    repeat' (first | (with_reducible refine use_pure h1 ?_) | (with_reducible refine use_pure h2 ?_) | (with_reducible refine use_pure h3 ?_) | ((with_reducible refine wT ?_); (with_reducible refine wN fun _ hnl => ?_); revert hnl; (repeat with_reducible refine wS fun _ _ => ?_); intro hnl) | (with_reducible first | refine mdraw_plain mixed (by decide +kernel) ?_ | refine wI (fun h => ?_) (fun h => ?_) | refine wF (fun h => ?_) (fun h => ?_) | refine wG (fun h => ?_) (fun h => ?_) | refine wH (fun h => ?_) (fun h => ?_)) | (with_reducible refine mfork_bool (fun h => ?_) (fun h => ?_) <;> simp only [h]) | (with_reducible refine mgfork_bool (fun h => ?_) (fun h => ?_) <;> simp only [h]) | (simp (config := { maxSteps := 4000000 }) (disch := first | decide | assumption | omega | (simp only [wL]; omega)) only [go_sem, Nat.reduceAdd, Nat.reduceSub, Nat.reduceMul, Nat.reduceDiv, Nat.reduceMod, Nat.reduceLT, Nat.reduceLeDiff, Nat.reduceEqDiff, Nat.reduceSucc, Nat.reduceGT, Int.reduceAdd, Int.reduceSub, Int.reduceMul, Int.reduceNeg, Int.reduceLT, Int.reduceLE, Int.reduceEq, Int.reduceToNat, reduceIte, Try.f16]))

def eqV' (s t : T) : MV := if (atomsS (s.fl ++ t.fl)).length ≤ 10 then .tup [.bool (impB (atomsS (s.fl ++ t.fl)) s t && impB (atomsS (s.fl ++ t.fl)) t s), .int .i64 0] else .tup [.bool false, .int .i64 4]

theorem requal_not (a b : List ND) (ta tb : Bool) (h : (fitS a && fitS b) = false) : MCalls Try.prog 18 [.lst 5 (a.map ND.c) ta, .lst 5 (b.map ND.c) tb] St.none (fun r _ => r = .tup [.bool false, .int .i64 1]) := by
  refine (MCalls.body 27 [.tmp 4, .tmp 5] Try.func18 rfl rfl rfl rfl ?_)
  have h1 := rimplies_not a b ta tb h
  have h2 := rimplies_not b a tb ta (by rw [Bool.and_comm]; exact h)
  repeat' (first | (with_reducible refine use_pure h1 ?_) | (with_reducible refine use_pure h2 ?_) | ((with_reducible refine wT ?_); (with_reducible refine wN fun _ hnl => ?_); revert hnl; (repeat with_reducible refine wS fun _ _ => ?_); intro hnl) | (with_reducible first | refine mdraw_plain mixed (by decide +kernel) ?_ | refine wI (fun h => ?_) (fun h => ?_) | refine wF (fun h => ?_) (fun h => ?_) | refine wG (fun h => ?_) (fun h => ?_) | refine wH (fun h => ?_) (fun h => ?_)) | (with_reducible refine mfork_bool (fun h => ?_) (fun h => ?_) <;> simp only [h]) | (with_reducible refine mgfork_bool (fun h => ?_) (fun h => ?_) <;> simp only [h]) | (simp (config := { maxSteps := 4000000 }) (disch := first | decide | assumption | omega | (simp only [wL]; omega)) only [go_sem, Nat.reduceAdd, Nat.reduceSub, Nat.reduceMul, Nat.reduceDiv, Nat.reduceMod, Nat.reduceLT, Nat.reduceLeDiff, Nat.reduceEqDiff, Nat.reduceSucc, Nat.reduceGT, Int.reduceAdd, Int.reduceSub, Int.reduceMul, Int.reduceNeg, Int.reduceLT, Int.reduceLE, Int.reduceEq, Int.reduceToNat, reduceIte, Try.f18]))

theorem requal_fit (s t : T) (hs : FT s) (ht : FT t) (ta tb : Bool) : MCalls Try.prog 18 [.lst 5 (s.fl.map ND.c) ta, .lst 5 (t.fl.map ND.c) tb] St.none (fun r _ => r = eqV' s t) := by
  refine (MCalls.body 27 [.tmp 4, .tmp 5] Try.func18 rfl rfl rfl rfl ?_)
  have h1 := rimplies_fit s t hs ht ta tb
  have h2 := rimplies_fit t s ht hs tb ta
  unfold impV at h1 h2
  unfold eqV'
  rw [atoms_swap] at h2
  by_cases h10 : (atomsS (s.fl ++ t.fl)).length ≤ 10
  · rw [if_pos h10] at h1 h2 ⊢
    cases e1 : impB (atomsS (s.fl ++ t.fl)) s t <;> cases e2 : impB (atomsS (s.fl ++ t.fl)) t s <;> rw [e1] at h1 <;> rw [e2] at h2
    all_goals repeat' (first | (with_reducible refine use_pure h1 ?_) | (with_reducible refine use_pure h2 ?_) | ((with_reducible refine wT ?_); (with_reducible refine wN fun _ hnl => ?_); revert hnl; (repeat with_reducible refine wS fun _ _ => ?_); intro hnl) | (with_reducible first | refine mdraw_plain mixed (by decide +kernel) ?_ | refine wI (fun h => ?_) (fun h => ?_) | refine wF (fun h => ?_) (fun h => ?_) | refine wG (fun h => ?_) (fun h => ?_) | refine wH (fun h => ?_) (fun h => ?_)) | (with_reducible refine mfork_bool (fun h => ?_) (fun h => ?_) <;> simp only [h]) | (with_reducible refine mgfork_bool (fun h => ?_) (fun h => ?_) <;> simp only [h]) | (simp (config := { maxSteps := 4000000 }) (disch := first | decide | assumption | omega | (simp only [wL]; omega)) only [go_sem, Nat.reduceAdd, Nat.reduceSub, Nat.reduceMul, Nat.reduceDiv, Nat.reduceMod, Nat.reduceLT, Nat.reduceLeDiff, Nat.reduceEqDiff, Nat.reduceSucc, Nat.reduceGT, Int.reduceAdd, Int.reduceSub, Int.reduceMul, Int.reduceNeg, Int.reduceLT, Int.reduceLE, Int.reduceEq, Int.reduceToNat, reduceIte, Try.f18]))
  · rw [if_neg h10] at h1 h2 ⊢
    repeat' (first | (with_reducible refine use_pure h1 ?_) | (with_reducible refine use_pure h2 ?_) | ((with_reducible refine wT ?_); (with_reducible refine wN fun _ hnl => ?_); revert hnl; (repeat with_reducible refine wS fun _ _ => ?_); intro hnl) | (with_reducible first | refine mdraw_plain mixed (by decide +kernel) ?_ | refine wI (fun h => ?_) (fun h => ?_) | refine wF (fun h => ?_) (fun h => ?_) | refine wG (fun h => ?_) (fun h => ?_) | refine wH (fun h => ?_) (fun h => ?_)) | (with_reducible refine mfork_bool (fun h => ?_) (fun h => ?_) <;> simp only [h]) | (with_reducible refine mgfork_bool (fun h => ?_) (fun h => ?_) <;> simp only [h]) | (simp (config := { maxSteps := 4000000 }) (disch := first | decide | assumption | omega | (simp only [wL]; omega)) only [go_sem, Nat.reduceAdd, Nat.reduceSub, Nat.reduceMul, Nat.reduceDiv, Nat.reduceMod, Nat.reduceLT, Nat.reduceLeDiff, Nat.reduceEqDiff, Nat.reduceSucc, Nat.reduceGT, Int.reduceAdd, Int.reduceSub, Int.reduceMul, Int.reduceNeg, Int.reduceLT, Int.reduceLE, Int.reduceEq, Int.reduceToNat, reduceIte, Try.f18]))

theorem few_call (s t : T) (hs : FT s) (ht : FT t) (ta tb : Bool) : MCalls Try.prog 13 [.lst 5 (s.fl.map ND.c) ta, .lst 5 (t.fl.map ND.c) tb] St.none (fun r _ => r = .bool (decide ((atomsS (s.fl ++ t.fl)).length ≤ 6))) := by
  refine (MCalls.body 10 [.tmp 4] Try.func13 rfl rfl rfl rfl ?_)
  have hls := hs.len
  have hlt := ht.len
  have h3 := ratoms_call s.fl t.fl ta tb (by omega) (by omega) hs.size ht.size
  rw [ft_atoms hs ht] at h3
  repeat' (first | (with_reducible refine use_pure h3 ?_) | ((with_reducible refine wT ?_); (with_reducible refine wN fun _ hnl => ?_); revert hnl; (repeat with_reducible refine wS fun _ _ => ?_); intro hnl) | (with_reducible first | refine mdraw_plain mixed (by decide +kernel) ?_ | refine wI (fun h => ?_) (fun h => ?_) | refine wF (fun h => ?_) (fun h => ?_) | refine wG (fun h => ?_) (fun h => ?_) | refine wH (fun h => ?_) (fun h => ?_)) | (with_reducible refine mfork_bool (fun h => ?_) (fun h => ?_) <;> simp only [h]) | (with_reducible refine mgfork_bool (fun h => ?_) (fun h => ?_) <;> simp only [h]) | (simp (config := { maxSteps := 4000000 }) (disch := first | decide | assumption | omega | (simp only [wL]; omega)) only [go_sem, Nat.reduceAdd, Nat.reduceSub, Nat.reduceMul, Nat.reduceDiv, Nat.reduceMod, Nat.reduceLT, Nat.reduceLeDiff, Nat.reduceEqDiff, Nat.reduceSucc, Nat.reduceGT, Int.reduceAdd, Int.reduceSub, Int.reduceMul, Int.reduceNeg, Int.reduceLT, Int.reduceLE, Int.reduceEq, Int.reduceToNat, reduceIte, Try.f13]))
  simp only [MV.bool.injEq, decide_eq_decide]
  omega

def largeS (l : List ND) : Bool := decide (100 < l.length) || l.any fun x => decide (200 < x.v.s.size)
theorem rlarge_call (l : List ND) (tt : Bool) : MCalls Try.prog 10 [.lst 5 (l.map ND.c) tt] St.none (fun r _ => r = .bool (largeS l)) := by
  refine (MCalls.body 21 [.tmp 2] Try.func10 rfl rfl rfl rfl ?_)
  by_cases h100 : 100 < l.length
  · have e : largeS l = true := by simp [largeS, h100]
    rw [e]
    repeat' (first | ((with_reducible refine wT ?_); (with_reducible refine wN fun _ hnl => ?_); revert hnl; (repeat with_reducible refine wS fun _ _ => ?_); intro hnl) | (with_reducible first | refine mdraw_plain mixed (by decide +kernel) ?_ | refine wI (fun h => ?_) (fun h => ?_) | refine wF (fun h => ?_) (fun h => ?_) | refine wG (fun h => ?_) (fun h => ?_) | refine wH (fun h => ?_) (fun h => ?_)) | (with_reducible refine mfork_bool (fun h => ?_) (fun h => ?_) <;> simp only [h]) | (with_reducible refine mgfork_bool (fun h => ?_) (fun h => ?_) <;> simp only [h]) | (simp (config := { maxSteps := 4000000 }) (disch := first | decide | assumption | omega | (simp only [wL]; omega)) only [go_sem, Nat.reduceAdd, Nat.reduceSub, Nat.reduceMul, Nat.reduceDiv, Nat.reduceMod, Nat.reduceLT, Nat.reduceLeDiff, Nat.reduceEqDiff, Nat.reduceSucc, Nat.reduceGT, Int.reduceAdd, Int.reduceSub, Int.reduceMul, Int.reduceNeg, Int.reduceLT, Int.reduceLE, Int.reduceEq, Int.reduceToNat, reduceIte, Try.f10]))
  · have e : largeS l = l.any fun x => decide (200 < x.v.s.size) := by simp [largeS, h100]
    rw [e]
    repeat' (first | ((with_reducible refine wT ?_); (with_reducible refine wN fun _ hnl => ?_); revert hnl; (repeat with_reducible refine wS fun _ _ => ?_); intro hnl) | (with_reducible first | refine mdraw_plain mixed (by decide +kernel) ?_ | refine wI (fun h => ?_) (fun h => ?_) | refine wF (fun h => ?_) (fun h => ?_) | refine wG (fun h => ?_) (fun h => ?_) | refine wH (fun h => ?_) (fun h => ?_)) | (with_reducible refine mfork_bool (fun h => ?_) (fun h => ?_) <;> simp only [h]) | (with_reducible refine mgfork_bool (fun h => ?_) (fun h => ?_) <;> simp only [h]) | (simp (config := { maxSteps := 4000000 }) (disch := first | decide | assumption | omega | (simp only [wL]; omega)) only [go_sem, Nat.reduceAdd, Nat.reduceSub, Nat.reduceMul, Nat.reduceDiv, Nat.reduceMod, Nat.reduceLT, Nat.reduceLeDiff, Nat.reduceEqDiff, Nat.reduceSucc, Nat.reduceGT, Int.reduceAdd, Int.reduceSub, Int.reduceMul, Int.reduceNeg, Int.reduceLT, Int.reduceLE, Int.reduceEq, Int.reduceToNat, reduceIte, Try.f10]))
    refine mloop_intro (α := Nat) (fun i => ⟨21, [(3, .int .i64 (i : Int)), (0, .lst 5 (l.map ND.c) tt)], []⟩)
      (fun _ => St.none) (fun i => i ≤ l.length ∧ (l.take i).any (fun x => decide (200 < x.v.s.size)) = false) (fun i => l.length - i) (.of (.less ?_ (St.le_refl _)) ⟨0, rfl, rfl, Nat.zero_le _, rfl⟩) ?_
    · simp (config := { maxSteps := 4000000 }) (disch := first | decide | assumption | omega | (simp only [wL]; omega)) only [go_sem, Nat.reduceAdd, Nat.reduceSub, Nat.reduceMul, Nat.reduceDiv, Nat.reduceMod, Nat.reduceLT, Nat.reduceLeDiff, Nat.reduceEqDiff, Nat.reduceSucc, Nat.reduceGT, Int.reduceAdd, Int.reduceSub, Int.reduceMul, Int.reduceNeg, Int.reduceLT, Int.reduceLE, Int.reduceEq, Int.reduceToNat, reduceIte, weak_int, weak_same]
      rfl
    · rintro i ⟨hi, hq⟩
      by_cases hlt : i < l.length
      · by_cases hb : 200 < (l.getD i nd0).v.s.size
        · have ea : (l.any fun x => decide (200 < x.v.s.size)) = true := List.any_eq_true.2 ⟨_, getD_mem nd0 hlt, by simpa using hb⟩
          rw [ea]
          repeat' (first | ((with_reducible refine wT ?_); (with_reducible refine wN fun _ hnl => ?_); revert hnl; (repeat with_reducible refine wS fun _ _ => ?_); intro hnl) | (with_reducible first | refine mdraw_plain mixed (by decide +kernel) ?_ | refine wI (fun h => ?_) (fun h => ?_) | refine wF (fun h => ?_) (fun h => ?_) | refine wG (fun h => ?_) (fun h => ?_) | refine wH (fun h => ?_) (fun h => ?_)) | (with_reducible refine mfork_bool (fun h => ?_) (fun h => ?_) <;> simp only [h]) | (with_reducible refine mgfork_bool (fun h => ?_) (fun h => ?_) <;> simp only [h]) | (simp (config := { maxSteps := 4000000 }) (disch := first | decide | assumption | omega | (simp only [wL]; omega)) only [go_sem, Nat.reduceAdd, Nat.reduceSub, Nat.reduceMul, Nat.reduceDiv, Nat.reduceMod, Nat.reduceLT, Nat.reduceLeDiff, Nat.reduceEqDiff, Nat.reduceSucc, Nat.reduceGT, Int.reduceAdd, Int.reduceSub, Int.reduceMul, Int.reduceNeg, Int.reduceLT, Int.reduceLE, Int.reduceEq, Int.reduceToNat, reduceIte, getD_mapd nd0]))
        · repeat' (first | ((with_reducible refine wT ?_); (with_reducible refine wN fun _ hnl => ?_); revert hnl; (repeat with_reducible refine wS fun _ _ => ?_); intro hnl) | (with_reducible first | refine mdraw_plain mixed (by decide +kernel) ?_ | refine wI (fun h => ?_) (fun h => ?_) | refine wF (fun h => ?_) (fun h => ?_) | refine wG (fun h => ?_) (fun h => ?_) | refine wH (fun h => ?_) (fun h => ?_)) | (with_reducible refine mfork_bool (fun h => ?_) (fun h => ?_) <;> simp only [h]) | (with_reducible refine mgfork_bool (fun h => ?_) (fun h => ?_) <;> simp only [h]) | (simp (config := { maxSteps := 4000000 }) (disch := first | decide | assumption | omega | (simp only [wL]; omega)) only [go_sem, Nat.reduceAdd, Nat.reduceSub, Nat.reduceMul, Nat.reduceDiv, Nat.reduceMod, Nat.reduceLT, Nat.reduceLeDiff, Nat.reduceEqDiff, Nat.reduceSucc, Nat.reduceGT, Int.reduceAdd, Int.reduceSub, Int.reduceMul, Int.reduceNeg, Int.reduceLT, Int.reduceLE, Int.reduceEq, Int.reduceToNat, reduceIte, getD_mapd nd0]))
          refine .of (.less ?_ (St.le_refl _)) ⟨i + 1, rfl, rfl, ⟨by omega, ?_⟩, by omega⟩
          · simp (config := { maxSteps := 4000000 }) (disch := first | decide | assumption | omega | (simp only [wL]; omega)) only [go_sem, Nat.reduceAdd, Nat.reduceSub, Nat.reduceMul, Nat.reduceDiv, Nat.reduceMod, Nat.reduceLT, Nat.reduceLeDiff, Nat.reduceEqDiff, Nat.reduceSucc, Nat.reduceGT, Int.reduceAdd, Int.reduceSub, Int.reduceMul, Int.reduceNeg, Int.reduceLT, Int.reduceLE, Int.reduceEq, Int.reduceToNat, reduceIte, weak_int, weak_same]
            rfl
          · rw [any_take_succ hlt, hq, ← getD_of_lt nd0 hlt]
            simpa using hb
      · have hie : i = l.length := by omega
        subst hie
        rw [List.take_length] at hq
        rw [hq]
        repeat' (first | ((with_reducible refine wT ?_); (with_reducible refine wN fun _ hnl => ?_); revert hnl; (repeat with_reducible refine wS fun _ _ => ?_); intro hnl) | (with_reducible first | refine mdraw_plain mixed (by decide +kernel) ?_ | refine wI (fun h => ?_) (fun h => ?_) | refine wF (fun h => ?_) (fun h => ?_) | refine wG (fun h => ?_) (fun h => ?_) | refine wH (fun h => ?_) (fun h => ?_)) | (with_reducible refine mfork_bool (fun h => ?_) (fun h => ?_) <;> simp only [h]) | (with_reducible refine mgfork_bool (fun h => ?_) (fun h => ?_) <;> simp only [h]) | (simp (config := { maxSteps := 4000000 }) (disch := first | decide | assumption | omega | (simp only [wL]; omega)) only [go_sem, Nat.reduceAdd, Nat.reduceSub, Nat.reduceMul, Nat.reduceDiv, Nat.reduceMod, Nat.reduceLT, Nat.reduceLeDiff, Nat.reduceEqDiff, Nat.reduceSucc, Nat.reduceGT, Int.reduceAdd, Int.reduceSub, Int.reduceMul, Int.reduceNeg, Int.reduceLT, Int.reduceLE, Int.reduceEq, Int.reduceToNat, reduceIte]))
end Go.Proofs.Ytielcgplbnlgbaa
end

section
/- Contracts of the document's form and Of: the conditions that the theorems name. -/
set_option linter.unusedVariables false
set_option linter.unusedSimpArgs false
namespace Go.Proofs.Ytielcgplbnlgbaa

noncomputable def fmC (op : Int) (a b : T) (tn : Bool) : Know :=
  kn [(40, [.lst 5 (a.fl.map ND.c) false, .bool tn], ⟨[], fun v => v = .lst 5 ((formT a tn).fl.map ND.c) false, none⟩), (40, [.lst 5 (b.fl.map ND.c) false, .bool tn], ⟨[], fun v => v = .lst 5 ((formT b tn).fl.map ND.c) false, none⟩),
    (60, [.int .i64 op, .lst 5 ((formT a tn).fl.map ND.c) false, .lst 5 ((formT b tn).fl.map ND.c) false], ⟨[], fun v => v = .lst 5 ((joinT op (formT a tn) (formT b tn)).fl.map ND.c) false, none⟩)]
theorem fmC_a {op : Int} {a b : T} {tn : Bool} : fmC op a b tn 40 [.lst 5 (a.fl.map ND.c) false, .bool tn] = some ⟨[], fun v => v = .lst 5 ((formT a tn).fl.map ND.c) false, none⟩ := kn_hit
theorem fmC_b {op : Int} {a b : T} {tn : Bool} (ha : a.ok) (hb : b.ok) : fmC op a b tn 40 [.lst 5 (b.fl.map ND.c) false, .bool tn] = some ⟨[], fun v => v = .lst 5 ((formT b tn).fl.map ND.c) false, none⟩ :=
  kn_skip (fun h => by
    have h := h.2
    simp only [List.cons.injEq, MV.lst.injEq, true_and, and_true] at h
    rw [fl_eq ha hb (nds_cinj h)]) kn_hit
theorem fmC_j {op : Int} {a b : T} {tn : Bool} : fmC op a b tn 60 [.int .i64 op, .lst 5 ((formT a tn).fl.map ND.c) false, .lst 5 ((formT b tn).fl.map ND.c) false] = some ⟨[], fun v => v = .lst 5 ((joinT op (formT a tn) (formT b tn)).fl.map ND.c) false, none⟩ :=
  kn_skip (fun h => absurd h.1 (by decide)) (kn_skip (fun h => absurd h.1 (by decide)) kn_hit)

set_option maxHeartbeats 4000000 in
theorem rform_call : ∀ (t : T) (tn : Bool), Good t → t.fl.length ≤ 100 → MCalls Try.prog 40 [.lst 5 (t.fl.map ND.c) false, .bool tn] St.none (fun r _ => r = .lst 5 ((formT t tn).fl.map ND.c) false)
  | .leaf x, tn, g, hl => by
    refine MCalls.seen (MCalls.body 54 [.tmp 4] Try.func40 rfl rfl rfl rfl ?_)
    have hk := rkids_call (.leaf x) g.1 (by omega) false
    have hp : x.op ≠ 10 ∧ x.op ≠ 11 ∧ x.op ≠ 12 := by
      refine ⟨fun e => ?_, fun e => ?_, fun e => ?_⟩ <;> (have h := g.1; simp only [T.ok, e] at h; revert h; decide)
    obtain ⟨p1, p2, p3⟩ := hp
    simp only [T.fl, T.kl, T.kids, List.map_cons, List.map_nil] at hk ⊢
    by_cases h12 : x.op = 1 ∨ x.op = 2
    · have hf : formT (.leaf x) tn = .leaf (nd (if tn = true then 3 - x.op else x.op)) := by rw [formT, if_pos h12]
      rw [hf]
      rcases h12 with h1 | h1 <;> cases tn
      all_goals
        repeat' (first | (with_reducible refine use_pure hk ?_) | ((with_reducible refine wT ?_); (first | (fail_if_success (have := nl1)); with_reducible refine wN fun nl1 hnl => ?_ | with_reducible refine wN fun _ hnl => ?_); revert hnl; (repeat with_reducible refine wS fun _ _ => ?_); intro hnl) | (with_reducible first | refine mdraw_plain mixed (by decide +kernel) ?_ | refine wI (fun h => ?_) (fun h => ?_) | refine wF (fun h => ?_) (fun h => ?_) | refine wG (fun h => ?_) (fun h => ?_) | refine wH (fun h => ?_) (fun h => ?_)) | (with_reducible refine mfork_bool (fun h => ?_) (fun h => ?_) <;> simp only [h]) | (with_reducible refine mgfork_bool (fun h => ?_) (fun h => ?_) <;> simp only [h]) | (simp (config := { maxSteps := 4000000 }) (disch := first | decide | assumption | omega | (simp only [wL]; omega)) only [go_sem, Nat.reduceAdd, Nat.reduceSub, Nat.reduceMul, Nat.reduceDiv, Nat.reduceMod, Nat.reduceLT, Nat.reduceLeDiff, Nat.reduceEqDiff, Nat.reduceSucc, Nat.reduceGT, Int.reduceAdd, Int.reduceSub, Int.reduceMul, Int.reduceNeg, Int.reduceLT, Int.reduceLE, Int.reduceEq, Int.reduceToNat, reduceIte, Try.f40, h1]))
        exact .vecAll (set_hit _ _ _) rfl
    · have h1 : ¬ x.op = 1 := fun e => h12 (.inl e)
      have h2 : ¬ x.op = 2 := fun e => h12 (.inr e)
      have hf : formT (.leaf x) tn = if tn = true then .one (nd 10) (.leaf x) else .leaf x := by rw [formT, if_neg h12]
      rw [hf]
      cases tn
      · repeat' (first | (with_reducible refine use_pure hk ?_) | ((with_reducible refine wT ?_); (first | (fail_if_success (have := nl1)); with_reducible refine wN fun nl1 hnl => ?_ | with_reducible refine wN fun _ hnl => ?_); revert hnl; (repeat with_reducible refine wS fun _ _ => ?_); intro hnl) | (with_reducible first | refine mdraw_plain mixed (by decide +kernel) ?_ | refine wI (fun h => ?_) (fun h => ?_) | refine wF (fun h => ?_) (fun h => ?_) | refine wG (fun h => ?_) (fun h => ?_) | refine wH (fun h => ?_) (fun h => ?_)) | (with_reducible refine mfork_bool (fun h => ?_) (fun h => ?_) <;> simp only [h]) | (with_reducible refine mgfork_bool (fun h => ?_) (fun h => ?_) <;> simp only [h]) | (simp (config := { maxSteps := 4000000 }) (disch := first | decide | assumption | omega | (simp only [wL]; omega)) only [go_sem, Nat.reduceAdd, Nat.reduceSub, Nat.reduceMul, Nat.reduceDiv, Nat.reduceMod, Nat.reduceLT, Nat.reduceLeDiff, Nat.reduceEqDiff, Nat.reduceSucc, Nat.reduceGT, Int.reduceAdd, Int.reduceSub, Int.reduceMul, Int.reduceNeg, Int.reduceLT, Int.reduceLE, Int.reduceEq, Int.reduceToNat, reduceIte, Try.f40]))
        exact .same _
      · have hj := rjoin_call 10 [[x]] false (by simp) (fun l hl => by rw [List.mem_singleton.1 hl]; simp)
        simp only [List.map_cons, List.map_nil, lcell] at hj
        repeat' (first | (with_reducible refine use_pure hk ?_) | ((with_reducible refine wT ?_); (first | (fail_if_success (have := nl1)); with_reducible refine wN fun nl1 hnl => ?_ | with_reducible refine wN fun _ hnl => ?_); revert hnl; (repeat with_reducible refine wS fun _ _ => ?_); intro hnl) | (with_reducible first | refine mdraw_plain mixed (by decide +kernel) ?_ | refine wI (fun h => ?_) (fun h => ?_) | refine wF (fun h => ?_) (fun h => ?_) | refine wG (fun h => ?_) (fun h => ?_) | refine wH (fun h => ?_) (fun h => ?_)) | (with_reducible refine mfork_bool (fun h => ?_) (fun h => ?_) <;> simp only [h]) | (with_reducible refine mgfork_bool (fun h => ?_) (fun h => ?_) <;> simp only [h]) | (simp (config := { maxSteps := 4000000 }) (disch := first | decide | assumption | omega | (simp only [wL]; omega)) only [go_sem, Nat.reduceAdd, Nat.reduceSub, Nat.reduceMul, Nat.reduceDiv, Nat.reduceMod, Nat.reduceLT, Nat.reduceLeDiff, Nat.reduceEqDiff, Nat.reduceSucc, Nat.reduceGT, Int.reduceAdd, Int.reduceSub, Int.reduceMul, Int.reduceNeg, Int.reduceLT, Int.reduceLE, Int.reduceEq, Int.reduceToNat, reduceIte, Try.f40]))
        refine use_give1 _ nl1 hj (set_hit _ _ _) rfl (views_two (.same _) (.vecAll (set_hit _ _ _) rfl)) ?_
        repeat' (first | ((with_reducible refine wT ?_); (first | (fail_if_success (have := nl1)); with_reducible refine wN fun nl1 hnl => ?_ | with_reducible refine wN fun _ hnl => ?_); revert hnl; (repeat with_reducible refine wS fun _ _ => ?_); intro hnl) | (with_reducible first | refine mdraw_plain mixed (by decide +kernel) ?_ | refine wI (fun h => ?_) (fun h => ?_) | refine wF (fun h => ?_) (fun h => ?_) | refine wG (fun h => ?_) (fun h => ?_) | refine wH (fun h => ?_) (fun h => ?_)) | (with_reducible refine mfork_bool (fun h => ?_) (fun h => ?_) <;> simp only [h]) | (with_reducible refine mgfork_bool (fun h => ?_) (fun h => ?_) <;> simp only [h]) | (simp (config := { maxSteps := 4000000 }) (disch := first | decide | assumption | omega | (simp only [wL]; omega)) only [go_sem, Nat.reduceAdd, Nat.reduceSub, Nat.reduceMul, Nat.reduceDiv, Nat.reduceMod, Nat.reduceLT, Nat.reduceLeDiff, Nat.reduceEqDiff, Nat.reduceSucc, Nat.reduceGT, Int.reduceAdd, Int.reduceSub, Int.reduceMul, Int.reduceNeg, Int.reduceLT, Int.reduceLE, Int.reduceEq, Int.reduceToNat, reduceIte]))
        exact .same _
  | .one x a, tn, g, hl => by
    refine (MCalls.body 54 [.tmp 4] Try.func40 rfl rfl rfl rfl ?_)
    have hk := rkids_call (.one x a) g.1 (by omega) false
    have h1 := parts_one g.1.1
    have hla : a.fl.length ≤ 100 := by simp only [T.fl, List.length_cons] at hl; omega
    have ih := rform_call a (!tn) (good_one.1 g).2.2 hla
    simp only [T.fl, T.kl, T.kids, List.map_cons, List.map_nil] at hk ⊢
    rw [formT]
    repeat' (first | (with_reducible refine use_pure hk ?_) | (with_reducible refine use_pure ih ?_) | ((with_reducible refine wT ?_); (first | (fail_if_success (have := nl1)); with_reducible refine wN fun nl1 hnl => ?_ | with_reducible refine wN fun _ hnl => ?_); revert hnl; (repeat with_reducible refine wS fun _ _ => ?_); intro hnl) | (with_reducible first | refine mdraw_plain mixed (by decide +kernel) ?_ | refine wI (fun h => ?_) (fun h => ?_) | refine wF (fun h => ?_) (fun h => ?_) | refine wG (fun h => ?_) (fun h => ?_) | refine wH (fun h => ?_) (fun h => ?_)) | (with_reducible refine mfork_bool (fun h => ?_) (fun h => ?_) <;> simp only [h]) | (with_reducible refine mgfork_bool (fun h => ?_) (fun h => ?_) <;> simp only [h]) | (simp (config := { maxSteps := 4000000 }) (disch := first | decide | assumption | omega | (simp only [wL]; omega)) only [go_sem, Nat.reduceAdd, Nat.reduceSub, Nat.reduceMul, Nat.reduceDiv, Nat.reduceMod, Nat.reduceLT, Nat.reduceLeDiff, Nat.reduceEqDiff, Nat.reduceSucc, Nat.reduceGT, Int.reduceAdd, Int.reduceSub, Int.reduceMul, Int.reduceNeg, Int.reduceLT, Int.reduceLE, Int.reduceEq, Int.reduceToNat, reduceIte, Try.f40, h1]))
  | .two x a b, tn, g, hl => by
    refine (MCalls.body 54 [.tmp 4] Try.func40 rfl rfl rfl rfl ?_)
    have hk := rkids_call (.two x a b) g.1 (by omega) false
    obtain ⟨q1, _, ga, gb⟩ := good_two.1 g
    have hla : a.fl.length ≤ 100 ∧ b.fl.length ≤ 100 := by simp only [T.fl, List.length_cons, List.length_append] at hl; omega
    have iha := rform_call a tn ga hla.1
    have ihb := rform_call b tn gb hla.2
    have hj := fun op hop => rjoined_call op hop (formT a tn) (formT b tn) (good_form tn ga) (good_form tn gb) (by have := formT_len a tn; omega) (by have := formT_len b tn; omega)
    simp only [T.fl, T.kl, T.kids, List.map_cons, List.map_nil] at hk ⊢
    rw [formT]
    have hop := op_turn (parts_two q1) tn
    obtain ⟨o, ho⟩ : ∃ o, (if tn = true then 23 - x.op else x.op) = o := ⟨_, rfl⟩
    rw [ho] at hop ⊢
    have hj' := hj o hop
    clear hop hj
    have fa := fmC_a (op := o) (a := a) (b := b) (tn := tn)
    have fb := fmC_b (op := o) (a := a) (b := b) (tn := tn) ga.1 gb.1
    have fj := fmC_j (op := o) (a := a) (b := b) (tn := tn)
    generalize fmC o a b tn = C at fa fb fj
    rcases parts_two q1 with h1 | h1 <;> cases tn
    all_goals
      rw [h1] at ho
      simp (config := { decide := true }) only [if_true, if_false, Bool.false_eq_true, Int.reduceSub] at ho
      subst ho
      repeat' (first | (with_reducible refine use_pure hk ?_) | ((with_reducible refine wT ?_); (first | (fail_if_success (have := nl1)); with_reducible refine wN fun nl1 hnl => ?_ | with_reducible refine wN fun _ hnl => ?_); revert hnl; (repeat with_reducible refine wS fun _ _ => ?_); intro hnl) | (with_reducible first | refine mdraw_plain mixed (by decide +kernel) ?_ | refine wI (fun h => ?_) (fun h => ?_) | refine wF (fun h => ?_) (fun h => ?_) | refine wG (fun h => ?_) (fun h => ?_) | refine wH (fun h => ?_) (fun h => ?_)) | (with_reducible refine mfork_bool (fun h => ?_) (fun h => ?_) <;> simp only [h]) | (with_reducible refine mgfork_bool (fun h => ?_) (fun h => ?_) <;> simp only [h]) | (simp (config := { maxSteps := 4000000 }) (disch := first | decide | assumption | omega | (simp only [wL]; omega)) only [go_sem, Nat.reduceAdd, Nat.reduceSub, Nat.reduceMul, Nat.reduceDiv, Nat.reduceMod, Nat.reduceLT, Nat.reduceLeDiff, Nat.reduceEqDiff, Nat.reduceSucc, Nat.reduceGT, Int.reduceAdd, Int.reduceSub, Int.reduceMul, Int.reduceNeg, Int.reduceLT, Int.reduceLE, Int.reduceEq, Int.reduceToNat, reduceIte, Try.f40, h1]))
      refine mdraw_know mixed (by decide +kernel) C ?_
      repeat' (first | (with_reducible refine know_pure fa iha ?_) | (with_reducible refine know_pure fb ihb ?_) | (with_reducible refine know_pure fj hj' ?_) | ((with_reducible refine wT ?_); (first | (fail_if_success (have := nl1)); with_reducible refine wN fun nl1 hnl => ?_ | with_reducible refine wN fun _ hnl => ?_); revert hnl; (repeat with_reducible refine wS fun _ _ => ?_); intro hnl) | (with_reducible first | refine mdraw_plain mixed (by decide +kernel) ?_ | refine wI (fun h => ?_) (fun h => ?_) | refine wF (fun h => ?_) (fun h => ?_) | refine wG (fun h => ?_) (fun h => ?_) | refine wH (fun h => ?_) (fun h => ?_)) | (with_reducible refine mfork_bool (fun h => ?_) (fun h => ?_) <;> simp only [h]) | (with_reducible refine mgfork_bool (fun h => ?_) (fun h => ?_) <;> simp only [h]) | (simp (config := { maxSteps := 4000000 }) (disch := first | decide | assumption | omega | (simp only [wL]; omega)) only [go_sem, Nat.reduceAdd, Nat.reduceSub, Nat.reduceMul, Nat.reduceDiv, Nat.reduceMod, Nat.reduceLT, Nat.reduceLeDiff, Nat.reduceEqDiff, Nat.reduceSucc, Nat.reduceGT, Int.reduceAdd, Int.reduceSub, Int.reduceMul, Int.reduceNeg, Int.reduceLT, Int.reduceLE, Int.reduceEq, Int.reduceToNat, reduceIte]))

theorem rof_not (l : List ND) (h : fitS l = false) : MCalls Try.prog 21 [.lst 5 (l.map ND.c) false] St.none (fun r _ => r = .nils) := by
  refine (MCalls.body 8 [.tmp 2] Try.func21 rfl rfl rfl rfl ?_)
  have h1 := rfit_call l false
  rw [h] at h1
  repeat' (first | (with_reducible refine use_pure h1 ?_) | ((with_reducible refine wT ?_); (first | (fail_if_success (have := nl1)); with_reducible refine wN fun nl1 hnl => ?_ | with_reducible refine wN fun _ hnl => ?_); revert hnl; (repeat with_reducible refine wS fun _ _ => ?_); intro hnl) | (with_reducible first | refine mdraw_plain mixed (by decide +kernel) ?_ | refine wI (fun h => ?_) (fun h => ?_) | refine wF (fun h => ?_) (fun h => ?_) | refine wG (fun h => ?_) (fun h => ?_) | refine wH (fun h => ?_) (fun h => ?_)) | (with_reducible refine mfork_bool (fun h => ?_) (fun h => ?_) <;> simp only [h]) | (with_reducible refine mgfork_bool (fun h => ?_) (fun h => ?_) <;> simp only [h]) | (simp (config := { maxSteps := 4000000 }) (disch := first | decide | assumption | omega | (simp only [wL]; omega)) only [go_sem, Nat.reduceAdd, Nat.reduceSub, Nat.reduceMul, Nat.reduceDiv, Nat.reduceMod, Nat.reduceLT, Nat.reduceLeDiff, Nat.reduceEqDiff, Nat.reduceSucc, Nat.reduceGT, Int.reduceAdd, Int.reduceSub, Int.reduceMul, Int.reduceNeg, Int.reduceLT, Int.reduceLE, Int.reduceEq, Int.reduceToNat, reduceIte, Try.f21]))
theorem rof_fit (t : T) (ht : FT t) : MCalls Try.prog 21 [.lst 5 (t.fl.map ND.c) false] St.none (fun r _ => r = .lst 5 ((formT t false).fl.map ND.c) false) := by
  refine (MCalls.body 8 [.tmp 2] Try.func21 rfl rfl rfl rfl ?_)
  have h1 := rfit_call t.fl false
  rw [ht.fit] at h1
  have h2 := rform_call t false ht.good (by have := ht.len; omega)
  repeat' (first | (with_reducible refine use_pure h1 ?_) | (with_reducible refine use_pure h2 ?_) | ((with_reducible refine wT ?_); (first | (fail_if_success (have := nl1)); with_reducible refine wN fun nl1 hnl => ?_ | with_reducible refine wN fun _ hnl => ?_); revert hnl; (repeat with_reducible refine wS fun _ _ => ?_); intro hnl) | (with_reducible first | refine mdraw_plain mixed (by decide +kernel) ?_ | refine wI (fun h => ?_) (fun h => ?_) | refine wF (fun h => ?_) (fun h => ?_) | refine wG (fun h => ?_) (fun h => ?_) | refine wH (fun h => ?_) (fun h => ?_)) | (with_reducible refine mfork_bool (fun h => ?_) (fun h => ?_) <;> simp only [h]) | (with_reducible refine mgfork_bool (fun h => ?_) (fun h => ?_) <;> simp only [h]) | (simp (config := { maxSteps := 4000000 }) (disch := first | decide | assumption | omega | (simp only [wL]; omega)) only [go_sem, Nat.reduceAdd, Nat.reduceSub, Nat.reduceMul, Nat.reduceDiv, Nat.reduceMod, Nat.reduceLT, Nat.reduceLeDiff, Nat.reduceEqDiff, Nat.reduceSucc, Nat.reduceGT, Int.reduceAdd, Int.reduceSub, Int.reduceMul, Int.reduceNeg, Int.reduceLT, Int.reduceLE, Int.reduceEq, Int.reduceToNat, reduceIte, Try.f21]))
end Go.Proofs.Ytielcgplbnlgbaa
end

section
/- Contract of logic.column: the conditions that the theorem names. -/
set_option linter.unusedVariables false
set_option linter.unusedSimpArgs false
namespace Go.Proofs.Ytielcgplbnlgbaa

/-- A table's cells. -/
def tabM (h : Nat → Nat) : List MV := (List.range 16).map fun i => .int .u64 (h i : Int)
abbrev tabV (f : Nat → Bool) : MV := .agg (tabM (tw f))

theorem tabM_len (h : Nat → Nat) : (tabM h).length = 16 := by simp [tabM]
theorem tabM_get {h : Nat → Nat} {i : Nat} (hi : i < 16) {d : MV} : (tabM h).getD i d = .int .u64 (h i : Int) := by
  simp [tabM, List.getD, hi]
theorem tabM_get1 {h : Nat → Nat} {i : Nat} (hi : i < 16) {d : MV} : (tabM h).getD (i * 1) d = .int .u64 (h i : Int) := by
  rw [Nat.mul_one]; exact tabM_get hi
theorem tabM_ext {h g : Nat → Nat} (e : ∀ i, i < 16 → h i = g i) : tabM h = tabM g := by
  unfold tabM
  exact List.map_congr_left fun i hi => by rw [e i (List.mem_range.1 hi)]
theorem tabM_all (h : Nat → Nat) : (tabM h).all MV.isCell = true := by simp [tabM, MV.isCell]
theorem tabM_take (h : Nat → Nat) : (tabM h).take 16 = tabM h := List.take_of_length_le (by rw [tabM_len]; omega)
theorem tabM_drop (h : Nat → Nat) : (tabM h).drop 16 = [] := List.drop_of_length_le (by rw [tabM_len]; omega)
theorem tabM_laid {h : Nat → Nat} {i v : Nat} (hi : i < 16) : (tabM h).take i ++ (MV.int .u64 (v : Int) :: (tabM h).drop (i + 1)) = tabM (fun k => if k = i then v else h k) := by
  apply List.ext_getElem?
  intro k
  have h1 : ((tabM h).take i).length = i := by rw [List.length_take, tabM_len]; omega
  rcases Nat.lt_trichotomy k i with hk | hk | hk
  · rw [List.getElem?_append_left (by omega), List.getElem?_take, if_pos hk]
    simp [tabM, show k < 16 by omega, Nat.ne_of_lt hk]
  · subst hk
    rw [List.getElem?_append_right (by omega), h1, Nat.sub_self]
    simp [tabM, hi]
  · rw [List.getElem?_append_right (by omega), h1]
    obtain ⟨j, rfl⟩ : ∃ j, k = i + 1 + j := ⟨k - (i + 1), by omega⟩
    rw [show i + 1 + j - i = j + 1 by omega, List.getElem?_cons_succ, List.getElem?_drop]
    by_cases hk16 : i + 1 + j < 16
    · simp [tabM, hk16, show i + 1 + j ≠ i by omega]
    · simp [tabM, hk16]

theorem fdiv_nat (i k : Nat) : ((i : Int)).fdiv (2 ^ k) = ((i / 2 ^ k : Nat) : Int) := by
  rw [Int.fdiv_eq_ediv_of_nonneg _ (Int.pow_nonneg (by omega))]
  exact_mod_cast rfl

theorem bit_of (i k b : Nat) (hi : i < 2 ^ b) : i / 2 ^ (min k b) % 2 = if i.testBit k = true then 1 else 0 := by
  have e : i / 2 ^ (min k b) % 2 = i / 2 ^ k % 2 := by
    rcases Nat.le_total k b with h | h
    · rw [Nat.min_eq_left h]
    · rw [Nat.min_eq_right h, Nat.div_eq_of_lt hi, Nat.div_eq_of_lt (Nat.lt_of_lt_of_le hi (Nat.pow_le_pow_right (by omega) h))]
  rw [e]
  by_cases h : i.testBit k = true
  · rw [if_pos h]
    simpa [Nat.testBit_eq_decide_div_mod_eq] using h
  · rw [if_neg h]
    rw [Nat.testBit_eq_decide_div_mod_eq, decide_eq_true_eq] at h
    omega

theorem bit_i64 (i k : Nat) (hi : i < 9223372036854775808) : andK .i64 (((i : Int)).fdiv (2 ^ min k 64)) 1 = if i.testBit k = true then 1 else 0 := by
  show IntKind.i64.wrap (((BitVec.ofInt 64 (((i : Int)).fdiv (2 ^ min k 64)) &&& BitVec.ofInt 64 1).toNat : Nat) : Int) = _
  rw [fdiv_nat, BitVec.ofInt_natCast, BitVec.toNat_and, BitVec.toNat_ofNat, show (BitVec.ofInt 64 1).toNat = 2 ^ 1 - 1 by decide, Nat.and_two_pow_sub_one_eq_mod, Nat.mod_eq_of_lt (Nat.lt_of_le_of_lt (Nat.div_le_self ..) (by omega)), show 2 ^ 1 = 2 by decide, bit_of i k 64 (by omega)]
  split <;> rfl

theorem bit_u32 (i k : Nat) (hi : i < 4294967296) : andK .u32 (((i : Int)).fdiv (2 ^ min k 32)) 1 = if i.testBit k = true then 1 else 0 := by
  show IntKind.u32.wrap (((BitVec.ofInt 32 (((i : Int)).fdiv (2 ^ min k 32)) &&& BitVec.ofInt 32 1).toNat : Nat) : Int) = _
  rw [fdiv_nat, BitVec.ofInt_natCast, BitVec.toNat_and, BitVec.toNat_ofNat, show (BitVec.ofInt 32 1).toNat = 2 ^ 1 - 1 by decide, Nat.and_two_pow_sub_one_eq_mod, Nat.mod_eq_of_lt (Nat.lt_of_le_of_lt (Nat.div_le_self ..) (by omega)), show 2 ^ 1 = 2 by decide, bit_of i k 32 (by omega)]
  split <;> rfl

def row6 : List MV := [.int .u64 12297829382473034410, .int .u64 14757395258967641292, .int .u64 17361641481138401520, .int .u64 18374966859414961920, .int .u64 18446462603027742720, .int .u64 18446744069414584320]
theorem row6_get {p : Nat} (hp : p < 6) {d : MV} : row6.getD p d = .int .u64 ((wd (fun j => j.testBit p) 64 : Nat) : Int) := by
  have h : p = 0 ∨ p = 1 ∨ p = 2 ∨ p = 3 ∨ p = 4 ∨ p = 5 := by omega
  rcases h with rfl | rfl | rfl | rfl | rfl | rfl
  · rw [show wd (fun j => j.testBit 0) 64 = 12297829382473034410 by decide +kernel]; rfl
  · rw [show wd (fun j => j.testBit 1) 64 = 14757395258967641292 by decide +kernel]; rfl
  · rw [show wd (fun j => j.testBit 2) 64 = 17361641481138401520 by decide +kernel]; rfl
  · rw [show wd (fun j => j.testBit 3) 64 = 18374966859414961920 by decide +kernel]; rfl
  · rw [show wd (fun j => j.testBit 4) 64 = 18446462603027742720 by decide +kernel]; rfl
  · rw [show wd (fun j => j.testBit 5) 64 = 18446744069414584320 by decide +kernel]; rfl

theorem tw_col (p i : Nat) : tw (fun on => on.testBit p) i = if p < 6 then wd (fun j => j.testBit p) 64 else if i.testBit (p - 6) = true then 18446744073709551615 else 0 := by
  unfold tw
  split
  · rename_i h
    exact wd_ext fun j hj => by show (64 * i + j).testBit p = _; rw [add_bit hj, if_pos h]
  · rename_i h
    split
    · rename_i h2
      rw [show (18446744073709551615 : Nat) = 2 ^ 64 - 1 by decide, ← wd_ones]
      exact wd_ext fun j hj => by show (64 * i + j).testBit p = _; rw [add_bit hj, if_neg h, h2]
    · rename_i h2
      rw [← wd_zero 64]
      exact wd_ext fun j hj => by show (64 * i + j).testBit p = _; rw [add_bit hj, if_neg h]; simpa using h2

theorem ofNat_lt {w : Nat} (h : w < 18446744073709551616) : (BitVec.ofInt 64 (w : Int)).toNat = w := by
  rw [BitVec.ofInt_natCast, BitVec.toNat_ofNat, Nat.mod_eq_of_lt (by omega)]
theorem wrap_u64 {w : Nat} (h : w < 18446744073709551616) : IntKind.u64.wrap (w : Int) = w := by
  simp only [IntKind.wrap, IntKind.signed, IntKind.bits]
  simp
  omega
theorem and_u64 {a b : Nat} (ha : a < 18446744073709551616) (hb : b < 18446744073709551616) : andK .u64 (a : Int) (b : Int) = ((a &&& b : Nat) : Int) := by
  show IntKind.u64.wrap (((BitVec.ofInt 64 (a : Int) &&& BitVec.ofInt 64 (b : Int)).toNat : Nat) : Int) = _
  rw [BitVec.toNat_and, ofNat_lt ha, ofNat_lt hb]
  exact wrap_u64 (Nat.and_lt_two_pow _ (n := 64) (by omega))
theorem or_u64 {a b : Nat} (ha : a < 18446744073709551616) (hb : b < 18446744073709551616) : orK .u64 (a : Int) (b : Int) = ((a ||| b : Nat) : Int) := by
  show IntKind.u64.wrap (((BitVec.ofInt 64 (a : Int) ||| BitVec.ofInt 64 (b : Int)).toNat : Nat) : Int) = _
  rw [BitVec.toNat_or, ofNat_lt ha, ofNat_lt hb]
  exact wrap_u64 (Nat.or_lt_two_pow (n := 64) (by omega) (by omega))
theorem not_u64 {a : Nat} (ha : a < 18446744073709551616) : notK .u64 (a : Int) = (((2 ^ 64 - 1) ^^^ a : Nat) : Int) := by
  show IntKind.u64.wrap (((BitVec.ofInt 64 18446744073709551615 ^^^ BitVec.ofInt 64 (a : Int)).toNat : Nat) : Int) = _
  rw [BitVec.toNat_xor, ofNat_lt ha, show (BitVec.ofInt 64 18446744073709551615).toNat = 2 ^ 64 - 1 by decide]
  exact wrap_u64 (Nat.xor_lt_two_pow (n := 64) (by omega) (by omega))
theorem andNot_u64 {a b : Nat} (ha : a < 18446744073709551616) (hb : b < 18446744073709551616) : andNotK .u64 (a : Int) (b : Int) = ((a &&& ((2 ^ 64 - 1) ^^^ b) : Nat) : Int) := by
  show IntKind.u64.wrap (((BitVec.ofInt 64 (a : Int) &&& ~~~BitVec.ofInt 64 (b : Int)).toNat : Nat) : Int) = _
  have e : (~~~BitVec.ofInt 64 (b : Int)) = BitVec.allOnes 64 ^^^ BitVec.ofInt 64 (b : Int) := by rw [BitVec.allOnes_xor]
  rw [e, BitVec.toNat_and, BitVec.toNat_xor, ofNat_lt ha, ofNat_lt hb, BitVec.toNat_allOnes]
  exact wrap_u64 (Nat.and_lt_two_pow _ (n := 64) (Nat.xor_lt_two_pow (by omega) (by omega)))
theorem tw_not (f : Nat → Bool) (i : Nat) : notK .u64 (tw f i : Int) = (tw (fun on => !f on) i : Int) := by
  rw [not_u64 (tw_lt f i)]
  exact congrArg _ (wd_not _ 64)
theorem tw_and (f g : Nat → Bool) (i : Nat) : andK .u64 (tw f i : Int) (tw g i : Int) = (tw (fun on => f on && g on) i : Int) := by
  rw [and_u64 (tw_lt f i) (tw_lt g i)]
  exact congrArg _ (wd_and _ _ 64)
theorem tw_or (f g : Nat → Bool) (i : Nat) : orK .u64 (tw f i : Int) (tw g i : Int) = (tw (fun on => f on || g on) i : Int) := by
  rw [or_u64 (tw_lt f i) (tw_lt g i)]
  exact congrArg _ (wd_or _ _ 64)
theorem tw_andNot (f g : Nat → Bool) (i : Nat) : andNotK .u64 (tw f i : Int) (tw g i : Int) = (tw (fun on => f on && !g on) i : Int) := by
  rw [andNot_u64 (tw_lt f i) (tw_lt g i)]
  exact congrArg _ ((congrArg (tw f i &&& ·) (wd_not _ 64)).trans (wd_and _ _ 64))
theorem tw_false (i : Nat) : tw (fun _ => false) i = 0 := wd_zero 64
theorem tw_zero {f : Nat → Bool} {i : Nat} : tw f i = 0 ↔ ∀ j, j < 64 → f (64 * i + j) = false := wd_iff0

set_option maxHeartbeats 2000000 in
theorem column_call (p : Nat) (hp : p ≤ 1000000) : MCalls Try.prog 78 [.int .i64 (p : Int)] St.none (fun r _ => r = tabV fun on => on.testBit p) := by
  refine (MCalls.body 30 [.cell 2 54] Try.func78 rfl rfl rfl rfl ?_)
  repeat' (first | ((with_reducible refine wN fun nl hnl => ?_); revert hnl; (repeat with_reducible refine wS fun _ _ => ?_); intro hnl) | (with_reducible first | refine mdraw_plain mixed (by decide +kernel) ?_ | refine wI (fun h => ?_) (fun h => ?_) | refine wF (fun h => ?_) (fun h => ?_) | refine wG (fun h => ?_) (fun h => ?_) | refine wH (fun h => ?_) (fun h => ?_)) | (with_reducible refine mfork_bool (fun h => ?_) (fun h => ?_) <;> simp only [h]) | (with_reducible refine mgfork_bool (fun h => ?_) (fun h => ?_) <;> simp only [h]) | (simp (config := { maxSteps := 4000000 }) (disch := first | decide | assumption | omega | (simp only [wL]; omega)) only [go_sem, Nat.reduceAdd, Nat.reduceSub, Nat.reduceMul, Nat.reduceDiv, Nat.reduceMod, Nat.reduceLT, Nat.reduceLeDiff, Nat.reduceEqDiff, Nat.reduceSucc, Nat.reduceGT, Int.reduceAdd, Int.reduceSub, Int.reduceMul, Int.reduceNeg, Int.reduceLT, Int.reduceLE, Int.reduceEq, Int.reduceToNat, reduceIte, Try.f78]))
  rename_i n1 _ n2 _ _ _ _ _ _ _
  refine mloop_intro (α := Nat) (fun i => ⟨30, [(7, .int .i64 (i : Int)), (4, .ptr nl 0 0), (3, .ptr n2 0 0), (2, .ptr n1 0 0), (0, .int .i64 (p : Int))], []⟩)
    (fun i => ((St.none.set n1 (.row 54 16 [tabM fun _ => 0])).set n2 (.row 54 16 [tabM fun k => if k < i then tw (fun on => on.testBit p) k else 0])).set nl (.row 111 6 [row6]))
    (fun i => i ≤ 16) (fun i => 16 - i) (.of (.less ?_ (St.le_refl _)) ⟨0, rfl, rfl, by omega⟩) ?_
  · simp (config := { maxSteps := 4000000 }) (disch := first | decide | assumption | omega | (simp only [wL]; omega)) only [go_sem, Nat.reduceAdd, Nat.reduceSub, Nat.reduceMul, Nat.reduceDiv, Nat.reduceMod, Nat.reduceLT, Nat.reduceLeDiff, Nat.reduceEqDiff, Nat.reduceSucc, Nat.reduceGT, Int.reduceAdd, Int.reduceSub, Int.reduceMul, Int.reduceNeg, Int.reduceLT, Int.reduceLE, Int.reduceEq, Int.reduceToNat, reduceIte, weak_int, weak_same]
    rfl
  · intro i hi
    have hl6 : row6.length = 6 := rfl
    have step : ∀ v : Nat, i < 16 → v = tw (fun on => on.testBit p) i → (tabM fun k => if k = i then v else if k < i then tw (fun on => on.testBit p) k else 0) = tabM fun k => if k < i + 1 then tw (fun on => on.testBit p) k else 0 := by
      intro v hlt hv
      refine tabM_ext fun k hk => ?_
      by_cases h1 : k = i
      · subst h1; rw [if_pos rfl, if_pos (by omega), hv]
      · rw [if_neg h1]
        by_cases h2 : k < i
        · rw [if_pos h2, if_pos (by omega)]
        · rw [if_neg h2, if_neg (by omega)]
    by_cases hlt : i < 16
    · by_cases h6 : p < 6
      · have hg := row6_get h6 (d := MV.junk)
        repeat' (first | ((with_reducible refine wN fun nl hnl => ?_); revert hnl; (repeat with_reducible refine wS fun _ _ => ?_); intro hnl) | (with_reducible first | refine mdraw_plain mixed (by decide +kernel) ?_ | refine wI (fun h => ?_) (fun h => ?_) | refine wF (fun h => ?_) (fun h => ?_) | refine wG (fun h => ?_) (fun h => ?_) | refine wH (fun h => ?_) (fun h => ?_)) | (with_reducible refine mfork_bool (fun h => ?_) (fun h => ?_) <;> simp only [h]) | (with_reducible refine mgfork_bool (fun h => ?_) (fun h => ?_) <;> simp only [h]) | (simp (config := { maxSteps := 4000000 }) (disch := first | decide | assumption | omega | (simp only [wL]; omega)) only [go_sem, Nat.reduceAdd, Nat.reduceSub, Nat.reduceMul, Nat.reduceDiv, Nat.reduceMod, Nat.reduceLT, Nat.reduceLeDiff, Nat.reduceEqDiff, Nat.reduceSucc, Nat.reduceGT, Int.reduceAdd, Int.reduceSub, Int.reduceMul, Int.reduceNeg, Int.reduceLT, Int.reduceLE, Int.reduceEq, Int.reduceToNat, reduceIte, Nat.mul_one, hg, hl6, tabM_len, List.append_assoc, tabM_laid hlt]))
        refine .of (.less ?_ ?_) ⟨i + 1, rfl, rfl, by omega, by omega⟩
        · simp (config := { maxSteps := 4000000 }) (disch := first | decide | assumption | omega | (simp only [wL]; omega)) only [go_sem, Nat.reduceAdd, Nat.reduceSub, Nat.reduceMul, Nat.reduceDiv, Nat.reduceMod, Nat.reduceLT, Nat.reduceLeDiff, Nat.reduceEqDiff, Nat.reduceSucc, Nat.reduceGT, Int.reduceAdd, Int.reduceSub, Int.reduceMul, Int.reduceNeg, Int.reduceLT, Int.reduceLE, Int.reduceEq, Int.reduceToNat, reduceIte, weak_int, weak_same]
          all_goals rfl
        · rw [← step _ hlt (by rw [tw_col, if_pos h6])]
          exact St.le_refl _
      · have hb := bit_i64 i (p - 6) (by omega)
        have e6 : ((p : Int) - 6).toNat = p - 6 := by omega
        cases hbt : i.testBit (p - 6)
        · rw [hbt, if_neg (by simp)] at hb
          repeat' (first | ((with_reducible refine wN fun nl hnl => ?_); revert hnl; (repeat with_reducible refine wS fun _ _ => ?_); intro hnl) | (with_reducible first | refine mdraw_plain mixed (by decide +kernel) ?_ | refine wI (fun h => ?_) (fun h => ?_) | refine wF (fun h => ?_) (fun h => ?_) | refine wG (fun h => ?_) (fun h => ?_) | refine wH (fun h => ?_) (fun h => ?_)) | (with_reducible refine mfork_bool (fun h => ?_) (fun h => ?_) <;> simp only [h]) | (with_reducible refine mgfork_bool (fun h => ?_) (fun h => ?_) <;> simp only [h]) | (simp (config := { maxSteps := 4000000 }) (disch := first | decide | assumption | omega | (simp only [wL]; omega)) only [go_sem, Nat.reduceAdd, Nat.reduceSub, Nat.reduceMul, Nat.reduceDiv, Nat.reduceMod, Nat.reduceLT, Nat.reduceLeDiff, Nat.reduceEqDiff, Nat.reduceSucc, Nat.reduceGT, Int.reduceAdd, Int.reduceSub, Int.reduceMul, Int.reduceNeg, Int.reduceLT, Int.reduceLE, Int.reduceEq, Int.reduceToNat, reduceIte, Nat.mul_one, hl6, tabM_len, List.append_assoc, tabM_laid hlt, e6]))
          · refine .of (.less ?_ ?_) ⟨i + 1, rfl, rfl, by omega, by omega⟩
            · simp (config := { maxSteps := 4000000 }) (disch := first | decide | assumption | omega | (simp only [wL]; omega)) only [go_sem, Nat.reduceAdd, Nat.reduceSub, Nat.reduceMul, Nat.reduceDiv, Nat.reduceMod, Nat.reduceLT, Nat.reduceLeDiff, Nat.reduceEqDiff, Nat.reduceSucc, Nat.reduceGT, Int.reduceAdd, Int.reduceSub, Int.reduceMul, Int.reduceNeg, Int.reduceLT, Int.reduceLE, Int.reduceEq, Int.reduceToNat, reduceIte, weak_int, weak_same]
              all_goals rfl
            · rw [← step 0 hlt (by rw [tw_col, if_neg h6, hbt, if_neg (by simp)])]
              rw [show (tabM fun k => if k = i then 0 else if k < i then tw (fun on => on.testBit p) k else 0) = tabM fun k => if k < i then tw (fun on => on.testBit p) k else 0 from tabM_ext fun k hk => by
                by_cases h1 : k = i
                · subst h1; rw [if_pos rfl, if_neg (by omega)]
                · rw [if_neg h1]]
              exact St.le_refl _
        · rw [hbt, if_pos rfl] at hb
          repeat' (first | ((with_reducible refine wN fun nl hnl => ?_); revert hnl; (repeat with_reducible refine wS fun _ _ => ?_); intro hnl) | (with_reducible first | refine mdraw_plain mixed (by decide +kernel) ?_ | refine wI (fun h => ?_) (fun h => ?_) | refine wF (fun h => ?_) (fun h => ?_) | refine wG (fun h => ?_) (fun h => ?_) | refine wH (fun h => ?_) (fun h => ?_)) | (with_reducible refine mfork_bool (fun h => ?_) (fun h => ?_) <;> simp only [h]) | (with_reducible refine mgfork_bool (fun h => ?_) (fun h => ?_) <;> simp only [h]) | (simp (config := { maxSteps := 4000000 }) (disch := first | decide | assumption | omega | (simp only [wL]; omega)) only [go_sem, Nat.reduceAdd, Nat.reduceSub, Nat.reduceMul, Nat.reduceDiv, Nat.reduceMod, Nat.reduceLT, Nat.reduceLeDiff, Nat.reduceEqDiff, Nat.reduceSucc, Nat.reduceGT, Int.reduceAdd, Int.reduceSub, Int.reduceMul, Int.reduceNeg, Int.reduceLT, Int.reduceLE, Int.reduceEq, Int.reduceToNat, reduceIte, Nat.mul_one, hl6, tabM_len, List.append_assoc, tabM_laid hlt, e6]))
          · refine .of (.less ?_ ?_) ⟨i + 1, rfl, rfl, by omega, by omega⟩
            · simp (config := { maxSteps := 4000000 }) (disch := first | decide | assumption | omega | (simp only [wL]; omega)) only [go_sem, Nat.reduceAdd, Nat.reduceSub, Nat.reduceMul, Nat.reduceDiv, Nat.reduceMod, Nat.reduceLT, Nat.reduceLeDiff, Nat.reduceEqDiff, Nat.reduceSucc, Nat.reduceGT, Int.reduceAdd, Int.reduceSub, Int.reduceMul, Int.reduceNeg, Int.reduceLT, Int.reduceLE, Int.reduceEq, Int.reduceToNat, reduceIte, weak_int, weak_same]
              all_goals rfl
            · rw [← step _ hlt (by rw [tw_col, if_neg h6, hbt, if_pos rfl])]
              rw [← tabM_laid hlt]
              exact St.le_refl _
    · have : i = 16 := by omega
      subst this
      repeat' (first | ((with_reducible refine wN fun nl hnl => ?_); revert hnl; (repeat with_reducible refine wS fun _ _ => ?_); intro hnl) | (with_reducible first | refine mdraw_plain mixed (by decide +kernel) ?_ | refine wI (fun h => ?_) (fun h => ?_) | refine wF (fun h => ?_) (fun h => ?_) | refine wG (fun h => ?_) (fun h => ?_) | refine wH (fun h => ?_) (fun h => ?_)) | (with_reducible refine mfork_bool (fun h => ?_) (fun h => ?_) <;> simp only [h]) | (with_reducible refine mgfork_bool (fun h => ?_) (fun h => ?_) <;> simp only [h]) | (simp (config := { maxSteps := 4000000 }) (disch := first | decide | assumption | omega | (simp only [wL]; omega)) only [go_sem, Nat.reduceAdd, Nat.reduceSub, Nat.reduceMul, Nat.reduceDiv, Nat.reduceMod, Nat.reduceLT, Nat.reduceLeDiff, Nat.reduceEqDiff, Nat.reduceSucc, Nat.reduceGT, Int.reduceAdd, Int.reduceSub, Int.reduceMul, Int.reduceNeg, Int.reduceLT, Int.reduceLE, Int.reduceEq, Int.reduceToNat, reduceIte, tabM_len, tabM_all, tabM_take, tabM_drop, Nat.min_self]))
      exact congrArg MV.agg (tabM_ext fun k hk => if_pos hk)
end Go.Proofs.Ytielcgplbnlgbaa
end

section
/- Contract of logic.filled: the conditions that the theorem names. -/
set_option linter.unusedVariables false
set_option linter.unusedSimpArgs false
namespace Go.Proofs.Ytielcgplbnlgbaa

theorem tabM_step {h g : Nat → Nat} {i : Nat} (hi : i < 16) : (tabM fun k => if k < i then h k else g k).take i ++ (MV.int .u64 (h i : Int) :: (tabM fun k => if k < i then h k else g k).drop (i + 1)) = tabM fun k => if k < i + 1 then h k else g k := by
  rw [tabM_laid hi]
  refine tabM_ext fun k hk => ?_
  by_cases h1 : k = i
  · subst h1; rw [if_pos rfl, if_pos (by omega)]
  · rw [if_neg h1]
    by_cases h2 : k < i
    · rw [if_pos h2, if_pos (by omega)]
    · rw [if_neg h2, if_neg (by omega)]
theorem tabM_done {h g : Nat → Nat} : (tabM fun k => if k < 16 then h k else g k) = tabM h := tabM_ext fun k hk => if_pos hk
theorem tabM_at {h g : Nat → Nat} {i : Nat} (hi : i < 16) {d : MV} : (tabM fun k => if k < i then h k else g k).getD i d = .int .u64 (g i : Int) := by
  rw [tabM_get hi, if_neg (by omega)]

theorem tabM_upd {h g : Nat → Nat} {i : Nat} (hi : i < 16) : (tabM fun k => if k = i then h i else if k < i then h k else g k) = tabM fun k => if k < i + 1 then h k else g k := by
  refine tabM_ext fun k hk => ?_
  by_cases h1 : k = i
  · subst h1; rw [if_pos rfl, if_pos (by omega)]
  · rw [if_neg h1]
    by_cases h2 : k < i
    · rw [if_pos h2, if_pos (by omega)]
    · rw [if_neg h2, if_neg (by omega)]
theorem tabM_upd2 {h g : Nat → Nat} {i v : Nat} (hi : i < 16) : (tabM fun k => if k = i then h i else if k = i then v else if k < i then h k else g k) = tabM fun k => if k < i + 1 then h k else g k := by
  rw [← tabM_upd hi]
  refine tabM_ext fun k hk => ?_
  by_cases h1 : k = i
  · rw [if_pos h1, if_pos h1]
  · rw [if_neg h1, if_neg h1, if_neg h1]
abbrev tz : List MV := tabM (tw fun _ => false)
theorem zero16 : [MV.int IntKind.u64 0, MV.int IntKind.u64 0, MV.int IntKind.u64 0, MV.int IntKind.u64 0, MV.int IntKind.u64 0, MV.int IntKind.u64 0, MV.int IntKind.u64 0, MV.int IntKind.u64 0, MV.int IntKind.u64 0, MV.int IntKind.u64 0, MV.int IntKind.u64 0, MV.int IntKind.u64 0, MV.int IntKind.u64 0, MV.int IntKind.u64 0, MV.int IntKind.u64 0, MV.int IntKind.u64 0] = tz := by
  rw [tz, show (tw fun _ => false) = fun _ => 0 from funext fun i => tw_false i]; rfl
theorem tz_start {h : Nat → Nat} : tz = tabM fun k => if k < 0 then h k else tw (fun _ => false) k := tabM_ext fun k hk => by rw [if_neg (by omega)]

def asP (l : List ND) (on : Nat) (x : ND) : Bool := on.testBit (posK l x)

set_option maxHeartbeats 8000000 in
theorem filled_call (al : List ND) (la : al.length ≤ 100000) (hr : Rising (al.map ND.key)) (ta : Bool) : ∀ (t : T), t.ok → ∀ (r : List ND) (tt : Bool), (t.fl ++ r).length ≤ 100000 →
    MCalls Try.prog 57 [.lst 5 ((t.fl ++ r).map ND.c) tt, .lst 5 (al.map ND.c) ta] St.none (fun v _ => v = .tup [tabV fun on => t.sem (asP al on), .lst 5 (r.map ND.c) tt])
  | .leaf x, h, r, tt, hl => by
    refine (MCalls.body 115 [.cell 4 54, .tmp 5] Try.func57 rfl rfl rfl rfl ?_)
    simp only [T.fl, List.cons_append, List.nil_append] at hl ⊢
    have hp : x.op ≠ 10 ∧ x.op ≠ 11 ∧ x.op ≠ 12 := by
      refine ⟨fun e => ?_, fun e => ?_, fun e => ?_⟩ <;> (simp only [T.ok, e] at h; revert h; decide)
    obtain ⟨p1, p2, p3⟩ := hp
    have hg : ((x :: r).map ND.c).getD 0 [] = x.c := rfl
    by_cases h2 : x.op = 2
    · have e : (tabV fun on => (T.leaf x).sem (asP al on)) = .agg tz := by simp [T.sem, h2]
      rw [e]
      repeat' (first | ((with_reducible refine wT ?_); (first | (fail_if_success (have := nl1)); with_reducible refine wN fun nl1 hnl => ?_ | (fail_if_success (have := nl2)); with_reducible refine wN fun nl2 hnl => ?_ | (fail_if_success (have := nl3)); with_reducible refine wN fun nl3 hnl => ?_ | (fail_if_success (have := nl4)); with_reducible refine wN fun nl4 hnl => ?_ | (fail_if_success (have := nl5)); with_reducible refine wN fun nl5 hnl => ?_ | with_reducible refine wN fun _ hnl => ?_); revert hnl; (repeat with_reducible refine wS fun _ _ => ?_); intro hnl) | (with_reducible first | refine mdraw_plain mixed (by decide +kernel) ?_ | refine wI (fun h => ?_) (fun h => ?_) | refine wF (fun h => ?_) (fun h => ?_) | refine wG (fun h => ?_) (fun h => ?_) | refine wH (fun h => ?_) (fun h => ?_)) | (with_reducible refine mfork_bool (fun h => ?_) (fun h => ?_) <;> simp only [h]) | (with_reducible refine mgfork_bool (fun h => ?_) (fun h => ?_) <;> simp only [h]) | (simp (config := { maxSteps := 4000000 }) (disch := first | decide | assumption | omega | (simp only [wL]; omega)) only [go_sem, Nat.reduceAdd, Nat.reduceSub, Nat.reduceMul, Nat.reduceDiv, Nat.reduceMod, Nat.reduceLT, Nat.reduceLeDiff, Nat.reduceEqDiff, Nat.reduceSucc, Nat.reduceGT, Int.reduceAdd, Int.reduceSub, Int.reduceMul, Int.reduceNeg, Int.reduceLT, Int.reduceLE, Int.reduceEq, Int.reduceToNat, reduceIte, Try.f57, hg, h2, List.drop_succ_cons, List.drop_zero, zero16, tabM_len, tabM_all, tabM_take, tabM_drop, Nat.min_self]))
    · by_cases h1 : x.op = 1
      · have e : (tabV fun on => (T.leaf x).sem (asP al on)) = tabV fun _ => true := by simp [T.sem, h1]
        rw [e]
        repeat' (first | ((with_reducible refine wT ?_); (first | (fail_if_success (have := nl1)); with_reducible refine wN fun nl1 hnl => ?_ | (fail_if_success (have := nl2)); with_reducible refine wN fun nl2 hnl => ?_ | (fail_if_success (have := nl3)); with_reducible refine wN fun nl3 hnl => ?_ | (fail_if_success (have := nl4)); with_reducible refine wN fun nl4 hnl => ?_ | (fail_if_success (have := nl5)); with_reducible refine wN fun nl5 hnl => ?_ | with_reducible refine wN fun _ hnl => ?_); revert hnl; (repeat with_reducible refine wS fun _ _ => ?_); intro hnl) | (with_reducible first | refine mdraw_plain mixed (by decide +kernel) ?_ | refine wI (fun h => ?_) (fun h => ?_) | refine wF (fun h => ?_) (fun h => ?_) | refine wG (fun h => ?_) (fun h => ?_) | refine wH (fun h => ?_) (fun h => ?_)) | (with_reducible refine mfork_bool (fun h => ?_) (fun h => ?_) <;> simp only [h]) | (with_reducible refine mgfork_bool (fun h => ?_) (fun h => ?_) <;> simp only [h]) | (simp (config := { maxSteps := 4000000 }) (disch := first | decide | assumption | omega | (simp only [wL]; omega)) only [go_sem, Nat.reduceAdd, Nat.reduceSub, Nat.reduceMul, Nat.reduceDiv, Nat.reduceMod, Nat.reduceLT, Nat.reduceLeDiff, Nat.reduceEqDiff, Nat.reduceSucc, Nat.reduceGT, Int.reduceAdd, Int.reduceSub, Int.reduceMul, Int.reduceNeg, Int.reduceLT, Int.reduceLE, Int.reduceEq, Int.reduceToNat, reduceIte, Try.f57, hg, h1, List.drop_succ_cons, List.drop_zero, zero16, tabM_len, tabM_all, tabM_take, tabM_drop, Nat.min_self]))
        refine mloop_intro (α := Nat) (fun i => ⟨115, [(32, .int .i64 (i : Int)), (8, .ptr nl3 0 0), (7, .lst 5 (r.map ND.c) tt), (4, .ptr nl1 0 0)], []⟩)
          (fun i => ((St.none.set nl1 (.row 54 16 [tz])).set nl2 (.row 49 5 [(⟨1, x.n, x.v⟩ : ND).c])).set nl3 (.row 54 16 [tabM fun k => if k < i then tw (fun _ => true) k else tw (fun _ => false) k]))
          (fun i => i ≤ 16) (fun i => 16 - i) (.of (.less ?_ (by rw [← tz_start]; exact St.le_refl _)) ⟨0, rfl, rfl, by omega⟩) ?_
        · simp (config := { maxSteps := 4000000 }) (disch := first | decide | assumption | omega | (simp only [wL]; omega)) only [go_sem, Nat.reduceAdd, Nat.reduceSub, Nat.reduceMul, Nat.reduceDiv, Nat.reduceMod, Nat.reduceLT, Nat.reduceLeDiff, Nat.reduceEqDiff, Nat.reduceSucc, Nat.reduceGT, Int.reduceAdd, Int.reduceSub, Int.reduceMul, Int.reduceNeg, Int.reduceLT, Int.reduceLE, Int.reduceEq, Int.reduceToNat, reduceIte, weak_int, weak_same]
          rfl
        · intro i hi
          by_cases hlt : i < 16
          · have hn := tw_not (fun _ => false) i
            simp only [Bool.not_false] at hn
            repeat' (first | ((with_reducible refine wT ?_); (first | (fail_if_success (have := nl1)); with_reducible refine wN fun nl1 hnl => ?_ | (fail_if_success (have := nl2)); with_reducible refine wN fun nl2 hnl => ?_ | (fail_if_success (have := nl3)); with_reducible refine wN fun nl3 hnl => ?_ | (fail_if_success (have := nl4)); with_reducible refine wN fun nl4 hnl => ?_ | (fail_if_success (have := nl5)); with_reducible refine wN fun nl5 hnl => ?_ | with_reducible refine wN fun _ hnl => ?_); revert hnl; (repeat with_reducible refine wS fun _ _ => ?_); intro hnl) | (with_reducible first | refine mdraw_plain mixed (by decide +kernel) ?_ | refine wI (fun h => ?_) (fun h => ?_) | refine wF (fun h => ?_) (fun h => ?_) | refine wG (fun h => ?_) (fun h => ?_) | refine wH (fun h => ?_) (fun h => ?_)) | (with_reducible refine mfork_bool (fun h => ?_) (fun h => ?_) <;> simp only [h]) | (with_reducible refine mgfork_bool (fun h => ?_) (fun h => ?_) <;> simp only [h]) | (simp (config := { maxSteps := 4000000 }) (disch := first | decide | assumption | omega | (simp only [wL]; omega)) only [go_sem, Nat.reduceAdd, Nat.reduceSub, Nat.reduceMul, Nat.reduceDiv, Nat.reduceMod, Nat.reduceLT, Nat.reduceLeDiff, Nat.reduceEqDiff, Nat.reduceSucc, Nat.reduceGT, Int.reduceAdd, Int.reduceSub, Int.reduceMul, Int.reduceNeg, Int.reduceLT, Int.reduceLE, Int.reduceEq, Int.reduceToNat, reduceIte, Nat.mul_one, tabM_len, List.append_assoc, tabM_at hlt, hn, tabM_laid hlt]))
            refine .of (.less ?_ (by rw [← tabM_upd hlt]; exact St.le_refl _)) ⟨i + 1, rfl, rfl, by omega, by omega⟩
            simp (config := { maxSteps := 4000000 }) (disch := first | decide | assumption | omega | (simp only [wL]; omega)) only [go_sem, Nat.reduceAdd, Nat.reduceSub, Nat.reduceMul, Nat.reduceDiv, Nat.reduceMod, Nat.reduceLT, Nat.reduceLeDiff, Nat.reduceEqDiff, Nat.reduceSucc, Nat.reduceGT, Int.reduceAdd, Int.reduceSub, Int.reduceMul, Int.reduceNeg, Int.reduceLT, Int.reduceLE, Int.reduceEq, Int.reduceToNat, reduceIte, weak_int, weak_same]
            rfl
          · have : i = 16 := by omega
            subst this
            repeat' (first | ((with_reducible refine wT ?_); (first | (fail_if_success (have := nl1)); with_reducible refine wN fun nl1 hnl => ?_ | (fail_if_success (have := nl2)); with_reducible refine wN fun nl2 hnl => ?_ | (fail_if_success (have := nl3)); with_reducible refine wN fun nl3 hnl => ?_ | (fail_if_success (have := nl4)); with_reducible refine wN fun nl4 hnl => ?_ | (fail_if_success (have := nl5)); with_reducible refine wN fun nl5 hnl => ?_ | with_reducible refine wN fun _ hnl => ?_); revert hnl; (repeat with_reducible refine wS fun _ _ => ?_); intro hnl) | (with_reducible first | refine mdraw_plain mixed (by decide +kernel) ?_ | refine wI (fun h => ?_) (fun h => ?_) | refine wF (fun h => ?_) (fun h => ?_) | refine wG (fun h => ?_) (fun h => ?_) | refine wH (fun h => ?_) (fun h => ?_)) | (with_reducible refine mfork_bool (fun h => ?_) (fun h => ?_) <;> simp only [h]) | (with_reducible refine mgfork_bool (fun h => ?_) (fun h => ?_) <;> simp only [h]) | (simp (config := { maxSteps := 4000000 }) (disch := first | decide | assumption | omega | (simp only [wL]; omega)) only [go_sem, Nat.reduceAdd, Nat.reduceSub, Nat.reduceMul, Nat.reduceDiv, Nat.reduceMod, Nat.reduceLT, Nat.reduceLeDiff, Nat.reduceEqDiff, Nat.reduceSucc, Nat.reduceGT, Int.reduceAdd, Int.reduceSub, Int.reduceMul, Int.reduceNeg, Int.reduceLT, Int.reduceLE, Int.reduceEq, Int.reduceToNat, reduceIte, tabM_len, tabM_done, tabM_all, tabM_take, tabM_drop, Nat.min_self]))
      · have e : (tabV fun on => (T.leaf x).sem (asP al on)) = tabV fun on => on.testBit (posK al x) := by simp [T.sem, h1, h2, asP]
        rw [e]
        have hb := bsearch_call al (by omega) ta x hr
        have hpl : posK al x ≤ 1000000 := Nat.le_trans List.findIdx_le_length (by omega)
        have hc := column_call (posK al x) hpl
        repeat' (first | (with_reducible refine use_pure hb ?_) | (with_reducible refine use_pure hc ?_) | ((with_reducible refine wT ?_); (first | (fail_if_success (have := nl1)); with_reducible refine wN fun nl1 hnl => ?_ | (fail_if_success (have := nl2)); with_reducible refine wN fun nl2 hnl => ?_ | (fail_if_success (have := nl3)); with_reducible refine wN fun nl3 hnl => ?_ | (fail_if_success (have := nl4)); with_reducible refine wN fun nl4 hnl => ?_ | (fail_if_success (have := nl5)); with_reducible refine wN fun nl5 hnl => ?_ | with_reducible refine wN fun _ hnl => ?_); revert hnl; (repeat with_reducible refine wS fun _ _ => ?_); intro hnl) | (with_reducible first | refine mdraw_plain mixed (by decide +kernel) ?_ | refine wI (fun h => ?_) (fun h => ?_) | refine wF (fun h => ?_) (fun h => ?_) | refine wG (fun h => ?_) (fun h => ?_) | refine wH (fun h => ?_) (fun h => ?_)) | (with_reducible refine mfork_bool (fun h => ?_) (fun h => ?_) <;> simp only [h]) | (with_reducible refine mgfork_bool (fun h => ?_) (fun h => ?_) <;> simp only [h]) | (simp (config := { maxSteps := 4000000 }) (disch := first | decide | assumption | omega | (simp only [wL]; omega)) only [go_sem, Nat.reduceAdd, Nat.reduceSub, Nat.reduceMul, Nat.reduceDiv, Nat.reduceMod, Nat.reduceLT, Nat.reduceLeDiff, Nat.reduceEqDiff, Nat.reduceSucc, Nat.reduceGT, Int.reduceAdd, Int.reduceSub, Int.reduceMul, Int.reduceNeg, Int.reduceLT, Int.reduceLE, Int.reduceEq, Int.reduceToNat, reduceIte, Try.f57, hg, h1, h2, List.drop_succ_cons, List.drop_zero, zero16, tabM_len, tabM_all, tabM_take, tabM_drop, Nat.min_self]))
  | .one x a, h, r, tt, hl => by
    refine (MCalls.body 115 [.cell 4 54, .tmp 5] Try.func57 rfl rfl rfl rfl ?_)
    have h1 := parts_one h.1
    have ih := filled_call al la hr ta a h.2 r tt (by simp only [T.fl, List.cons_append, List.length_cons] at hl; omega)
    simp only [T.fl, List.cons_append] at hl ⊢
    have hg : ((x :: (a.fl ++ r)).map ND.c).getD 0 [] = x.c := rfl
    have e : (tabV fun on => (T.one x a).sem (asP al on)) = tabV fun on => !a.sem (asP al on) := by simp [T.sem]
    rw [e]
    generalize hf : (fun on => a.sem (asP al on)) = f at ih
    have e2 : (fun on => !a.sem (asP al on)) = fun on => !f on := by rw [← hf]
    rw [e2]
    repeat' (first | (with_reducible refine use_pure ih ?_) | ((with_reducible refine wT ?_); (first | (fail_if_success (have := nl1)); with_reducible refine wN fun nl1 hnl => ?_ | (fail_if_success (have := nl2)); with_reducible refine wN fun nl2 hnl => ?_ | (fail_if_success (have := nl3)); with_reducible refine wN fun nl3 hnl => ?_ | (fail_if_success (have := nl4)); with_reducible refine wN fun nl4 hnl => ?_ | (fail_if_success (have := nl5)); with_reducible refine wN fun nl5 hnl => ?_ | with_reducible refine wN fun _ hnl => ?_); revert hnl; (repeat with_reducible refine wS fun _ _ => ?_); intro hnl) | (with_reducible first | refine mdraw_plain mixed (by decide +kernel) ?_ | refine wI (fun h => ?_) (fun h => ?_) | refine wF (fun h => ?_) (fun h => ?_) | refine wG (fun h => ?_) (fun h => ?_) | refine wH (fun h => ?_) (fun h => ?_)) | (with_reducible refine mfork_bool (fun h => ?_) (fun h => ?_) <;> simp only [h]) | (with_reducible refine mgfork_bool (fun h => ?_) (fun h => ?_) <;> simp only [h]) | (simp (config := { maxSteps := 4000000 }) (disch := first | decide | assumption | omega | (simp only [wL]; omega)) only [go_sem, Nat.reduceAdd, Nat.reduceSub, Nat.reduceMul, Nat.reduceDiv, Nat.reduceMod, Nat.reduceLT, Nat.reduceLeDiff, Nat.reduceEqDiff, Nat.reduceSucc, Nat.reduceGT, Int.reduceAdd, Int.reduceSub, Int.reduceMul, Int.reduceNeg, Int.reduceLT, Int.reduceLE, Int.reduceEq, Int.reduceToNat, reduceIte, Try.f57, hg, h1, List.drop_succ_cons, List.drop_zero, zero16, tabM_len, tabM_all, tabM_take, tabM_drop, Nat.min_self]))
    refine mloop_intro (α := Nat) (fun i => ⟨115, [(52, .int .i64 (i : Int)), (10, .ptr nl4 0 0), (8, .ptr nl3 0 0), (11, .lst 5 (r.map ND.c) tt), (4, .ptr nl1 0 0)], []⟩)
      (fun i => (((St.none.set nl1 (.row 54 16 [tz])).set nl2 (.row 49 5 [(⟨10, x.n, x.v⟩ : ND).c])).set nl3 (.row 54 16 [tabM fun k => if k < i then tw (fun on => !f on) k else tw (fun _ => false) k])).set nl4 (.row 54 16 [tabM (tw f)]))
      (fun i => i ≤ 16) (fun i => 16 - i) (.of (.less ?_ (by rw [← tz_start]; exact St.le_refl _)) ⟨0, rfl, rfl, by omega⟩) ?_
    · simp (config := { maxSteps := 4000000 }) (disch := first | decide | assumption | omega | (simp only [wL]; omega)) only [go_sem, Nat.reduceAdd, Nat.reduceSub, Nat.reduceMul, Nat.reduceDiv, Nat.reduceMod, Nat.reduceLT, Nat.reduceLeDiff, Nat.reduceEqDiff, Nat.reduceSucc, Nat.reduceGT, Int.reduceAdd, Int.reduceSub, Int.reduceMul, Int.reduceNeg, Int.reduceLT, Int.reduceLE, Int.reduceEq, Int.reduceToNat, reduceIte, weak_int, weak_same]
      rfl
    · intro i hi
      by_cases hlt : i < 16
      · repeat' (first | ((with_reducible refine wT ?_); (first | (fail_if_success (have := nl1)); with_reducible refine wN fun nl1 hnl => ?_ | (fail_if_success (have := nl2)); with_reducible refine wN fun nl2 hnl => ?_ | (fail_if_success (have := nl3)); with_reducible refine wN fun nl3 hnl => ?_ | (fail_if_success (have := nl4)); with_reducible refine wN fun nl4 hnl => ?_ | (fail_if_success (have := nl5)); with_reducible refine wN fun nl5 hnl => ?_ | with_reducible refine wN fun _ hnl => ?_); revert hnl; (repeat with_reducible refine wS fun _ _ => ?_); intro hnl) | (with_reducible first | refine mdraw_plain mixed (by decide +kernel) ?_ | refine wI (fun h => ?_) (fun h => ?_) | refine wF (fun h => ?_) (fun h => ?_) | refine wG (fun h => ?_) (fun h => ?_) | refine wH (fun h => ?_) (fun h => ?_)) | (with_reducible refine mfork_bool (fun h => ?_) (fun h => ?_) <;> simp only [h]) | (with_reducible refine mgfork_bool (fun h => ?_) (fun h => ?_) <;> simp only [h]) | (simp (config := { maxSteps := 4000000 }) (disch := first | decide | assumption | omega | (simp only [wL]; omega)) only [go_sem, Nat.reduceAdd, Nat.reduceSub, Nat.reduceMul, Nat.reduceDiv, Nat.reduceMod, Nat.reduceLT, Nat.reduceLeDiff, Nat.reduceEqDiff, Nat.reduceSucc, Nat.reduceGT, Int.reduceAdd, Int.reduceSub, Int.reduceMul, Int.reduceNeg, Int.reduceLT, Int.reduceLE, Int.reduceEq, Int.reduceToNat, reduceIte, Nat.mul_one, tabM_len, List.append_assoc, tabM_get hlt, tw_not f i, tabM_laid hlt]))
        refine .of (.less ?_ (by rw [← tabM_upd hlt]; exact St.le_refl _)) ⟨i + 1, rfl, rfl, by omega, by omega⟩
        simp (config := { maxSteps := 4000000 }) (disch := first | decide | assumption | omega | (simp only [wL]; omega)) only [go_sem, Nat.reduceAdd, Nat.reduceSub, Nat.reduceMul, Nat.reduceDiv, Nat.reduceMod, Nat.reduceLT, Nat.reduceLeDiff, Nat.reduceEqDiff, Nat.reduceSucc, Nat.reduceGT, Int.reduceAdd, Int.reduceSub, Int.reduceMul, Int.reduceNeg, Int.reduceLT, Int.reduceLE, Int.reduceEq, Int.reduceToNat, reduceIte, weak_int, weak_same]
        rfl
      · have : i = 16 := by omega
        subst this
        repeat' (first | ((with_reducible refine wT ?_); (first | (fail_if_success (have := nl1)); with_reducible refine wN fun nl1 hnl => ?_ | (fail_if_success (have := nl2)); with_reducible refine wN fun nl2 hnl => ?_ | (fail_if_success (have := nl3)); with_reducible refine wN fun nl3 hnl => ?_ | (fail_if_success (have := nl4)); with_reducible refine wN fun nl4 hnl => ?_ | (fail_if_success (have := nl5)); with_reducible refine wN fun nl5 hnl => ?_ | with_reducible refine wN fun _ hnl => ?_); revert hnl; (repeat with_reducible refine wS fun _ _ => ?_); intro hnl) | (with_reducible first | refine mdraw_plain mixed (by decide +kernel) ?_ | refine wI (fun h => ?_) (fun h => ?_) | refine wF (fun h => ?_) (fun h => ?_) | refine wG (fun h => ?_) (fun h => ?_) | refine wH (fun h => ?_) (fun h => ?_)) | (with_reducible refine mfork_bool (fun h => ?_) (fun h => ?_) <;> simp only [h]) | (with_reducible refine mgfork_bool (fun h => ?_) (fun h => ?_) <;> simp only [h]) | (simp (config := { maxSteps := 4000000 }) (disch := first | decide | assumption | omega | (simp only [wL]; omega)) only [go_sem, Nat.reduceAdd, Nat.reduceSub, Nat.reduceMul, Nat.reduceDiv, Nat.reduceMod, Nat.reduceLT, Nat.reduceLeDiff, Nat.reduceEqDiff, Nat.reduceSucc, Nat.reduceGT, Int.reduceAdd, Int.reduceSub, Int.reduceMul, Int.reduceNeg, Int.reduceLT, Int.reduceLE, Int.reduceEq, Int.reduceToNat, reduceIte, tabM_len, tabM_done, tabM_all, tabM_take, tabM_drop, Nat.min_self]))
  | .two x a b, h, r, tt, hl => by
    refine (MCalls.body 115 [.cell 4 54, .tmp 5] Try.func57 rfl rfl rfl rfl ?_)
    have iha := filled_call al la hr ta a h.2.1 (b.fl ++ r) tt (by simp only [T.fl, List.cons_append, List.length_cons, List.append_assoc] at hl; omega)
    have ihb := filled_call al la hr ta b h.2.2 r tt (by simp only [T.fl, List.cons_append, List.length_cons, List.length_append] at hl ⊢; omega)
    simp only [T.fl, List.cons_append, List.append_assoc] at hl ⊢
    have hg : ((x :: (a.fl ++ (b.fl ++ r))).map ND.c).getD 0 [] = x.c := rfl
    rcases parts_two h.1 with h1 | h1
    · have e : (tabV fun on => (T.two x a b).sem (asP al on)) = tabV fun on => a.sem (asP al on) && b.sem (asP al on) := by simp [T.sem, h1]
      rw [e]
      generalize hf : (fun on => a.sem (asP al on)) = f at iha
      generalize hgg : (fun on => b.sem (asP al on)) = g at ihb
      have e2 : (fun on => a.sem (asP al on) && b.sem (asP al on)) = fun on => f on && g on := by rw [← hf, ← hgg]
      rw [e2]
      repeat' (first | (with_reducible refine use_pure iha ?_) | (with_reducible refine use_pure ihb ?_) | ((with_reducible refine wT ?_); (first | (fail_if_success (have := nl1)); with_reducible refine wN fun nl1 hnl => ?_ | (fail_if_success (have := nl2)); with_reducible refine wN fun nl2 hnl => ?_ | (fail_if_success (have := nl3)); with_reducible refine wN fun nl3 hnl => ?_ | (fail_if_success (have := nl4)); with_reducible refine wN fun nl4 hnl => ?_ | (fail_if_success (have := nl5)); with_reducible refine wN fun nl5 hnl => ?_ | with_reducible refine wN fun _ hnl => ?_); revert hnl; (repeat with_reducible refine wS fun _ _ => ?_); intro hnl) | (with_reducible first | refine mdraw_plain mixed (by decide +kernel) ?_ | refine wI (fun h => ?_) (fun h => ?_) | refine wF (fun h => ?_) (fun h => ?_) | refine wG (fun h => ?_) (fun h => ?_) | refine wH (fun h => ?_) (fun h => ?_)) | (with_reducible refine mfork_bool (fun h => ?_) (fun h => ?_) <;> simp only [h]) | (with_reducible refine mgfork_bool (fun h => ?_) (fun h => ?_) <;> simp only [h]) | (simp (config := { maxSteps := 4000000 }) (disch := first | decide | assumption | omega | (simp only [wL]; omega)) only [go_sem, Nat.reduceAdd, Nat.reduceSub, Nat.reduceMul, Nat.reduceDiv, Nat.reduceMod, Nat.reduceLT, Nat.reduceLeDiff, Nat.reduceEqDiff, Nat.reduceSucc, Nat.reduceGT, Int.reduceAdd, Int.reduceSub, Int.reduceMul, Int.reduceNeg, Int.reduceLT, Int.reduceLE, Int.reduceEq, Int.reduceToNat, reduceIte, Try.f57, hg, h1, List.drop_succ_cons, List.drop_zero, zero16, tabM_len, tabM_all, tabM_take, tabM_drop, Nat.min_self]))
      refine mloop_intro (α := Nat) (fun i => ⟨115, [(79, .int .i64 (i : Int)), (6, .ptr nl2 0 0), (13, .ptr nl4 0 0), (15, .ptr nl5 0 0), (8, .ptr nl3 0 0), (14, .lst 5 (r.map ND.c) tt), (4, .ptr nl1 0 0)], []⟩)
        (fun i => ((((St.none.set nl1 (.row 54 16 [tz])).set nl2 (.row 49 5 [(⟨11, x.n, x.v⟩ : ND).c])).set nl3 (.row 54 16 [tabM fun k => if k < i then tw (fun on => f on && g on) k else tw (fun _ => false) k])).set nl4 (.row 54 16 [tabM (tw f)])).set nl5 (.row 54 16 [tabM (tw g)]))
        (fun i => i ≤ 16) (fun i => 16 - i) (.of (.less ?_ (by rw [← tz_start]; exact St.le_refl _)) ⟨0, rfl, rfl, by omega⟩) ?_
      · simp (config := { maxSteps := 4000000 }) (disch := first | decide | assumption | omega | (simp only [wL]; omega)) only [go_sem, Nat.reduceAdd, Nat.reduceSub, Nat.reduceMul, Nat.reduceDiv, Nat.reduceMod, Nat.reduceLT, Nat.reduceLeDiff, Nat.reduceEqDiff, Nat.reduceSucc, Nat.reduceGT, Int.reduceAdd, Int.reduceSub, Int.reduceMul, Int.reduceNeg, Int.reduceLT, Int.reduceLE, Int.reduceEq, Int.reduceToNat, reduceIte, weak_int, weak_same]
        rfl
      · intro i hi
        by_cases hlt : i < 16
        · repeat' (first | ((with_reducible refine wT ?_); (first | (fail_if_success (have := nl1)); with_reducible refine wN fun nl1 hnl => ?_ | (fail_if_success (have := nl2)); with_reducible refine wN fun nl2 hnl => ?_ | (fail_if_success (have := nl3)); with_reducible refine wN fun nl3 hnl => ?_ | (fail_if_success (have := nl4)); with_reducible refine wN fun nl4 hnl => ?_ | (fail_if_success (have := nl5)); with_reducible refine wN fun nl5 hnl => ?_ | with_reducible refine wN fun _ hnl => ?_); revert hnl; (repeat with_reducible refine wS fun _ _ => ?_); intro hnl) | (with_reducible first | refine mdraw_plain mixed (by decide +kernel) ?_ | refine wI (fun h => ?_) (fun h => ?_) | refine wF (fun h => ?_) (fun h => ?_) | refine wG (fun h => ?_) (fun h => ?_) | refine wH (fun h => ?_) (fun h => ?_)) | (with_reducible refine mfork_bool (fun h => ?_) (fun h => ?_) <;> simp only [h]) | (with_reducible refine mgfork_bool (fun h => ?_) (fun h => ?_) <;> simp only [h]) | (simp (config := { maxSteps := 4000000 }) (disch := first | decide | assumption | omega | (simp only [wL]; omega)) only [go_sem, Nat.reduceAdd, Nat.reduceSub, Nat.reduceMul, Nat.reduceDiv, Nat.reduceMod, Nat.reduceLT, Nat.reduceLeDiff, Nat.reduceEqDiff, Nat.reduceSucc, Nat.reduceGT, Int.reduceAdd, Int.reduceSub, Int.reduceMul, Int.reduceNeg, Int.reduceLT, Int.reduceLE, Int.reduceEq, Int.reduceToNat, reduceIte, Nat.mul_one, tabM_len, List.append_assoc, tabM_get hlt, tw_and f g i, tabM_laid hlt]))
          refine .of (.less ?_ (by rw [← tabM_upd hlt]; exact St.le_refl _)) ⟨i + 1, rfl, rfl, by omega, by omega⟩
          simp (config := { maxSteps := 4000000 }) (disch := first | decide | assumption | omega | (simp only [wL]; omega)) only [go_sem, Nat.reduceAdd, Nat.reduceSub, Nat.reduceMul, Nat.reduceDiv, Nat.reduceMod, Nat.reduceLT, Nat.reduceLeDiff, Nat.reduceEqDiff, Nat.reduceSucc, Nat.reduceGT, Int.reduceAdd, Int.reduceSub, Int.reduceMul, Int.reduceNeg, Int.reduceLT, Int.reduceLE, Int.reduceEq, Int.reduceToNat, reduceIte, weak_int, weak_same]
          rfl
        · have : i = 16 := by omega
          subst this
          repeat' (first | ((with_reducible refine wT ?_); (first | (fail_if_success (have := nl1)); with_reducible refine wN fun nl1 hnl => ?_ | (fail_if_success (have := nl2)); with_reducible refine wN fun nl2 hnl => ?_ | (fail_if_success (have := nl3)); with_reducible refine wN fun nl3 hnl => ?_ | (fail_if_success (have := nl4)); with_reducible refine wN fun nl4 hnl => ?_ | (fail_if_success (have := nl5)); with_reducible refine wN fun nl5 hnl => ?_ | with_reducible refine wN fun _ hnl => ?_); revert hnl; (repeat with_reducible refine wS fun _ _ => ?_); intro hnl) | (with_reducible first | refine mdraw_plain mixed (by decide +kernel) ?_ | refine wI (fun h => ?_) (fun h => ?_) | refine wF (fun h => ?_) (fun h => ?_) | refine wG (fun h => ?_) (fun h => ?_) | refine wH (fun h => ?_) (fun h => ?_)) | (with_reducible refine mfork_bool (fun h => ?_) (fun h => ?_) <;> simp only [h]) | (with_reducible refine mgfork_bool (fun h => ?_) (fun h => ?_) <;> simp only [h]) | (simp (config := { maxSteps := 4000000 }) (disch := first | decide | assumption | omega | (simp only [wL]; omega)) only [go_sem, Nat.reduceAdd, Nat.reduceSub, Nat.reduceMul, Nat.reduceDiv, Nat.reduceMod, Nat.reduceLT, Nat.reduceLeDiff, Nat.reduceEqDiff, Nat.reduceSucc, Nat.reduceGT, Int.reduceAdd, Int.reduceSub, Int.reduceMul, Int.reduceNeg, Int.reduceLT, Int.reduceLE, Int.reduceEq, Int.reduceToNat, reduceIte, tabM_len, tabM_done, tabM_all, tabM_take, tabM_drop, Nat.min_self]))
    · have e : (tabV fun on => (T.two x a b).sem (asP al on)) = tabV fun on => a.sem (asP al on) || b.sem (asP al on) := by simp [T.sem, h1]
      rw [e]
      generalize hf : (fun on => a.sem (asP al on)) = f at iha
      generalize hgg : (fun on => b.sem (asP al on)) = g at ihb
      have e2 : (fun on => a.sem (asP al on) || b.sem (asP al on)) = fun on => f on || g on := by rw [← hf, ← hgg]
      rw [e2]
      repeat' (first | (with_reducible refine use_pure iha ?_) | (with_reducible refine use_pure ihb ?_) | ((with_reducible refine wT ?_); (first | (fail_if_success (have := nl1)); with_reducible refine wN fun nl1 hnl => ?_ | (fail_if_success (have := nl2)); with_reducible refine wN fun nl2 hnl => ?_ | (fail_if_success (have := nl3)); with_reducible refine wN fun nl3 hnl => ?_ | (fail_if_success (have := nl4)); with_reducible refine wN fun nl4 hnl => ?_ | (fail_if_success (have := nl5)); with_reducible refine wN fun nl5 hnl => ?_ | with_reducible refine wN fun _ hnl => ?_); revert hnl; (repeat with_reducible refine wS fun _ _ => ?_); intro hnl) | (with_reducible first | refine mdraw_plain mixed (by decide +kernel) ?_ | refine wI (fun h => ?_) (fun h => ?_) | refine wF (fun h => ?_) (fun h => ?_) | refine wG (fun h => ?_) (fun h => ?_) | refine wH (fun h => ?_) (fun h => ?_)) | (with_reducible refine mfork_bool (fun h => ?_) (fun h => ?_) <;> simp only [h]) | (with_reducible refine mgfork_bool (fun h => ?_) (fun h => ?_) <;> simp only [h]) | (simp (config := { maxSteps := 4000000 }) (disch := first | decide | assumption | omega | (simp only [wL]; omega)) only [go_sem, Nat.reduceAdd, Nat.reduceSub, Nat.reduceMul, Nat.reduceDiv, Nat.reduceMod, Nat.reduceLT, Nat.reduceLeDiff, Nat.reduceEqDiff, Nat.reduceSucc, Nat.reduceGT, Int.reduceAdd, Int.reduceSub, Int.reduceMul, Int.reduceNeg, Int.reduceLT, Int.reduceLE, Int.reduceEq, Int.reduceToNat, reduceIte, Try.f57, hg, h1, List.drop_succ_cons, List.drop_zero, zero16, tabM_len, tabM_all, tabM_take, tabM_drop, Nat.min_self]))
      refine mloop_intro (α := Nat) (fun i => ⟨115, [(79, .int .i64 (i : Int)), (6, .ptr nl2 0 0), (13, .ptr nl4 0 0), (15, .ptr nl5 0 0), (8, .ptr nl3 0 0), (14, .lst 5 (r.map ND.c) tt), (4, .ptr nl1 0 0)], []⟩)
        (fun i => ((((St.none.set nl1 (.row 54 16 [tz])).set nl2 (.row 49 5 [(⟨12, x.n, x.v⟩ : ND).c])).set nl3 (.row 54 16 [tabM fun k => if k < i then tw (fun on => f on || g on) k else tw (fun _ => false) k])).set nl4 (.row 54 16 [tabM (tw f)])).set nl5 (.row 54 16 [tabM (tw g)]))
        (fun i => i ≤ 16) (fun i => 16 - i) (.of (.less ?_ (by rw [← tz_start]; exact St.le_refl _)) ⟨0, rfl, rfl, by omega⟩) ?_
      · simp (config := { maxSteps := 4000000 }) (disch := first | decide | assumption | omega | (simp only [wL]; omega)) only [go_sem, Nat.reduceAdd, Nat.reduceSub, Nat.reduceMul, Nat.reduceDiv, Nat.reduceMod, Nat.reduceLT, Nat.reduceLeDiff, Nat.reduceEqDiff, Nat.reduceSucc, Nat.reduceGT, Int.reduceAdd, Int.reduceSub, Int.reduceMul, Int.reduceNeg, Int.reduceLT, Int.reduceLE, Int.reduceEq, Int.reduceToNat, reduceIte, weak_int, weak_same]
        rfl
      · intro i hi
        by_cases hlt : i < 16
        · repeat' (first | ((with_reducible refine wT ?_); (first | (fail_if_success (have := nl1)); with_reducible refine wN fun nl1 hnl => ?_ | (fail_if_success (have := nl2)); with_reducible refine wN fun nl2 hnl => ?_ | (fail_if_success (have := nl3)); with_reducible refine wN fun nl3 hnl => ?_ | (fail_if_success (have := nl4)); with_reducible refine wN fun nl4 hnl => ?_ | (fail_if_success (have := nl5)); with_reducible refine wN fun nl5 hnl => ?_ | with_reducible refine wN fun _ hnl => ?_); revert hnl; (repeat with_reducible refine wS fun _ _ => ?_); intro hnl) | (with_reducible first | refine mdraw_plain mixed (by decide +kernel) ?_ | refine wI (fun h => ?_) (fun h => ?_) | refine wF (fun h => ?_) (fun h => ?_) | refine wG (fun h => ?_) (fun h => ?_) | refine wH (fun h => ?_) (fun h => ?_)) | (with_reducible refine mfork_bool (fun h => ?_) (fun h => ?_) <;> simp only [h]) | (with_reducible refine mgfork_bool (fun h => ?_) (fun h => ?_) <;> simp only [h]) | (simp (config := { maxSteps := 4000000 }) (disch := first | decide | assumption | omega | (simp only [wL]; omega)) only [go_sem, Nat.reduceAdd, Nat.reduceSub, Nat.reduceMul, Nat.reduceDiv, Nat.reduceMod, Nat.reduceLT, Nat.reduceLeDiff, Nat.reduceEqDiff, Nat.reduceSucc, Nat.reduceGT, Int.reduceAdd, Int.reduceSub, Int.reduceMul, Int.reduceNeg, Int.reduceLT, Int.reduceLE, Int.reduceEq, Int.reduceToNat, reduceIte, Nat.mul_one, tabM_len, List.append_assoc, tabM_get hlt, tw_and f g i, tw_or f g i, tabM_laid hlt]))
          refine .of (.less ?_ (by rw [← tabM_upd hlt]; exact St.le_refl _)) ⟨i + 1, rfl, rfl, by omega, by omega⟩
          simp (config := { maxSteps := 4000000 }) (disch := first | decide | assumption | omega | (simp only [wL]; omega)) only [go_sem, Nat.reduceAdd, Nat.reduceSub, Nat.reduceMul, Nat.reduceDiv, Nat.reduceMod, Nat.reduceLT, Nat.reduceLeDiff, Nat.reduceEqDiff, Nat.reduceSucc, Nat.reduceGT, Int.reduceAdd, Int.reduceSub, Int.reduceMul, Int.reduceNeg, Int.reduceLT, Int.reduceLE, Int.reduceEq, Int.reduceToNat, reduceIte, weak_int, weak_same]
          rfl
        · have : i = 16 := by omega
          subst this
          repeat' (first | ((with_reducible refine wT ?_); (first | (fail_if_success (have := nl1)); with_reducible refine wN fun nl1 hnl => ?_ | (fail_if_success (have := nl2)); with_reducible refine wN fun nl2 hnl => ?_ | (fail_if_success (have := nl3)); with_reducible refine wN fun nl3 hnl => ?_ | (fail_if_success (have := nl4)); with_reducible refine wN fun nl4 hnl => ?_ | (fail_if_success (have := nl5)); with_reducible refine wN fun nl5 hnl => ?_ | with_reducible refine wN fun _ hnl => ?_); revert hnl; (repeat with_reducible refine wS fun _ _ => ?_); intro hnl) | (with_reducible first | refine mdraw_plain mixed (by decide +kernel) ?_ | refine wI (fun h => ?_) (fun h => ?_) | refine wF (fun h => ?_) (fun h => ?_) | refine wG (fun h => ?_) (fun h => ?_) | refine wH (fun h => ?_) (fun h => ?_)) | (with_reducible refine mfork_bool (fun h => ?_) (fun h => ?_) <;> simp only [h]) | (with_reducible refine mgfork_bool (fun h => ?_) (fun h => ?_) <;> simp only [h]) | (simp (config := { maxSteps := 4000000 }) (disch := first | decide | assumption | omega | (simp only [wL]; omega)) only [go_sem, Nat.reduceAdd, Nat.reduceSub, Nat.reduceMul, Nat.reduceDiv, Nat.reduceMod, Nat.reduceLT, Nat.reduceLeDiff, Nat.reduceEqDiff, Nat.reduceSucc, Nat.reduceGT, Int.reduceAdd, Int.reduceSub, Int.reduceMul, Int.reduceNeg, Int.reduceLT, Int.reduceLE, Int.reduceEq, Int.reduceToNat, reduceIte, tabM_len, tabM_done, tabM_all, tabM_take, tabM_drop, Nat.min_self]))
end Go.Proofs.Ytielcgplbnlgbaa
end
