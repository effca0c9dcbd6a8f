/- Contracts of the library's search in a sorted list: the conditions that each theorem names. -/
import Derived.Test.YtielcgplbnlgbaaQ5
import Derived.Test.YtielcgplbnlgbaaP4
set_option linter.unusedVariables false
set_option linter.unusedSimpArgs false
namespace Go.Proofs.Ytielcgplbnlgbaa

theorem posK_eq {l : List ND} {x : ND} {i : Nat} (h0 : i ≤ l.length) (h1 : ∀ q, q < i → lessK (l.getD q nd0).key x.key) (h2 : ∀ q, i ≤ q → q < l.length → ¬ lessK (l.getD q nd0).key x.key) : posK l x = i := by
  unfold posK
  by_cases hi : i < l.length
  · rw [List.findIdx_eq hi]
    refine ⟨?_, fun j hj => ?_⟩
    · have := h2 i (Nat.le_refl _) hi
      rw [getD_of_lt nd0 hi] at this
      simpa using this
    · have := h1 j hj
      rw [getD_of_lt nd0 (by omega)] at this
      simpa using this
  · have : i = l.length := by omega
    rw [this]
    refine List.findIdx_eq_length_of_false fun y hy => ?_
    obtain ⟨j, hj, rfl⟩ := List.mem_iff_getElem.1 hy
    have := h1 j (by omega)
    rw [getD_of_lt nd0 hj] at this
    simpa using this

theorem rising_lt {l : List ND} (h : Rising (l.map ND.key)) {a b : Nat} (hab : a < b) (hb : b < l.length) : lessK (l.getD a nd0).key (l.getD b nd0).key := by
  have := (List.pairwise_iff_getElem.1 h) a b (by simp; omega) (by simp; omega) hab
  simp only [List.getElem_map] at this
  rw [getD_of_lt nd0 (by omega), getD_of_lt nd0 hb]
  exact this

theorem half (i j : Nat) : Int.fdiv ((i : Int) + j) (2 ^ (min 1 64 : Nat)) = (((i + j) / 2 : Nat) : Int) := by
  rw [show ((2 : Int) ^ (min 1 64 : Nat)) = 2 by decide, Int.fdiv_eq_ediv_of_nonneg _ (by omega)]
  omega

theorem ordI_neg {o : Ordering} : ordI o < 0 ↔ o = .lt := by cases o <;> simp [ordI]

theorem mem_of_key {l : List ND} {x : ND} {i : Nat} (hi : i < l.length) (he : (l.getD i nd0).key = x.key) : x ∈ l := by
  have := ND.key_inj he
  rw [← this]
  exact getD_mem nd0 hi

theorem key_of_mem {l : List ND} {x : ND} {i : Nat} (h : Rising (l.map ND.key)) (hx : x ∈ l) (h1 : ∀ q, q < i → lessK (l.getD q nd0).key x.key) (h2 : ∀ q, i ≤ q → q < l.length → ¬ lessK (l.getD q nd0).key x.key) : i < l.length ∧ (l.getD i nd0).key = x.key := by
  obtain ⟨q, hq, rfl⟩ := List.mem_iff_getElem.1 hx
  have e := getD_of_lt nd0 hq
  rw [← e] at h1 h2 ⊢
  have hiq : i ≤ q := Nat.le_of_not_lt fun hlt => lessK_irrefl (h1 q hlt)
  rcases Nat.lt_or_ge i q with hlt | hge
  · exact absurd (rising_lt h hlt hq) (h2 i (Nat.le_refl _) (by omega))
  · have : i = q := by omega
    subst this
    exact ⟨hq, rfl⟩

theorem bsearch_call (l : List ND) (hl : l.length ≤ 1000000) (t : Bool) (x : ND) (h : Rising (l.map ND.key)) :
    MCalls Try.prog 64 [.lst 5 (l.map ND.c) t, .agg x.c, .fn (.func 44) [] []] St.none (fun r _ => r = .tup [.int .i64 (posK l x), .bool (decide (x ∈ l))]) := by
  refine (MCalls.body 49 [.tmp 6, .tmp 7] Try.func64 rfl rfl rfl rfl ?_)
  repeat' (first | ((with_reducible refine mnew_intro fun nl hnl => ?_); revert hnl; (repeat (with_reducible refine set_none_intro fun _ _ => ?_)); intro hnl) | with_reducible refine mdraw_plain mixed (by decide +kernel) ?_ | with_reducible refine mif_go (fun h => ?_) (fun h => ?_) | with_reducible refine mfork_dec (fun h => ?_) (fun h => ?_) | with_reducible refine mgfork_dec (fun h => ?_) (fun h => ?_) | with_reducible refine mgfork_dec' (fun h => ?_) (fun h => ?_) | (with_reducible refine mfork_bool (fun h => ?_) (fun h => ?_) <;> simp only [h]) | (with_reducible refine mgfork_bool (fun h => ?_) (fun h => ?_) <;> simp only [h]) | (simp (config := { maxSteps := 4000000 }) (disch := first | decide | assumption | omega | (simp only [List.length_append, List.length_take, List.length_drop, List.length_cons, List.length_nil, List.length_map, List.length_set, List.length_replicate]; omega)) only [go_sem, Nat.reduceAdd, Nat.reduceSub, Nat.reduceMul, Nat.reduceDiv, Nat.reduceMod, Nat.reduceLT, Nat.reduceLeDiff, Nat.reduceEqDiff, Nat.reduceSucc, Nat.reduceGT, Int.reduceAdd, Int.reduceSub, Int.reduceMul, Int.reduceNeg, Int.reduceLT, Int.reduceLE, Int.reduceEq, Int.reduceToNat, reduceIte, Try.f64]))
  refine mloop_intro (α := Nat × Nat) (fun a => ⟨49, [(9, .int .i64 (a.1 : Int)), (10, .int .i64 (a.2 : Int)), (8, .int .i64 (l.length : Int)), (4, .ptr nl 0 0), (0, .lst 5 (l.map ND.c) t), (2, .fn (.func 44) [] [])], []⟩)
    (fun _ => St.none.set nl (.row 49 5 [x.c])) (fun a => a.1 ≤ a.2 ∧ a.2 ≤ l.length ∧ (∀ q, q < a.1 → lessK (l.getD q nd0).key x.key) ∧ (∀ q, a.2 ≤ q → q < l.length → ¬ lessK (l.getD q nd0).key x.key)) (fun a => a.2 - a.1) (.of (.less ?_ (St.le_refl _)) ⟨(0, l.length), rfl, rfl, by simp; omega⟩) ?_
  · simp (config := { maxSteps := 4000000 }) (disch := first | decide | assumption | omega | (simp only [List.length_append, List.length_take, List.length_drop, List.length_cons, List.length_nil, List.length_map, List.length_set, List.length_replicate]; omega)) only [go_sem, Nat.reduceAdd, Nat.reduceSub, Nat.reduceMul, Nat.reduceDiv, Nat.reduceMod, Nat.reduceLT, Nat.reduceLeDiff, Nat.reduceEqDiff, Nat.reduceSucc, Nat.reduceGT, Int.reduceAdd, Int.reduceSub, Int.reduceMul, Int.reduceNeg, Int.reduceLT, Int.reduceLE, Int.reduceEq, Int.reduceToNat, reduceIte, weak_int, weak_same]
    first | rfl | omega | simp
  · rintro ⟨i, j⟩ ⟨h1, h2, h3, h4⟩
    simp only at h1 h2 h3 h4 ⊢
    by_cases hij : i < j
    · have hh := half i j
      have hm1 : i ≤ (i + j) / 2 := by omega
      have hm2 : (i + j) / 2 < j := by omega
      obtain ⟨m, hm⟩ : ∃ m, (i + j) / 2 = m := ⟨_, rfl⟩
      rw [hm] at hh hm1 hm2
      have hml : m < l.length := by omega
      have hord := lorder_call (l.getD m nd0) x
      by_cases hless : lessK (l.getD m nd0).key x.key
      · have ho : ordI (cmpL (l.getD m nd0).key x.key) = -1 := by rw [show cmpL (l.getD m nd0).key x.key = .lt from hless]; rfl
        rw [ho] at hord
        repeat' (first | (with_reducible refine mdraw_know mixed (by decide +kernel) (fun g ms => if g = 44 then some ([], fun v => v = .int .i64 (-1)) else none) ?_) | (with_reducible refine know_pure rfl hord ?_) | ((with_reducible refine mnew_intro fun nl hnl => ?_); revert hnl; (repeat (with_reducible refine set_none_intro fun _ _ => ?_)); intro hnl) | with_reducible refine mdraw_plain mixed (by decide +kernel) ?_ | with_reducible refine mif_go (fun h => ?_) (fun h => ?_) | with_reducible refine mfork_dec (fun h => ?_) (fun h => ?_) | with_reducible refine mgfork_dec (fun h => ?_) (fun h => ?_) | with_reducible refine mgfork_dec' (fun h => ?_) (fun h => ?_) | (with_reducible refine mfork_bool (fun h => ?_) (fun h => ?_) <;> simp only [h]) | (with_reducible refine mgfork_bool (fun h => ?_) (fun h => ?_) <;> simp only [h]) | (simp (config := { maxSteps := 4000000 }) (disch := first | decide | assumption | omega | (simp only [List.length_append, List.length_take, List.length_drop, List.length_cons, List.length_nil, List.length_map, List.length_set, List.length_replicate]; omega)) only [go_sem, Nat.reduceAdd, Nat.reduceSub, Nat.reduceMul, Nat.reduceDiv, Nat.reduceMod, Nat.reduceLT, Nat.reduceLeDiff, Nat.reduceEqDiff, Nat.reduceSucc, Nat.reduceGT, Int.reduceAdd, Int.reduceSub, Int.reduceMul, Int.reduceNeg, Int.reduceLT, Int.reduceLE, Int.reduceEq, Int.reduceToNat, reduceIte, getD_mapd nd0, hh]))
        refine .of (.less (l1 := [(9, .int .i64 ((m + 1 : Nat) : Int)), (10, .int .i64 (j : Int)), (8, .int .i64 (l.length : Int)), (4, .ptr nl 0 0), (0, .lst 5 (l.map ND.c) t), (2, .fn (.func 44) [] [])]) ?_ (St.le_refl _)) ⟨(m + 1, j), rfl, rfl, ⟨by simp only; omega, h2, fun q hq => ?_, h4⟩, by simp only; omega⟩
        · simp (config := { maxSteps := 4000000 }) (disch := first | decide | assumption | omega | (simp only [List.length_append, List.length_take, List.length_drop, List.length_cons, List.length_nil, List.length_map, List.length_set, List.length_replicate]; omega)) only [go_sem, Nat.reduceAdd, Nat.reduceSub, Nat.reduceMul, Nat.reduceDiv, Nat.reduceMod, Nat.reduceLT, Nat.reduceLeDiff, Nat.reduceEqDiff, Nat.reduceSucc, Nat.reduceGT, Int.reduceAdd, Int.reduceSub, Int.reduceMul, Int.reduceNeg, Int.reduceLT, Int.reduceLE, Int.reduceEq, Int.reduceToNat, reduceIte, weak_int, weak_same]
          omega
        · simp only at hq
          rcases Nat.lt_or_ge q m with hlt | hge
          · exact lessK_trans (rising_lt h hlt hml) hless
          · have : q = m := by omega
            rw [this]; exact hless
      · have ho : ¬ ordI (cmpL (l.getD m nd0).key x.key) < 0 := fun hh => hless (ordI_neg.1 hh)
        repeat' (first | (with_reducible refine mdraw_know mixed (by decide +kernel) (fun g ms => if g = 44 then some ([], fun v => v = .int .i64 (ordI (cmpL (l.getD m nd0).key x.key))) else none) ?_) | (with_reducible refine know_pure rfl hord ?_) | ((with_reducible refine mnew_intro fun nl hnl => ?_); revert hnl; (repeat (with_reducible refine set_none_intro fun _ _ => ?_)); intro hnl) | with_reducible refine mdraw_plain mixed (by decide +kernel) ?_ | with_reducible refine mif_go (fun h => ?_) (fun h => ?_) | with_reducible refine mfork_dec (fun h => ?_) (fun h => ?_) | with_reducible refine mgfork_dec (fun h => ?_) (fun h => ?_) | with_reducible refine mgfork_dec' (fun h => ?_) (fun h => ?_) | (with_reducible refine mfork_bool (fun h => ?_) (fun h => ?_) <;> simp only [h]) | (with_reducible refine mgfork_bool (fun h => ?_) (fun h => ?_) <;> simp only [h]) | (simp (config := { maxSteps := 4000000 }) (disch := first | decide | assumption | omega | (simp only [List.length_append, List.length_take, List.length_drop, List.length_cons, List.length_nil, List.length_map, List.length_set, List.length_replicate]; omega)) only [go_sem, Nat.reduceAdd, Nat.reduceSub, Nat.reduceMul, Nat.reduceDiv, Nat.reduceMod, Nat.reduceLT, Nat.reduceLeDiff, Nat.reduceEqDiff, Nat.reduceSucc, Nat.reduceGT, Int.reduceAdd, Int.reduceSub, Int.reduceMul, Int.reduceNeg, Int.reduceLT, Int.reduceLE, Int.reduceEq, Int.reduceToNat, reduceIte, getD_mapd nd0, hh]))
        refine .of (.less (l1 := [(9, .int .i64 (i : Int)), (10, .int .i64 (m : Int)), (8, .int .i64 (l.length : Int)), (4, .ptr nl 0 0), (0, .lst 5 (l.map ND.c) t), (2, .fn (.func 44) [] [])]) ?_ (St.le_refl _)) ⟨(i, m), rfl, rfl, ⟨hm1, by simp only; omega, h3, fun q hq hql => ?_⟩, by simp only; omega⟩
        · simp (config := { maxSteps := 4000000 }) (disch := first | decide | assumption | omega | (simp only [List.length_append, List.length_take, List.length_drop, List.length_cons, List.length_nil, List.length_map, List.length_set, List.length_replicate]; omega)) only [go_sem, Nat.reduceAdd, Nat.reduceSub, Nat.reduceMul, Nat.reduceDiv, Nat.reduceMod, Nat.reduceLT, Nat.reduceLeDiff, Nat.reduceEqDiff, Nat.reduceSucc, Nat.reduceGT, Int.reduceAdd, Int.reduceSub, Int.reduceMul, Int.reduceNeg, Int.reduceLT, Int.reduceLE, Int.reduceEq, Int.reduceToNat, reduceIte, weak_int, weak_same]
        · simp only at hq
          rcases Nat.lt_or_ge m q with hlt | hge
          · exact fun hl2 => hless (lessK_trans (rising_lt h hlt hql) hl2)
          · have : q = m := by omega
            rw [this]; exact hless
    · have : i = j := by omega
      subst this
      have hp := posK_eq h2 h3 h4
      rw [hp]
      by_cases hil : i < l.length
      · have hord := lorder_call (l.getD i nd0) x
        repeat' (first | (with_reducible refine mdraw_know mixed (by decide +kernel) (fun g ms => if g = 44 then some ([], fun v => v = .int .i64 (ordI (cmpL (l.getD i nd0).key x.key))) else none) ?_) | (with_reducible refine know_pure rfl hord ?_) | ((with_reducible refine mnew_intro fun nl hnl => ?_); revert hnl; (repeat (with_reducible refine set_none_intro fun _ _ => ?_)); intro hnl) | with_reducible refine mdraw_plain mixed (by decide +kernel) ?_ | with_reducible refine mif_go (fun h => ?_) (fun h => ?_) | with_reducible refine mfork_dec (fun h => ?_) (fun h => ?_) | with_reducible refine mgfork_dec (fun h => ?_) (fun h => ?_) | with_reducible refine mgfork_dec' (fun h => ?_) (fun h => ?_) | (with_reducible refine mfork_bool (fun h => ?_) (fun h => ?_) <;> simp only [h]) | (with_reducible refine mgfork_bool (fun h => ?_) (fun h => ?_) <;> simp only [h]) | (simp (config := { maxSteps := 4000000 }) (disch := first | decide | assumption | omega | (simp only [List.length_append, List.length_take, List.length_drop, List.length_cons, List.length_nil, List.length_map, List.length_set, List.length_replicate]; omega)) only [go_sem, Nat.reduceAdd, Nat.reduceSub, Nat.reduceMul, Nat.reduceDiv, Nat.reduceMod, Nat.reduceLT, Nat.reduceLeDiff, Nat.reduceEqDiff, Nat.reduceSucc, Nat.reduceGT, Int.reduceAdd, Int.reduceSub, Int.reduceMul, Int.reduceNeg, Int.reduceLT, Int.reduceLE, Int.reduceEq, Int.reduceToNat, reduceIte, getD_mapd nd0]))
        have : (ordI (cmpL (l.getD i nd0).key x.key) = 0) ↔ x ∈ l := by
          rw [ordI_zero, cmpL_eq]
          exact ⟨fun he => mem_of_key hil he, fun hx => (key_of_mem h hx h3 h4).2⟩
        simp only [this]
      · repeat' (first | (with_reducible refine mdraw_know mixed (by decide +kernel) (fun g ms => none) ?_) | ((with_reducible refine mnew_intro fun nl hnl => ?_); revert hnl; (repeat (with_reducible refine set_none_intro fun _ _ => ?_)); intro hnl) | with_reducible refine mdraw_plain mixed (by decide +kernel) ?_ | with_reducible refine mif_go (fun h => ?_) (fun h => ?_) | with_reducible refine mfork_dec (fun h => ?_) (fun h => ?_) | with_reducible refine mgfork_dec (fun h => ?_) (fun h => ?_) | with_reducible refine mgfork_dec' (fun h => ?_) (fun h => ?_) | (with_reducible refine mfork_bool (fun h => ?_) (fun h => ?_) <;> simp only [h]) | (with_reducible refine mgfork_bool (fun h => ?_) (fun h => ?_) <;> simp only [h]) | (simp (config := { maxSteps := 4000000 }) (disch := first | decide | assumption | omega | (simp only [List.length_append, List.length_take, List.length_drop, List.length_cons, List.length_nil, List.length_map, List.length_set, List.length_replicate]; omega)) only [go_sem, Nat.reduceAdd, Nat.reduceSub, Nat.reduceMul, Nat.reduceDiv, Nat.reduceMod, Nat.reduceLT, Nat.reduceLeDiff, Nat.reduceEqDiff, Nat.reduceSucc, Nat.reduceGT, Int.reduceAdd, Int.reduceSub, Int.reduceMul, Int.reduceNeg, Int.reduceLT, Int.reduceLE, Int.reduceEq, Int.reduceToNat, reduceIte, getD_mapd nd0]))
        have : ¬ x ∈ l := fun hx => hil (key_of_mem h hx h3 h4).1
        simp [this]
end Go.Proofs.Ytielcgplbnlgbaa
