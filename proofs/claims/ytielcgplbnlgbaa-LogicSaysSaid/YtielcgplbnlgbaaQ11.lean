/- Contracts of the reference's atom and Has: the conditions that the theorems name. -/
import Derived.Test.YtielcgplbnlgbaaQ10
set_option linter.unusedVariables false
set_option linter.unusedSimpArgs false
namespace Go.Proofs.Ytielcgplbnlgbaa

theorem ratom_call (x : ND) : MCalls Try.prog 35 [.agg x.c] St.none (fun r _ => r = .bool (atomR x)) := by
  refine (MCalls.body 11 [.tmp 2] Try.func35 rfl rfl rfl rfl ?_)
  obtain ⟨op, n, kd, vn, s⟩ := x
  repeat' (first | ((with_reducible refine mnew_intro fun nl hnl => ?_); revert hnl; (repeat (with_reducible refine set_none_intro fun _ _ => ?_)); intro hnl) | with_reducible refine mdraw_plain mixed (by decide +kernel) ?_ | with_reducible refine mif_go (fun h => ?_) (fun h => ?_) | with_reducible refine mfork_dec (fun h => ?_) (fun h => ?_) | with_reducible refine mgfork_dec (fun h => ?_) (fun h => ?_) | with_reducible refine mgfork_dec' (fun h => ?_) (fun h => ?_) | (with_reducible refine mfork_bool (fun h => ?_) (fun h => ?_) <;> simp only [h]) | (with_reducible refine mgfork_bool (fun h => ?_) (fun h => ?_) <;> simp only [h]) | (simp (config := { maxSteps := 4000000 }) (disch := first | decide | assumption | omega | (simp only [List.length_append, List.length_take, List.length_drop, List.length_cons, List.length_nil, List.length_map, List.length_set, List.length_replicate]; omega)) only [go_sem, Nat.reduceAdd, Nat.reduceSub, Nat.reduceMul, Nat.reduceDiv, Nat.reduceMod, Nat.reduceLT, Nat.reduceLeDiff, Nat.reduceEqDiff, Nat.reduceSucc, Nat.reduceGT, Int.reduceAdd, Int.reduceSub, Int.reduceMul, Int.reduceNeg, Int.reduceLT, Int.reduceLE, Int.reduceEq, Int.reduceToNat, reduceIte, Try.f35]))
  all_goals simp [atomR, *]
  all_goals omega

/-- Bit n of s. -/
def hasB (s : Nat) (n : Int) : Bool := decide (0 ≤ n ∧ n ≤ 31 ∧ s / 2 ^ n.toNat % 2 = 1)

theorem half_pow (s : Nat) (k : Nat) : s / 2 ^ k / 2 = s / 2 ^ (k + 1) := by
  rw [Nat.pow_succ, Nat.div_div_eq_div_mul]

set_option maxHeartbeats 2000000 in
theorem rhas_call (s : Nat) (n : Int) (h1 : s < 4294967296) : MCalls Try.prog 47 [.int .u32 (s : Int), .int .i64 n] St.none (fun r _ => r = .bool (hasB s n)) := by
  refine (MCalls.body 22 [.tmp 4] Try.func47 rfl rfl rfl rfl ?_)
  by_cases hn : n < 0 ∨ 31 < n
  · repeat' (first | ((with_reducible refine mnew_intro fun nl hnl => ?_); revert hnl; (repeat (with_reducible refine set_none_intro fun _ _ => ?_)); intro hnl) | with_reducible refine mdraw_plain mixed (by decide +kernel) ?_ | with_reducible refine mif_go (fun h => ?_) (fun h => ?_) | with_reducible refine mfork_dec (fun h => ?_) (fun h => ?_) | with_reducible refine mgfork_dec (fun h => ?_) (fun h => ?_) | with_reducible refine mgfork_dec' (fun h => ?_) (fun h => ?_) | (with_reducible refine mfork_bool (fun h => ?_) (fun h => ?_) <;> simp only [h]) | (with_reducible refine mgfork_bool (fun h => ?_) (fun h => ?_) <;> simp only [h]) | (simp (config := { maxSteps := 4000000 }) (disch := first | decide | assumption | omega | (simp only [List.length_append, List.length_take, List.length_drop, List.length_cons, List.length_nil, List.length_map, List.length_set, List.length_replicate]; omega)) only [go_sem, Nat.reduceAdd, Nat.reduceSub, Nat.reduceMul, Nat.reduceDiv, Nat.reduceMod, Nat.reduceLT, Nat.reduceLeDiff, Nat.reduceEqDiff, Nat.reduceSucc, Nat.reduceGT, Int.reduceAdd, Int.reduceSub, Int.reduceMul, Int.reduceNeg, Int.reduceLT, Int.reduceLE, Int.reduceEq, Int.reduceToNat, reduceIte, Try.f47]))
    all_goals simp only [hasB, MV.bool.injEq, Bool.false_eq, decide_eq_false_iff_not]
    all_goals omega
  · obtain ⟨m, rfl⟩ : ∃ m : Nat, n = m := ⟨n.toNat, by omega⟩
    repeat' (first | ((with_reducible refine mnew_intro fun nl hnl => ?_); revert hnl; (repeat (with_reducible refine set_none_intro fun _ _ => ?_)); intro hnl) | with_reducible refine mdraw_plain mixed (by decide +kernel) ?_ | with_reducible refine mif_go (fun h => ?_) (fun h => ?_) | with_reducible refine mfork_dec (fun h => ?_) (fun h => ?_) | with_reducible refine mgfork_dec (fun h => ?_) (fun h => ?_) | with_reducible refine mgfork_dec' (fun h => ?_) (fun h => ?_) | (with_reducible refine mfork_bool (fun h => ?_) (fun h => ?_) <;> simp only [h]) | (with_reducible refine mgfork_bool (fun h => ?_) (fun h => ?_) <;> simp only [h]) | (simp (config := { maxSteps := 4000000 }) (disch := first | decide | assumption | omega | (simp only [List.length_append, List.length_take, List.length_drop, List.length_cons, List.length_nil, List.length_map, List.length_set, List.length_replicate]; omega)) only [go_sem, Nat.reduceAdd, Nat.reduceSub, Nat.reduceMul, Nat.reduceDiv, Nat.reduceMod, Nat.reduceLT, Nat.reduceLeDiff, Nat.reduceEqDiff, Nat.reduceSucc, Nat.reduceGT, Int.reduceAdd, Int.reduceSub, Int.reduceMul, Int.reduceNeg, Int.reduceLT, Int.reduceLE, Int.reduceEq, Int.reduceToNat, reduceIte, Try.f47]))
    refine mloop_intro (α := Nat) (fun a => ⟨22, [(5, .int .i64 (a : Int)), (0, .int .u32 ((s / 2 ^ a : Nat) : Int)), (1, .int .i64 (m : Int))], []⟩) (fun _ => St.none)
      (fun a => a ≤ m) (fun a => m - a) (.of (.less ?_ (St.le_refl _)) ⟨0, rfl, rfl, Nat.zero_le _⟩) ?_
    · simp (config := { maxSteps := 4000000 }) (disch := first | decide | assumption | omega | (simp only [List.length_append, List.length_take, List.length_drop, List.length_cons, List.length_nil, List.length_map, List.length_set, List.length_replicate]; omega)) only [go_sem, Nat.reduceAdd, Nat.reduceSub, Nat.reduceMul, Nat.reduceDiv, Nat.reduceMod, Nat.reduceLT, Nat.reduceLeDiff, Nat.reduceEqDiff, Nat.reduceSucc, Nat.reduceGT, Int.reduceAdd, Int.reduceSub, Int.reduceMul, Int.reduceNeg, Int.reduceLT, Int.reduceLE, Int.reduceEq, Int.reduceToNat, reduceIte, weak_int, weak_same, Nat.pow_zero, Nat.div_one]
      rfl
    · intro k hk
      have hk : k ≤ m := hk
      have hb : s / 2 ^ k < 4294967296 := Nat.lt_of_le_of_lt (Nat.div_le_self ..) h1
      by_cases hlt : k < m
      · repeat' (first | ((with_reducible refine mnew_intro fun nl hnl => ?_); revert hnl; (repeat (with_reducible refine set_none_intro fun _ _ => ?_)); intro hnl) | with_reducible refine mdraw_plain mixed (by decide +kernel) ?_ | with_reducible refine mif_go (fun h => ?_) (fun h => ?_) | with_reducible refine mfork_dec (fun h => ?_) (fun h => ?_) | with_reducible refine mgfork_dec (fun h => ?_) (fun h => ?_) | with_reducible refine mgfork_dec' (fun h => ?_) (fun h => ?_) | (with_reducible refine mfork_bool (fun h => ?_) (fun h => ?_) <;> simp only [h]) | (with_reducible refine mgfork_bool (fun h => ?_) (fun h => ?_) <;> simp only [h]) | (simp (config := { maxSteps := 4000000 }) (disch := first | decide | assumption | omega | (simp only [List.length_append, List.length_take, List.length_drop, List.length_cons, List.length_nil, List.length_map, List.length_set, List.length_replicate]; omega)) only [go_sem, Nat.reduceAdd, Nat.reduceSub, Nat.reduceMul, Nat.reduceDiv, Nat.reduceMod, Nat.reduceLT, Nat.reduceLeDiff, Nat.reduceEqDiff, Nat.reduceSucc, Nat.reduceGT, Int.reduceAdd, Int.reduceSub, Int.reduceMul, Int.reduceNeg, Int.reduceLT, Int.reduceLE, Int.reduceEq, Int.reduceToNat, reduceIte, Nat.add_zero]))
        refine .of (.less (l1 := [(5, .int .i64 ((k + 1 : Nat) : Int)), (0, .int .u32 ((s / 2 ^ (k + 1) : Nat) : Int)), (1, .int .i64 (m : Int))]) ?_ (St.le_refl _)) ⟨k + 1, rfl, rfl, by omega, by omega⟩
        rw [← half_pow]
        have ew : IntKind.u32.wrap (((s / 2 ^ k : Nat) : Int).tdiv 2) = ((s / 2 ^ k / 2 : Nat) : Int) := by
          generalize s / 2 ^ k = w at hb ⊢
          have e2 : ((w : Int)).tdiv 2 = ((w / 2 : Nat) : Int) := by
            rw [Int.tdiv_eq_ediv_of_nonneg (by omega)]
            omega
          rw [e2]
          simp only [IntKind.wrap, IntKind.signed, IntKind.bits]
          simp
          omega
        simp (config := { maxSteps := 4000000 }) (disch := first | decide | assumption | omega | (simp only [List.length_append, List.length_take, List.length_drop, List.length_cons, List.length_nil, List.length_map, List.length_set, List.length_replicate]; omega)) only [go_sem, Nat.reduceAdd, Nat.reduceSub, Nat.reduceMul, Nat.reduceDiv, Nat.reduceMod, Nat.reduceLT, Nat.reduceLeDiff, Nat.reduceEqDiff, Nat.reduceSucc, Nat.reduceGT, Int.reduceAdd, Int.reduceSub, Int.reduceMul, Int.reduceNeg, Int.reduceLT, Int.reduceLE, Int.reduceEq, Int.reduceToNat, reduceIte, weak_int, weak_same, ew]
        all_goals rfl
      · have : k = m := by omega
        subst this
        repeat' (first | ((with_reducible refine mnew_intro fun nl hnl => ?_); revert hnl; (repeat (with_reducible refine set_none_intro fun _ _ => ?_)); intro hnl) | with_reducible refine mdraw_plain mixed (by decide +kernel) ?_ | with_reducible refine mif_go (fun h => ?_) (fun h => ?_) | with_reducible refine mfork_dec (fun h => ?_) (fun h => ?_) | with_reducible refine mgfork_dec (fun h => ?_) (fun h => ?_) | with_reducible refine mgfork_dec' (fun h => ?_) (fun h => ?_) | (with_reducible refine mfork_bool (fun h => ?_) (fun h => ?_) <;> simp only [h]) | (with_reducible refine mgfork_bool (fun h => ?_) (fun h => ?_) <;> simp only [h]) | (simp (config := { maxSteps := 4000000 }) (disch := first | decide | assumption | omega | (simp only [List.length_append, List.length_take, List.length_drop, List.length_cons, List.length_nil, List.length_map, List.length_set, List.length_replicate]; omega)) only [go_sem, Nat.reduceAdd, Nat.reduceSub, Nat.reduceMul, Nat.reduceDiv, Nat.reduceMod, Nat.reduceLT, Nat.reduceLeDiff, Nat.reduceEqDiff, Nat.reduceSucc, Nat.reduceGT, Int.reduceAdd, Int.reduceSub, Int.reduceMul, Int.reduceNeg, Int.reduceLT, Int.reduceLE, Int.reduceEq, Int.reduceToNat, reduceIte]))
        simp only [hasB, Int.toNat_natCast, MV.bool.injEq]
        have e2 : (((s / 2 ^ k : Nat) : Int).tmod 2) = ((s / 2 ^ k % 2 : Nat) : Int) := by
          generalize s / 2 ^ k = w at hb ⊢
          rw [Int.tmod_eq_emod_of_nonneg (by omega)]
          omega
        refine decide_eq_decide.mpr ?_
        rw [e2]
        generalize s / 2 ^ k % 2 = w
        omega

theorem cmpF_one (x y : ND) : cmpF [x] [y] = cmpL x.key y.key := by
  simp only [cmpF]
  cases h : cmpL x.key y.key <;> simp_all

theorem insN_len (x : ND) : ∀ l : List ND, (insN x l).length ≤ l.length + 1
  | [] => by simp [insN]
  | y :: l => by
    have := insN_len x l
    simp only [insN]
    repeat' split
    all_goals simp
    all_goals omega

theorem foldl_len : ∀ (l acc : List ND), (l.foldl (fun acc x => insN x acc) acc).length ≤ acc.length + l.length
  | [], acc => by simp
  | x :: l, acc => by
    have h1 := foldl_len l (insN x acc)
    have h2 := insN_len x acc
    simp only [List.foldl_cons, List.length_cons]
    omega

theorem mem_foldl {z : ND} : ∀ {l acc : List ND}, z ∈ l.foldl (fun acc x => insN x acc) acc → z ∈ acc ∨ z ∈ l
  | [], acc, h => .inl h
  | x :: l, acc, h => by
    rcases mem_foldl (l := l) h with h | h
    · rcases mem_insN.1 h with h | h
      · exact .inr (List.mem_cons.2 (.inl h))
      · exact .inl h
    · exact .inr (List.mem_cons.2 (.inr h))

theorem insN_pos (x : ND) : ∀ (l : List ND) (i : Nat), i ≤ l.length → (∀ q, q < i → lessK (l.getD q nd0).key x.key) → insN x l = l.take i ++ insN x (l.drop i)
  | l, 0, _, _ => by simp
  | [], i + 1, h, _ => by simp at h
  | y :: l, i + 1, h, hq => by
    have h0 := hq 0 (by omega)
    have ih := insN_pos x l i (by simp at h; omega) (fun q hlt => by have := hq (q + 1) (by omega); simpa using this)
    simp only [List.getD_cons_zero] at h0
    rw [List.take_succ_cons, List.drop_succ_cons, List.cons_append, ← ih]
    simp only [insN]
    rw [if_pos h0]
end Go.Proofs.Ytielcgplbnlgbaa
