/- Contract of logic.column: the conditions that the theorem names. -/
import Derived.Test.YtielcgplbnlgbaaTy
import Derived.Test.YtielcgplbnlgbaaP4
set_option linter.unusedVariables false
set_option linter.unusedSimpArgs false
namespace Go.Proofs.Ytielcgplbnlgbaa

/-- A table's cells. -/
def tabM (h : Nat → Nat) : List MV := (List.range 16).map fun i => .int .u64 (h i : Int)
abbrev tabV (f : Nat → Bool) : MV := .agg (tabM (tw f))

theorem tabM_len (h : Nat → Nat) : (tabM h).length = 16 := by simp [tabM]
theorem tabM_get {h : Nat → Nat} {i : Nat} (hi : i < 16) {d : MV} : (tabM h).getD i d = .int .u64 (h i : Int) := by
  simp [tabM, List.getD, hi]
theorem tabM_get1 {h : Nat → Nat} {i : Nat} (hi : i < 16) {d : MV} : (tabM h).getD (i * 1) d = .int .u64 (h i : Int) := by
  rw [Nat.mul_one]; exact tabM_get hi
theorem tabM_ext {h g : Nat → Nat} (e : ∀ i, i < 16 → h i = g i) : tabM h = tabM g := by
  unfold tabM
  exact List.map_congr_left fun i hi => by rw [e i (List.mem_range.1 hi)]
theorem tabM_all (h : Nat → Nat) : (tabM h).all MV.isCell = true := by simp [tabM, MV.isCell]
theorem tabM_take (h : Nat → Nat) : (tabM h).take 16 = tabM h := List.take_of_length_le (by rw [tabM_len]; omega)
theorem tabM_drop (h : Nat → Nat) : (tabM h).drop 16 = [] := List.drop_of_length_le (by rw [tabM_len]; omega)
theorem tabM_laid {h : Nat → Nat} {i v : Nat} (hi : i < 16) : (tabM h).take i ++ (MV.int .u64 (v : Int) :: (tabM h).drop (i + 1)) = tabM (fun k => if k = i then v else h k) := by
  apply List.ext_getElem?
  intro k
  have h1 : ((tabM h).take i).length = i := by rw [List.length_take, tabM_len]; omega
  rcases Nat.lt_trichotomy k i with hk | hk | hk
  · rw [List.getElem?_append_left (by omega), List.getElem?_take, if_pos hk]
    simp [tabM, show k < 16 by omega, Nat.ne_of_lt hk]
  · subst hk
    rw [List.getElem?_append_right (by omega), h1, Nat.sub_self]
    simp [tabM, hi]
  · rw [List.getElem?_append_right (by omega), h1]
    obtain ⟨j, rfl⟩ : ∃ j, k = i + 1 + j := ⟨k - (i + 1), by omega⟩
    rw [show i + 1 + j - i = j + 1 by omega, List.getElem?_cons_succ, List.getElem?_drop]
    by_cases hk16 : i + 1 + j < 16
    · simp [tabM, hk16, show i + 1 + j ≠ i by omega]
    · simp [tabM, hk16]

theorem fdiv_nat (i k : Nat) : ((i : Int)).fdiv (2 ^ k) = ((i / 2 ^ k : Nat) : Int) := by
  rw [Int.fdiv_eq_ediv_of_nonneg _ (Int.pow_nonneg (by omega))]
  exact_mod_cast rfl

theorem bit_of (i k b : Nat) (hi : i < 2 ^ b) : i / 2 ^ (min k b) % 2 = if i.testBit k = true then 1 else 0 := by
  have e : i / 2 ^ (min k b) % 2 = i / 2 ^ k % 2 := by
    rcases Nat.le_total k b with h | h
    · rw [Nat.min_eq_left h]
    · rw [Nat.min_eq_right h, Nat.div_eq_of_lt hi, Nat.div_eq_of_lt (Nat.lt_of_lt_of_le hi (Nat.pow_le_pow_right (by omega) h))]
  rw [e]
  by_cases h : i.testBit k = true
  · rw [if_pos h]
    simpa [Nat.testBit_eq_decide_div_mod_eq] using h
  · rw [if_neg h]
    rw [Nat.testBit_eq_decide_div_mod_eq, decide_eq_true_eq] at h
    omega

theorem bit_i64 (i k : Nat) (hi : i < 9223372036854775808) : andK .i64 (((i : Int)).fdiv (2 ^ min k 64)) 1 = if i.testBit k = true then 1 else 0 := by
  show IntKind.i64.wrap (((BitVec.ofInt 64 (((i : Int)).fdiv (2 ^ min k 64)) &&& BitVec.ofInt 64 1).toNat : Nat) : Int) = _
  rw [fdiv_nat, BitVec.ofInt_natCast, BitVec.toNat_and, BitVec.toNat_ofNat, show (BitVec.ofInt 64 1).toNat = 2 ^ 1 - 1 by decide, Nat.and_two_pow_sub_one_eq_mod, Nat.mod_eq_of_lt (Nat.lt_of_le_of_lt (Nat.div_le_self ..) (by omega)), show 2 ^ 1 = 2 by decide, bit_of i k 64 (by omega)]
  split <;> rfl

theorem bit_u32 (i k : Nat) (hi : i < 4294967296) : andK .u32 (((i : Int)).fdiv (2 ^ min k 32)) 1 = if i.testBit k = true then 1 else 0 := by
  show IntKind.u32.wrap (((BitVec.ofInt 32 (((i : Int)).fdiv (2 ^ min k 32)) &&& BitVec.ofInt 32 1).toNat : Nat) : Int) = _
  rw [fdiv_nat, BitVec.ofInt_natCast, BitVec.toNat_and, BitVec.toNat_ofNat, show (BitVec.ofInt 32 1).toNat = 2 ^ 1 - 1 by decide, Nat.and_two_pow_sub_one_eq_mod, Nat.mod_eq_of_lt (Nat.lt_of_le_of_lt (Nat.div_le_self ..) (by omega)), show 2 ^ 1 = 2 by decide, bit_of i k 32 (by omega)]
  split <;> rfl

def row6 : List MV := [.int .u64 12297829382473034410, .int .u64 14757395258967641292, .int .u64 17361641481138401520, .int .u64 18374966859414961920, .int .u64 18446462603027742720, .int .u64 18446744069414584320]
theorem row6_get {p : Nat} (hp : p < 6) {d : MV} : row6.getD p d = .int .u64 ((wd (fun j => j.testBit p) 64 : Nat) : Int) := by
  have h : p = 0 ∨ p = 1 ∨ p = 2 ∨ p = 3 ∨ p = 4 ∨ p = 5 := by omega
  rcases h with rfl | rfl | rfl | rfl | rfl | rfl
  · rw [show wd (fun j => j.testBit 0) 64 = 12297829382473034410 by decide +kernel]; rfl
  · rw [show wd (fun j => j.testBit 1) 64 = 14757395258967641292 by decide +kernel]; rfl
  · rw [show wd (fun j => j.testBit 2) 64 = 17361641481138401520 by decide +kernel]; rfl
  · rw [show wd (fun j => j.testBit 3) 64 = 18374966859414961920 by decide +kernel]; rfl
  · rw [show wd (fun j => j.testBit 4) 64 = 18446462603027742720 by decide +kernel]; rfl
  · rw [show wd (fun j => j.testBit 5) 64 = 18446744069414584320 by decide +kernel]; rfl

theorem tw_col (p i : Nat) : tw (fun on => on.testBit p) i = if p < 6 then wd (fun j => j.testBit p) 64 else if i.testBit (p - 6) = true then 18446744073709551615 else 0 := by
  unfold tw
  split
  · rename_i h
    exact wd_ext fun j hj => by show (64 * i + j).testBit p = _; rw [add_bit hj, if_pos h]
  · rename_i h
    split
    · rename_i h2
      rw [show (18446744073709551615 : Nat) = 2 ^ 64 - 1 by decide, ← wd_ones]
      exact wd_ext fun j hj => by show (64 * i + j).testBit p = _; rw [add_bit hj, if_neg h, h2]
    · rename_i h2
      rw [← wd_zero 64]
      exact wd_ext fun j hj => by show (64 * i + j).testBit p = _; rw [add_bit hj, if_neg h]; simpa using h2

theorem ofNat_lt {w : Nat} (h : w < 18446744073709551616) : (BitVec.ofInt 64 (w : Int)).toNat = w := by
  rw [BitVec.ofInt_natCast, BitVec.toNat_ofNat, Nat.mod_eq_of_lt (by omega)]
theorem wrap_u64 {w : Nat} (h : w < 18446744073709551616) : IntKind.u64.wrap (w : Int) = w := by
  simp only [IntKind.wrap, IntKind.signed, IntKind.bits]
  simp
  omega
theorem and_u64 {a b : Nat} (ha : a < 18446744073709551616) (hb : b < 18446744073709551616) : andK .u64 (a : Int) (b : Int) = ((a &&& b : Nat) : Int) := by
  show IntKind.u64.wrap (((BitVec.ofInt 64 (a : Int) &&& BitVec.ofInt 64 (b : Int)).toNat : Nat) : Int) = _
  rw [BitVec.toNat_and, ofNat_lt ha, ofNat_lt hb]
  exact wrap_u64 (Nat.and_lt_two_pow _ (n := 64) (by omega))
theorem or_u64 {a b : Nat} (ha : a < 18446744073709551616) (hb : b < 18446744073709551616) : orK .u64 (a : Int) (b : Int) = ((a ||| b : Nat) : Int) := by
  show IntKind.u64.wrap (((BitVec.ofInt 64 (a : Int) ||| BitVec.ofInt 64 (b : Int)).toNat : Nat) : Int) = _
  rw [BitVec.toNat_or, ofNat_lt ha, ofNat_lt hb]
  exact wrap_u64 (Nat.or_lt_two_pow (n := 64) (by omega) (by omega))
theorem not_u64 {a : Nat} (ha : a < 18446744073709551616) : notK .u64 (a : Int) = (((2 ^ 64 - 1) ^^^ a : Nat) : Int) := by
  show IntKind.u64.wrap (((BitVec.ofInt 64 18446744073709551615 ^^^ BitVec.ofInt 64 (a : Int)).toNat : Nat) : Int) = _
  rw [BitVec.toNat_xor, ofNat_lt ha, show (BitVec.ofInt 64 18446744073709551615).toNat = 2 ^ 64 - 1 by decide]
  exact wrap_u64 (Nat.xor_lt_two_pow (n := 64) (by omega) (by omega))
theorem andNot_u64 {a b : Nat} (ha : a < 18446744073709551616) (hb : b < 18446744073709551616) : andNotK .u64 (a : Int) (b : Int) = ((a &&& ((2 ^ 64 - 1) ^^^ b) : Nat) : Int) := by
  show IntKind.u64.wrap (((BitVec.ofInt 64 (a : Int) &&& ~~~BitVec.ofInt 64 (b : Int)).toNat : Nat) : Int) = _
  have e : (~~~BitVec.ofInt 64 (b : Int)) = BitVec.allOnes 64 ^^^ BitVec.ofInt 64 (b : Int) := by rw [BitVec.allOnes_xor]
  rw [e, BitVec.toNat_and, BitVec.toNat_xor, ofNat_lt ha, ofNat_lt hb, BitVec.toNat_allOnes]
  exact wrap_u64 (Nat.and_lt_two_pow _ (n := 64) (Nat.xor_lt_two_pow (by omega) (by omega)))
theorem tw_not (f : Nat → Bool) (i : Nat) : notK .u64 (tw f i : Int) = (tw (fun on => !f on) i : Int) := by
  rw [not_u64 (tw_lt f i)]
  exact congrArg _ (wd_not _ 64)
theorem tw_and (f g : Nat → Bool) (i : Nat) : andK .u64 (tw f i : Int) (tw g i : Int) = (tw (fun on => f on && g on) i : Int) := by
  rw [and_u64 (tw_lt f i) (tw_lt g i)]
  exact congrArg _ (wd_and _ _ 64)
theorem tw_or (f g : Nat → Bool) (i : Nat) : orK .u64 (tw f i : Int) (tw g i : Int) = (tw (fun on => f on || g on) i : Int) := by
  rw [or_u64 (tw_lt f i) (tw_lt g i)]
  exact congrArg _ (wd_or _ _ 64)
theorem tw_andNot (f g : Nat → Bool) (i : Nat) : andNotK .u64 (tw f i : Int) (tw g i : Int) = (tw (fun on => f on && !g on) i : Int) := by
  rw [andNot_u64 (tw_lt f i) (tw_lt g i)]
  exact congrArg _ ((congrArg (tw f i &&& ·) (wd_not _ 64)).trans (wd_and _ _ 64))
theorem tw_false (i : Nat) : tw (fun _ => false) i = 0 := wd_zero 64
theorem tw_zero {f : Nat → Bool} {i : Nat} : tw f i = 0 ↔ ∀ j, j < 64 → f (64 * i + j) = false := wd_iff0

set_option maxHeartbeats 2000000 in
theorem column_call (p : Nat) (hp : p ≤ 1000000) : MCalls Try.prog 78 [.int .i64 (p : Int)] St.none (fun r _ => r = tabV fun on => on.testBit p) := by
  refine (MCalls.body 30 [.cell 2 54] Try.func78 rfl rfl rfl rfl ?_)
  repeat' (first | ((with_reducible refine mnew_intro fun nl hnl => ?_); revert hnl; (repeat (with_reducible refine set_none_intro fun _ _ => ?_)); intro hnl) | with_reducible refine mdraw_plain mixed (by decide +kernel) ?_ | with_reducible refine mif_go (fun h => ?_) (fun h => ?_) | with_reducible refine mfork_dec (fun h => ?_) (fun h => ?_) | with_reducible refine mgfork_dec (fun h => ?_) (fun h => ?_) | with_reducible refine mgfork_dec' (fun h => ?_) (fun h => ?_) | (with_reducible refine mfork_bool (fun h => ?_) (fun h => ?_) <;> simp only [h]) | (with_reducible refine mgfork_bool (fun h => ?_) (fun h => ?_) <;> simp only [h]) | (simp (config := { maxSteps := 4000000 }) (disch := first | decide | assumption | omega | (simp only [List.length_append, List.length_take, List.length_drop, List.length_cons, List.length_nil, List.length_map, List.length_set, List.length_replicate]; omega)) only [go_sem, Nat.reduceAdd, Nat.reduceSub, Nat.reduceMul, Nat.reduceDiv, Nat.reduceMod, Nat.reduceLT, Nat.reduceLeDiff, Nat.reduceEqDiff, Nat.reduceSucc, Nat.reduceGT, Int.reduceAdd, Int.reduceSub, Int.reduceMul, Int.reduceNeg, Int.reduceLT, Int.reduceLE, Int.reduceEq, Int.reduceToNat, reduceIte, Try.f78]))
  rename_i n1 _ n2 _ _ _ _ _ _ _
  refine mloop_intro (α := Nat) (fun i => ⟨30, [(7, .int .i64 (i : Int)), (4, .ptr nl 0 0), (3, .ptr n2 0 0), (2, .ptr n1 0 0), (0, .int .i64 (p : Int))], []⟩)
    (fun i => ((St.none.set n1 (.row 54 16 [tabM fun _ => 0])).set n2 (.row 54 16 [tabM fun k => if k < i then tw (fun on => on.testBit p) k else 0])).set nl (.row 111 6 [row6]))
    (fun i => i ≤ 16) (fun i => 16 - i) (.of (.less ?_ (St.le_refl _)) ⟨0, rfl, rfl, by omega⟩) ?_
  · simp (config := { maxSteps := 4000000 }) (disch := first | decide | assumption | omega | (simp only [List.length_append, List.length_take, List.length_drop, List.length_cons, List.length_nil, List.length_map, List.length_set, List.length_replicate]; omega)) only [go_sem, Nat.reduceAdd, Nat.reduceSub, Nat.reduceMul, Nat.reduceDiv, Nat.reduceMod, Nat.reduceLT, Nat.reduceLeDiff, Nat.reduceEqDiff, Nat.reduceSucc, Nat.reduceGT, Int.reduceAdd, Int.reduceSub, Int.reduceMul, Int.reduceNeg, Int.reduceLT, Int.reduceLE, Int.reduceEq, Int.reduceToNat, reduceIte, weak_int, weak_same]
    rfl
  · intro i hi
    have hl6 : row6.length = 6 := rfl
    have step : ∀ v : Nat, i < 16 → v = tw (fun on => on.testBit p) i → (tabM fun k => if k = i then v else if k < i then tw (fun on => on.testBit p) k else 0) = tabM fun k => if k < i + 1 then tw (fun on => on.testBit p) k else 0 := by
      intro v hlt hv
      refine tabM_ext fun k hk => ?_
      by_cases h1 : k = i
      · subst h1; rw [if_pos rfl, if_pos (by omega), hv]
      · rw [if_neg h1]
        by_cases h2 : k < i
        · rw [if_pos h2, if_pos (by omega)]
        · rw [if_neg h2, if_neg (by omega)]
    by_cases hlt : i < 16
    · by_cases h6 : p < 6
      · have hg := row6_get h6 (d := MV.junk)
        repeat' (first | ((with_reducible refine mnew_intro fun nl hnl => ?_); revert hnl; (repeat (with_reducible refine set_none_intro fun _ _ => ?_)); intro hnl) | with_reducible refine mdraw_plain mixed (by decide +kernel) ?_ | with_reducible refine mif_go (fun h => ?_) (fun h => ?_) | with_reducible refine mfork_dec (fun h => ?_) (fun h => ?_) | with_reducible refine mgfork_dec (fun h => ?_) (fun h => ?_) | with_reducible refine mgfork_dec' (fun h => ?_) (fun h => ?_) | (with_reducible refine mfork_bool (fun h => ?_) (fun h => ?_) <;> simp only [h]) | (with_reducible refine mgfork_bool (fun h => ?_) (fun h => ?_) <;> simp only [h]) | (simp (config := { maxSteps := 4000000 }) (disch := first | decide | assumption | omega | (simp only [List.length_append, List.length_take, List.length_drop, List.length_cons, List.length_nil, List.length_map, List.length_set, List.length_replicate]; omega)) only [go_sem, Nat.reduceAdd, Nat.reduceSub, Nat.reduceMul, Nat.reduceDiv, Nat.reduceMod, Nat.reduceLT, Nat.reduceLeDiff, Nat.reduceEqDiff, Nat.reduceSucc, Nat.reduceGT, Int.reduceAdd, Int.reduceSub, Int.reduceMul, Int.reduceNeg, Int.reduceLT, Int.reduceLE, Int.reduceEq, Int.reduceToNat, reduceIte, Nat.mul_one, hg, hl6, tabM_len, List.append_assoc, tabM_laid hlt]))
        refine .of (.less ?_ ?_) ⟨i + 1, rfl, rfl, by omega, by omega⟩
        · simp (config := { maxSteps := 4000000 }) (disch := first | decide | assumption | omega | (simp only [List.length_append, List.length_take, List.length_drop, List.length_cons, List.length_nil, List.length_map, List.length_set, List.length_replicate]; omega)) only [go_sem, Nat.reduceAdd, Nat.reduceSub, Nat.reduceMul, Nat.reduceDiv, Nat.reduceMod, Nat.reduceLT, Nat.reduceLeDiff, Nat.reduceEqDiff, Nat.reduceSucc, Nat.reduceGT, Int.reduceAdd, Int.reduceSub, Int.reduceMul, Int.reduceNeg, Int.reduceLT, Int.reduceLE, Int.reduceEq, Int.reduceToNat, reduceIte, weak_int, weak_same]
          all_goals rfl
        · rw [← step _ hlt (by rw [tw_col, if_pos h6])]
          exact St.le_refl _
      · have hb := bit_i64 i (p - 6) (by omega)
        have e6 : ((p : Int) - 6).toNat = p - 6 := by omega
        cases hbt : i.testBit (p - 6)
        · rw [hbt, if_neg (by simp)] at hb
          repeat' (first | ((with_reducible refine mnew_intro fun nl hnl => ?_); revert hnl; (repeat (with_reducible refine set_none_intro fun _ _ => ?_)); intro hnl) | with_reducible refine mdraw_plain mixed (by decide +kernel) ?_ | with_reducible refine mif_go (fun h => ?_) (fun h => ?_) | with_reducible refine mfork_dec (fun h => ?_) (fun h => ?_) | with_reducible refine mgfork_dec (fun h => ?_) (fun h => ?_) | with_reducible refine mgfork_dec' (fun h => ?_) (fun h => ?_) | (with_reducible refine mfork_bool (fun h => ?_) (fun h => ?_) <;> simp only [h]) | (with_reducible refine mgfork_bool (fun h => ?_) (fun h => ?_) <;> simp only [h]) | (simp (config := { maxSteps := 4000000 }) (disch := first | decide | assumption | omega | (simp only [List.length_append, List.length_take, List.length_drop, List.length_cons, List.length_nil, List.length_map, List.length_set, List.length_replicate]; omega)) only [go_sem, Nat.reduceAdd, Nat.reduceSub, Nat.reduceMul, Nat.reduceDiv, Nat.reduceMod, Nat.reduceLT, Nat.reduceLeDiff, Nat.reduceEqDiff, Nat.reduceSucc, Nat.reduceGT, Int.reduceAdd, Int.reduceSub, Int.reduceMul, Int.reduceNeg, Int.reduceLT, Int.reduceLE, Int.reduceEq, Int.reduceToNat, reduceIte, Nat.mul_one, hl6, tabM_len, List.append_assoc, tabM_laid hlt, e6]))
          · refine .of (.less ?_ ?_) ⟨i + 1, rfl, rfl, by omega, by omega⟩
            · simp (config := { maxSteps := 4000000 }) (disch := first | decide | assumption | omega | (simp only [List.length_append, List.length_take, List.length_drop, List.length_cons, List.length_nil, List.length_map, List.length_set, List.length_replicate]; omega)) only [go_sem, Nat.reduceAdd, Nat.reduceSub, Nat.reduceMul, Nat.reduceDiv, Nat.reduceMod, Nat.reduceLT, Nat.reduceLeDiff, Nat.reduceEqDiff, Nat.reduceSucc, Nat.reduceGT, Int.reduceAdd, Int.reduceSub, Int.reduceMul, Int.reduceNeg, Int.reduceLT, Int.reduceLE, Int.reduceEq, Int.reduceToNat, reduceIte, weak_int, weak_same]
              all_goals rfl
            · rw [← step 0 hlt (by rw [tw_col, if_neg h6, hbt, if_neg (by simp)])]
              rw [show (tabM fun k => if k = i then 0 else if k < i then tw (fun on => on.testBit p) k else 0) = tabM fun k => if k < i then tw (fun on => on.testBit p) k else 0 from tabM_ext fun k hk => by
                by_cases h1 : k = i
                · subst h1; rw [if_pos rfl, if_neg (by omega)]
                · rw [if_neg h1]]
              exact St.le_refl _
        · rw [hbt, if_pos rfl] at hb
          repeat' (first | ((with_reducible refine mnew_intro fun nl hnl => ?_); revert hnl; (repeat (with_reducible refine set_none_intro fun _ _ => ?_)); intro hnl) | with_reducible refine mdraw_plain mixed (by decide +kernel) ?_ | with_reducible refine mif_go (fun h => ?_) (fun h => ?_) | with_reducible refine mfork_dec (fun h => ?_) (fun h => ?_) | with_reducible refine mgfork_dec (fun h => ?_) (fun h => ?_) | with_reducible refine mgfork_dec' (fun h => ?_) (fun h => ?_) | (with_reducible refine mfork_bool (fun h => ?_) (fun h => ?_) <;> simp only [h]) | (with_reducible refine mgfork_bool (fun h => ?_) (fun h => ?_) <;> simp only [h]) | (simp (config := { maxSteps := 4000000 }) (disch := first | decide | assumption | omega | (simp only [List.length_append, List.length_take, List.length_drop, List.length_cons, List.length_nil, List.length_map, List.length_set, List.length_replicate]; omega)) only [go_sem, Nat.reduceAdd, Nat.reduceSub, Nat.reduceMul, Nat.reduceDiv, Nat.reduceMod, Nat.reduceLT, Nat.reduceLeDiff, Nat.reduceEqDiff, Nat.reduceSucc, Nat.reduceGT, Int.reduceAdd, Int.reduceSub, Int.reduceMul, Int.reduceNeg, Int.reduceLT, Int.reduceLE, Int.reduceEq, Int.reduceToNat, reduceIte, Nat.mul_one, hl6, tabM_len, List.append_assoc, tabM_laid hlt, e6]))
          · refine .of (.less ?_ ?_) ⟨i + 1, rfl, rfl, by omega, by omega⟩
            · simp (config := { maxSteps := 4000000 }) (disch := first | decide | assumption | omega | (simp only [List.length_append, List.length_take, List.length_drop, List.length_cons, List.length_nil, List.length_map, List.length_set, List.length_replicate]; omega)) only [go_sem, Nat.reduceAdd, Nat.reduceSub, Nat.reduceMul, Nat.reduceDiv, Nat.reduceMod, Nat.reduceLT, Nat.reduceLeDiff, Nat.reduceEqDiff, Nat.reduceSucc, Nat.reduceGT, Int.reduceAdd, Int.reduceSub, Int.reduceMul, Int.reduceNeg, Int.reduceLT, Int.reduceLE, Int.reduceEq, Int.reduceToNat, reduceIte, weak_int, weak_same]
              all_goals rfl
            · rw [← step _ hlt (by rw [tw_col, if_neg h6, hbt, if_pos rfl])]
              rw [← tabM_laid hlt]
              exact St.le_refl _
    · have : i = 16 := by omega
      subst this
      repeat' (first | ((with_reducible refine mnew_intro fun nl hnl => ?_); revert hnl; (repeat (with_reducible refine set_none_intro fun _ _ => ?_)); intro hnl) | with_reducible refine mdraw_plain mixed (by decide +kernel) ?_ | with_reducible refine mif_go (fun h => ?_) (fun h => ?_) | with_reducible refine mfork_dec (fun h => ?_) (fun h => ?_) | with_reducible refine mgfork_dec (fun h => ?_) (fun h => ?_) | with_reducible refine mgfork_dec' (fun h => ?_) (fun h => ?_) | (with_reducible refine mfork_bool (fun h => ?_) (fun h => ?_) <;> simp only [h]) | (with_reducible refine mgfork_bool (fun h => ?_) (fun h => ?_) <;> simp only [h]) | (simp (config := { maxSteps := 4000000 }) (disch := first | decide | assumption | omega | (simp only [List.length_append, List.length_take, List.length_drop, List.length_cons, List.length_nil, List.length_map, List.length_set, List.length_replicate]; omega)) only [go_sem, Nat.reduceAdd, Nat.reduceSub, Nat.reduceMul, Nat.reduceDiv, Nat.reduceMod, Nat.reduceLT, Nat.reduceLeDiff, Nat.reduceEqDiff, Nat.reduceSucc, Nat.reduceGT, Int.reduceAdd, Int.reduceSub, Int.reduceMul, Int.reduceNeg, Int.reduceLT, Int.reduceLE, Int.reduceEq, Int.reduceToNat, reduceIte, tabM_len, tabM_all, tabM_take, tabM_drop, Nat.min_self]))
      exact congrArg MV.agg (tabM_ext fun k hk => if_pos hk)
end Go.Proofs.Ytielcgplbnlgbaa
