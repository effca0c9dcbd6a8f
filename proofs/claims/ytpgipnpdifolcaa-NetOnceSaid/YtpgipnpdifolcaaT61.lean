/- Contracts of the functions that the laws of the net reach: no condition but those that each theorem names. -/
import Derived.Test.YtpgipnpdifolcaaT6
set_option linter.unusedVariables false
set_option linter.unusedSimpArgs false
namespace Go.Proofs.Ytpgipnpdifolcaa
theorem to_pk (p : PK) : MCalls Try.prog 9 [.agg p.c] St.none (fun r σ' => r = .agg p.c) := by
  refine MCalls.body 10 [.cell 2 32] Try.func9 rfl rfl rfl rfl ?_
  repeat' (first | (with_reducible refine mnew_intro fun nl hnl => ?_; try simp only [set_none, none_apply] at hnl) | with_reducible refine mdraw_plain mixed (by decide +kernel) ?_ | with_reducible refine mif_go (fun h => ?_) (fun h => ?_) | with_reducible refine mfork_dec (fun h => ?_) (fun h => ?_) | with_reducible refine mgfork_dec (fun h => ?_) (fun h => ?_) | with_reducible refine mgfork_dec' (fun h => ?_) (fun h => ?_) | (simp (config := { maxSteps := 4000000 }) (disch := first | decide | assumption | omega | (simp only [List.length_append, List.length_take, List.length_drop, List.length_cons, List.length_nil, List.length_map, List.length_set, List.length_replicate]; omega)) only [go_sem, Nat.reduceAdd, Nat.reduceSub, Nat.reduceMul, Nat.reduceDiv, Nat.reduceMod, Nat.reduceLT, Nat.reduceLeDiff, Nat.reduceEqDiff, Nat.reduceSucc, Nat.reduceGT, Int.reduceAdd, Int.reduceSub, Int.reduceMul, Int.reduceNeg, Int.reduceLT, Int.reduceLE, Int.reduceEq, Int.reduceToNat, reduceIte, Try.f9, PK.c]))

theorem to_any (x y : Int) (z : ByteArray) : MCalls Try.prog 9 [.agg [.int .i64 x, .int .i64 y, .str z]] St.none (fun r σ' => r = .agg [.int .i64 x, .int .i64 y, .str z]) := by
  refine MCalls.body 10 [.cell 2 32] Try.func9 rfl rfl rfl rfl ?_
  repeat' (first | (with_reducible refine mnew_intro fun nl hnl => ?_; try simp only [set_none, none_apply] at hnl) | with_reducible refine mdraw_plain mixed (by decide +kernel) ?_ | with_reducible refine mif_go (fun h => ?_) (fun h => ?_) | with_reducible refine mfork_dec (fun h => ?_) (fun h => ?_) | with_reducible refine mgfork_dec (fun h => ?_) (fun h => ?_) | with_reducible refine mgfork_dec' (fun h => ?_) (fun h => ?_) | (simp (config := { maxSteps := 4000000 }) (disch := first | decide | assumption | omega | (simp only [List.length_append, List.length_take, List.length_drop, List.length_cons, List.length_nil, List.length_map, List.length_set, List.length_replicate]; omega)) only [go_sem, Nat.reduceAdd, Nat.reduceSub, Nat.reduceMul, Nat.reduceDiv, Nat.reduceMod, Nat.reduceLT, Nat.reduceLeDiff, Nat.reduceEqDiff, Nat.reduceSucc, Nat.reduceGT, Int.reduceAdd, Int.reduceSub, Int.reduceMul, Int.reduceNeg, Int.reduceLT, Int.reduceLE, Int.reduceEq, Int.reduceToNat, reduceIte, Try.f9]))

theorem dec_not_self {α : Sort _} [DecidableEq α] {a : α} : decide (¬ a = a) = false := by simp

theorem sendS_le {xs : List PK} (h : xs.length ≤ 40) (p : PK) : (sendS xs p).1.length ≤ 40 := by
  unfold sendS
  split
  · exact h
  · simp; omega
theorem takeS_le {xs : List PK} (h : xs.length ≤ 40) (k : Int) : (takeS xs k).1.length ≤ 40 := by
  unfold takeS
  split
  · exact h
  · simp; omega

theorem len_at (b l2 : Nat) (ex xs : List PK) (h : l2 ≠ b) : MCalls Try.prog 17 [.ptr b 0 0] (St.ofList [b, l2] [.row 55 3 [[.int .i32 0, .int .u32 0, .vec 3 l2 0 xs.length]], .row 32 3 ((xs ++ ex).map PK.c)]) (fun r σ' => r = .int .i64 xs.length ∧ σ' = St.ofList [b, l2] [.row 55 3 [[.int .i32 0, .int .u32 0, .vec 3 l2 0 xs.length]], .row 32 3 ((xs ++ ex).map PK.c)]) := by
  have e : St.ofList [b, l2] [.row 55 3 [[.int .i32 0, .int .u32 0, .vec 3 l2 0 xs.length]], .row 32 3 ((xs ++ ex).map PK.c)] = netS b l2 ex xs := by
    simp only [St.ofList, netS]
    rw [set_comm _ _ _ h]
  rw [e]
  exact len_call b l2 ex xs h

theorem rtwice_yes (l : List PK) (hl : l.length ≤ 1000) (t : Bool) {k : Int} (hk : (lookS l k).2 = true) : MCalls Try.prog 14 [.lst 3 (l.map PK.c) t, .int .i64 k] St.none (fun r σ' => r = .tup [.lst 3 ((sendS l (lookS l k).1).1.map PK.c) false, .bool (sendS l (lookS l k).1).2]) := by
  have := rtwice_call l hl t k
  simpa only [hk, if_true] using this
theorem rtwice_no (l : List PK) (hl : l.length ≤ 1000) (t : Bool) {k : Int} (hk : (lookS l k).2 = false) : MCalls Try.prog 14 [.lst 3 (l.map PK.c) t, .int .i64 k] St.none (fun r σ' => r = .tup [.lst 3 (l.map PK.c) false, .bool false]) := by
  have := rtwice_call l hl t k
  simpa only [hk, Bool.false_eq_true, if_false] using this

theorem send_nil0 : MCalls Try.prog 8 [.nilp, .agg [.int .i64 0, .int .i64 0, .str ⟨#[]⟩]] St.none (fun r σ' => r = .bool false) := send_nil pk0

def ac0 : AC := ⟨0, 0, pk0⟩
end Go.Proofs.Ytpgipnpdifolcaa
