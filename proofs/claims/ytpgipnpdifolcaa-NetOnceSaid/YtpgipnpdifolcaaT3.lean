/- Contracts of the functions that the laws of the net reach: no condition but those that each theorem names. -/
import Derived.Test.YtpgipnpdifolcaaT2
set_option linter.unusedVariables false
set_option linter.unusedSimpArgs false
namespace Go.Proofs.Ytpgipnpdifolcaa
def pk0 : PK := ⟨0, 0, ⟨#[]⟩⟩
def lookS (l : List PK) (k : Int) : PK × Bool := if k < 0 ∨ l.length ≤ k then (pk0, false) else (l.getD k.toNat pk0, true)
theorem getD_mapd {α : Type} {f : α → List MV} {l : List α} {n : Nat} (d : α) (h : n < l.length) : (l.map f).getD n [] = f (l.getD n d) := by simp [List.getD, h]

theorem rlook_call (l : List PK) (t : Bool) (k : Int) : MCalls Try.prog 16 [.lst 3 (l.map PK.c) t, .int .i64 k] St.none (fun r σ' => r = .tup [.agg (lookS l k).1.c, .bool (lookS l k).2]) := by
  refine MCalls.body 19 [.cell 4 29, .tmp 5] Try.func16 rfl rfl rfl rfl ?_
  repeat' (first | (with_reducible refine mnew_intro fun nl hnl => ?_; try simp only [set_none, none_apply] at hnl) | with_reducible refine mdraw_plain mixed (by decide +kernel) ?_ | with_reducible refine mif_go (fun h => ?_) (fun h => ?_) | with_reducible refine mfork_dec (fun h => ?_) (fun h => ?_) | with_reducible refine mgfork_dec (fun h => ?_) (fun h => ?_) | with_reducible refine mgfork_dec' (fun h => ?_) (fun h => ?_) | (simp (config := { maxSteps := 4000000 }) (disch := first | decide | assumption | omega | (simp only [List.length_append, List.length_take, List.length_drop, List.length_cons, List.length_nil, List.length_map, List.length_set, List.length_replicate]; omega)) only [go_sem, Nat.reduceAdd, Nat.reduceSub, Nat.reduceMul, Nat.reduceDiv, Nat.reduceMod, Nat.reduceLT, Nat.reduceLeDiff, Nat.reduceEqDiff, Nat.reduceSucc, Nat.reduceGT, Int.reduceAdd, Int.reduceSub, Int.reduceMul, Int.reduceNeg, Int.reduceLT, Int.reduceLE, Int.reduceEq, Int.reduceToNat, reduceIte, Try.f16, getD_mapd pk0, PK.c]))
  all_goals simp only [lookS]
  · rw [if_pos (by omega)]; rfl
  · rw [if_neg (by omega)]
  · rw [if_pos (by omega)]; rfl

def sendS (l : List PK) (p : PK) : List PK × Bool := if 40 ≤ l.length then (l, false) else (l ++ [p], true)

theorem rsend_call (l : List PK) (t : Bool) (p : PK) : MCalls Try.prog 10 [.lst 3 (l.map PK.c) t, .agg p.c] St.none (fun r σ' => r = .tup [.lst 3 ((sendS l p).1.map PK.c) false, .bool (sendS l p).2]) := by
  refine MCalls.seen (MCalls.body 16 [.tmp 4, .tmp 5] Try.func10 rfl rfl rfl rfl ?_)
  repeat' (first | (with_reducible refine mnew_intro fun nl hnl => ?_; try simp only [set_none, none_apply] at hnl) | with_reducible refine mdraw_plain mixed (by decide +kernel) ?_ | with_reducible refine mif_go (fun h => ?_) (fun h => ?_) | with_reducible refine mfork_dec (fun h => ?_) (fun h => ?_) | with_reducible refine mgfork_dec (fun h => ?_) (fun h => ?_) | with_reducible refine mgfork_dec' (fun h => ?_) (fun h => ?_) | (simp (config := { maxSteps := 4000000 }) (disch := first | decide | assumption | omega | (simp only [List.length_append, List.length_take, List.length_drop, List.length_cons, List.length_nil, List.length_map, List.length_set, List.length_replicate]; omega)) only [go_sem, Nat.reduceAdd, Nat.reduceSub, Nat.reduceMul, Nat.reduceDiv, Nat.reduceMod, Nat.reduceLT, Nat.reduceLeDiff, Nat.reduceEqDiff, Nat.reduceSucc, Nat.reduceGT, Int.reduceAdd, Int.reduceSub, Int.reduceMul, Int.reduceNeg, Int.reduceLT, Int.reduceLE, Int.reduceEq, Int.reduceToNat, reduceIte, Try.f10, PK.c]))
  · rw [sendS, if_pos (by omega)]
    exact .two .loose (.same _)
  · rw [sendS, if_neg (by omega)]
    refine .two ?_ (.same _)
    simp only [List.map_append, List.map_cons, List.map_nil, PK.c]
    refine .vecAll (t := 29) ?_ ?_
    · simp (config := { maxSteps := 4000000 }) (disch := first | decide | assumption | omega | (simp only [List.length_append, List.length_take, List.length_drop, List.length_cons, List.length_nil, List.length_map, List.length_set, List.length_replicate]; omega)) only [go_sem, Nat.reduceAdd, Nat.reduceSub, Nat.reduceMul, Nat.reduceDiv, Nat.reduceMod, Nat.reduceLT, Nat.reduceLeDiff, Nat.reduceEqDiff, Nat.reduceSucc, Nat.reduceGT, Int.reduceAdd, Int.reduceSub, Int.reduceMul, Int.reduceNeg, Int.reduceLT, Int.reduceLE, Int.reduceEq, Int.reduceToNat, reduceIte]
    · simp

def takeS (l : List PK) (k : Int) : List PK × PK × Bool := if k < 0 ∨ l.length ≤ k then (l, pk0, false) else (l.take k.toNat ++ l.drop (k.toNat + 1), l.getD k.toNat pk0, true)

theorem rtake_call (l : List PK) (hl : l.length ≤ 1000) (t : Bool) (k : Int) : MCalls Try.prog 12 [.lst 3 (l.map PK.c) t, .int .i64 k] St.none (fun r σ' => r = .tup [.lst 3 ((takeS l k).1.map PK.c) false, .agg (takeS l k).2.1.c, .bool (takeS l k).2.2]) := by
  refine MCalls.seen (MCalls.body 30 [.tmp 4, .cell 5 29, .tmp 6] Try.func12 rfl rfl rfl rfl ?_)
  by_cases h : k < 0 ∨ (l.length : Int) ≤ k
  · have h1 : lookS l k = (pk0, false) := if_pos h
    have h2 : takeS l k = (l, pk0, false) := if_pos h
    repeat' (first | (with_reducible refine use_pure (rlook_call _ _ _) ?_) | (with_reducible refine mnew_intro fun nl hnl => ?_; try simp only [set_none, none_apply] at hnl) | with_reducible refine mdraw_plain mixed (by decide +kernel) ?_ | with_reducible refine mif_go (fun h => ?_) (fun h => ?_) | with_reducible refine mfork_dec (fun h => ?_) (fun h => ?_) | with_reducible refine mgfork_dec (fun h => ?_) (fun h => ?_) | with_reducible refine mgfork_dec' (fun h => ?_) (fun h => ?_) | (simp (config := { maxSteps := 4000000 }) (disch := first | decide | assumption | omega | (simp only [List.length_append, List.length_take, List.length_drop, List.length_cons, List.length_nil, List.length_map, List.length_set, List.length_replicate]; omega)) only [go_sem, Nat.reduceAdd, Nat.reduceSub, Nat.reduceMul, Nat.reduceDiv, Nat.reduceMod, Nat.reduceLT, Nat.reduceLeDiff, Nat.reduceEqDiff, Nat.reduceSucc, Nat.reduceGT, Int.reduceAdd, Int.reduceSub, Int.reduceMul, Int.reduceNeg, Int.reduceLT, Int.reduceLE, Int.reduceEq, Int.reduceToNat, reduceIte, Try.f12, PK.c, h1, h2]))
    exact .three .loose (.same _) (.same _)
  · have h1 : lookS l k = (l.getD k.toNat pk0, true) := if_neg h
    have h2 : takeS l k = (l.take k.toNat ++ l.drop (k.toNat + 1), l.getD k.toNat pk0, true) := if_neg h
    have h3 : (k + 1).toNat = k.toNat + 1 := by omega
    repeat' (first | (with_reducible refine use_pure (rlook_call _ _ _) ?_) | (with_reducible refine mnew_intro fun nl hnl => ?_; try simp only [set_none, none_apply] at hnl) | with_reducible refine mdraw_plain mixed (by decide +kernel) ?_ | with_reducible refine mif_go (fun h => ?_) (fun h => ?_) | with_reducible refine mfork_dec (fun h => ?_) (fun h => ?_) | with_reducible refine mgfork_dec (fun h => ?_) (fun h => ?_) | with_reducible refine mgfork_dec' (fun h => ?_) (fun h => ?_) | (simp (config := { maxSteps := 4000000 }) (disch := first | decide | assumption | omega | (simp only [List.length_append, List.length_take, List.length_drop, List.length_cons, List.length_nil, List.length_map, List.length_set, List.length_replicate]; omega)) only [go_sem, Nat.reduceAdd, Nat.reduceSub, Nat.reduceMul, Nat.reduceDiv, Nat.reduceMod, Nat.reduceLT, Nat.reduceLeDiff, Nat.reduceEqDiff, Nat.reduceSucc, Nat.reduceGT, Int.reduceAdd, Int.reduceSub, Int.reduceMul, Int.reduceNeg, Int.reduceLT, Int.reduceLE, Int.reduceEq, Int.reduceToNat, reduceIte, Try.f12, PK.c, h1, h2, h3]))
    refine .three (.vecAll (t := 29) ?_ ?_) (.same _) (.same _)
    · simp (config := { maxSteps := 4000000 }) (disch := first | decide | assumption | omega | (simp only [List.length_append, List.length_take, List.length_drop, List.length_cons, List.length_nil, List.length_map, List.length_set, List.length_replicate]; omega)) only [go_sem, Nat.reduceAdd, Nat.reduceSub, Nat.reduceMul, Nat.reduceDiv, Nat.reduceMod, Nat.reduceLT, Nat.reduceLeDiff, Nat.reduceEqDiff, Nat.reduceSucc, Nat.reduceGT, Int.reduceAdd, Int.reduceSub, Int.reduceMul, Int.reduceNeg, Int.reduceLT, Int.reduceLE, Int.reduceEq, Int.reduceToNat, reduceIte]
    · simp

theorem rtwice_call (l : List PK) (hl : l.length ≤ 1000) (t : Bool) (k : Int) : MCalls Try.prog 14 [.lst 3 (l.map PK.c) t, .int .i64 k] St.none (fun r σ' => r = if (lookS l k).2 = true then .tup [.lst 3 ((sendS l (lookS l k).1).1.map PK.c) false, .bool (sendS l (lookS l k).1).2] else .tup [.lst 3 (l.map PK.c) false, .bool false]) := by
  refine MCalls.seen (MCalls.body 22 [.tmp 4, .tmp 5] Try.func14 rfl rfl rfl rfl ?_)
  cases h : (lookS l k).2
  · repeat' (first | (with_reducible refine use_pure (rlook_call _ _ _) ?_) | (with_reducible refine mnew_intro fun nl hnl => ?_; try simp only [set_none, none_apply] at hnl) | with_reducible refine mdraw_plain mixed (by decide +kernel) ?_ | with_reducible refine mif_go (fun h => ?_) (fun h => ?_) | with_reducible refine mfork_dec (fun h => ?_) (fun h => ?_) | with_reducible refine mgfork_dec (fun h => ?_) (fun h => ?_) | with_reducible refine mgfork_dec' (fun h => ?_) (fun h => ?_) | (simp (config := { maxSteps := 4000000 }) (disch := first | decide | assumption | omega | (simp only [List.length_append, List.length_take, List.length_drop, List.length_cons, List.length_nil, List.length_map, List.length_set, List.length_replicate]; omega)) only [go_sem, Nat.reduceAdd, Nat.reduceSub, Nat.reduceMul, Nat.reduceDiv, Nat.reduceMod, Nat.reduceLT, Nat.reduceLeDiff, Nat.reduceEqDiff, Nat.reduceSucc, Nat.reduceGT, Int.reduceAdd, Int.reduceSub, Int.reduceMul, Int.reduceNeg, Int.reduceLT, Int.reduceLE, Int.reduceEq, Int.reduceToNat, reduceIte, Try.f14, PK.c, h]))
    exact .two .loose (.same _)
  · repeat' (first | (with_reducible refine use_pure (rlook_call _ _ _) ?_) | (with_reducible refine use_pure (rsend_call _ _ _) ?_) | (with_reducible refine mnew_intro fun nl hnl => ?_; try simp only [set_none, none_apply] at hnl) | with_reducible refine mdraw_plain mixed (by decide +kernel) ?_ | with_reducible refine mif_go (fun h => ?_) (fun h => ?_) | with_reducible refine mfork_dec (fun h => ?_) (fun h => ?_) | with_reducible refine mgfork_dec (fun h => ?_) (fun h => ?_) | with_reducible refine mgfork_dec' (fun h => ?_) (fun h => ?_) | (simp (config := { maxSteps := 4000000 }) (disch := first | decide | assumption | omega | (simp only [List.length_append, List.length_take, List.length_drop, List.length_cons, List.length_nil, List.length_map, List.length_set, List.length_replicate]; omega)) only [go_sem, Nat.reduceAdd, Nat.reduceSub, Nat.reduceMul, Nat.reduceDiv, Nat.reduceMod, Nat.reduceLT, Nat.reduceLeDiff, Nat.reduceEqDiff, Nat.reduceSucc, Nat.reduceGT, Int.reduceAdd, Int.reduceSub, Int.reduceMul, Int.reduceNeg, Int.reduceLT, Int.reduceLE, Int.reduceEq, Int.reduceToNat, reduceIte, Try.f14, PK.c, h]))
    exact .same _
end Go.Proofs.Ytpgipnpdifolcaa
