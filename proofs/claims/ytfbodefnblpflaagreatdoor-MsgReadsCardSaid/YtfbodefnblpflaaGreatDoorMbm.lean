/- Parts of the proof, joined. Each part says what it proves, and under which conditions it does: those that its theorems name. -/
import Derived.Test.YtfbodefnblpflaaGreatDoorMbj
import Derived.Test.YtfbodefnblpflaaGreatDoorMbk
import Derived.Test.YtfbodefnblpflaaGreatDoorMbl
set_option linter.unusedVariables false
set_option linter.unusedSimpArgs false
set_option maxHeartbeats 4000000
section
namespace Go.Proofs.YtfbodefnblpflaaGreatDoor
set_option maxRecDepth 100000
theorem bsS_ex {l : BL} {k : Nat} : (bsS l).extract k l.length = bsS (l.drop k) := by
 unfold bsS
 refine ByteArray.ext ?_
 simp only [ByteArray.data_extract]
 have : (l.drop k).take (l.length - k) = l.drop k := List.take_of_length_le (by rw [List.length_drop]; omega)
 simp [this]
theorem bsS_seg {l : BL} {a b : Nat} : (bsS l).extract a b = bsS ((l.drop a).take (b - a)) := by
 unfold bsS
 exact ByteArray.ext (by simp [ByteArray.data_extract, List.extract_eq_take_drop])
theorem rRNum_call (most : Int) (r : RD) [hs : Sh r] (l : Nat) : MCalls Tryz.prog 92 [.ptr l 0 0, .int .i64 most] (St.none.set l (rR r)) (fun v σ' => v = .int .i64 (numR most r).1 ∧ σ' = St.none.set l (rR (numR most r).2)) := by
 refine (MCalls.body 37 [.tmp 4] Tryz.func92 rfl rfl rfl rfl ?_)
 have hl := hs.h
 have h := rnext_call r.l most hl
 have hk := nx_len r.l most
 unfold numR
 by_cases he : r.e = 0
 ·rw [if_pos he]
  repeat' (first | (with_reducible first | refine up h ?_) | (with_reducible first | (refine wN fun _ hnl => ?_; revert hnl; (repeat refine wS fun _ _ => ?_); intro hnl) | refine wE ?_ | (refine wK ?_ ?_ <;> intro h) | (refine wB ?_ ?_ <;> intro h <;> simp only [h])) | simp (maxSteps := 4000000) (disch := first | decide | assumption | omega | (simp only [wL]; omega)) only [go_sem, simprocAttr, Tryz.f92, bsS_size, bsS_ex])
  all_goals first | rfl | (simp only [*]; done) | skip
 ·rw [if_neg he]
  repeat' (first | (with_reducible first | refine up h ?_) | (with_reducible first | (refine wN fun _ hnl => ?_; revert hnl; (repeat refine wS fun _ _ => ?_); intro hnl) | refine wE ?_ | (refine wK ?_ ?_ <;> intro h) | (refine wB ?_ ?_ <;> intro h <;> simp only [h])) | simp (maxSteps := 4000000) (disch := first | decide | assumption | omega | (simp only [wL]; omega)) only [go_sem, simprocAttr, Tryz.f92, bsS_size, bsS_ex])
  all_goals first | rfl | (simp only [*]; done) | skip
theorem rRFail_call (e : Int) (r : RD) (l : Nat) : MCalls Tryz.prog 51 [.ptr l 0 0, .int .i64 e] (St.none.set l (rR r)) (fun v σ' => v = .tup [] ∧ σ' = St.none.set l (rR (failR e r))) := by
 refine (MCalls.body 13 [] Tryz.func51 rfl rfl rfl rfl ?_)
 unfold failR
 by_cases he : r.e = 0
 ·rw [if_pos he]
  repeat' (first | (with_reducible first | (refine wN fun _ hnl => ?_; revert hnl; (repeat refine wS fun _ _ => ?_); intro hnl) | refine wE ?_ | (refine wK ?_ ?_ <;> intro h) | (refine wB ?_ ?_ <;> intro h <;> simp only [h])) | simp (maxSteps := 4000000) (disch := first | decide | assumption | omega | (simp only [wL]; omega)) only [go_sem, simprocAttr, Tryz.f51])
  all_goals first | rfl | (simp only [*]; done) | skip
 ·rw [if_neg he]
  repeat' (first | (with_reducible first | (refine wN fun _ hnl => ?_; revert hnl; (repeat refine wS fun _ _ => ?_); intro hnl) | refine wE ?_ | (refine wK ?_ ?_ <;> intro h) | (refine wB ?_ ?_ <;> intro h <;> simp only [h])) | simp (maxSteps := 4000000) (disch := first | decide | assumption | omega | (simp only [wL]; omega)) only [go_sem, simprocAttr, Tryz.f51])
  all_goals first | rfl | (simp only [*]; done) | skip
theorem rREnd_call (r : RD) [hs : Sh r] (l : Nat) : MCalls Tryz.prog 55 [.ptr l 0 0] (St.none.set l (rR r)) (fun v σ' => v = .int .i64 (endR r) ∧ σ' = St.none.set l (rR r)) := by
 refine (MCalls.body 19 [.tmp 2] Tryz.func55 rfl rfl rfl rfl ?_)
 unfold endR
 by_cases he : r.e = 0 ∧ 0 < r.l.length
 ·rw [if_pos he]
  have h0 := he.1
  have h1 : ¬ bsS r.l = ⟨#[]⟩ := fun e => by
   have := congrArg ByteArray.size e
   rw [bsS_size] at this
   have h2 : (⟨#[]⟩ : ByteArray).size = 0 := rfl
   omega
  repeat' (first | (with_reducible first | (refine wN fun _ hnl => ?_; revert hnl; (repeat refine wS fun _ _ => ?_); intro hnl) | refine wE ?_ | (refine wK ?_ ?_ <;> intro h) | (refine wB ?_ ?_ <;> intro h <;> simp only [h])) | simp (maxSteps := 4000000) (disch := first | decide | assumption | omega | (simp only [wL]; omega)) only [go_sem, simprocAttr, Tryz.f55])
  all_goals first | rfl | (simp only [*]; done) | skip
 ·rw [if_neg he]
  by_cases h0 : r.e = 0
  ·have h1 : bsS r.l = ⟨#[]⟩ := by
    have : r.l = [] := List.eq_nil_of_length_eq_zero (by omega)
    rw [this]; rfl
   repeat' (first | (with_reducible first | (refine wN fun _ hnl => ?_; revert hnl; (repeat refine wS fun _ _ => ?_); intro hnl) | refine wE ?_ | (refine wK ?_ ?_ <;> intro h) | (refine wB ?_ ?_ <;> intro h <;> simp only [h])) | simp (maxSteps := 4000000) (disch := first | decide | assumption | omega | (simp only [wL]; omega)) only [go_sem, simprocAttr, Tryz.f55])
   all_goals first | rfl | (simp only [*]; done) | skip
  ·repeat' (first | (with_reducible first | (refine wN fun _ hnl => ?_; revert hnl; (repeat refine wS fun _ _ => ?_); intro hnl) | refine wE ?_ | (refine wK ?_ ?_ <;> intro h) | (refine wB ?_ ?_ <;> intro h <;> simp only [h])) | simp (maxSteps := 4000000) (disch := first | decide | assumption | omega | (simp only [wL]; omega)) only [go_sem, simprocAttr, Tryz.f55])
   all_goals first | rfl | (simp only [*]; done) | skip
theorem rRFlag_call (r : RD) [hs : Sh r] (l : Nat) : MCalls Tryz.prog 96 [.ptr l 0 0] (St.none.set l (rR r)) (fun v σ' => v = .bool (flagR r).1 ∧ σ' = St.none.set l (rR (flagR r).2)) := by
 refine (MCalls.body 43 [.tmp 2] Tryz.func96 rfl rfl rfl rfl ?_)
 have hl := hs.h
 have h := rnext_call r.l 1099511627776 hl
 have hk := nx_len r.l 1099511627776
 unfold flagR big
 by_cases he : r.e = 0
 ·rw [if_pos he]
  by_cases h1 : (nx r.l 1099511627776).2.2 = 0
  ·rw [if_pos h1]
   by_cases h2 : (nx r.l 1099511627776).1 ≤ 1
   ·rw [if_pos h2]
    repeat' (first | (with_reducible first | refine up h ?_) | (with_reducible first | (refine wN fun _ hnl => ?_; revert hnl; (repeat refine wS fun _ _ => ?_); intro hnl) | refine wE ?_ | (refine wK ?_ ?_ <;> intro h) | (refine wB ?_ ?_ <;> intro h <;> simp only [h])) | simp (maxSteps := 4000000) (disch := first | decide | assumption | omega | (simp only [wL]; omega)) only [go_sem, simprocAttr, Tryz.f96, bsS_size, bsS_ex])
    all_goals first | rfl | (simp only [*]; done) | skip
   ·rw [if_neg h2]
    repeat' (first | (with_reducible first | refine up h ?_) | (with_reducible first | (refine wN fun _ hnl => ?_; revert hnl; (repeat refine wS fun _ _ => ?_); intro hnl) | refine wE ?_ | (refine wK ?_ ?_ <;> intro h) | (refine wB ?_ ?_ <;> intro h <;> simp only [h])) | simp (maxSteps := 4000000) (disch := first | decide | assumption | omega | (simp only [wL]; omega)) only [go_sem, simprocAttr, Tryz.f96, bsS_size, bsS_ex])
    all_goals first | rfl | (simp only [*]; done) | skip
  ·rw [if_neg h1]
   repeat' (first | (with_reducible first | refine up h ?_) | (with_reducible first | (refine wN fun _ hnl => ?_; revert hnl; (repeat refine wS fun _ _ => ?_); intro hnl) | refine wE ?_ | (refine wK ?_ ?_ <;> intro h) | (refine wB ?_ ?_ <;> intro h <;> simp only [h])) | simp (maxSteps := 4000000) (disch := first | decide | assumption | omega | (simp only [wL]; omega)) only [go_sem, simprocAttr, Tryz.f96, bsS_size, bsS_ex])
   all_goals first | rfl | (simp only [*]; done) | skip
 ·rw [if_neg he]
  repeat' (first | (with_reducible first | refine up h ?_) | (with_reducible first | (refine wN fun _ hnl => ?_; revert hnl; (repeat refine wS fun _ _ => ?_); intro hnl) | refine wE ?_ | (refine wK ?_ ?_ <;> intro h) | (refine wB ?_ ?_ <;> intro h <;> simp only [h])) | simp (maxSteps := 4000000) (disch := first | decide | assumption | omega | (simp only [wL]; omega)) only [go_sem, simprocAttr, Tryz.f96, bsS_size, bsS_ex])
  all_goals first | rfl | (simp only [*]; done) | skip
theorem rRStr_call (most : Int) (r : RD) [hs : Sh r] (l : Nat) : MCalls Tryz.prog 190 [.ptr l 0 0, .int .i64 most] (St.none.set l (rR r)) (fun v σ' => v = .str (bsS (strR most r).1) ∧ σ' = St.none.set l (rR (strR most r).2)) := by
 refine (MCalls.body 64 [.tmp 4] Tryz.func190 rfl rfl rfl rfl ?_)
 have hl := hs.h
 have h := rnext_call r.l most hl
 have hk := nx_len r.l most
 have hv := nx_rng r.l most
 unfold big at hv
 unfold strR
 by_cases he : r.e = 0
 ·rw [if_pos he]
  by_cases h1 : (nx r.l most).2.2 = 0
  ·rw [if_pos h1]
   by_cases h2 : (nx r.l most).1.toNat ≤ r.l.length - (nx r.l most).2.1
   ·rw [if_pos h2]
    repeat' (first | (with_reducible first | refine up h ?_) | (with_reducible first | (refine wN fun _ hnl => ?_; revert hnl; (repeat refine wS fun _ _ => ?_); intro hnl) | refine wE ?_ | (refine wK ?_ ?_ <;> intro h) | (refine wB ?_ ?_ <;> intro h <;> simp only [h])) | simp (maxSteps := 4000000) (disch := first | decide | assumption | omega | (simp only [wL]; omega)) only [go_sem, simprocAttr, Tryz.f190, bsS_size, bsS_ex])
    have e1 : (((nx r.l most).2.1 : Nat) + (nx r.l most).1).toNat = (nx r.l most).2.1 + (nx r.l most).1.toNat := by omega
    rw [e1, bsS_seg, Nat.add_sub_cancel_left, he]
    exact ⟨rfl, rfl⟩
   ·rw [if_neg h2]
    repeat' (first | (with_reducible first | refine up h ?_) | (with_reducible first | (refine wN fun _ hnl => ?_; revert hnl; (repeat refine wS fun _ _ => ?_); intro hnl) | refine wE ?_ | (refine wK ?_ ?_ <;> intro h) | (refine wB ?_ ?_ <;> intro h <;> simp only [h])) | simp (maxSteps := 4000000) (disch := first | decide | assumption | omega | (simp only [wL]; omega)) only [go_sem, simprocAttr, Tryz.f190, bsS_size, bsS_ex])
    all_goals first | rfl | (simp only [*]; done) | skip
  ·rw [if_neg h1]
   repeat' (first | (with_reducible first | refine up h ?_) | (with_reducible first | (refine wN fun _ hnl => ?_; revert hnl; (repeat refine wS fun _ _ => ?_); intro hnl) | refine wE ?_ | (refine wK ?_ ?_ <;> intro h) | (refine wB ?_ ?_ <;> intro h <;> simp only [h])) | simp (maxSteps := 4000000) (disch := first | decide | assumption | omega | (simp only [wL]; omega)) only [go_sem, simprocAttr, Tryz.f190, bsS_size, bsS_ex])
   all_goals first | rfl | (simp only [*]; done) | skip
 ·rw [if_neg he]
  repeat' (first | (with_reducible first | refine up h ?_) | (with_reducible first | (refine wN fun _ hnl => ?_; revert hnl; (repeat refine wS fun _ _ => ?_); intro hnl) | refine wE ?_ | (refine wK ?_ ?_ <;> intro h) | (refine wB ?_ ?_ <;> intro h <;> simp only [h])) | simp (maxSteps := 4000000) (disch := first | decide | assumption | omega | (simp only [wL]; omega)) only [go_sem, simprocAttr, Tryz.f190, bsS_size, bsS_ex])
  all_goals first | rfl | (simp only [*]; done) | skip
end Go.Proofs.YtfbodefnblpflaaGreatDoor
end

section
namespace Go.Proofs.YtfbodefnblpflaaGreatDoor
set_option maxRecDepth 100000
theorem hasB_bit {s : Nat} {i : Nat} (h : i < 32) : hasB s (i : Int) = bit s i := by
 unfold hasB bit
 rw [Nat.testBit_eq_decide_div_mod_eq]
 refine decide_eq_decide.mpr ?_
 rw [Int.toNat_natCast]
 constructor
 ·exact fun h => h.2.2
 ·exact fun k => ⟨by omega, by omega, k⟩
theorem rbit_call (m : UInt32) (i : Nat) (h : i < 32) : MCalls Tryz.prog 130 [.int .u32 (m.toNat : Int), .int .i64 (i : Int)] St.none (fun r _ => r = .bool (bit m.toNat i)) := by
 have := rhas_call m.toNat (i : Int) m.toNat_lt
 rwa [hasB_bit h] at this
theorem rmlab_call (m : UInt32) : MCalls Tryz.prog 129 [.int .u32 (m.toNat : Int)] St.none (fun r _ => r = .bool (bit m.toNat 8)) := by
 refine (MCalls.body 5 [.tmp 2] Tryz.func129 rfl rfl rfl rfl ?_)
 have h := rbit_call m 8 (by decide)
 repeat' (first | (with_reducible first | refine up h ?_) | (with_reducible first | (refine wN fun _ hnl => ?_; revert hnl; (repeat refine wS fun _ _ => ?_); intro hnl) | refine wE ?_ | (refine wK ?_ ?_ <;> intro h) | (refine wB ?_ ?_ <;> intro h <;> simp only [h])) | simp (maxSteps := 4000000) (disch := first | decide | assumption | omega | (simp only [wL]; omega)) only [go_sem, simprocAttr, Tryz.f129])
 all_goals rfl
theorem rmcheck_call (m : UInt32) : MCalls Tryz.prog 82 [.int .u32 (m.toNat : Int)] St.none (fun r _ => r = .bool (decide (m.toNat ≤ 511))) := by
 refine (MCalls.body 5 [.tmp 2] Tryz.func82 rfl rfl rfl rfl ?_)
 repeat' (first | (with_reducible first | (refine wN fun _ hnl => ?_; revert hnl; (repeat refine wS fun _ _ => ?_); intro hnl) | refine wE ?_ | (refine wK ?_ ?_ <;> intro h) | (refine wB ?_ ?_ <;> intro h <;> simp only [h])) | simp (maxSteps := 4000000) (disch := first | decide | assumption | omega | (simp only [wL]; omega)) only [go_sem, simprocAttr, Tryz.f82])
 all_goals first | rfl | (refine decide_eq_decide.mpr ?_; omega)
theorem rvalR_call (r : RD) [hs : Sh r] (l : Nat) : MCalls Tryz.prog 175 [.ptr l 0 0] (St.none.set l (rR r)) (fun v σ' => v = .agg (valR r).1.c ∧ σ' = St.none.set l (rR (valR r).2)) := by
 refine MCalls.obj (MCalls.body 26 [.cell 2 24] Tryz.func175 rfl rfl rfl rfl ?_)
 repeat' (first | (with_reducible (refine wQ ?_; first | refine uR (rRNum_call ..) ?_ | refine uR (rRStr_call ..) ?_)) | (with_reducible first | (refine wN fun _ hnl => ?_; revert hnl; (repeat refine wS fun _ _ => ?_); intro hnl) | refine wE ?_ | (refine wK ?_ ?_ <;> intro h) | (refine wB ?_ ?_ <;> intro h <;> simp only [h])) | simp (maxSteps := 4000000) (disch := first | decide | assumption | omega | (simp only [wL]; omega)) only [go_sem, simprocAttr, Tryz.f175])
 all_goals (try simp only [Classical.not_not] at *)
 all_goals (first | (simp [valR, okR, big, va0, *]; done) | (simp only [valR, okR, big, va0]; (repeat' split) <;> (first | (simp_all; done) | omega | (exfalso; omega))) | skip)
theorem rabove8_call (most : Int) (r : RD) [hs : Sh r] (l : Nat) : MCalls Tryz.prog 174 [.ptr l 0 0, .int .i64 most] (St.none.set l (rR r)) (fun v σ' => v = .int .i64 (fromR 1 most r).1 ∧ σ' = St.none.set l (rR (fromR 1 most r).2)) := by
 refine MCalls.obj (MCalls.body 21 [.tmp 4] Tryz.func174 rfl rfl rfl rfl ?_)
 have hr := (numR_rng most r).1
 repeat' (first | (with_reducible (refine wQ ?_; first | refine uR (rRNum_call ..) ?_ | refine uR (rRFail_call ..) ?_)) | (with_reducible first | (refine wN fun _ hnl => ?_; revert hnl; (repeat refine wS fun _ _ => ?_); intro hnl) | refine wE ?_ | (refine wK ?_ ?_ <;> intro h) | (refine wB ?_ ?_ <;> intro h <;> simp only [h])) | simp (maxSteps := 4000000) (disch := first | decide | assumption | omega | (simp only [wL]; omega)) only [go_sem, simprocAttr, Tryz.f174])
 all_goals (try simp only [Classical.not_not] at *)
 all_goals (first | (simp [fromR, failR, *]; done) | (simp only [fromR, failR]; (repeat' split) <;> (first | (simp_all; done) | omega | (exfalso; omega))) | skip)
theorem rabove_call (most : Int) (r : RD) [hs : Sh r] (l : Nat) : MCalls Tryz.prog 49 [.ptr l 0 0, .int .i64 most] (St.none.set l (rR r)) (fun v σ' => v = .int .i64 (fromR 1 most r).1 ∧ σ' = St.none.set l (rR (fromR 1 most r).2)) := by
 refine MCalls.obj (MCalls.body 21 [.tmp 4] Tryz.func49 rfl rfl rfl rfl ?_)
 have hr := (numR_rng most r).1
 repeat' (first | (with_reducible (refine wQ ?_; first | refine uR (rRNum_call ..) ?_ | refine uR (rRFail_call ..) ?_)) | (with_reducible first | (refine wN fun _ hnl => ?_; revert hnl; (repeat refine wS fun _ _ => ?_); intro hnl) | refine wE ?_ | (refine wK ?_ ?_ <;> intro h) | (refine wB ?_ ?_ <;> intro h <;> simp only [h])) | simp (maxSteps := 4000000) (disch := first | decide | assumption | omega | (simp only [wL]; omega)) only [go_sem, simprocAttr, Tryz.f49])
 all_goals (try simp only [Classical.not_not] at *)
 all_goals (first | (simp [fromR, failR, *]; done) | (simp only [fromR, failR]; (repeat' split) <;> (first | (simp_all; done) | omega | (exfalso; omega))) | skip)
end Go.Proofs.YtfbodefnblpflaaGreatDoor
end
