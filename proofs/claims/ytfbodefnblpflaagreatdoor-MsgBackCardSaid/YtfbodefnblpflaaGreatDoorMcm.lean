/- Parts of the proof, joined. Each part says what it proves, and under which conditions it does: those that its theorems name. -/
import Derived.Test.YtfbodefnblpflaaGreatDoorMci
import Derived.Test.YtfbodefnblpflaaGreatDoorMcj
import Derived.Test.YtfbodefnblpflaaGreatDoorMck
set_option linter.unusedVariables false
set_option linter.unusedSimpArgs false
set_option maxHeartbeats 4000000
section
namespace Go.Proofs.YtfbodefnblpflaaGreatDoor
set_option maxRecDepth 100000
theorem hasB_bit {s : Nat} {i : Nat} (h : i < 32) : hasB s (i : Int) = bit s i := by
 unfold hasB bit
 rw [Nat.testBit_eq_decide_div_mod_eq]
 refine decide_eq_decide.mpr ?_
 rw [Int.toNat_natCast]
 constructor
 ·exact fun h => h.2.2
 ·exact fun k => ⟨by omega, by omega, k⟩
theorem rbit_call (m : UInt32) (i : Nat) (h : i < 32) : MCalls Tryz.prog 130 [.int .u32 (m.toNat : Int), .int .i64 (i : Int)] St.none (fun r _ => r = .bool (bit m.toNat i)) := by
 have := rhas_call m.toNat (i : Int) m.toNat_lt
 rwa [hasB_bit h] at this
theorem rmlab_call (m : UInt32) : MCalls Tryz.prog 129 [.int .u32 (m.toNat : Int)] St.none (fun r _ => r = .bool (bit m.toNat 8)) := by
 refine (MCalls.body 5 [.tmp 2] Tryz.func129 rfl rfl rfl rfl ?_)
 have h := rbit_call m 8 (by decide)
 repeat' (first | (with_reducible first | refine up h ?_) | (with_reducible first | (refine wN fun _ hnl => ?_; revert hnl; (repeat refine wS fun _ _ => ?_); intro hnl) | refine wE ?_ | (refine wK ?_ ?_ <;> intro h) | (refine wB ?_ ?_ <;> intro h <;> simp only [h])) | simp (maxSteps := 4000000) (disch := first | decide | assumption | omega | (simp only [wL]; omega)) only [go_sem, simprocAttr, Tryz.f129])
 all_goals rfl
theorem rmcheck_call (m : UInt32) : MCalls Tryz.prog 82 [.int .u32 (m.toNat : Int)] St.none (fun r _ => r = .bool (decide (m.toNat ≤ 511))) := by
 refine (MCalls.body 5 [.tmp 2] Tryz.func82 rfl rfl rfl rfl ?_)
 repeat' (first | (with_reducible first | (refine wN fun _ hnl => ?_; revert hnl; (repeat refine wS fun _ _ => ?_); intro hnl) | refine wE ?_ | (refine wK ?_ ?_ <;> intro h) | (refine wB ?_ ?_ <;> intro h <;> simp only [h])) | simp (maxSteps := 4000000) (disch := first | decide | assumption | omega | (simp only [wL]; omega)) only [go_sem, simprocAttr, Tryz.f82])
 all_goals first | rfl | (refine decide_eq_decide.mpr ?_; omega)
theorem vaOk_size {v : VA} (h : vaOk v = true) : v.s.size ≤ 24 := by
 rcases (vaOk_iff v).1 h with ⟨-, h⟩ | ⟨-, -, -, h⟩ | ⟨-, -, h⟩
 ·rw [h]; decide
 ·rw [h]; decide
 ·exact h
end Go.Proofs.YtfbodefnblpflaaGreatDoor
end

section
namespace Go.Proofs.YtfbodefnblpflaaGreatDoor
theorem mb_neq {t : TypeId} {xs ys : List MV} {b : Bool} (h : meqs Tryz.prog 6 t (.agg xs) (.agg ys) = some b) (hp : eqPlain Tryz.prog t = true) : mbin Tryz.prog t .neq (.agg xs) (.agg ys) = some (True, .bool (!b)) := by
 rw [mbin_agg, h, maggEq_some, eqV_neq, hp]; simp
theorem mb_eql {t : TypeId} {xs ys : List MV} {b : Bool} (h : meqs Tryz.prog 6 t (.agg xs) (.agg ys) = some b) (hp : eqPlain Tryz.prog t = true) : mbin Tryz.prog t .eql (.agg xs) (.agg ys) = some (True, .bool b) := by
 rw [mbin_agg, h, maggEq_some, eqV_eql, hp]; simp
theorem pl_patch : eqPlain Tryz.prog 27 = true := by decide +kernel
theorem pl_card : eqPlain Tryz.prog 117 = true := by decide +kernel
theorem pl_edit : eqPlain Tryz.prog 29 = true := by decide +kernel
theorem pl_token : eqPlain Tryz.prog 34 = true := by decide +kernel
theorem pl_item : eqPlain Tryz.prog 119 = true := by decide +kernel
theorem mbn_patch (a b : PA) : mbin Tryz.prog 27 .neq (.agg a.c) (.agg b.c) = some (True, .bool (!decide (a = b))) := mb_neq (meq_patch 2 a b) pl_patch
theorem mbe_patch (a b : PA) : mbin Tryz.prog 27 .eql (.agg a.c) (.agg b.c) = some (True, .bool (decide (a = b))) := mb_eql (meq_patch 2 a b) pl_patch
theorem mbn_card (a b : CA) : mbin Tryz.prog 117 .neq (.agg a.c) (.agg b.c) = some (True, .bool (!decide (a = b))) := mb_neq (meq_card 2 a b) pl_card
theorem mbn_edit (a b : ED) : mbin Tryz.prog 29 .neq (.agg a.c) (.agg b.c) = some (True, .bool (!decide (a = b))) := mb_neq (meq_edit 1 a b) pl_edit
theorem mbe_edit (a b : ED) : mbin Tryz.prog 29 .eql (.agg a.c) (.agg b.c) = some (True, .bool (decide (a = b))) := mb_eql (meq_edit 1 a b) pl_edit
theorem mbn_token (a b : TO) : mbin Tryz.prog 34 .neq (.agg a.c) (.agg b.c) = some (True, .bool (!decide (a = b))) := mb_neq (meq_token 4 a b) pl_token
theorem mbe_token (a b : TO) : mbin Tryz.prog 34 .eql (.agg a.c) (.agg b.c) = some (True, .bool (decide (a = b))) := mb_eql (meq_token 4 a b) pl_token
theorem mbn_item (a b : IT) : mbin Tryz.prog 119 .neq (.agg a.k) (.agg b.k) = some (True, .bool (!decide (a = b))) := mb_neq (meq_item 1 a b) pl_item
theorem patchErr_bad {p : PA} {i : Nat} (h0 : ¬ (p.mask.toNat = 0 ∨ 511 < p.mask.toNat)) (h1 : ¬ (65536 ≤ p.lab.toNat ∨ p.lab.toNat ≠ 0 ∧ bit p.mask.toNat 8 = false)) (hi : i < 8) (h : (vaOk (p.f.get i) && (decide ((p.f.get i).kd = 0) || bit p.mask.toNat i)) = false) : patchErr p = 1 := by
 unfold patchErr
 rw [if_neg h0, if_neg h1, if_neg]
 intro hb
 have := List.all_eq_true.1 hb i (List.mem_range.2 hi)
 rw [h] at this
 cases this
theorem patchErr_good {p : PA} (h0 : ¬ (p.mask.toNat = 0 ∨ 511 < p.mask.toNat)) (h1 : ¬ (65536 ≤ p.lab.toNat ∨ p.lab.toNat ≠ 0 ∧ bit p.mask.toNat 8 = false)) (h : ∀ i, i < 8 → (vaOk (p.f.get i) && (decide ((p.f.get i).kd = 0) || bit p.mask.toNat i)) = true) : patchErr p = 0 := by
 unfold patchErr
 rw [if_neg h0, if_neg h1, if_pos]
 exact List.all_eq_true.2 fun i hi => h i (List.mem_range.1 hi)
end Go.Proofs.YtfbodefnblpflaaGreatDoor
end

section
namespace Go.Proofs.YtfbodefnblpflaaGreatDoor
theorem view_row {σ : St} {q n : Nat} {t : TypeId} {xs ex : List (List MV)} (h : σ q = some (.row t 1 (xs ++ ex))) (hn : n = xs.length) : View σ (.vec 1 q 0 n) (.lst 1 xs false) := by
 have := View.vec (lo := 0) (n := n) h (by rw [List.length_append]; omega)
 rwa [List.drop_zero, hn, List.take_append_of_le_length (Nat.le_refl _), List.take_length, ← hn] at this
theorem shr7 (v : Nat) : (v : Int).fdiv (2 ^ (min (7 : Int).toNat IntKind.i64.bits)) = ((v / 128 : Nat) : Int) := by
 have e : (2 : Int) ^ (min (7 : Int).toNat IntKind.i64.bits) = 128 := by decide
 rw [e, Int.fdiv_eq_ediv_of_nonneg _ (by decide)]
 rfl
theorem shr7' (v : Nat) : (v : Int).fdiv (2 ^ (min 7 64)) = ((v / 128 : Nat) : Int) := shr7 v
theorem bc_one {n : Nat} (h : n < 256) : ([[MV.int .u8 (n : Int)]] : List (List MV)) = [UInt8.ofNat n].map bc := by rw [bc_of h]; rfl
def bnV (bs : BL) : BL → Nat → MV
 | [], _ => .lst 1 (bs.map bc) true
 | p :: pre, q => .vec 1 q 0 (bs.length + (p :: pre).length)
def bnS (bs : BL) : BL → Nat → List (List MV) → St
 | [], _, _ => St.none
 | p :: pre, q, ex => St.none.set q (.row 5 1 ((bs ++ p :: pre).map bc ++ ex))
set_option maxHeartbeats 1000000 in
theorem pnum_own (bs : BL) (hb : bs.length ≤ 1000000) (t : Bool) (n : Int) : MCalls Tryz.prog 21 [.lst 1 (bs.map bc) t, .int .i64 n] St.none (fun r σ' => ∃ q ex, r = .vec 1 q 0 (bs ++ numB n).length ∧ σ' = St.none.set q (.row 5 1 ((bs ++ numB n).map bc ++ ex))) := by
 refine MCalls.drops (MCalls.body 30 [.tmp 4] Tryz.func21 rfl rfl rfl rfl ?_)
 repeat' (first | (with_reducible first | (refine wT ?_; (first | ((fail_if_success (have := nl1)); refine wN fun nl1 hnl => ?_) | ((fail_if_success (have := nl2)); refine wN fun nl2 hnl => ?_) | refine wN fun _ hnl => ?_); revert hnl; (repeat refine wS fun _ _ => ?_); intro hnl) | refine wE ?_ | (refine wK ?_ ?_ <;> intro h) | (refine wB ?_ ?_ <;> intro h <;> simp only [h])) | simp (maxSteps := 4000000) (disch := first | decide | assumption | omega | (simp only [wL]; omega)) only [go_sem, simprocAttr, Tryz.f21])
 refine mloop_intro (α := Nat × Nat × BL × Nat × List (List MV)) (fun a => ⟨30, [(5, .int .i64 (a.2.1 : Int)), (0, bnV bs a.2.2.1 a.2.2.2.1)], []⟩) (fun a => bnS bs a.2.2.1 a.2.2.2.1 a.2.2.2.2) (fun a => a.2.1 < 128 ^ (a.1 + 1) ∧ numB n = a.2.2.1 ++ numF a.1 a.2.1 ∧ a.2.2.1.length + a.1 ≤ 5) (fun a => a.1) ?_ ?_
 ·refine .of (.less ?_ (St.le_refl _)) ⟨(5, (min (max n 0) big).toNat, [], 0, []), rfl, rfl, ⟨by simp only; rw [pow128]; unfold big; omega, rfl, Nat.le_refl _⟩⟩
  simp (maxSteps := 4000000) (disch := first | decide | assumption | omega | (simp only [wL]; omega)) only [go_sem, simprocAttr, weak_int, weak_same]
  refine ⟨by unfold big; split <;> split <;> omega, ?_⟩
  rw [List.take_length]; exact .same _
 ·rintro ⟨k, v, pre, q, ex⟩ ⟨h1, h2, h3⟩
  simp only at h1 h2 h3 ⊢
  have hv : v ≤ 4398046511104 := by
   have : 128 ^ (k + 1) ≤ 128 ^ (5 + 1) := Nat.pow_le_pow_right (by decide) (by omega)
   rw [pow128] at this; omega
  have h7 := shr7' v
  have h8 := or8 v
  have hm := Nat.mod_lt v (show 0 < 128 by decide)
  have hc := bc_one (show v % 128 + 128 < 256 by omega)
  cases pre with
  | nil =>
   simp only [bnV, bnS, List.length_nil, List.nil_append] at h2 h3 ⊢
   by_cases h128 : 128 ≤ v
   ·cases k with
    | zero => simp at h1; omega
    | succ k =>
     rw [numF, if_neg (by omega)] at h2
     repeat' (first | (with_reducible first | (refine wT ?_; (first | ((fail_if_success (have := nl1)); refine wN fun nl1 hnl => ?_) | ((fail_if_success (have := nl2)); refine wN fun nl2 hnl => ?_) | refine wN fun _ hnl => ?_); revert hnl; (repeat refine wS fun _ _ => ?_); intro hnl) | refine wE ?_ | (refine wK ?_ ?_ <;> intro h) | (refine wB ?_ ?_ <;> intro h <;> simp only [h])) | simp (maxSteps := 4000000) (disch := first | decide | assumption | omega | (simp only [wL]; omega)) only [go_sem, simprocAttr, h7, h8, or_true, hc])
     refine .of (.less ?_ (σ1 := bnS bs [UInt8.ofNat (v % 128 + 128)] nl2 []) (St.set_le (St.none_le _) ((set_hit _ _ _).trans (by simp)))) ⟨(k, v / 128, [UInt8.ofNat (v % 128 + 128)], nl2, []), rfl, rfl, ⟨by simp only; rw [Nat.pow_succ] at h1; omega, h2, by simp only [List.length_cons, List.length_nil]; omega⟩, by simp only; omega⟩
     simp (maxSteps := 4000000) (disch := first | decide | assumption | omega | (simp only [wL]; omega)) only [go_sem, simprocAttr, weak_int, weak_same]
     all_goals first | rfl | exact .same _
   ·have e : numF k v = [UInt8.ofNat v] := by cases k <;> simp only [numF] <;> rw [if_pos (by omega)]
    rw [e] at h2
    have hc2 := bc_one (show v < 256 by omega)
    repeat' (first | (with_reducible first | (refine wT ?_; (first | ((fail_if_success (have := nl1)); refine wN fun nl1 hnl => ?_) | ((fail_if_success (have := nl2)); refine wN fun nl2 hnl => ?_) | refine wN fun _ hnl => ?_); revert hnl; (repeat refine wS fun _ _ => ?_); intro hnl) | refine wE ?_ | (refine wK ?_ ?_ <;> intro h) | (refine wB ?_ ?_ <;> intro h <;> simp only [h])) | simp (maxSteps := 4000000) (disch := first | decide | assumption | omega | (simp only [wL]; omega)) only [go_sem, simprocAttr, h7, h8, or_true, hc2])
    exact ⟨St.none.set nl2 (.row 5 1 ((bs ++ numB n).map bc ++ [])), St.set_le (St.none_le _) ((set_hit _ _ _).trans (by rw [h2]; simp)), nl2, [], by rw [h2]; simp, rfl⟩
  | cons p pre =>
   simp only [bnV, bnS, List.length_cons] at h3 ⊢
   have htk : List.take (bs.length + (pre.length + 1)) (List.map bc (bs ++ p :: pre) ++ ex) = List.map bc (bs ++ p :: pre) := by
    rw [List.take_append_of_le_length (by simp), List.take_of_length_le (by simp)]
   have hdr : List.drop (bs.length + (pre.length + 1) + 1) (List.map bc (bs ++ p :: pre) ++ ex) = ex.drop 1 := by
    rw [List.drop_append, List.drop_eq_nil_of_le (by simp), List.nil_append]
    congr 1
    simp
   by_cases h128 : 128 ≤ v
   ·cases k with
    | zero => simp at h1; omega
    | succ k =>
     rw [numF, if_neg (by omega)] at h2
     repeat' (first | (with_reducible first | (refine wT ?_; (first | ((fail_if_success (have := nl1)); refine wN fun nl1 hnl => ?_) | ((fail_if_success (have := nl2)); refine wN fun nl2 hnl => ?_) | refine wN fun _ hnl => ?_); revert hnl; (repeat refine wS fun _ _ => ?_); intro hnl) | refine wE ?_ | (refine wK ?_ ?_ <;> intro h) | (refine wB ?_ ?_ <;> intro h <;> simp only [h])) | simp (maxSteps := 4000000) (disch := first | decide | assumption | omega | (simp only [wL]; omega)) only [go_sem, simprocAttr, h7, h8, hc, htk, hdr])
     ·have hex : ex = [] := List.eq_nil_of_length_eq_zero (by omega)
      subst hex
      refine .of (.less ?_ (σ1 := bnS bs (p :: (pre ++ [UInt8.ofNat (v % 128 + 128)])) nl2 []) (St.set_le (St.none_le _) ((set_hit _ _ _).trans (by simp)))) ⟨(k, v / 128, p :: (pre ++ [UInt8.ofNat (v % 128 + 128)]), nl2, []), rfl, rfl, ⟨by simp only; rw [Nat.pow_succ] at h1; omega, by rw [h2]; simp, by simp; omega⟩, by simp only; omega⟩
      simp (maxSteps := 4000000) (disch := first | decide | assumption | omega | (simp only [wL]; omega)) only [go_sem, simprocAttr, weak_int, weak_same]
      all_goals first | rfl | (simp [bnV, Nat.add_assoc]; exact .same _)
     ·refine .of (.less ?_ (σ1 := bnS bs (p :: (pre ++ [UInt8.ofNat (v % 128 + 128)])) nl2 (ex.drop 1)) (St.set_le (St.none_le _) ((set_hit _ _ _).trans (by simp)))) ⟨(k, v / 128, p :: (pre ++ [UInt8.ofNat (v % 128 + 128)]), nl2, ex.drop 1), rfl, rfl, ⟨by simp only; rw [Nat.pow_succ] at h1; omega, by rw [h2]; simp, by simp; omega⟩, by simp only; omega⟩
      simp (maxSteps := 4000000) (disch := first | decide | assumption | omega | (simp only [wL]; omega)) only [go_sem, simprocAttr, weak_int, weak_same]
      all_goals first | rfl | (simp [bnV, Nat.add_assoc]; exact .same _)
   ·have e : numF k v = [UInt8.ofNat v] := by cases k <;> simp only [numF] <;> rw [if_pos (by omega)]
    rw [e] at h2
    have hc2 := bc_one (show v < 256 by omega)
    repeat' (first | (with_reducible first | (refine wT ?_; (first | ((fail_if_success (have := nl1)); refine wN fun nl1 hnl => ?_) | ((fail_if_success (have := nl2)); refine wN fun nl2 hnl => ?_) | refine wN fun _ hnl => ?_); revert hnl; (repeat refine wS fun _ _ => ?_); intro hnl) | refine wE ?_ | (refine wK ?_ ?_ <;> intro h) | (refine wB ?_ ?_ <;> intro h <;> simp only [h])) | simp (maxSteps := 4000000) (disch := first | decide | assumption | omega | (simp only [wL]; omega)) only [go_sem, simprocAttr, h7, h8, hc2, htk, hdr])
    ·have hex : ex = [] := List.eq_nil_of_length_eq_zero (by omega)
     subst hex
     exact ⟨St.none.set nl2 (.row 5 1 ((bs ++ numB n).map bc ++ [])), St.set_le (St.none_le _) ((set_hit _ _ _).trans (by rw [h2]; simp)), nl2, [], by rw [h2]; simp [Nat.add_assoc], rfl⟩
    ·exact ⟨St.none.set nl2 (.row 5 1 ((bs ++ numB n).map bc ++ ex.drop 1)), St.set_le (St.none_le _) ((set_hit _ _ _).trans (by rw [h2]; simp)), nl2, ex.drop 1, by rw [h2]; simp [Nat.add_assoc], rfl⟩
theorem pnum_call (bs : BL) (t : Bool) (n : Int) (hb : bs.length ≤ 1000000) : MCalls Tryz.prog 21 [.lst 1 (bs.map bc) t, .int .i64 n] St.none (fun r _ => r = .lst 1 ((bs ++ numB n).map bc) false) :=
 MCalls.seen ((pnum_own bs hb t n).mono fun v σ' ⟨q, ex, h1, h2⟩ => by
  subst h1 h2
  exact view_row (set_hit _ _ _) (by simp))
end Go.Proofs.YtfbodefnblpflaaGreatDoor
end

section
namespace Go.Proofs.YtfbodefnblpflaaGreatDoor
theorem bs_toList (s : ByteArray) : (s.toList.map fun b => [MV.int .u8 (b.toNat : Int)]) = (bl s).map bc := by
 have := bsS_toList (bl s)
 rw [bsS_of] at this
 rw [this]
theorem pstr_call (bs : BL) (t : Bool) (s : BL) (hb : bs.length ≤ 1000000) (hs : s.length ≤ 1000000) : MCalls Tryz.prog 181 [.lst 1 (bs.map bc) t, .str (bsS s)] St.none (fun r _ => r = .lst 1 ((bs ++ strB s).map bc) false) := by
 refine MCalls.seen (MCalls.body 11 [.tmp 4] Tryz.func181 rfl rfl rfl rfl ?_)
 have h := pnum_own bs hb t (s.length : Int)
 have hn := numB_len (s.length : Int)
 repeat' (first | (with_reducible first | (refine wN fun _ hnl => ?_; revert hnl; (repeat refine wS fun _ _ => ?_); intro hnl) | refine wE ?_ | (refine wK ?_ ?_ <;> intro h) | (refine wB ?_ ?_ <;> intro h <;> simp only [h])) | simp (maxSteps := 4000000) (disch := first | decide | assumption | omega | (simp only [wL]; omega)) only [go_sem, simprocAttr, Tryz.f181, bsS_size, bsS_toList])
 refine use_frame h (St.none_le _) ?_
 rintro v σ' ⟨q, ex, rfl, rfl⟩ -
 repeat' (first | (with_reducible first | (refine wN fun _ hnl => ?_; revert hnl; (repeat refine wS fun _ _ => ?_); intro hnl) | refine wE ?_ | (refine wK ?_ ?_ <;> intro h) | (refine wB ?_ ?_ <;> intro h <;> simp only [h])) | simp (maxSteps := 4000000) (disch := first | decide | assumption | omega | (simp only [wL]; omega)) only [go_sem, simprocAttr, over_set, over_none, minus_set, minus_none, bsS_toList])
 ·have hex : ex = [] := List.eq_nil_of_length_eq_zero (by omega)
  subst hex
  exact view_row (t := 5) (ex := []) ((set_hit _ _ _).trans (by simp [strB, bc])) (by simp [strB, Nat.add_assoc])
 ·exact view_row (t := 5) (ex := List.drop s.length ex) ((set_hit _ _ _).trans (by
   rw [List.take_append_of_le_length (by simp), List.take_of_length_le (by simp), List.drop_append, List.drop_eq_nil_of_le (by simp), List.nil_append]
   simp [strB, bc])) (by simp only [strB, List.length_append, List.length_map]; first | done | omega)
theorem pflag_call (bs : BL) (t : Bool) (b : Bool) (hb : bs.length ≤ 1000000) : MCalls Tryz.prog 122 [.lst 1 (bs.map bc) t, .bool b] St.none (fun r _ => r = .lst 1 ((bs ++ flagB b).map bc) false) := by
 refine (MCalls.body 10 [.tmp 4] Tryz.func122 rfl rfl rfl rfl ?_)
 have h1 := pnum_call bs t 1 hb
 have h0 := pnum_call bs t 0 hb
 cases b
 all_goals
  repeat' (first | (with_reducible first | refine up h1 ?_ | refine up h0 ?_) | (with_reducible first | (refine wN fun _ hnl => ?_; revert hnl; (repeat refine wS fun _ _ => ?_); intro hnl) | refine wE ?_ | (refine wK ?_ ?_ <;> intro h) | (refine wB ?_ ?_ <;> intro h <;> simp only [h])) | simp (maxSteps := 4000000) (disch := first | decide | assumption | omega | (simp only [wL]; omega)) only [go_sem, simprocAttr, Tryz.f122])
  try rfl
end Go.Proofs.YtfbodefnblpflaaGreatDoor
end
