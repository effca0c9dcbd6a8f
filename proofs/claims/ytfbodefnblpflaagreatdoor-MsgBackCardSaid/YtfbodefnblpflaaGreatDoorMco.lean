/- Parts of the proof, joined. Each part says what it proves, and under which conditions it does: those that its theorems name. -/
import Derived.Test.YtfbodefnblpflaaGreatDoorMcj
set_option linter.unusedVariables false
set_option linter.unusedSimpArgs false
set_option maxHeartbeats 4000000
section
namespace Go.Proofs.YtfbodefnblpflaaGreatDoor
set_option maxRecDepth 100000
theorem and127 : ∀ x : Nat, x < 256 → andK .u8 (x : Int) 127 = ((x % 128 : Nat) : Int) := by decide +kernel
theorem and127' (c : UInt8) : andK .u8 (c.toNat : Int) 127 = ((c.toNat % 128 : Nat) : Int) := and127 _ c.toNat_lt
theorem or64 (a b : Nat) (ha : a < 4611686018427387904) (hb : b < 4611686018427387904) : orK .i64 (a : Int) (b : Int) = ((a ||| b : Nat) : Int) := by
 have hab : a ||| b < 2 ^ 62 := Nat.or_lt_two_pow (by simpa using ha) (by simpa using hb)
 unfold orK
 have e : (BitVec.ofInt IntKind.i64.bits (a : Int) ||| BitVec.ofInt IntKind.i64.bits (b : Int)).toNat = a ||| b := by
  rw [BitVec.toNat_or]
  simp only [BitVec.ofInt_natCast, BitVec.toNat_ofNat, IntKind.bits]
  rw [Nat.mod_eq_of_lt (by omega), Nat.mod_eq_of_lt (by omega)]
 rw [e]
 generalize a ||| b = c at hab
 simp (disch := omega) only [go_sem]
theorem or_val (v x i : Nat) (hv : v < 128 ^ i) : v ||| x * 128 ^ i = v + x * 128 ^ i := by
 have e : 128 ^ i = 2 ^ (7 * i) := by rw [Nat.pow_mul]
 rw [e] at hv ⊢
 have := Nat.shiftLeft_add_eq_or_of_lt hv x
 rw [Nat.shiftLeft_eq] at this
 rw [Nat.or_comm, ← this, Nat.add_comm]
theorem Sfx.get {bs : BL} {r : RD} (h : Sfx bs r) {i : Nat} (hi : i < r.l.length) : bs.getD (bs.length - r.l.length + i) 0 = r.l.getD i 0 := by
 have := h.drop
 rw [← this, List.getD_eq_getElem?_getD, List.getD_eq_getElem?_getD, List.getElem?_drop, this]
set_option maxHeartbeats 4000000 in
theorem ppeek_call (bs : BL) (hb : bs.length ≤ 1000000) (most : Int) (r : RD) [hs : Sfx bs r] (he : r.e = 0) (l : Nat) :
  MCalls Tryz.prog 134 [.ptr l 0 0, .int .i64 most] (St.none.set l (rP bs r)) (fun v σ' => v = .tup [.int .i64 (nx r.l most).1, .int .i64 ((bs.length : Int) - (r.l.length : Int) + ((nx r.l most).2.1 : Nat))] ∧ σ' = St.none.set l (rP bs ⟨r.l, (nx r.l most).2.2⟩)) := by
 refine (MCalls.body 94 [.tmp 4, .tmp 5] Tryz.func134 rfl rfl rfl rfl ?_)
 have hsl := hs.len
 repeat' (first | (with_reducible first | (refine wN fun _ hnl => ?_; revert hnl; (repeat refine wS fun _ _ => ?_); intro hnl) | refine wE ?_ | (refine wK ?_ ?_ <;> intro h) | (refine wB ?_ ?_ <;> intro h <;> simp only [h])) | simp (maxSteps := 4000000) (disch := first | decide | assumption | omega | (simp only [wL]; omega)) only [go_sem, simprocAttr, Tryz.f134])
 refine mloop_intro (α := Nat) (fun i => ⟨94, [(9, .int .i64 (i : Int)), (6, .int .i64 (val (r.l.take i) : Int)), (0, .ptr l 0 0), (1, .int .i64 most)], []⟩) (fun _ => St.none.set l (rP bs r)) (fun i => i ≤ 6 ∧ goes i r.l) (fun i => 6 - i) ?_ ?_
 ·refine .of (.less ?_ (St.le_refl _)) ⟨0, rfl, rfl, Nat.zero_le _, goes_zero _⟩
  simp (maxSteps := 4000000) (disch := first | decide | assumption | omega | (simp only [wL]; omega)) only [go_sem, simprocAttr, weak_int, weak_same]
  all_goals rfl
 ·rintro i ⟨h6, hg⟩
  have hgl := hg.1
  have hdr := hs.drop
  by_cases e6 : i = 6
  ·subst e6
   rw [goes_six hg, show (bs.length : Int) - (r.l.length : Int) + ((0 : Nat) : Int) = (bs.length : Int) - (r.l.length : Int) from Int.add_zero _]
   clear hg hdr
   repeat' (first | (with_reducible first | (refine wN fun _ hnl => ?_; revert hnl; (repeat refine wS fun _ _ => ?_); intro hnl) | refine wE ?_ | (refine wK ?_ ?_ <;> intro h) | (refine wB ?_ ?_ <;> intro h <;> simp only [h])) | simp (maxSteps := 4000000) (disch := first | decide | assumption | omega | (simp only [wL]; omega)) only [go_sem, simprocAttr])
  ·by_cases el : i = r.l.length
   ·rw [goes_end hg (by omega) el]
    repeat' (first | (with_reducible first | (refine wN fun _ hnl => ?_; revert hnl; (repeat refine wS fun _ _ => ?_); intro hnl) | refine wE ?_ | (refine wK ?_ ?_ <;> intro h) | (refine wB ?_ ?_ <;> intro h <;> simp only [h])) | simp (maxSteps := 4000000) (disch := first | decide | assumption | omega | (simp only [wL]; omega)) only [go_sem, simprocAttr])
    all_goals
     congr 3
     simp
   ·have hget := hs.get (i := i) (by omega)
    obtain ⟨c, hc⟩ : ∃ c, r.l.getD i 0 = c := ⟨_, rfl⟩
    rw [hc] at hget
    have hidx : ((bs.length : Int) - (r.l.length : Int) + (i : Int)).toNat = bs.length - r.l.length + i := by omega
    have hil : bs.length - r.l.length + i < bs.length := by omega
    have hvl := val_lt (r.l.take i)
    rw [List.length_take, Nat.min_eq_left (by omega)] at hvl
    have hv6 : 128 ^ i ≤ 34359738368 := by
     have : 128 ^ i ≤ 128 ^ 5 := Nat.pow_le_pow_right (by decide) (by omega)
     exact this
    have hcl := c.toNat_lt
    have hx : c.toNat % 128 * 128 ^ i ≤ 4363686772736 := by
     have : c.toNat % 128 ≤ 127 := by omega
     exact Nat.le_trans (Nat.mul_le_mul this hv6) (by decide)
    have hsucc : val (r.l.take (i + 1)) = val (r.l.take i) + c.toNat % 128 * 128 ^ i := by
     rw [List.take_succ_eq_append_getElem (by omega), val_snoc, List.length_take, Nat.min_eq_left (by omega)]
     have : r.l[i] = c := by rw [← hc]; simp [List.getD, show i < r.l.length by omega]
     rw [this]
    have hor : orK .i64 ((val (r.l.take i) : Nat) : Int) (IntKind.i64.wrap (((c.toNat % 128 : Nat) : Int) * 2 ^ min (7 * (i : Int)).toNat 64)) = ((val (r.l.take (i + 1)) : Nat) : Int) := by
     have e1 : min (7 * (i : Int)).toNat 64 = 7 * i := by omega
     have e2 : ((c.toNat % 128 : Nat) : Int) * 2 ^ (7 * i) = ((c.toNat % 128 * 128 ^ i : Nat) : Int) := by
      rw [show (128 : Nat) ^ i = 2 ^ (7 * i) by rw [Nat.pow_mul]]
      simp
     rw [e1, e2]
     generalize hy : c.toNat % 128 * 128 ^ i = y at hx hsucc
     have e3 : IntKind.i64.wrap (y : Int) = (y : Int) := by simp (disch := omega) only [go_sem]
     rw [e3, or64 _ _ (by omega) (by omega), ← hy, or_val _ _ _ hvl, hsucc, hy]
    have hv1 : val (r.l.take i) ≤ 34359738368 := by omega
    have hv2 : val (r.l.take (i + 1)) ≤ 4398046511104 := by omega
    have hstop := fun h => goes_stop (n := i) hg (by omega) (by omega) h most
    have hgs := goes_succ (n := i) hg (by omega)
    rw [hc] at hstop hgs
    obtain ⟨v1, hv1e⟩ : ∃ v1, val (r.l.take i) = v1 := ⟨_, rfl⟩
    obtain ⟨v2, hv2e⟩ : ∃ v2, val (r.l.take (i + 1)) = v2 := ⟨_, rfl⟩
    rw [hv1e] at hor hv1
    rw [hv2e] at hor hv2 hstop
    rw [hv1e]
    have hc8 : c.toNat < 256 := hcl
    clear hsucc hx hvl hv6 hdr hcl hv1e
    by_cases hbig : 128 ≤ c.toNat
    ·clear hstop hg
     repeat' (first | (with_reducible first | (refine wN fun _ hnl => ?_; revert hnl; (repeat refine wS fun _ _ => ?_); intro hnl) | refine wE ?_ | (refine wK ?_ ?_ <;> intro h) | (refine wB ?_ ?_ <;> intro h <;> simp only [h])) | simp (maxSteps := 4000000) (disch := first | decide | assumption | omega | (simp only [wL]; omega)) only [go_sem, simprocAttr, getD_mapd (0 : UInt8), hidx, hget, and127', hor])
     refine .of (.less ?_ (St.le_refl _)) ⟨i + 1, rfl, rfl, ⟨by omega, hgs hbig⟩, by omega⟩
     rw [hv2e]
     simp (maxSteps := 4000000) (disch := first | decide | assumption | omega | (simp only [wL]; omega)) only [go_sem, simprocAttr, weak_int, weak_same]
     all_goals omega
    ·rw [hstop (by omega)]
     clear hstop hgs hg
     obtain ⟨big', hbg⟩ : ∃ b : Int, b = big := ⟨_, rfl⟩
     have hbg2 : big' = 1099511627776 := hbg
     rw [← hbg]
     by_cases hz : c.toNat = 0 ∧ 0 < i
     ·rw [if_pos hz, show (bs.length : Int) - (r.l.length : Int) + (((0, 0, 3) : Int × Nat × Int).2.1 : Int) = (bs.length : Int) - (r.l.length : Int) from Int.add_zero _]
      repeat' (first | (with_reducible first | (refine wN fun _ hnl => ?_; revert hnl; (repeat refine wS fun _ _ => ?_); intro hnl) | refine wE ?_ | (refine wK ?_ ?_ <;> intro h) | (refine wB ?_ ?_ <;> intro h <;> simp only [h])) | simp (maxSteps := 4000000) (disch := first | decide | assumption | omega | (simp only [wL]; omega)) only [go_sem, simprocAttr, getD_mapd (0 : UInt8), hidx, hget, and127', hor])
     ·rw [if_neg hz]
      by_cases hm : (v2 : Int) > big' ∨ (v2 : Int) > most
      ·rw [if_pos hm, show (bs.length : Int) - (r.l.length : Int) + (((0, 0, 4) : Int × Nat × Int).2.1 : Int) = (bs.length : Int) - (r.l.length : Int) from Int.add_zero _]
       repeat' (first | (with_reducible first | (refine wN fun _ hnl => ?_; revert hnl; (repeat refine wS fun _ _ => ?_); intro hnl) | refine wE ?_ | (refine wK ?_ ?_ <;> intro h) | (refine wB ?_ ?_ <;> intro h <;> simp only [h])) | simp (maxSteps := 4000000) (disch := first | decide | assumption | omega | (simp only [wL]; omega)) only [go_sem, simprocAttr, getD_mapd (0 : UInt8), hidx, hget, and127', hor])
       all_goals omega
      ·rw [if_neg hm]
       repeat' (first | (with_reducible first | (refine wN fun _ hnl => ?_; revert hnl; (repeat refine wS fun _ _ => ?_); intro hnl) | refine wE ?_ | (refine wK ?_ ?_ <;> intro h) | (refine wB ?_ ?_ <;> intro h <;> simp only [h])) | simp (maxSteps := 4000000) (disch := first | decide | assumption | omega | (simp only [wL]; omega)) only [go_sem, simprocAttr, getD_mapd (0 : UInt8), hidx, hget, and127', hor])
       all_goals
        refine ⟨by simp only [MV.tup.injEq, List.cons.injEq, MV.int.injEq, and_true, true_and]; omega, ?_⟩
        obtain ⟨rl, re⟩ := r
        simp only at he
        subst he
        rfl
end Go.Proofs.YtfbodefnblpflaaGreatDoor
end

section
namespace Go.Proofs.YtfbodefnblpflaaGreatDoor
set_option maxRecDepth 100000
class Few (bs : BL) : Prop where
 h : bs.length ≤ 1000000
instance {bs : BL} {r : RD} [h : Sfx bs r] : Sfx bs (cardR r).2 := ⟨(cardR_sk.sfx r).trans h.h⟩
instance {bs : BL} {r : RD} [h : Sfx bs r] : Sfx bs (patchR r).2 := ⟨(patchR_sk.sfx r).trans h.h⟩
instance {bs : BL} {r : RD} [h : Sfx bs r] : Sfx bs (mayR r).2 := ⟨(mayR_sk.sfx r).trans h.h⟩
instance {bs : BL} {r : RD} [h : Sfx bs r] : Sfx bs (editR r).2 := ⟨(editR_sk.sfx r).trans h.h⟩
instance {bs : BL} {r : RD} [h : Sfx bs r] : Sfx bs (tokR r).2 := ⟨(tokR_sk.sfx r).trans h.h⟩
instance {bs : BL} {r : RD} [h : Sfx bs r] : Sfx bs (nodeR r).2 := ⟨(nodeR_sk.sfx r).trans h.h⟩
instance {bs : BL} {r : RD} [h : Sfx bs r] : Sfx bs (predR r).2 := ⟨(predR_sk.sfx r).trans h.h⟩
instance {bs : BL} {r : RD} [h : Sfx bs r] : Sfx bs (itemR r).2 := ⟨(itemR_sk.sfx r).trans h.h⟩
instance {bs : BL} {r : RD} [h : Sfx bs r] : Sfx bs (repR r).2 := ⟨(repR_sk.sfx r).trans h.h⟩
instance {bs : BL} {r : RD} [h : Sfx bs r] : Sfx bs (pageR r).2 := ⟨(pageR_sk.sfx r).trans h.h⟩
theorem at_drop {bs : BL} {r : RD} (k : Nat) (h : k ≤ r.l.length) : (bs.length : Int) - ((r.l.drop k).length : Int) = (bs.length : Int) - (r.l.length : Int) + (k : Int) := by
 rw [List.length_drop]; omega
theorem rP_eq {bs : BL} {r : RD} {l : Nat} {a e : Int} (h : a = (bs.length : Int) - (r.l.length : Int)) (he : e = r.e) : St.none.set l (.row 136 3 [[.lst 1 (bs.map bc) false, .int .i64 a, .int .i64 e]]) = St.none.set l (rP bs r) := by rw [h, he]
theorem pRNum_call (most : Int) {bs : BL} [hb : Few bs] (r : RD) [hs : Sfx bs r] (l : Nat) : MCalls Tryz.prog 77 [.ptr l 0 0, .int .i64 most] (St.none.set l (rP bs r)) (fun v σ' => v = .int .i64 (numR most r).1 ∧ σ' = St.none.set l (rP bs (numR most r).2)) := by
 refine (MCalls.body 27 [.tmp 4] Tryz.func77 rfl rfl rfl rfl ?_)
 have hk := nx_len r.l most
 have hd := at_drop (bs := bs) (nx r.l most).2.1 hk
 unfold numR
 by_cases he : r.e = 0
 ·have h := ppeek_call bs hb.h most r he l
  rw [if_pos he]
  repeat' (first | (with_reducible refine ur0 h ?_) | (with_reducible first | (refine wN fun _ hnl => ?_; revert hnl; (repeat refine wS fun _ _ => ?_); intro hnl) | refine wE ?_ | (refine wK ?_ ?_ <;> intro h) | (refine wB ?_ ?_ <;> intro h <;> simp only [h])) | simp (maxSteps := 4000000) (disch := first | decide | assumption | omega | (simp only [wL]; omega)) only [go_sem, simprocAttr, Tryz.f77])
  all_goals exact rP_eq hd.symm rfl
 ·rw [if_neg he]
  repeat' (first | (with_reducible first | (refine wN fun _ hnl => ?_; revert hnl; (repeat refine wS fun _ _ => ?_); intro hnl) | refine wE ?_ | (refine wK ?_ ?_ <;> intro h) | (refine wB ?_ ?_ <;> intro h <;> simp only [h])) | simp (maxSteps := 4000000) (disch := first | decide | assumption | omega | (simp only [wL]; omega)) only [go_sem, simprocAttr, Tryz.f77])
  all_goals simp
theorem pRFail_call (e : Int) {bs : BL} (r : RD) (l : Nat) : MCalls Tryz.prog 90 [.ptr l 0 0, .int .i64 e] (St.none.set l (rP bs r)) (fun v σ' => v = .tup [] ∧ σ' = St.none.set l (rP bs (failR e r))) := by
 refine (MCalls.body 17 [] Tryz.func90 rfl rfl rfl rfl ?_)
 unfold failR
 by_cases he : r.e = 0
 ·rw [if_pos he]
  repeat' (first | (with_reducible first | (refine wN fun _ hnl => ?_; revert hnl; (repeat refine wS fun _ _ => ?_); intro hnl) | refine wE ?_ | (refine wK ?_ ?_ <;> intro h) | (refine wB ?_ ?_ <;> intro h <;> simp only [h])) | simp (maxSteps := 4000000) (disch := first | decide | assumption | omega | (simp only [wL]; omega)) only [go_sem, simprocAttr, Tryz.f90])
  all_goals simp
 ·rw [if_neg he]
  repeat' (first | (with_reducible first | (refine wN fun _ hnl => ?_; revert hnl; (repeat refine wS fun _ _ => ?_); intro hnl) | refine wE ?_ | (refine wK ?_ ?_ <;> intro h) | (refine wB ?_ ?_ <;> intro h <;> simp only [h])) | simp (maxSteps := 4000000) (disch := first | decide | assumption | omega | (simp only [wL]; omega)) only [go_sem, simprocAttr, Tryz.f90])
  all_goals simp
theorem pRErr_call {bs : BL} (r : RD) (l : Nat) : MCalls Tryz.prog 89 [.ptr l 0 0] (St.none.set l (rP bs r)) (fun v σ' => v = .int .i64 r.e ∧ σ' = St.none.set l (rP bs r)) := by
 refine (MCalls.body 9 [.tmp 2] Tryz.func89 rfl rfl rfl rfl ?_)
 repeat' (first | (with_reducible first | (refine wN fun _ hnl => ?_; revert hnl; (repeat refine wS fun _ _ => ?_); intro hnl) | refine wE ?_ | (refine wK ?_ ?_ <;> intro h) | (refine wB ?_ ?_ <;> intro h <;> simp only [h])) | simp (maxSteps := 4000000) (disch := first | decide | assumption | omega | (simp only [wL]; omega)) only [go_sem, simprocAttr, Tryz.f89])
 all_goals simp
theorem pRLeft_call {bs : BL} [hb : Few bs] (r : RD) [hs : Sfx bs r] (l : Nat) : MCalls Tryz.prog 91 [.ptr l 0 0] (St.none.set l (rP bs r)) (fun v σ' => v = .int .i64 (r.l.length : Int) ∧ σ' = St.none.set l (rP bs r)) := by
 refine (MCalls.body 15 [.tmp 2] Tryz.func91 rfl rfl rfl rfl ?_)
 have h1 := hb.h
 have h2 := hs.len
 repeat' (first | (with_reducible first | (refine wN fun _ hnl => ?_; revert hnl; (repeat refine wS fun _ _ => ?_); intro hnl) | refine wE ?_ | (refine wK ?_ ?_ <;> intro h) | (refine wB ?_ ?_ <;> intro h <;> simp only [h])) | simp (maxSteps := 4000000) (disch := first | decide | assumption | omega | (simp only [wL]; omega)) only [go_sem, simprocAttr, Tryz.f91])
 all_goals first | omega | (congr 1; omega) | (simp only [MV.int.injEq, true_and]; omega)
theorem pREnd_call {bs : BL} [hb : Few bs] (r : RD) [hs : Sfx bs r] (l : Nat) : MCalls Tryz.prog 48 [.ptr l 0 0] (St.none.set l (rP bs r)) (fun v σ' => v = .int .i64 (endR r) ∧ σ' = St.none.set l (rP bs r)) := by
 refine (MCalls.body 21 [.tmp 2] Tryz.func48 rfl rfl rfl rfl ?_)
 repeat' (first | (with_reducible (refine wQ ?_; first | refine uR (pRLeft_call ..) ?_)) | (with_reducible first | (refine wN fun _ hnl => ?_; revert hnl; (repeat refine wS fun _ _ => ?_); intro hnl) | refine wE ?_ | (refine wK ?_ ?_ <;> intro h) | (refine wB ?_ ?_ <;> intro h <;> simp only [h])) | simp (maxSteps := 4000000) (disch := first | decide | assumption | omega | (simp only [wL]; omega)) only [go_sem, simprocAttr, Tryz.f48])
 all_goals (try simp only [Classical.not_not] at *)
 all_goals (first | (simp [endR, List.length_pos_iff, Int.natCast_pos, *]; done) | (simp only [endR, List.length_pos_iff, Int.natCast_pos]; (repeat' split) <;> (first | (simp_all; done) | omega | (exfalso; omega))) | skip)
theorem pRStr_call (most : Int) {bs : BL} [hb : Few bs] (r : RD) [hs : Sfx bs r] (l : Nat) : MCalls Tryz.prog 185 [.ptr l 0 0, .int .i64 most] (St.none.set l (rP bs r)) (fun v σ' => v = .str (bsS (strR most r).1) ∧ σ' = St.none.set l (rP bs (strR most r).2)) := by
 refine (MCalls.body 58 [.tmp 4] Tryz.func185 rfl rfl rfl rfl ?_)
 have hk := nx_len r.l most
 have hv := nx_rng r.l most
 have h1 := hb.h
 have h2 := hs.len
 have h3 := hs.drop
 unfold big at hv
 unfold strR
 by_cases he : r.e = 0
 ·have h := ppeek_call bs hb.h most r he l
  rw [if_pos he]
  by_cases e1 : (nx r.l most).2.2 = 0
  ·rw [if_pos e1]
   by_cases e2 : (nx r.l most).1.toNat ≤ r.l.length - (nx r.l most).2.1
   ·rw [if_pos e2]
    repeat' (first | (with_reducible refine ur0 h ?_) | (with_reducible first | (refine wN fun _ hnl => ?_; revert hnl; (repeat refine wS fun _ _ => ?_); intro hnl) | refine wE ?_ | (refine wK ?_ ?_ <;> intro h) | (refine wB ?_ ?_ <;> intro h <;> simp only [h])) | simp (maxSteps := 4000000) (disch := first | decide | assumption | omega | (simp only [wL]; omega)) only [go_sem, simprocAttr, Tryz.f185, bytesOf_bc, isByte_bc])
    have e3 : ((bs.length : Int) - (r.l.length : Int) + ((nx r.l most).2.1 : Nat)).toNat = bs.length - r.l.length + (nx r.l most).2.1 := by omega
    have e4 : ((bs.length : Int) - (r.l.length : Int) + ((nx r.l most).2.1 : Nat) + (nx r.l most).1).toNat = bs.length - r.l.length + (nx r.l most).2.1 + (nx r.l most).1.toNat := by omega
    refine ⟨?_, rP_eq ?_ e1⟩
    ·rw [e3, e4, ← List.take_drop, ← List.drop_drop, h3]
    ·rw [List.length_drop]; omega
   ·rw [if_neg e2]
    repeat' (first | (with_reducible refine ur0 h ?_) | (with_reducible first | (refine wN fun _ hnl => ?_; revert hnl; (repeat refine wS fun _ _ => ?_); intro hnl) | refine wE ?_ | (refine wK ?_ ?_ <;> intro h) | (refine wB ?_ ?_ <;> intro h <;> simp only [h])) | simp (maxSteps := 4000000) (disch := first | decide | assumption | omega | (simp only [wL]; omega)) only [go_sem, simprocAttr, Tryz.f185, bytesOf_bc, isByte_bc])
    all_goals rfl
  ·rw [if_neg e1]
   repeat' (first | (with_reducible refine ur0 h ?_) | (with_reducible first | (refine wN fun _ hnl => ?_; revert hnl; (repeat refine wS fun _ _ => ?_); intro hnl) | refine wE ?_ | (refine wK ?_ ?_ <;> intro h) | (refine wB ?_ ?_ <;> intro h <;> simp only [h])) | simp (maxSteps := 4000000) (disch := first | decide | assumption | omega | (simp only [wL]; omega)) only [go_sem, simprocAttr, Tryz.f185, bytesOf_bc, isByte_bc])
   all_goals (try simp only [Classical.not_not] at *)
   all_goals (first | (simp [bsS, *]; done) | (simp only [bsS]; (repeat' split) <;> (first | (simp_all; done) | omega | (exfalso; omega))) | skip)
 ·rw [if_neg he]
  repeat' (first | (with_reducible first | (refine wN fun _ hnl => ?_; revert hnl; (repeat refine wS fun _ _ => ?_); intro hnl) | refine wE ?_ | (refine wK ?_ ?_ <;> intro h) | (refine wB ?_ ?_ <;> intro h <;> simp only [h])) | simp (maxSteps := 4000000) (disch := first | decide | assumption | omega | (simp only [wL]; omega)) only [go_sem, simprocAttr, Tryz.f185])
  all_goals simp [bsS]
theorem pRFlag_call {bs : BL} [hb : Few bs] (r : RD) [hs : Sfx bs r] (l : Nat) : MCalls Tryz.prog 124 [.ptr l 0 0] (St.none.set l (rP bs r)) (fun v σ' => v = .bool (flagR r).1 ∧ σ' = St.none.set l (rP bs (flagR r).2)) := by
 refine (MCalls.body 42 [.tmp 2] Tryz.func124 rfl rfl rfl rfl ?_)
 have hk := nx_len r.l 1099511627776
 have hd := at_drop (bs := bs) (nx r.l 1099511627776).2.1 hk
 unfold flagR big
 by_cases he : r.e = 0
 ·have h := ppeek_call bs hb.h 1099511627776 r he l
  rw [if_pos he]
  by_cases e1 : (nx r.l 1099511627776).2.2 = 0
  ·rw [if_pos e1]
   by_cases e2 : (nx r.l 1099511627776).1 ≤ 1
   ·rw [if_pos e2]
    repeat' (first | (with_reducible refine ur0 h ?_) | (with_reducible first | (refine wN fun _ hnl => ?_; revert hnl; (repeat refine wS fun _ _ => ?_); intro hnl) | refine wE ?_ | (refine wK ?_ ?_ <;> intro h) | (refine wB ?_ ?_ <;> intro h <;> simp only [h])) | simp (maxSteps := 4000000) (disch := first | decide | assumption | omega | (simp only [wL]; omega)) only [go_sem, simprocAttr, Tryz.f124])
    all_goals exact rP_eq hd.symm e1
   ·rw [if_neg e2]
    repeat' (first | (with_reducible refine ur0 h ?_) | (with_reducible first | (refine wN fun _ hnl => ?_; revert hnl; (repeat refine wS fun _ _ => ?_); intro hnl) | refine wE ?_ | (refine wK ?_ ?_ <;> intro h) | (refine wB ?_ ?_ <;> intro h <;> simp only [h])) | simp (maxSteps := 4000000) (disch := first | decide | assumption | omega | (simp only [wL]; omega)) only [go_sem, simprocAttr, Tryz.f124])
    all_goals (try simp only [Classical.not_not] at *)
    all_goals (first | (simp [hd, *]; done) | (simp only [hd]; (repeat' split) <;> (first | (simp_all; done) | omega | (exfalso; omega))) | skip)
  ·rw [if_neg e1]
   repeat' (first | (with_reducible refine ur0 h ?_) | (with_reducible first | (refine wN fun _ hnl => ?_; revert hnl; (repeat refine wS fun _ _ => ?_); intro hnl) | refine wE ?_ | (refine wK ?_ ?_ <;> intro h) | (refine wB ?_ ?_ <;> intro h <;> simp only [h])) | simp (maxSteps := 4000000) (disch := first | decide | assumption | omega | (simp only [wL]; omega)) only [go_sem, simprocAttr, Tryz.f124])
   all_goals (try simp only [Classical.not_not] at *)
   all_goals (first | (simp [hd, *]; done) | (simp only [hd]; (repeat' split) <;> (first | (simp_all; done) | omega | (exfalso; omega))) | skip)
 ·rw [if_neg he]
  repeat' (first | (with_reducible first | (refine wN fun _ hnl => ?_; revert hnl; (repeat refine wS fun _ _ => ?_); intro hnl) | refine wE ?_ | (refine wK ?_ ?_ <;> intro h) | (refine wB ?_ ?_ <;> intro h <;> simp only [h])) | simp (maxSteps := 4000000) (disch := first | decide | assumption | omega | (simp only [wL]; omega)) only [go_sem, simprocAttr, Tryz.f124])
  all_goals simp
end Go.Proofs.YtfbodefnblpflaaGreatDoor
end
