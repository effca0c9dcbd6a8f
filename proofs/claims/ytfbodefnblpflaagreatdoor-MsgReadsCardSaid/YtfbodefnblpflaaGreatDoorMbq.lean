/- Parts of the proof, joined. Each part says what it proves, and under which conditions it does: those that its theorems name. -/
import Derived.Test.YtfbodefnblpflaaGreatDoorMbj
set_option linter.unusedVariables false
set_option linter.unusedSimpArgs false
set_option maxHeartbeats 4000000
namespace Go.Proofs.YtfbodefnblpflaaGreatDoor
set_option maxRecDepth 100000
theorem and127 : ∀ x : Nat, x < 256 → andK .u8 (x : Int) 127 = ((x % 128 : Nat) : Int) := by decide +kernel
theorem and127' (c : UInt8) : andK .u8 (c.toNat : Int) 127 = ((c.toNat % 128 : Nat) : Int) := and127 _ c.toNat_lt
theorem or64 (a b : Nat) (ha : a < 4611686018427387904) (hb : b < 4611686018427387904) : orK .i64 (a : Int) (b : Int) = ((a ||| b : Nat) : Int) := by
 have hab : a ||| b < 2 ^ 62 := Nat.or_lt_two_pow (by simpa using ha) (by simpa using hb)
 unfold orK
 have e : (BitVec.ofInt IntKind.i64.bits (a : Int) ||| BitVec.ofInt IntKind.i64.bits (b : Int)).toNat = a ||| b := by
  rw [BitVec.toNat_or]
  simp only [BitVec.ofInt_natCast, BitVec.toNat_ofNat, IntKind.bits]
  rw [Nat.mod_eq_of_lt (by omega), Nat.mod_eq_of_lt (by omega)]
 rw [e]
 generalize a ||| b = c at hab
 simp (disch := omega) only [go_sem]
theorem or_val (v x i : Nat) (hv : v < 128 ^ i) : v ||| x * 128 ^ i = v + x * 128 ^ i := by
 have e : 128 ^ i = 2 ^ (7 * i) := by rw [Nat.pow_mul]
 rw [e] at hv ⊢
 have := Nat.shiftLeft_add_eq_or_of_lt hv x
 rw [Nat.shiftLeft_eq] at this
 rw [Nat.or_comm, ← this, Nat.add_comm]
theorem Sfx.get {bs : BL} {r : RD} (h : Sfx bs r) {i : Nat} (hi : i < r.l.length) : bs.getD (bs.length - r.l.length + i) 0 = r.l.getD i 0 := by
 have := h.drop
 rw [← this, List.getD_eq_getElem?_getD, List.getD_eq_getElem?_getD, List.getElem?_drop, this]
set_option maxHeartbeats 4000000 in
theorem ppeek_call (bs : BL) (hb : bs.length ≤ 1000000) (most : Int) (r : RD) [hs : Sfx bs r] (he : r.e = 0) (l : Nat) :
  MCalls Tryz.prog 134 [.ptr l 0 0, .int .i64 most] (St.none.set l (rP bs r)) (fun v σ' => v = .tup [.int .i64 (nx r.l most).1, .int .i64 ((bs.length : Int) - (r.l.length : Int) + ((nx r.l most).2.1 : Nat))] ∧ σ' = St.none.set l (rP bs ⟨r.l, (nx r.l most).2.2⟩)) := by
 refine (MCalls.body 94 [.tmp 4, .tmp 5] Tryz.func134 rfl rfl rfl rfl ?_)
 have hsl := hs.len
 repeat' (first | (with_reducible first | (refine wN fun _ hnl => ?_; revert hnl; (repeat refine wS fun _ _ => ?_); intro hnl) | refine wE ?_ | (refine wK ?_ ?_ <;> intro h) | (refine wB ?_ ?_ <;> intro h <;> simp only [h])) | simp (maxSteps := 4000000) (disch := first | decide | assumption | omega | (simp only [wL]; omega)) only [go_sem, simprocAttr, Tryz.f134])
 refine mloop_intro (α := Nat) (fun i => ⟨94, [(9, .int .i64 (i : Int)), (6, .int .i64 (val (r.l.take i) : Int)), (0, .ptr l 0 0), (1, .int .i64 most)], []⟩) (fun _ => St.none.set l (rP bs r)) (fun i => i ≤ 6 ∧ goes i r.l) (fun i => 6 - i) ?_ ?_
 ·refine .of (.less ?_ (St.le_refl _)) ⟨0, rfl, rfl, Nat.zero_le _, goes_zero _⟩
  simp (maxSteps := 4000000) (disch := first | decide | assumption | omega | (simp only [wL]; omega)) only [go_sem, simprocAttr, weak_int, weak_same]
  all_goals rfl
 ·rintro i ⟨h6, hg⟩
  have hgl := hg.1
  have hdr := hs.drop
  by_cases e6 : i = 6
  ·subst e6
   rw [goes_six hg, show (bs.length : Int) - (r.l.length : Int) + ((0 : Nat) : Int) = (bs.length : Int) - (r.l.length : Int) from Int.add_zero _]
   clear hg hdr
   repeat' (first | (with_reducible first | (refine wN fun _ hnl => ?_; revert hnl; (repeat refine wS fun _ _ => ?_); intro hnl) | refine wE ?_ | (refine wK ?_ ?_ <;> intro h) | (refine wB ?_ ?_ <;> intro h <;> simp only [h])) | simp (maxSteps := 4000000) (disch := first | decide | assumption | omega | (simp only [wL]; omega)) only [go_sem, simprocAttr])
  ·by_cases el : i = r.l.length
   ·rw [goes_end hg (by omega) el]
    repeat' (first | (with_reducible first | (refine wN fun _ hnl => ?_; revert hnl; (repeat refine wS fun _ _ => ?_); intro hnl) | refine wE ?_ | (refine wK ?_ ?_ <;> intro h) | (refine wB ?_ ?_ <;> intro h <;> simp only [h])) | simp (maxSteps := 4000000) (disch := first | decide | assumption | omega | (simp only [wL]; omega)) only [go_sem, simprocAttr])
    all_goals
     congr 3
     simp
   ·have hget := hs.get (i := i) (by omega)
    obtain ⟨c, hc⟩ : ∃ c, r.l.getD i 0 = c := ⟨_, rfl⟩
    rw [hc] at hget
    have hidx : ((bs.length : Int) - (r.l.length : Int) + (i : Int)).toNat = bs.length - r.l.length + i := by omega
    have hil : bs.length - r.l.length + i < bs.length := by omega
    have hvl := val_lt (r.l.take i)
    rw [List.length_take, Nat.min_eq_left (by omega)] at hvl
    have hv6 : 128 ^ i ≤ 34359738368 := by
     have : 128 ^ i ≤ 128 ^ 5 := Nat.pow_le_pow_right (by decide) (by omega)
     exact this
    have hcl := c.toNat_lt
    have hx : c.toNat % 128 * 128 ^ i ≤ 4363686772736 := by
     have : c.toNat % 128 ≤ 127 := by omega
     exact Nat.le_trans (Nat.mul_le_mul this hv6) (by decide)
    have hsucc : val (r.l.take (i + 1)) = val (r.l.take i) + c.toNat % 128 * 128 ^ i := by
     rw [List.take_succ_eq_append_getElem (by omega), val_snoc, List.length_take, Nat.min_eq_left (by omega)]
     have : r.l[i] = c := by rw [← hc]; simp [List.getD, show i < r.l.length by omega]
     rw [this]
    have hor : orK .i64 ((val (r.l.take i) : Nat) : Int) (IntKind.i64.wrap (((c.toNat % 128 : Nat) : Int) * 2 ^ min (7 * (i : Int)).toNat 64)) = ((val (r.l.take (i + 1)) : Nat) : Int) := by
     have e1 : min (7 * (i : Int)).toNat 64 = 7 * i := by omega
     have e2 : ((c.toNat % 128 : Nat) : Int) * 2 ^ (7 * i) = ((c.toNat % 128 * 128 ^ i : Nat) : Int) := by
      rw [show (128 : Nat) ^ i = 2 ^ (7 * i) by rw [Nat.pow_mul]]
      simp
     rw [e1, e2]
     generalize hy : c.toNat % 128 * 128 ^ i = y at hx hsucc
     have e3 : IntKind.i64.wrap (y : Int) = (y : Int) := by simp (disch := omega) only [go_sem]
     rw [e3, or64 _ _ (by omega) (by omega), ← hy, or_val _ _ _ hvl, hsucc, hy]
    have hv1 : val (r.l.take i) ≤ 34359738368 := by omega
    have hv2 : val (r.l.take (i + 1)) ≤ 4398046511104 := by omega
    have hstop := fun h => goes_stop (n := i) hg (by omega) (by omega) h most
    have hgs := goes_succ (n := i) hg (by omega)
    rw [hc] at hstop hgs
    obtain ⟨v1, hv1e⟩ : ∃ v1, val (r.l.take i) = v1 := ⟨_, rfl⟩
    obtain ⟨v2, hv2e⟩ : ∃ v2, val (r.l.take (i + 1)) = v2 := ⟨_, rfl⟩
    rw [hv1e] at hor hv1
    rw [hv2e] at hor hv2 hstop
    rw [hv1e]
    have hc8 : c.toNat < 256 := hcl
    clear hsucc hx hvl hv6 hdr hcl hv1e
    by_cases hbig : 128 ≤ c.toNat
    ·clear hstop hg
     repeat' (first | (with_reducible first | (refine wN fun _ hnl => ?_; revert hnl; (repeat refine wS fun _ _ => ?_); intro hnl) | refine wE ?_ | (refine wK ?_ ?_ <;> intro h) | (refine wB ?_ ?_ <;> intro h <;> simp only [h])) | simp (maxSteps := 4000000) (disch := first | decide | assumption | omega | (simp only [wL]; omega)) only [go_sem, simprocAttr, getD_mapd (0 : UInt8), hidx, hget, and127', hor])
     refine .of (.less ?_ (St.le_refl _)) ⟨i + 1, rfl, rfl, ⟨by omega, hgs hbig⟩, by omega⟩
     rw [hv2e]
     simp (maxSteps := 4000000) (disch := first | decide | assumption | omega | (simp only [wL]; omega)) only [go_sem, simprocAttr, weak_int, weak_same]
     all_goals omega
    ·rw [hstop (by omega)]
     clear hstop hgs hg
     obtain ⟨big', hbg⟩ : ∃ b : Int, b = big := ⟨_, rfl⟩
     have hbg2 : big' = 1099511627776 := hbg
     rw [← hbg]
     by_cases hz : c.toNat = 0 ∧ 0 < i
     ·rw [if_pos hz, show (bs.length : Int) - (r.l.length : Int) + (((0, 0, 3) : Int × Nat × Int).2.1 : Int) = (bs.length : Int) - (r.l.length : Int) from Int.add_zero _]
      repeat' (first | (with_reducible first | (refine wN fun _ hnl => ?_; revert hnl; (repeat refine wS fun _ _ => ?_); intro hnl) | refine wE ?_ | (refine wK ?_ ?_ <;> intro h) | (refine wB ?_ ?_ <;> intro h <;> simp only [h])) | simp (maxSteps := 4000000) (disch := first | decide | assumption | omega | (simp only [wL]; omega)) only [go_sem, simprocAttr, getD_mapd (0 : UInt8), hidx, hget, and127', hor])
     ·rw [if_neg hz]
      by_cases hm : (v2 : Int) > big' ∨ (v2 : Int) > most
      ·rw [if_pos hm, show (bs.length : Int) - (r.l.length : Int) + (((0, 0, 4) : Int × Nat × Int).2.1 : Int) = (bs.length : Int) - (r.l.length : Int) from Int.add_zero _]
       repeat' (first | (with_reducible first | (refine wN fun _ hnl => ?_; revert hnl; (repeat refine wS fun _ _ => ?_); intro hnl) | refine wE ?_ | (refine wK ?_ ?_ <;> intro h) | (refine wB ?_ ?_ <;> intro h <;> simp only [h])) | simp (maxSteps := 4000000) (disch := first | decide | assumption | omega | (simp only [wL]; omega)) only [go_sem, simprocAttr, getD_mapd (0 : UInt8), hidx, hget, and127', hor])
       all_goals omega
      ·rw [if_neg hm]
       repeat' (first | (with_reducible first | (refine wN fun _ hnl => ?_; revert hnl; (repeat refine wS fun _ _ => ?_); intro hnl) | refine wE ?_ | (refine wK ?_ ?_ <;> intro h) | (refine wB ?_ ?_ <;> intro h <;> simp only [h])) | simp (maxSteps := 4000000) (disch := first | decide | assumption | omega | (simp only [wL]; omega)) only [go_sem, simprocAttr, getD_mapd (0 : UInt8), hidx, hget, and127', hor])
       all_goals
        refine ⟨by simp only [MV.tup.injEq, List.cons.injEq, MV.int.injEq, and_true, true_and]; omega, ?_⟩
        obtain ⟨rl, re⟩ := r
        simp only at he
        subst he
        rfl
end Go.Proofs.YtfbodefnblpflaaGreatDoor
