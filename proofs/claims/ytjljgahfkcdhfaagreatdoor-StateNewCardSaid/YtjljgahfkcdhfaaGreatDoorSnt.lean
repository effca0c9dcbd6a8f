/- Parts of the proof, joined. Each part says what it proves, and under which conditions it does: those that its theorems name. -/
import Derived.Test.YtjljgahfkcdhfaaGreatDoorSnr
import Derived.Test.YtjljgahfkcdhfaaGreatDoorSns
set_option linter.unusedVariables false
set_option linter.unusedSimpArgs false
set_option maxHeartbeats 4000000
section
namespace Go.Proofs.YtjljgahfkcdhfaaGreatDoor
inductive Fk : Prop → Prop → Prop → Prop
 | i {c A B : Prop} : Fk (R (mif c A B)) (c → R A) (¬ c → R B)
 | f {p : Prop} [Decidable p] {A B : Prop} : Fk (R (mfork (.bool (decide p)) A B)) (p → R A) (¬ p → R B)
 | g {p : Prop} [Decidable p] {A B : Prop} : Fk (R (mgfork (.bool (decide p)) true A B)) (p → R A) (¬ p → R B)
 | h {p : Prop} [Decidable p] {A B : Prop} : Fk (R (mgfork (.bool (decide p)) false A B)) (¬ p → R A) (p → R B)
theorem wK {p a b : Prop} (h1 : a) (h2 : b) (e : Fk p a b := by first | exact .i | exact .f | exact .g | exact .h) : p := by
 cases e
 ·exact wI h1 h2
 ·exact wF h1 h2
 ·exact wG h1 h2
 ·exact wH h1 h2
inductive Fb : Prop → Prop → Prop → Prop
 | b {b : Bool} {A B : Prop} : Fb (R (mfork (.bool b) A B)) (b = true → R A) (b = false → R B)
 | g {b want : Bool} {A B : Prop} : Fb (R (mgfork (.bool b) want A B)) (b = want → R A) (b = (!want) → R B)
theorem wB {p a b : Prop} (h1 : a) (h2 : b) (e : Fb p a b := by first | exact .b | exact .g) : p := by
 cases e
 ·exact mfork_bool h1 h2
 ·exact mgfork_bool h1 h2
theorem wE {id : Nat} {l : List Oper} {f : FR} {σ : St} {Q : MQ} (h : R (mopsC Tryz.prog (fun _ _ => none) (@OfNat.ofNat (Array Oper) (nat_lit 0) (@_root_.id (OfNat (Array Oper) (nat_lit 0)) (OfNat.mk (l.toArray)))) (Q .normal) (@OfNat.ofNat (List Oper) (nat_lit 0) (@_root_.id (OfNat (List Oper) (nat_lit 0)) (OfNat.mk l))) f σ))
  (hchk : (chk l.toArray && l.all fun o => plainOp o.op) = true := by decide +kernel) : R (mdraw Tryz.prog id (@OfNat.ofNat (List Oper) (nat_lit 0) (@_root_.id (OfNat (List Oper) (nat_lit 0)) (OfNat.mk l))) f σ Q) := wD hchk h
inductive Up (l : Nat) (o o' : MObj) : St → St → Prop
 | u0 {σ : St} : Up l o o' (σ.set l o) (σ.set l o')
 | u1 {σ : St} {j : Nat} {oj : MObj} (h : j ≠ l) : Up l o o' ((σ.set l o).set j oj) ((σ.set l o').set j oj)
 | u2 {σ : St} {j i : Nat} {oj oi : MObj} (h : j ≠ l) (h1 : i ≠ l) : Up l o o' (((σ.set l o).set j oj).set i oi) (((σ.set l o').set j oj).set i oi)
 | u3 {σ : St} {j i m : Nat} {oj oi om : MObj} (h : j ≠ l) (h1 : i ≠ l) (h2 : m ≠ l) : Up l o o' ((((σ.set l o).set j oj).set i oi).set m om) ((((σ.set l o').set j oj).set i oi).set m om)
theorem FXs : (type_of% @fc_zero) ∧ (type_of% @fc_len) ∧ (type_of% @fc_cell) ∧ (type_of% @fc_take) ∧ (type_of% @fc_take') ∧ (type_of% @fc_drop) ∧ (type_of% @fc_drop') ∧ (type_of% @fc_getD) ∧ (type_of% @drop_two) ∧ (type_of% @drop_three) ∧ (type_of% @take_two) ∧ (type_of% @take_three) ∧ (type_of% @getD_two) ∧ (type_of% @getD_three) ∧ (type_of% @fc_at) ∧ (type_of% @fc_at_app) ∧ (type_of% @fc_get0) ∧ (type_of% @fc_get1) ∧ (type_of% @fc_get2) ∧ (type_of% @fc_fold) ∧ (∀ {f : F8} {i : Nat} {v : VA} (h : i < 8), (f.set i v).get i = v) :=
 ⟨fc_zero, fc_len, fc_cell, fc_take, fc_take', fc_drop, fc_drop', fc_getD, drop_two, drop_three, take_two, take_three, getD_two, getD_three, fc_at, fc_at_app, fc_get0, fc_get1, fc_get2, fc_fold, F8.get_hit⟩
theorem FYs : (type_of% FXs) ∧ (type_of% @fc_all) ∧ (type_of% @fc_assoc) ∧ (∀ {α : Type} (l : List α), l ++ [] = l) ∧ (∀ {α : Type} (l : List α), l.take 0 = []) ∧ (type_of% u32z) ∧ (∀ {α : Type} (a : α) (l r : List α), a :: l ++ r = a :: (l ++ r)) ∧ (∀ {α : Type} (l : List α), [] ++ l = l) :=
 ⟨FXs, fc_all, fc_assoc, List.append_nil, fun _ => List.take_zero, u32z, fun _ _ _ => List.cons_append, List.nil_append⟩
end Go.Proofs.YtjljgahfkcdhfaaGreatDoor
end

section
namespace Go.Proofs.YtjljgahfkcdhfaaGreatDoor
section
variable {P : Program} {C : YC} {f : FR} {σ : St} {t : Option Nat} {Q : YQ} {q : MQ} {c : Code}
theorem thenY_normal {k : FR → St → Option Nat → Prop} : R (thenY k Q .normal f σ t) = R (k f σ t) := congrArg R rfl
theorem thenY_ret {k : FR → St → Option Nat → Prop} : R (thenY k Q .ret f σ t) = R (Q .ret f σ t) := congrArg R rfl
theorem thenY_exit {k : FR → St → Option Nat → Prop} {id : Nat} : R (thenY k Q (.exit id) f σ t) = R (Q (.exit id) f σ t) := congrArg R rfl
theorem blockY_normal {id : Nat} : R (blockY id Q .normal f σ t) = R (Q .normal f σ t) := congrArg R rfl
theorem blockY_ret {id : Nat} : R (blockY id Q .ret f σ t) = R (Q .ret f σ t) := congrArg R rfl
theorem blockY_exit {id : Nat} : R (blockY id Q (.exit id) f σ t) = R (Q .normal f σ t) := congrArg R (by simp [blockY])
theorem onlyN_normal {k : FR → St → Prop} : R (onlyN k .normal f σ) = R (k f σ) := congrArg R rfl
theorem onlyNY_normal {k : FR → St → Option Nat → Prop} : R (onlyNY k .normal f σ t) = R (k f σ t) := congrArg R rfl
theorem roundQ_normal {fc : FR} {n : St → Prop} : R (roundQ q fc n .normal f σ) = R (Gh f σ fun _ σ1 => n σ1) := congrArg R rfl
theorem roundQ_ret {fc : FR} {n : St → Prop} : R (roundQ q fc n .ret f σ) = R (Gh f σ fun _ σ1 => q .ret fc σ1) := congrArg R rfl
theorem roundQ_exit {fc : FR} {n : St → Prop} {id : Nat} : R (roundQ q fc n (.exit id) f σ) = R (Gh f σ fun _ σ1 => q (.exit id) fc σ1) := congrArg R rfl
theorem roundY_normal {fc : FR} {n : St → Option Nat → Prop} : R (roundY Q fc n .normal f σ t) = R (Gh f σ fun _ σ1 => n σ1 t) := congrArg R rfl
theorem roundY_ret {fc : FR} {n : St → Option Nat → Prop} : R (roundY Q fc n .ret f σ t) = R (Gh f σ fun _ σ1 => Q .ret fc σ1 t) := congrArg R rfl
theorem roundY_exit {fc : FR} {n : St → Option Nat → Prop} {id : Nat} : R (roundY Q fc n (.exit id) f σ t) = R (Gh f σ fun _ σ1 => Q (.exit id) fc σ1 t) := congrArg R rfl
theorem retY_normal {n : Nat} : R (retY n .normal f σ t) = R (f.d = [] ∧ (t = some n ∨ t = none)) := congrArg R rfl
theorem retY_ret {n : Nat} : R (retY n .ret f σ t) = R (f.d = [] ∧ (t = some n ∨ t = none)) := congrArg R rfl
end
attribute [go_sem ↓] thenY_normal thenY_ret thenY_exit blockY_normal blockY_ret blockY_exit onlyN_normal onlyNY_normal roundQ_normal roundQ_ret roundQ_exit roundY_normal roundY_ret roundY_exit retY_normal retY_ret
end Go.Proofs.YtjljgahfkcdhfaaGreatDoor
end

section
namespace Go.Proofs.YtjljgahfkcdhfaaGreatDoor
set_option maxRecDepth 100000
set_option maxHeartbeats 4000000
theorem wrap32' {n : Nat} (h : n < 4294967296) : IntKind.u32.wrap (n : Int) = (n : Int) := by
 simp only [IntKind.wrap, IntKind.signed, IntKind.bits]
 simp
 omega
theorem andNot32 (a b : Nat) (ha : a < 4294967296) (hb : b < 4294967296) : andNotK .u32 (a : Int) (b : Int) = ((a &&& (4294967295 - b) : Nat) : Int) := by
 have hab : a &&& (4294967295 - b) < 4294967296 := Nat.lt_of_le_of_lt Nat.and_le_left ha
 unfold andNotK
 have e : (BitVec.ofInt IntKind.u32.bits (a : Int) &&& ~~~BitVec.ofInt IntKind.u32.bits (b : Int)).toNat = a &&& (4294967295 - b) := by
  rw [BitVec.toNat_and, BitVec.toNat_not]
  simp only [BitVec.ofInt_natCast, BitVec.toNat_ofNat, IntKind.bits]
  rw [Nat.mod_eq_of_lt (by omega), Nat.mod_eq_of_lt (by omega)]
 rw [e]
 exact wrap32' hab
theorem low9 (m : Nat) (h : m < 4294967296) : m &&& (4294967295 - 511) = 0 ↔ m ≤ 511 := by
 have e : ∀ i, (4294967295 - 511 : Nat).testBit i = (decide (9 ≤ i) && decide (i < 32)) := by
  intro i
  by_cases hi : i < 32
  ·have : ∀ i, i < 32 → (4294967295 - 511 : Nat).testBit i = (decide (9 ≤ i) && decide (i < 32)) := by decide
   exact this i hi
  ·rw [Nat.testBit_lt_two_pow (Nat.lt_of_lt_of_le (show 4294967295 - 511 < 2 ^ 32 by decide) (Nat.pow_le_pow_right (by decide) (by omega))), decide_eq_false hi, Bool.and_false]
 constructor
 ·intro h0
  refine Classical.byContradiction fun hn => ?_
  have h1 : m / 2 ^ 9 ≠ 0 := by omega
  obtain ⟨i, hi⟩ := Nat.exists_testBit_of_ne_zero h1
  rw [Nat.testBit_div_two_pow] at hi
  have hi32 : i + 9 < 32 := by
   refine Classical.byContradiction fun hc => ?_
   rw [Nat.testBit_lt_two_pow (Nat.lt_of_lt_of_le (show m < 2 ^ 32 from h) (Nat.pow_le_pow_right (by decide) (by omega)))] at hi
   cases hi
  have h2 := congrArg (fun x => Nat.testBit x (i + 9)) h0
  simp only [Nat.testBit_and, Nat.zero_testBit, e, hi] at h2
  rw [decide_eq_true (by omega), decide_eq_true hi32] at h2
  cases h2
 ·intro hm
  refine Nat.eq_of_testBit_eq fun i => ?_
  rw [Nat.testBit_and, Nat.zero_testBit, e]
  by_cases hi : 9 ≤ i
  ·rw [Nat.testBit_lt_two_pow (Nat.lt_of_lt_of_le (show m < 2 ^ 9 by omega) (Nat.pow_le_pow_right (by decide) hi)), Bool.false_and]
  ·rw [decide_eq_false hi, Bool.false_and, Bool.and_false]
theorem pmcheck_call (m : UInt32) : MCalls Tryz.prog 101 [.int .u32 (m.toNat : Int)] St.none (fun r _ => r = .bool (decide (m.toNat ≤ 511))) := by
 refine (MCalls.body 5 [.tmp 2] Tryz.func101 rfl rfl rfl rfl ?_)
 have hm := m.toNat_lt
 have h : MCalls Tryz.prog 148 [.int .u32 (m.toNat : Int), .int .u32 511] St.none (fun r _ => r = .bool (decide (m.toNat ≤ 511))) := by
  refine (MCalls.body 9 [.tmp 4] Tryz.func148 rfl rfl rfl rfl ?_)
  have e : andNotK .u32 (m.toNat : Int) 511 = _ := andNot32 m.toNat 511 hm (by decide)
  repeat' (first | (with_reducible first | (refine wN fun _ hnl => ?_; revert hnl; (repeat refine wS fun _ _ => ?_); intro hnl) | refine wE ?_ | (refine wK ?_ ?_ <;> intro h) | (refine wB ?_ ?_ <;> intro h <;> simp only [h])) | simp (maxSteps := 4000000) (disch := first | decide | assumption | omega | (simp only [wL]; omega)) only [go_sem, simprocAttr, Tryz.f148, e])
  exact decide_eq_decide.mpr ⟨fun h => (low9 m.toNat hm).1 (by exact_mod_cast h), fun h => by rw [(low9 m.toNat hm).2 h]; rfl⟩
 repeat' (first | (with_reducible first | refine up h ?_) | (with_reducible first | (refine wN fun _ hnl => ?_; revert hnl; (repeat refine wS fun _ _ => ?_); intro hnl) | refine wE ?_ | (refine wK ?_ ?_ <;> intro h) | (refine wB ?_ ?_ <;> intro h <;> simp only [h])) | simp (maxSteps := 4000000) (disch := first | decide | assumption | omega | (simp only [wL]; omega)) only [go_sem, simprocAttr, Tryz.f101])
def dbT : List Int := [0, 1, 28, 2, 29, 14, 24, 3, 30, 22, 20, 15, 25, 17, 4, 8, 31, 27, 13, 23, 21, 19, 16, 7, 26, 12, 18, 6, 11, 5, 10, 9]
theorem GT_tz (i : Nat) : GT 0 i = (dbT[i]?).map (Value.int .u8) := by
 unfold GT
 rw [if_pos rfl, List.getElem?_map]; rfl
end Go.Proofs.YtjljgahfkcdhfaaGreatDoor
end
