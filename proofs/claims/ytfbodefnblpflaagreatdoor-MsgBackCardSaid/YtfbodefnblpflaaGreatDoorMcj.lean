/- Parts of the proof, joined. Each part says what it proves, and under which conditions it does: those that its theorems name. -/
import Derived.Test.YtfbodefnblpflaaGreatDoorMcg
import Derived.Test.YtfbodefnblpflaaGreatDoorMch
set_option linter.unusedVariables false
set_option linter.unusedSimpArgs false
set_option maxHeartbeats 4000000
section
namespace Go.Proofs.YtfbodefnblpflaaGreatDoor
inductive Fk : Prop → Prop → Prop → Prop
 | i {c A B : Prop} : Fk (R (mif c A B)) (c → R A) (¬ c → R B)
 | f {p : Prop} [Decidable p] {A B : Prop} : Fk (R (mfork (.bool (decide p)) A B)) (p → R A) (¬ p → R B)
 | g {p : Prop} [Decidable p] {A B : Prop} : Fk (R (mgfork (.bool (decide p)) true A B)) (p → R A) (¬ p → R B)
 | h {p : Prop} [Decidable p] {A B : Prop} : Fk (R (mgfork (.bool (decide p)) false A B)) (¬ p → R A) (p → R B)
theorem wK {p a b : Prop} (h1 : a) (h2 : b) (e : Fk p a b := by first | exact .i | exact .f | exact .g | exact .h) : p := by
 cases e
 ·exact wI h1 h2
 ·exact wF h1 h2
 ·exact wG h1 h2
 ·exact wH h1 h2
inductive Fb : Prop → Prop → Prop → Prop
 | b {b : Bool} {A B : Prop} : Fb (R (mfork (.bool b) A B)) (b = true → R A) (b = false → R B)
 | g {b want : Bool} {A B : Prop} : Fb (R (mgfork (.bool b) want A B)) (b = want → R A) (b = (!want) → R B)
theorem wB {p a b : Prop} (h1 : a) (h2 : b) (e : Fb p a b := by first | exact .b | exact .g) : p := by
 cases e
 ·exact mfork_bool h1 h2
 ·exact mgfork_bool h1 h2
theorem wE {id : Nat} {l : List Oper} {f : FR} {σ : St} {Q : MQ} (h : R (mopsC Tryz.prog (fun _ _ => none) (@OfNat.ofNat (Array Oper) (nat_lit 0) (@_root_.id (OfNat (Array Oper) (nat_lit 0)) (OfNat.mk (l.toArray)))) (Q .normal) (@OfNat.ofNat (List Oper) (nat_lit 0) (@_root_.id (OfNat (List Oper) (nat_lit 0)) (OfNat.mk l))) f σ))
  (hchk : (chk l.toArray && l.all fun o => plainOp o.op) = true := by decide +kernel) : R (mdraw Tryz.prog id (@OfNat.ofNat (List Oper) (nat_lit 0) (@_root_.id (OfNat (List Oper) (nat_lit 0)) (OfNat.mk l))) f σ Q) := wD hchk h
theorem wQ {P : Program} {g : FuncId} {ms : List MV} {σ : St} {k : MV → St → Prop} (h : R (mcallE P g ms σ k)) : R (mcallE P g ms σ k) := h
inductive Up (l : Nat) (o o' : MObj) : St → St → Prop
 | u0 {σ : St} : Up l o o' (σ.set l o) (σ.set l o')
 | u1 {σ : St} {j : Nat} {oj : MObj} (h : j ≠ l) : Up l o o' ((σ.set l o).set j oj) ((σ.set l o').set j oj)
 | u2 {σ : St} {j i : Nat} {oj oi : MObj} (h : j ≠ l) (h1 : i ≠ l) : Up l o o' (((σ.set l o).set j oj).set i oi) (((σ.set l o').set j oj).set i oi)
 | u3 {σ : St} {j i m : Nat} {oj oi om : MObj} (h : j ≠ l) (h1 : i ≠ l) (h2 : m ≠ l) : Up l o o' ((((σ.set l o).set j oj).set i oi).set m om) ((((σ.set l o').set j oj).set i oi).set m om)
theorem uR {P : Program} {g : FuncId} {ms : List MV} {σ σ2 : St} {l : Nat} {o o' : MObj} {r : MV} {k : MV → St → Prop} (h : MCalls P g ms (St.none.set l o) fun v σ' => v = r ∧ σ' = St.none.set l o') (hk : R (mlet r σ2 k))
  (e : Up l o o' σ σ2 := by first | exact .u0 | exact .u1 (by assumption) | exact .u2 (by assumption) (by assumption) | exact .u3 (by assumption) (by assumption) (by assumption)) : R (mcallE P g ms σ k) := by
 cases e
 ·exact ur0 h hk
 ·exact ur1 (by assumption) h hk
 ·exact ur2 (by assumption) (by assumption) h hk
 ·exact ur3 (by assumption) (by assumption) (by assumption) h hk
theorem FXs : (type_of% @fc_zero) ∧ (type_of% @fc_len) ∧ (type_of% @fc_cell) ∧ (type_of% @fc_take) ∧ (type_of% @fc_take') ∧ (type_of% @fc_drop) ∧ (type_of% @fc_drop') ∧ (type_of% @fc_getD) ∧ (type_of% @drop_two) ∧ (type_of% @drop_three) ∧ (type_of% @take_two) ∧ (type_of% @take_three) ∧ (type_of% @getD_two) ∧ (type_of% @getD_three) ∧ (type_of% @fc_at) ∧ (type_of% @fc_at_app) ∧ (type_of% @fc_get0) ∧ (type_of% @fc_get1) ∧ (type_of% @fc_get2) ∧ (type_of% @fc_fold) ∧ (∀ {f : F8} {i : Nat} {v : VA} (h : i < 8), (f.set i v).get i = v) :=
 ⟨fc_zero, fc_len, fc_cell, fc_take, fc_take', fc_drop, fc_drop', fc_getD, drop_two, drop_three, take_two, take_three, getD_two, getD_three, fc_at, fc_at_app, fc_get0, fc_get1, fc_get2, fc_fold, F8.get_hit⟩
theorem FYs : (type_of% FXs) ∧ (type_of% @fc_all) ∧ (type_of% @fc_assoc) ∧ (∀ {α : Type} (l : List α), l ++ [] = l) ∧ (∀ {α : Type} (l : List α), l.take 0 = []) ∧ (type_of% u32z) ∧ (∀ {α : Type} (a : α) (l r : List α), a :: l ++ r = a :: (l ++ r)) ∧ (∀ {α : Type} (l : List α), [] ++ l = l) :=
 ⟨FXs, fc_all, fc_assoc, List.append_nil, fun _ => List.take_zero, u32z, fun _ _ _ => List.cons_append, List.nil_append⟩
end Go.Proofs.YtfbodefnblpflaaGreatDoor
end

section
namespace Go.Proofs.YtfbodefnblpflaaGreatDoor
theorem pow128 : 128 ^ (5 + 1) = 4398046511104 := by decide
theorem bsS_toList (l : BL) : (bsS l).toList = l := by
 refine List.ext_getElem? fun n => ?_
 rw [← toList_get (bsS l) n]
 by_cases h : n < l.length
 ·have h' : n < (bsS l).size := by rw [bsS_size]; exact h
  rw [getElem?_pos (bsS l) n h', List.getElem?_eq_getElem h]
  simp [bsS, ByteArray.getElem_eq_getElem_data]
 ·have h' : ¬ n < (bsS l).size := by rw [bsS_size]; exact h
  rw [getElem?_neg (bsS l) n h', List.getElem?_eq_none (by omega)]
end Go.Proofs.YtfbodefnblpflaaGreatDoor
end
