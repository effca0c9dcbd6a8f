/- Parts of the proof, joined. Each part says what it proves, and under which conditions it does: those that its theorems name. -/
import Derived.Test.YtfbodefnblpflaaGreatDoorMbh
import Derived.Test.YtfbodefnblpflaaGreatDoorMbi
set_option linter.unusedVariables false
set_option linter.unusedSimpArgs false
set_option maxHeartbeats 4000000
section
namespace Go.Proofs.YtfbodefnblpflaaGreatDoor
inductive Fk : Prop → Prop → Prop → Prop
 | i {c A B : Prop} : Fk (R (mif c A B)) (c → R A) (¬ c → R B)
 | f {p : Prop} [Decidable p] {A B : Prop} : Fk (R (mfork (.bool (decide p)) A B)) (p → R A) (¬ p → R B)
 | g {p : Prop} [Decidable p] {A B : Prop} : Fk (R (mgfork (.bool (decide p)) true A B)) (p → R A) (¬ p → R B)
 | h {p : Prop} [Decidable p] {A B : Prop} : Fk (R (mgfork (.bool (decide p)) false A B)) (¬ p → R A) (p → R B)
theorem wK {p a b : Prop} (h1 : a) (h2 : b) (e : Fk p a b := by first | exact .i | exact .f | exact .g | exact .h) : p := by
 cases e
 ·exact wI h1 h2
 ·exact wF h1 h2
 ·exact wG h1 h2
 ·exact wH h1 h2
inductive Fb : Prop → Prop → Prop → Prop
 | b {b : Bool} {A B : Prop} : Fb (R (mfork (.bool b) A B)) (b = true → R A) (b = false → R B)
 | g {b want : Bool} {A B : Prop} : Fb (R (mgfork (.bool b) want A B)) (b = want → R A) (b = (!want) → R B)
theorem wB {p a b : Prop} (h1 : a) (h2 : b) (e : Fb p a b := by first | exact .b | exact .g) : p := by
 cases e
 ·exact mfork_bool h1 h2
 ·exact mgfork_bool h1 h2
theorem wE {id : Nat} {l : List Oper} {f : FR} {σ : St} {Q : MQ} (h : R (mopsC Tryz.prog (fun _ _ => none) (@OfNat.ofNat (Array Oper) (nat_lit 0) (@_root_.id (OfNat (Array Oper) (nat_lit 0)) (OfNat.mk (l.toArray)))) (Q .normal) (@OfNat.ofNat (List Oper) (nat_lit 0) (@_root_.id (OfNat (List Oper) (nat_lit 0)) (OfNat.mk l))) f σ))
  (hchk : (chk l.toArray && l.all fun o => plainOp o.op) = true := by decide +kernel) : R (mdraw Tryz.prog id (@OfNat.ofNat (List Oper) (nat_lit 0) (@_root_.id (OfNat (List Oper) (nat_lit 0)) (OfNat.mk l))) f σ Q) := wD hchk h
theorem wQ {P : Program} {g : FuncId} {ms : List MV} {σ : St} {k : MV → St → Prop} (h : R (mcallE P g ms σ k)) : R (mcallE P g ms σ k) := h
inductive Up (l : Nat) (o o' : MObj) : St → St → Prop
 | u0 {σ : St} : Up l o o' (σ.set l o) (σ.set l o')
 | u1 {σ : St} {j : Nat} {oj : MObj} (h : j ≠ l) : Up l o o' ((σ.set l o).set j oj) ((σ.set l o').set j oj)
 | u2 {σ : St} {j i : Nat} {oj oi : MObj} (h : j ≠ l) (h1 : i ≠ l) : Up l o o' (((σ.set l o).set j oj).set i oi) (((σ.set l o').set j oj).set i oi)
 | u3 {σ : St} {j i m : Nat} {oj oi om : MObj} (h : j ≠ l) (h1 : i ≠ l) (h2 : m ≠ l) : Up l o o' ((((σ.set l o).set j oj).set i oi).set m om) ((((σ.set l o').set j oj).set i oi).set m om)
theorem uR {P : Program} {g : FuncId} {ms : List MV} {σ σ2 : St} {l : Nat} {o o' : MObj} {r : MV} {k : MV → St → Prop} (h : MCalls P g ms (St.none.set l o) fun v σ' => v = r ∧ σ' = St.none.set l o') (hk : R (mlet r σ2 k))
  (e : Up l o o' σ σ2 := by first | exact .u0 | exact .u1 (by assumption) | exact .u2 (by assumption) (by assumption) | exact .u3 (by assumption) (by assumption) (by assumption)) : R (mcallE P g ms σ k) := by
 cases e
 ·exact ur0 h hk
 ·exact ur1 (by assumption) h hk
 ·exact ur2 (by assumption) (by assumption) h hk
 ·exact ur3 (by assumption) (by assumption) (by assumption) h hk
theorem FXs : (type_of% @fc_zero) ∧ (type_of% @fc_len) ∧ (type_of% @fc_cell) ∧ (type_of% @fc_take) ∧ (type_of% @fc_take') ∧ (type_of% @fc_drop) ∧ (type_of% @fc_drop') ∧ (type_of% @fc_getD) ∧ (type_of% @drop_two) ∧ (type_of% @drop_three) ∧ (type_of% @take_two) ∧ (type_of% @take_three) ∧ (type_of% @getD_two) ∧ (type_of% @getD_three) ∧ (type_of% @fc_at) ∧ (type_of% @fc_at_app) ∧ (type_of% @fc_get0) ∧ (type_of% @fc_get1) ∧ (type_of% @fc_get2) ∧ (type_of% @fc_fold) ∧ (∀ {f : F8} {i : Nat} {v : VA} (h : i < 8), (f.set i v).get i = v) :=
 ⟨fc_zero, fc_len, fc_cell, fc_take, fc_take', fc_drop, fc_drop', fc_getD, drop_two, drop_three, take_two, take_three, getD_two, getD_three, fc_at, fc_at_app, fc_get0, fc_get1, fc_get2, fc_fold, F8.get_hit⟩
theorem FYs : (type_of% FXs) ∧ (type_of% @fc_all) ∧ (type_of% @fc_assoc) ∧ (∀ {α : Type} (l : List α), l ++ [] = l) ∧ (∀ {α : Type} (l : List α), l.take 0 = []) ∧ (type_of% u32z) ∧ (∀ {α : Type} (a : α) (l r : List α), a :: l ++ r = a :: (l ++ r)) ∧ (∀ {α : Type} (l : List α), [] ++ l = l) :=
 ⟨FXs, fc_all, fc_assoc, List.append_nil, fun _ => List.take_zero, u32z, fun _ _ _ => List.cons_append, List.nil_append⟩
end Go.Proofs.YtfbodefnblpflaaGreatDoor
end

section
namespace Go.Proofs.YtfbodefnblpflaaGreatDoor
theorem pow128 : 128 ^ (5 + 1) = 4398046511104 := by decide
theorem bsS_toList (l : BL) : (bsS l).toList = l := by
 refine List.ext_getElem? fun n => ?_
 rw [← toList_get (bsS l) n]
 by_cases h : n < l.length
 ·have h' : n < (bsS l).size := by rw [bsS_size]; exact h
  rw [getElem?_pos (bsS l) n h', List.getElem?_eq_getElem h]
  simp [bsS, ByteArray.getElem_eq_getElem_data]
 ·have h' : ¬ n < (bsS l).size := by rw [bsS_size]; exact h
  rw [getElem?_neg (bsS l) n h', List.getElem?_eq_none (by omega)]
end Go.Proofs.YtfbodefnblpflaaGreatDoor
end

section
namespace Go.Proofs.YtfbodefnblpflaaGreatDoor
theorem u8_rem (c : UInt8) : ((c.toNat : Int)).tmod 128 = ((c.toNat % 128 : Nat) : Int) := rfl
set_option maxHeartbeats 2000000 in
theorem rnext_call (l : BL) (most : Int) (hl : l.length ≤ 1000000) : MCalls Tryz.prog 145 [.str (bsS l), .int .i64 most] St.none (fun r _ => r = .tup [.int .i64 (nx l most).1, .int .i64 ((nx l most).2.1 : Nat), .int .i64 (nx l most).2.2]) := by
 refine (MCalls.body 63 [.tmp 4, .tmp 5, .tmp 6] Tryz.func145 rfl rfl rfl rfl ?_)
 repeat' (first | (with_reducible first | (refine wN fun _ hnl => ?_; revert hnl; (repeat refine wS fun _ _ => ?_); intro hnl) | refine wE ?_ | (refine wK ?_ ?_ <;> intro h) | (refine wB ?_ ?_ <;> intro h <;> simp only [h])) | simp (maxSteps := 4000000) (disch := first | decide | assumption | omega | (simp only [wL]; omega)) only [go_sem, simprocAttr, Tryz.f145])
 refine mloop_intro (α := Nat) (fun n => ⟨63, [(7, .int .i64 (n : Int)), (0, .str (bsS l)), (1, .int .i64 most)], []⟩) (fun _ => St.none) (fun n => n ≤ 6 ∧ goes n l) (fun n => 6 - n) ?_ ?_
 ·refine .of (.less ?_ (St.le_refl _)) ⟨0, rfl, rfl, Nat.zero_le _, goes_zero l⟩
  simp (maxSteps := 4000000) (disch := first | decide | assumption | omega | (simp only [wL]; omega)) only [go_sem, simprocAttr, weak_int, weak_same]
 ·rintro n ⟨h6, hg⟩
  have hgl := hg.1
  by_cases e6 : n = 6
  ·subst e6
   rw [goes_six hg]
   repeat' (first | (with_reducible first | (refine wN fun _ hnl => ?_; revert hnl; (repeat refine wS fun _ _ => ?_); intro hnl) | refine wE ?_ | (refine wK ?_ ?_ <;> intro h) | (refine wB ?_ ?_ <;> intro h <;> simp only [h])) | simp (maxSteps := 4000000) (disch := first | decide | assumption | omega | (simp only [wL]; omega)) only [go_sem, simprocAttr, bsS_toList, bsS_size])
   done
  ·by_cases el : n = l.length
   ·rw [goes_end hg (by omega) el]
    repeat' (first | (with_reducible first | (refine wN fun _ hnl => ?_; revert hnl; (repeat refine wS fun _ _ => ?_); intro hnl) | refine wE ?_ | (refine wK ?_ ?_ <;> intro h) | (refine wB ?_ ?_ <;> intro h <;> simp only [h])) | simp (maxSteps := 4000000) (disch := first | decide | assumption | omega | (simp only [wL]; omega)) only [go_sem, simprocAttr, bsS_toList, bsS_size])
    done
   ·by_cases hc : 128 ≤ (l.getD n 0).toNat
    ·repeat' (first | (with_reducible first | (refine wN fun _ hnl => ?_; revert hnl; (repeat refine wS fun _ _ => ?_); intro hnl) | refine wE ?_ | (refine wK ?_ ?_ <;> intro h) | (refine wB ?_ ?_ <;> intro h <;> simp only [h])) | simp (maxSteps := 4000000) (disch := first | decide | assumption | omega | (simp only [wL]; omega)) only [go_sem, simprocAttr, bsS_toList, bsS_size])
     refine .of (.less ?_ (St.le_refl _)) ⟨n + 1, rfl, rfl, ⟨by omega, goes_succ hg (by omega) hc⟩, by omega⟩
     simp (maxSteps := 4000000) (disch := first | decide | assumption | omega | (simp only [wL]; omega)) only [go_sem, simprocAttr, weak_int, weak_same]
     all_goals omega
    ·rw [goes_stop hg (by omega) (by omega) (by omega)]
     obtain ⟨d, hd⟩ : ∃ d, l.take (n + 1) = d := ⟨_, rfl⟩
     have hdl : d.length = n + 1 := by rw [← hd, List.length_take]; omega
     have hdv : ∀ k, val (d.drop k) ≤ 4398046511104 := fun k => by
      have h1 := val_lt (d.drop k)
      have h2 : 128 ^ (d.drop k).length ≤ 128 ^ (5 + 1) := Nat.pow_le_pow_right (by decide) (by rw [List.length_drop]; omega)
      rw [pow128] at h2
      omega
     have hdi : ∀ k, k ≤ n → val (d.drop k) = (l.getD k 0).toNat % 128 + 128 * val (d.drop (k + 1)) := fun k hk => by
      rw [List.drop_eq_getElem_cons (by omega), val]
      congr 3
      have : d[k]'(by omega) = l[k]'(by omega) := by subst hd; simp
      rw [this]; simp [List.getD, show k < l.length by omega]
     rw [hd]
     clear hd
     by_cases hzz : (l.getD n 0).toNat = 0 ∧ 0 < n
     ·rw [if_pos hzz]
      repeat' (first | (with_reducible first | (refine wN fun _ hnl => ?_; revert hnl; (repeat refine wS fun _ _ => ?_); intro hnl) | refine wE ?_ | (refine wK ?_ ?_ <;> intro h) | (refine wB ?_ ?_ <;> intro h <;> simp only [h])) | simp (maxSteps := 4000000) (disch := first | decide | assumption | omega | (simp only [wL]; omega)) only [go_sem, simprocAttr, bsS_toList, bsS_size])
      all_goals omega
     rw [if_neg hzz]
     repeat' (first | (with_reducible first | (refine wN fun _ hnl => ?_; revert hnl; (repeat refine wS fun _ _ => ?_); intro hnl) | refine wE ?_ | (refine wK ?_ ?_ <;> intro h) | (refine wB ?_ ?_ <;> intro h <;> simp only [h])) | simp (maxSteps := 4000000) (disch := first | decide | assumption | omega | (simp only [wL]; omega)) only [go_sem, simprocAttr, bsS_toList, bsS_size])
     all_goals
      refine mloop_intro (α := Nat) (fun j => ⟨63, [(9, .int .i64 ((n : Int) - j)), (8, .int .i64 (val (d.drop (n + 1 - j)) : Int)), (7, .int .i64 (n : Int)), (0, .str (bsS l)), (1, .int .i64 most)], []⟩) (fun _ => St.none) (fun j => j ≤ n + 1) (fun j => n + 1 - j) ?_ ?_
      ·refine .of (.less ?_ (St.le_refl _)) ⟨0, rfl, rfl, Nat.zero_le _⟩
       rw [Nat.sub_zero, List.drop_eq_nil_of_le (by omega)]
       simp (maxSteps := 4000000) (disch := first | decide | assumption | omega | (simp only [wL]; omega)) only [go_sem, simprocAttr, weak_int, weak_same]
       all_goals first | omega | rfl | (refine ⟨?_, rfl⟩; omega)
      ·intro j hj
       have hj : j ≤ n + 1 := hj
       by_cases hjn : j = n + 1
       ·subst hjn
        have e0 : (n : Int) - ((n + 1 : Nat) : Int) = -1 := by omega
        rw [e0, Nat.sub_self, List.drop_zero]
        have hv0 := hdv 0
        rw [List.drop_zero] at hv0
        obtain ⟨v, hv⟩ : ∃ v, val d = v := ⟨_, rfl⟩
        rw [hv] at hv0 ⊢
        repeat' (first | (with_reducible first | (refine wN fun _ hnl => ?_; revert hnl; (repeat refine wS fun _ _ => ?_); intro hnl) | refine wE ?_ | (refine wK ?_ ?_ <;> intro h) | (refine wB ?_ ?_ <;> intro h <;> simp only [h])) | simp (maxSteps := 4000000) (disch := first | decide | assumption | omega | (simp only [wL]; omega)) only [go_sem, simprocAttr])
        all_goals first
         | (rw [if_pos (by unfold big; omega)]; try rfl)
         | (rw [if_neg (by unfold big; omega)]; rfl)
       ·obtain ⟨k, hk⟩ : ∃ k, n - j = k := ⟨_, rfl⟩
        have ek : (n : Int) - (j : Int) = (k : Int) := by omega
        have ek1 : n + 1 - j = k + 1 := by omega
        have hkl : k < l.length := by omega
        have hvk := hdi k (by omega)
        have hb := hdv k
        rw [ek, ek1]
        obtain ⟨v, hv⟩ : ∃ v, val (d.drop (k + 1)) = v := ⟨_, rfl⟩
        rw [hv] at hvk ⊢
        have hm := Nat.mod_lt (l.getD k 0).toNat (show 0 < 128 by decide)
        repeat' (first | (with_reducible first | (refine wN fun _ hnl => ?_; revert hnl; (repeat refine wS fun _ _ => ?_); intro hnl) | refine wE ?_ | (refine wK ?_ ?_ <;> intro h) | (refine wB ?_ ?_ <;> intro h <;> simp only [h])) | simp (maxSteps := 4000000) (disch := first | decide | assumption | omega | (simp only [wL]; omega)) only [go_sem, simprocAttr, bsS_toList, bsS_size, u8_rem])
        refine .of (.less ?_ (St.le_refl _)) ⟨j + 1, rfl, rfl, by omega, by omega⟩
        rw [show n + 1 - (j + 1) = k by omega, hvk]
        simp (maxSteps := 4000000) (disch := first | decide | assumption | omega | (simp only [wL]; omega)) only [go_sem, simprocAttr, weak_int, weak_same]
        all_goals omega
end Go.Proofs.YtfbodefnblpflaaGreatDoor
end
