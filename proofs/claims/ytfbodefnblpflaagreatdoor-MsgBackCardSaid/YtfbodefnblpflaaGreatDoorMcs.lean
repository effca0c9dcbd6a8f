/- Parts of the proof, joined. Each part says what it proves, and under which conditions it does: those that its theorems name. -/
import Derived.Test.YtfbodefnblpflaaGreatDoorMcp
import Derived.Test.YtfbodefnblpflaaGreatDoorMcr
set_option linter.unusedVariables false
set_option linter.unusedSimpArgs false
set_option maxHeartbeats 4000000
section
namespace Go.Proofs.YtfbodefnblpflaaGreatDoor
set_option maxRecDepth 100000
set_option maxHeartbeats 4000000
noncomputable def pnumK (C : Know) : Know := fun g ms => if g = 21 then match ms with | [.lst 1 xs t, .int .i64 n] => some ⟨[], fun v => v = .lst 1 (xs ++ (numB n).map bc) false, none⟩ | _ => none else C g ms
theorem pnumK_hit {C : Know} {bs : BL} {t : Bool} {n : Int} : pnumK C 21 [.lst 1 (bs.map bc) t, .int .i64 n] = some ⟨[], fun v => v = .lst 1 ((bs ++ numB n).map bc) false, none⟩ := by
 simp only [pnumK, if_true, List.map_append]
theorem pputval_call (bs : BL) (hb : bs.length ≤ 500000) (t : Bool) (v : VA) (hok : vaOk v = true) : MCalls Tryz.prog 159 [.lst 1 (bs.map bc) t, .agg v.c] St.none (fun r _ => r = .lst 1 ((bs ++ valB v).map bc) false) := by
 refine MCalls.drops (MCalls.body 29 [.tmp 4] Tryz.func159 rfl rfl rfl rfl ?_)
 have hc := vcheck_call v.kd v.n v.s
 have hc : MCalls Tryz.prog 151 [.agg v.c] St.none (fun r _ => r = .bool (vaOk v)) := hc
 rw [hok] at hc
 have hsz := vaOk_size hok
 have hn := numB_len v.kd
 have h1 := pnum_call bs t v.kd (by omega)
 have h2 := pnum_call (bs ++ numB v.kd) false v.n (by rw [List.length_append]; omega)
 have h3 := pstr_call (bs ++ numB v.kd) false (bl v.s) (by rw [List.length_append]; omega) (by have : (bl v.s).length = v.s.size := rfl; omega)
 rw [bsS_of] at h3
 have hk : v.kd = 0 ∨ v.kd = 1 ∨ v.kd = 2 := by
  rcases (vaOk_iff v).1 hok with ⟨h, -⟩ | ⟨h, -⟩ | ⟨h, -⟩ <;> omega
 unfold valB
 rw [if_pos hok]
 by_cases k1 : v.kd = 1
 ·rw [if_pos k1, ← List.append_assoc]
  repeat' (first | (with_reducible first | refine up hc ?_ | refine up h1 ?_ | refine up h2 ?_) | (with_reducible first | (refine wN fun _ hnl => ?_; revert hnl; (repeat refine wS fun _ _ => ?_); intro hnl) | refine wE ?_ | (refine wK ?_ ?_ <;> intro h) | (refine wB ?_ ?_ <;> intro h <;> simp only [h])) | simp (maxSteps := 4000000) (disch := first | decide | assumption | omega | (simp only [wL]; omega)) only [go_sem, simprocAttr, Tryz.f159])
  all_goals first | exact ⟨_, St.le_refl _, rfl⟩ | exact ⟨_, St.le_refl _⟩
 ·rw [if_neg k1]
  by_cases k2 : v.kd = 2
  ·rw [if_pos k2, ← List.append_assoc]
   repeat' (first | (with_reducible first | refine up hc ?_ | refine up h1 ?_ | refine up h3 ?_) | (with_reducible first | (refine wN fun _ hnl => ?_; revert hnl; (repeat refine wS fun _ _ => ?_); intro hnl) | refine wE ?_ | (refine wK ?_ ?_ <;> intro h) | (refine wB ?_ ?_ <;> intro h <;> simp only [h])) | simp (maxSteps := 4000000) (disch := first | decide | assumption | omega | (simp only [wL]; omega)) only [go_sem, simprocAttr, Tryz.f159])
   all_goals first | exact ⟨_, St.le_refl _, rfl⟩ | exact ⟨_, St.le_refl _⟩
  ·rw [if_neg k2, List.append_nil]
   repeat' (first | (with_reducible first | refine up hc ?_ | refine up h1 ?_) | (with_reducible first | (refine wN fun _ hnl => ?_; revert hnl; (repeat refine wS fun _ _ => ?_); intro hnl) | refine wE ?_ | (refine wK ?_ ?_ <;> intro h) | (refine wB ?_ ?_ <;> intro h <;> simp only [h])) | simp (maxSteps := 4000000) (disch := first | decide | assumption | omega | (simp only [wL]; omega)) only [go_sem, simprocAttr, Tryz.f159])
   all_goals first | exact ⟨_, St.le_refl _, rfl⟩ | exact ⟨_, St.le_refl _⟩
def vbs (f : F8) (L : List Nat) : BL := (L.map fun i => valB (f.get i)).flatten
theorem vbs_snoc {f : F8} {L : List Nat} {j : Nat} (h : j < L.length) : vbs f (L.take (j + 1)) = vbs f (L.take j) ++ valB (f.get (L.getD j 0)) := by
 unfold vbs
 rw [List.take_succ_eq_append_getElem h, List.map_append, List.flatten_append, ← getD_of_lt 0 h]; simp
theorem vbs_len (f : F8) : ∀ L : List Nat, (vbs f L).length ≤ 36 * L.length
 | [] => by simp [vbs]
 | i :: L => by
  have := vbs_len f L
  have h := (inferInstance : LB (valB (f.get i)) 36).h
  unfold vbs at this ⊢
  simp only [List.map_cons, List.flatten_cons, List.length_append, List.length_cons]
  omega
theorem pputpatch_call (bs : BL) (hb : bs.length ≤ 400000) (t : Bool) (p : PA) (hok : patchErr p = 0) : MCalls Tryz.prog 105 [.lst 1 (bs.map bc) t, .agg p.c] St.none (fun r _ => r = .lst 1 ((bs ++ patchB p).map bc) false) := by
 refine MCalls.drops (MCalls.body 41 [.tmp 4] Tryz.func105 rfl rfl rfl rfl ?_)
 have hc := pcpatch_call p
 rw [hok] at hc
 have hm := pmlab_call p.mask
 have hf := pfields_call p.mask
 have h1 := numB_len (p.mask.toNat : Int)
 have h2 := numB_len (p.lab.toNat : Int)
 have hmt := p.mask.toNat_lt
 have hlt := p.lab.toNat_lt
 have n1 := pnum_call bs t (p.mask.toNat : Int) (by omega)
 have n2 := pnum_call (bs ++ numB (p.mask.toNat : Int)) false (p.lab.toNat : Int) (by rw [List.length_append]; omega)
 have hva := ((patchErr_iff p).1 hok).2.2
 have hbl := bitsL_len p.mask.toNat
 have hlt8 := fun i => bitsL_lt (m := p.mask.toNat) (i := i)
 have e : patchB p = numB p.mask.toNat ++ (if bit p.mask.toNat 8 = true then numB p.lab.toNat else []) ++ vbs p.f (bitsL p.mask.toNat) := by rw [patchB, if_pos hok, fieldsB_bits]; rfl
 rw [e]
 obtain ⟨L, hL⟩ : ∃ L, bitsL p.mask.toNat = L := ⟨_, rfl⟩
 rw [hL] at hf hbl hlt8 ⊢
 obtain ⟨b8, hb8⟩ : ∃ b, bit p.mask.toNat 8 = b := ⟨_, rfl⟩
 rw [hb8] at hm ⊢
 obtain ⟨hd, hhd⟩ : ∃ hd, bs ++ (numB p.mask.toNat ++ (if b8 = true then numB p.lab.toNat else [])) = hd := ⟨_, rfl⟩
 have hdl : hd.length ≤ 400012 := by rw [← hhd, List.length_append, List.length_append]; split <;> (try simp only [List.length_nil]) <;> omega
 rw [← List.append_assoc, hhd]
 cases b8
 all_goals
  simp only [if_true, Bool.false_eq_true, if_false, List.append_nil, ← List.append_assoc] at hhd
  repeat' (first | (with_reducible first | refine up hc ?_ | refine up hm ?_ | refine up hf ?_ | refine up n1 ?_ | refine up n2 ?_) | (with_reducible first | (refine wT ?_; (first | ((fail_if_success (have := nl1)); refine wN fun nl1 hnl => ?_) | refine wN fun _ hnl => ?_); revert hnl; (repeat refine wS fun _ _ => ?_); intro hnl) | refine wE ?_ | (refine wK ?_ ?_ <;> intro h) | (refine wB ?_ ?_ <;> intro h <;> simp only [h])) | simp (maxSteps := 4000000) (disch := first | decide | assumption | omega | (simp only [wL]; omega)) only [go_sem, simprocAttr, Tryz.f105, FYs])
  rw [hhd]
  refine mloop_intro (α := Nat) (fun k => ⟨41, [(29, .int .i64 (k : Int)), (28, .int .i64 (L.length : Int)), (27, .lst 1 (intsL L) false), (3, .ptr nl1 0 0), (0, .lst 1 ((hd ++ vbs p.f (L.take k)).map bc) false)], []⟩) (fun _ => St.none.set nl1 (.row 27 26 [p.c])) (fun k => k ≤ L.length) (fun k => L.length - k) (.of (.less ?_ (St.le_refl _)) ⟨0, rfl, rfl, Nat.zero_le _⟩) ?_
  ·rw [show vbs p.f (L.take 0) = [] from rfl, List.append_nil]
   simp (maxSteps := 4000000) (disch := first | decide | assumption | omega | (simp only [wL]; omega)) only [go_sem, simprocAttr, weak_int, weak_same]
   all_goals rfl
  ·intro k hk
   have hk : k ≤ L.length := hk
   by_cases hkl : k < L.length
   ·have hi8 := hlt8 _ (getD_mem 0 hkl)
    have hsn := vbs_snoc (f := p.f) hkl
    have hvl := vbs_len p.f (L.take k)
    rw [List.length_take, Nat.min_eq_left hk] at hvl
    obtain ⟨i, hi⟩ : ∃ i, L.getD k 0 = i := ⟨_, rfl⟩
    rw [hi] at hi8 hsn
    obtain ⟨pre, hpre⟩ : ∃ pre, vbs p.f (L.take k) = pre := ⟨_, rfl⟩
    rw [hpre] at hsn hvl ⊢
    have hv := pputval_call (hd ++ pre) (by rw [List.length_append]; omega) false (p.f.get i) (hva i hi8).1
    have hat := fc_at (f := p.f) hi8
    repeat' (first | (with_reducible first | refine up hv ?_) | (with_reducible first | (refine wT ?_; (first | ((fail_if_success (have := nl1)); refine wN fun nl1 hnl => ?_) | refine wN fun _ hnl => ?_); revert hnl; (repeat refine wS fun _ _ => ?_); intro hnl) | refine wE ?_ | (refine wK ?_ ?_ <;> intro h) | (refine wB ?_ ?_ <;> intro h <;> simp only [h])) | simp (maxSteps := 4000000) (disch := first | decide | assumption | omega | (simp only [wL]; omega)) only [go_sem, simprocAttr, FYs, getD_mapd (0 : Nat), hi, hat])
    refine .of (.less (l1 := [(29, .int .i64 ((k + 1 : Nat) : Int)), (28, .int .i64 (L.length : Int)), (27, .lst 1 (intsL L) false), (3, .ptr nl1 0 0), (0, .lst 1 ((hd ++ vbs p.f (L.take (k + 1))).map bc) false)]) ?_ (St.le_refl _)) ⟨k + 1, rfl, rfl, by omega, by omega⟩
    rw [hsn, ← List.append_assoc]
    simp (maxSteps := 4000000) (disch := first | decide | assumption | omega | (simp only [wL]; omega)) only [go_sem, simprocAttr, weak_int, weak_same]
    all_goals rfl
   ·have : k = L.length := by omega
    subst this
    rw [List.take_length]
    repeat' (first | (with_reducible first | (refine wT ?_; (first | ((fail_if_success (have := nl1)); refine wN fun nl1 hnl => ?_) | refine wN fun _ hnl => ?_); revert hnl; (repeat refine wS fun _ _ => ?_); intro hnl) | refine wE ?_ | (refine wK ?_ ?_ <;> intro h) | (refine wB ?_ ?_ <;> intro h <;> simp only [h])) | simp (maxSteps := 4000000) (disch := first | decide | assumption | omega | (simp only [wL]; omega)) only [go_sem, simprocAttr])
    all_goals first | exact ⟨_, St.le_refl _, rfl⟩ | exact ⟨_, St.le_refl _⟩
end Go.Proofs.YtfbodefnblpflaaGreatDoor
end

section
namespace Go.Proofs.YtfbodefnblpflaaGreatDoor
def T.depth : T → Nat
 | .leaf _ => 1
 | .one _ a => 1 + a.depth
 | .two _ a b => 1 + max a.depth b.depth
def shutP : List Nat → List Nat
 | [] => []
 | k :: s => shut ((k - 1) :: s)
theorem shut_zero (s : List Nat) : shut (0 :: s) = shutP s := by
 cases s with
 | nil => rw [shut]; rfl
 | cons k s => rw [shut]; rfl
theorem shut_succ (n : Nat) (s : List Nat) : shut ((n + 1) :: s) = (n + 1) :: s := by rw [shut]
theorem dp_tree : ∀ {t : T}, t.ok → ∀ (d : Nat) (s : List Nat) (l : List ND), dp d s (t.fl ++ l) = dp (max d (s.length + t.depth)) (shutP s) l
 | .leaf x, h, d, s, l => by
  simp only [T.ok] at h
  rw [T.fl, List.cons_append, List.nil_append, dp, h, shut_zero]; rfl
 | .one x a, h, d, s, l => by
  rw [T.fl, List.cons_append, dp, h.1, shut_succ, dp_tree h.2, shutP, show 0 + 1 - 1 = 0 from rfl, shut_zero]
  congr 1
  simp only [List.length_cons, T.depth]; omega
 | .two x a b, h, d, s, l => by
  rw [T.fl, List.cons_append, dp, h.1, shut_succ, List.append_assoc, dp_tree h.2.1, shutP, show 1 + 1 - 1 = 0 + 1 from rfl, shut_succ, dp_tree h.2.2, shutP, show 0 + 1 - 1 = 0 from rfl, shut_zero]
  congr 1
  simp only [List.length_cons, T.depth]; omega
theorem depth_tree {t : T} (h : t.ok) (he : endS t.fl 0 = (t.fl.length : Int)) : depthS t.fl = t.depth := by
 have := dp_tree h 0 [] []
 rw [List.append_nil] at this
 rw [depthS, if_neg, this]
 ·simp [dp]
 ·rintro (h1 | h1)
  ·have := t.fl_pos; rw [h1] at this; simp at this
  ·exact h1 he
end Go.Proofs.YtfbodefnblpflaaGreatDoor
end

section
namespace Go.Proofs.YtfbodefnblpflaaGreatDoor
theorem pcompare_call (a b : List ND) (la : a.length ≤ 1000000) (lb : b.length ≤ 1000000) (ta tb : Bool) : MCalls Tryz.prog 85 [.lst 5 (a.map ND.c) ta, .lst 5 (b.map ND.c) tb] St.none (fun r _ => r = .int .i64 (ordI (cmpF a b))) := by
 refine (MCalls.body 8 [.tmp 4] Tryz.func85 rfl rfl rfl rfl ?_)
 have h := cmpfn_call 140 a b la lb ta tb (fun x y _ _ => pcmp1_call x y)
 repeat' (first | (with_reducible refine use_pure h ?_) | (with_reducible first | (refine wN fun nl hnl => ?_; revert hnl; (repeat refine wS fun _ _ => ?_); intro hnl) | refine wD (by decide +kernel) ?_ | refine wI (fun h => ?_) fun h => ?_ | refine wF (fun h => ?_) fun h => ?_ | refine wG (fun h => ?_) fun h => ?_ | refine wH (fun h => ?_) fun h => ?_ | ((first | refine mfork_bool (fun h => ?_) fun h => ?_ | refine mgfork_bool (fun h => ?_) fun h => ?_) <;> simp only [h])) | simp (maxSteps := 4000000) (disch := first | decide | assumption | omega | (simp only [wL]; omega)) only [go_sem, simprocAttr, Tryz.f85])
end Go.Proofs.YtfbodefnblpflaaGreatDoor
end
