/- Parts of the proof, joined. Each part says what it proves, and under which conditions it does: those that its theorems name. -/
import Derived.Test.YtfbodefnblpflaaGreatDoorMcn
import Derived.Test.YtfbodefnblpflaaGreatDoorMco
set_option linter.unusedVariables false
set_option linter.unusedSimpArgs false
set_option maxHeartbeats 4000000
section
namespace Go.Proofs.YtfbodefnblpflaaGreatDoor
set_option maxRecDepth 100000
set_option maxHeartbeats 4000000
abbrev intsL (L : List Nat) : List (List MV) := L.map fun (i : Nat) => [.int .i64 (i : Int)]
theorem peach_seq (s : Nat) (hs : s < 256) (l : Nat) : MSeq Tryz.prog 192 [.ptr l 0 0] (St.none.set l (.row 22 1 [[.int .u32 (s : Int)]])) (intsL (bitsL s)) := by
 refine MSeq.of_body 14 Tryz.func192 rfl rfl rfl rfl fun C hC hspec => ?_
 have hxl : (intsL (bitsL s)).length = (bitsL s).length := by simp [intsL]
 rw [hxl]
 refine R_of (ywp_block (ywp_loop (α := Nat × Nat) (fun a => ⟨14, [(0, .fn (.yield C.l) [] []), (1, .ptr l 0 0)], []⟩) (fun a => St.none.set l (.row 22 1 [[.int .u32 (a.1 : Int)]])) (fun a => some a.2)
   (fun a => a.1 < 256 ∧ bitsL a.1 = (bitsL s).drop a.2 ∧ a.2 ≤ (bitsL s).length) (fun a => (bitsL a.1).length) ?_ ?_))
 ·refine .of (.less ?_ (St.le_refl _)) ⟨(s, 0), rfl, rfl, rfl, hs, rfl, Nat.zero_le _⟩
  simp (maxSteps := 4000000) (disch := first | decide | assumption | omega | (simp only [wL]; omega)) only [go_sem, simprocAttr, weak_int, weak_same]
 ·rintro ⟨x, j⟩ ⟨hx, hj, hjl⟩
  simp only at hx hj hjl ⊢
  by_cases h0 : x = 0
  ·subst h0
   rw [bits_zero] at hj
   have hjj : (bitsL s).length ≤ j := by
    refine Classical.byContradiction fun h => ?_
    have := congrArg List.length hj
    rw [List.length_drop] at this
    simp at this
    omega
   have hje : j = (bitsL s).length := by omega
   refine ywp_seq (ywalk ?_)
   repeat' (first | (with_reducible first | (refine wN fun _ hnl => ?_; revert hnl; (repeat refine wS fun _ _ => ?_); intro hnl) | refine wE ?_ | (refine wK ?_ ?_ <;> intro h) | (refine wB ?_ ?_ <;> intro h <;> simp only [h])) | simp (maxSteps := 4000000) (disch := first | decide | assumption | omega | (simp only [wL]; omega)) only [go_sem, simprocAttr, Tryz.f192])
   refine .inl ?_
   rw [hje]
  ·have hlow := bits_low x hx h0
   have hh := headD_lt hx h0
   have hlt : j < (bitsL s).length := by
    refine Classical.byContradiction fun h => ?_
    rw [List.drop_eq_nil_of_le (by omega)] at hj
    rw [hj] at hlow
    cases hlow
   have hdrop := List.drop_eq_getElem_cons hlt
   rw [← hj, hlow] at hdrop
   obtain ⟨hd1, hd2⟩ := List.cons.inj hdrop
   have hnext : x &&& (x - 1) < 256 := Nat.lt_of_le_of_lt Nat.and_le_left hx
   have htz := ptz_call x (by omega) hx
   have ha : andK .u32 (x : Int) ((x : Int) - 1) = ((x &&& (x - 1) : Nat) : Int) := by
    have := and32 x (x - 1) (by omega) (by omega)
    rwa [show ((x - 1 : Nat) : Int) = (x : Int) - 1 by omega] at this
   have hlen : (bitsL (x &&& (x - 1))).length < (bitsL x).length := by
    conv => rhs; rw [hlow]
    simp
   obtain ⟨d, hde⟩ : ∃ d, (bitsL x).headD 0 = d := ⟨_, rfl⟩
   rw [hde] at htz hh hd1
   obtain ⟨y, hy⟩ : ∃ y, x &&& (x - 1) = y := ⟨_, rfl⟩
   rw [hy] at ha hnext hd2 hlen
   clear hlow hdrop hde
   refine ywp_seq (ywalk ?_)
   repeat' (first | (with_reducible first | (refine wN fun _ hnl => ?_; revert hnl; (repeat refine wS fun _ _ => ?_); intro hnl) | refine wE ?_ | (refine wK ?_ ?_ <;> intro h) | (refine wB ?_ ?_ <;> intro h <;> simp only [h])) | simp (maxSteps := 4000000) (disch := first | decide | assumption | omega | (simp only [wL]; omega)) only [go_sem, simprocAttr, Tryz.f192])
   refine R_of (ywp_seq (ywp_block (ywp_seq (ywp_yield (ops := #[_, _, _, _, _]) [_, _, _] _ [_] rfl rfl rfl rfl rfl (x := [.int .i64 (d : Int)]) (by
    rw [hC]
    rw [List.getElem?_map, List.getElem?_eq_getElem hlt, ← hd1]; rfl) (fun m hm => by simp at hm; subst hm; exact .flat (.int _ _)) hspec ?_))))
   repeat' (first | (with_reducible first | refine up htz ?_) | (with_reducible first | (refine wN fun _ hnl => ?_; revert hnl; (repeat refine wS fun _ _ => ?_); intro hnl) | refine wE ?_ | (refine wK ?_ ?_ <;> intro h) | (refine wB ?_ ?_ <;> intro h <;> simp only [h])) | simp (maxSteps := 4000000) (disch := first | decide | assumption | omega | (simp only [wL]; omega)) only [go_sem, simprocAttr])
   refine ⟨R_of (ywalk ?_), R_of (ywalk ?_)⟩
   ·repeat' (first | (with_reducible first | (refine wN fun _ hnl => ?_; revert hnl; (repeat refine wS fun _ _ => ?_); intro hnl) | refine wE ?_ | (refine wK ?_ ?_ <;> intro h) | (refine wB ?_ ?_ <;> intro h <;> simp only [h])) | simp (maxSteps := 4000000) (disch := first | decide | assumption | omega | (simp only [wL]; omega)) only [go_sem, simprocAttr])
    refine R_of (ywalk ?_)
    repeat' (first | (with_reducible first | (refine wN fun _ hnl => ?_; revert hnl; (repeat refine wS fun _ _ => ?_); intro hnl) | refine wE ?_ | (refine wK ?_ ?_ <;> intro h) | (refine wB ?_ ?_ <;> intro h <;> simp only [h])) | simp (maxSteps := 4000000) (disch := first | decide | assumption | omega | (simp only [wL]; omega)) only [go_sem, simprocAttr, ha])
    refine .of (.less ?_ (St.le_refl _)) ⟨(y, j + 1), rfl, rfl, rfl, ⟨hnext, hd2, by omega⟩, hlen⟩
    simp (maxSteps := 4000000) (disch := first | decide | assumption | omega | (simp only [wL]; omega)) only [go_sem, simprocAttr, weak_int, weak_same]
   ·repeat' (first | (with_reducible first | (refine wN fun _ hnl => ?_; revert hnl; (repeat refine wS fun _ _ => ?_); intro hnl) | refine wE ?_ | (refine wK ?_ ?_ <;> intro h) | (refine wB ?_ ?_ <;> intro h <;> simp only [h])) | simp (maxSteps := 4000000) (disch := first | decide | assumption | omega | (simp only [wL]; omega)) only [go_sem, simprocAttr])
    exact .inr trivial
theorem ints_snoc {L : List Nat} {j : Nat} (h : j < L.length) : intsL (L.take (j + 1)) = intsL (L.take j) ++ [[.int .i64 ((L.getD j 0 : Nat) : Int)]] := by
 rw [intsL, List.take_succ_eq_append_getElem h, List.map_append, getD_of_lt 0 h]; rfl
theorem pappseq_call (s : Nat) (hs : s < 256) (l : Nat) : MCalls Tryz.prog 191 [.nils, .fn (.func 192) [] [.ptr l 0 0]] (St.none.set l (.row 22 1 [[.int .u32 (s : Int)]])) (fun r _ => r = .lst 1 (intsL (bitsL s)) false) := by
 refine MCalls.seen (MCalls.body 13 [.tmp 4] Tryz.func191 rfl rfl rfl rfl ?_)
 repeat' (first | (with_reducible first | (refine wT ?_; (first | ((fail_if_success (have := nl1)); refine wN fun nl1 hnl => ?_) | ((fail_if_success (have := nl2)); refine wN fun nl2 hnl => ?_) | ((fail_if_success (have := nl3)); refine wN fun nl3 hnl => ?_) | refine wN fun _ hnl => ?_); revert hnl; (repeat refine wS fun _ _ => ?_); intro hnl) | refine wE ?_ | (refine wK ?_ ?_ <;> intro h) | (refine wB ?_ ?_ <;> intro h <;> simp only [h])) | simp (maxSteps := 4000000) (disch := first | decide | assumption | omega | (simp only [wL]; omega)) only [go_sem, simprocAttr, Tryz.f191])
 have d1 : nl1 ≠ l := by assumption
 have hbl := bitsL_len s
 refine R_of (mwp_rangeFunc (gf := 192) (xs := intsL (bitsL s)) rfl (σi := St.none.set l (.row 22 1 [[.int .u32 (s : Int)]])) (St.set_le (St.none_le _) (by simp [St.set, *])) (peach_seq s hs l) ?_ rfl rfl
  (fc := ⟨13, [(2, .ptr nl1 0 0)], []⟩) rfl (α := Nat × List (List MV))
  (fun j a => (St.none.set nl1 (.row 183 1 [[.vec 1 a.1 0 j]])).set a.1 (.row 3 1 (intsL ((bitsL s).take j) ++ a.2))) (fun j a => a.1 ≠ nl1) ?_ ?_ ?_)
 ·intro x hx
  obtain ⟨y, _, rfl⟩ := List.mem_map.1 hx
  rfl
 ·refine Gh.rowIn (b := nl1) (t := 183) (e := 1) (pre := []) (post := []) 3 1 ?_ fun q hq => ?_
  ·simp [St.minus, St.set, St.none, d1]
  ·have q1 : q ≠ nl1 := fun e => by subst e; simp [St.minus, St.set, St.none, d1] at hq
   refine .of (.less ?_ (σ1 := (St.none.set nl1 (.row 183 1 [[.vec 1 q 0 0]])).set q (.row 3 1 [])) (le2 (by simp [St.set, q1, Ne.symm q1]) (by simp [St.set]))) ⟨rfl, (q, []), rfl, q1⟩
   simp (maxSteps := 4000000) (disch := first | decide | assumption | omega | (simp only [wL]; omega)) only [go_sem, simprocAttr, weak_int, weak_same]
 ·rintro j x ⟨q, ex⟩ hx q1
  simp only at q1 ⊢
  have hjl : j < (bitsL s).length := by
   have := (List.getElem?_eq_some_iff.1 hx).1
   simpa [intsL] using this
  have hxe : x = [.int .i64 (((bitsL s).getD j 0 : Nat) : Int)] := by
   rw [List.getElem?_map, List.getElem?_eq_getElem hjl, ← getD_of_lt 0 hjl] at hx
   exact (Option.some.inj hx).symm
  subst hxe
  have hsn := ints_snoc hjl
  obtain ⟨d, hd⟩ : ∃ d, (bitsL s).getD j 0 = d := ⟨_, rfl⟩
  rw [hd] at hsn ⊢
  have hlj : (intsL ((bitsL s).take j)).length = j := by rw [List.length_map, List.length_take]; omega
  obtain ⟨pre, hpre⟩ : ∃ pre, intsL ((bitsL s).take j) = pre := ⟨_, rfl⟩
  rw [hpre] at hsn hlj ⊢
  change mwp _ _ (FR.mk 13 [(7, .int .i64 (d : Int)), (2, .ptr nl1 0 0)] []) _ _
  have q2 := Ne.symm q1
  have htk : (pre ++ ex).take j = pre := by rw [← hlj, List.take_left']; rfl
  have hdr : (pre ++ ex).drop (j + 1) = ex.drop 1 := by
   rw [← List.drop_drop, ← hlj, List.drop_left']; rfl
  refine mwalk ?_
  repeat' (first | (with_reducible first | (refine wT ?_; (first | ((fail_if_success (have := nl1)); refine wN fun nl1 hnl => ?_) | ((fail_if_success (have := nl2)); refine wN fun nl2 hnl => ?_) | ((fail_if_success (have := nl3)); refine wN fun nl3 hnl => ?_) | refine wN fun _ hnl => ?_); revert hnl; (repeat refine wS fun _ _ => ?_); intro hnl) | refine wE ?_ | (refine wK ?_ ?_ <;> intro h) | (refine wB ?_ ?_ <;> intro h <;> simp only [h])) | simp (maxSteps := 4000000) (disch := first | decide | assumption | omega | (simp only [wL]; omega)) only [go_sem, simprocAttr])
  refine R_of (mwalk ?_)
  repeat' (first | (with_reducible first | (refine wT ?_; (first | ((fail_if_success (have := nl1)); refine wN fun nl1 hnl => ?_) | ((fail_if_success (have := nl2)); refine wN fun nl2 hnl => ?_) | ((fail_if_success (have := nl3)); refine wN fun nl3 hnl => ?_) | refine wN fun _ hnl => ?_); revert hnl; (repeat refine wS fun _ _ => ?_); intro hnl) | refine wE ?_ | (refine wK ?_ ?_ <;> intro h) | (refine wB ?_ ?_ <;> intro h <;> simp only [h])) | simp (maxSteps := 4000000) (disch := first | decide | assumption | omega | (simp only [wL]; omega)) only [go_sem, simprocAttr, htk, hdr])
  ·have hex : ex = [] := List.eq_nil_of_length_eq_zero (by omega)
   subst hex
   clear h
   refine .of (.less (l1 := []) (fun p hp => by cases hp) (σ1 := (St.none.set nl1 (.row 183 1 [[.vec 1 nl3 0 (j + 1)]])).set nl3 (.row 3 1 (intsL ((bitsL s).take (j + 1)) ++ []))) (le2 (by simp [St.set, *]) (by simp [St.set, *]))) ⟨(nl3, []), rfl, by assumption⟩
  ·refine .of (.less (l1 := []) (fun p hp => by cases hp) (σ1 := (St.none.set nl1 (.row 183 1 [[.vec 1 nl3 0 (j + 1)]])).set nl3 (.row 3 1 (intsL ((bitsL s).take (j + 1)) ++ ex.drop 1))) (le2 (by simp [St.set, *]) (by simp [St.set, *]))) ⟨(nl3, ex.drop 1), rfl, by assumption⟩
 ·rintro ⟨q, ex⟩ q1
  simp only at q1 ⊢
  have q2 := Ne.symm q1
  have hli : (intsL (bitsL s)).length = (bitsL s).length := List.length_map _
  rw [hli, List.take_length]
  show R _
  repeat' (first | (with_reducible first | (refine wT ?_; (first | ((fail_if_success (have := nl1)); refine wN fun nl1 hnl => ?_) | ((fail_if_success (have := nl2)); refine wN fun nl2 hnl => ?_) | ((fail_if_success (have := nl3)); refine wN fun nl3 hnl => ?_) | refine wN fun _ hnl => ?_); revert hnl; (repeat refine wS fun _ _ => ?_); intro hnl) | refine wE ?_ | (refine wK ?_ ?_ <;> intro h) | (refine wB ?_ ?_ <;> intro h <;> simp only [h])) | simp (maxSteps := 4000000) (disch := first | decide | assumption | omega | (simp only [wL]; omega)) only [go_sem, simprocAttr])
  exact viewR (set_hit _ _ _)
theorem pcollect_call (s : Nat) (hs : s < 256) (l : Nat) : MCalls Tryz.prog 179 [.fn (.func 192) [] [.ptr l 0 0]] (St.none.set l (.row 22 1 [[.int .u32 (s : Int)]])) (fun r _ => r = .lst 1 (intsL (bitsL s)) false) := by
 refine (MCalls.body 5 [.tmp 2] Tryz.func179 rfl rfl rfl rfl ?_)
 have h := pappseq_call s hs l
 repeat' (first | (with_reducible first | (refine wN fun _ hnl => ?_; revert hnl; (repeat refine wS fun _ _ => ?_); intro hnl) | refine wE ?_ | (refine wK ?_ ?_ <;> intro h) | (refine wB ?_ ?_ <;> intro h <;> simp only [h])) | simp (maxSteps := 4000000) (disch := first | decide | assumption | omega | (simp only [wL]; omega)) only [go_sem, simprocAttr, Tryz.f179])
 refine use_frame h (St.le_refl _) ?_
 rintro v σ' rfl -
 repeat' (first | (with_reducible first | (refine wN fun _ hnl => ?_; revert hnl; (repeat refine wS fun _ _ => ?_); intro hnl) | refine wE ?_ | (refine wK ?_ ?_ <;> intro h) | (refine wB ?_ ?_ <;> intro h <;> simp only [h])) | simp (maxSteps := 4000000) (disch := first | decide | assumption | omega | (simp only [wL]; omega)) only [go_sem, simprocAttr])
theorem pfields_call (m : UInt32) : MCalls Tryz.prog 158 [.int .u32 (m.toNat : Int)] St.none (fun r _ => r = .lst 1 (intsL (bitsL m.toNat)) false) := by
 refine (MCalls.body 7 [.tmp 2] Tryz.func158 rfl rfl rfl rfl ?_)
 have ha : andK .u32 (m.toNat : Int) 255 = _ := and32 m.toNat 255 m.toNat_lt (by decide)
 have hlt : m.toNat &&& 255 < 256 := Nat.lt_of_le_of_lt Nat.and_le_right (by decide)
 have hb := bitsL_and m.toNat
 obtain ⟨s, hs⟩ : ∃ s, m.toNat &&& 255 = s := ⟨_, rfl⟩
 rw [hs] at ha hlt hb
 have he : MCalls Tryz.prog 180 [.int .u32 (s : Int)] St.none (fun v σ' => ∃ l, v = .fn (.func 192) [] [.ptr l 0 0] ∧ σ' = St.none.set l (.row 22 1 [[.int .u32 (s : Int)]])) := by
  refine (MCalls.body 4 [.tmp 2] Tryz.func180 rfl rfl rfl rfl ?_)
  repeat' (first | (with_reducible first | (refine wN fun _ hnl => ?_; revert hnl; (repeat refine wS fun _ _ => ?_); intro hnl) | refine wE ?_ | (refine wK ?_ ?_ <;> intro h) | (refine wB ?_ ?_ <;> intro h <;> simp only [h])) | simp (maxSteps := 4000000) (disch := first | decide | assumption | omega | (simp only [wL]; omega)) only [go_sem, simprocAttr, Tryz.f180])
  exact ⟨_, rfl, rfl⟩
 repeat' (first | (with_reducible first | (refine wN fun _ hnl => ?_; revert hnl; (repeat refine wS fun _ _ => ?_); intro hnl) | refine wE ?_ | (refine wK ?_ ?_ <;> intro h) | (refine wB ?_ ?_ <;> intro h <;> simp only [h])) | simp (maxSteps := 4000000) (disch := first | decide | assumption | omega | (simp only [wL]; omega)) only [go_sem, simprocAttr, Tryz.f158, ha])
 refine use_new he fun l hl => ?_
 repeat' (first | (with_reducible first | (refine wN fun _ hnl => ?_; revert hnl; (repeat refine wS fun _ _ => ?_); intro hnl) | refine wE ?_ | (refine wK ?_ ?_ <;> intro h) | (refine wB ?_ ?_ <;> intro h <;> simp only [h])) | simp (maxSteps := 4000000) (disch := first | decide | assumption | omega | (simp only [wL]; omega)) only [go_sem, simprocAttr])
 have h := pcollect_call s hlt l
 refine use_frame h (St.le_refl _) ?_
 rintro v σ' rfl -
 repeat' (first | (with_reducible first | (refine wN fun _ hnl => ?_; revert hnl; (repeat refine wS fun _ _ => ?_); intro hnl) | refine wE ?_ | (refine wK ?_ ?_ <;> intro h) | (refine wB ?_ ?_ <;> intro h <;> simp only [h])) | simp (maxSteps := 4000000) (disch := first | decide | assumption | omega | (simp only [wL]; omega)) only [go_sem, simprocAttr])
 rw [hb]
end Go.Proofs.YtfbodefnblpflaaGreatDoor
end

section
namespace Go.Proofs.YtfbodefnblpflaaGreatDoor
set_option maxRecDepth 100000
set_option maxHeartbeats 4000000
instance {bs : BL} {r : RD} {m : Nat} {none : Bool} {k : Nat} {f : F8} [h : Sfx bs r] : Sfx bs (fieldsR m none k (f, r)).2 := ⟨(fieldsR_sfx m none k (f, r)).trans h.h⟩
theorem pvalR_call {bs : BL} [hb : Few bs] (r : RD) [hs : Sfx bs r] (l : Nat) : MCalls Tryz.prog 164 [.ptr l 0 0] (St.none.set l (rP bs r)) (fun v σ' => v = .agg (valR r).1.c ∧ σ' = St.none.set l (rP bs (valR r).2)) := by
 refine MCalls.obj (MCalls.body 24 [.cell 2 24] Tryz.func164 rfl rfl rfl rfl ?_)
 repeat' (first | (with_reducible (refine wQ ?_; first | refine uR (pRNum_call ..) ?_ | refine uR (pRStr_call ..) ?_ | refine uR (pRErr_call ..) ?_)) | (with_reducible first | (refine wN fun _ hnl => ?_; revert hnl; (repeat refine wS fun _ _ => ?_); intro hnl) | refine wE ?_ | (refine wK ?_ ?_ <;> intro h) | (refine wB ?_ ?_ <;> intro h <;> simp only [h])) | simp (maxSteps := 4000000) (disch := first | decide | assumption | omega | (simp only [wL]; omega)) only [go_sem, simprocAttr, Tryz.f164])
 all_goals (try simp only [Classical.not_not] at *)
 all_goals (first | (simp [valR, okR, big, va0, *]; done) | (simp only [valR, okR, big, va0]; (repeat' split) <;> (first | (simp_all; done) | omega | (exfalso; omega))) | skip)
theorem pabove_call (most : Int) {bs : BL} [hb : Few bs] (r : RD) [hs : Sfx bs r] (l : Nat) : MCalls Tryz.prog 182 [.ptr l 0 0, .int .i64 most] (St.none.set l (rP bs r)) (fun v σ' => v = .int .i64 (fromR 1 most r).1 ∧ σ' = St.none.set l (rP bs (fromR 1 most r).2)) := by
 refine (MCalls.body 14 [.tmp 4] Tryz.func182 rfl rfl rfl rfl ?_)
 have hr := (numR_rng most r).1
 have h1 := pRNum_call most (bs := bs) r l
 obtain ⟨n, hn⟩ : ∃ n, numR most r = n := ⟨_, rfl⟩
 rw [hn] at h1 hr
 have h2 := pRFail_call 3 (bs := bs) n.2 l
 have e : fromR 1 most r = (n.1, if n.1 < 1 then failR 3 n.2 else n.2) := by unfold fromR; rw [hn]
 rw [e]
 by_cases h0 : n.1 = 0
 ·rw [if_pos (by omega)]
  repeat' (first | (with_reducible (refine wQ ?_; first | refine uR (h1 ..) ?_ | refine uR (h2 ..) ?_)) | (with_reducible first | (refine wN fun _ hnl => ?_; revert hnl; (repeat refine wS fun _ _ => ?_); intro hnl) | refine wE ?_ | (refine wK ?_ ?_ <;> intro h) | (refine wB ?_ ?_ <;> intro h <;> simp only [h])) | simp (maxSteps := 4000000) (disch := first | decide | assumption | omega | (simp only [wL]; omega)) only [go_sem, simprocAttr, Tryz.f182])
 ·rw [if_neg (by omega)]
  repeat' (first | (with_reducible (refine wQ ?_; first | refine uR (h1 ..) ?_ | refine uR (h2 ..) ?_)) | (with_reducible first | (refine wN fun _ hnl => ?_; revert hnl; (repeat refine wS fun _ _ => ?_); intro hnl) | refine wE ?_ | (refine wK ?_ ?_ <;> intro h) | (refine wB ?_ ?_ <;> intro h <;> simp only [h])) | simp (maxSteps := 4000000) (disch := first | decide | assumption | omega | (simp only [wL]; omega)) only [go_sem, simprocAttr, Tryz.f182])
theorem plabels_call {bs : BL} [hb : Few bs] (r : RD) [hs : Sfx bs r] (l : Nat) : MCalls Tryz.prog 183 [.ptr l 0 0] (St.none.set l (rP bs r)) (fun v σ' => v = .int .u32 ((UInt32.ofNat (numR 65535 r).1.toNat).toNat : Int) ∧ σ' = St.none.set l (rP bs (numR 65535 r).2)) := by
 refine (MCalls.body 6 [.tmp 2] Tryz.func183 rfl rfl rfl rfl ?_)
 have h1 := pRNum_call 65535 (bs := bs) r l
 have hr := (numR_rng 65535 r).1
 have hm := numR_most (most := 65535) (by decide) r
 have hw : IntKind.u32.wrap (numR 65535 r).1 = ((UInt32.ofNat (numR 65535 r).1.toNat).toNat : Int) := by
  rw [u32_toN hr (by omega)]
  obtain ⟨k, hk⟩ : ∃ k : Nat, (numR 65535 r).1 = k := ⟨(numR 65535 r).1.toNat, by omega⟩
  rw [hk]
  exact wrap32' (by omega)
 repeat' (first | (with_reducible (refine wQ ?_; first | refine uR (h1 ..) ?_)) | (with_reducible first | (refine wN fun _ hnl => ?_; revert hnl; (repeat refine wS fun _ _ => ?_); intro hnl) | refine wE ?_ | (refine wK ?_ ?_ <;> intro h) | (refine wB ?_ ?_ <;> intro h <;> simp only [h])) | simp (maxSteps := 4000000) (disch := first | decide | assumption | omega | (simp only [wL]; omega)) only [go_sem, simprocAttr, Tryz.f183, hw])
theorem fc_fold3 {f : F8} {i : Nat} {v : VA} (h : i < 8) : (fc f).take (i * 3) ++ v.c ++ (fc f).drop (i * 3 + 3) = fc (f.set i v) := by
 rw [Nat.add_comm (i * 3) 3]; exact fc_fold h
theorem use_all {P : Program} {g : FuncId} {ms : List MV} {σ σ1 : St} {r : MV} {k : MV → St → Prop} (h : MCalls P g ms σ fun v τ => v = r ∧ τ = σ1) (hk : R (mlet r σ1 k)) : R (mcallE P g ms σ k) := by
 refine use_frame h (St.le_refl _) ?_
 rintro v σ' ⟨rfl, rfl⟩ -
 have e : σ'.over (σ.minus σ) = σ' := by
  funext j
  simp only [St.over, St.minus]
  cases hj : σ' j with
  | some o => rfl
  | none =>
   cases hs : σ j with
   | some o => rfl
   | none => rfl
 rw [e]
 exact hk
theorem use_set {P : Program} {g : FuncId} {ms : List MV} {τ τ1 : St} {n : Nat} {o : MObj} {r : MV} {k : MV → St → Prop} (hn : τ n = none) (hd : ∀ j, τ j = none ↔ τ1 j = none) (h : MCalls P g ms τ fun v σ' => v = r ∧ σ' = τ1) (hk : R (mlet r (τ1.set n o) k)) : R (mcallE P g ms (τ.set n o) k) := by
 refine use_frame h (St.le_set (St.le_refl _) hn) ?_
 rintro v σ' ⟨rfl, rfl⟩ -
 have e : σ'.over ((τ.set n o).minus τ) = σ'.set n o := by
  funext j
  by_cases hj : j = n
  ·subst hj
   simp [St.over, St.minus, St.set, hn, (hd j).1 hn]
  ·cases h1 : σ' j with
   | some q => simp [St.over, St.set, hj, h1]
   | none => simp [St.over, St.minus, St.set, hj, h1, (hd j).2 h1]
 rw [e]
 exact hk
abbrev flS (bs : BL) (l a b o : Nat) (none : Bool) (x : F8 × RD) : St := (((St.none.set l (rP bs x.2)).set a (.row 101 1 [[.ptr l 0 0]])).set b (.row 4 1 [[.bool none]])).set o (.row 25 24 [fc x.1])
theorem pstep_call {bs : BL} [hb : Few bs] (x : F8 × RD) [hs : Sfx bs x.2] (none : Bool) (i : Nat) (h8 : i < 8) (l a b o : Nat) (h1 : a ≠ l) (h2 : b ≠ l) (h3 : b ≠ a) (h4 : o ≠ l) (h5 : o ≠ a) (h6 : o ≠ b) :
  MCalls Tryz.prog 194 [.int .i64 (i : Int), .ptr a 0 0, .ptr o 0 0, .ptr b 0 0] (flS bs l a b o none x) (fun v σ' => v = .tup [] ∧ σ' = flS bs l a b o none (stepR none x i)) := by
 refine (MCalls.body 20 [] Tryz.func194 rfl rfl rfl rfl ?_)
 have h1' := Ne.symm h1
 have h2' := Ne.symm h2
 have h3' := Ne.symm h3
 have h4' := Ne.symm h4
 have h5' := Ne.symm h5
 have h6' := Ne.symm h6
 have hv := pvalR_call (bs := bs) x.2 l
 haveI hvs : Sfx bs (valR x.2).2 := inferInstance
 obtain ⟨y, hy⟩ : ∃ y, valR x.2 = y := ⟨_, rfl⟩
 rw [hy] at hv hvs
 have hf := pRFail_call 3 (bs := bs) y.2 l
 have e : stepR none x i = (x.1.set i y.1, if none = false ∧ y.1.kd = 0 then failR 3 y.2 else y.2) := by unfold stepR; rw [hy]
 rw [e]
 cases none
 ·by_cases h0 : y.1.kd = 0
  ·rw [if_pos ⟨rfl, h0⟩]
   repeat' (first | (with_reducible (refine wQ ?_; first | refine uR (hv ..) ?_ | refine uR (hf ..) ?_)) | (with_reducible first | (refine wN fun _ hnl => ?_; revert hnl; (repeat refine wS fun _ _ => ?_); intro hnl) | refine wE ?_ | (refine wK ?_ ?_ <;> intro h) | (refine wB ?_ ?_ <;> intro h <;> simp only [h])) | simp (maxSteps := 4000000) (disch := first | decide | assumption | omega | (simp only [wL]; omega)) only [go_sem, simprocAttr, Tryz.f194, FXs, fc_fold3 h8])
  ·rw [if_neg (fun h => h0 h.2)]
   repeat' (first | (with_reducible (refine wQ ?_; first | refine uR (hv ..) ?_ | refine uR (hf ..) ?_)) | (with_reducible first | (refine wN fun _ hnl => ?_; revert hnl; (repeat refine wS fun _ _ => ?_); intro hnl) | refine wE ?_ | (refine wK ?_ ?_ <;> intro h) | (refine wB ?_ ?_ <;> intro h <;> simp only [h])) | simp (maxSteps := 4000000) (disch := first | decide | assumption | omega | (simp only [wL]; omega)) only [go_sem, simprocAttr, Tryz.f194, FXs, fc_fold3 h8])
 ·rw [if_neg (fun h => by cases h.1)]
  repeat' (first | (with_reducible (refine wQ ?_; first | refine uR (hv ..) ?_ | refine uR (hf ..) ?_)) | (with_reducible first | (refine wN fun _ hnl => ?_; revert hnl; (repeat refine wS fun _ _ => ?_); intro hnl) | refine wE ?_ | (refine wK ?_ ?_ <;> intro h) | (refine wB ?_ ?_ <;> intro h <;> simp only [h])) | simp (maxSteps := 4000000) (disch := first | decide | assumption | omega | (simp only [wL]; omega)) only [go_sem, simprocAttr, Tryz.f194, FXs, fc_fold3 h8])
theorem stepR_sfx {bs : BL} {none : Bool} {x : F8 × RD} {i : Nat} (h : Sfx bs x.2) : Sfx bs (stepR none x i).2 := by
 unfold stepR
 simp only
 split <;> infer_instance
theorem pfieldsR_call {bs : BL} [hb : Few bs] (r : RD) [hs : Sfx bs r] (m : UInt32) (none : Bool) (l : Nat) :
  MCalls Tryz.prog 184 [.ptr l 0 0, .int .u32 (m.toNat : Int), .bool none] (St.none.set l (rP bs r)) (fun v σ' => v = .agg (fc (fieldsR m.toNat none 8 (f80, r)).1) ∧ σ' = St.none.set l (rP bs (fieldsR m.toNat none 8 (f80, r)).2)) := by
 refine MCalls.obj (MCalls.body 24 [.cell 6 25] Tryz.func184 rfl rfl rfl rfl ?_)
 have hf := pfields_call m
 have hlt8 := fun i => bitsL_lt (m := m.toNat) (i := i)
 have hbl := bitsL_len m.toNat
 rw [fieldsR_bits]
 obtain ⟨L, hL⟩ : ∃ L, bitsL m.toNat = L := ⟨_, rfl⟩
 rw [hL] at hf hlt8 hbl ⊢
 repeat' (first | (with_reducible first | refine up hf ?_) | (with_reducible first | (refine wT ?_; (first | ((fail_if_success (have := nl1)); refine wN fun nl1 hnl => ?_) | ((fail_if_success (have := nl2)); refine wN fun nl2 hnl => ?_) | ((fail_if_success (have := nl3)); refine wN fun nl3 hnl => ?_) | ((fail_if_success (have := nl4)); refine wN fun nl4 hnl => ?_) | refine wN fun _ hnl => ?_); revert hnl; (repeat refine wS fun _ _ => ?_); intro hnl) | refine wE ?_ | (refine wK ?_ ?_ <;> intro h) | (refine wB ?_ ?_ <;> intro h <;> simp only [h])) | simp (maxSteps := 4000000) (disch := first | decide | assumption | omega | (simp only [wL]; omega)) only [go_sem, simprocAttr, Tryz.f184, FXs])
 have d1 : nl1 ≠ l := by assumption
 have d2 : nl2 ≠ l := by assumption
 have d3 : nl2 ≠ nl1 := by assumption
 have d4 : nl3 ≠ l := by assumption
 have d5 : nl3 ≠ nl1 := by assumption
 have d6 : nl3 ≠ nl2 := by assumption
 have d7 : nl4 ≠ l := by assumption
 have d8 : nl4 ≠ nl1 := by assumption
 have d9 : nl4 ≠ nl2 := by assumption
 have d10 : nl4 ≠ nl3 := by assumption
 have e1 := Ne.symm d1
 have e2 := Ne.symm d2
 have e3 := Ne.symm d3
 have e4 := Ne.symm d4
 have e5 := Ne.symm d5
 have e6 := Ne.symm d6
 have e7 := Ne.symm d7
 have e8 := Ne.symm d8
 have e9 := Ne.symm d9
 have e10 := Ne.symm d10
 refine mloop_intro (α := Nat × F8 × RD) (fun a => ⟨24, [(15, .int .i64 (a.1 : Int)), (14, .int .i64 (L.length : Int)), (13, .lst 1 (intsL L) false), (8, .fn (.func 194) [] [.ptr nl1 0 0, .ptr nl4 0 0, .ptr nl2 0 0]), (7, .ptr nl4 0 0), (6, .ptr nl3 0 0)], []⟩)
  (fun a => (flS bs l nl1 nl2 nl4 none a.2).set nl3 (.row 25 24 [fc f80])) (fun a => a.1 ≤ L.length ∧ Sfx bs a.2.2 ∧ (L.drop a.1).foldl (stepR none) a.2 = L.foldl (stepR none) (f80, r)) (fun a => L.length - a.1) ?_ ?_
 ·refine .of (.less ?_ (σ1 := (flS bs l nl1 nl2 nl4 none (f80, r)).set nl3 (.row 25 24 [fc f80])) (St.set_le (le4 (by simp [St.set, *]) (by simp [St.set, *]) (by simp [St.set, *]) (by simp [St.set, *])) (by simp [St.set, *]))) ⟨(0, f80, r), rfl, rfl, Nat.zero_le _, hs, rfl⟩
  simp (maxSteps := 4000000) (disch := first | decide | assumption | omega | (simp only [wL]; omega)) only [go_sem, simprocAttr, weak_int, weak_same]
  all_goals rfl
 ·rintro ⟨k, x⟩ ⟨hk, hsx, hq⟩
  simp only at hk hsx hq ⊢
  by_cases hkl : k < L.length
  ·have hi8 := hlt8 _ (getD_mem 0 hkl)
   rw [drop_getD 0 hkl, List.foldl_cons] at hq
   obtain ⟨i, hi⟩ : ∃ i, L.getD k 0 = i := ⟨_, rfl⟩
   rw [hi] at hi8 hq
   have hst := pstep_call (bs := bs) x none i hi8 l nl1 nl2 nl4 d1 d2 d3 d7 d8 d9
   have hsy := stepR_sfx (none := none) (i := i) hsx
   obtain ⟨y, hy⟩ : ∃ y, stepR none x i = y := ⟨_, rfl⟩
   rw [hy] at hst hq hsy
   repeat' (first | (with_reducible first | (refine wT ?_; (first | ((fail_if_success (have := nl1)); refine wN fun nl1 hnl => ?_) | ((fail_if_success (have := nl2)); refine wN fun nl2 hnl => ?_) | ((fail_if_success (have := nl3)); refine wN fun nl3 hnl => ?_) | ((fail_if_success (have := nl4)); refine wN fun nl4 hnl => ?_) | refine wN fun _ hnl => ?_); revert hnl; (repeat refine wS fun _ _ => ?_); intro hnl) | refine wE ?_ | (refine wK ?_ ?_ <;> intro h) | (refine wB ?_ ?_ <;> intro h <;> simp only [h])) | simp (maxSteps := 4000000) (disch := first | decide | assumption | omega | (simp only [wL]; omega)) only [go_sem, simprocAttr, getD_mapd (0 : Nat), hi])
   refine use_set (by simp [St.set, St.none, *]) (fun j => by simp only [St.set, St.none]; (repeat' split) <;> simp) hst ?_
   repeat' (first | (with_reducible first | (refine wT ?_; (first | ((fail_if_success (have := nl1)); refine wN fun nl1 hnl => ?_) | ((fail_if_success (have := nl2)); refine wN fun nl2 hnl => ?_) | ((fail_if_success (have := nl3)); refine wN fun nl3 hnl => ?_) | ((fail_if_success (have := nl4)); refine wN fun nl4 hnl => ?_) | refine wN fun _ hnl => ?_); revert hnl; (repeat refine wS fun _ _ => ?_); intro hnl) | refine wE ?_ | (refine wK ?_ ?_ <;> intro h) | (refine wB ?_ ?_ <;> intro h <;> simp only [h])) | simp (maxSteps := 4000000) (disch := first | decide | assumption | omega | (simp only [wL]; omega)) only [go_sem, simprocAttr])
   refine .of (.less ?_ (St.le_refl _)) ⟨(k + 1, y), rfl, rfl, ⟨by simp only; omega, hsy, hq⟩, by simp only; omega⟩
   simp (maxSteps := 4000000) (disch := first | decide | assumption | omega | (simp only [wL]; omega)) only [go_sem, simprocAttr, weak_int, weak_same]
   all_goals rfl
  ·have : k = L.length := by omega
   subst this
   rw [List.drop_length, List.foldl_nil] at hq
   rw [← hq]
   repeat' (first | (with_reducible first | (refine wT ?_; (first | ((fail_if_success (have := nl1)); refine wN fun nl1 hnl => ?_) | ((fail_if_success (have := nl2)); refine wN fun nl2 hnl => ?_) | ((fail_if_success (have := nl3)); refine wN fun nl3 hnl => ?_) | ((fail_if_success (have := nl4)); refine wN fun nl4 hnl => ?_) | refine wN fun _ hnl => ?_); revert hnl; (repeat refine wS fun _ _ => ?_); intro hnl) | refine wE ?_ | (refine wK ?_ ?_ <;> intro h) | (refine wB ?_ ?_ <;> intro h <;> simp only [h])) | simp (maxSteps := 4000000) (disch := first | decide | assumption | omega | (simp only [wL]; omega)) only [go_sem, simprocAttr, FXs])
   all_goals simp [St.set, *]
end Go.Proofs.YtfbodefnblpflaaGreatDoor
end
