/- Parts of the proof, joined. Each part says what it proves, and under which conditions it does: those that its theorems name. -/
import Derived.Test.YtfbodefnblpflaaGreatDoorMcze
import Derived.Test.YtfbodefnblpflaaGreatDoorMczh
import Derived.Test.YtfbodefnblpflaaGreatDoorMczi
import Derived.Test.YtfbodefnblpflaaGreatDoorMczl
import Derived.Test.YtfbodefnblpflaaGreatDoorMczm
import Derived.Test.YtfbodefnblpflaaGreatDoorRows
import Derived.LaidMore
import Derived.MakeChecks
set_option linter.unusedVariables false
set_option linter.unusedSimpArgs false
set_option maxHeartbeats 4000000
section
namespace Go.Proofs.YtfbodefnblpflaaGreatDoor
set_option maxRecDepth 100000
set_option maxHeartbeats 4000000
theorem new_ghost2 {p q l : Nat} (bs : BL) (hne : l ≠ q) (hp : p ≠ q) (hlp : l ≠ p) : Ghost ⟨1, [(0, .ptr l 0 0)], []⟩ (((St.none.set p (.row 5 1 (bs.map bc))).set q (.row 5 1 (bs.map bc))).set l (.row 136 3 [[.vec 1 q 0 bs.length, .int .i64 0, .int .i64 0]])) ⟨1, [(0, .ptr l 0 0)], []⟩ ((St.none.set p (.row 5 1 (bs.map bc))).set l (rP bs ⟨bs, 0⟩)) := by
 have hql := Ne.symm hne
 have hqp := Ne.symm hp
 have hpl := Ne.symm hlp
 have e : (St.none.set p (.row 5 1 (bs.map bc))).set l (rP bs ⟨bs, 0⟩) = (St.none.set p (.row 5 1 (bs.map bc))).set l (.row 136 3 [[.lst 1 (bs.map bc) false, .int .i64 0, .int .i64 0]]) := by
  simp only [rP, Int.sub_self]
 rw [e]
 refine Ghost.freezeIn (St.none.set q (.row 5 1 (bs.map bc))) (St.set_le (St.none_le _) (by simp [St.set, *])) (fun k o1 h => ?_) (fun k o h => ?_) (fun p hp => ?_)
 ·simp only [St.set] at h
  split at h
  ·rename_i hk
   subst hk
   cases h
   refine ⟨.row 136 3 [[.vec 1 q 0 bs.length, .int .i64 0, .int .i64 0]], by simp [St.set], .inr ⟨_, _, _, _, rfl, rfl, rfl, fun i x x1 hx hx1 => ?_⟩⟩
   have hi : i = 0 := by
    have := (List.getElem?_eq_some_iff.1 hx).1
    simpa using this
   subst hi
   simp only [List.getElem?_cons_zero, Option.some.injEq] at hx hx1
   subst hx hx1
   refine ⟨rfl, fun j m m1 hm hm1 => ?_⟩
   match j with
   | 0 =>
    simp only [List.getElem?_cons_zero, Option.some.injEq] at hm hm1
    subst hm hm1
    exact .inr ⟨rfl, view_row (xs := bs.map bc) (ex := []) (by rw [List.append_nil]; exact set_hit _ _ _) (by simp)⟩
   | 1 => simp at hm hm1; subst hm hm1; exact .inl rfl
   | 2 => simp at hm hm1; subst hm hm1; exact .inl rfl
   | j + 3 => simp at hm
  ·rename_i hk
   split at h
   ·rename_i hk2
    subst hk2
    cases h
    exact ⟨_, by simp [St.set, *], .inl rfl⟩
   ·cases h
 ·simp only [St.set] at h
  split at h
  ·rename_i hk
   subst hk
   simp [St.set, St.none, hne]
  ·split at h
   ·rename_i hk2
    subst hk2
    simp [St.set, St.none, hp]
   ·cases h
 ·simp only [List.mem_singleton] at hp
  subst hp
  exact .same _
theorem pnew_call (s : BL) (hl : s.length ≤ 1000000) (p : Nat) : MCalls Tryz.prog 42 [.vec 1 p 0 s.length] (St.none.set p (.row 5 1 (s.map bc))) (fun v σ' => ∃ l, l ≠ p ∧ v = .ptr l 0 0 ∧ σ' = (St.none.set p (.row 5 1 (s.map bc))).set l (rP s ⟨s, 0⟩)) := by
 refine MCalls.ghost ?_
 refine (MCalls.of_body 13 [.tmp 2] Tryz.func42 rfl rfl rfl rfl ?_)
 refine mwp_seq (mwalk ?_)
 repeat' (first | (with_reducible first | (refine wT ?_; (first | ((fail_if_success (have := nl1)); refine wN fun nl1 hnl => ?_) | ((fail_if_success (have := nl2)); refine wN fun nl2 hnl => ?_) | refine wN fun _ hnl => ?_); revert hnl; (repeat refine wS fun _ _ => ?_); intro hnl) | refine wE ?_ | (refine wK ?_ ?_ <;> intro h) | (refine wB ?_ ?_ <;> intro h <;> simp only [h])) | simp (maxSteps := 4000000) (disch := first | decide | assumption | omega | (simp only [wL]; omega)) only [go_sem, simprocAttr])
 refine R_of (mwp_seq (mwalk ?_))
 repeat' (first | (with_reducible first | (refine wT ?_; (first | ((fail_if_success (have := nl1)); refine wN fun nl1 hnl => ?_) | ((fail_if_success (have := nl2)); refine wN fun nl2 hnl => ?_) | refine wN fun _ hnl => ?_); revert hnl; (repeat refine wS fun _ _ => ?_); intro hnl) | refine wE ?_ | (refine wK ?_ ?_ <;> intro h) | (refine wB ?_ ?_ <;> intro h <;> simp only [h])) | simp (maxSteps := 4000000) (disch := first | decide | assumption | omega | (simp only [wL]; omega)) only [go_sem, simprocAttr])
 rw [mmakeSlice_go (el := 5) (by rw [td63])]
 repeat' (first | (with_reducible first | (refine wT ?_; (first | ((fail_if_success (have := nl1)); refine wN fun nl1 hnl => ?_) | ((fail_if_success (have := nl2)); refine wN fun nl2 hnl => ?_) | refine wN fun _ hnl => ?_); revert hnl; (repeat refine wS fun _ _ => ?_); intro hnl) | refine wE ?_ | (refine wK ?_ ?_ <;> intro h) | (refine wB ?_ ?_ <;> intro h <;> simp only [h])) | simp (maxSteps := 4000000) (disch := first | decide | assumption | omega | (simp only [wL]; omega)) only [go_sem, simprocAttr])
 have d0 : nl1 ≠ p := by assumption
 have d0' := Ne.symm d0
 refine R_of (mwp_seq (mwp_region_last [_, _] _ rfl rfl ?_))
 simp only [mops, mguard, mstep, mop, mput, mval, qop, mpure]
 refine ⟨trivial, trivial, ?_⟩
 have hlen : (s.map bc).length = s.length := List.length_map _
 cases s with
 | nil =>
  refine sop_copy0 (el := 5) (l := nl1) (l0 := 0) (n := 0) rfl (by rw [td63]) (by rw [td5]) (by rw [td5]; rfl) (by rw [td5]; simp [msrc, St.set, FR.get, lget, mval, d0, d0']) ?_
  show R _
  repeat' (first | (with_reducible first | (refine wT ?_; (first | ((fail_if_success (have := nl1)); refine wN fun nl1 hnl => ?_) | ((fail_if_success (have := nl2)); refine wN fun nl2 hnl => ?_) | refine wN fun _ hnl => ?_); revert hnl; (repeat refine wS fun _ _ => ?_); intro hnl) | refine wE ?_ | (refine wK ?_ ?_ <;> intro h) | (refine wB ?_ ?_ <;> intro h <;> simp only [h])) | simp (maxSteps := 4000000) (disch := first | decide | assumption | omega | (simp only [wL]; omega)) only [go_sem, simprocAttr])
  refine R_of (mwalk ?_)
  repeat' (first | (with_reducible first | (refine wT ?_; (first | ((fail_if_success (have := nl1)); refine wN fun nl1 hnl => ?_) | ((fail_if_success (have := nl2)); refine wN fun nl2 hnl => ?_) | refine wN fun _ hnl => ?_); revert hnl; (repeat refine wS fun _ _ => ?_); intro hnl) | refine wE ?_ | (refine wK ?_ ?_ <;> intro h) | (refine wB ?_ ?_ <;> intro h <;> simp only [h])) | simp (maxSteps := 4000000) (disch := first | decide | assumption | omega | (simp only [wL]; omega)) only [go_sem, simprocAttr])
  have d1 : nl2 ≠ nl1 := by assumption
  have d2 : nl2 ≠ p := by assumption
  exact ⟨_, _, new_ghost2 [] d1 d0' d2, nl2, d2, rfl, rfl⟩
 | cons c s =>
  refine sop_copy (el := 5) (l := nl1) (l0 := 0) (n := (c :: s).length) (ys := (c :: s).map bc) rfl (by rw [td63]) (by rw [td5]) (by rw [td5]; rfl) (by rw [td5]; exact set_hit _ _ _) (by simp) (by rw [td5]; simp [msrc, St.set, FR.get, lget, mval, d0, d0', List.take_of_length_le]) (by simp) (by simp) ?_
  have hrl : rowLaid (List.replicate (s.length + 1) [MV.int .u8 0]) 0 (bc c :: s.map bc) = bc c :: s.map bc := by simp [rowLaid]
  show R _
  repeat' (first | (with_reducible first | (refine wT ?_; (first | ((fail_if_success (have := nl1)); refine wN fun nl1 hnl => ?_) | ((fail_if_success (have := nl2)); refine wN fun nl2 hnl => ?_) | refine wN fun _ hnl => ?_); revert hnl; (repeat refine wS fun _ _ => ?_); intro hnl) | refine wE ?_ | (refine wK ?_ ?_ <;> intro h) | (refine wB ?_ ?_ <;> intro h <;> simp only [h])) | simp (maxSteps := 4000000) (disch := first | decide | assumption | omega | (simp only [wL]; omega)) only [go_sem, simprocAttr, hrl])
  refine R_of (mwalk ?_)
  repeat' (first | (with_reducible first | (refine wT ?_; (first | ((fail_if_success (have := nl1)); refine wN fun nl1 hnl => ?_) | ((fail_if_success (have := nl2)); refine wN fun nl2 hnl => ?_) | refine wN fun _ hnl => ?_); revert hnl; (repeat refine wS fun _ _ => ?_); intro hnl) | refine wE ?_ | (refine wK ?_ ?_ <;> intro h) | (refine wB ?_ ?_ <;> intro h <;> simp only [h])) | simp (maxSteps := 4000000) (disch := first | decide | assumption | omega | (simp only [wL]; omega)) only [go_sem, simprocAttr])
  have d1 : nl2 ≠ nl1 := by assumption
  have d2 : nl2 ≠ p := by assumption
  exact ⟨_, _, new_ghost2 (c :: s) d1 d0' d2, nl2, d2, rfl, rfl⟩
end Go.Proofs.YtfbodefnblpflaaGreatDoor
end

section
namespace Go.Proofs.YtfbodefnblpflaaGreatDoor
set_option maxRecDepth 100000
set_option maxHeartbeats 4000000
theorem cmdOk_rg {c : CM} (hok : cmdOk c = true) : Rg c ∧ c.fl.length ≤ 1000000 := by
 by_cases k1 : c.kd = 1
 ·rw [cmdOk_1 k1] at hok
  simp only [Bool.and_eq_true, decide_eq_true_eq, cm_iff, cm0] at hok
  obtain ⟨⟨_, _, h1, h2, h3, h4, h5, _, h6, _⟩, _⟩ := hok
  simp only [Rg, In64]
  rw [h6]
  simp only [List.length_nil]
  omega
 by_cases k5 : c.kd = 5
 ·rw [cmdOk_5 k5] at hok
  simp only [Bool.and_eq_true, decide_eq_true_eq, cm_iff, cm0] at hok
  obtain ⟨⟨_, _, h1, h2, h3, h4, h5, _, h6, _⟩, h7⟩ := hok
  simp only [Rg, In64]
  rw [h6]
  simp only [List.length_nil]
  omega
 have hr := cmdOk_rng hok k1 k5
 by_cases k2 : c.kd = 2
 ·rw [cmdOk_2 k2 hr] at hok
  simp only [Bool.and_eq_true, decide_eq_true_eq, cm_iff, cm0] at hok
  obtain ⟨⟨_, _, h1, h2, h3, h4, h5, _, h6, _⟩, h7⟩ := hok
  simp only [Rg, In64]
  rw [h6]
  simp only [List.length_nil]
  omega
 by_cases k3 : c.kd = 3
 ·rw [cmdOk_3 k3 hr] at hok
  simp only [Bool.and_eq_true, decide_eq_true_eq, cm_iff, cm0] at hok
  obtain ⟨⟨_, _, h1, h2, h3, h4, h5, _, h6, _⟩, h7⟩ := hok
  have := (predErr_31 h7.1).1
  simp only [Rg, In64]
  omega
 by_cases k4 : c.kd = 4
 ·rw [cmdOk_4 k4 hr] at hok
  simp only [decide_eq_true_eq, cm_iff, cm0] at hok
  obtain ⟨_, _, h1, h2, h3, h4, h5, _, h6, _⟩ := hok
  simp only [Rg, In64]
  rw [h6]
  simp only [List.length_nil]
  omega
 ·rw [cmdOk_o k1 k5 k2 k3 k4] at hok
  cases hok
instance {bs : BL} {r : RD} [h : Sfx bs r] : Sfx bs (cmdR r).2 := ⟨(cmdR_sk.sfx r).trans h.h⟩
abbrev akP3 : List MV := [fnP 57, fnP 59, fnP 60]
theorem preadC_call {bs : BL} [hb : Few bs] (r : RD) [hs : Sfx bs r] (l : Nat) (c : CM × RD) (hc : cmdR r = c) : MCalls Tryz.prog 44 [.agg akP3, .ptr l 0 0] (St.none.set l (rP bs r)) (fun v σ' => v = .agg c.1.c ∧ σ' = St.none.set l (rP bs (if c.2.e = 0 ∧ (c.1.kd = 1 ∨ c.1.kd = 5) then failR 3 c.2 else c.2))) := by
 refine MCalls.obj (MCalls.body 23 [.cell 4 32] Tryz.func44 rfl rfl rfl rfl ?_)
 have h1 := pcmdR_call (bs := bs) r l
 rw [hc] at h1
 haveI hs1 : Sfx bs c.2 := by rw [← hc]; infer_instance
 have h2 := pRErr_call (bs := bs) c.2 l
 by_cases he : c.2.e = 0
 ·have hok : cmdOk c.1 = true := by
   have := (cmdR_rt.bck r (by rw [hc]; exact he)).2.1
   rwa [hc] at this
  obtain ⟨hg, hl⟩ := cmdOk_rg hok
  have h3 := pask1_call c.1 hg hl
  rw [hok, Bool.true_and] at h3
  have h4 := pRFail_call 3 (bs := bs) c.2 l
  by_cases hk : c.1.kd = 1 ∨ c.1.kd = 5
  ·rw [decide_eq_false (by omega)] at h3
   rw [if_pos ⟨he, hk⟩]
   clear hc hok hg
   repeat' (first | (with_reducible (refine wQ ?_; first | refine uR (h1 ..) ?_ | refine uR (h2 ..) ?_ | refine uR (h4 ..) ?_)) | (with_reducible first | refine up h3 ?_) | (with_reducible first | (refine wN fun _ hnl => ?_; revert hnl; (repeat refine wS fun _ _ => ?_); intro hnl) | refine wE ?_ | (refine wK ?_ ?_ <;> intro h) | (refine wB ?_ ?_ <;> intro h <;> simp only [h])) | simp (maxSteps := 4000000) (disch := first | decide | assumption | omega | (simp only [wL]; omega)) only [go_sem, simprocAttr, Tryz.f44, FYs, he])
  ·rw [decide_eq_true (by omega)] at h3
   rw [if_neg (fun h => hk h.2)]
   clear hc hok hg
   repeat' (first | (with_reducible (refine wQ ?_; first | refine uR (h1 ..) ?_ | refine uR (h2 ..) ?_)) | (with_reducible first | refine up h3 ?_) | (with_reducible first | (refine wN fun _ hnl => ?_; revert hnl; (repeat refine wS fun _ _ => ?_); intro hnl) | refine wE ?_ | (refine wK ?_ ?_ <;> intro h) | (refine wB ?_ ?_ <;> intro h <;> simp only [h])) | simp (maxSteps := 4000000) (disch := first | decide | assumption | omega | (simp only [wL]; omega)) only [go_sem, simprocAttr, Tryz.f44, FYs, he])
 ·rw [if_neg (fun h => he h.1)]
  clear hc
  repeat' (first | (with_reducible (refine wQ ?_; first | refine uR (h1 ..) ?_ | refine uR (h2 ..) ?_)) | (with_reducible first | (refine wN fun _ hnl => ?_; revert hnl; (repeat refine wS fun _ _ => ?_); intro hnl) | refine wE ?_ | (refine wK ?_ ?_ <;> intro h) | (refine wB ?_ ?_ <;> intro h <;> simp only [h])) | simp (maxSteps := 4000000) (disch := first | decide | assumption | omega | (simp only [wL]; omega)) only [go_sem, simprocAttr, Tryz.f44, FYs])
abbrev tkP3 : List MV := [fnP 61, fnP 62, fnP 63]
theorem preadT_call {bs : BL} [hb : Few bs] (r : RD) [hs : Sfx bs r] (l : Nat) : MCalls Tryz.prog 45 [.agg tkP3, .ptr l 0 0] (St.none.set l (rP bs r)) (fun v σ' => v = .agg (tokR r).1.c ∧ σ' = St.none.set l (rP bs (tokR r).2)) := by
 refine MCalls.obj (MCalls.body 23 [.cell 4 34] Tryz.func45 rfl rfl rfl rfl ?_)
 have h1 := ptokR_call (bs := bs) r l
 haveI hs1 : Sfx bs (tokR r).2 := inferInstance
 obtain ⟨c, hc⟩ : ∃ c, tokR r = c := ⟨_, rfl⟩
 rw [hc] at h1 hs1 ⊢
 have h2 := pRErr_call (bs := bs) c.2 l
 by_cases he : c.2.e = 0
 ·have hok : tokOk c.1 = true := by
   have := (tokR_rt.bck r (by rw [hc]; exact he)).2.1
   rwa [hc] at this
  have h3 := ptcheck_call c.1
  rw [hok] at h3
  clear hc hok
  repeat' (first | (with_reducible (refine wQ ?_; first | refine uR (h1 ..) ?_ | refine uR (h2 ..) ?_)) | (with_reducible first | refine up h3 ?_) | (with_reducible first | (refine wN fun _ hnl => ?_; revert hnl; (repeat refine wS fun _ _ => ?_); intro hnl) | refine wE ?_ | (refine wK ?_ ?_ <;> intro h) | (refine wB ?_ ?_ <;> intro h <;> simp only [h])) | simp (maxSteps := 4000000) (disch := first | decide | assumption | omega | (simp only [wL]; omega)) only [go_sem, simprocAttr, Tryz.f45, he])
 ·clear hc
  repeat' (first | (with_reducible (refine wQ ?_; first | refine uR (h1 ..) ?_ | refine uR (h2 ..) ?_)) | (with_reducible first | (refine wN fun _ hnl => ?_; revert hnl; (repeat refine wS fun _ _ => ?_); intro hnl) | refine wE ?_ | (refine wK ?_ ?_ <;> intro h) | (refine wB ?_ ?_ <;> intro h <;> simp only [h])) | simp (maxSteps := 4000000) (disch := first | decide | assumption | omega | (simp only [wL]; omega)) only [go_sem, simprocAttr, Tryz.f45])
abbrev rpP3 : List MV := [fnP 64, fnP 65, fnP 66]
theorem repOk_len {a : RE} (h : repOk a = true) : a.fl.length ≤ 1000000 := by
 have h := (decide_eq_true_iff (p := _)).1 h
 have h := h.2.2.2.2.2.2.2.2.2.2.2.2
 split at h
 ·have := (predErr_31 h.2.2.1).1
  omega
 ·rw [h.2.1]
  simp
theorem preadR_call {bs : BL} [hb : Few bs] (r : RD) [hs : Sfx bs r] (l : Nat) : MCalls Tryz.prog 46 [.agg rpP3, .ptr l 0 0] (St.none.set l (rP bs r)) (fun v σ' => v = .agg (repR r).1.c ∧ σ' = St.none.set l (rP bs (repR r).2)) := by
 refine MCalls.obj (MCalls.body 23 [.cell 4 37] Tryz.func46 rfl rfl rfl rfl ?_)
 have h1 := prepR_call (bs := bs) r l
 haveI hs1 : Sfx bs (repR r).2 := inferInstance
 obtain ⟨c, hc⟩ : ∃ c, repR r = c := ⟨_, rfl⟩
 rw [hc] at h1 hs1 ⊢
 have h2 := pRErr_call (bs := bs) c.2 l
 by_cases he : c.2.e = 0
 ·have hok : repOk c.1 = true := by
   have := (repR_rt.bck r (by rw [hc]; exact he)).2.1
   rwa [hc] at this
  have h3 := prcheck_call c.1 (repOk_len hok)
  rw [hok] at h3
  clear hc hok
  repeat' (first | (with_reducible (refine wQ ?_; first | refine uR (h1 ..) ?_ | refine uR (h2 ..) ?_)) | (with_reducible first | refine up h3 ?_) | (with_reducible first | (refine wN fun _ hnl => ?_; revert hnl; (repeat refine wS fun _ _ => ?_); intro hnl) | refine wE ?_ | (refine wK ?_ ?_ <;> intro h) | (refine wB ?_ ?_ <;> intro h <;> simp only [h])) | simp (maxSteps := 4000000) (disch := first | decide | assumption | omega | (simp only [wL]; omega)) only [go_sem, simprocAttr, Tryz.f46, he])
 ·clear hc
  repeat' (first | (with_reducible (refine wQ ?_; first | refine uR (h1 ..) ?_ | refine uR (h2 ..) ?_)) | (with_reducible first | (refine wN fun _ hnl => ?_; revert hnl; (repeat refine wS fun _ _ => ?_); intro hnl) | refine wE ?_ | (refine wK ?_ ?_ <;> intro h) | (refine wB ?_ ?_ <;> intro h <;> simp only [h])) | simp (maxSteps := 4000000) (disch := first | decide | assumption | omega | (simp only [wL]; omega)) only [go_sem, simprocAttr, Tryz.f46])
abbrev pgP3 : List MV := [fnP 67, fnP 68, fnP 69]
theorem pageOk_len {p : PG} (h : pageOk p = true) : p.items.length ≤ 1000000 := by
 by_cases hc : p.code = 0
 ·cases hr : p.reset
  ·have := (pageOk_items h hc hr).2.2
   omega
  ·unfold pageOk at h
   rw [if_neg (by omega), if_pos hr] at h
   simp only [Bool.and_eq_true, decide_eq_true_eq] at h
   rw [h.2.1.1]
   simp
 ·unfold pageOk at h
  rw [if_pos hc] at h
  simp only [Bool.and_eq_true, decide_eq_true_eq] at h
  rw [h.2.2.2.2.2]
  simp
theorem preadP_call {bs : BL} [hb : Few bs] (r : RD) [hs : Sfx bs r] (l : Nat) : MCalls Tryz.prog 47 [.agg pgP3, .ptr l 0 0] (St.none.set l (rP bs r)) (fun v σ' => v = .agg (pageR r).1.c ∧ σ' = St.none.set l (rP bs (pageR r).2)) := by
 refine MCalls.obj (MCalls.body 23 [.cell 4 40] Tryz.func47 rfl rfl rfl rfl ?_)
 have h1 := ppageR_call (bs := bs) r l
 haveI hs1 : Sfx bs (pageR r).2 := inferInstance
 obtain ⟨c, hc⟩ : ∃ c, pageR r = c := ⟨_, rfl⟩
 rw [hc] at h1 hs1 ⊢
 have h2 := pRErr_call (bs := bs) c.2 l
 by_cases he : c.2.e = 0
 ·have hok : pageOk c.1 = true := by
   have := (pageR_rt.bck r (by rw [hc]; exact he)).2.1
   rwa [hc] at this
  have h3 := ppgcheck_call c.1 (pageOk_len hok)
  rw [hok] at h3
  clear hc hok
  repeat' (first | (with_reducible (refine wQ ?_; first | refine uR (h1 ..) ?_ | refine uR (h2 ..) ?_)) | (with_reducible first | refine up h3 ?_) | (with_reducible first | (refine wN fun _ hnl => ?_; revert hnl; (repeat refine wS fun _ _ => ?_); intro hnl) | refine wE ?_ | (refine wK ?_ ?_ <;> intro h) | (refine wB ?_ ?_ <;> intro h <;> simp only [h])) | simp (maxSteps := 4000000) (disch := first | decide | assumption | omega | (simp only [wL]; omega)) only [go_sem, simprocAttr, Tryz.f47, he])
 ·clear hc
  repeat' (first | (with_reducible (refine wQ ?_; first | refine uR (h1 ..) ?_ | refine uR (h2 ..) ?_)) | (with_reducible first | (refine wN fun _ hnl => ?_; revert hnl; (repeat refine wS fun _ _ => ?_); intro hnl) | refine wE ?_ | (refine wK ?_ ?_ <;> intro h) | (refine wB ?_ ?_ <;> intro h <;> simp only [h])) | simp (maxSteps := 4000000) (disch := first | decide | assumption | omega | (simp only [wL]; omega)) only [go_sem, simprocAttr, Tryz.f47])
theorem pnumber2_call (most : Int) {bs : BL} [hb : Few bs] (r : RD) [hs : Sfx bs r] (l b : Nat) (hne : b ≠ l) : MCalls Tryz.prog 76 [.ptr l 0 0, .ptr b 0 0] ((St.none.set b (nbO most)).set l (rP bs r)) (fun v σ' => v = .int .i64 (numR most r).1 ∧ σ' = (St.none.set b (nbO most)).set l (rP bs (numR most r).2)) := by
 refine (MCalls.body 7 [.tmp 3] Tryz.func76 rfl rfl rfl rfl ?_)
 have hn := Ne.symm hne
 have h1 := pRNum_call most (bs := bs) r l
 repeat' (first | (with_reducible (refine wQ ?_; first | refine uR (h1 ..) ?_)) | (with_reducible first | (refine wN fun _ hnl => ?_; revert hnl; (repeat refine wS fun _ _ => ?_); intro hnl) | refine wE ?_ | (refine wK ?_ ?_ <;> intro h) | (refine wB ?_ ?_ <;> intro h <;> simp only [h])) | simp (maxSteps := 4000000) (disch := first | decide | assumption | omega | (simp only [wL]; omega)) only [go_sem, simprocAttr, Tryz.f76])
theorem preadN_call (most : Int) (h0 : 0 ≤ most) {bs : BL} [hb : Few bs] (r : RD) [hs : Sfx bs r] (l b : Nat) (hne : b ≠ l) : MCalls Tryz.prog 43 [.agg (nbP b), .ptr l 0 0] ((St.none.set b (nbO most)).set l (rP bs r)) (fun v σ' => v = .int .i64 (fromR 1 most r).1 ∧ σ' = St.none.set l (rP bs (fromR 1 most r).2)) := by
 refine MCalls.obj (MCalls.body 23 [.tmp 4] Tryz.func43 rfl rfl rfl rfl ?_)
 have hn := Ne.symm hne
 have h1 := pnumber2_call most (bs := bs) r l b hne
 have hm := numR_most h0 r
 have hz := numR_zero (most := most) (r := r)
 haveI hs1 : Sfx bs (numR most r).2 := inferInstance
 obtain ⟨n, hnn⟩ : ∃ n, numR most r = n := ⟨_, rfl⟩
 rw [hnn] at h1 hs1 hm hz
 have e : fromR 1 most r = (n.1, if n.1 < 1 then failR 3 n.2 else n.2) := by unfold fromR; rw [hnn]
 rw [e]
 have h2 := pRErr_call (bs := bs) n.2 l
 have h3 := pnumber1_call most n.1 b
 have h4 := pRFail_call 3 (bs := bs) n.2 l
 clear e hnn
 by_cases he : n.2.e = 0
 ·by_cases h1n : n.1 < 1
  ·rw [decide_eq_false (by omega)] at h3
   rw [if_pos h1n]
   repeat' (first | (((with_reducible refine use_set ?hn ?hd h1 ?_); (case hn => simp [St.set, St.none, *]); (case hd => intro j; simp only [St.set, St.none]; (repeat' split) <;> simp))) | (((with_reducible refine use_obj ?ho h3 ?_); (case ho => simp [St.set, *]))) | (with_reducible (refine wQ ?_; first | refine uR (h2 ..) ?_ | refine uR (h4 ..) ?_)) | (with_reducible first | (refine wN fun _ hnl => ?_; revert hnl; (repeat refine wS fun _ _ => ?_); intro hnl) | refine wE ?_ | (refine wK ?_ ?_ <;> intro h) | (refine wB ?_ ?_ <;> intro h <;> simp only [h])) | simp (maxSteps := 4000000) (disch := first | decide | assumption | omega | (simp only [wL]; omega)) only [go_sem, simprocAttr, Tryz.f43, he])
  ·rw [decide_eq_true (by omega)] at h3
   rw [if_neg h1n]
   repeat' (first | (((with_reducible refine use_set ?hn ?hd h1 ?_); (case hn => simp [St.set, St.none, *]); (case hd => intro j; simp only [St.set, St.none]; (repeat' split) <;> simp))) | (((with_reducible refine use_obj ?ho h3 ?_); (case ho => simp [St.set, *]))) | (with_reducible (refine wQ ?_; first | refine uR (h2 ..) ?_ | refine uR (h4 ..) ?_)) | (with_reducible first | (refine wN fun _ hnl => ?_; revert hnl; (repeat refine wS fun _ _ => ?_); intro hnl) | refine wE ?_ | (refine wK ?_ ?_ <;> intro h) | (refine wB ?_ ?_ <;> intro h <;> simp only [h])) | simp (maxSteps := 4000000) (disch := first | decide | assumption | omega | (simp only [wL]; omega)) only [go_sem, simprocAttr, Tryz.f43, he])
 ·have : n.1 = 0 := hz he
  rw [if_pos (by omega), failR_stk he]
  repeat' (first | (((with_reducible refine use_set ?hn ?hd h1 ?_); (case hn => simp [St.set, St.none, *]); (case hd => intro j; simp only [St.set, St.none]; (repeat' split) <;> simp))) | (with_reducible (refine wQ ?_; first | refine uR (h2 ..) ?_ | refine uR (h4 ..) ?_)) | (with_reducible first | (refine wN fun _ hnl => ?_; revert hnl; (repeat refine wS fun _ _ => ?_); intro hnl) | refine wE ?_ | (refine wK ?_ ?_ <;> intro h) | (refine wB ?_ ?_ <;> intro h <;> simp only [h])) | simp (maxSteps := 4000000) (disch := first | decide | assumption | omega | (simp only [wL]; omega)) only [go_sem, simprocAttr, Tryz.f43])
end Go.Proofs.YtfbodefnblpflaaGreatDoor
end

section
namespace Go.Proofs.YtfbodefnblpflaaGreatDoor
set_option maxRecDepth 100000
set_option maxHeartbeats 4000000
theorem use_lb {P : Program} {g : FuncId} {ms : List MV} {τ : St} {l b : Nat} {o o' ob : MObj} {r : MV} {k : MV → St → Prop} (hbl : b ≠ l) (hb : τ b = none) (h : MCalls P g ms ((St.none.set b ob).set l o) fun v σ' => v = r ∧ σ' = St.none.set l o')
  (hk : R (mlet r (τ.set l o') k)) : R (mcallE P g ms ((τ.set l o).set b ob) k) := by
 refine use_frame h (St.set_le (St.set_le (St.none_le _) (set_hit _ _ _)) ?_) ?_
 ·simp [St.set, Ne.symm hbl]
 ·rintro v σ' ⟨rfl, rfl⟩ -
  have e : (St.none.set l o').over (((τ.set l o).set b ob).minus ((St.none.set b ob).set l o)) = τ.set l o' := by
   funext j
   by_cases j1 : j = l
   ·subst j1; simp [St.over, St.set]
   ·by_cases j2 : j = b
    ·subst j2; simp [St.over, St.minus, St.set, St.none, j1, hb]
    ·simp [St.over, St.minus, St.set, St.none, j1, j2]
  rw [e]
  exact hk
theorem use_lmb {P : Program} {g : FuncId} {ms : List MV} {τ : St} {l b m : Nat} {o o' ob om : MObj} {r : MV} {k : MV → St → Prop} (hbl : b ≠ l) (hbm : b ≠ m) (hml : m ≠ l) (hb : τ b = none) (h : MCalls P g ms ((St.none.set b ob).set l o) fun v σ' => v = r ∧ σ' = St.none.set l o')
  (hk : R (mlet r ((τ.set l o').set m om) k)) : R (mcallE P g ms (((τ.set l o).set m om).set b ob) k) := by
 refine use_frame h (St.set_le (St.set_le (St.none_le _) (set_hit _ _ _)) ?_) ?_
 ·simp [St.set, Ne.symm hbl, Ne.symm hml]
 ·rintro v σ' ⟨rfl, rfl⟩ -
  have e : (St.none.set l o').over ((((τ.set l o).set m om).set b ob).minus ((St.none.set b ob).set l o)) = (τ.set l o').set m om := by
   funext j
   by_cases j1 : j = l
   ·subst j1; simp [St.over, St.set, Ne.symm hml]
   ·by_cases j2 : j = b
    ·subst j2; simp [St.over, St.minus, St.set, St.none, j1, hb, hbm]
    ·simp [St.over, St.minus, St.set, St.none, j1, j2]
  rw [e]
  exact hk
theorem use_newR {τ : St} {p : Nat} {s : BL} {k : MV → St → Prop} (hl : s.length ≤ 1000000) (hp : τ p = none) (hk : ∀ l, l ≠ p → τ l = none → R (mlet (.ptr l 0 0) ((τ.set p (.row 5 1 (s.map bc))).set l (rP s ⟨s, 0⟩)) k)) : R (mcallE Tryz.prog 42 [.vec 1 p 0 s.length] (τ.set p (.row 5 1 (s.map bc))) k) := by
 refine use_frame (pnew_call s hl p) (St.set_le (St.none_le _) (set_hit _ _ _)) ?_
 rintro v σ' ⟨l, hlp, rfl, rfl⟩ hd
 have h1 : τ l = none := by
  rcases hd l _ (set_hit _ _ _) with h | ⟨o', h⟩
  ·simpa [St.set, hlp] using h
  ·simp [St.set, St.none, hlp] at h
 have e : ((St.none.set p (.row 5 1 (s.map bc))).set l (rP s ⟨s, 0⟩)).over ((τ.set p (.row 5 1 (s.map bc))).minus (St.none.set p (.row 5 1 (s.map bc)))) = (τ.set p (.row 5 1 (s.map bc))).set l (rP s ⟨s, 0⟩) := by
  funext j
  by_cases j1 : j = l
  ·subst j1; simp [St.over, St.set]
  ·by_cases j2 : j = p
   ·subst j2; simp [St.over, St.set, j1]
   ·simp [St.over, St.minus, St.set, St.none, j1, j2]
 rw [e]
 exact hk l hlp h1
theorem pxdec_0 (s : BL) (hl : s.length ≤ 100000) (hlen : 4096 < s.length) : MCalls Tryz.prog 15 [.str (bsS s)] St.none (fun r _ => r = .tup [.agg (msgD s).1.c, .int .i64 (msgD s).2]) := by
 refine MCalls.seen (MCalls.body 61 [.cell 2 47, .tmp 3] Tryz.func15 rfl rfl rfl rfl ?_)
 have e : msgD s = (ms0, 4) := by unfold msgD; rw [if_pos hlen]
 rw [e]
 repeat' (first | (with_reducible first | (refine wN fun _ hnl => ?_; revert hnl; (repeat refine wS fun _ _ => ?_); intro hnl) | refine wE ?_ | (refine wK ?_ ?_ <;> intro h) | (refine wB ?_ ?_ <;> intro h <;> simp only [h])) | simp (maxSteps := 4000000) (disch := first | decide | assumption | omega | (simp only [wL]; omega)) only [go_sem, simprocAttr, Tryz.f15, FYs, bsS_size])
 all_goals exact View.two (vms (m := ms0) (.nil _ _) (.nil _ _) (.nil _ _)) (.same _)
theorem pxdec_5 (s : BL) (hl : s.length ≤ 100000) (hlen : ¬ 4096 < s.length) (k : Int × RD) (hk : fromR 1 5 (⟨s, 0⟩ : RD) = k) (k1 : k.1 = 5) : MCalls Tryz.prog 15 [.str (bsS s)] St.none (fun r _ => r = .tup [.agg (msgD s).1.c, .int .i64 (msgD s).2]) := by
 refine MCalls.seen (MCalls.body 61 [.cell 2 47, .tmp 3] Tryz.func15 rfl rfl rfl rfl ?_)
 haveI hfew : Few s := ⟨by omega⟩
 haveI hsf : Sfx s (⟨s, 0⟩ : RD) := ⟨List.suffix_refl _⟩
 have hn5 := pnumber_call 5
 have h1 := fun l b hne => preadN_call 5 (by decide) (bs := s) (⟨s, 0⟩ : RD) l b hne
 haveI hs1 : Sfx s (fromR 1 5 (⟨s, 0⟩ : RD)).2 := inferInstance
 rw [hk] at hs1
 simp only [hk] at h1
 have hn16 := pnumber_call 16
 have h2 := fun l b hne => preadN_call 16 (by decide) (bs := s) k.2 l b hne
 haveI hs2 : Sfx s (fromR 1 16 k.2).2 := inferInstance
 obtain ⟨c, hc⟩ : ∃ c, fromR 1 16 k.2 = c := ⟨_, rfl⟩
 rw [hc] at hs2
 simp only [hc] at h2
 have e0 : msgR ⟨s, 0⟩ = ({ ms0 with kd := 5, code := c.1 }, c.2) := by simp [msgR, hk, k1, hc]
 have e : msgD s = if endR (c.2) = 0 then ({ ms0 with kd := 5, code := c.1 }, 0) else (ms0, endR (c.2)) := by unfold msgD; rw [if_neg hlen, e0]
 have hend := fun l => pREnd_call (bs := s) (c.2) l
 obtain ⟨ev, hev⟩ : ∃ x, endR (c.2) = x := ⟨_, rfl⟩
 rw [hev] at e
 simp only [hev] at hend
 have hrec := fun (σ : St) (f g i : MV) => vms (σ := σ) (m := { ms0 with kd := 5, code := c.1 }) (f := f) (g := g) (i := i)
 simp only [MS.c, MS.k, ms0, cm0, ed0, pa0, tk0, re0, pg0, u32z] at hrec
 have hbt : (bsS s).toList.map (fun b => [MV.int .u8 (b.toNat : Int)]) = s.map bc := bs_toList _
 clear hev e0 hk
 by_cases hz : ev = 0
 ·rw [if_pos hz] at e
  rw [e]
  clear e
  repeat' (first | (((with_reducible refine use_newR (by omega) ?hp fun l hlp hl0 => ?_); (case hp => simp [St.set, St.none, *]); have hpl := Ne.symm hlp; revert hl0; (repeat refine wS fun _ _ => ?_); intro hl0)) | (((with_reducible refine use_new hn5 fun b hb => ?_); revert hb; (repeat refine wS fun _ _ => ?_); intro hb)) | (((with_reducible refine use_lb (by assumption) ?hq (h1 _ _ (by assumption)) ?_); (case hq => simp [St.set, St.none, *]))) | (((with_reducible refine use_new hn16 fun b hb => ?_); revert hb; (repeat refine wS fun _ _ => ?_); intro hb)) | (((with_reducible refine use_lmb (by assumption) (by assumption) (by assumption) ?hq (h2 _ _ (by assumption)) ?_); (case hq => simp [St.set, St.none, *]))) | (with_reducible (refine wQ ?_; first | refine uR (hend ..) ?_)) | (with_reducible first | (refine wN fun _ hnl => ?_; revert hnl; (repeat refine wS fun _ _ => ?_); intro hnl) | refine wE ?_ | (refine wK ?_ ?_ <;> intro h) | (refine wB ?_ ?_ <;> intro h <;> simp only [h])) | simp (maxSteps := 4000000) (disch := first | decide | assumption | omega | (simp only [wL]; omega)) only [go_sem, simprocAttr, Tryz.f15, FYs, bsS_size, k1, hbt])
  all_goals (try (exfalso; omega))
  all_goals exact View.two (hrec _ _ _ _ (.nil _ _) (.nil _ _) (.nil _ _)) (.same _)
 ·rw [if_neg hz] at e
  rw [e]
  clear e
  repeat' (first | (((with_reducible refine use_newR (by omega) ?hp fun l hlp hl0 => ?_); (case hp => simp [St.set, St.none, *]); have hpl := Ne.symm hlp; revert hl0; (repeat refine wS fun _ _ => ?_); intro hl0)) | (((with_reducible refine use_new hn5 fun b hb => ?_); revert hb; (repeat refine wS fun _ _ => ?_); intro hb)) | (((with_reducible refine use_lb (by assumption) ?hq (h1 _ _ (by assumption)) ?_); (case hq => simp [St.set, St.none, *]))) | (((with_reducible refine use_new hn16 fun b hb => ?_); revert hb; (repeat refine wS fun _ _ => ?_); intro hb)) | (((with_reducible refine use_lmb (by assumption) (by assumption) (by assumption) ?hq (h2 _ _ (by assumption)) ?_); (case hq => simp [St.set, St.none, *]))) | (with_reducible (refine wQ ?_; first | refine uR (hend ..) ?_)) | (with_reducible first | (refine wN fun _ hnl => ?_; revert hnl; (repeat refine wS fun _ _ => ?_); intro hnl) | refine wE ?_ | (refine wK ?_ ?_ <;> intro h) | (refine wB ?_ ?_ <;> intro h <;> simp only [h])) | simp (maxSteps := 4000000) (disch := first | decide | assumption | omega | (simp only [wL]; omega)) only [go_sem, simprocAttr, Tryz.f15, FYs, bsS_size, k1, hbt])
  all_goals (try (exfalso; omega))
  all_goals exact View.two (vms (m := ms0) (.nil _ _) (.nil _ _) (.nil _ _)) (.same _)
theorem pxdec_4 (s : BL) (hl : s.length ≤ 100000) (hlen : ¬ 4096 < s.length) (k : Int × RD) (hk : fromR 1 5 (⟨s, 0⟩ : RD) = k) (k1 : k.1 = 4) : MCalls Tryz.prog 15 [.str (bsS s)] St.none (fun r _ => r = .tup [.agg (msgD s).1.c, .int .i64 (msgD s).2]) := by
 refine MCalls.seen (MCalls.body 61 [.cell 2 47, .tmp 3] Tryz.func15 rfl rfl rfl rfl ?_)
 haveI hfew : Few s := ⟨by omega⟩
 haveI hsf : Sfx s (⟨s, 0⟩ : RD) := ⟨List.suffix_refl _⟩
 have hn5 := pnumber_call 5
 have h1 := fun l b hne => preadN_call 5 (by decide) (bs := s) (⟨s, 0⟩ : RD) l b hne
 haveI hs1 : Sfx s (fromR 1 5 (⟨s, 0⟩ : RD)).2 := inferInstance
 rw [hk] at hs1
 simp only [hk] at h1
 have hp := ppages_call
 have h2 := fun l => preadP_call (bs := s) k.2 l
 haveI hs2 : Sfx s (pageR k.2).2 := inferInstance
 obtain ⟨c, hc⟩ : ∃ c, pageR k.2 = c := ⟨_, rfl⟩
 rw [hc] at hs2
 simp only [hc] at h2
 have e0 : msgR ⟨s, 0⟩ = ({ ms0 with kd := 4, page := c.1 }, c.2) := by simp [msgR, hk, k1, hc]
 have e : msgD s = if endR (c.2) = 0 then ({ ms0 with kd := 4, page := c.1 }, 0) else (ms0, endR (c.2)) := by unfold msgD; rw [if_neg hlen, e0]
 have hend := fun l => pREnd_call (bs := s) (c.2) l
 obtain ⟨ev, hev⟩ : ∃ x, endR (c.2) = x := ⟨_, rfl⟩
 rw [hev] at e
 simp only [hev] at hend
 have hrec := fun (σ : St) (f g i : MV) => vms (σ := σ) (m := { ms0 with kd := 4, page := c.1 }) (f := f) (g := g) (i := i)
 simp only [MS.c, MS.k, ms0, cm0, ed0, pa0, tk0, re0, pg0, u32z] at hrec
 have hbt : (bsS s).toList.map (fun b => [MV.int .u8 (b.toNat : Int)]) = s.map bc := bs_toList _
 clear hev e0 hk
 by_cases hz : ev = 0
 ·rw [if_pos hz] at e
  rw [e]
  clear e
  repeat' (first | (((with_reducible refine use_newR (by omega) ?hp fun l hlp hl0 => ?_); (case hp => simp [St.set, St.none, *]); have hpl := Ne.symm hlp; revert hl0; (repeat refine wS fun _ _ => ?_); intro hl0)) | (((with_reducible refine use_new hn5 fun b hb => ?_); revert hb; (repeat refine wS fun _ _ => ?_); intro hb)) | (((with_reducible refine use_lb (by assumption) ?hq (h1 _ _ (by assumption)) ?_); (case hq => simp [St.set, St.none, *]))) | (with_reducible refine up hp ?_) | (with_reducible (refine wQ ?_; first | refine uR (h2 ..) ?_ | refine uR (hend ..) ?_)) | (with_reducible first | (refine wN fun _ hnl => ?_; revert hnl; (repeat refine wS fun _ _ => ?_); intro hnl) | refine wE ?_ | (refine wK ?_ ?_ <;> intro h) | (refine wB ?_ ?_ <;> intro h <;> simp only [h])) | simp (maxSteps := 4000000) (disch := first | decide | assumption | omega | (simp only [wL]; omega)) only [go_sem, simprocAttr, Tryz.f15, FYs, bsS_size, k1, hbt])
  all_goals (try (exfalso; omega))
  all_goals exact View.two (hrec _ _ _ _ (.nil _ _) (.nil _ _) (.same _)) (.same _)
 ·rw [if_neg hz] at e
  rw [e]
  clear e
  repeat' (first | (((with_reducible refine use_newR (by omega) ?hp fun l hlp hl0 => ?_); (case hp => simp [St.set, St.none, *]); have hpl := Ne.symm hlp; revert hl0; (repeat refine wS fun _ _ => ?_); intro hl0)) | (((with_reducible refine use_new hn5 fun b hb => ?_); revert hb; (repeat refine wS fun _ _ => ?_); intro hb)) | (((with_reducible refine use_lb (by assumption) ?hq (h1 _ _ (by assumption)) ?_); (case hq => simp [St.set, St.none, *]))) | (with_reducible refine up hp ?_) | (with_reducible (refine wQ ?_; first | refine uR (h2 ..) ?_ | refine uR (hend ..) ?_)) | (with_reducible first | (refine wN fun _ hnl => ?_; revert hnl; (repeat refine wS fun _ _ => ?_); intro hnl) | refine wE ?_ | (refine wK ?_ ?_ <;> intro h) | (refine wB ?_ ?_ <;> intro h <;> simp only [h])) | simp (maxSteps := 4000000) (disch := first | decide | assumption | omega | (simp only [wL]; omega)) only [go_sem, simprocAttr, Tryz.f15, FYs, bsS_size, k1, hbt])
  all_goals (try (exfalso; omega))
  all_goals exact View.two (vms (m := ms0) (.nil _ _) (.nil _ _) (.nil _ _)) (.same _)
theorem pxdec_3 (s : BL) (hl : s.length ≤ 100000) (hlen : ¬ 4096 < s.length) (k : Int × RD) (hk : fromR 1 5 (⟨s, 0⟩ : RD) = k) (k1 : k.1 = 3) : MCalls Tryz.prog 15 [.str (bsS s)] St.none (fun r _ => r = .tup [.agg (msgD s).1.c, .int .i64 (msgD s).2]) := by
 refine MCalls.seen (MCalls.body 61 [.cell 2 47, .tmp 3] Tryz.func15 rfl rfl rfl rfl ?_)
 haveI hfew : Few s := ⟨by omega⟩
 haveI hsf : Sfx s (⟨s, 0⟩ : RD) := ⟨List.suffix_refl _⟩
 have hn5 := pnumber_call 5
 have h1 := fun l b hne => preadN_call 5 (by decide) (bs := s) (⟨s, 0⟩ : RD) l b hne
 haveI hs1 : Sfx s (fromR 1 5 (⟨s, 0⟩ : RD)).2 := inferInstance
 rw [hk] at hs1
 simp only [hk] at h1
 have hp := preplies_call
 have h2 := fun l => preadR_call (bs := s) k.2 l
 haveI hs2 : Sfx s (repR k.2).2 := inferInstance
 obtain ⟨c, hc⟩ : ∃ c, repR k.2 = c := ⟨_, rfl⟩
 rw [hc] at hs2
 simp only [hc] at h2
 have e0 : msgR ⟨s, 0⟩ = ({ ms0 with kd := 3, rep := c.1 }, c.2) := by simp [msgR, hk, k1, hc]
 have e : msgD s = if endR (c.2) = 0 then ({ ms0 with kd := 3, rep := c.1 }, 0) else (ms0, endR (c.2)) := by unfold msgD; rw [if_neg hlen, e0]
 have hend := fun l => pREnd_call (bs := s) (c.2) l
 obtain ⟨ev, hev⟩ : ∃ x, endR (c.2) = x := ⟨_, rfl⟩
 rw [hev] at e
 simp only [hev] at hend
 have hrec := fun (σ : St) (f g i : MV) => vms (σ := σ) (m := { ms0 with kd := 3, rep := c.1 }) (f := f) (g := g) (i := i)
 simp only [MS.c, MS.k, ms0, cm0, ed0, pa0, tk0, re0, pg0, u32z] at hrec
 have hbt : (bsS s).toList.map (fun b => [MV.int .u8 (b.toNat : Int)]) = s.map bc := bs_toList _
 clear hev e0 hk
 by_cases hz : ev = 0
 ·rw [if_pos hz] at e
  rw [e]
  clear e
  repeat' (first | (((with_reducible refine use_newR (by omega) ?hp fun l hlp hl0 => ?_); (case hp => simp [St.set, St.none, *]); have hpl := Ne.symm hlp; revert hl0; (repeat refine wS fun _ _ => ?_); intro hl0)) | (((with_reducible refine use_new hn5 fun b hb => ?_); revert hb; (repeat refine wS fun _ _ => ?_); intro hb)) | (((with_reducible refine use_lb (by assumption) ?hq (h1 _ _ (by assumption)) ?_); (case hq => simp [St.set, St.none, *]))) | (with_reducible refine up hp ?_) | (with_reducible (refine wQ ?_; first | refine uR (h2 ..) ?_ | refine uR (hend ..) ?_)) | (with_reducible first | (refine wN fun _ hnl => ?_; revert hnl; (repeat refine wS fun _ _ => ?_); intro hnl) | refine wE ?_ | (refine wK ?_ ?_ <;> intro h) | (refine wB ?_ ?_ <;> intro h <;> simp only [h])) | simp (maxSteps := 4000000) (disch := first | decide | assumption | omega | (simp only [wL]; omega)) only [go_sem, simprocAttr, Tryz.f15, FYs, bsS_size, k1, hbt])
  all_goals (try (exfalso; omega))
  all_goals exact View.two (hrec _ _ _ _ (.nil _ _) (.same _) (.nil _ _)) (.same _)
 ·rw [if_neg hz] at e
  rw [e]
  clear e
  repeat' (first | (((with_reducible refine use_newR (by omega) ?hp fun l hlp hl0 => ?_); (case hp => simp [St.set, St.none, *]); have hpl := Ne.symm hlp; revert hl0; (repeat refine wS fun _ _ => ?_); intro hl0)) | (((with_reducible refine use_new hn5 fun b hb => ?_); revert hb; (repeat refine wS fun _ _ => ?_); intro hb)) | (((with_reducible refine use_lb (by assumption) ?hq (h1 _ _ (by assumption)) ?_); (case hq => simp [St.set, St.none, *]))) | (with_reducible refine up hp ?_) | (with_reducible (refine wQ ?_; first | refine uR (h2 ..) ?_ | refine uR (hend ..) ?_)) | (with_reducible first | (refine wN fun _ hnl => ?_; revert hnl; (repeat refine wS fun _ _ => ?_); intro hnl) | refine wE ?_ | (refine wK ?_ ?_ <;> intro h) | (refine wB ?_ ?_ <;> intro h <;> simp only [h])) | simp (maxSteps := 4000000) (disch := first | decide | assumption | omega | (simp only [wL]; omega)) only [go_sem, simprocAttr, Tryz.f15, FYs, bsS_size, k1, hbt])
  all_goals (try (exfalso; omega))
  all_goals exact View.two (vms (m := ms0) (.nil _ _) (.nil _ _) (.nil _ _)) (.same _)
theorem pxdec_2 (s : BL) (hl : s.length ≤ 100000) (hlen : ¬ 4096 < s.length) (k : Int × RD) (hk : fromR 1 5 (⟨s, 0⟩ : RD) = k) (k1 : k.1 = 2) : MCalls Tryz.prog 15 [.str (bsS s)] St.none (fun r _ => r = .tup [.agg (msgD s).1.c, .int .i64 (msgD s).2]) := by
 refine MCalls.seen (MCalls.body 61 [.cell 2 47, .tmp 3] Tryz.func15 rfl rfl rfl rfl ?_)
 haveI hfew : Few s := ⟨by omega⟩
 haveI hsf : Sfx s (⟨s, 0⟩ : RD) := ⟨List.suffix_refl _⟩
 have hn5 := pnumber_call 5
 have h1 := fun l b hne => preadN_call 5 (by decide) (bs := s) (⟨s, 0⟩ : RD) l b hne
 haveI hs1 : Sfx s (fromR 1 5 (⟨s, 0⟩ : RD)).2 := inferInstance
 rw [hk] at hs1
 simp only [hk] at h1
 have hp := ptokens_call
 have hn16 := pnumber_call 16
 have h2 := fun l => preadT_call (bs := s) k.2 l
 haveI hs2 : Sfx s (tokR k.2).2 := inferInstance
 obtain ⟨t, ht⟩ : ∃ c, tokR k.2 = c := ⟨_, rfl⟩
 rw [ht] at hs2
 simp only [ht] at h2
 have h3 := fun l b hne => preadN_call 16 (by decide) (bs := s) t.2 l b hne
 haveI hs3 : Sfx s (fromR 1 16 t.2).2 := inferInstance
 obtain ⟨c, hc⟩ : ∃ c, fromR 1 16 t.2 = c := ⟨_, rfl⟩
 rw [hc] at hs3
 simp only [hc] at h3
 have e0 : msgR ⟨s, 0⟩ = ({ ms0 with kd := 2, tok := t.1, size := c.1 }, c.2) := by simp [msgR, hk, k1, ht, hc]
 have e : msgD s = if endR (c.2) = 0 then ({ ms0 with kd := 2, tok := t.1, size := c.1 }, 0) else (ms0, endR (c.2)) := by unfold msgD; rw [if_neg hlen, e0]
 have hend := fun l => pREnd_call (bs := s) (c.2) l
 obtain ⟨ev, hev⟩ : ∃ x, endR (c.2) = x := ⟨_, rfl⟩
 rw [hev] at e
 simp only [hev] at hend
 have hrec := fun (σ : St) (f g i : MV) => vms (σ := σ) (m := { ms0 with kd := 2, tok := t.1, size := c.1 }) (f := f) (g := g) (i := i)
 simp only [MS.c, MS.k, ms0, cm0, ed0, pa0, tk0, re0, pg0, u32z] at hrec
 have hbt : (bsS s).toList.map (fun b => [MV.int .u8 (b.toNat : Int)]) = s.map bc := bs_toList _
 clear hev e0 hk
 by_cases hz : ev = 0
 ·rw [if_pos hz] at e
  rw [e]
  clear e
  repeat' (first | (((with_reducible refine use_newR (by omega) ?hp fun l hlp hl0 => ?_); (case hp => simp [St.set, St.none, *]); have hpl := Ne.symm hlp; revert hl0; (repeat refine wS fun _ _ => ?_); intro hl0)) | (((with_reducible refine use_new hn5 fun b hb => ?_); revert hb; (repeat refine wS fun _ _ => ?_); intro hb)) | (((with_reducible refine use_lb (by assumption) ?hq (h1 _ _ (by assumption)) ?_); (case hq => simp [St.set, St.none, *]))) | (with_reducible refine up hp ?_) | (((with_reducible refine use_new hn16 fun b hb => ?_); revert hb; (repeat refine wS fun _ _ => ?_); intro hb)) | (((with_reducible refine use_lmb (by assumption) (by assumption) (by assumption) ?hq (h3 _ _ (by assumption)) ?_); (case hq => simp [St.set, St.none, *]))) | (with_reducible (refine wQ ?_; first | refine uR (h2 ..) ?_ | refine uR (hend ..) ?_)) | (with_reducible first | (refine wN fun _ hnl => ?_; revert hnl; (repeat refine wS fun _ _ => ?_); intro hnl) | refine wE ?_ | (refine wK ?_ ?_ <;> intro h) | (refine wB ?_ ?_ <;> intro h <;> simp only [h])) | simp (maxSteps := 4000000) (disch := first | decide | assumption | omega | (simp only [wL]; omega)) only [go_sem, simprocAttr, Tryz.f15, FYs, bsS_size, k1, hbt])
  all_goals (try (exfalso; omega))
  all_goals exact View.two (hrec _ _ _ _ (.nil _ _) (.nil _ _) (.nil _ _)) (.same _)
 ·rw [if_neg hz] at e
  rw [e]
  clear e
  repeat' (first | (((with_reducible refine use_newR (by omega) ?hp fun l hlp hl0 => ?_); (case hp => simp [St.set, St.none, *]); have hpl := Ne.symm hlp; revert hl0; (repeat refine wS fun _ _ => ?_); intro hl0)) | (((with_reducible refine use_new hn5 fun b hb => ?_); revert hb; (repeat refine wS fun _ _ => ?_); intro hb)) | (((with_reducible refine use_lb (by assumption) ?hq (h1 _ _ (by assumption)) ?_); (case hq => simp [St.set, St.none, *]))) | (with_reducible refine up hp ?_) | (((with_reducible refine use_new hn16 fun b hb => ?_); revert hb; (repeat refine wS fun _ _ => ?_); intro hb)) | (((with_reducible refine use_lmb (by assumption) (by assumption) (by assumption) ?hq (h3 _ _ (by assumption)) ?_); (case hq => simp [St.set, St.none, *]))) | (with_reducible (refine wQ ?_; first | refine uR (h2 ..) ?_ | refine uR (hend ..) ?_)) | (with_reducible first | (refine wN fun _ hnl => ?_; revert hnl; (repeat refine wS fun _ _ => ?_); intro hnl) | refine wE ?_ | (refine wK ?_ ?_ <;> intro h) | (refine wB ?_ ?_ <;> intro h <;> simp only [h])) | simp (maxSteps := 4000000) (disch := first | decide | assumption | omega | (simp only [wL]; omega)) only [go_sem, simprocAttr, Tryz.f15, FYs, bsS_size, k1, hbt])
  all_goals (try (exfalso; omega))
  all_goals exact View.two (vms (m := ms0) (.nil _ _) (.nil _ _) (.nil _ _)) (.same _)
theorem pxdec_1 (s : BL) (hl : s.length ≤ 100000) (hlen : ¬ 4096 < s.length) (k : Int × RD) (hk : fromR 1 5 (⟨s, 0⟩ : RD) = k) (k1 : k.1 = 1) : MCalls Tryz.prog 15 [.str (bsS s)] St.none (fun r _ => r = .tup [.agg (msgD s).1.c, .int .i64 (msgD s).2]) := by
 refine MCalls.seen (MCalls.body 61 [.cell 2 47, .tmp 3] Tryz.func15 rfl rfl rfl rfl ?_)
 haveI hfew : Few s := ⟨by omega⟩
 haveI hsf : Sfx s (⟨s, 0⟩ : RD) := ⟨List.suffix_refl _⟩
 have hn5 := pnumber_call 5
 have h1 := fun l b hne => preadN_call 5 (by decide) (bs := s) (⟨s, 0⟩ : RD) l b hne
 haveI hs1 : Sfx s (fromR 1 5 (⟨s, 0⟩ : RD)).2 := inferInstance
 rw [hk] at hs1
 simp only [hk] at h1
 have hp := pasks_call
 obtain ⟨c, hc⟩ : ∃ c, cmdR k.2 = c := ⟨_, rfl⟩
 have h2 := fun l => preadC_call (bs := s) k.2 l c hc
 haveI hs2 : Sfx s c.2 := by rw [← hc]; infer_instance
 have e0' : msgR ⟨s, 0⟩ = ({ ms0 with kd := 1, cmd := c.1 }, if c.2.e = 0 ∧ (c.1.kd = 1 ∨ c.1.kd = 5) then failR 3 c.2 else c.2) := by simp [msgR, hk, k1, hc]
 obtain ⟨y, hy⟩ : ∃ y, (if c.2.e = 0 ∧ (c.1.kd = 1 ∨ c.1.kd = 5) then failR 3 c.2 else c.2) = y := ⟨_, rfl⟩
 haveI hs3 : Sfx s y := by rw [← hy]; split <;> infer_instance
 have e0 : msgR ⟨s, 0⟩ = ({ ms0 with kd := 1, cmd := c.1 }, y) := by rw [e0', hy]
 simp only [hy] at h2
 clear hy e0' hc
 have e : msgD s = if endR (y) = 0 then ({ ms0 with kd := 1, cmd := c.1 }, 0) else (ms0, endR (y)) := by unfold msgD; rw [if_neg hlen, e0]
 have hend := fun l => pREnd_call (bs := s) (y) l
 obtain ⟨ev, hev⟩ : ∃ x, endR (y) = x := ⟨_, rfl⟩
 rw [hev] at e
 simp only [hev] at hend
 have hrec := fun (σ : St) (f g i : MV) => vms (σ := σ) (m := { ms0 with kd := 1, cmd := c.1 }) (f := f) (g := g) (i := i)
 simp only [MS.c, MS.k, ms0, cm0, ed0, pa0, tk0, re0, pg0, u32z] at hrec
 have hbt : (bsS s).toList.map (fun b => [MV.int .u8 (b.toNat : Int)]) = s.map bc := bs_toList _
 clear hev e0 hk
 by_cases hz : ev = 0
 ·rw [if_pos hz] at e
  rw [e]
  clear e
  repeat' (first | (((with_reducible refine use_newR (by omega) ?hp fun l hlp hl0 => ?_); (case hp => simp [St.set, St.none, *]); have hpl := Ne.symm hlp; revert hl0; (repeat refine wS fun _ _ => ?_); intro hl0)) | (((with_reducible refine use_new hn5 fun b hb => ?_); revert hb; (repeat refine wS fun _ _ => ?_); intro hb)) | (((with_reducible refine use_lb (by assumption) ?hq (h1 _ _ (by assumption)) ?_); (case hq => simp [St.set, St.none, *]))) | (with_reducible refine up hp ?_) | (with_reducible (refine wQ ?_; first | refine uR (h2 ..) ?_ | refine uR (hend ..) ?_)) | (with_reducible first | (refine wN fun _ hnl => ?_; revert hnl; (repeat refine wS fun _ _ => ?_); intro hnl) | refine wE ?_ | (refine wK ?_ ?_ <;> intro h) | (refine wB ?_ ?_ <;> intro h <;> simp only [h])) | simp (maxSteps := 4000000) (disch := first | decide | assumption | omega | (simp only [wL]; omega)) only [go_sem, simprocAttr, Tryz.f15, FYs, bsS_size, k1, hbt])
  all_goals (try (exfalso; omega))
  all_goals exact View.two (hrec _ _ _ _ (.same _) (.nil _ _) (.nil _ _)) (.same _)
 ·rw [if_neg hz] at e
  rw [e]
  clear e
  repeat' (first | (((with_reducible refine use_newR (by omega) ?hp fun l hlp hl0 => ?_); (case hp => simp [St.set, St.none, *]); have hpl := Ne.symm hlp; revert hl0; (repeat refine wS fun _ _ => ?_); intro hl0)) | (((with_reducible refine use_new hn5 fun b hb => ?_); revert hb; (repeat refine wS fun _ _ => ?_); intro hb)) | (((with_reducible refine use_lb (by assumption) ?hq (h1 _ _ (by assumption)) ?_); (case hq => simp [St.set, St.none, *]))) | (with_reducible refine up hp ?_) | (with_reducible (refine wQ ?_; first | refine uR (h2 ..) ?_ | refine uR (hend ..) ?_)) | (with_reducible first | (refine wN fun _ hnl => ?_; revert hnl; (repeat refine wS fun _ _ => ?_); intro hnl) | refine wE ?_ | (refine wK ?_ ?_ <;> intro h) | (refine wB ?_ ?_ <;> intro h <;> simp only [h])) | simp (maxSteps := 4000000) (disch := first | decide | assumption | omega | (simp only [wL]; omega)) only [go_sem, simprocAttr, Tryz.f15, FYs, bsS_size, k1, hbt])
  all_goals (try (exfalso; omega))
  all_goals exact View.two (vms (m := ms0) (.nil _ _) (.nil _ _) (.nil _ _)) (.same _)
theorem pxdec_e (s : BL) (hl : s.length ≤ 100000) (hlen : ¬ 4096 < s.length) (k : Int × RD) (hk : fromR 1 5 (⟨s, 0⟩ : RD) = k) (k1 : k.1 ≠ 1) (k2 : k.1 ≠ 2) (k3 : k.1 ≠ 3) (k4 : k.1 ≠ 4) (k5 : k.1 ≠ 5) : MCalls Tryz.prog 15 [.str (bsS s)] St.none (fun r _ => r = .tup [.agg (msgD s).1.c, .int .i64 (msgD s).2]) := by
 refine MCalls.seen (MCalls.body 61 [.cell 2 47, .tmp 3] Tryz.func15 rfl rfl rfl rfl ?_)
 haveI hfew : Few s := ⟨by omega⟩
 haveI hsf : Sfx s (⟨s, 0⟩ : RD) := ⟨List.suffix_refl _⟩
 have hn5 := pnumber_call 5
 have h1 := fun l b hne => preadN_call 5 (by decide) (bs := s) (⟨s, 0⟩ : RD) l b hne
 haveI hs1 : Sfx s (fromR 1 5 (⟨s, 0⟩ : RD)).2 := inferInstance
 rw [hk] at hs1
 simp only [hk] at h1
 have e0 : msgR ⟨s, 0⟩ = ({ ms0 with kd := k.1 }, k.2) := by simp [msgR, hk, k1, k2, k3, k4, k5]
 have e : msgD s = if endR (k.2) = 0 then ({ ms0 with kd := k.1 }, 0) else (ms0, endR (k.2)) := by unfold msgD; rw [if_neg hlen, e0]
 have hend := fun l => pREnd_call (bs := s) (k.2) l
 obtain ⟨ev, hev⟩ : ∃ x, endR (k.2) = x := ⟨_, rfl⟩
 rw [hev] at e
 simp only [hev] at hend
 have hrec := fun (σ : St) (f g i : MV) => vms (σ := σ) (m := { ms0 with kd := k.1 }) (f := f) (g := g) (i := i)
 simp only [MS.c, MS.k, ms0, cm0, ed0, pa0, tk0, re0, pg0, u32z] at hrec
 have hbt : (bsS s).toList.map (fun b => [MV.int .u8 (b.toNat : Int)]) = s.map bc := bs_toList _
 clear hev e0 hk
 by_cases hz : ev = 0
 ·rw [if_pos hz] at e
  rw [e]
  clear e
  repeat' (first | (((with_reducible refine use_newR (by omega) ?hp fun l hlp hl0 => ?_); (case hp => simp [St.set, St.none, *]); have hpl := Ne.symm hlp; revert hl0; (repeat refine wS fun _ _ => ?_); intro hl0)) | (((with_reducible refine use_new hn5 fun b hb => ?_); revert hb; (repeat refine wS fun _ _ => ?_); intro hb)) | (((with_reducible refine use_lb (by assumption) ?hq (h1 _ _ (by assumption)) ?_); (case hq => simp [St.set, St.none, *]))) | (with_reducible (refine wQ ?_; first | refine uR (hend ..) ?_)) | (with_reducible first | (refine wN fun _ hnl => ?_; revert hnl; (repeat refine wS fun _ _ => ?_); intro hnl) | refine wE ?_ | (refine wK ?_ ?_ <;> intro h) | (refine wB ?_ ?_ <;> intro h <;> simp only [h])) | simp (maxSteps := 4000000) (disch := first | decide | assumption | omega | (simp only [wL]; omega)) only [go_sem, simprocAttr, Tryz.f15, FYs, bsS_size, hbt])
  all_goals (try (exfalso; omega))
  all_goals exact View.two (hrec _ _ _ _ (.nil _ _) (.nil _ _) (.nil _ _)) (.same _)
 ·rw [if_neg hz] at e
  rw [e]
  clear e
  repeat' (first | (((with_reducible refine use_newR (by omega) ?hp fun l hlp hl0 => ?_); (case hp => simp [St.set, St.none, *]); have hpl := Ne.symm hlp; revert hl0; (repeat refine wS fun _ _ => ?_); intro hl0)) | (((with_reducible refine use_new hn5 fun b hb => ?_); revert hb; (repeat refine wS fun _ _ => ?_); intro hb)) | (((with_reducible refine use_lb (by assumption) ?hq (h1 _ _ (by assumption)) ?_); (case hq => simp [St.set, St.none, *]))) | (with_reducible (refine wQ ?_; first | refine uR (hend ..) ?_)) | (with_reducible first | (refine wN fun _ hnl => ?_; revert hnl; (repeat refine wS fun _ _ => ?_); intro hnl) | refine wE ?_ | (refine wK ?_ ?_ <;> intro h) | (refine wB ?_ ?_ <;> intro h <;> simp only [h])) | simp (maxSteps := 4000000) (disch := first | decide | assumption | omega | (simp only [wL]; omega)) only [go_sem, simprocAttr, Tryz.f15, FYs, bsS_size, hbt])
  all_goals (try (exfalso; omega))
  all_goals exact View.two (vms (m := ms0) (.nil _ _) (.nil _ _) (.nil _ _)) (.same _)
theorem pxdec_call (s : BL) (hl : s.length ≤ 100000) : MCalls Tryz.prog 15 [.str (bsS s)] St.none (fun r _ => r = .tup [.agg (msgD s).1.c, .int .i64 (msgD s).2]) := by
 by_cases hlen : 4096 < s.length
 ·exact pxdec_0 s hl hlen
 obtain ⟨k, hk⟩ : ∃ k, fromR 1 5 (⟨s, 0⟩ : RD) = k := ⟨_, rfl⟩
 by_cases k1 : k.1 = 1
 ·exact pxdec_1 s hl hlen k hk k1
 by_cases k2 : k.1 = 2
 ·exact pxdec_2 s hl hlen k hk k2
 by_cases k3 : k.1 = 3
 ·exact pxdec_3 s hl hlen k hk k3
 by_cases k4 : k.1 = 4
 ·exact pxdec_4 s hl hlen k hk k4
 by_cases k5 : k.1 = 5
 ·exact pxdec_5 s hl hlen k hk k5
 ·exact pxdec_e s hl hlen k hk k1 k2 k3 k4 k5
end Go.Proofs.YtfbodefnblpflaaGreatDoor
end

section
namespace Go.Proofs.YtfbodefnblpflaaGreatDoor
set_option maxRecDepth 100000
set_option maxHeartbeats 4000000
def largeS (l : List ND) : Bool := decide (100 < l.length) || l.any fun x => decide (200 < x.v.s.size)
theorem rlarge_call (l : List ND) (tt : Bool) : MCalls Tryz.prog 19 [.lst 5 (l.map ND.c) tt] St.none (fun r _ => r = .bool (largeS l)) := by
 refine (MCalls.body 21 [.tmp 2] Tryz.func19 rfl rfl rfl rfl ?_)
 by_cases h100 : 100 < l.length
 ·have e : largeS l = true := by simp [largeS, h100]
  rw [e]
  repeat' (first | (with_reducible first | (refine wN fun _ hnl => ?_; revert hnl; (repeat refine wS fun _ _ => ?_); intro hnl) | refine wE ?_ | (refine wK ?_ ?_ <;> intro h) | (refine wB ?_ ?_ <;> intro h <;> simp only [h])) | simp (maxSteps := 4000000) (disch := first | decide | assumption | omega | (simp only [wL]; omega)) only [go_sem, simprocAttr, Tryz.f19])
 ·have e : largeS l = l.any fun x => decide (200 < x.v.s.size) := by simp [largeS, h100]
  rw [e]
  repeat' (first | (with_reducible first | (refine wN fun _ hnl => ?_; revert hnl; (repeat refine wS fun _ _ => ?_); intro hnl) | refine wE ?_ | (refine wK ?_ ?_ <;> intro h) | (refine wB ?_ ?_ <;> intro h <;> simp only [h])) | simp (maxSteps := 4000000) (disch := first | decide | assumption | omega | (simp only [wL]; omega)) only [go_sem, simprocAttr, Tryz.f19])
  refine mloop_intro (α := Nat) (fun i => ⟨21, [(3, .int .i64 (i : Int)), (0, .lst 5 (l.map ND.c) tt)], []⟩)
   (fun _ => St.none) (fun i => i ≤ l.length ∧ (l.take i).any (fun x => decide (200 < x.v.s.size)) = false) (fun i => l.length - i) (.of (.less ?_ (St.le_refl _)) ⟨0, rfl, rfl, Nat.zero_le _, rfl⟩) ?_
  ·simp (maxSteps := 4000000) (disch := first | decide | assumption | omega | (simp only [wL]; omega)) only [go_sem, simprocAttr, weak_int, weak_same]
   all_goals rfl
  ·rintro i ⟨hi, hq⟩
   by_cases hlt : i < l.length
   ·by_cases hb : 200 < (l.getD i nd0).v.s.size
    ·have ea : (l.any fun x => decide (200 < x.v.s.size)) = true := List.any_eq_true.2 ⟨_, getD_mem nd0 hlt, by simpa using hb⟩
     rw [ea]
     repeat' (first | (with_reducible first | (refine wN fun _ hnl => ?_; revert hnl; (repeat refine wS fun _ _ => ?_); intro hnl) | refine wE ?_ | (refine wK ?_ ?_ <;> intro h) | (refine wB ?_ ?_ <;> intro h <;> simp only [h])) | simp (maxSteps := 4000000) (disch := first | decide | assumption | omega | (simp only [wL]; omega)) only [go_sem, simprocAttr, getD_mapd nd0])
    ·repeat' (first | (with_reducible first | (refine wN fun _ hnl => ?_; revert hnl; (repeat refine wS fun _ _ => ?_); intro hnl) | refine wE ?_ | (refine wK ?_ ?_ <;> intro h) | (refine wB ?_ ?_ <;> intro h <;> simp only [h])) | simp (maxSteps := 4000000) (disch := first | decide | assumption | omega | (simp only [wL]; omega)) only [go_sem, simprocAttr, getD_mapd nd0])
     refine .of (.less ?_ (St.le_refl _)) ⟨i + 1, rfl, rfl, ⟨by omega, ?_⟩, by omega⟩
     ·simp (maxSteps := 4000000) (disch := first | decide | assumption | omega | (simp only [wL]; omega)) only [go_sem, simprocAttr, weak_int, weak_same]
      all_goals rfl
     ·rw [any_take_succ hlt, hq, ← getD_of_lt nd0 hlt]
      simpa using hb
   ·have hie : i = l.length := by omega
    subst hie
    rw [List.take_length] at hq
    rw [hq]
    repeat' (first | (with_reducible first | (refine wN fun _ hnl => ?_; revert hnl; (repeat refine wS fun _ _ => ?_); intro hnl) | refine wE ?_ | (refine wK ?_ ?_ <;> intro h) | (refine wB ?_ ?_ <;> intro h <;> simp only [h])) | simp (maxSteps := 4000000) (disch := first | decide | assumption | omega | (simp only [wL]; omega)) only [go_sem, simprocAttr])
def largeF (f : F8) : Bool := (List.range 8).any fun i => decide (200 < (f.get i).s.size)
theorem plargeF_call (f : F8) : MCalls Tryz.prog 56 [.agg (fc f)] St.none (fun r _ => r = .bool (largeF f)) := by
 refine MCalls.drops (MCalls.body 14 [.tmp 2] Tryz.func56 rfl rfl rfl rfl ?_)
 repeat' (first | (with_reducible first | (refine wT ?_; (first | ((fail_if_success (have := nl1)); refine wN fun nl1 hnl => ?_) | refine wN fun _ hnl => ?_); revert hnl; (repeat refine wS fun _ _ => ?_); intro hnl) | refine wE ?_ | (refine wK ?_ ?_ <;> intro h) | (refine wB ?_ ?_ <;> intro h <;> simp only [h])) | simp (maxSteps := 4000000) (disch := first | decide | assumption | omega | (simp only [wL]; omega)) only [go_sem, simprocAttr, Tryz.f56, FXs])
 refine mloop_intro (α := Nat) (fun i => ⟨14, [(3, .int .i64 (i : Int)), (1, .ptr nl1 0 0)], []⟩)
  (fun _ => St.none.set nl1 (.row 25 24 [fc f])) (fun i => i ≤ 8 ∧ (List.range i).any (fun i => decide (200 < (f.get i).s.size)) = false) (fun i => 8 - i) (.of (.less ?_ (St.le_refl _)) ⟨0, rfl, rfl, Nat.zero_le _, rfl⟩) ?_
 ·simp (maxSteps := 4000000) (disch := first | decide | assumption | omega | (simp only [wL]; omega)) only [go_sem, simprocAttr, weak_int, weak_same]
  all_goals rfl
 ·rintro i ⟨hi, hq⟩
  by_cases hlt : i < 8
  ·have hg := fun d => fc_get2 (f := f) (d := d) hlt
   obtain ⟨v, hv⟩ : ∃ v, f.get i = v := ⟨_, rfl⟩
   rw [hv] at hg
   by_cases hb : 200 < v.s.size
   ·have e : largeF f = true := List.any_eq_true.2 ⟨i, List.mem_range.2 hlt, by rw [hv]; exact decide_eq_true hb⟩
    rw [e]
    repeat' (first | (with_reducible first | (refine wT ?_; (first | ((fail_if_success (have := nl1)); refine wN fun nl1 hnl => ?_) | refine wN fun _ hnl => ?_); revert hnl; (repeat refine wS fun _ _ => ?_); intro hnl) | refine wE ?_ | (refine wK ?_ ?_ <;> intro h) | (refine wB ?_ ?_ <;> intro h <;> simp only [h])) | simp (maxSteps := 4000000) (disch := first | decide | assumption | omega | (simp only [wL]; omega)) only [go_sem, simprocAttr, FXs, hg])
    all_goals first | exact ⟨_, St.le_refl _, rfl⟩ | exact ⟨_, St.le_refl _⟩ | (exfalso; omega)
   ·repeat' (first | (with_reducible first | (refine wT ?_; (first | ((fail_if_success (have := nl1)); refine wN fun nl1 hnl => ?_) | refine wN fun _ hnl => ?_); revert hnl; (repeat refine wS fun _ _ => ?_); intro hnl) | refine wE ?_ | (refine wK ?_ ?_ <;> intro h) | (refine wB ?_ ?_ <;> intro h <;> simp only [h])) | simp (maxSteps := 4000000) (disch := first | decide | assumption | omega | (simp only [wL]; omega)) only [go_sem, simprocAttr, FXs, hg])
    all_goals (try (exfalso; omega))
    refine .of (.less ?_ (St.le_refl _)) ⟨i + 1, rfl, rfl, ⟨by omega, ?_⟩, by omega⟩
    ·simp (maxSteps := 4000000) (disch := first | decide | assumption | omega | (simp only [wL]; omega)) only [go_sem, simprocAttr, weak_int, weak_same]
     all_goals rfl
    ·rw [List.range_succ, List.any_append, hq, List.any_cons, List.any_nil, hv, decide_eq_false hb]; rfl
  ·have hie : i = 8 := by omega
   subst hie
   have e : largeF f = false := hq
   rw [e]
   repeat' (first | (with_reducible first | (refine wT ?_; (first | ((fail_if_success (have := nl1)); refine wN fun nl1 hnl => ?_) | refine wN fun _ hnl => ?_); revert hnl; (repeat refine wS fun _ _ => ?_); intro hnl) | refine wE ?_ | (refine wK ?_ ?_ <;> intro h) | (refine wB ?_ ?_ <;> intro h <;> simp only [h])) | simp (maxSteps := 4000000) (disch := first | decide | assumption | omega | (simp only [wL]; omega)) only [go_sem, simprocAttr])
   all_goals first | exact ⟨_, St.le_refl _, rfl⟩ | exact ⟨_, St.le_refl _⟩
def wideI (l : List IT) : Bool := decide (100 < l.length) || l.any fun x => largeF x.c.f
theorem plwide_call (l : List IT) (tt : Bool) : MCalls Tryz.prog 20 [.lst 28 (IT.ks l) tt] St.none (fun r _ => r = .bool (wideI l)) := by
 refine (MCalls.body 20 [.tmp 2] Tryz.func20 rfl rfl rfl rfl ?_)
 by_cases h100 : 100 < l.length
 ·have e : wideI l = true := by simp [wideI, h100]
  rw [e]
  repeat' (first | (with_reducible first | (refine wN fun _ hnl => ?_; revert hnl; (repeat refine wS fun _ _ => ?_); intro hnl) | refine wE ?_ | (refine wK ?_ ?_ <;> intro h) | (refine wB ?_ ?_ <;> intro h <;> simp only [h])) | simp (maxSteps := 4000000) (disch := first | decide | assumption | omega | (simp only [wL]; omega)) only [go_sem, simprocAttr, Tryz.f20])
 ·have e : wideI l = l.any fun x => largeF x.c.f := by simp [wideI, h100]
  rw [e]
  repeat' (first | (with_reducible first | (refine wN fun _ hnl => ?_; revert hnl; (repeat refine wS fun _ _ => ?_); intro hnl) | refine wE ?_ | (refine wK ?_ ?_ <;> intro h) | (refine wB ?_ ?_ <;> intro h <;> simp only [h])) | simp (maxSteps := 4000000) (disch := first | decide | assumption | omega | (simp only [wL]; omega)) only [go_sem, simprocAttr, Tryz.f20])
  refine mloop_intro (α := Nat) (fun i => ⟨20, [(3, .int .i64 (i : Int)), (0, .lst 28 (IT.ks l) tt)], []⟩)
   (fun _ => St.none) (fun i => i ≤ l.length ∧ (l.take i).any (fun x => largeF x.c.f) = false) (fun i => l.length - i) (.of (.less ?_ (St.le_refl _)) ⟨0, rfl, rfl, Nat.zero_le _, rfl⟩) ?_
  ·simp (maxSteps := 4000000) (disch := first | decide | assumption | omega | (simp only [wL]; omega)) only [go_sem, simprocAttr, weak_int, weak_same]
   all_goals rfl
  ·rintro i ⟨hi, hq⟩
   by_cases hlt : i < l.length
   ·have hc := plargeF_call (l.getD i it0).c.f
    have hm := getD_mem it0 hlt
    have ha : (l.take (i + 1)).any (fun x => largeF x.c.f) = largeF (l.getD i it0).c.f := by
     rw [any_take_succ hlt, hq, ← getD_of_lt it0 hlt]; rfl
    obtain ⟨x, hx⟩ : ∃ x, l.getD i it0 = x := ⟨_, rfl⟩
    rw [hx] at hc hm ha
    cases hb : largeF x.c.f <;> rw [hb] at hc ha
    ·repeat' (first | (with_reducible first | refine up hc ?_) | (with_reducible first | (refine wN fun _ hnl => ?_; revert hnl; (repeat refine wS fun _ _ => ?_); intro hnl) | refine wE ?_ | (refine wK ?_ ?_ <;> intro h) | (refine wB ?_ ?_ <;> intro h <;> simp only [h])) | simp (maxSteps := 4000000) (disch := first | decide | assumption | omega | (simp only [wL]; omega)) only [go_sem, simprocAttr, FXs, getD_mapd it0, hx])
     refine .of (.less ?_ (St.le_refl _)) ⟨i + 1, rfl, rfl, ⟨by omega, ha⟩, by omega⟩
     simp (maxSteps := 4000000) (disch := first | decide | assumption | omega | (simp only [wL]; omega)) only [go_sem, simprocAttr, weak_int, weak_same]
     all_goals rfl
    ·have ea : (l.any fun x => largeF x.c.f) = true := List.any_eq_true.2 ⟨x, hm, hb⟩
     rw [ea]
     repeat' (first | (with_reducible first | refine up hc ?_) | (with_reducible first | (refine wN fun _ hnl => ?_; revert hnl; (repeat refine wS fun _ _ => ?_); intro hnl) | refine wE ?_ | (refine wK ?_ ?_ <;> intro h) | (refine wB ?_ ?_ <;> intro h <;> simp only [h])) | simp (maxSteps := 4000000) (disch := first | decide | assumption | omega | (simp only [wL]; omega)) only [go_sem, simprocAttr, FXs, getD_mapd it0, hx])
   ·have hie : i = l.length := by omega
    subst hie
    rw [List.take_length] at hq
    rw [hq]
    repeat' (first | (with_reducible first | (refine wN fun _ hnl => ?_; revert hnl; (repeat refine wS fun _ _ => ?_); intro hnl) | refine wE ?_ | (refine wK ?_ ?_ <;> intro h) | (refine wB ?_ ?_ <;> intro h <;> simp only [h])) | simp (maxSteps := 4000000) (disch := first | decide | assumption | omega | (simp only [wL]; omega)) only [go_sem, simprocAttr])
def largeM (c : CM) : Bool := largeF c.e.p.f || (largeF c.p.f || largeS c.fl)
theorem plcmd_call (c : CM) : MCalls Tryz.prog 18 [.agg c.c] St.none (fun r _ => r = .bool (largeM c)) := by
 refine MCalls.drops (MCalls.body 19 [.tmp 2] Tryz.func18 rfl rfl rfl rfl ?_)
 have h1 := plargeF_call c.e.p.f
 have h2 := plargeF_call c.p.f
 have h3 := rlarge_call c.fl false
 unfold largeM
 cases b1 : largeF c.e.p.f <;> cases b2 : largeF c.p.f <;> rw [b1] at h1 <;> rw [b2] at h2
 all_goals
  repeat' (first | (with_reducible first | refine up h1 ?_ | refine up h2 ?_ | refine up h3 ?_) | (with_reducible first | (refine wN fun _ hnl => ?_; revert hnl; (repeat refine wS fun _ _ => ?_); intro hnl) | refine wE ?_ | (refine wK ?_ ?_ <;> intro h) | (refine wB ?_ ?_ <;> intro h <;> simp only [h])) | simp (maxSteps := 4000000) (disch := first | decide | assumption | omega | (simp only [wL]; omega)) only [go_sem, simprocAttr, Tryz.f18, FYs])
  all_goals first | exact ⟨_, St.le_refl _, rfl⟩ | exact ⟨_, St.le_refl _⟩ | (refine ⟨_, St.le_refl _, ?_⟩; simp)
def largeX (m : MS) : Bool := largeM m.cmd || (largeS m.rep.fl || wideI m.page.items)
theorem plmsg_call (m : MS) : MCalls Tryz.prog 6 [.agg m.c] St.none (fun r _ => r = .bool (largeX m)) := by
 refine MCalls.drops (MCalls.body 18 [.tmp 2] Tryz.func6 rfl rfl rfl rfl ?_)
 have h1 := plcmd_call m.cmd
 have h2 := rlarge_call m.rep.fl false
 have h3 := plwide_call m.page.items false
 unfold largeX
 cases b1 : largeM m.cmd <;> cases b2 : largeS m.rep.fl <;> rw [b1] at h1 <;> rw [b2] at h2
 all_goals
  repeat' (first | (with_reducible first | refine up h1 ?_ | refine up h2 ?_ | refine up h3 ?_) | (with_reducible first | (refine wN fun _ hnl => ?_; revert hnl; (repeat refine wS fun _ _ => ?_); intro hnl) | refine wE ?_ | (refine wK ?_ ?_ <;> intro h) | (refine wB ?_ ?_ <;> intro h <;> simp only [h])) | simp (maxSteps := 4000000) (disch := first | decide | assumption | omega | (simp only [wL]; omega)) only [go_sem, simprocAttr, Tryz.f6, FYs])
  all_goals first | exact ⟨_, St.le_refl _, rfl⟩ | exact ⟨_, St.le_refl _⟩ | (refine ⟨_, St.le_refl _, ?_⟩; simp)
theorem largeS_len {l : List ND} (h : largeS l = false) : l.length ≤ 1000000 := by
 simp only [largeS, Bool.or_eq_false_iff, decide_eq_false_iff_not] at h
 omega
theorem largeX_sm {m : MS} (h : largeX m = false) : Sm m := by
 simp only [largeX, largeM, Bool.or_eq_false_iff] at h
 refine ⟨largeS_len h.1.2.2, largeS_len h.2.1, ?_⟩
 have := h.2.2
 simp only [wideI, Bool.or_eq_false_iff, decide_eq_false_iff_not] at this
 omega
theorem msgOk_sm {m : MS} (hok : msgOk m = true) : Sm m ∧ Rg m.cmd := by
 have z : Rg cm0 := ⟨in0, in0, in0, in0, in0⟩
 by_cases k1 : m.kd = 1
 ·rw [msgOk_1 k1] at hok
  simp only [Bool.and_eq_true, decide_eq_true_eq, ms_iff, ms0] at hok
  obtain ⟨⟨h1, _⟩, _, _, _, _, h2, h3, _⟩ := hok
  have := cmdOk_rg h1
  refine ⟨⟨this.2, ?_, ?_⟩, this.1⟩
  ·rw [← h2]; simp [re0]
  ·rw [← h3]; simp [pg0]
 by_cases k2 : m.kd = 2
 ·rw [msgOk_2 k2] at hok
  simp only [Bool.and_eq_true, decide_eq_true_eq, ms_iff, ms0] at hok
  obtain ⟨_, _, _, h1, _, h2, h3, _⟩ := hok
  rw [← h1]
  refine ⟨⟨?_, ?_, ?_⟩, z⟩
  ·rw [← h1]; simp [cm0]
  ·rw [← h2]; simp [re0]
  ·rw [← h3]; simp [pg0]
 by_cases k3 : m.kd = 3
 ·rw [msgOk_3 k3] at hok
  simp only [Bool.and_eq_true, decide_eq_true_eq, ms_iff, ms0] at hok
  obtain ⟨h0, _, _, h1, _, h2, h3, _⟩ := hok
  rw [← h1]
  refine ⟨⟨?_, repOk_len h0, ?_⟩, z⟩
  ·rw [← h1]; simp [cm0]
  ·rw [← h3]; simp [pg0]
 by_cases k4 : m.kd = 4
 ·rw [msgOk_4 k4] at hok
  simp only [Bool.and_eq_true, decide_eq_true_eq, ms_iff, ms0] at hok
  obtain ⟨h0, _, _, h1, _, h2, h3, _⟩ := hok
  rw [← h1]
  refine ⟨⟨?_, ?_, pageOk_len h0⟩, z⟩
  ·rw [← h1]; simp [cm0]
  ·rw [← h2]; simp [re0]
 by_cases k5 : m.kd = 5
 ·rw [msgOk_5 k5] at hok
  simp only [Bool.and_eq_true, decide_eq_true_eq, ms_iff, ms0] at hok
  obtain ⟨_, _, _, h1, _, h2, h3, _⟩ := hok
  rw [← h1]
  refine ⟨⟨?_, ?_, ?_⟩, z⟩
  ·rw [← h1]; simp [cm0]
  ·rw [← h2]; simp [re0]
  ·rw [← h3]; simp [pg0]
 ·rw [msgOk_o k1 k2 k3 k4 k5] at hok
  cases hok
theorem ms0_sm : Sm ms0 ∧ Rg ms0.cmd := ⟨⟨by simp [ms0, cm0], by simp [ms0, re0], by simp [ms0, pg0]⟩, in0, in0, in0, in0, in0⟩
theorem msgD_sm (s : BL) : Sm (msgD s).1 ∧ Rg (msgD s).1.cmd := by
 by_cases h : (msgD s).2 = 0
 ·exact msgOk_sm (msgD_E h).1
 ·have : (msgD s).1 = ms0 := by
   unfold msgD at h ⊢
   split
   ·rfl
   ·split
    ·rename_i h1 h2
     rw [if_neg h1, if_pos h2] at h
     exact absurd rfl h
    ·rfl
  rw [this]
  exact ms0_sm
theorem pawake_call : MCalls Tryz.prog 7 [] St.none (fun r _ => r = .bool true) := by
 refine (MCalls.body 14 [.tmp 0] Tryz.func7 rfl rfl rfl rfl ?_)
 have h := pxenc5 { ms0 with kd := 5, code := 3 } ⟨by simp [ms0, cm0], by simp [ms0, re0], by simp [ms0, pg0]⟩ ⟨in0, in0, in0, in0, in0⟩ rfl (by decide +kernel)
 have e : msgE { ms0 with kd := 5, code := 3 } = ([5, 3], 0) := by decide +kernel
 rw [e] at h
 simp only [MS.c, MS.k, ms0, cm0, ed0, pa0, tk0, re0, pg0, u32z] at h
 have hv := fun (σ : St) (f g i : MV) => vms (σ := σ) (m := { ms0 with kd := 5, code := 3 }) (f := f) (g := g) (i := i)
 simp only [MS.c, MS.k, ms0, cm0, ed0, pa0, tk0, re0, pg0, u32z] at hv
 repeat' (first | (with_reducible refine use_weak _ h rfl (views_one (hv _ _ _ _ (.nil _ _) (.nil _ _) (.nil _ _))) ?_) | (with_reducible first | (refine wN fun _ hnl => ?_; revert hnl; (repeat refine wS fun _ _ => ?_); intro hnl) | refine wE ?_ | (refine wK ?_ ?_ <;> intro h) | (refine wB ?_ ?_ <;> intro h <;> simp only [h])) | simp (maxSteps := 4000000) (disch := first | decide | assumption | omega | (simp only [wL]; omega)) only [go_sem, simprocAttr, Tryz.f7, FYs])
 all_goals first | rfl | exact decide_eq_true rfl | (congr 1; exact decide_eq_true rfl)
theorem pto_call (m : MS) : MCalls Tryz.prog 9 [.agg m.c] St.none (fun r _ => r = .agg m.c) := by
 refine MCalls.drops (MCalls.body 18 [.cell 2 47] Tryz.func9 rfl rfl rfl rfl ?_)
 repeat' (first | (with_reducible first | (refine wN fun _ hnl => ?_; revert hnl; (repeat refine wS fun _ _ => ?_); intro hnl) | refine wE ?_ | (refine wK ?_ ?_ <;> intro h) | (refine wB ?_ ?_ <;> intro h <;> simp only [h])) | simp (maxSteps := 4000000) (disch := first | decide | assumption | omega | (simp only [wL]; omega)) only [go_sem, simprocAttr, Tryz.f9, FYs])
 refine owes_intro (fun c hc => List.all_eq_true.1 (by simp only [List.all_append, List.all_cons, fc_cell]; rfl) c hc) ?_
 repeat' (first | (with_reducible first | (refine wN fun _ hnl => ?_; revert hnl; (repeat refine wS fun _ _ => ?_); intro hnl) | refine wE ?_ | (refine wK ?_ ?_ <;> intro h) | (refine wB ?_ ?_ <;> intro h <;> simp only [h])) | simp (maxSteps := 4000000) (disch := first | decide | assumption | omega | (simp only [wL]; omega)) only [go_sem, simprocAttr, FYs])
 all_goals first | exact ⟨_, St.le_refl _, rfl⟩ | exact ⟨_, St.le_refl _⟩
theorem pfrom_call (m : MS) : MCalls Tryz.prog 17 [.agg m.c] St.none (fun r _ => r = .agg m.c) := by
 refine MCalls.drops (MCalls.body 18 [.cell 2 42] Tryz.func17 rfl rfl rfl rfl ?_)
 repeat' (first | (with_reducible first | (refine wN fun _ hnl => ?_; revert hnl; (repeat refine wS fun _ _ => ?_); intro hnl) | refine wE ?_ | (refine wK ?_ ?_ <;> intro h) | (refine wB ?_ ?_ <;> intro h <;> simp only [h])) | simp (maxSteps := 4000000) (disch := first | decide | assumption | omega | (simp only [wL]; omega)) only [go_sem, simprocAttr, Tryz.f17, FYs])
 refine owes_intro (fun c hc => List.all_eq_true.1 (by simp only [List.all_append, List.all_cons, fc_cell]; rfl) c hc) ?_
 repeat' (first | (with_reducible first | (refine wN fun _ hnl => ?_; revert hnl; (repeat refine wS fun _ _ => ?_); intro hnl) | refine wE ?_ | (refine wK ?_ ?_ <;> intro h) | (refine wB ?_ ?_ <;> intro h <;> simp only [h])) | simp (maxSteps := 4000000) (disch := first | decide | assumption | omega | (simp only [wL]; omega)) only [go_sem, simprocAttr, FYs])
 all_goals first | exact ⟨_, St.le_refl _, rfl⟩ | exact ⟨_, St.le_refl _⟩
end Go.Proofs.YtfbodefnblpflaaGreatDoor
end

section
namespace Go.Proofs.YtfbodefnblpflaaGreatDoor
set_option maxRecDepth 100000
set_option maxHeartbeats 8000000
def fnK : List (FuncId × (List MV → MV)) → Know
 | [] => fun _ _ => none
 | p :: r => fun g ms => if p.1 = g then some ⟨[], fun v => v = p.2 ms, none⟩ else fnK r g ms
theorem fnK_hit {g : FuncId} {u : List MV → MV} {r : List (FuncId × (List MV → MV))} {ms : List MV} {x : MV} (h : u ms = x) : fnK ((g, u) :: r) g ms = some ⟨[], fun v => v = x, none⟩ := by
 subst h
 exact if_pos rfl
theorem fnK_skip {g g' : FuncId} {u : List MV → MV} {r : List (FuncId × (List MV → MV))} {ms : List MV} {F : Fact} (h : (g' == g) = false) (k : fnK r g ms = some F) : fnK ((g', u) :: r) g ms = some F := by
 unfold fnK
 rw [if_neg (by simpa using h)]
 exact k
end Go.Proofs.YtfbodefnblpflaaGreatDoor
end

section
namespace Go.Proofs.YtfbodefnblpflaaGreatDoor
set_option maxRecDepth 100000
set_option maxHeartbeats 8000000
theorem msgBack_call (m : MS) (s : BL) (hg : Rg m.cmd) : MCalls Tryz.prog 5 [.agg m.c, .str (bsS s)] St.none (fun r _ => r = .bool true) := by
 refine MCalls.drops (MCalls.body 88 [.tmp 4] Tryz.func5 rfl rfl rfl rfl ?_)
 have a1 := plmsg_call m
 have h9 := pawake_call
 cases la : largeX m <;> rw [la] at a1
 rotate_left
 ·repeat' (first | (with_reducible first | refine up a1 ?_ | refine up h9 ?_) | (with_reducible first | (refine wN fun _ hnl => ?_; revert hnl; (repeat refine wS fun _ _ => ?_); intro hnl) | refine wE ?_ | (refine wK ?_ ?_ <;> intro h) | (refine wB ?_ ?_ <;> intro h <;> simp only [h])) | simp (maxSteps := 4000000) (disch := first | decide | assumption | omega | (simp only [wL]; omega)) only [go_sem, simprocAttr, Tryz.f5, FYs, bsS_size])
  all_goals exact ⟨_, St.le_refl _⟩
 by_cases hl : 6000 < s.length
 ·repeat' (first | (with_reducible first | refine up a1 ?_ | refine up h9 ?_) | (with_reducible first | (refine wN fun _ hnl => ?_; revert hnl; (repeat refine wS fun _ _ => ?_); intro hnl) | refine wE ?_ | (refine wK ?_ ?_ <;> intro h) | (refine wB ?_ ?_ <;> intro h <;> simp only [h])) | simp (maxSteps := 4000000) (disch := first | decide | assumption | omega | (simp only [wL]; omega)) only [go_sem, simprocAttr, Tryz.f5, FYs, bsS_size])
  all_goals exact ⟨_, St.le_refl _⟩
 have hs := largeX_sm la
 have h1 := pxdec_call s (by omega)
 obtain ⟨hx, hgx⟩ := msgD_sm s
 have hde := msgD_E (l := s)
 obtain ⟨⟨x, e⟩, hm⟩ : ∃ x, msgD s = x := ⟨_, rfl⟩
 rw [hm] at h1 hx hgx hde
 simp only at h1 hx hgx hde
 have h2 := pfrom_call x
 have h3 := rxcheck_call x hx
 have h4 := pxenc_call x hx hgx
 have h5 := pto_call m
 have h6 := pxenc_call m hs hg
 have h7 := rxcheck_call m hs
 have hed := msgE_D (m := m)
 have hno : (msgE m).2 ≠ 0 → (msgE m).1 = [] ∧ ((msgE m).2 = 1 ↔ msgOk m = false) := by
  unfold msgE
  cases msgOk m
  ·simp
  ·simp only [if_true]
   split <;> simp
 obtain ⟨⟨t, f⟩, ht⟩ : ∃ e, msgE m = e := ⟨_, rfl⟩
 rw [ht] at h6 hed hno
 simp only at h6 hed hno
 have hz : (bsS ([] : BL)) = ⟨#[]⟩ := rfl
 by_cases hf : f = 0
 ·obtain ⟨o1, o2, o3⟩ := hed hf
  have g1 := pxdec_call t (by omega)
  rw [o3] at g1
  simp only at g1
  have g2 := pfrom_call m
  have g3 := rxsame_call m m hs
  rw [decide_eq_true rfl] at g3
  obtain ⟨C, c3, c4, c9⟩ : ∃ C : Know, (∀ ms, C 17 ms = some ⟨[], fun v => v = .agg m.c, none⟩) ∧ (∀ ms, C 14 ms = some ⟨[], fun v => v = .bool true, none⟩) ∧ (∀ ms, C 7 ms = some ⟨[], fun v => v = .bool true, none⟩) :=
   ⟨fnK [(17, fun _ => .agg m.c), (14, fun _ => .bool true), (7, fun _ => .bool true)], fun _ => fnK_hit rfl, fun _ => fnK_skip rfl (fnK_hit rfl), fun _ => fnK_skip rfl (fnK_skip rfl (fnK_hit rfl))⟩
  clear hed hno ht hm hs hx hgx hg
  subst hf
  by_cases he : e = 0
  ·obtain ⟨d1, d2⟩ := hde he
   rw [d1] at h3
   rw [d2] at h4
   simp only at h4
   subst he
   clear hde
   repeat' (first | ((with_reducible refine mdraw_know mixed ?chk C ?_); (case chk => decide +kernel)) | (with_reducible refine know_pure (c3 _) g2 ?_) | (with_reducible refine know_pure (c4 _) g3 ?_) | (with_reducible refine know_pure (c9 _) h9 ?_) | (with_reducible first | refine up a1 ?_ | refine up h1 ?_ | refine up h2 ?_ | refine up h3 ?_ | refine up h4 ?_ | refine up h5 ?_ | refine up h6 ?_ | refine up h9 ?_ | refine up g1 ?_) | (with_reducible first | (refine wN fun _ hnl => ?_; revert hnl; (repeat refine wS fun _ _ => ?_); intro hnl) | refine wE ?_ | (refine wK ?_ ?_ <;> intro h) | (refine wB ?_ ?_ <;> intro h <;> simp only [h])) | simp (maxSteps := 4000000) (disch := first | decide | assumption | omega | (simp only [wL]; omega)) only [go_sem, simprocAttr, Tryz.f5, FYs, bsS_size])
   all_goals first | exact ⟨_, St.le_refl _⟩ | (exfalso; omega)
  ·clear hde
   repeat' (first | ((with_reducible refine mdraw_know mixed ?chk C ?_); (case chk => decide +kernel)) | (with_reducible refine know_pure (c3 _) g2 ?_) | (with_reducible refine know_pure (c4 _) g3 ?_) | (with_reducible refine know_pure (c9 _) h9 ?_) | (with_reducible first | refine up a1 ?_ | refine up h1 ?_ | refine up h5 ?_ | refine up h6 ?_ | refine up h9 ?_ | refine up g1 ?_) | (with_reducible first | (refine wN fun _ hnl => ?_; revert hnl; (repeat refine wS fun _ _ => ?_); intro hnl) | refine wE ?_ | (refine wK ?_ ?_ <;> intro h) | (refine wB ?_ ?_ <;> intro h <;> simp only [h])) | simp (maxSteps := 4000000) (disch := first | decide | assumption | omega | (simp only [wL]; omega)) only [go_sem, simprocAttr, Tryz.f5, FYs, bsS_size])
   all_goals first | exact ⟨_, St.le_refl _⟩ | (exfalso; omega)
 ·obtain ⟨t0, hok⟩ := hno hf
  subst t0
  clear hed hno ht hm hs hx hgx hg
  obtain ⟨ok, hoke⟩ : ∃ b, msgOk m = b := ⟨_, rfl⟩
  rw [hoke] at h7 hok
  clear hoke
  have hfd : decide (f = 1) = !ok := by cases ok <;> simp at hok ⊢ <;> omega
  by_cases he : e = 0
  ·obtain ⟨d1, d2⟩ := hde he
   rw [d1] at h3
   rw [d2] at h4
   simp only at h4
   subst he
   clear hde
   cases ok
   all_goals
    repeat' (first | (with_reducible first | refine up a1 ?_ | refine up h1 ?_ | refine up h2 ?_ | refine up h3 ?_ | refine up h4 ?_ | refine up h5 ?_ | refine up h6 ?_ | refine up h7 ?_ | refine up h9 ?_) | (with_reducible first | (refine wN fun _ hnl => ?_; revert hnl; (repeat refine wS fun _ _ => ?_); intro hnl) | refine wE ?_ | (refine wK ?_ ?_ <;> intro h) | (refine wB ?_ ?_ <;> intro h <;> simp only [h])) | simp (maxSteps := 4000000) (disch := first | decide | assumption | omega | (simp only [wL]; omega)) only [go_sem, simprocAttr, Tryz.f5, FYs, bsS_size, hz, hfd])
    all_goals first | exact ⟨_, St.le_refl _⟩ | (exfalso; omega)
  ·clear hde
   cases ok
   all_goals
    repeat' (first | (with_reducible first | refine up a1 ?_ | refine up h1 ?_ | refine up h5 ?_ | refine up h6 ?_ | refine up h7 ?_ | refine up h9 ?_) | (with_reducible first | (refine wN fun _ hnl => ?_; revert hnl; (repeat refine wS fun _ _ => ?_); intro hnl) | refine wE ?_ | (refine wK ?_ ?_ <;> intro h) | (refine wB ?_ ?_ <;> intro h <;> simp only [h])) | simp (maxSteps := 4000000) (disch := first | decide | assumption | omega | (simp only [wL]; omega)) only [go_sem, simprocAttr, Tryz.f5, FYs, bsS_size, hz, hfd])
    all_goals first | exact ⟨_, St.le_refl _⟩ | (exfalso; omega)
end Go.Proofs.YtfbodefnblpflaaGreatDoor
end

section
namespace Go.Proofs.YtfbodefnblpflaaGreatDoor
open Go.ChangeShapes Go.WideShapes Go.RowKit
set_option maxRecDepth 100000
def segs (cs : List MV) : List (Nat × Nat) → List MV
 | [] => []
 | p :: r => (cs.drop p.1).take p.2 ++ segs cs r
def contig (o n : Nat) : List (Nat × Nat) → Bool
 | [] => o == n
 | p :: r => p.1 == o && contig (o + p.2) n r
theorem segs_all {cs : List MV} : ∀ (l : List (Nat × Nat)) (o : Nat), contig o cs.length l = true → segs cs l = cs.drop o
 | [], o, h => by
  simp only [contig, beq_iff_eq] at h
  rw [segs, h, List.drop_length]
 | p :: r, o, h => by
  simp only [contig, Bool.and_eq_true, beq_iff_eq] at h
  rw [segs, segs_all r _ h.2, h.1, ← List.drop_drop, List.take_append_drop]
theorem segs_eq {cs : List MV} {n : Nat} (hn : cs.length = n) (l : List (Nat × Nat)) (h : contig 0 n l = true) : cs = segs cs l := by
 have := segs_all (cs := cs) l 0 (by rw [hn]; exact h)
 rw [this, List.drop_zero]
theorem i64_in {v : Int} (h0 : IntKind.i64.min ≤ v) (h1 : v ≤ IntKind.i64.max) : In64 v := by
 have e0 : IntKind.i64.min = -9223372036854775808 := by decide
 have e1 : IntKind.i64.max = 9223372036854775807 := by decide
 rw [e0] at h0
 rw [e1] at h1
 exact ⟨h0, h1⟩
theorem oint {n : Nat} {x : List MV} (h : CT Tryz.prog (n + 1) 3 x) : ∃ v, x = [.int .i64 v] ∧ In64 v := by
 obtain ⟨v, h0, h1, h2⟩ := ct_int (by rw [td3]) h
 exact ⟨v, h0, i64_in h1 h2⟩
theorem oerr {n : Nat} {x : List MV} (h : CT Tryz.prog (n + 1) 35 x) : ∃ v, x = [.int .i64 v] := by
 obtain ⟨v, h0, h1, h2⟩ := ct_int (by rw [td35]) h
 exact ⟨v, h0⟩
theorem obool {n : Nat} {x : List MV} (h : CT Tryz.prog (n + 1) 4 x) : ∃ b, x = [.bool b] := ct_bool (by rw [td4]) h
theorem ou32 {n : Nat} {x : List MV} (h : CT Tryz.prog (n + 1) 22 x) : ∃ u : UInt32, x = [.int .u32 (u.toNat : Int)] := by
 obtain ⟨v, h0, h1, h2⟩ := ct_int (by rw [td22]) h
 have e0 : IntKind.u32.min = 0 := by decide
 have e1 : IntKind.u32.max = 4294967295 := by decide
 rw [e0] at h1
 rw [e1] at h2
 exact ⟨UInt32.ofNat v.toNat, by rw [h0, u32_toN h1 (by omega)]⟩
theorem oval {n : Nat} {x : List MV} (h : CT Tryz.prog (n + 2) 24 x) : ∃ a : VA, x = a.c := by
 obtain ⟨hl, hf⟩ := ct_struct (congrArg TD.k td24) h
 rw [td24] at hl
 obtain ⟨a, ha, _⟩ := oint (hf (0, 3) (by simp))
 obtain ⟨b, hb, _⟩ := oint (hf (1, 3) (by simp))
 obtain ⟨s, hs, _⟩ := ct_str (by rw [td9]) (hf (2, 9) (by simp))
 simp only [td3, td9] at ha hb hs
 refine ⟨⟨a, b, s⟩, ?_⟩
 rw [segs_eq hl [(0, 1), (1, 1), (2, 1)] rfl]
 simp only [segs, ha, hb, hs]
 rfl
theorem onode {n : Nat} {x : List MV} (h : CT Tryz.prog (n + 3) 115 x) : ∃ a : ND, x = a.c := by
 obtain ⟨hl, hf⟩ := ct_struct (congrArg TD.k td115) h
 rw [td115] at hl
 obtain ⟨a, ha, _⟩ := oint (hf (0, 3) (by simp))
 obtain ⟨b, hb, _⟩ := oint (hf (1, 3) (by simp))
 obtain ⟨v, hv⟩ := oval (hf (2, 24) (by simp))
 simp only [td3, td24] at ha hb hv
 refine ⟨⟨a, b, v⟩, ?_⟩
 rw [segs_eq hl [(0, 1), (1, 1), (2, 3)] rfl]
 simp only [segs, ha, hb, hv]
 rfl
theorem onodes {n : Nat} {x : List MV} (h : CT Tryz.prog (n + 4) 30 x) : ∃ l : List ND, x = [.lst 5 (l.map ND.c) false] := by
 obtain ⟨xs, hm, _, hx⟩ := ct_slice (by rw [td30]) h
 obtain ⟨l, rfl⟩ := lists_of fun x hx' => onode (hx x hx')
 rw [td115] at hm
 exact ⟨l, hm⟩
theorem ovals {n : Nat} {x : List MV} (h : CT Tryz.prog (n + 3) 25 x) : ∃ f : F8, x = fc f := by
 obtain ⟨hl, ha⟩ := ct_array (congrArg TD.k td25) h
 rw [td25] at hl
 rw [td24] at ha
 simp only at hl ha
 obtain ⟨a0, h0⟩ := oval (ha 0 (by decide))
 obtain ⟨a1, h1⟩ := oval (ha 1 (by decide))
 obtain ⟨a2, h2⟩ := oval (ha 2 (by decide))
 obtain ⟨a3, h3⟩ := oval (ha 3 (by decide))
 obtain ⟨a4, h4⟩ := oval (ha 4 (by decide))
 obtain ⟨a5, h5⟩ := oval (ha 5 (by decide))
 obtain ⟨a6, h6⟩ := oval (ha 6 (by decide))
 obtain ⟨a7, h7⟩ := oval (ha 7 (by decide))
 refine ⟨⟨[a0, a1, a2, a3, a4, a5, a6, a7], rfl⟩, ?_⟩
 rw [segs_eq hl [(0 * 3, 3), (1 * 3, 3), (2 * 3, 3), (3 * 3, 3), (4 * 3, 3), (5 * 3, 3), (6 * 3, 3), (7 * 3, 3)] rfl]
 simp only [segs, h0, h1, h2, h3, h4, h5, h6, h7]
 rfl
theorem opatch {n : Nat} {x : List MV} (h : CT Tryz.prog (n + 4) 27 x) : ∃ p : PA, x = p.c := by
 obtain ⟨hl, hf⟩ := ct_struct (congrArg TD.k td27) h
 rw [td27] at hl
 obtain ⟨a, ha⟩ := ou32 (hf (0, 22) (by simp))
 obtain ⟨b, hb⟩ := ou32 (hf (1, 22) (by simp))
 obtain ⟨f, hff⟩ := ovals (hf (2, 25) (by simp))
 simp only [td22, td25] at ha hb hff
 refine ⟨⟨a, b, f⟩, ?_⟩
 rw [segs_eq hl [(0, 1), (1, 1), (2, 24)] rfl]
 simp only [segs, ha, hb, hff, List.append_nil]
 rfl
theorem ocard {n : Nat} {x : List MV} (h : CT Tryz.prog (n + 4) 117 x) : ∃ c : CA, x = c.c := by
 obtain ⟨hl, hf⟩ := ct_struct (congrArg TD.k td117) h
 rw [td117] at hl
 obtain ⟨a, ha, _⟩ := oint (hf (0, 3) (by simp))
 obtain ⟨b, hb, _⟩ := oint (hf (1, 3) (by simp))
 obtain ⟨u, hu⟩ := ou32 (hf (2, 22) (by simp))
 obtain ⟨f, hff⟩ := ovals (hf (3, 25) (by simp))
 simp only [td3, td22, td25] at ha hb hu hff
 refine ⟨⟨a, b, u, f⟩, ?_⟩
 rw [segs_eq hl [(0, 1), (1, 1), (2, 1), (3, 24)] rfl]
 simp only [segs, ha, hb, hu, hff, List.append_nil]
 rfl
theorem oitem {n : Nat} {x : List MV} (h : CT Tryz.prog (n + 5) 119 x) : ∃ i : IT, x = .int .i64 i.kd :: .int .i64 i.c.id :: .int .i64 i.c.ver :: .int .u32 (i.c.lab.toNat : Int) :: fc i.c.f := by
 obtain ⟨hl, hf⟩ := ct_struct (congrArg TD.k td119) h
 rw [td119] at hl
 obtain ⟨a, ha, _⟩ := oint (hf (0, 3) (by simp))
 obtain ⟨c, hc⟩ := ocard (hf (1, 117) (by simp))
 simp only [td3, td117] at ha hc
 refine ⟨⟨a, c⟩, ?_⟩
 rw [segs_eq hl [(0, 1), (1, 27)] rfl]
 simp only [segs, ha, hc, List.append_nil]
 rfl
theorem oitems {n : Nat} {x : List MV} (h : CT Tryz.prog (n + 6) 38 x) : ∃ l : List IT, x = [.lst 28 (IT.ks l) false] := by
 obtain ⟨xs, hm, _, hx⟩ := ct_slice (by rw [td38]) h
 obtain ⟨l, rfl⟩ := lists_of fun x hx' => oitem (hx x hx')
 rw [td119] at hm
 exact ⟨l, hm⟩
theorem otok {n : Nat} {x : List MV} (h : CT Tryz.prog (n + 2) 34 x) : ∃ t : TO, x = t.c := by
 obtain ⟨hl, hf⟩ := ct_struct (congrArg TD.k td34) h
 rw [td34] at hl
 obtain ⟨a, ha, _⟩ := oint (hf (0, 3) (by simp))
 obtain ⟨b, hb, _⟩ := oint (hf (1, 3) (by simp))
 obtain ⟨c, hc, _⟩ := oint (hf (2, 3) (by simp))
 obtain ⟨d, hd, _⟩ := oint (hf (3, 3) (by simp))
 simp only [td3] at ha hb hc hd
 refine ⟨⟨a, b, c, d⟩, ?_⟩
 rw [segs_eq hl [(0, 1), (1, 1), (2, 1), (3, 1)] rfl]
 simp only [segs, ha, hb, hc, hd]
 rfl
theorem oedit {n : Nat} {x : List MV} (h : CT Tryz.prog (n + 5) 29 x) : ∃ e : ED, x = e.c := by
 obtain ⟨hl, hf⟩ := ct_struct (congrArg TD.k td29) h
 rw [td29] at hl
 obtain ⟨a, ha, _⟩ := oint (hf (0, 3) (by simp))
 obtain ⟨b, hb, _⟩ := oint (hf (1, 3) (by simp))
 obtain ⟨c, hc, _⟩ := oint (hf (2, 3) (by simp))
 obtain ⟨p, hp⟩ := opatch (hf (3, 27) (by simp))
 simp only [td3, td27] at ha hb hc hp
 refine ⟨⟨a, b, c, p⟩, ?_⟩
 rw [segs_eq hl [(0, 1), (1, 1), (2, 1), (3, 26)] rfl]
 simp only [segs, ha, hb, hc, hp, List.append_nil]
 rfl
theorem oreply {n : Nat} {x : List MV} (h : CT Tryz.prog (n + 5) 37 x) : ∃ a : RE, x = a.c := by
 obtain ⟨hl, hf⟩ := ct_struct (congrArg TD.k td37) h
 rw [td37] at hl
 obtain ⟨a, ha, _⟩ := oint (hf (0, 3) (by simp))
 obtain ⟨b, hb, _⟩ := oint (hf (1, 3) (by simp))
 obtain ⟨c, hc, _⟩ := oint (hf (2, 3) (by simp))
 obtain ⟨d, hd⟩ := oerr (hf (3, 35) (by simp))
 obtain ⟨e, he, _⟩ := oint (hf (4, 3) (by simp))
 obtain ⟨f, hff, _⟩ := oint (hf (5, 3) (by simp))
 obtain ⟨g, hg, _⟩ := oint (hf (6, 3) (by simp))
 obtain ⟨i, hi, _⟩ := oint (hf (7, 3) (by simp))
 obtain ⟨l, hll⟩ := onodes (hf (8, 30) (by simp))
 obtain ⟨u, hu⟩ := ou32 (hf (9, 22) (by simp))
 simp only [td3, td35, td30, td22] at ha hb hc hd he hff hg hi hll hu
 refine ⟨⟨a, b, c, d, e, f, g, i, l, u⟩, ?_⟩
 rw [segs_eq hl [(0, 1), (1, 1), (2, 1), (3, 1), (4, 1), (5, 1), (6, 1), (7, 1), (8, 1), (9, 1)] rfl]
 simp only [segs, ha, hb, hc, hd, he, hff, hg, hi, hll, hu]
 rfl
theorem opage {n : Nat} {x : List MV} (h : CT Tryz.prog (n + 7) 40 x) : ∃ p : PG, x = p.c := by
 obtain ⟨hl, hf⟩ := ct_struct (congrArg TD.k td40) h
 rw [td40] at hl
 obtain ⟨a, ha⟩ := oerr (hf (0, 35) (by simp))
 obtain ⟨b, hb⟩ := obool (hf (1, 4) (by simp))
 obtain ⟨c, hc⟩ := otok (hf (2, 34) (by simp))
 obtain ⟨d, hd⟩ := otok (hf (6, 34) (by simp))
 obtain ⟨l, hll⟩ := oitems (hf (10, 38) (by simp))
 simp only [td35, td4, td34, td38] at ha hb hc hd hll
 refine ⟨⟨a, b, c, d, l⟩, ?_⟩
 rw [segs_eq hl [(0, 1), (1, 1), (2, 4), (6, 4), (10, 1)] rfl]
 simp only [segs, ha, hb, hc, hd, hll]
 rfl
theorem ocmd {n : Nat} {x : List MV} (h : CT Tryz.prog (n + 6) 32 x) : ∃ c : CM, x = c.c ∧ Rg c := by
 obtain ⟨hl, hf⟩ := ct_struct (congrArg TD.k td32) h
 rw [td32] at hl
 obtain ⟨a, ha, _⟩ := oint (hf (0, 3) (by simp))
 obtain ⟨e, he⟩ := oedit (hf (1, 29) (by simp))
 obtain ⟨b, hb, ib⟩ := oint (hf (30, 3) (by simp))
 obtain ⟨c, hc, ic⟩ := oint (hf (31, 3) (by simp))
 obtain ⟨d, hd, id⟩ := oint (hf (32, 3) (by simp))
 obtain ⟨f, hff, if'⟩ := oint (hf (33, 3) (by simp))
 obtain ⟨g, hg, ig⟩ := oint (hf (34, 3) (by simp))
 obtain ⟨p, hp⟩ := opatch (hf (35, 27) (by simp))
 obtain ⟨l, hll⟩ := onodes (hf (61, 30) (by simp))
 obtain ⟨u, hu⟩ := ou32 (hf (62, 22) (by simp))
 simp only [td3, td29, td27, td30, td22] at ha he hb hc hd hff hg hp hll hu
 refine ⟨⟨a, e, b, c, d, f, g, p, l, u⟩, ?_, ib, ic, id, if', ig⟩
 rw [segs_eq hl [(0, 1), (1, 29), (30, 1), (31, 1), (32, 1), (33, 1), (34, 1), (35, 26), (61, 1), (62, 1)] rfl]
 simp only [segs, ha, he, hb, hc, hd, hff, hg, hp, hll, hu, CM.c, CM.k]
 simp only [ED.c, PA.c, List.cons_append, List.nil_append, List.append_assoc, List.append_nil]
theorem omsg {n : Nat} {x : List MV} (h : CT Tryz.prog (n + 8) 42 x) : ∃ m : MS, x = m.c ∧ Rg m.cmd := by
 obtain ⟨hl, hf⟩ := ct_struct (congrArg TD.k td42) h
 rw [td42] at hl
 obtain ⟨a, ha, _⟩ := oint (hf (0, 3) (by simp))
 obtain ⟨b, hb, _⟩ := oint (hf (1, 3) (by simp))
 obtain ⟨c, hc, hr⟩ := ocmd (hf (2, 32) (by simp))
 obtain ⟨t, ht⟩ := otok (hf (65, 34) (by simp))
 obtain ⟨r, hrr⟩ := oreply (hf (69, 37) (by simp))
 obtain ⟨p, hp⟩ := opage (hf (79, 40) (by simp))
 obtain ⟨e, he⟩ := oerr (hf (90, 35) (by simp))
 simp only [td3, td32, td34, td37, td40, td35] at ha hb hc ht hrr hp he
 refine ⟨⟨a, b, c, t, r, p, e⟩, ?_, hr⟩
 rw [segs_eq hl [(0, 1), (1, 1), (2, 63), (65, 4), (69, 10), (79, 11), (90, 1)] rfl]
 simp only [segs, ha, hb, hc, ht, hrr, hp, he, MS.c, MS.k, CM.c, CM.k, RE.c, PG.c]
 simp only [List.cons_append, List.nil_append, List.append_assoc, List.append_nil]
theorem amsg {m : MV} (h : AT Tryz.prog 8 42 m) : ∃ x : MS, m = .agg x.c ∧ Rg x.cmd := by
 obtain ⟨cs, rfl, h1⟩ := at_agg (by rw [td42]; rfl) h
 obtain ⟨x, rfl, hr⟩ := omsg (n := 0) h1
 exact ⟨x, rfl, hr⟩
theorem abytes {m : MV} (h : AT Tryz.prog 8 9 m) : ∃ s : BL, m = .str (bsS s) := by
 obtain ⟨s, hs, _⟩ := ct_str (by rw [td9]) (at_cell (by rw [td9]; rfl) h)
 exact ⟨s.data.toList, by rw [cell_eq hs]; simp [bsS]⟩
theorem own_ : ownKnob Tryz.prog.godebug = none := by kernel_rfl
end Go.Proofs.YtfbodefnblpflaaGreatDoor
end

section
namespace Go.Proofs.YtfbodefnblpflaaGreatDoor
open Go.ChangeShapes Go.WideShapes Go.RowKit
set_option maxRecDepth 100000
abbrev laidT : List (String × DataW Unit) := [("math/bits.deBruijn32tab", Rows.laid_math_bits_deBruijn32tab)]
theorem gTab : Tryz.prog.globalNamed "math/bits.deBruijn32tab" = some 0 := by kernel_rfl
theorem tTab : (Tryz.prog.globals[0]?).map (·.type) = some 211 := by kernel_rfl
theorem uTab : Tryz.prog.underlying 211 = some (.array 32 5) := by kernel_rfl
theorem uU8 : Tryz.prog.underlying 5 = some (.int .u8) := by kernel_rfl
theorem cU8 : Tryz.prog.cellsOf 5 = 1 := by kernel_rfl
theorem cTab : Tryz.prog.cellsOf 211 = 32 := by kernel_rfl
theorem gt_of_laid : ∀ W, laidMetH Tryz.prog laidT W → GTok W := fun W h => by
 rw [MakeChecks.laidMetH_plain _ _ _ (by kernel_rfl)] at h
 have ht : Go.Lib.TabIs Tryz.prog W "math/bits.deBruijn32tab" .u8 dbT := Go.Lib.tabIs_of_head gTab tTab uTab uU8 cU8 cTab h
 intro g i v hv
 by_cases hg : g = 0
 ·subst hg
  rw [GT_tz, Option.map_eq_some_iff] at hv
  obtain ⟨n, hn, rfl⟩ := hv
  have hi := (List.getElem?_eq_some_iff.1 hn).1
  rw [ht.cell gTab i hi]
  simp [List.getD, hn]
 ·unfold GT at hv
  rw [if_neg hg] at hv
  cases hv
theorem door_met (os : Os) (args : Array Value) : laidMetH Tryz.prog laidT ((World.doorLaid Tryz.prog 40 os).forCall (fun _ _ => 0) ⟨#[], args, []⟩).memory :=
 laidMetH_of_parts3 (fuel := 8) (laidMet_of_run' 8 (by kernel_rfl) (by kernel_rfl)) (by kernel_rfl) (by kernel_rfl)
end Go.Proofs.YtfbodefnblpflaaGreatDoor
end
