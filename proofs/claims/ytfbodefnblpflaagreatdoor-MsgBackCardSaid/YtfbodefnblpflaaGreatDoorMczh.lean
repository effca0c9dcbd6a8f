/- Parts of the proof, joined. Each part says what it proves, and under which conditions it does: those that its theorems name. -/
import Derived.Test.YtfbodefnblpflaaGreatDoorMczc
import Derived.Test.YtfbodefnblpflaaGreatDoorMczd
import Derived.Test.YtfbodefnblpflaaGreatDoorMczf
import Derived.Test.YtfbodefnblpflaaGreatDoorMczg
set_option linter.unusedVariables false
set_option linter.unusedSimpArgs false
set_option maxHeartbeats 4000000
section
namespace Go.Proofs.YtfbodefnblpflaaGreatDoor
set_option maxRecDepth 100000
set_option maxHeartbeats 4000000
theorem ptokR_call {bs : BL} [hb : Few bs] (r : RD) [hs : Sfx bs r] (l : Nat) : MCalls Tryz.prog 63 [.ptr l 0 0] (St.none.set l (rP bs r)) (fun v σ' => v = .agg (tokR r).1.c ∧ σ' = St.none.set l (rP bs (tokR r).2)) := by
 refine MCalls.obj (MCalls.body 34 [.cell 2 34] Tryz.func63 rfl rfl rfl rfl ?_)
 have hm := ptmost_call
 have h1 := pRNum_call 5 (bs := bs) r l
 haveI hs1 : Sfx bs (numR 5 r).2 := inferInstance
 obtain ⟨a, ha⟩ : ∃ a, numR 5 r = a := ⟨_, rfl⟩
 rw [ha] at h1 hs1
 have h2 := pRNum_call 1099511627776 (bs := bs) a.2 l
 obtain ⟨k, b, hk, hfb, hs2, hkb, hk0, hk1⟩ := pfrom_two (bs := bs) 1099511627776 a.2 l
 rw [hk] at h2
 have h3 := pRFail_call 3 (bs := bs) k.2 l
 have h4 := pRNum_call 1099511627776 (bs := bs) b.2 l
 haveI hs3 : Sfx bs (numR 1099511627776 b.2).2 := inferInstance
 obtain ⟨c, hc⟩ : ∃ c, numR 1099511627776 b.2 = c := ⟨_, rfl⟩
 rw [hc] at h4 hs3
 have h5 := pRNum_call 1073741824 (bs := bs) c.2 l
 haveI hs4 : Sfx bs (numR 1073741824 c.2).2 := inferInstance
 obtain ⟨d, hd⟩ : ∃ d, numR 1073741824 c.2 = d := ⟨_, rfl⟩
 rw [hd] at h5 hs4
 have h6 := pRErr_call (bs := bs) d.2 l
 have e : tokR r = okR tk0 (⟨a.1, b.1, c.1, d.1⟩, d.2) := by
  unfold tokR big idMax
  simp only [ha, hfb, hc, hd]
 obtain ⟨res, hres⟩ : ∃ p, tokR r = p := ⟨_, rfl⟩
 rw [hres] at e ⊢
 clear ha hfb hc hd hres hk
 have hof := ptof_call ⟨a.1, b.1, c.1, d.1⟩
 obtain ⟨k1, k2⟩ := k
 obtain ⟨b1, b2⟩ := b
 simp only at *
 subst hkb
 obtain ⟨Z, R0, R1, R2, R3, R4⟩ : ∃ Z : Int → RD, Z 0 = r ∧ Z 1 = a.2 ∧ Z 2 = b2 ∧ Z 3 = c.2 ∧ Z 4 = d.2 := ⟨fun i => if i = 0 then r else if i = 1 then a.2 else if i = 2 then b2 else if i = 3 then c.2 else d.2, by simp, by simp, by simp, by simp, by simp⟩
 obtain ⟨L, L0, L1, L2, L3, L4⟩ : ∃ L : Int → List MV, L 0 = tk0.c ∧ L 1 = [.int .i64 a.1, .int .i64 0, .int .i64 0, .int .i64 0] ∧ L 2 = [.int .i64 a.1, .int .i64 k1, .int .i64 0, .int .i64 0] ∧ L 3 = [.int .i64 a.1, .int .i64 k1, .int .i64 c.1, .int .i64 0] ∧ L 4 = [.int .i64 a.1, .int .i64 k1, .int .i64 c.1, .int .i64 d.1] := ⟨fun i => if i = 0 then tk0.c else if i = 1 then [.int .i64 a.1, .int .i64 0, .int .i64 0, .int .i64 0] else if i = 2 then [.int .i64 a.1, .int .i64 k1, .int .i64 0, .int .i64 0] else if i = 3 then [.int .i64 a.1, .int .i64 k1, .int .i64 c.1, .int .i64 0] else [.int .i64 a.1, .int .i64 k1, .int .i64 c.1, .int .i64 d.1], by simp, by simp, by simp, by simp, by simp⟩
 repeat' (first | (with_reducible first | refine up hm ?_) | (with_reducible first | (refine wT ?_; (first | ((fail_if_success (have := nl1)); refine wN fun nl1 hnl => ?_) | ((fail_if_success (have := nl2)); refine wN fun nl2 hnl => ?_) | ((fail_if_success (have := nl3)); refine wN fun nl3 hnl => ?_) | refine wN fun _ hnl => ?_); revert hnl; (repeat refine wS fun _ _ => ?_); intro hnl) | refine wE ?_ | (refine wK ?_ ?_ <;> intro h) | (refine wB ?_ ?_ <;> intro h <;> simp only [h])) | simp (maxSteps := 4000000) (disch := first | decide | assumption | omega | (simp only [wL]; omega)) only [go_sem, simprocAttr, Tryz.f63])
 have d1 : nl1 ≠ l := by assumption
 have d2 : nl2 ≠ l := by assumption
 have d3 : nl3 ≠ l := by assumption
 have d4 : nl2 ≠ nl1 := by assumption
 have d5 : nl3 ≠ nl1 := by assumption
 have d6 : nl3 ≠ nl2 := by assumption
 have e1 := Ne.symm d1
 have e2 := Ne.symm d2
 have e3 := Ne.symm d3
 have e4 := Ne.symm d4
 have e5 := Ne.symm d5
 have e6 := Ne.symm d6
 refine mloop_intro (α := Int) (fun i => ⟨34, [(7, .int .i64 i), (4, .ptr nl3 0 0), (3, .ptr nl2 0 0), (2, .ptr nl1 0 0), (0, .ptr l 0 0)], []⟩)
  (fun i => (((St.none.set l (rP bs (Z i))).set nl1 (.row 34 4 [tk0.c])).set nl2 (.row 151 4 [L i])).set nl3 (.row 151 4 [topC])) (fun i => 0 ≤ i ∧ i ≤ 4) (fun i => (4 - i).toNat) ?_ ?_
 ·refine .of (.less ?_ (σ1 := (((St.none.set l (rP bs (Z 0))).set nl1 (.row 34 4 [tk0.c])).set nl2 (.row 151 4 [L 0])).set nl3 (.row 151 4 [topC])) (by rw [R0, L0]; exact St.le_refl _)) ⟨0, rfl, rfl, by omega, by omega⟩
  simp (maxSteps := 4000000) (disch := first | decide | assumption | omega | (simp only [wL]; omega)) only [go_sem, simprocAttr, weak_int, weak_same]
 ·rintro i ⟨h0, h4'⟩
  have hi : i = 0 ∨ (k1 = 0 ∧ i = 1) ∨ (k1 ≠ 0 ∧ i = 1) ∨ i = 2 ∨ i = 3 ∨ (d.2.e = 0 ∧ i = 4) ∨ (d.2.e ≠ 0 ∧ i = 4) := by omega
  rcases hi with rfl | ⟨hk, rfl⟩ | ⟨hk, rfl⟩ | rfl | rfl | ⟨he, rfl⟩ | ⟨he, rfl⟩
  all_goals first | (rw [okR_y he] at e; subst e) | (rw [okR_n he] at e; subst e) | (rw [(hk0 hk).1] at h3; subst hk) | (have := (hk1 hk).symm; subst this) | skip
  all_goals
   simp only [R0, R1, R2, R3, R4, L0, L1, L2, L3, L4]
   repeat' (first | (with_reducible (refine wQ ?_; first | refine uR (h1 ..) ?_ | refine uR (h2 ..) ?_ | refine uR (h3 ..) ?_ | refine uR (h4 ..) ?_ | refine uR (h5 ..) ?_ | refine uR (h6 ..) ?_)) | (with_reducible first | refine up hof ?_) | (with_reducible first | (refine wT ?_; (first | ((fail_if_success (have := nl1)); refine wN fun nl1 hnl => ?_) | ((fail_if_success (have := nl2)); refine wN fun nl2 hnl => ?_) | ((fail_if_success (have := nl3)); refine wN fun nl3 hnl => ?_) | refine wN fun _ hnl => ?_); revert hnl; (repeat refine wS fun _ _ => ?_); intro hnl) | refine wE ?_ | (refine wK ?_ ?_ <;> intro h) | (refine wB ?_ ?_ <;> intro h <;> simp only [h])) | simp (maxSteps := 4000000) (disch := first | decide | assumption | omega | (simp only [wL]; omega)) only [go_sem, simprocAttr])
  case' inr.inr.inr.inr.inr.inr => rfl
  all_goals first
   | refine .of (.less ?_ (σ1 := (((St.none.set l (rP bs (Z 1))).set nl1 (.row 34 4 [tk0.c])).set nl2 (.row 151 4 [L 1])).set nl3 (.row 151 4 [topC])) (by rw [R1, L1]; exact St.le_refl _)) ⟨1, rfl, rfl, ⟨by omega, by omega⟩, by omega⟩
   | refine .of (.less ?_ (σ1 := (((St.none.set l (rP bs (Z 2))).set nl1 (.row 34 4 [tk0.c])).set nl2 (.row 151 4 [L 2])).set nl3 (.row 151 4 [topC])) (by rw [R2, L2]; exact St.le_refl _)) ⟨2, rfl, rfl, ⟨by omega, by omega⟩, by omega⟩
   | refine .of (.less ?_ (σ1 := (((St.none.set l (rP bs (Z 3))).set nl1 (.row 34 4 [tk0.c])).set nl2 (.row 151 4 [L 3])).set nl3 (.row 151 4 [topC])) (by rw [R3, L3]; exact St.le_refl _)) ⟨3, rfl, rfl, ⟨by omega, by omega⟩, by omega⟩
   | refine .of (.less ?_ (σ1 := (((St.none.set l (rP bs (Z 4))).set nl1 (.row 34 4 [tk0.c])).set nl2 (.row 151 4 [L 4])).set nl3 (.row 151 4 [topC])) (by rw [R4, L4]; exact St.le_refl _)) ⟨4, rfl, rfl, ⟨by omega, by omega⟩, by omega⟩
  all_goals simp (maxSteps := 4000000) (disch := first | decide | assumption | omega | (simp only [wL]; omega)) only [go_sem, simprocAttr, weak_int, weak_same]
end Go.Proofs.YtfbodefnblpflaaGreatDoor
end

section
namespace Go.Proofs.YtfbodefnblpflaaGreatDoor
set_option maxRecDepth 100000
set_option maxHeartbeats 4000000
theorem pfromL_call (least most : Int) {bs : BL} [hb : Few bs] (r : RD) [hs : Sfx bs r] (l : Nat) : MCalls Tryz.prog 118 [.ptr l 0 0, .int .i64 least, .int .i64 most] (St.none.set l (rP bs r)) (fun v σ' => v = .int .i64 (fromR least most r).1 ∧ σ' = St.none.set l (rP bs (fromR least most r).2)) := by
 refine (MCalls.body 17 [.tmp 6] Tryz.func118 rfl rfl rfl rfl ?_)
 have h1 := pRNum_call most (bs := bs) r l
 obtain ⟨n, hn⟩ : ∃ n, numR most r = n := ⟨_, rfl⟩
 rw [hn] at h1
 have h2 := pRFail_call 3 (bs := bs) n.2 l
 have e : fromR least most r = (n.1, if n.1 < least then failR 3 n.2 else n.2) := by unfold fromR; rw [hn]
 rw [e]
 by_cases h0 : n.1 < least
 ·rw [if_pos h0]
  repeat' (first | (with_reducible (refine wQ ?_; first | refine uR (h1 ..) ?_ | refine uR (h2 ..) ?_)) | (with_reducible first | (refine wN fun _ hnl => ?_; revert hnl; (repeat refine wS fun _ _ => ?_); intro hnl) | refine wE ?_ | (refine wK ?_ ?_ <;> intro h) | (refine wB ?_ ?_ <;> intro h <;> simp only [h])) | simp (maxSteps := 4000000) (disch := first | decide | assumption | omega | (simp only [wL]; omega)) only [go_sem, simprocAttr, Tryz.f118])
 ·rw [if_neg h0]
  repeat' (first | (with_reducible (refine wQ ?_; first | refine uR (h1 ..) ?_ | refine uR (h2 ..) ?_)) | (with_reducible first | (refine wN fun _ hnl => ?_; revert hnl; (repeat refine wS fun _ _ => ?_); intro hnl) | refine wE ?_ | (refine wK ?_ ?_ <;> intro h) | (refine wB ?_ ?_ <;> intro h <;> simp only [h])) | simp (maxSteps := 4000000) (disch := first | decide | assumption | omega | (simp only [wL]; omega)) only [go_sem, simprocAttr, Tryz.f118])
theorem numR_stk {m : Int} {r : RD} (h : r.e ≠ 0) : numR m r = (0, r) := if_neg h
theorem fromR_stk {a m : Int} {r : RD} (h : r.e ≠ 0) : fromR a m r = (0, r) := by
 unfold fromR
 rw [numR_stk h]
 simp only [failR_stk h, ite_self]
theorem predR_stk {r : RD} (h : r.e ≠ 0) : predR r = ([], r) := by
 unfold predR
 rw [fromR_stk h]
 simp only [listR_stk _ (([] : List ND), r) h]
 rw [if_neg h]
theorem repR_2 {r : RD} {k d q c s i v : Int × RD} (hk : fromR 2 4 r = k) (hd : numR 5 k.2 = d) (hq : fromR 1 1099511627776 d.2 = q) (hc : numR 16 q.2 = c) (hs : numR 1099511627776 c.2 = s) (hi : fromR 1 1073741823 s.2 = i) (hv : fromR 1 1099511627776 i.2 = v) (h0 : c.1 = 0) (h2 : k.1 = 2) :
  repR r = okR re0 (⟨2, d.1, q.1, 0, i.1, v.1, s.1, 0, [], 0⟩, v.2) := by
 by_cases he : c.2.e = 0
 ·simp [repR, big, idMax, hk, hd, hq, hc, h0, he, hs, h2, hi, hv]
 ·have e : repR r = okR re0 (⟨k.1, d.1, q.1, c.1, 0, 0, 0, 0, [], UInt32.ofNat 0⟩, c.2) := by
   simp [repR, big, idMax, hk, hd, hq, hc, he]
  rw [numR_stk he] at hs
  subst hs
  rw [fromR_stk he] at hi
  subst hi
  rw [fromR_stk he] at hv
  subst hv
  rw [e, okR_n he, okR_n he]
theorem repR_3 {r : RD} {k d q c s v m : Int × RD} {f : List ND × RD} (hk : fromR 2 4 r = k) (hd : numR 5 k.2 = d) (hq : fromR 1 1099511627776 d.2 = q) (hc : numR 16 q.2 = c) (hs : numR 1099511627776 c.2 = s) (hv : fromR 1 1099511627776 s.2 = v) (hf : predR v.2 = f) (hm : numR 511 f.2 = m) (h0 : c.1 = 0) (h2 : k.1 = 3) :
  repR r = okR re0 (⟨3, d.1, q.1, 0, 0, 0, s.1, v.1, f.1, UInt32.ofNat m.1.toNat⟩, m.2) := by
 by_cases he : c.2.e = 0
 ·simp [repR, big, idMax, hk, hd, hq, hc, h0, he, hs, h2, hv, hf, hm]
 ·have e : repR r = okR re0 (⟨k.1, d.1, q.1, c.1, 0, 0, 0, 0, [], UInt32.ofNat 0⟩, c.2) := by
   simp [repR, big, idMax, hk, hd, hq, hc, he]
  rw [numR_stk he] at hs
  subst hs
  rw [fromR_stk he] at hv
  subst hv
  rw [predR_stk he] at hf
  subst hf
  rw [numR_stk he] at hm
  subst hm
  rw [e, okR_n he, okR_n he]
theorem repR_4 {r : RD} {k d q c s : Int × RD} (hk : fromR 2 4 r = k) (hd : numR 5 k.2 = d) (hq : fromR 1 1099511627776 d.2 = q) (hc : numR 16 q.2 = c) (hs : numR 1099511627776 c.2 = s) (h0 : c.1 = 0) (h2 : k.1 ≠ 2) (h3 : k.1 ≠ 3) :
  repR r = okR re0 (⟨k.1, d.1, q.1, 0, 0, 0, s.1, 0, [], 0⟩, s.2) := by
 by_cases he : c.2.e = 0
 ·simp [repR, big, idMax, hk, hd, hq, hc, h0, he, hs, h2, h3]
 ·have e : repR r = okR re0 (⟨k.1, d.1, q.1, c.1, 0, 0, 0, 0, [], UInt32.ofNat 0⟩, c.2) := by
   simp [repR, big, idMax, hk, hd, hq, hc, he]
  rw [numR_stk he] at hs
  subst hs
  rw [e, okR_n he, okR_n he]
theorem repR_n {r : RD} {k d q c : Int × RD} (hk : fromR 2 4 r = k) (hd : numR 5 k.2 = d) (hq : fromR 1 1099511627776 d.2 = q) (hc : numR 16 q.2 = c) (h0 : c.1 ≠ 0) :
  repR r = okR re0 (⟨k.1, d.1, q.1, c.1, 0, 0, 0, 0, [], 0⟩, c.2) := by
 simp [repR, big, idMax, hk, hd, hq, hc, h0]
theorem prepR_call {bs : BL} [hb : Few bs] (r : RD) [hs : Sfx bs r] (l : Nat) : MCalls Tryz.prog 66 [.ptr l 0 0] (St.none.set l (rP bs r)) (fun v σ' => v = .agg (repR r).1.c ∧ σ' = St.none.set l (rP bs (repR r).2)) := by
 refine MCalls.seenO (MCalls.body 49 [.cell 2 37] Tryz.func66 rfl rfl rfl rfl ?_)
 have h1 := pfromL_call 2 4 (bs := bs) r l
 haveI hs1 : Sfx bs (fromR 2 4 r).2 := inferInstance
 obtain ⟨k, hk⟩ : ∃ k, fromR 2 4 r = k := ⟨_, rfl⟩
 rw [hk] at h1 hs1
 have h2 := pRNum_call 5 (bs := bs) k.2 l
 haveI hs2 : Sfx bs (numR 5 k.2).2 := inferInstance
 obtain ⟨d, hd⟩ : ∃ d, numR 5 k.2 = d := ⟨_, rfl⟩
 rw [hd] at h2 hs2
 have h3 := pfromL_call 1 1099511627776 (bs := bs) d.2 l
 haveI hs3 : Sfx bs (fromR 1 1099511627776 d.2).2 := inferInstance
 obtain ⟨q, hq⟩ : ∃ q, fromR 1 1099511627776 d.2 = q := ⟨_, rfl⟩
 rw [hq] at h3 hs3
 have h4 := pRNum_call 16 (bs := bs) q.2 l
 haveI hs4 : Sfx bs (numR 16 q.2).2 := inferInstance
 obtain ⟨c, hc⟩ : ∃ c, numR 16 q.2 = c := ⟨_, rfl⟩
 rw [hc] at h4 hs4
 by_cases h0 : c.1 = 0
 ·have h5 := pRNum_call 1099511627776 (bs := bs) c.2 l
  haveI hs5 : Sfx bs (numR 1099511627776 c.2).2 := inferInstance
  obtain ⟨s, hse⟩ : ∃ s, numR 1099511627776 c.2 = s := ⟨_, rfl⟩
  rw [hse] at h5 hs5
  by_cases k2 : k.1 = 2
  ·have h6 := pfromL_call 1 1073741823 (bs := bs) s.2 l
   haveI hs6 : Sfx bs (fromR 1 1073741823 s.2).2 := inferInstance
   obtain ⟨i, hi⟩ : ∃ i, fromR 1 1073741823 s.2 = i := ⟨_, rfl⟩
   rw [hi] at h6 hs6
   have h7 := pfromL_call 1 1099511627776 (bs := bs) i.2 l
   haveI hs7 : Sfx bs (fromR 1 1099511627776 i.2).2 := inferInstance
   obtain ⟨v, hv⟩ : ∃ v, fromR 1 1099511627776 i.2 = v := ⟨_, rfl⟩
   rw [hv] at h7 hs7
   have h8 := pRErr_call (bs := bs) v.2 l
   rw [repR_2 hk hd hq hc hse hi hv h0 k2]
   clear hk hd hq hc hse hi hv
   by_cases he : v.2.e = 0
   ·rw [okR_y he]
    repeat' (first | (with_reducible (refine wQ ?_; first | refine uR (h1 ..) ?_ | refine uR (h2 ..) ?_ | refine uR (h3 ..) ?_ | refine uR (h4 ..) ?_ | refine uR (h5 ..) ?_ | refine uR (h6 ..) ?_ | refine uR (h7 ..) ?_ | refine uR (h8 ..) ?_)) | (with_reducible first | (refine wN fun _ hnl => ?_; revert hnl; (repeat refine wS fun _ _ => ?_); intro hnl) | refine wE ?_ | (refine wK ?_ ?_ <;> intro h) | (refine wB ?_ ?_ <;> intro h <;> simp only [h])) | simp (maxSteps := 4000000) (disch := first | decide | assumption | omega | (simp only [wL]; omega)) only [go_sem, simprocAttr, Tryz.f66, h0])
    all_goals (try (exfalso; omega))
    all_goals (try simp only [k2, h0])
    all_goals first | exact vre (a := ⟨2, d.1, q.1, 0, i.1, v.1, s.1, 0, [], 0⟩) (.nil _ _) | exact ⟨vre (a := ⟨2, d.1, q.1, 0, i.1, v.1, s.1, 0, [], 0⟩) (.nil _ _), rfl⟩
   ·rw [okR_n he]
    repeat' (first | (with_reducible (refine wQ ?_; first | refine uR (h1 ..) ?_ | refine uR (h2 ..) ?_ | refine uR (h3 ..) ?_ | refine uR (h4 ..) ?_ | refine uR (h5 ..) ?_ | refine uR (h6 ..) ?_ | refine uR (h7 ..) ?_ | refine uR (h8 ..) ?_)) | (with_reducible first | (refine wN fun _ hnl => ?_; revert hnl; (repeat refine wS fun _ _ => ?_); intro hnl) | refine wE ?_ | (refine wK ?_ ?_ <;> intro h) | (refine wB ?_ ?_ <;> intro h <;> simp only [h])) | simp (maxSteps := 4000000) (disch := first | decide | assumption | omega | (simp only [wL]; omega)) only [go_sem, simprocAttr, Tryz.f66, h0])
    all_goals (try (exfalso; omega))
    all_goals first | exact vre (a := re0) (.nil _ _) | exact ⟨vre (a := re0) (.nil _ _), rfl⟩
  ·by_cases k3 : k.1 = 3
   ·have h6 := pfromL_call 1 1099511627776 (bs := bs) s.2 l
    haveI hs6 : Sfx bs (fromR 1 1099511627776 s.2).2 := inferInstance
    obtain ⟨v, hv⟩ : ∃ v, fromR 1 1099511627776 s.2 = v := ⟨_, rfl⟩
    rw [hv] at h6 hs6
    have h7 := ppredR_call (bs := bs) v.2 l
    haveI hs7 : Sfx bs (predR v.2).2 := inferInstance
    obtain ⟨f, hf⟩ : ∃ f, predR v.2 = f := ⟨_, rfl⟩
    rw [hf] at h7 hs7
    have h9 := pRNum_call 511 (bs := bs) f.2 l
    haveI hs9 : Sfx bs (numR 511 f.2).2 := inferInstance
    have hm1 := (numR_rng 511 f.2).1
    have hm2 := numR_most (most := 511) (by decide) f.2
    obtain ⟨m, hm⟩ : ∃ m, numR 511 f.2 = m := ⟨_, rfl⟩
    rw [hm] at h9 hs9 hm1 hm2
    have h8 := pRErr_call (bs := bs) m.2 l
    have hw := wrapU hm1 (by omega)
    rw [repR_3 hk hd hq hc hse hv hf hm h0 k3]
    clear hk hd hq hc hse hf hv hm
    by_cases he : m.2.e = 0
    ·rw [okR_y he]
     repeat' (first | (with_reducible (refine wQ ?_; first | refine uR (h1 ..) ?_ | refine uR (h2 ..) ?_ | refine uR (h3 ..) ?_ | refine uR (h4 ..) ?_ | refine uR (h5 ..) ?_ | refine uR (h6 ..) ?_ | refine uR (h7 ..) ?_ | refine uR (h8 ..) ?_ | refine uR (h9 ..) ?_)) | (with_reducible first | (refine wN fun _ hnl => ?_; revert hnl; (repeat refine wS fun _ _ => ?_); intro hnl) | refine wE ?_ | (refine wK ?_ ?_ <;> intro h) | (refine wB ?_ ?_ <;> intro h <;> simp only [h])) | simp (maxSteps := 4000000) (disch := first | decide | assumption | omega | (simp only [wL]; omega)) only [go_sem, simprocAttr, Tryz.f66, h0, hw])
     all_goals (try (exfalso; omega))
     all_goals (try simp only [k3, h0])
     all_goals first | exact vre (a := ⟨3, d.1, q.1, 0, 0, 0, s.1, v.1, f.1, UInt32.ofNat m.1.toNat⟩) (.same _) | exact ⟨vre (a := ⟨3, d.1, q.1, 0, 0, 0, s.1, v.1, f.1, UInt32.ofNat m.1.toNat⟩) (.same _), rfl⟩
    ·rw [okR_n he]
     repeat' (first | (with_reducible (refine wQ ?_; first | refine uR (h1 ..) ?_ | refine uR (h2 ..) ?_ | refine uR (h3 ..) ?_ | refine uR (h4 ..) ?_ | refine uR (h5 ..) ?_ | refine uR (h6 ..) ?_ | refine uR (h7 ..) ?_ | refine uR (h8 ..) ?_ | refine uR (h9 ..) ?_)) | (with_reducible first | (refine wN fun _ hnl => ?_; revert hnl; (repeat refine wS fun _ _ => ?_); intro hnl) | refine wE ?_ | (refine wK ?_ ?_ <;> intro h) | (refine wB ?_ ?_ <;> intro h <;> simp only [h])) | simp (maxSteps := 4000000) (disch := first | decide | assumption | omega | (simp only [wL]; omega)) only [go_sem, simprocAttr, Tryz.f66, h0, hw])
     all_goals (try (exfalso; omega))
     all_goals first | exact vre (a := re0) (.nil _ _) | exact ⟨vre (a := re0) (.nil _ _), rfl⟩
   ·have h8 := pRErr_call (bs := bs) s.2 l
    rw [repR_4 hk hd hq hc hse h0 k2 k3]
    clear hk hd hq hc hse
    by_cases he : s.2.e = 0
    ·rw [okR_y he]
     repeat' (first | (with_reducible (refine wQ ?_; first | refine uR (h1 ..) ?_ | refine uR (h2 ..) ?_ | refine uR (h3 ..) ?_ | refine uR (h4 ..) ?_ | refine uR (h5 ..) ?_ | refine uR (h8 ..) ?_)) | (with_reducible first | (refine wN fun _ hnl => ?_; revert hnl; (repeat refine wS fun _ _ => ?_); intro hnl) | refine wE ?_ | (refine wK ?_ ?_ <;> intro h) | (refine wB ?_ ?_ <;> intro h <;> simp only [h])) | simp (maxSteps := 4000000) (disch := first | decide | assumption | omega | (simp only [wL]; omega)) only [go_sem, simprocAttr, Tryz.f66, h0])
     all_goals (try (exfalso; omega))
     all_goals (try simp only [h0])
     all_goals first | exact vre (a := ⟨k.1, d.1, q.1, 0, 0, 0, s.1, 0, [], 0⟩) (.nil _ _) | exact ⟨vre (a := ⟨k.1, d.1, q.1, 0, 0, 0, s.1, 0, [], 0⟩) (.nil _ _), rfl⟩
    ·rw [okR_n he]
     repeat' (first | (with_reducible (refine wQ ?_; first | refine uR (h1 ..) ?_ | refine uR (h2 ..) ?_ | refine uR (h3 ..) ?_ | refine uR (h4 ..) ?_ | refine uR (h5 ..) ?_ | refine uR (h8 ..) ?_)) | (with_reducible first | (refine wN fun _ hnl => ?_; revert hnl; (repeat refine wS fun _ _ => ?_); intro hnl) | refine wE ?_ | (refine wK ?_ ?_ <;> intro h) | (refine wB ?_ ?_ <;> intro h <;> simp only [h])) | simp (maxSteps := 4000000) (disch := first | decide | assumption | omega | (simp only [wL]; omega)) only [go_sem, simprocAttr, Tryz.f66, h0])
     all_goals (try (exfalso; omega))
     all_goals first | exact vre (a := re0) (.nil _ _) | exact ⟨vre (a := re0) (.nil _ _), rfl⟩
 ·have h8 := pRErr_call (bs := bs) c.2 l
  rw [repR_n hk hd hq hc h0]
  clear hk hd hq hc
  by_cases he : c.2.e = 0
  ·rw [okR_y he]
   repeat' (first | (with_reducible (refine wQ ?_; first | refine uR (h1 ..) ?_ | refine uR (h2 ..) ?_ | refine uR (h3 ..) ?_ | refine uR (h4 ..) ?_ | refine uR (h8 ..) ?_)) | (with_reducible first | (refine wN fun _ hnl => ?_; revert hnl; (repeat refine wS fun _ _ => ?_); intro hnl) | refine wE ?_ | (refine wK ?_ ?_ <;> intro h) | (refine wB ?_ ?_ <;> intro h <;> simp only [h])) | simp (maxSteps := 4000000) (disch := first | decide | assumption | omega | (simp only [wL]; omega)) only [go_sem, simprocAttr, Tryz.f66])
   all_goals (try (exfalso; omega))
   all_goals first | exact vre (a := ⟨k.1, d.1, q.1, c.1, 0, 0, 0, 0, [], 0⟩) (.nil _ _) | exact ⟨vre (a := ⟨k.1, d.1, q.1, c.1, 0, 0, 0, 0, [], 0⟩) (.nil _ _), rfl⟩
  ·rw [okR_n he]
   repeat' (first | (with_reducible (refine wQ ?_; first | refine uR (h1 ..) ?_ | refine uR (h2 ..) ?_ | refine uR (h3 ..) ?_ | refine uR (h4 ..) ?_ | refine uR (h8 ..) ?_)) | (with_reducible first | (refine wN fun _ hnl => ?_; revert hnl; (repeat refine wS fun _ _ => ?_); intro hnl) | refine wE ?_ | (refine wK ?_ ?_ <;> intro h) | (refine wB ?_ ?_ <;> intro h <;> simp only [h])) | simp (maxSteps := 4000000) (disch := first | decide | assumption | omega | (simp only [wL]; omega)) only [go_sem, simprocAttr, Tryz.f66])
   all_goals (try (exfalso; omega))
   all_goals first | exact vre (a := re0) (.nil _ _) | exact ⟨vre (a := re0) (.nil _ _), rfl⟩
end Go.Proofs.YtfbodefnblpflaaGreatDoor
end

section
namespace Go.Proofs.YtfbodefnblpflaaGreatDoor
set_option maxRecDepth 100000
set_option maxHeartbeats 4000000
theorem pcabove_call (most : Int) {bs : BL} [hb : Few bs] (r : RD) [hs : Sfx bs r] (l : Nat) : MCalls Tryz.prog 113 [.ptr l 0 0, .int .i64 most] (St.none.set l (rP bs r)) (fun v σ' => v = .int .i64 (fromR 1 most r).1 ∧ σ' = St.none.set l (rP bs (fromR 1 most r).2)) := by
 refine (MCalls.body 14 [.tmp 4] Tryz.func113 rfl rfl rfl rfl ?_)
 have hr := (numR_rng most r).1
 have h1 := pRNum_call most (bs := bs) r l
 obtain ⟨n, hn⟩ : ∃ n, numR most r = n := ⟨_, rfl⟩
 rw [hn] at h1 hr
 have h2 := pRFail_call 3 (bs := bs) n.2 l
 have e : fromR 1 most r = (n.1, if n.1 < 1 then failR 3 n.2 else n.2) := by unfold fromR; rw [hn]
 rw [e]
 by_cases h0 : n.1 = 0
 ·rw [if_pos (by omega)]
  repeat' (first | (with_reducible (refine wQ ?_; first | refine uR (h1 ..) ?_ | refine uR (h2 ..) ?_)) | (with_reducible first | (refine wN fun _ hnl => ?_; revert hnl; (repeat refine wS fun _ _ => ?_); intro hnl) | refine wE ?_ | (refine wK ?_ ?_ <;> intro h) | (refine wB ?_ ?_ <;> intro h <;> simp only [h])) | simp (maxSteps := 4000000) (disch := first | decide | assumption | omega | (simp only [wL]; omega)) only [go_sem, simprocAttr, Tryz.f113])
 ·rw [if_neg (by omega)]
  repeat' (first | (with_reducible (refine wQ ?_; first | refine uR (h1 ..) ?_ | refine uR (h2 ..) ?_)) | (with_reducible first | (refine wN fun _ hnl => ?_; revert hnl; (repeat refine wS fun _ _ => ?_); intro hnl) | refine wE ?_ | (refine wK ?_ ?_ <;> intro h) | (refine wB ?_ ?_ <;> intro h <;> simp only [h])) | simp (maxSteps := 4000000) (disch := first | decide | assumption | omega | (simp only [wL]; omega)) only [go_sem, simprocAttr, Tryz.f113])
abbrev cmS (bs : BL) (l k : Nat) (s : RD) (c : CM) (f : MV) : St := (St.none.set l (rP bs s)).set k (.row 32 63 [c.k f])
theorem prequest_call {bs : BL} [hb : Few bs] (r : RD) [hs : Sfx bs r] (kd : Int) (l k : Nat) (hlk : k ≠ l) : MCalls Tryz.prog 111 [.ptr l 0 0, .ptr k 0 0] (cmS bs l k r { cm0 with kd := kd } .nils)
  (fun v σ' => v = .tup [] ∧ σ' = cmS bs l k (fromR 1 1099511627776 (numR 5 r).2).2 { cm0 with kd := kd, dev := (numR 5 r).1, req := (fromR 1 1099511627776 (numR 5 r).2).1 } .nils) := by
 refine (MCalls.body 14 [] Tryz.func111 rfl rfl rfl rfl ?_)
 have hkl := Ne.symm hlk
 have h1 := pRNum_call 5 (bs := bs) r l
 haveI hs1 : Sfx bs (numR 5 r).2 := inferInstance
 obtain ⟨d, hd⟩ : ∃ d, numR 5 r = d := ⟨_, rfl⟩
 rw [hd] at h1 hs1 ⊢
 have h2 := pcabove_call 1099511627776 (bs := bs) d.2 l
 obtain ⟨q, hq⟩ : ∃ q, fromR 1 1099511627776 d.2 = q := ⟨_, rfl⟩
 rw [hq] at h2 ⊢
 clear hd hq
 repeat' (first | (with_reducible (refine wQ ?_; first | refine uR (h1 ..) ?_ | refine uR (h2 ..) ?_)) | (with_reducible first | (refine wN fun _ hnl => ?_; revert hnl; (repeat refine wS fun _ _ => ?_); intro hnl) | refine wE ?_ | (refine wK ?_ ?_ <;> intro h) | (refine wB ?_ ?_ <;> intro h <;> simp only [h])) | simp (maxSteps := 4000000) (disch := first | decide | assumption | omega | (simp only [wL]; omega)) only [go_sem, simprocAttr, Tryz.f111, FYs])
theorem pedit1_call {bs : BL} [hb : Few bs] (r : RD) [hs : Sfx bs r] (kd : Int) (l k : Nat) (hlk : k ≠ l) : MCalls Tryz.prog 107 [.ptr l 0 0, .ptr k 0 0] (cmS bs l k r { cm0 with kd := kd } .nils)
  (fun v σ' => v = .tup [] ∧ σ' = cmS bs l k (editR r).2 { cm0 with kd := kd, e := (editR r).1 } .nils) := by
 refine (MCalls.body 9 [] Tryz.func107 rfl rfl rfl rfl ?_)
 have hkl := Ne.symm hlk
 have h1 := peditR_call (bs := bs) r l
 obtain ⟨d, hd⟩ : ∃ d, editR r = d := ⟨_, rfl⟩
 rw [hd] at h1 ⊢
 clear hd
 repeat' (first | (with_reducible (refine wQ ?_; first | refine uR (h1 ..) ?_)) | (with_reducible first | (refine wN fun _ hnl => ?_; revert hnl; (repeat refine wS fun _ _ => ?_); intro hnl) | refine wE ?_ | (refine wK ?_ ?_ <;> intro h) | (refine wB ?_ ?_ <;> intro h <;> simp only [h])) | simp (maxSteps := 4000000) (disch := first | decide | assumption | omega | (simp only [wL]; omega)) only [go_sem, simprocAttr, Tryz.f107, FYs])
theorem ptrim_call {bs : BL} [hb : Few bs] (r : RD) [hs : Sfx bs r] (kd : Int) (l k : Nat) (hlk : k ≠ l) : MCalls Tryz.prog 112 [.ptr l 0 0, .ptr k 0 0] (cmS bs l k r { cm0 with kd := kd } .nils)
  (fun v σ' => v = .tup [] ∧ σ' = cmS bs l k (numR 1099511627776 r).2 { cm0 with kd := kd, keep := (numR 1099511627776 r).1 } .nils) := by
 refine (MCalls.body 9 [] Tryz.func112 rfl rfl rfl rfl ?_)
 have hkl := Ne.symm hlk
 have h1 := pRNum_call 1099511627776 (bs := bs) r l
 obtain ⟨d, hd⟩ : ∃ d, numR 1099511627776 r = d := ⟨_, rfl⟩
 rw [hd] at h1 ⊢
 clear hd
 repeat' (first | (with_reducible (refine wQ ?_; first | refine uR (h1 ..) ?_)) | (with_reducible first | (refine wN fun _ hnl => ?_; revert hnl; (repeat refine wS fun _ _ => ?_); intro hnl) | refine wE ?_ | (refine wK ?_ ?_ <;> intro h) | (refine wB ?_ ?_ <;> intro h <;> simp only [h])) | simp (maxSteps := 4000000) (disch := first | decide | assumption | omega | (simp only [wL]; omega)) only [go_sem, simprocAttr, Tryz.f112, FYs])
theorem psubs_call {bs : BL} [hb : Few bs] (r : RD) [hs : Sfx bs r] (kd : Int) (l k : Nat) (hlk : k ≠ l) (d q m : Int × RD) (f : List ND × RD) (hd : numR 5 r = d) (hq : fromR 1 1099511627776 d.2 = q) (hf : predR q.2 = f) (hm : numR 511 f.2 = m) :
  MCalls Tryz.prog 110 [.ptr l 0 0, .ptr k 0 0] (cmS bs l k r { cm0 with kd := kd } .nils)
  (fun v σ' => v = .tup [] ∧ σ' = cmS bs l k m.2 { cm0 with kd := kd, dev := d.1, req := q.1, fl := f.1, mask := UInt32.ofNat m.1.toNat } (.lst 5 (f.1.map ND.c) false)) := by
 refine (MCalls.body 18 [] Tryz.func110 rfl rfl rfl rfl ?_)
 have hkl := Ne.symm hlk
 have h1 := prequest_call (bs := bs) r kd l k hlk
 rw [hd, hq] at h1
 haveI hs1 : Sfx bs d.2 := by rw [← hd]; infer_instance
 haveI hs2 : Sfx bs q.2 := by rw [← hq]; infer_instance
 have h2 := ppredR_call (bs := bs) q.2 l
 rw [hf] at h2
 haveI hs3 : Sfx bs f.2 := by rw [← hf]; infer_instance
 have h3 := pRNum_call 511 (bs := bs) f.2 l
 have hm1 := (numR_rng 511 f.2).1
 have hm2 := numR_most (most := 511) (by decide) f.2
 rw [hm] at h3 hm1 hm2
 have hw := wrapU hm1 (by omega)
 clear hd hq hf hm
 repeat' (first | (refine use_all h1 ?_) | (with_reducible (refine wQ ?_; first | refine uR (h2 ..) ?_ | refine uR (h3 ..) ?_)) | (with_reducible first | (refine wN fun _ hnl => ?_; revert hnl; (repeat refine wS fun _ _ => ?_); intro hnl) | refine wE ?_ | (refine wK ?_ ?_ <;> intro h) | (refine wB ?_ ?_ <;> intro h <;> simp only [h])) | simp (maxSteps := 4000000) (disch := first | decide | assumption | omega | (simp only [wL]; omega)) only [go_sem, simprocAttr, Tryz.f110, FYs, hw])
theorem pwrite_call {bs : BL} [hb : Few bs] (r : RD) [hs : Sfx bs r] (kd : Int) (l k : Nat) (hlk : k ≠ l) (d q i b : Int × RD) (x : PA × RD) (hd : numR 5 r = d) (hq : fromR 1 1099511627776 d.2 = q) (hi : fromR 1 1073741823 q.2 = i) (hbb : fromR 1 1099511627776 i.2 = b) (hx : patchR b.2 = x) :
  MCalls Tryz.prog 109 [.ptr l 0 0, .ptr k 0 0] (cmS bs l k r { cm0 with kd := kd } .nils)
  (fun v σ' => v = .tup [] ∧ σ' = cmS bs l k (if patchErr x.1 = 0 then x.2 else failR 3 x.2) { cm0 with kd := kd, dev := d.1, req := q.1, id := i.1, base := b.1, p := x.1 } .nils) := by
 refine (MCalls.body 30 [] Tryz.func109 rfl rfl rfl rfl ?_)
 have hkl := Ne.symm hlk
 have h1 := prequest_call (bs := bs) r kd l k hlk
 rw [hd, hq] at h1
 haveI hs1 : Sfx bs d.2 := by rw [← hd]; infer_instance
 haveI hs2 : Sfx bs q.2 := by rw [← hq]; infer_instance
 have h2 := pcabove_call 1073741823 (bs := bs) q.2 l
 rw [hi] at h2
 haveI hs3 : Sfx bs i.2 := by rw [← hi]; infer_instance
 have h3 := pcabove_call 1099511627776 (bs := bs) i.2 l
 rw [hbb] at h3
 haveI hs4 : Sfx bs b.2 := by rw [← hbb]; infer_instance
 have h4 := ppatchR_call (bs := bs) b.2 l
 rw [hx] at h4
 haveI hs5 : Sfx bs x.2 := by rw [← hx]; infer_instance
 have h5 := pRFail_call 3 (bs := bs) x.2 l
 have h6 := pcpatch_call x.1
 clear hd hq hi hbb hx
 by_cases h0 : patchErr x.1 = 0
 ·rw [if_pos h0]
  rw [h0] at h6
  repeat' (first | (refine use_all h1 ?_) | (with_reducible (refine wQ ?_; first | refine uR (h2 ..) ?_ | refine uR (h3 ..) ?_ | refine uR (h4 ..) ?_ | refine uR (h5 ..) ?_)) | (with_reducible first | refine up h6 ?_) | (with_reducible first | (refine wN fun _ hnl => ?_; revert hnl; (repeat refine wS fun _ _ => ?_); intro hnl) | refine wE ?_ | (refine wK ?_ ?_ <;> intro h) | (refine wB ?_ ?_ <;> intro h <;> simp only [h])) | simp (maxSteps := 4000000) (disch := first | decide | assumption | omega | (simp only [wL]; omega)) only [go_sem, simprocAttr, Tryz.f109, FYs])
 ·rw [if_neg h0]
  repeat' (first | (refine use_all h1 ?_) | (with_reducible (refine wQ ?_; first | refine uR (h2 ..) ?_ | refine uR (h3 ..) ?_ | refine uR (h4 ..) ?_ | refine uR (h5 ..) ?_)) | (with_reducible first | refine up h6 ?_) | (with_reducible first | (refine wN fun _ hnl => ?_; revert hnl; (repeat refine wS fun _ _ => ?_); intro hnl) | refine wE ?_ | (refine wK ?_ ?_ <;> intro h) | (refine wB ?_ ?_ <;> intro h <;> simp only [h])) | simp (maxSteps := 4000000) (disch := first | decide | assumption | omega | (simp only [wL]; omega)) only [go_sem, simprocAttr, Tryz.f109, FYs])
end Go.Proofs.YtfbodefnblpflaaGreatDoor
end

section
namespace Go.Proofs.YtfbodefnblpflaaGreatDoor
set_option maxRecDepth 100000
set_option maxHeartbeats 4000000
theorem cmdR_0 {r : RD} {k : Int × RD} (hk : fromR 1 5 r = k) (h0 : k.1 = 0) (he : k.2.e ≠ 0) : cmdR r = (cm0, k.2) := by
 have e : cmdR r = okR cm0 ({ cm0 with kd := 0, dev := (numR 5 k.2).1, req := (fromR 1 big (numR 5 k.2).2).1 }, (fromR 1 big (numR 5 k.2).2).2) := by
  simp [cmdR, hk, h0]
 rw [e, numR_stk he]
 simp only [fromR_stk he]
 exact okR_n he
theorem use_lk {P : Program} {g : FuncId} {ms : List MV} {l k a b : Nat} {o o' oa ob ok ok' : MObj} {r : MV} {kk : MV → St → Prop} (ha : a ≠ l) (hb : b ≠ l) (hba : b ≠ a) (hk : k ≠ l) (hka : k ≠ a) (hkb : k ≠ b)
  (h : MCalls P g ms ((St.none.set l o).set k ok) fun v σ' => v = r ∧ σ' = (St.none.set l o').set k ok') (hk' : R (mlet r ((((St.none.set l o').set a oa).set b ob).set k ok') kk)) : R (mcallE P g ms ((((St.none.set l o).set a oa).set b ob).set k ok) kk) := by
 refine use_frame h (St.set_le (St.set_le (St.none_le _) ?_) ?_) ?_
 ·simp [St.set, Ne.symm ha, Ne.symm hb, Ne.symm hk]
 ·simp [St.set]
 ·rintro v σ' ⟨rfl, rfl⟩ -
  have e : ((St.none.set l o').set k ok').over (((((St.none.set l o).set a oa).set b ob).set k ok).minus ((St.none.set l o).set k ok)) = (((St.none.set l o').set a oa).set b ob).set k ok' := by
   funext j
   by_cases j1 : j = k
   ·subst j1; simp [St.over, St.set]
   ·by_cases j2 : j = l
    ·subst j2; simp [St.over, St.set, Ne.symm ha, Ne.symm hb, j1]
    ·simp [St.over, St.minus, St.set, St.none, j1, j2]
  rw [e]
  exact hk'
theorem pcmdR0 {bs : BL} [hb : Few bs] (r : RD) [hs : Sfx bs r] (l : Nat) (k2 : RD) (hk : fromR 1 5 r = (0, k2)) (he : k2.e ≠ 0) : MCalls Tryz.prog 60 [.ptr l 0 0] (St.none.set l (rP bs r)) (fun v σ' => v = .agg (cmdR r).1.c ∧ σ' = St.none.set l (rP bs (cmdR r).2)) := by
 refine MCalls.seenO (MCalls.body 25 [.cell 2 32] Tryz.func60 rfl rfl rfl rfl ?_)
 have h1 := pcabove_call 5 (bs := bs) r l
 haveI hs1 : Sfx bs (fromR 1 5 r).2 := inferInstance
 have e := cmdR_0 hk rfl he
 rw [hk] at h1 hs1
 have h2 := pRErr_call (bs := bs) k2 l
 rw [e]
 clear e hk
 repeat' (first | (with_reducible (refine wQ ?_; first | refine uR (h1 ..) ?_ | refine uR (h2 ..) ?_)) | (with_reducible first | (refine wN fun _ hnl => ?_; revert hnl; (repeat refine wS fun _ _ => ?_); intro hnl) | refine wE ?_ | (refine wK ?_ ?_ <;> intro h) | (refine wB ?_ ?_ <;> intro h <;> simp only [h])) | simp (maxSteps := 4000000) (disch := first | decide | assumption | omega | (simp only [wL]; omega)) only [go_sem, simprocAttr, Tryz.f60, FYs, Option.getD_none, Option.getD_some, List.headD_cons])
 exact vcm (c := cm0) (.nil _ _)
theorem pcmdR1 {bs : BL} [hb : Few bs] (r : RD) [hs : Sfx bs r] (l : Nat) (k2 : RD) (hk : fromR 1 5 r = (1, k2)) : MCalls Tryz.prog 60 [.ptr l 0 0] (St.none.set l (rP bs r)) (fun v σ' => v = .agg (cmdR r).1.c ∧ σ' = St.none.set l (rP bs (cmdR r).2)) := by
 refine MCalls.seenO (MCalls.body 25 [.cell 2 32] Tryz.func60 rfl rfl rfl rfl ?_)
 have h1 := pcabove_call 5 (bs := bs) r l
 haveI hs1 : Sfx bs (fromR 1 5 r).2 := inferInstance
 rw [hk] at h1 hs1
 have h3 := pedit1_call (bs := bs) k2 1 l
 haveI hs2 : Sfx bs (editR k2).2 := inferInstance
 obtain ⟨x, hx⟩ : ∃ x, editR k2 = x := ⟨_, rfl⟩
 rw [hx] at h3 hs2
 have e : cmdR r = okR cm0 ({ cm0 with kd := 1, e := x.1 }, x.2) := by simp [cmdR, big, idMax, hk, hx]
 rw [e]
 clear e hk hx
 have h2 := pRErr_call (bs := bs) x.2 l
 have hrec := fun (σ : St) => vcm (σ := σ) (c := { cm0 with kd := 1, e := x.1 }) (.nil _ _)
 simp only [CM.c, CM.k, cm0, ed0, pa0, u32z] at hrec
 by_cases he : x.2.e = 0
 ·rw [okR_y he]
  repeat' (first | (with_reducible refine use_lk (by assumption) (by assumption) (by assumption) (by assumption) (by assumption) (by assumption) (h3 _ (by assumption)) ?_) | (with_reducible (refine wQ ?_; first | refine uR (h1 ..) ?_ | refine uR (h2 ..) ?_)) | (with_reducible first | (refine wN fun _ hnl => ?_; revert hnl; (repeat refine wS fun _ _ => ?_); intro hnl) | refine wE ?_ | (refine wK ?_ ?_ <;> intro h) | (refine wB ?_ ?_ <;> intro h <;> simp only [h])) | simp (maxSteps := 4000000) (disch := first | decide | assumption | omega | (simp only [wL]; omega)) only [go_sem, simprocAttr, Tryz.f60, FYs, Option.getD_none, Option.getD_some, List.headD_cons])
  all_goals (try (exfalso; omega))
  all_goals exact hrec _
 ·rw [okR_n he]
  clear hrec
  repeat' (first | (with_reducible refine use_lk (by assumption) (by assumption) (by assumption) (by assumption) (by assumption) (by assumption) (h3 _ (by assumption)) ?_) | (with_reducible (refine wQ ?_; first | refine uR (h1 ..) ?_ | refine uR (h2 ..) ?_)) | (with_reducible first | (refine wN fun _ hnl => ?_; revert hnl; (repeat refine wS fun _ _ => ?_); intro hnl) | refine wE ?_ | (refine wK ?_ ?_ <;> intro h) | (refine wB ?_ ?_ <;> intro h <;> simp only [h])) | simp (maxSteps := 4000000) (disch := first | decide | assumption | omega | (simp only [wL]; omega)) only [go_sem, simprocAttr, Tryz.f60, FYs, Option.getD_none, Option.getD_some, List.headD_cons])
  all_goals (try (exfalso; omega))
  all_goals exact vcm (c := cm0) (.nil _ _)
theorem pcmdR5 {bs : BL} [hb : Few bs] (r : RD) [hs : Sfx bs r] (l : Nat) (k2 : RD) (hk : fromR 1 5 r = (5, k2)) : MCalls Tryz.prog 60 [.ptr l 0 0] (St.none.set l (rP bs r)) (fun v σ' => v = .agg (cmdR r).1.c ∧ σ' = St.none.set l (rP bs (cmdR r).2)) := by
 refine MCalls.seenO (MCalls.body 25 [.cell 2 32] Tryz.func60 rfl rfl rfl rfl ?_)
 have h1 := pcabove_call 5 (bs := bs) r l
 haveI hs1 : Sfx bs (fromR 1 5 r).2 := inferInstance
 rw [hk] at h1 hs1
 have h3 := ptrim_call (bs := bs) k2 5 l
 haveI hs2 : Sfx bs (numR 1099511627776 k2).2 := inferInstance
 obtain ⟨x, hx⟩ : ∃ x, numR 1099511627776 k2 = x := ⟨_, rfl⟩
 rw [hx] at h3 hs2
 have e : cmdR r = okR cm0 ({ cm0 with kd := 5, keep := x.1 }, x.2) := by simp [cmdR, big, idMax, hk, hx]
 rw [e]
 clear e hk hx
 have h2 := pRErr_call (bs := bs) x.2 l
 have hrec := fun (σ : St) => vcm (σ := σ) (c := { cm0 with kd := 5, keep := x.1 }) (.nil _ _)
 simp only [CM.c, CM.k, cm0, ed0, pa0, u32z] at hrec
 by_cases he : x.2.e = 0
 ·rw [okR_y he]
  repeat' (first | (with_reducible refine use_lk (by assumption) (by assumption) (by assumption) (by assumption) (by assumption) (by assumption) (h3 _ (by assumption)) ?_) | (with_reducible (refine wQ ?_; first | refine uR (h1 ..) ?_ | refine uR (h2 ..) ?_)) | (with_reducible first | (refine wN fun _ hnl => ?_; revert hnl; (repeat refine wS fun _ _ => ?_); intro hnl) | refine wE ?_ | (refine wK ?_ ?_ <;> intro h) | (refine wB ?_ ?_ <;> intro h <;> simp only [h])) | simp (maxSteps := 4000000) (disch := first | decide | assumption | omega | (simp only [wL]; omega)) only [go_sem, simprocAttr, Tryz.f60, FYs, Option.getD_none, Option.getD_some, List.headD_cons])
  all_goals (try (exfalso; omega))
  all_goals exact hrec _
 ·rw [okR_n he]
  clear hrec
  repeat' (first | (with_reducible refine use_lk (by assumption) (by assumption) (by assumption) (by assumption) (by assumption) (by assumption) (h3 _ (by assumption)) ?_) | (with_reducible (refine wQ ?_; first | refine uR (h1 ..) ?_ | refine uR (h2 ..) ?_)) | (with_reducible first | (refine wN fun _ hnl => ?_; revert hnl; (repeat refine wS fun _ _ => ?_); intro hnl) | refine wE ?_ | (refine wK ?_ ?_ <;> intro h) | (refine wB ?_ ?_ <;> intro h <;> simp only [h])) | simp (maxSteps := 4000000) (disch := first | decide | assumption | omega | (simp only [wL]; omega)) only [go_sem, simprocAttr, Tryz.f60, FYs, Option.getD_none, Option.getD_some, List.headD_cons])
  all_goals (try (exfalso; omega))
  all_goals exact vcm (c := cm0) (.nil _ _)
theorem pcmdR4 {bs : BL} [hb : Few bs] (r : RD) [hs : Sfx bs r] (l : Nat) (k2 : RD) (hk : fromR 1 5 r = (4, k2)) : MCalls Tryz.prog 60 [.ptr l 0 0] (St.none.set l (rP bs r)) (fun v σ' => v = .agg (cmdR r).1.c ∧ σ' = St.none.set l (rP bs (cmdR r).2)) := by
 refine MCalls.seenO (MCalls.body 25 [.cell 2 32] Tryz.func60 rfl rfl rfl rfl ?_)
 have h1 := pcabove_call 5 (bs := bs) r l
 haveI hs1 : Sfx bs (fromR 1 5 r).2 := inferInstance
 rw [hk] at h1 hs1
 have h3 := prequest_call (bs := bs) k2 4 l
 haveI hs2 : Sfx bs (numR 5 k2).2 := inferInstance
 obtain ⟨d, hd⟩ : ∃ d, numR 5 k2 = d := ⟨_, rfl⟩
 rw [hd] at hs2 h3
 haveI hs3 : Sfx bs (fromR 1 1099511627776 d.2).2 := inferInstance
 obtain ⟨q, hq⟩ : ∃ q, fromR 1 1099511627776 d.2 = q := ⟨_, rfl⟩
 rw [hq] at hs3 h3
 have e : cmdR r = okR cm0 ({ cm0 with kd := 4, dev := d.1, req := q.1 }, q.2) := by simp [cmdR, big, idMax, hk, hd, hq]
 rw [e]
 clear e hk hd hq
 have h2 := pRErr_call (bs := bs) q.2 l
 have hrec := fun (σ : St) => vcm (σ := σ) (c := { cm0 with kd := 4, dev := d.1, req := q.1 }) (.nil _ _)
 simp only [CM.c, CM.k, cm0, ed0, pa0, u32z] at hrec
 by_cases he : q.2.e = 0
 ·rw [okR_y he]
  repeat' (first | (with_reducible refine use_lk (by assumption) (by assumption) (by assumption) (by assumption) (by assumption) (by assumption) (h3 _ (by assumption)) ?_) | (with_reducible (refine wQ ?_; first | refine uR (h1 ..) ?_ | refine uR (h2 ..) ?_)) | (with_reducible first | (refine wN fun _ hnl => ?_; revert hnl; (repeat refine wS fun _ _ => ?_); intro hnl) | refine wE ?_ | (refine wK ?_ ?_ <;> intro h) | (refine wB ?_ ?_ <;> intro h <;> simp only [h])) | simp (maxSteps := 4000000) (disch := first | decide | assumption | omega | (simp only [wL]; omega)) only [go_sem, simprocAttr, Tryz.f60, FYs, Option.getD_none, Option.getD_some, List.headD_cons])
  all_goals (try (exfalso; omega))
  all_goals exact hrec _
 ·rw [okR_n he]
  clear hrec
  repeat' (first | (with_reducible refine use_lk (by assumption) (by assumption) (by assumption) (by assumption) (by assumption) (by assumption) (h3 _ (by assumption)) ?_) | (with_reducible (refine wQ ?_; first | refine uR (h1 ..) ?_ | refine uR (h2 ..) ?_)) | (with_reducible first | (refine wN fun _ hnl => ?_; revert hnl; (repeat refine wS fun _ _ => ?_); intro hnl) | refine wE ?_ | (refine wK ?_ ?_ <;> intro h) | (refine wB ?_ ?_ <;> intro h <;> simp only [h])) | simp (maxSteps := 4000000) (disch := first | decide | assumption | omega | (simp only [wL]; omega)) only [go_sem, simprocAttr, Tryz.f60, FYs, Option.getD_none, Option.getD_some, List.headD_cons])
  all_goals (try (exfalso; omega))
  all_goals exact vcm (c := cm0) (.nil _ _)
theorem pcmdR3 {bs : BL} [hb : Few bs] (r : RD) [hs : Sfx bs r] (l : Nat) (k2 : RD) (hk : fromR 1 5 r = (3, k2)) : MCalls Tryz.prog 60 [.ptr l 0 0] (St.none.set l (rP bs r)) (fun v σ' => v = .agg (cmdR r).1.c ∧ σ' = St.none.set l (rP bs (cmdR r).2)) := by
 refine MCalls.seenO (MCalls.body 25 [.cell 2 32] Tryz.func60 rfl rfl rfl rfl ?_)
 have h1 := pcabove_call 5 (bs := bs) r l
 haveI hs1 : Sfx bs (fromR 1 5 r).2 := inferInstance
 rw [hk] at h1 hs1
 haveI hs2 : Sfx bs (numR 5 k2).2 := inferInstance
 obtain ⟨d, hd⟩ : ∃ d, numR 5 k2 = d := ⟨_, rfl⟩
 rw [hd] at hs2
 haveI hs3 : Sfx bs (fromR 1 1099511627776 d.2).2 := inferInstance
 obtain ⟨q, hq⟩ : ∃ q, fromR 1 1099511627776 d.2 = q := ⟨_, rfl⟩
 rw [hq] at hs3
 haveI hs4 : Sfx bs (predR q.2).2 := inferInstance
 obtain ⟨f, hf⟩ : ∃ f, predR q.2 = f := ⟨_, rfl⟩
 rw [hf] at hs4
 haveI hs5 : Sfx bs (numR 511 f.2).2 := inferInstance
 obtain ⟨m, hm⟩ : ∃ m, numR 511 f.2 = m := ⟨_, rfl⟩
 rw [hm] at hs5
 have h3 := fun k hlk => psubs_call (bs := bs) k2 3 l k hlk d q m f hd hq hf hm
 have e : cmdR r = okR cm0 ({ cm0 with kd := 3, dev := d.1, req := q.1, fl := f.1, mask := UInt32.ofNat m.1.toNat }, m.2) := by simp [cmdR, big, idMax, hk, hd, hq, hf, hm]
 rw [e]
 clear e hk hd hq hf hm
 have h2 := pRErr_call (bs := bs) m.2 l
 have hrec := fun (σ : St) => vcm (σ := σ) (c := { cm0 with kd := 3, dev := d.1, req := q.1, fl := f.1, mask := UInt32.ofNat m.1.toNat }) (.same _)
 simp only [CM.c, CM.k, cm0, ed0, pa0, u32z] at hrec
 by_cases he : m.2.e = 0
 ·rw [okR_y he]
  repeat' (first | (with_reducible refine use_lk (by assumption) (by assumption) (by assumption) (by assumption) (by assumption) (by assumption) (h3 _ (by assumption)) ?_) | (with_reducible (refine wQ ?_; first | refine uR (h1 ..) ?_ | refine uR (h2 ..) ?_)) | (with_reducible first | (refine wN fun _ hnl => ?_; revert hnl; (repeat refine wS fun _ _ => ?_); intro hnl) | refine wE ?_ | (refine wK ?_ ?_ <;> intro h) | (refine wB ?_ ?_ <;> intro h <;> simp only [h])) | simp (maxSteps := 4000000) (disch := first | decide | assumption | omega | (simp only [wL]; omega)) only [go_sem, simprocAttr, Tryz.f60, FYs, Option.getD_none, Option.getD_some, List.headD_cons])
  all_goals (try (exfalso; omega))
  all_goals exact hrec _
 ·rw [okR_n he]
  clear hrec
  repeat' (first | (with_reducible refine use_lk (by assumption) (by assumption) (by assumption) (by assumption) (by assumption) (by assumption) (h3 _ (by assumption)) ?_) | (with_reducible (refine wQ ?_; first | refine uR (h1 ..) ?_ | refine uR (h2 ..) ?_)) | (with_reducible first | (refine wN fun _ hnl => ?_; revert hnl; (repeat refine wS fun _ _ => ?_); intro hnl) | refine wE ?_ | (refine wK ?_ ?_ <;> intro h) | (refine wB ?_ ?_ <;> intro h <;> simp only [h])) | simp (maxSteps := 4000000) (disch := first | decide | assumption | omega | (simp only [wL]; omega)) only [go_sem, simprocAttr, Tryz.f60, FYs, Option.getD_none, Option.getD_some, List.headD_cons])
  all_goals (try (exfalso; omega))
  all_goals exact vcm (c := cm0) (.nil _ _)
theorem pcmdR2 {bs : BL} [hb : Few bs] (r : RD) [hs : Sfx bs r] (l : Nat) (k2 : RD) (hk : fromR 1 5 r = (2, k2)) : MCalls Tryz.prog 60 [.ptr l 0 0] (St.none.set l (rP bs r)) (fun v σ' => v = .agg (cmdR r).1.c ∧ σ' = St.none.set l (rP bs (cmdR r).2)) := by
 refine MCalls.seenO (MCalls.body 25 [.cell 2 32] Tryz.func60 rfl rfl rfl rfl ?_)
 have h1 := pcabove_call 5 (bs := bs) r l
 haveI hs1 : Sfx bs (fromR 1 5 r).2 := inferInstance
 rw [hk] at h1 hs1
 haveI hs2 : Sfx bs (numR 5 k2).2 := inferInstance
 obtain ⟨d, hd⟩ : ∃ d, numR 5 k2 = d := ⟨_, rfl⟩
 rw [hd] at hs2
 haveI hs3 : Sfx bs (fromR 1 1099511627776 d.2).2 := inferInstance
 obtain ⟨q, hq⟩ : ∃ q, fromR 1 1099511627776 d.2 = q := ⟨_, rfl⟩
 rw [hq] at hs3
 haveI hs4 : Sfx bs (fromR 1 1073741823 q.2).2 := inferInstance
 obtain ⟨i, hi⟩ : ∃ i, fromR 1 1073741823 q.2 = i := ⟨_, rfl⟩
 rw [hi] at hs4
 haveI hs5 : Sfx bs (fromR 1 1099511627776 i.2).2 := inferInstance
 obtain ⟨b, hbb⟩ : ∃ b, fromR 1 1099511627776 i.2 = b := ⟨_, rfl⟩
 rw [hbb] at hs5
 haveI hs6 : Sfx bs (patchR b.2).2 := inferInstance
 obtain ⟨x, hx⟩ : ∃ x, patchR b.2 = x := ⟨_, rfl⟩
 rw [hx] at hs6
 have h3 := fun k hlk => pwrite_call (bs := bs) k2 2 l k hlk d q i b x hd hq hi hbb hx
 have ey : okR cm0 (({ cm0 with kd := 2, dev := d.1, req := q.1, id := i.1, base := b.1, p := (mayR b.2).1 } : CM), (mayR b.2).2) = okR cm0 ({ cm0 with kd := 2, dev := d.1, req := q.1, id := i.1, base := b.1, p := x.1 }, if patchErr x.1 = 0 then x.2 else failR 3 x.2) := by
  unfold mayR okR
  simp only [hx]
  by_cases h : (if patchErr x.1 = 0 then x.2 else failR 3 x.2).e = 0
  ·simp [h]
  ·simp [h]
 obtain ⟨y, hy⟩ : ∃ y, (if patchErr x.1 = 0 then x.2 else failR 3 x.2) = y := ⟨_, rfl⟩
 haveI hs7 : Sfx bs y := by rw [← hy]; split <;> infer_instance
 rw [hy] at h3 ey
 have e : cmdR r = okR cm0 ({ cm0 with kd := 2, dev := d.1, req := q.1, id := i.1, base := b.1, p := x.1 }, y) := by rw [← ey]; simp [cmdR, big, idMax, hk, hd, hq, hi, hbb]
 rw [e]
 clear e hk hd hq hi hbb ey hx hy
 have h2 := pRErr_call (bs := bs) y l
 have hrec := fun (σ : St) => vcm (σ := σ) (c := { cm0 with kd := 2, dev := d.1, req := q.1, id := i.1, base := b.1, p := x.1 }) (.nil _ _)
 simp only [CM.c, CM.k, cm0, ed0, pa0, u32z] at hrec
 by_cases he : y.e = 0
 ·rw [okR_y he]
  repeat' (first | (with_reducible refine use_lk (by assumption) (by assumption) (by assumption) (by assumption) (by assumption) (by assumption) (h3 _ (by assumption)) ?_) | (with_reducible (refine wQ ?_; first | refine uR (h1 ..) ?_ | refine uR (h2 ..) ?_)) | (with_reducible first | (refine wN fun _ hnl => ?_; revert hnl; (repeat refine wS fun _ _ => ?_); intro hnl) | refine wE ?_ | (refine wK ?_ ?_ <;> intro h) | (refine wB ?_ ?_ <;> intro h <;> simp only [h])) | simp (maxSteps := 4000000) (disch := first | decide | assumption | omega | (simp only [wL]; omega)) only [go_sem, simprocAttr, Tryz.f60, FYs, Option.getD_none, Option.getD_some, List.headD_cons])
  all_goals (try (exfalso; omega))
  all_goals exact hrec _
 ·rw [okR_n he]
  clear hrec
  repeat' (first | (with_reducible refine use_lk (by assumption) (by assumption) (by assumption) (by assumption) (by assumption) (by assumption) (h3 _ (by assumption)) ?_) | (with_reducible (refine wQ ?_; first | refine uR (h1 ..) ?_ | refine uR (h2 ..) ?_)) | (with_reducible first | (refine wN fun _ hnl => ?_; revert hnl; (repeat refine wS fun _ _ => ?_); intro hnl) | refine wE ?_ | (refine wK ?_ ?_ <;> intro h) | (refine wB ?_ ?_ <;> intro h <;> simp only [h])) | simp (maxSteps := 4000000) (disch := first | decide | assumption | omega | (simp only [wL]; omega)) only [go_sem, simprocAttr, Tryz.f60, FYs, Option.getD_none, Option.getD_some, List.headD_cons])
  all_goals (try (exfalso; omega))
  all_goals exact vcm (c := cm0) (.nil _ _)
theorem pcmdR_call {bs : BL} [hb : Few bs] (r : RD) [hs : Sfx bs r] (l : Nat) : MCalls Tryz.prog 60 [.ptr l 0 0] (St.none.set l (rP bs r)) (fun v σ' => v = .agg (cmdR r).1.c ∧ σ' = St.none.set l (rP bs (cmdR r).2)) := by
 have hr1 := (numR_rng 5 r).1
 have hr2 := numR_most (most := 5) (by decide) r
 obtain ⟨k, i, hk, hfi, his, hki, hk0, hk1⟩ := pfrom_two (bs := bs) 5 r l
 rw [hk] at hr1 hr2
 obtain ⟨i1, i2⟩ := i
 simp only at hki hk0 hk1 hfi
 have h6 : i1 = 0 ∨ i1 = 1 ∨ i1 = 2 ∨ i1 = 3 ∨ i1 = 4 ∨ i1 = 5 := by omega
 rcases h6 with rfl | rfl | rfl | rfl | rfl | rfl
 ·exact pcmdR0 r l i2 hfi (hk0 hki).2
 ·exact pcmdR1 r l i2 hfi
 ·exact pcmdR2 r l i2 hfi
 ·exact pcmdR3 r l i2 hfi
 ·exact pcmdR4 r l i2 hfi
 ·exact pcmdR5 r l i2 hfi
end Go.Proofs.YtfbodefnblpflaaGreatDoor
end

section
namespace Go.Proofs.YtfbodefnblpflaaGreatDoor
set_option maxRecDepth 100000
set_option maxHeartbeats 4000000
theorem cardR_err {r : RD} (h : r.e ≠ 0) : cardR r = (ca0, r) := by
 have h2 := cardR_sk.stk r h
 have h1 : (cardR r).1 = ca0 := by
  have h3 : (cardR r).2.e ≠ 0 := by rw [h2]; exact h
  unfold cardR at h3 ⊢
  unfold okR at h3 ⊢
  simp only at h3 ⊢
  split at h3
  ·contradiction
  ·rename_i hn
   rw [if_neg hn]
 exact Prod.ext h1 h2
theorem pitemR_call {bs : BL} [hb : Few bs] (r : RD) [hs : Sfx bs r] (l : Nat) : MCalls Tryz.prog 125 [.ptr l 0 0] (St.none.set l (rP bs r)) (fun v σ' => v = .agg (IT.k (itemR r).1) ∧ σ' = St.none.set l (rP bs (itemR r).2)) := by
 refine MCalls.obj (MCalls.body 23 [.cell 2 119] Tryz.func125 rfl rfl rfl rfl ?_)
 have h1 := pRNum_call 3 (bs := bs) r l
 have hr := (numR_rng 3 r).1
 obtain ⟨k, a, hk, hfa, has, hka, hk0, hk1⟩ := pfrom_two (bs := bs) 3 r l
 rw [hk] at h1 hr
 have h2 := pRFail_call 3 (bs := bs) k.2 l
 have h3 := pRNum_call 1073741823 (bs := bs) a.2 l
 have h4 := pcardR_call (bs := bs) a.2 l
 obtain ⟨k1, k2⟩ := k
 obtain ⟨a1, a2⟩ := a
 simp only at hr hka hk0 hk1 h1 h2 h3 h4
 subst hka
 by_cases h0 : k1 = 0
 ·obtain ⟨hf1, hf2⟩ := hk0 h0
  rw [hf1] at h2
  have e : itemR r = (⟨0, ca0⟩, a2) := by
   simp [itemR, hfa, h0, cardR_err hf2]
  rw [e]
  clear e hfa hk hk0 hk1 hf1 h3 h4
  repeat' (first | (with_reducible (refine wQ ?_; first | refine uR (h1 ..) ?_ | refine uR (h2 ..) ?_)) | (with_reducible first | (refine wN fun _ hnl => ?_; revert hnl; (repeat refine wS fun _ _ => ?_); intro hnl) | refine wE ?_ | (refine wK ?_ ?_ <;> intro h) | (refine wB ?_ ?_ <;> intro h <;> simp only [h])) | simp (maxSteps := 4000000) (disch := first | decide | assumption | omega | (simp only [wL]; omega)) only [go_sem, simprocAttr, Tryz.f125, FXs, h0])
  all_goals (try (exfalso; omega))
  all_goals simp [ca0, h0]
 ·have := (hk1 h0).symm
  subst this
  by_cases hk2 : k1 = 2
  ·have e : itemR r = (⟨2, { ca0 with id := (numR 1073741823 a2).1 }⟩, (numR 1073741823 a2).2) := by
    simp [itemR, hfa, hk2, idMax]
   rw [e]
   clear e hfa hk hk0 hk1 h2 h4
   repeat' (first | (with_reducible (refine wQ ?_; first | refine uR (h1 ..) ?_ | refine uR (h3 ..) ?_)) | (with_reducible first | (refine wN fun _ hnl => ?_; revert hnl; (repeat refine wS fun _ _ => ?_); intro hnl) | refine wE ?_ | (refine wK ?_ ?_ <;> intro h) | (refine wB ?_ ?_ <;> intro h <;> simp only [h])) | simp (maxSteps := 4000000) (disch := first | decide | assumption | omega | (simp only [wL]; omega)) only [go_sem, simprocAttr, Tryz.f125, FXs])
   all_goals (try (exfalso; omega))
   all_goals simp [ca0, hk2]
  ·have e : itemR r = (⟨k1, (cardR a2).1⟩, (cardR a2).2) := by
    simp [itemR, hfa, hk2]
   rw [e]
   clear e hfa hk hk0 hk1 h2 h3
   repeat' (first | (with_reducible (refine wQ ?_; first | refine uR (h1 ..) ?_ | refine uR (h4 ..) ?_)) | (with_reducible first | (refine wN fun _ hnl => ?_; revert hnl; (repeat refine wS fun _ _ => ?_); intro hnl) | refine wE ?_ | (refine wK ?_ ?_ <;> intro h) | (refine wB ?_ ?_ <;> intro h <;> simp only [h])) | simp (maxSteps := 4000000) (disch := first | decide | assumption | omega | (simp only [wL]; omega)) only [go_sem, simprocAttr, Tryz.f125, FXs])
   all_goals (try (exfalso; omega))
   all_goals simp
theorem flagR_err {r : RD} (h : r.e ≠ 0) : flagR r = (false, r) := by unfold flagR; rw [if_neg h]
theorem tokR_err {r : RD} (h : r.e ≠ 0) : tokR r = (tk0, r) := by
 have h2 := tokR_sk.stk r h
 have h1 : (tokR r).1 = tk0 := by
  have h3 : (tokR r).2.e ≠ 0 := by rw [h2]; exact h
  unfold tokR at h3 ⊢
  unfold okR at h3 ⊢
  simp only at h3 ⊢
  split at h3
  ·contradiction
  ·rename_i hn
   rw [if_neg hn]
 exact Prod.ext h1 h2
theorem pageR_f {r : RD} {c n : Int × RD} {f t : TO × RD} {ss : RD} {T : List IT × RD} (hc : numR 16 r = c) (hf : tokR c.2 = f) (hs : flagR f.2 = (false, ss)) (ht : tokR ss = t) (hn : numR 16 t.2 = n) (hT : listR itemR n.1.toNat ([], n.2) = T) (h0 : c.1 = 0) :
  pageR r = okR pg0 (⟨0, false, f.1, t.1, T.1⟩, if pageOk ⟨0, false, f.1, t.1, T.1⟩ = true then T.2 else failR 3 T.2) := by
 by_cases he : f.2.e = 0
 ·by_cases hz : t.2.e = 0
  ·simp [pageR, hc, hf, h0, he, hs, ht, hz, hn, hT]
  ·have h1 := numR_zero (most := 16) (r := t.2) (by rw [(numR_sk 16).stk _ hz]; exact hz)
   have h2 := (numR_sk 16).stk _ hz
   rw [hn] at h1 h2
   rw [h1, h2, show Int.toNat 0 = 0 from rfl] at hT
   simp [pageR, hc, hf, h0, he, hs, ht, hz, hT]
 ·rw [flagR_err he, Prod.mk.injEq] at hs
  obtain ⟨-, rfl⟩ := hs
  rw [tokR_err he] at ht
  subst ht
  have h1 := numR_zero (most := 16) (r := f.2) (by rw [(numR_sk 16).stk _ he]; exact he)
  have h2 := (numR_sk 16).stk _ he
  rw [hn] at h1 h2
  rw [h1, h2, show Int.toNat 0 = 0 from rfl] at hT
  simp [pageR, hc, hf, h0, he, hT]
theorem pageR_t {r : RD} {c : Int × RD} {f t : TO × RD} {ss : RD} (hc : numR 16 r = c) (hf : tokR c.2 = f) (hs : flagR f.2 = (true, ss)) (ht : tokR ss = t) (h0 : c.1 = 0) :
  pageR r = okR pg0 (⟨0, true, f.1, t.1, []⟩, if pageOk ⟨0, true, f.1, t.1, []⟩ = true then t.2 else failR 3 t.2) := by
 by_cases he : f.2.e = 0
 ·simp [pageR, hc, hf, h0, he, hs, ht, listR]
 ·rw [flagR_err he, Prod.mk.injEq] at hs
  exact absurd hs.1 (by decide)
theorem pageR_n {r : RD} {c : Int × RD} {f : TO × RD} (hc : numR 16 r = c) (hf : tokR c.2 = f) (h0 : c.1 ≠ 0) :
  pageR r = okR pg0 (⟨c.1, false, f.1, tk0, []⟩, if pageOk ⟨c.1, false, f.1, tk0, []⟩ = true then f.2 else failR 3 f.2) := by
 simp [pageR, hc, hf, h0, listR]
theorem ppageR_call {bs : BL} [hb : Few bs] (r : RD) [hs : Sfx bs r] (l : Nat) : MCalls Tryz.prog 69 [.ptr l 0 0] (St.none.set l (rP bs r)) (fun v σ' => v = .agg (pageR r).1.c ∧ σ' = St.none.set l (rP bs (pageR r).2)) := by
 refine MCalls.seenO (MCalls.body 44 [.cell 2 40] Tryz.func69 rfl rfl rfl rfl ?_)
 have h1 := pRNum_call 16 (bs := bs) r l
 haveI hcs : Sfx bs (numR 16 r).2 := inferInstance
 obtain ⟨c, hc⟩ : ∃ c, numR 16 r = c := ⟨_, rfl⟩
 rw [hc] at h1 hcs
 have h2 := ptokR_call (bs := bs) c.2 l
 haveI hfs : Sfx bs (tokR c.2).2 := inferInstance
 obtain ⟨f, hf⟩ : ∃ f, tokR c.2 = f := ⟨_, rfl⟩
 rw [hf] at h2 hfs
 by_cases h0 : c.1 = 0
 ·have h3 := pRFlag_call (bs := bs) f.2 l
  haveI hss : Sfx bs (flagR f.2).2 := inferInstance
  obtain ⟨⟨sb, ss⟩, hs'⟩ : ∃ s, flagR f.2 = s := ⟨_, rfl⟩
  rw [hs'] at h3 hss
  simp only at h3 hss
  have h4 := ptokR_call (bs := bs) ss l
  haveI hts : Sfx bs (tokR ss).2 := inferInstance
  obtain ⟨t, ht⟩ : ∃ t, tokR ss = t := ⟨_, rfl⟩
  rw [ht] at h4 hts
  cases sb
  ·have h5 := pRNum_call 16 (bs := bs) t.2 l
   haveI hns : Sfx bs (numR 16 t.2).2 := inferInstance
   have hr := (numR_rng 16 t.2).1
   have hm := numR_most (most := 16) (by decide) t.2
   obtain ⟨⟨k, y⟩, hn⟩ : ∃ n, numR 16 t.2 = n := ⟨_, rfl⟩
   rw [hn] at h5 hns hr hm
   simp only at h5 hns hr hm
   obtain ⟨K, rfl⟩ : ∃ K : Nat, k = K := ⟨k.toNat, by omega⟩
   have hK : K ≤ 16 := by omega
   obtain ⟨T, hT⟩ : ∃ T, listR itemR K ([], y) = T := ⟨_, rfl⟩
   have e := pageR_f hc hf hs' ht hn hT h0
   clear hc hf hs' ht hn hr hm
   repeat' (first | (with_reducible (refine wQ ?_; first | refine uR (h1 ..) ?_ | refine uR (h2 ..) ?_ | refine uR (h3 ..) ?_ | refine uR (h4 ..) ?_ | refine uR (h5 ..) ?_)) | (with_reducible first | (refine wT ?_; (first | ((fail_if_success (have := nl1)); refine wN fun nl1 hnl => ?_) | ((fail_if_success (have := nl2)); refine wN fun nl2 hnl => ?_) | ((fail_if_success (have := nl3)); refine wN fun nl3 hnl => ?_) | ((fail_if_success (have := nl4)); refine wN fun nl4 hnl => ?_) | refine wN fun _ hnl => ?_); revert hnl; (repeat refine wS fun _ _ => ?_); intro hnl) | refine wE ?_ | (refine wK ?_ ?_ <;> intro h) | (refine wB ?_ ?_ <;> intro h <;> simp only [h])) | simp (maxSteps := 4000000) (disch := first | decide | assumption | omega | (simp only [wL]; omega)) only [go_sem, simprocAttr, Tryz.f69, FXs, h0])
   all_goals (try (exfalso; omega))
   have d1 : nl1 ≠ l := by assumption
   have d2 : nl2 ≠ l := by assumption
   have d3 : nl2 ≠ nl1 := by assumption
   have d1' := Ne.symm d1
   have d2' := Ne.symm d2
   have d3' := Ne.symm d3
   clear h1 h2 h3 h4 h5
   refine mloop_intro (α := Nat × List IT × RD × Nat × List (List MV)) (fun a => ⟨44, [(24, .int .i64 (a.1 : Int)), (23, .int .i64 (K : Int)), (3, .ptr nl2 0 0), (2, .ptr nl1 0 0), (0, .ptr l 0 0)], []⟩)
    (fun a => (((St.none.set l (rP bs a.2.2.1)).set nl1 (.row 40 11 [pg0.k .nils])).set nl2 (.row 40 11 [(PG.mk 0 false f.1 t.1 []).k (.vec 28 a.2.2.2.1 0 a.2.1.length)])).set a.2.2.2.1 (.row 119 28 (IT.ks a.2.1 ++ a.2.2.2.2)))
    (fun a => a.1 ≤ K ∧ (a.2.2.2.1 ≠ l ∧ a.2.2.2.1 ≠ nl1 ∧ a.2.2.2.1 ≠ nl2) ∧ Sfx bs a.2.2.1 ∧ a.2.1.length ≤ a.1 ∧ (a.2.2.1.e = 0 → listR itemR (K - a.1) (a.2.1, a.2.2.1) = T) ∧ (a.2.2.1.e ≠ 0 → T.2 = a.2.2.1)) (fun a => K - a.1) ?_ ?_
   ·refine Gh.rowIn (b := nl2) (t := 40) (e := 11) (pre := [.int .i64 0, .bool false, .int .i64 f.1.dev, .int .i64 f.1.ep, .int .i64 f.1.sq, .int .i64 f.1.cu, .int .i64 t.1.dev, .int .i64 t.1.ep, .int .i64 t.1.sq, .int .i64 t.1.cu]) (post := []) 119 28 (by simp [St.set, *]) fun q hq => ?_
    have q1 : q ≠ l := fun e => by subst e; simp [St.set, *] at hq
    have q2 : q ≠ nl1 := fun e => by subst e; simp [St.set, *] at hq
    have q3 : q ≠ nl2 := fun e => by subst e; simp [St.set, *] at hq
    have q1' := Ne.symm q1
    have q2' := Ne.symm q2
    have q3' := Ne.symm q3
    refine .of (.less ?_ (σ1 := (((St.none.set l (rP bs y)).set nl1 (.row 40 11 [pg0.k .nils])).set nl2 (.row 40 11 [(PG.mk 0 false f.1 t.1 []).k (.vec 28 q 0 0)])).set q (.row 119 28 [])) (le4 (by simp [St.set, *]) (by simp [St.set, pg0, tk0, *]) (by simp [St.set, *]) (by simp [St.set, *]))) ⟨(0, [], y, q, []), rfl, rfl, Nat.zero_le _, ⟨q1, q2, q3⟩, hns, Nat.le_refl _, fun _ => hT, fun h => by rw [← hT, listR_stk _ _ h]⟩
    simp (maxSteps := 4000000) (disch := first | decide | assumption | omega | (simp only [wL]; omega)) only [go_sem, simprocAttr, weak_int, weak_same]
    all_goals rfl
   ·rintro ⟨i, acc, x, q, ex⟩ ⟨hi, ⟨q1, q2, q3⟩, hsx, hal, hq, hqe⟩
    simp only at hi q1 q2 q3 hq hqe hsx hal ⊢
    have q1' := Ne.symm q1
    have q2' := Ne.symm q2
    have q3' := Ne.symm q3
    by_cases hx : i < K
    ·have hcl := pitemR_call (bs := bs) x l
     have hn1 : (itemR x).2.e = 0 → listR itemR (K - (i + 1)) (acc ++ [(itemR x).1], (itemR x).2) = T := fun h => by
      have hx0 := itemR_sk.err h
      rw [← hq hx0, show K - i = (K - (i + 1)) + 1 by omega, listR, if_pos hx0]
     have hn2 : (itemR x).2.e ≠ 0 → T.2 = (itemR x).2 := fun h => by
      by_cases hx0 : x.e = 0
      ·rw [← hq hx0, show K - i = (K - (i + 1)) + 1 by omega, listR, if_pos hx0, listR_stk _ _ h]
      ·rw [hqe hx0, itemR_sk.stk _ hx0]
     obtain ⟨w, hw⟩ : ∃ w, itemR x = w := ⟨_, rfl⟩
     haveI hsw : Sfx bs w.2 := by rw [← hw]; infer_instance
     rw [hw] at hcl hn1 hn2
     clear hT hw e hq hqe
     repeat' (first | (with_reducible first | (refine wT ?_; (first | ((fail_if_success (have := nl1)); refine wN fun nl1 hnl => ?_) | ((fail_if_success (have := nl2)); refine wN fun nl2 hnl => ?_) | ((fail_if_success (have := nl3)); refine wN fun nl3 hnl => ?_) | ((fail_if_success (have := nl4)); refine wN fun nl4 hnl => ?_) | refine wN fun _ hnl => ?_); revert hnl; (repeat refine wS fun _ _ => ?_); intro hnl) | refine wE ?_ | (refine wK ?_ ?_ <;> intro h) | (refine wB ?_ ?_ <;> intro h <;> simp only [h])) | simp (maxSteps := 4000000) (disch := first | decide | assumption | omega | (simp only [wL]; omega)) only [go_sem, simprocAttr, FXs, tk_app, dr_app])
     refine mdraw_upd mixed [(0, l), (3, nl2)] [0, 3] rfl [(26, 3), (32, 3)] 0 (by decide) (by decide +kernel) (kn [(125, [.ptr l 0 0], ⟨[l], fun _ => True, some (rP bs w.2, fun _ => .agg (IT.k w.1))⟩)]) ?_ ?_ ?_ (by decide) ?_ ?_
     ·intro g ms F hF l' hl'
      rw [kn_one hF] at hl'
      exact List.mem_singleton.1 hl'
     ·intro p hp
      simp only [List.mem_cons, List.not_mem_nil, or_false] at hp
      rcases hp with rfl | rfl
      ·exact ⟨0, 0, rfl⟩
      ·exact ⟨0, 0, rfl⟩
     ·simp [Ne.symm d2]
     ·intro p hp
      simp only [List.mem_cons, List.not_mem_nil, or_false] at hp
      rcases hp with rfl | rfl
      ·exact ⟨by decide, fun l i o h => absurd h (by simp [FR.get, lget])⟩
      ·exact ⟨by decide, fun l i o h => absurd h (by simp [FR.get, lget])⟩
     ·repeat' (first | (((with_reducible refine knowU_upd kn_hit ?ho hcl ?_); (case ho => simp [St.set, *]))) | (with_reducible first | (refine wT ?_; (first | ((fail_if_success (have := nl1)); refine wN fun nl1 hnl => ?_) | ((fail_if_success (have := nl2)); refine wN fun nl2 hnl => ?_) | ((fail_if_success (have := nl3)); refine wN fun nl3 hnl => ?_) | ((fail_if_success (have := nl4)); refine wN fun nl4 hnl => ?_) | refine wN fun _ hnl => ?_); revert hnl; (repeat refine wS fun _ _ => ?_); intro hnl) | refine wE ?_ | (refine wK ?_ ?_ <;> intro h) | (refine wB ?_ ?_ <;> intro h <;> simp only [h])) | simp (maxSteps := 4000000) (disch := first | decide | assumption | omega | (simp only [wL]; omega)) only [go_sem, simprocAttr, FXs, tk_app, dr_app])
      ·have hex : ex = [] := List.eq_nil_of_length_eq_zero (by omega)
       subst hex
       clear h
       refine .of (.less ?_ (σ1 := (((St.none.set l (rP bs w.2)).set nl1 (.row 40 11 [pg0.k .nils])).set nl2 (.row 40 11 [(PG.mk 0 false f.1 t.1 []).k (.vec 28 nl4 0 (acc ++ [w.1]).length)])).set nl4 (.row 119 28 (IT.ks (acc ++ [w.1]) ++ []))) (le4 (by simp [St.set, *]) (by simp [St.set, pg0, tk0, *]) (by simp [St.set, *]) (by simp [St.set, *]))) ⟨(i + 1, acc ++ [w.1], w.2, nl4, []), rfl, rfl, ⟨by simp only; omega, ⟨by assumption, by assumption, by assumption⟩, hsw, by simp only [List.length_append, List.length_cons, List.length_nil]; omega, hn1, hn2⟩, by simp only; omega⟩
       simp (maxSteps := 4000000) (disch := first | decide | assumption | omega | (simp only [wL]; omega)) only [go_sem, simprocAttr, weak_int, weak_same]
       all_goals (simp; done)
      ·refine .of (.less ?_ (σ1 := (((St.none.set l (rP bs w.2)).set nl1 (.row 40 11 [pg0.k .nils])).set nl2 (.row 40 11 [(PG.mk 0 false f.1 t.1 []).k (.vec 28 nl4 0 (acc ++ [w.1]).length)])).set nl4 (.row 119 28 (IT.ks (acc ++ [w.1]) ++ ex.drop 1))) (le4 (by simp [St.set, *]) (by simp [St.set, pg0, tk0, *]) (by simp [St.set, *]) (by simp [St.set, *]))) ⟨(i + 1, acc ++ [w.1], w.2, nl4, ex.drop 1), rfl, rfl, ⟨by simp only; omega, ⟨by assumption, by assumption, by assumption⟩, hsw, by simp only [List.length_append, List.length_cons, List.length_nil]; omega, hn1, hn2⟩, by simp only; omega⟩
       simp (maxSteps := 4000000) (disch := first | decide | assumption | omega | (simp only [wL]; omega)) only [go_sem, simprocAttr, weak_int, weak_same]
       all_goals (simp; done)
    ·have hiK : i = K := by omega
     subst hiK
     have e : pageR r = okR pg0 (⟨0, false, f.1, t.1, acc⟩, if pageOk ⟨0, false, f.1, t.1, acc⟩ = true then x else failR 3 x) := by
      by_cases hx0 : x.e = 0
      ·have hTa : T = (acc, x) := by rw [← hq hx0, Nat.sub_self, listR]
       rw [e, hTa]
      ·have := hqe hx0
       rw [e, this, failR_stk hx0, ite_self, ite_self, okR_n hx0, okR_n hx0]
     clear hT hq hqe hx
     have hfail := pRFail_call 3 (bs := bs) x l
     have herr := pRErr_call (bs := bs) x l
     have herr2 := pRErr_call (bs := bs) (failR 3 x) l
     have hk := ppgcheck_call ⟨0, false, f.1, t.1, acc⟩ (by first | (simp; done) | (simp only; omega))
     by_cases he : x.e = 0
     ·cases hok : pageOk ⟨0, false, f.1, t.1, acc⟩ <;> rw [hok] at hk
      ·rw [hok, if_neg (by simp), okR_n (failR_ne (by decide) _)] at e
       rw [e]
       clear e
       have hne := failR_ne (e := 3) (by decide) x
       repeat' (first | (with_reducible refine use_lend [.agg (PG.c ⟨0, false, f.1, t.1, acc⟩)] hk (.bool _) rfl (views_one (vpg (p := ⟨0, false, f.1, t.1, acc⟩) (viewR (set_hit _ _ _)))) ?_) | (with_reducible (refine wQ ?_; first | refine uR (hfail ..) ?_ | refine uR (herr ..) ?_ | refine uR (herr2 ..) ?_)) | (with_reducible first | (refine wT ?_; (first | ((fail_if_success (have := nl1)); refine wN fun nl1 hnl => ?_) | ((fail_if_success (have := nl2)); refine wN fun nl2 hnl => ?_) | ((fail_if_success (have := nl3)); refine wN fun nl3 hnl => ?_) | ((fail_if_success (have := nl4)); refine wN fun nl4 hnl => ?_) | refine wN fun _ hnl => ?_); revert hnl; (repeat refine wS fun _ _ => ?_); intro hnl) | refine wE ?_ | (refine wK ?_ ?_ <;> intro h) | (refine wB ?_ ?_ <;> intro h <;> simp only [h])) | simp (maxSteps := 4000000) (disch := first | decide | assumption | omega | (simp only [wL]; omega)) only [go_sem, simprocAttr, FXs, tk_app, dr_app, pg0])
       all_goals (try (exfalso; omega))
       all_goals first | exact vpg (p := pg0) (.nil _ _) | exact ⟨vpg (p := pg0) (.nil _ _), rfl⟩
      ·rw [hok, if_pos rfl, okR_y he] at e
       rw [e]
       clear e
       repeat' (first | (with_reducible refine use_lend [.agg (PG.c ⟨0, false, f.1, t.1, acc⟩)] hk (.bool _) rfl (views_one (vpg (p := ⟨0, false, f.1, t.1, acc⟩) (viewR (set_hit _ _ _)))) ?_) | (with_reducible (refine wQ ?_; first | refine uR (hfail ..) ?_ | refine uR (herr ..) ?_ | refine uR (herr2 ..) ?_)) | (with_reducible first | (refine wT ?_; (first | ((fail_if_success (have := nl1)); refine wN fun nl1 hnl => ?_) | ((fail_if_success (have := nl2)); refine wN fun nl2 hnl => ?_) | ((fail_if_success (have := nl3)); refine wN fun nl3 hnl => ?_) | ((fail_if_success (have := nl4)); refine wN fun nl4 hnl => ?_) | refine wN fun _ hnl => ?_); revert hnl; (repeat refine wS fun _ _ => ?_); intro hnl) | refine wE ?_ | (refine wK ?_ ?_ <;> intro h) | (refine wB ?_ ?_ <;> intro h <;> simp only [h])) | simp (maxSteps := 4000000) (disch := first | decide | assumption | omega | (simp only [wL]; omega)) only [go_sem, simprocAttr, FXs, tk_app, dr_app, pg0])
       all_goals (try (exfalso; omega))
       all_goals first | exact vpg (p := ⟨0, false, f.1, t.1, acc⟩) (viewR (set_hit _ _ _)) | exact ⟨vpg (p := ⟨0, false, f.1, t.1, acc⟩) (viewR (set_hit _ _ _)), rfl⟩
     ·rw [failR_stk he] at herr2 hfail
      rw [failR_stk he, ite_self, okR_n he] at e
      rw [e]
      clear e
      cases hok : pageOk ⟨0, false, f.1, t.1, acc⟩ <;> rw [hok] at hk
      all_goals
       repeat' (first | (with_reducible refine use_lend [.agg (PG.c ⟨0, false, f.1, t.1, acc⟩)] hk (.bool _) rfl (views_one (vpg (p := ⟨0, false, f.1, t.1, acc⟩) (viewR (set_hit _ _ _)))) ?_) | (with_reducible (refine wQ ?_; first | refine uR (hfail ..) ?_ | refine uR (herr ..) ?_)) | (with_reducible first | (refine wT ?_; (first | ((fail_if_success (have := nl1)); refine wN fun nl1 hnl => ?_) | ((fail_if_success (have := nl2)); refine wN fun nl2 hnl => ?_) | ((fail_if_success (have := nl3)); refine wN fun nl3 hnl => ?_) | ((fail_if_success (have := nl4)); refine wN fun nl4 hnl => ?_) | refine wN fun _ hnl => ?_); revert hnl; (repeat refine wS fun _ _ => ?_); intro hnl) | refine wE ?_ | (refine wK ?_ ?_ <;> intro h) | (refine wB ?_ ?_ <;> intro h <;> simp only [h])) | simp (maxSteps := 4000000) (disch := first | decide | assumption | omega | (simp only [wL]; omega)) only [go_sem, simprocAttr, FXs, tk_app, dr_app, pg0])
       all_goals (try (exfalso; omega))
       all_goals first | exact vpg (p := pg0) (.nil _ _) | exact ⟨vpg (p := pg0) (.nil _ _), rfl⟩
  ·have e := pageR_t hc hf hs' ht h0
   clear hc hf hs' ht
   have hfail := pRFail_call 3 (bs := bs) t.2 l
   have herr := pRErr_call (bs := bs) t.2 l
   have herr2 := pRErr_call (bs := bs) (failR 3 t.2) l
   have hk := ppgcheck_call ⟨0, true, f.1, t.1, []⟩ (by first | (simp; done) | (simp only; omega))
   by_cases he : t.2.e = 0
   ·cases hok : pageOk ⟨0, true, f.1, t.1, []⟩ <;> rw [hok] at hk
    ·rw [hok, if_neg (by simp), okR_n (failR_ne (by decide) _)] at e
     rw [e]
     clear e
     have hne := failR_ne (e := 3) (by decide) t.2
     repeat' (first | (with_reducible refine use_lend [.agg (PG.c ⟨0, true, f.1, t.1, []⟩)] hk (.bool _) rfl (views_one (vpg (p := ⟨0, true, f.1, t.1, []⟩) (.nil _ _))) ?_) | (with_reducible (refine wQ ?_; first | refine uR (hfail ..) ?_ | refine uR (herr ..) ?_ | refine uR (herr2 ..) ?_ | refine uR (h1 ..) ?_ | refine uR (h2 ..) ?_ | refine uR (h3 ..) ?_ | refine uR (h4 ..) ?_)) | (with_reducible first | (refine wT ?_; (first | ((fail_if_success (have := nl1)); refine wN fun nl1 hnl => ?_) | ((fail_if_success (have := nl2)); refine wN fun nl2 hnl => ?_) | ((fail_if_success (have := nl3)); refine wN fun nl3 hnl => ?_) | ((fail_if_success (have := nl4)); refine wN fun nl4 hnl => ?_) | refine wN fun _ hnl => ?_); revert hnl; (repeat refine wS fun _ _ => ?_); intro hnl) | refine wE ?_ | (refine wK ?_ ?_ <;> intro h) | (refine wB ?_ ?_ <;> intro h <;> simp only [h])) | simp (maxSteps := 4000000) (disch := first | decide | assumption | omega | (simp only [wL]; omega)) only [go_sem, simprocAttr, Tryz.f69, h0, FXs, pg0])
     all_goals (try (exfalso; omega))
     all_goals first | exact vpg (p := pg0) (.nil _ _) | exact ⟨vpg (p := pg0) (.nil _ _), rfl⟩
    ·rw [hok, if_pos rfl, okR_y he] at e
     rw [e]
     clear e
     repeat' (first | (with_reducible refine use_lend [.agg (PG.c ⟨0, true, f.1, t.1, []⟩)] hk (.bool _) rfl (views_one (vpg (p := ⟨0, true, f.1, t.1, []⟩) (.nil _ _))) ?_) | (with_reducible (refine wQ ?_; first | refine uR (hfail ..) ?_ | refine uR (herr ..) ?_ | refine uR (herr2 ..) ?_ | refine uR (h1 ..) ?_ | refine uR (h2 ..) ?_ | refine uR (h3 ..) ?_ | refine uR (h4 ..) ?_)) | (with_reducible first | (refine wT ?_; (first | ((fail_if_success (have := nl1)); refine wN fun nl1 hnl => ?_) | ((fail_if_success (have := nl2)); refine wN fun nl2 hnl => ?_) | ((fail_if_success (have := nl3)); refine wN fun nl3 hnl => ?_) | ((fail_if_success (have := nl4)); refine wN fun nl4 hnl => ?_) | refine wN fun _ hnl => ?_); revert hnl; (repeat refine wS fun _ _ => ?_); intro hnl) | refine wE ?_ | (refine wK ?_ ?_ <;> intro h) | (refine wB ?_ ?_ <;> intro h <;> simp only [h])) | simp (maxSteps := 4000000) (disch := first | decide | assumption | omega | (simp only [wL]; omega)) only [go_sem, simprocAttr, Tryz.f69, h0, FXs, pg0])
     all_goals (try (exfalso; omega))
     all_goals first | exact vpg (p := ⟨0, true, f.1, t.1, []⟩) (.nil _ _) | exact ⟨vpg (p := ⟨0, true, f.1, t.1, []⟩) (.nil _ _), rfl⟩
   ·rw [failR_stk he] at herr2 hfail
    rw [failR_stk he, ite_self, okR_n he] at e
    rw [e]
    clear e
    cases hok : pageOk ⟨0, true, f.1, t.1, []⟩ <;> rw [hok] at hk
    all_goals
     repeat' (first | (with_reducible refine use_lend [.agg (PG.c ⟨0, true, f.1, t.1, []⟩)] hk (.bool _) rfl (views_one (vpg (p := ⟨0, true, f.1, t.1, []⟩) (.nil _ _))) ?_) | (with_reducible (refine wQ ?_; first | refine uR (hfail ..) ?_ | refine uR (herr ..) ?_ | refine uR (h1 ..) ?_ | refine uR (h2 ..) ?_ | refine uR (h3 ..) ?_ | refine uR (h4 ..) ?_)) | (with_reducible first | (refine wT ?_; (first | ((fail_if_success (have := nl1)); refine wN fun nl1 hnl => ?_) | ((fail_if_success (have := nl2)); refine wN fun nl2 hnl => ?_) | ((fail_if_success (have := nl3)); refine wN fun nl3 hnl => ?_) | ((fail_if_success (have := nl4)); refine wN fun nl4 hnl => ?_) | refine wN fun _ hnl => ?_); revert hnl; (repeat refine wS fun _ _ => ?_); intro hnl) | refine wE ?_ | (refine wK ?_ ?_ <;> intro h) | (refine wB ?_ ?_ <;> intro h <;> simp only [h])) | simp (maxSteps := 4000000) (disch := first | decide | assumption | omega | (simp only [wL]; omega)) only [go_sem, simprocAttr, Tryz.f69, h0, FXs, pg0])
     all_goals (try (exfalso; omega))
     all_goals first | exact vpg (p := pg0) (.nil _ _) | exact ⟨vpg (p := pg0) (.nil _ _), rfl⟩
 ·have e := pageR_n hc hf h0
  clear hc hf
  have hfail := pRFail_call 3 (bs := bs) f.2 l
  have herr := pRErr_call (bs := bs) f.2 l
  have herr2 := pRErr_call (bs := bs) (failR 3 f.2) l
  have hk := ppgcheck_call ⟨c.1, false, f.1, tk0, []⟩ (by first | (simp; done) | (simp only; omega))
  by_cases he : f.2.e = 0
  ·cases hok : pageOk ⟨c.1, false, f.1, tk0, []⟩ <;> rw [hok] at hk
   ·rw [hok, if_neg (by simp), okR_n (failR_ne (by decide) _)] at e
    rw [e]
    clear e
    have hne := failR_ne (e := 3) (by decide) f.2
    repeat' (first | (with_reducible refine use_lend [.agg (PG.c ⟨c.1, false, f.1, tk0, []⟩)] hk (.bool _) rfl (views_one (vpg (p := ⟨c.1, false, f.1, tk0, []⟩) (.nil _ _))) ?_) | (with_reducible (refine wQ ?_; first | refine uR (hfail ..) ?_ | refine uR (herr ..) ?_ | refine uR (herr2 ..) ?_ | refine uR (h1 ..) ?_ | refine uR (h2 ..) ?_)) | (with_reducible first | (refine wT ?_; (first | ((fail_if_success (have := nl1)); refine wN fun nl1 hnl => ?_) | ((fail_if_success (have := nl2)); refine wN fun nl2 hnl => ?_) | ((fail_if_success (have := nl3)); refine wN fun nl3 hnl => ?_) | ((fail_if_success (have := nl4)); refine wN fun nl4 hnl => ?_) | refine wN fun _ hnl => ?_); revert hnl; (repeat refine wS fun _ _ => ?_); intro hnl) | refine wE ?_ | (refine wK ?_ ?_ <;> intro h) | (refine wB ?_ ?_ <;> intro h <;> simp only [h])) | simp (maxSteps := 4000000) (disch := first | decide | assumption | omega | (simp only [wL]; omega)) only [go_sem, simprocAttr, Tryz.f69, FXs, pg0])
    all_goals (try (exfalso; omega))
    all_goals first | exact vpg (p := pg0) (.nil _ _) | exact ⟨vpg (p := pg0) (.nil _ _), rfl⟩
   ·rw [hok, if_pos rfl, okR_y he] at e
    rw [e]
    clear e
    repeat' (first | (with_reducible refine use_lend [.agg (PG.c ⟨c.1, false, f.1, tk0, []⟩)] hk (.bool _) rfl (views_one (vpg (p := ⟨c.1, false, f.1, tk0, []⟩) (.nil _ _))) ?_) | (with_reducible (refine wQ ?_; first | refine uR (hfail ..) ?_ | refine uR (herr ..) ?_ | refine uR (herr2 ..) ?_ | refine uR (h1 ..) ?_ | refine uR (h2 ..) ?_)) | (with_reducible first | (refine wT ?_; (first | ((fail_if_success (have := nl1)); refine wN fun nl1 hnl => ?_) | ((fail_if_success (have := nl2)); refine wN fun nl2 hnl => ?_) | ((fail_if_success (have := nl3)); refine wN fun nl3 hnl => ?_) | ((fail_if_success (have := nl4)); refine wN fun nl4 hnl => ?_) | refine wN fun _ hnl => ?_); revert hnl; (repeat refine wS fun _ _ => ?_); intro hnl) | refine wE ?_ | (refine wK ?_ ?_ <;> intro h) | (refine wB ?_ ?_ <;> intro h <;> simp only [h])) | simp (maxSteps := 4000000) (disch := first | decide | assumption | omega | (simp only [wL]; omega)) only [go_sem, simprocAttr, Tryz.f69, FXs, pg0])
    all_goals (try (exfalso; omega))
    all_goals first | exact vpg (p := ⟨c.1, false, f.1, tk0, []⟩) (.nil _ _) | exact ⟨vpg (p := ⟨c.1, false, f.1, tk0, []⟩) (.nil _ _), rfl⟩
  ·rw [failR_stk he] at herr2 hfail
   rw [failR_stk he, ite_self, okR_n he] at e
   rw [e]
   clear e
   cases hok : pageOk ⟨c.1, false, f.1, tk0, []⟩ <;> rw [hok] at hk
   all_goals
    repeat' (first | (with_reducible refine use_lend [.agg (PG.c ⟨c.1, false, f.1, tk0, []⟩)] hk (.bool _) rfl (views_one (vpg (p := ⟨c.1, false, f.1, tk0, []⟩) (.nil _ _))) ?_) | (with_reducible (refine wQ ?_; first | refine uR (hfail ..) ?_ | refine uR (herr ..) ?_ | refine uR (h1 ..) ?_ | refine uR (h2 ..) ?_)) | (with_reducible first | (refine wT ?_; (first | ((fail_if_success (have := nl1)); refine wN fun nl1 hnl => ?_) | ((fail_if_success (have := nl2)); refine wN fun nl2 hnl => ?_) | ((fail_if_success (have := nl3)); refine wN fun nl3 hnl => ?_) | ((fail_if_success (have := nl4)); refine wN fun nl4 hnl => ?_) | refine wN fun _ hnl => ?_); revert hnl; (repeat refine wS fun _ _ => ?_); intro hnl) | refine wE ?_ | (refine wK ?_ ?_ <;> intro h) | (refine wB ?_ ?_ <;> intro h <;> simp only [h])) | simp (maxSteps := 4000000) (disch := first | decide | assumption | omega | (simp only [wL]; omega)) only [go_sem, simprocAttr, Tryz.f69, FXs, pg0])
    all_goals (try (exfalso; omega))
    all_goals first | exact vpg (p := pg0) (.nil _ _) | exact ⟨vpg (p := pg0) (.nil _ _), rfl⟩
end Go.Proofs.YtfbodefnblpflaaGreatDoor
end
