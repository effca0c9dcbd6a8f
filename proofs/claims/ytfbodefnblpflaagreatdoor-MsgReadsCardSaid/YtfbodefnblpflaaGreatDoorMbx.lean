/- Parts of the proof, joined. Each part says what it proves, and under which conditions it does: those that its theorems name. -/
import Derived.Test.YtfbodefnblpflaaGreatDoorMbw
set_option linter.unusedVariables false
set_option linter.unusedSimpArgs false
set_option maxHeartbeats 4000000
namespace Go.Proofs.YtfbodefnblpflaaGreatDoor
set_option maxRecDepth 100000
theorem fc_fold2 {f : F8} {i : Nat} {v : VA} (h : i < 8) : (fc f).take (i * 3) ++ v.c ++ (fc f).drop (2 + i * 3 + 1) = fc (f.set i v) := by
 rw [show 2 + i * 3 + 1 = 3 + i * 3 by omega]; exact fc_fold h
theorem u32_wrap {n : Int} (h0 : 0 ≤ n) (h : n ≤ 4294967295) : IntKind.u32.wrap n = ((UInt32.ofNat n.toNat).toNat : Int) := by
 rw [u32_toN h0 h]
 obtain ⟨k, rfl⟩ : ∃ k : Nat, n = k := ⟨n.toNat, by omega⟩
 exact wrap32 (by omega)
theorem u32_mask {n : Int} (h0 : 0 ≤ n) (h : n ≤ 4294967295) : (UInt32.ofNat n.toNat).toNat = n.toNat := by
 have := u32_toN h0 h
 omega
set_option maxHeartbeats 4000000 in
theorem rcardR_call (r : RD) [hs : Sh r] (l : Nat) : MCalls Tryz.prog 148 [.ptr l 0 0] (St.none.set l (rR r)) (fun v σ' => v = .agg (cardR r).1.c ∧ σ' = St.none.set l (rR (cardR r).2)) := by
 refine MCalls.obj (MCalls.body 61 [.cell 2 117] Tryz.func148 rfl rfl rfl rfl ?_)
 repeat' (first | (with_reducible (refine wQ ?_; first | refine uR (rabove8_call ..) ?_ | refine uR (rRNum_call ..) ?_)) | (with_reducible first | (refine wT ?_; (first | ((fail_if_success (have := nl1)); refine wN fun nl1 hnl => ?_) | ((fail_if_success (have := nl2)); refine wN fun nl2 hnl => ?_) | refine wN fun _ hnl => ?_); revert hnl; (repeat refine wS fun _ _ => ?_); intro hnl) | refine wE ?_ | (refine wK ?_ ?_ <;> intro h) | (refine wB ?_ ?_ <;> intro h <;> simp only [h])) | simp (maxSteps := 4000000) (disch := first | decide | assumption | omega | (simp only [wL]; omega)) only [go_sem, simprocAttr, Tryz.f148, FXs])
 obtain ⟨a, ha⟩ : ∃ a, fromR 1 1073741823 r = a := ⟨_, rfl⟩
 haveI : Sh a.2 := by rw [← ha]; infer_instance
 obtain ⟨b, hb⟩ : ∃ b, fromR 1 1099511627776 a.2 = b := ⟨_, rfl⟩
 haveI : Sh b.2 := by rw [← hb]; infer_instance
 obtain ⟨c, hc⟩ : ∃ c, numR 65535 b.2 = c := ⟨_, rfl⟩
 haveI : Sh c.2 := by rw [← hc]; infer_instance
 obtain ⟨m, hm⟩ : ∃ m, numR 255 c.2 = m := ⟨_, rfl⟩
 haveI hm2 : Sh m.2 := by rw [← hm]; infer_instance
 have hcl := numR_most (most := 65535) (by decide) b.2
 have hcr := (numR_rng 65535 b.2).1
 have hml := numR_most (most := 255) (by decide) c.2
 have hmr := (numR_rng 255 c.2).1
 rw [hm] at hml hmr
 rw [hc] at hcl hcr
 simp only [ha, hb, hc, hm]
 rw [u32_wrap hcr (by omega), u32_wrap hmr (by omega)]
 have hmm := u32_mask hmr (by omega)
 have e : cardR r = okR ca0 (⟨a.1, b.1, UInt32.ofNat c.1.toNat, (fieldsR m.1.toNat false 8 (f80, m.2)).1⟩, (fieldsR m.1.toNat false 8 (f80, m.2)).2) := by
  unfold cardR
  simp only [idMax, big, Int.reduceSub]
  rw [ha, hb, hc, hm]
 rw [e]
 obtain ⟨mk, hmk⟩ : ∃ mk, UInt32.ofNat m.1.toNat = mk := ⟨_, rfl⟩
 obtain ⟨lb, hlb⟩ : ∃ lb, UInt32.ofNat c.1.toNat = lb := ⟨_, rfl⟩
 rw [hmk] at hmm ⊢
 rw [hlb, ← hmm]
 clear e ha hb hc hm hml hmr hcl hcr hmm hmk hlb hs
 refine mloop_intro (α := Nat × F8 × F8 × RD) (fun w => ⟨61, [(5, .int .i64 (w.1 : Int)), (4, .int .u32 (mk.toNat : Int)), (3, .ptr nl2 0 0), (2, .ptr nl1 0 0), (0, .ptr l 0 0)], []⟩)
  (fun w => ((St.none.set l (rR w.2.2.2)).set nl1 (.row 117 27 [ca0.c])).set nl2 (.row 117 27 [[.int .i64 a.1, .int .i64 b.1, .int .u32 (lb.toNat : Int)] ++ fc w.2.1]))
  (fun w => w.1 ≤ 8 ∧ fieldsR mk.toNat false (8 - w.1) w.2.2 = fieldsR mk.toNat false 8 (f80, m.2) ∧ (w.2.2.2.e = 0 → w.2.1 = w.2.2.1) ∧ Sh w.2.2.2) (fun w => 8 - w.1) (.of (.less ?_ (St.le_refl _)) ⟨(0, f80, f80, m.2), rfl, rfl, Nat.zero_le _, rfl, fun _ => rfl, hm2⟩) ?_
 ·simp (maxSteps := 4000000) (disch := first | decide | assumption | omega | (simp only [wL]; omega)) only [go_sem, simprocAttr, weak_int, weak_same]
  all_goals rfl
 ·rintro ⟨i, g, x⟩ ⟨hi, hq, hg, hsx⟩
  simp only at hi hq hg hsx ⊢
  by_cases h8 : i < 8
  ·rw [fieldsR_at h8] at hq
   have hb := rbit_call mk i (by omega)
   cases hbb : bit mk.toNat i <;> rw [hbb] at hb hq
   ·rw [if_neg (by simp)] at hq
    repeat' (first | (with_reducible first | refine up hb ?_) | (with_reducible first | (refine wT ?_; (first | ((fail_if_success (have := nl1)); refine wN fun nl1 hnl => ?_) | ((fail_if_success (have := nl2)); refine wN fun nl2 hnl => ?_) | refine wN fun _ hnl => ?_); revert hnl; (repeat refine wS fun _ _ => ?_); intro hnl) | refine wE ?_ | (refine wK ?_ ?_ <;> intro h) | (refine wB ?_ ?_ <;> intro h <;> simp only [h])) | simp (maxSteps := 4000000) (disch := first | decide | assumption | omega | (simp only [wL]; omega)) only [go_sem, simprocAttr, fc_len, fc_cell])
    refine .of (.less ?_ (St.le_refl _)) ⟨(i + 1, g, x), rfl, rfl, ⟨by simp only; omega, hq, hg, hsx⟩, by simp only; omega⟩
    simp (maxSteps := 4000000) (disch := first | decide | assumption | omega | (simp only [wL]; omega)) only [go_sem, simprocAttr, weak_int, weak_same]
    all_goals rfl
   ·rw [if_pos rfl] at hq
    by_cases he : x.2.e = 0
    ·have hg := hg he
     subst hg
     by_cases h0 : (valR x.2).2.e = 0 ∧ (valR x.2).1.kd = 0
     ·rw [if_pos ⟨rfl, h0.2⟩] at hq
      repeat' (first | (with_reducible (refine wQ ?_; first | refine uR (rvalR_call ..) ?_ | refine uR (rRFail_call ..) ?_)) | (with_reducible first | refine up hb ?_) | (with_reducible first | (refine wT ?_; (first | ((fail_if_success (have := nl1)); refine wN fun nl1 hnl => ?_) | ((fail_if_success (have := nl2)); refine wN fun nl2 hnl => ?_) | refine wN fun _ hnl => ?_); revert hnl; (repeat refine wS fun _ _ => ?_); intro hnl) | refine wE ?_ | (refine wK ?_ ?_ <;> intro h) | (refine wB ?_ ?_ <;> intro h <;> simp only [h])) | simp (maxSteps := 4000000) (disch := first | decide | assumption | omega | (simp only [wL]; omega)) only [go_sem, simprocAttr, FXs])
      refine .of (.less ?_ (St.le_refl _)) ⟨(i + 1, x.1.set i (valR x.2).1, (x.1.set i (valR x.2).1, failR 3 (valR x.2).2)), rfl, rfl, ⟨by simp only; omega, hq, fun _ => rfl, by infer_instance⟩, by simp only; omega⟩
      simp (maxSteps := 4000000) (disch := first | decide | assumption | omega | (simp only [wL]; omega)) only [go_sem, simprocAttr, weak_int, weak_same]
      all_goals rfl
     ·have hx : (if false = false ∧ (valR x.2).1.kd = 0 then failR 3 (valR x.2).2 else (valR x.2).2) = (valR x.2).2 := by
       split
       ·rename_i h; exact failR_stk fun he0 => h0 ⟨he0, h.2⟩
       ·rfl
      rw [hx] at hq
      repeat' (first | (with_reducible (refine wQ ?_; first | refine uR (rvalR_call ..) ?_ | refine uR (rRFail_call ..) ?_)) | (with_reducible first | refine up hb ?_) | (with_reducible first | (refine wT ?_; (first | ((fail_if_success (have := nl1)); refine wN fun nl1 hnl => ?_) | ((fail_if_success (have := nl2)); refine wN fun nl2 hnl => ?_) | refine wN fun _ hnl => ?_); revert hnl; (repeat refine wS fun _ _ => ?_); intro hnl) | refine wE ?_ | (refine wK ?_ ?_ <;> intro h) | (refine wB ?_ ?_ <;> intro h <;> simp only [h])) | simp (maxSteps := 4000000) (disch := first | decide | assumption | omega | (simp only [wL]; omega)) only [go_sem, simprocAttr, FXs])
      all_goals
       refine .of (.less ?_ (St.le_refl _)) ⟨(i + 1, x.1.set i (valR x.2).1, (x.1.set i (valR x.2).1, (valR x.2).2)), rfl, rfl, ⟨by simp only; omega, hq, fun _ => rfl, by infer_instance⟩, by simp only; omega⟩
       simp (maxSteps := 4000000) (disch := first | decide | assumption | omega | (simp only [wL]; omega)) only [go_sem, simprocAttr, weak_int, weak_same]
       all_goals rfl
    ·repeat' (first | (with_reducible (refine wQ ?_; first | refine uR (rvalR_call ..) ?_ | refine uR (rRFail_call ..) ?_)) | (with_reducible first | refine up hb ?_) | (with_reducible first | (refine wT ?_; (first | ((fail_if_success (have := nl1)); refine wN fun nl1 hnl => ?_) | ((fail_if_success (have := nl2)); refine wN fun nl2 hnl => ?_) | refine wN fun _ hnl => ?_); revert hnl; (repeat refine wS fun _ _ => ?_); intro hnl) | refine wE ?_ | (refine wK ?_ ?_ <;> intro h) | (refine wB ?_ ?_ <;> intro h <;> simp only [h])) | simp (maxSteps := 4000000) (disch := first | decide | assumption | omega | (simp only [wL]; omega)) only [go_sem, simprocAttr, fc_len, fc_cell])
     have h1 := valR_sk.stk x.2 he
     have h2 : ((if false = false ∧ (valR x.2).1.kd = 0 then failR 3 (valR x.2).2 else (valR x.2).2) : RD) = x.2 := by rw [h1, failR_stk he]; split <;> rfl
     rw [h2] at hq
     refine .of (.less ?_ (St.le_refl _)) ⟨(i + 1, g, (x.1.set i (valR x.2).1, x.2)), rfl, rfl, ⟨by simp only; omega, hq, fun h => absurd h he, hsx⟩, by simp only; omega⟩
     simp (maxSteps := 4000000) (disch := first | decide | assumption | omega | (simp only [wL]; omega)) only [go_sem, simprocAttr, weak_int, weak_same]
     all_goals rfl
  ·have : i = 8 := by omega
   subst this
   have hq : x = fieldsR mk.toNat false 8 (f80, m.2) := hq
   rw [← hq]
   by_cases he : x.2.e = 0
   ·have hg := hg he
    subst hg
    repeat' (first | (with_reducible first | (refine wT ?_; (first | ((fail_if_success (have := nl1)); refine wN fun nl1 hnl => ?_) | ((fail_if_success (have := nl2)); refine wN fun nl2 hnl => ?_) | refine wN fun _ hnl => ?_); revert hnl; (repeat refine wS fun _ _ => ?_); intro hnl) | refine wE ?_ | (refine wK ?_ ?_ <;> intro h) | (refine wB ?_ ?_ <;> intro h <;> simp only [h])) | simp (maxSteps := 4000000) (disch := first | decide | assumption | omega | (simp only [wL]; omega)) only [go_sem, simprocAttr, FXs])
    all_goals simp [okR, he]
   ·repeat' (first | (with_reducible first | (refine wT ?_; (first | ((fail_if_success (have := nl1)); refine wN fun nl1 hnl => ?_) | ((fail_if_success (have := nl2)); refine wN fun nl2 hnl => ?_) | refine wN fun _ hnl => ?_); revert hnl; (repeat refine wS fun _ _ => ?_); intro hnl) | refine wE ?_ | (refine wK ?_ ?_ <;> intro h) | (refine wB ?_ ?_ <;> intro h <;> simp only [h])) | simp (maxSteps := 4000000) (disch := first | decide | assumption | omega | (simp only [wL]; omega)) only [go_sem, simprocAttr, FXs])
    all_goals simp [okR, he, ca0]
set_option maxHeartbeats 4000000 in
theorem rpatchR_call (r : RD) [hs : Sh r] (l : Nat) : MCalls Tryz.prog 146 [.ptr l 0 0] (St.none.set l (rR r)) (fun v σ' => v = .agg (patchR r).1.c ∧ σ' = St.none.set l (rR (patchR r).2)) := by
 refine MCalls.obj (MCalls.body 37 [.cell 2 27] Tryz.func146 rfl rfl rfl rfl ?_)
 obtain ⟨a, ha⟩ : ∃ a, fromR 1 511 r = a := ⟨_, rfl⟩
 haveI : Sh a.2 := by rw [← ha]; infer_instance
 have hal := fromR_most (least := 1) (most := 511) (by decide) r
 have har := (fromR_rng 1 511 r).1
 rw [ha] at hal har
 have hmm := u32_mask har (by omega)
 have hw := u32_wrap har (by omega)
 obtain ⟨mk, hmk⟩ : ∃ mk, UInt32.ofNat a.1.toNat = mk := ⟨_, rfl⟩
 rw [hmk] at hmm hw
 have hlb := rmlab_call mk
 obtain ⟨b, hb⟩ : ∃ b, (if bit mk.toNat 8 = true then numR 65535 a.2 else (0, a.2)) = b := ⟨_, rfl⟩
 have e : patchR r = okR pa0 (⟨mk, UInt32.ofNat b.1.toNat, (fieldsR mk.toNat true 8 (f80, b.2)).1⟩, (fieldsR mk.toNat true 8 (f80, b.2)).2) := by
  unfold patchR
  simp only []
  rw [ha, ← hmm, hb, hmm, hmk]
 rw [e]
 have hbs : Sh b.2 := by rw [← hb]; split <;> infer_instance
 have hbl : 0 ≤ b.1 ∧ b.1 ≤ 65535 := by
  rw [← hb]
  split
  ·exact ⟨(numR_rng 65535 a.2).1, numR_most (by decide) a.2⟩
  ·simp
 have hbw := u32_wrap hbl.1 (by omega)
 have ha1 := rabove8_call 511 r l
 rw [ha] at ha1
 cases hb8 : bit mk.toNat 8
 all_goals
  rw [hb8] at hb hlb
  simp only [if_true, Bool.false_eq_true, if_false] at hb
  repeat' (first | (with_reducible refine ur2 (by assumption) (by assumption) ha1 ?_) | (with_reducible (refine wQ ?_; first | refine uR (rRNum_call ..) ?_)) | (with_reducible first | refine up hlb ?_) | (with_reducible first | (refine wT ?_; (first | ((fail_if_success (have := nl1)); refine wN fun nl1 hnl => ?_) | ((fail_if_success (have := nl2)); refine wN fun nl2 hnl => ?_) | refine wN fun _ hnl => ?_); revert hnl; (repeat refine wS fun _ _ => ?_); intro hnl) | refine wE ?_ | (refine wK ?_ ?_ <;> intro h) | (refine wB ?_ ?_ <;> intro h <;> simp only [h])) | simp (maxSteps := 4000000) (disch := first | decide | assumption | omega | (simp only [wL]; omega)) only [go_sem, simprocAttr, Tryz.f146, FXs, hw])
  try simp only [hb]
  try rw [hbw]
  refine mloop_intro (α := Nat × F8 × RD) (fun w => ⟨37, [(4, .int .i64 (w.1 : Int)), (3, .ptr nl2 0 0), (2, .ptr nl1 0 0), (0, .ptr l 0 0)], []⟩)
   (fun w => ((St.none.set l (rR w.2.2)).set nl1 (.row 27 26 [pa0.c])).set nl2 (.row 27 26 [[.int .u32 (mk.toNat : Int), .int .u32 ((UInt32.ofNat b.1.toNat).toNat : Int)] ++ fc w.2.1]))
   (fun w => w.1 ≤ 8 ∧ fieldsR mk.toNat true (8 - w.1) w.2 = fieldsR mk.toNat true 8 (f80, b.2) ∧ Sh w.2.2) (fun w => 8 - w.1) (.of (.less ?_ (St.le_refl _)) ⟨(0, f80, b.2), rfl, ?_, Nat.zero_le _, rfl, hbs⟩) ?_
  ·simp (maxSteps := 4000000) (disch := first | decide | assumption | omega | (simp only [wL]; omega)) only [go_sem, simprocAttr, weak_int, weak_same]
   all_goals rfl
  ·first | rfl | (rw [← hb]; rfl)
  ·rintro ⟨i, x⟩ ⟨hi, hq, hsx⟩
   simp only at hi hq hsx ⊢
   by_cases h8 : i < 8
   ·rw [fieldsR_at h8] at hq
    have hb := rbit_call mk i (by omega)
    cases hbb : bit mk.toNat i <;> rw [hbb] at hb hq
    ·rw [if_neg (by simp)] at hq
     repeat' (first | (with_reducible first | refine up hb ?_) | (with_reducible first | (refine wT ?_; (first | ((fail_if_success (have := nl1)); refine wN fun nl1 hnl => ?_) | ((fail_if_success (have := nl2)); refine wN fun nl2 hnl => ?_) | refine wN fun _ hnl => ?_); revert hnl; (repeat refine wS fun _ _ => ?_); intro hnl) | refine wE ?_ | (refine wK ?_ ?_ <;> intro h) | (refine wB ?_ ?_ <;> intro h <;> simp only [h])) | simp (maxSteps := 4000000) (disch := first | decide | assumption | omega | (simp only [wL]; omega)) only [go_sem, simprocAttr, FXs])
     refine .of (.less ?_ (St.le_refl _)) ⟨(i + 1, x), rfl, rfl, ⟨by simp only; omega, hq, hsx⟩, by simp only; omega⟩
     simp (maxSteps := 4000000) (disch := first | decide | assumption | omega | (simp only [wL]; omega)) only [go_sem, simprocAttr, weak_int, weak_same]
     all_goals rfl
    ·rw [if_pos rfl, if_neg (fun h => by cases h.1)] at hq
     repeat' (first | (with_reducible (refine wQ ?_; first | refine uR (rvalR_call ..) ?_)) | (with_reducible first | refine up hb ?_) | (with_reducible first | (refine wT ?_; (first | ((fail_if_success (have := nl1)); refine wN fun nl1 hnl => ?_) | ((fail_if_success (have := nl2)); refine wN fun nl2 hnl => ?_) | refine wN fun _ hnl => ?_); revert hnl; (repeat refine wS fun _ _ => ?_); intro hnl) | refine wE ?_ | (refine wK ?_ ?_ <;> intro h) | (refine wB ?_ ?_ <;> intro h <;> simp only [h])) | simp (maxSteps := 4000000) (disch := first | decide | assumption | omega | (simp only [wL]; omega)) only [go_sem, simprocAttr, FXs, fc_fold2])
     refine .of (.less ?_ (St.le_refl _)) ⟨(i + 1, (x.1.set i (valR x.2).1, (valR x.2).2)), rfl, rfl, ⟨by simp only; omega, hq, by infer_instance⟩, by simp only; omega⟩
     simp (maxSteps := 4000000) (disch := first | decide | assumption | omega | (simp only [wL]; omega)) only [go_sem, simprocAttr, weak_int, weak_same]
     all_goals rfl
   ·have : i = 8 := by omega
    subst this
    have hq : x = fieldsR mk.toNat true 8 (f80, b.2) := hq
    rw [← hq]
    by_cases he : x.2.e = 0
    ·repeat' (first | (with_reducible first | (refine wT ?_; (first | ((fail_if_success (have := nl1)); refine wN fun nl1 hnl => ?_) | ((fail_if_success (have := nl2)); refine wN fun nl2 hnl => ?_) | refine wN fun _ hnl => ?_); revert hnl; (repeat refine wS fun _ _ => ?_); intro hnl) | refine wE ?_ | (refine wK ?_ ?_ <;> intro h) | (refine wB ?_ ?_ <;> intro h <;> simp only [h])) | simp (maxSteps := 4000000) (disch := first | decide | assumption | omega | (simp only [wL]; omega)) only [go_sem, simprocAttr, FXs])
     all_goals simp [okR, he]
    ·repeat' (first | (with_reducible first | (refine wT ?_; (first | ((fail_if_success (have := nl1)); refine wN fun nl1 hnl => ?_) | ((fail_if_success (have := nl2)); refine wN fun nl2 hnl => ?_) | refine wN fun _ hnl => ?_); revert hnl; (repeat refine wS fun _ _ => ?_); intro hnl) | refine wE ?_ | (refine wK ?_ ?_ <;> intro h) | (refine wB ?_ ?_ <;> intro h <;> simp only [h])) | simp (maxSteps := 4000000) (disch := first | decide | assumption | omega | (simp only [wL]; omega)) only [go_sem, simprocAttr, FXs])
     all_goals simp [okR, he, pa0]
theorem rmayR_call (r : RD) [hs : Sh r] (l : Nat) : MCalls Tryz.prog 94 [.ptr l 0 0] (St.none.set l (rR r)) (fun v σ' => v = .agg (mayR r).1.c ∧ σ' = St.none.set l (rR (mayR r).2)) := by
 refine MCalls.obj (MCalls.body 25 [.cell 2 27] Tryz.func94 rfl rfl rfl rfl ?_)
 have hc := rcpatch_call (patchR r).1
 repeat' (first | (with_reducible (refine wQ ?_; first | refine uR (rpatchR_call ..) ?_ | refine uR (rRFail_call ..) ?_)) | (with_reducible first | refine up hc ?_) | (with_reducible first | (refine wN fun _ hnl => ?_; revert hnl; (repeat refine wS fun _ _ => ?_); intro hnl) | refine wE ?_ | (refine wK ?_ ?_ <;> intro h) | (refine wB ?_ ?_ <;> intro h <;> simp only [h])) | simp (maxSteps := 4000000) (disch := first | decide | assumption | omega | (simp only [wL]; omega)) only [go_sem, simprocAttr, Tryz.f94, FXs])
 all_goals (try simp only [Classical.not_not] at *)
 all_goals try exact absurd (by assumption) (failR_ne (e := 3) (by decide) (patchR r).2)
 all_goals (try simp only [Classical.not_not] at *)
 all_goals (first | (simp [mayR, okR, failR, pa0, *]; done) | (simp only [mayR, okR, failR, pa0]; (repeat' split) <;> (first | (simp_all; done) | omega | (exfalso; omega))) | skip)
end Go.Proofs.YtfbodefnblpflaaGreatDoor
