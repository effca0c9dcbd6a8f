/- Parts of the proof, joined. Each part says what it proves, and under which conditions it does: those that its theorems name. -/
import Derived.Test.YtfbodefnblpflaaGreatDoorMcza
set_option linter.unusedVariables false
set_option linter.unusedSimpArgs false
set_option maxHeartbeats 4000000
section
namespace Go.Proofs.YtfbodefnblpflaaGreatDoor
set_option maxRecDepth 100000
set_option maxHeartbeats 4000000
theorem rczero_call (c : CM) : MCalls Tryz.prog 78 [.agg c.c] St.none (fun r _ => r = .bool (decide (c = { cm0 with kd := c.kd }))) := by
 refine MCalls.drops (MCalls.body 49 [.tmp 2] Tryz.func78 rfl rfl rfl rfl ?_)
 have hE : mbin Tryz.prog 29 .eql (.agg c.e.c) (.agg (.int .i64 0 :: .int .i64 0 :: .int .i64 0 :: .int .u32 0 :: .int .u32 0 :: fc f80)) = some (True, .bool (decide (c.e = ed0))) := mbe_edit c.e ed0
 have hP : mbin Tryz.prog 27 .eql (.agg c.p.c) (.agg (.int .u32 0 :: .int .u32 0 :: fc f80)) = some (True, .bool (decide (c.p = pa0))) := mbe_patch c.p pa0
 obtain ⟨bE, hbE⟩ : ∃ x, decide (c.e = ed0) = x := ⟨_, rfl⟩
 obtain ⟨bP, hbP⟩ : ∃ x, decide (c.p = pa0) = x := ⟨_, rfl⟩
 obtain ⟨res, hres⟩ : ∃ r, decide (c = { cm0 with kd := c.kd }) = r := ⟨_, rfl⟩
 have hm : c.mask = 0 ↔ (c.mask.toNat : Int) = 0 := by rw [u32_zero]; omega
 have e : Unit → decide (bE = true ∧ c.dev = 0 ∧ c.req = 0 ∧ c.id = 0 ∧ c.base = 0 ∧ c.keep = 0 ∧ bP = true ∧ (c.fl.length : Int) = 0 ∧ (c.mask.toNat : Int) = 0) = res := fun _ => by
  rw [← hres, ← hbE, ← hbP]
  refine decide_eq_decide.mpr ?_
  rw [cm_iff, decide_eq_true_iff, decide_eq_true_iff, fl_empty, ← hm]
  simp [cm0]
 rw [hbE] at hE
 rw [hbP] at hP
 rw [hres]
 clear hres hbE hbP hm
 cases bE <;> cases bP
 all_goals
  repeat' (first | (with_reducible first | (refine wN fun _ hnl => ?_; revert hnl; (repeat refine wS fun _ _ => ?_); intro hnl) | refine wE ?_ | (refine wK ?_ ?_ <;> intro h) | (refine wB ?_ ?_ <;> intro h <;> simp only [h])) | simp (maxSteps := 4000000) (disch := first | decide | assumption | omega | (simp only [wL]; omega)) only [go_sem, simprocAttr, Tryz.f78, FYs, hE, hP])
 all_goals first | refine ⟨_, St.le_refl _, ?_⟩ | skip
 all_goals rw [← e ()]
 all_goals clear e
 all_goals (first | (simp [*]; done) | (simp only [*, not_false_eq_true, decide_false, decide_true, true_and, and_true, and_false, false_and]; done) | skip)
theorem rcmsame_call (a b : CM) (hl : a.fl.length ≤ 1000000) : MCalls Tryz.prog 39 [.agg a.c, .agg b.c] St.none (fun r _ => r = .bool (decide (a = b))) := by
 refine MCalls.drops (MCalls.body 73 [.tmp 4] Tryz.func39 rfl rfl rfl rfl ?_)
 have hs := rsame_call a.fl b.fl hl false false
 have hE := mbe_edit a.e b.e
 have hP := mbe_patch a.p b.p
 obtain ⟨bf, hbf⟩ : ∃ x, decide (a.fl = b.fl) = x := ⟨_, rfl⟩
 obtain ⟨bE, hbE⟩ : ∃ x, decide (a.e = b.e) = x := ⟨_, rfl⟩
 obtain ⟨bP, hbP⟩ : ∃ x, decide (a.p = b.p) = x := ⟨_, rfl⟩
 have hu := u32_int (a := a.mask) (b := b.mask)
 obtain ⟨res, hres⟩ : ∃ r, decide (a = b) = r := ⟨_, rfl⟩
 have e : Unit → decide (a.kd = b.kd ∧ bE = true ∧ a.dev = b.dev ∧ a.req = b.req ∧ a.id = b.id ∧ a.base = b.base ∧ a.keep = b.keep ∧ bP = true ∧ bf = true ∧ (a.mask.toNat : Int) = (b.mask.toNat : Int)) = res := fun _ => by
  rw [← hres, ← hbf, ← hbE, ← hbP]
  refine decide_eq_decide.mpr ?_
  rw [cm_iff, hu, decide_eq_true_iff, decide_eq_true_iff, decide_eq_true_iff]
 rw [hbf] at hs
 rw [hbE] at hE
 rw [hbP] at hP
 rw [hres]
 clear hres hbf hu hbE hbP
 cases bf <;> cases bE <;> cases bP
 all_goals
  repeat' (first | (with_reducible first | refine up hs ?_) | (with_reducible first | (refine wN fun _ hnl => ?_; revert hnl; (repeat refine wS fun _ _ => ?_); intro hnl) | refine wE ?_ | (refine wK ?_ ?_ <;> intro h) | (refine wB ?_ ?_ <;> intro h <;> simp only [h])) | simp (maxSteps := 4000000) (disch := first | decide | assumption | omega | (simp only [wL]; omega)) only [go_sem, simprocAttr, Tryz.f39, FYs, hE, hP])
 all_goals first | refine ⟨_, St.le_refl _, ?_⟩ | skip
 all_goals rw [← e ()]
 all_goals clear e
 all_goals (first | (simp [*]; done) | skip)
end Go.Proofs.YtfbodefnblpflaaGreatDoor
end

section
namespace Go.Proofs.YtfbodefnblpflaaGreatDoor
set_option maxRecDepth 100000
set_option maxHeartbeats 4000000
theorem rcmcheck_call (c : CM) : MCalls Tryz.prog 32 [.agg c.c] St.none (fun r _ => r = .bool (cmdOk c)) := by
 refine MCalls.drops (MCalls.body 111 [.tmp 2] Tryz.func32 rfl rfl rfl rfl ?_)
 obtain ⟨res, hres⟩ : ∃ b, cmdOk c = b := ⟨_, rfl⟩
 rw [hres]
 by_cases k1 : c.kd = 1
 ·rw [cmdOk_1 k1] at hres
  have hz := rczero_call { c with e := ed0 }
  have he := recheck_call c.e
  obtain ⟨b, hb⟩ : ∃ b, decide (({ c with e := ed0 } : CM) = { cm0 with kd := c.kd }) = b := ⟨_, rfl⟩
  rw [hb] at hres
  have hz : MCalls Tryz.prog 78 _ St.none fun r _ => r = .bool b := hb ▸ hz
  simp only [CM.c, CM.k, ed0, pa0, u32z] at hz
  have e := fun (_ : Unit) => hres
  clear hres hb
  cases b
  all_goals
   repeat' (first | (with_reducible first | refine up hz ?_ | refine up he ?_) | (with_reducible first | (refine wN fun _ hnl => ?_; revert hnl; (repeat refine wS fun _ _ => ?_); intro hnl) | refine wE ?_ | (refine wK ?_ ?_ <;> intro h) | (refine wB ?_ ?_ <;> intro h <;> simp only [h])) | simp (maxSteps := 4000000) (disch := first | decide | assumption | omega | (simp only [wL]; omega)) only [go_sem, simprocAttr, Tryz.f32, FYs])
   all_goals first | refine ⟨_, St.le_refl _, ?_⟩ | refine ⟨_, St.le_refl _⟩ | skip
   all_goals rw [← e ()]
   all_goals (first | (simp [*]; done) | (simp; omega) | skip)
 ·by_cases k5 : c.kd = 5
  ·rw [cmdOk_5 k5] at hres
   have hz := rczero_call { c with keep := 0 }
   obtain ⟨b, hb⟩ : ∃ b, decide (({ c with keep := 0 } : CM) = { cm0 with kd := c.kd }) = b := ⟨_, rfl⟩
   rw [hb] at hres
   have hz : MCalls Tryz.prog 78 _ St.none fun r _ => r = .bool b := hb ▸ hz
   simp only [CM.c, CM.k, ed0, pa0, u32z] at hz
   have e := fun (_ : Unit) => hres
   clear hres hb
   cases b
   all_goals
    repeat' (first | (with_reducible first | refine up hz ?_) | (with_reducible first | (refine wN fun _ hnl => ?_; revert hnl; (repeat refine wS fun _ _ => ?_); intro hnl) | refine wE ?_ | (refine wK ?_ ?_ <;> intro h) | (refine wB ?_ ?_ <;> intro h <;> simp only [h])) | simp (maxSteps := 4000000) (disch := first | decide | assumption | omega | (simp only [wL]; omega)) only [go_sem, simprocAttr, Tryz.f32, FYs])
    all_goals first | refine ⟨_, St.le_refl _, ?_⟩ | refine ⟨_, St.le_refl _⟩ | skip
    all_goals rw [← e ()]
    all_goals (first | (simp [*]; done) | (simp; omega) | skip)
  ·by_cases hr : c.dev < 0 ∨ 6 ≤ c.dev ∨ c.req < 1 ∨ 1099511627776 < c.req
   ·rw [cmdOk_r k1 k5 hr] at hres
    subst hres
    repeat' (first | (with_reducible first | (refine wN fun _ hnl => ?_; revert hnl; (repeat refine wS fun _ _ => ?_); intro hnl) | refine wE ?_ | (refine wK ?_ ?_ <;> intro h) | (refine wB ?_ ?_ <;> intro h <;> simp only [h])) | simp (maxSteps := 4000000) (disch := first | decide | assumption | omega | (simp only [wL]; omega)) only [go_sem, simprocAttr, Tryz.f32, FYs])
    all_goals first | exact ⟨_, St.le_refl _, rfl⟩ | exact ⟨_, St.le_refl _⟩ | (exfalso; omega)
   ·by_cases k2 : c.kd = 2
    ·rw [cmdOk_2 k2 hr] at hres
     have hz := rczero_call { c with dev := 0, req := 0, id := 0, base := 0, p := pa0 }
     have hp := rcpatch_call c.p
     obtain ⟨b, hb⟩ : ∃ b, decide (({ c with dev := 0, req := 0, id := 0, base := 0, p := pa0 } : CM) = { cm0 with kd := c.kd }) = b := ⟨_, rfl⟩
     rw [hb] at hres
     have hz : MCalls Tryz.prog 78 _ St.none fun r _ => r = .bool b := hb ▸ hz
     simp only [CM.c, CM.k, ed0, pa0, u32z] at hz
     have e := fun (_ : Unit) => hres
     clear hres hb
     cases b
     all_goals
      repeat' (first | (with_reducible first | refine up hz ?_ | refine up hp ?_) | (with_reducible first | (refine wN fun _ hnl => ?_; revert hnl; (repeat refine wS fun _ _ => ?_); intro hnl) | refine wE ?_ | (refine wK ?_ ?_ <;> intro h) | (refine wB ?_ ?_ <;> intro h <;> simp only [h])) | simp (maxSteps := 4000000) (disch := first | decide | assumption | omega | (simp only [wL]; omega)) only [go_sem, simprocAttr, Tryz.f32, FYs])
      all_goals first | refine ⟨_, St.le_refl _, ?_⟩ | refine ⟨_, St.le_refl _⟩ | skip
      all_goals rw [← e ()]
      all_goals (first | (simp [*]; done) | (simp; omega) | skip)
    ·by_cases k3 : c.kd = 3
     ·rw [cmdOk_3 k3 hr] at hres
      have hz := rczero_call { c with dev := 0, req := 0, fl := [], mask := 0 }
      have hp := rpcheck_call c.fl false
      have hm := rmcheck_call c.mask
      obtain ⟨b, hb⟩ : ∃ b, decide (({ c with dev := 0, req := 0, fl := [], mask := 0 } : CM) = { cm0 with kd := c.kd }) = b := ⟨_, rfl⟩
      rw [hb] at hres
      have hz : MCalls Tryz.prog 78 _ St.none fun r _ => r = .bool b := hb ▸ hz
      simp only [CM.c, CM.k, ed0, pa0, u32z] at hz
      have e := fun (_ : Unit) => hres
      clear hres hb
      cases b
      all_goals
       repeat' (first | (with_reducible refine use_lend _ hz (.bool _) rfl (views_one (vcm (c := { c with dev := 0, req := 0, fl := [], mask := 0 }) (.nil _ _))) ?_) | (with_reducible first | refine up hp ?_ | refine up hm ?_) | (with_reducible first | (refine wN fun _ hnl => ?_; revert hnl; (repeat refine wS fun _ _ => ?_); intro hnl) | refine wE ?_ | (refine wK ?_ ?_ <;> intro h) | (refine wB ?_ ?_ <;> intro h <;> simp only [h])) | simp (maxSteps := 4000000) (disch := first | decide | assumption | omega | (simp only [wL]; omega)) only [go_sem, simprocAttr, Tryz.f32, FYs])
       all_goals first | refine ⟨_, St.le_refl _, ?_⟩ | refine ⟨_, St.le_refl _⟩ | skip
       all_goals rw [← e ()]
       all_goals (first | (simp [*]; done) | (simp; omega) | skip)
     ·by_cases k4 : c.kd = 4
      ·rw [cmdOk_4 k4 hr] at hres
       have hz := rczero_call { c with dev := 0, req := 0 }
       obtain ⟨b, hb⟩ : ∃ b, decide (({ c with dev := 0, req := 0 } : CM) = { cm0 with kd := c.kd }) = b := ⟨_, rfl⟩
       rw [hb] at hres
       have hz : MCalls Tryz.prog 78 _ St.none fun r _ => r = .bool b := hb ▸ hz
       simp only [CM.c, CM.k, ed0, pa0, u32z] at hz
       have e := fun (_ : Unit) => hres
       clear hres hb
       cases b
       all_goals
        repeat' (first | (with_reducible first | refine up hz ?_) | (with_reducible first | (refine wN fun _ hnl => ?_; revert hnl; (repeat refine wS fun _ _ => ?_); intro hnl) | refine wE ?_ | (refine wK ?_ ?_ <;> intro h) | (refine wB ?_ ?_ <;> intro h <;> simp only [h])) | simp (maxSteps := 4000000) (disch := first | decide | assumption | omega | (simp only [wL]; omega)) only [go_sem, simprocAttr, Tryz.f32, FYs])
        all_goals first | refine ⟨_, St.le_refl _, ?_⟩ | refine ⟨_, St.le_refl _⟩ | skip
        all_goals rw [← e ()]
        all_goals (first | (simp [*]; done) | (simp; omega) | skip)
      ·rw [cmdOk_o k1 k5 k2 k3 k4] at hres
       subst hres
       repeat' (first | (with_reducible first | (refine wN fun _ hnl => ?_; revert hnl; (repeat refine wS fun _ _ => ?_); intro hnl) | refine wE ?_ | (refine wK ?_ ?_ <;> intro h) | (refine wB ?_ ?_ <;> intro h <;> simp only [h])) | simp (maxSteps := 4000000) (disch := first | decide | assumption | omega | (simp only [wL]; omega)) only [go_sem, simprocAttr, Tryz.f32, FYs])
       all_goals first | exact ⟨_, St.le_refl _, rfl⟩ | exact ⟨_, St.le_refl _⟩ | (exfalso; omega)
end Go.Proofs.YtfbodefnblpflaaGreatDoor
end
