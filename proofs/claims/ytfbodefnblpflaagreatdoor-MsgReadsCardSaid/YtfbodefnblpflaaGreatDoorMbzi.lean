/- Parts of the proof, joined. Each part says what it proves, and under which conditions it does: those that its theorems name. -/
import Derived.Test.YtfbodefnblpflaaGreatDoorMbz
import Derived.Test.YtfbodefnblpflaaGreatDoorMbzc
set_option linter.unusedVariables false
set_option linter.unusedSimpArgs false
set_option maxHeartbeats 4000000
namespace Go.Proofs.YtfbodefnblpflaaGreatDoor
set_option maxRecDepth 100000
set_option maxHeartbeats 4000000
theorem rcmsame_call (a b : CM) (hl : a.fl.length ≤ 1000000) : MCalls Tryz.prog 39 [.agg a.c, .agg b.c] St.none (fun r _ => r = .bool (decide (a = b))) := by
 refine MCalls.drops (MCalls.body 73 [.tmp 4] Tryz.func39 rfl rfl rfl rfl ?_)
 have hs := rsame_call a.fl b.fl hl false false
 have hE := mbe_edit a.e b.e
 have hP := mbe_patch a.p b.p
 obtain ⟨bf, hbf⟩ : ∃ x, decide (a.fl = b.fl) = x := ⟨_, rfl⟩
 obtain ⟨bE, hbE⟩ : ∃ x, decide (a.e = b.e) = x := ⟨_, rfl⟩
 obtain ⟨bP, hbP⟩ : ∃ x, decide (a.p = b.p) = x := ⟨_, rfl⟩
 have hu := u32_int (a := a.mask) (b := b.mask)
 obtain ⟨res, hres⟩ : ∃ r, decide (a = b) = r := ⟨_, rfl⟩
 have e : Unit → decide (a.kd = b.kd ∧ bE = true ∧ a.dev = b.dev ∧ a.req = b.req ∧ a.id = b.id ∧ a.base = b.base ∧ a.keep = b.keep ∧ bP = true ∧ bf = true ∧ (a.mask.toNat : Int) = (b.mask.toNat : Int)) = res := fun _ => by
  rw [← hres, ← hbf, ← hbE, ← hbP]
  refine decide_eq_decide.mpr ?_
  rw [cm_iff, hu, decide_eq_true_iff, decide_eq_true_iff, decide_eq_true_iff]
 rw [hbf] at hs
 rw [hbE] at hE
 rw [hbP] at hP
 rw [hres]
 clear hres hbf hu hbE hbP
 cases bf <;> cases bE <;> cases bP
 all_goals
  repeat' (first | (with_reducible first | refine up hs ?_) | (with_reducible first | (refine wN fun _ hnl => ?_; revert hnl; (repeat refine wS fun _ _ => ?_); intro hnl) | refine wE ?_ | (refine wK ?_ ?_ <;> intro h) | (refine wB ?_ ?_ <;> intro h <;> simp only [h])) | simp (maxSteps := 4000000) (disch := first | decide | assumption | omega | (simp only [wL]; omega)) only [go_sem, simprocAttr, Tryz.f39, FYs, hE, hP])
 all_goals first | refine ⟨_, St.le_refl _, ?_⟩ | skip
 all_goals rw [← e ()]
 all_goals clear e
 all_goals (first | (simp [*]; done) | skip)
end Go.Proofs.YtfbodefnblpflaaGreatDoor
