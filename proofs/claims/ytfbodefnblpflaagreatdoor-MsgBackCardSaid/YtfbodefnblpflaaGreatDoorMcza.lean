/- Parts of the proof, joined. Each part says what it proves, and under which conditions it does: those that its theorems name. -/
import Derived.Test.YtfbodefnblpflaaGreatDoorMcy
import Derived.Test.YtfbodefnblpflaaGreatDoorMcz
set_option linter.unusedVariables false
set_option linter.unusedSimpArgs false
set_option maxHeartbeats 4000000
namespace Go.Proofs.YtfbodefnblpflaaGreatDoor
set_option maxRecDepth 100000
set_option maxHeartbeats 4000000
theorem rrcheck_call (a : RE) : MCalls Tryz.prog 34 [.agg a.c] St.none (fun r _ => r = .bool (repOk a)) := by
 refine MCalls.drops (MCalls.body 145 [.tmp 2] Tryz.func34 rfl rfl rfl rfl ?_)
 have hp := rpcheck_call a.fl false
 have hm := rmcheck_call a.mask
 have hmt := a.mask.toNat_lt
 obtain ⟨res, hres⟩ : ∃ b, repOk a = b := ⟨_, rfl⟩
 have e : Unit → repOk a = res := fun _ => hres
 simp only [repOk, big, idMax, u32_zero, ← List.length_eq_zero_iff, ite_imp] at e
 rw [hres]
 clear hres
 repeat' (first | (with_reducible first | refine up hp ?_ | refine up hm ?_) | (with_reducible first | (refine wN fun _ hnl => ?_; revert hnl; (repeat refine wS fun _ _ => ?_); intro hnl) | refine wE ?_ | (refine wK ?_ ?_ <;> intro h) | (refine wB ?_ ?_ <;> intro h <;> simp only [h])) | simp (maxSteps := 4000000) (disch := first | decide | assumption | omega | (simp only [wL]; omega)) only [go_sem, simprocAttr, Tryz.f34])
 all_goals (first | refine ⟨_, St.le_refl _, ?_⟩ | skip)
 all_goals rw [← e ()]
 all_goals clear e hp hm
 all_goals (first | (exact (decide_eq_false (by omega)).symm) | (exact decide_eq_decide.mpr (by omega)) | (exact (decide_eq_true (by omega)).symm) | skip)
end Go.Proofs.YtfbodefnblpflaaGreatDoor
