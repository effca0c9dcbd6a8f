/- Parts of the proof, joined. Each part says what it proves, and under which conditions it does: those that its theorems name. -/
import Derived.Test.YtjljgahfkcdhfaaGreatDoorSnv
import Derived.Test.YtjljgahfkcdhfaaGreatDoorSnx
set_option linter.unusedVariables false
set_option linter.unusedSimpArgs false
set_option maxHeartbeats 4000000
namespace Go.Proofs.YtjljgahfkcdhfaaGreatDoor
set_option maxRecDepth 100000
set_option maxHeartbeats 4000000
theorem rrsame_call (a b : RE) (hl : a.fl.length ≤ 1000000) : MCalls Tryz.prog 68 [.agg a.c, .agg b.c] St.none (fun r _ => r = .bool (decide (a = b))) := by
 refine MCalls.drops (MCalls.body 73 [.tmp 4] Tryz.func68 rfl rfl rfl rfl ?_)
 have hs := rsame_call a.fl b.fl hl false false
 obtain ⟨bf, hbf⟩ : ∃ x, decide (a.fl = b.fl) = x := ⟨_, rfl⟩
 have hu := u32_int (a := a.mask) (b := b.mask)
 obtain ⟨res, hres⟩ : ∃ r, decide (a = b) = r := ⟨_, rfl⟩
 have e : Unit → decide (a.kd = b.kd ∧ a.dev = b.dev ∧ a.req = b.req ∧ a.code = b.code ∧ a.id = b.id ∧ a.ver = b.ver ∧ a.sq = b.sq ∧ a.ep = b.ep ∧ bf = true ∧ (a.mask.toNat : Int) = (b.mask.toNat : Int)) = res := fun _ => by
  rw [← hres, ← hbf]
  refine decide_eq_decide.mpr ?_
  rw [re_iff, hu, decide_eq_true_iff]
 rw [hbf] at hs
 rw [hres]
 clear hres hbf hu
 cases bf
 all_goals
  repeat' (first | (with_reducible first | refine up hs ?_) | (with_reducible first | (refine wN fun _ hnl => ?_; revert hnl; (repeat refine wS fun _ _ => ?_); intro hnl) | refine wE ?_ | (refine wK ?_ ?_ <;> intro h) | (refine wB ?_ ?_ <;> intro h <;> simp only [h])) | simp (maxSteps := 4000000) (disch := first | decide | assumption | omega | (simp only [wL]; omega)) only [go_sem, simprocAttr, Tryz.f68])
 all_goals first | refine ⟨_, St.le_refl _, ?_⟩ | skip
 all_goals rw [← e ()]
 all_goals clear e
 all_goals (first | (simp [*]; done) | skip)
end Go.Proofs.YtjljgahfkcdhfaaGreatDoor
