/- Parts of the proof, joined. Each part says what it proves, and under which conditions it does: those that its theorems name. -/
import Derived.Test.YtfbodefnblpflaaGreatDoorMcx
set_option linter.unusedVariables false
set_option linter.unusedSimpArgs false
set_option maxHeartbeats 4000000
namespace Go.Proofs.YtfbodefnblpflaaGreatDoor
set_option maxRecDepth 100000
set_option maxHeartbeats 1000000
theorem rtcheck_call (t : TO) : MCalls Tryz.prog 33 [.agg t.c] St.none (fun r _ => r = .bool (tokOk t)) := by
 refine MCalls.drops (MCalls.body 41 [.tmp 2] Tryz.func33 rfl rfl rfl rfl ?_)
 repeat' (first | (with_reducible first | (refine wN fun _ hnl => ?_; revert hnl; (repeat refine wS fun _ _ => ?_); intro hnl) | refine wE ?_ | (refine wK ?_ ?_ <;> intro h) | (refine wB ?_ ?_ <;> intro h <;> simp only [h])) | simp (maxSteps := 4000000) (disch := first | decide | assumption | omega | (simp only [wL]; omega)) only [go_sem, simprocAttr, Tryz.f33])
 all_goals first | refine ⟨_, St.le_refl _, ?_⟩ | skip
 all_goals (try simp only [Classical.not_not] at *)
 all_goals (first | (simp [tokOk, big, idMax, *]; done) | (simp only [tokOk, big, idMax]; (repeat' split) <;> (first | (simp_all; done) | omega | (exfalso; omega))) | skip)
theorem rtgoes_call (a b : TO) : MCalls Tryz.prog 83 [.agg a.c, .agg b.c] St.none (fun r _ => r = .bool (tokGo a b)) := by
 refine MCalls.drops (MCalls.body 39 [.tmp 4] Tryz.func83 rfl rfl rfl rfl ?_)
 have h1 := rtcheck_call a
 have h2 := rtcheck_call b
 unfold tokGo
 cases h3 : tokOk a <;> rw [h3] at h1
 ·repeat' (first | (with_reducible first | refine up h1 ?_ | refine up h2 ?_) | (with_reducible first | (refine wN fun _ hnl => ?_; revert hnl; (repeat refine wS fun _ _ => ?_); intro hnl) | refine wE ?_ | (refine wK ?_ ?_ <;> intro h) | (refine wB ?_ ?_ <;> intro h <;> simp only [h])) | simp (maxSteps := 4000000) (disch := first | decide | assumption | omega | (simp only [wL]; omega)) only [go_sem, simprocAttr, Tryz.f83])
  all_goals first | refine ⟨_, St.le_refl _, ?_⟩ | skip
  all_goals (try simp only [Classical.not_not] at *)
  all_goals (first | (simp [*]; done) | (simp only []; (repeat' split) <;> (first | (simp_all; done) | omega | (exfalso; omega))) | skip)
 ·cases h4 : tokOk b <;> rw [h4] at h2
  all_goals
   repeat' (first | (with_reducible first | refine up h1 ?_ | refine up h2 ?_) | (with_reducible first | (refine wN fun _ hnl => ?_; revert hnl; (repeat refine wS fun _ _ => ?_); intro hnl) | refine wE ?_ | (refine wK ?_ ?_ <;> intro h) | (refine wB ?_ ?_ <;> intro h <;> simp only [h])) | simp (maxSteps := 4000000) (disch := first | decide | assumption | omega | (simp only [wL]; omega)) only [go_sem, simprocAttr, Tryz.f83])
   all_goals first | refine ⟨_, St.le_refl _, ?_⟩ | skip
   all_goals (try simp only [Classical.not_not] at *)
   all_goals (first | (simp [*]; done) | (simp only []; (repeat' split) <;> (first | (simp_all; done) | omega | (exfalso; omega))) | skip)
end Go.Proofs.YtfbodefnblpflaaGreatDoor
