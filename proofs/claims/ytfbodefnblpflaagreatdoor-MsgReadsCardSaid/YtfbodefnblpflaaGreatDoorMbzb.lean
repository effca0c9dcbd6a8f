/- Parts of the proof, joined. Each part says what it proves, and under which conditions it does: those that its theorems name. -/
import Derived.Test.YtfbodefnblpflaaGreatDoorMbx
set_option linter.unusedVariables false
set_option linter.unusedSimpArgs false
set_option maxHeartbeats 4000000
namespace Go.Proofs.YtfbodefnblpflaaGreatDoor
set_option maxRecDepth 100000
theorem rgroup_call (k : Int) : MCalls Tryz.prog 126 [.int .i64 k] St.none (fun r _ => r = .bool (edG k)) := by
 refine (MCalls.body 17 [.tmp 2] Tryz.func126 rfl rfl rfl rfl ?_)
 repeat' (first | (with_reducible first | (refine wN fun _ hnl => ?_; revert hnl; (repeat refine wS fun _ _ => ?_); intro hnl) | refine wE ?_ | (refine wK ?_ ?_ <;> intro h) | (refine wB ?_ ?_ <;> intro h <;> simp only [h])) | simp (maxSteps := 4000000) (disch := first | decide | assumption | omega | (simp only [wL]; omega)) only [go_sem, simprocAttr, Tryz.f126])
 all_goals (try simp only [Classical.not_not] at *)
 all_goals (first | (simp [edG, *]; done) | (simp only [edG]; (repeat' split) <;> (first | (simp_all; done) | omega | (exfalso; omega))) | skip)
theorem rid_call (k : Int) : MCalls Tryz.prog 127 [.int .i64 k] St.none (fun r _ => r = .bool (edI k)) := by
 refine (MCalls.body 17 [.tmp 2] Tryz.func127 rfl rfl rfl rfl ?_)
 repeat' (first | (with_reducible first | (refine wN fun _ hnl => ?_; revert hnl; (repeat refine wS fun _ _ => ?_); intro hnl) | refine wE ?_ | (refine wK ?_ ?_ <;> intro h) | (refine wB ?_ ?_ <;> intro h <;> simp only [h])) | simp (maxSteps := 4000000) (disch := first | decide | assumption | omega | (simp only [wL]; omega)) only [go_sem, simprocAttr, Tryz.f127])
 all_goals (try simp only [Classical.not_not] at *)
 all_goals (first | (simp [edI, *]; done) | (simp only [edI]; (repeat' split) <;> (first | (simp_all; done) | omega | (exfalso; omega))) | skip)
theorem rispatch_call (k : Int) : MCalls Tryz.prog 128 [.int .i64 k] St.none (fun r _ => r = .bool (edP k)) := by
 refine (MCalls.body 9 [.tmp 2] Tryz.func128 rfl rfl rfl rfl ?_)
 repeat' (first | (with_reducible first | (refine wN fun _ hnl => ?_; revert hnl; (repeat refine wS fun _ _ => ?_); intro hnl) | refine wE ?_ | (refine wK ?_ ?_ <;> intro h) | (refine wB ?_ ?_ <;> intro h <;> simp only [h])) | simp (maxSteps := 4000000) (disch := first | decide | assumption | omega | (simp only [wL]; omega)) only [go_sem, simprocAttr, Tryz.f128])
 all_goals (try simp only [Classical.not_not] at *)
 all_goals (first | (simp [edP, *]; done) | (simp only [edP]; (repeat' split) <;> (first | (simp_all; done) | omega | (exfalso; omega))) | skip)
end Go.Proofs.YtfbodefnblpflaaGreatDoor
