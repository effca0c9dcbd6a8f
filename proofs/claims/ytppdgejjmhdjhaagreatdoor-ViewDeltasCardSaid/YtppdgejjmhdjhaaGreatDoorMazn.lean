/- Parts of the proof; conditions: as its theorems name them. -/
import Derived.Test.YtppdgejjmhdjhaaGreatDoorMazm
set_option linter.unusedVariables false
set_option linter.unusedSimpArgs false
set_option maxHeartbeats 8000000
set_option maxRecDepth 100000
namespace Go.Proofs.YtppdgejjmhdjhaaGreatDoor
open Go.ChangeShapes Go.WideShapes Go.RowKit
theorem M4:(Rows.viewDeltasRow.inPlace==PC.inPlace 3)=true:=by kernel_rfl
theorem Ad:(Rows.viewDeltasRow.unfollowed==PC.unfollowed 3)=true:=by kernel_rfl
theorem DO:(Rows.viewDeltasRow.recurses==PC.recurses 3)=true:=by kernel_rfl
theorem M3:(Rows.viewDeltasRow.named==PC.varsNamed 3)=true:=by kernel_rfl
theorem F6:PC.funcNamed "offprint/offprintlaw25.ViewDeltas" = some 3:=by kernel_rfl
end Go.Proofs.YtppdgejjmhdjhaaGreatDoor
