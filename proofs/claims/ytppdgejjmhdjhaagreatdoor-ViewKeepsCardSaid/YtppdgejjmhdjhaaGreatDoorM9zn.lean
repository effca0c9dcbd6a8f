/- Parts of the proof; conditions: as its theorems name them. -/
import Derived.Test.YtppdgejjmhdjhaaGreatDoorM9z
set_option linter.unusedVariables false
set_option linter.unusedSimpArgs false
set_option maxHeartbeats 8000000
set_option maxRecDepth 100000
namespace Go.Proofs.YtppdgejjmhdjhaaGreatDoor
open Go.ChangeShapes Go.WideShapes Go.RowKit
theorem MW:(Rows.viewKeepsRow.inPlace==PC.inPlace 5)=true:=by kernel_rfl
theorem z8:(Rows.viewKeepsRow.unfollowed==PC.unfollowed 5)=true:=by kernel_rfl
theorem Dt:(Rows.viewKeepsRow.recurses==PC.recurses 5)=true:=by kernel_rfl
theorem MU:(Rows.viewKeepsRow.named==PC.varsNamed 5)=true:=by kernel_rfl
theorem FF:PC.funcNamed "offprint/offprintlaw25.ViewKeeps" = some 5:=by kernel_rfl
end Go.Proofs.YtppdgejjmhdjhaaGreatDoor
