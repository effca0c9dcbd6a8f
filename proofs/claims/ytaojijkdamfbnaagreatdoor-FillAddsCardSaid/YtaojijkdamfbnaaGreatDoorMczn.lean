/- Parts of the proof, joined; conditions: those that its theorems name. -/
import Derived.Test.YtaojijkdamfbnaaGreatDoorMcz
set_option linter.unusedVariables false
set_option linter.unusedSimpArgs false
set_option maxHeartbeats 4000000
namespace Go.Proofs.YtaojijkdamfbnaaGreatDoor
open Go.ChangeShapes Go.WideShapes Go.RowKit
set_option maxRecDepth 100000
theorem F2:(Rows.fillAddsRow.inPlace==PC.inPlace 6)=true:=by kernel_rfl
theorem sT:(Rows.fillAddsRow.unfollowed==PC.unfollowed 6)=true:=by kernel_rfl
theorem yM:(Rows.fillAddsRow.recurses==PC.recurses 6)=true:=by kernel_rfl
theorem F1:(Rows.fillAddsRow.named==PC.varsNamed 6)=true:=by kernel_rfl
theorem AU:PC.funcNamed "offprint/offprintlaw27.FillAdds" = some 6:=by kernel_rfl
end Go.Proofs.YtaojijkdamfbnaaGreatDoor
