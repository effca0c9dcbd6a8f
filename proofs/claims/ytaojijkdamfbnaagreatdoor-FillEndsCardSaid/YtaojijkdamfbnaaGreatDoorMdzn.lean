/- Parts of the proof, joined; conditions: those that its theorems name. -/
import Derived.Test.YtaojijkdamfbnaaGreatDoorMdzm
set_option linter.unusedVariables false
set_option linter.unusedSimpArgs false
set_option maxHeartbeats 4000000
namespace Go.Proofs.YtaojijkdamfbnaaGreatDoor
open Go.ChangeShapes Go.WideShapes Go.RowKit
set_option maxRecDepth 100000
theorem F5:(Rows.fillEndsRow.inPlace==PC.inPlace 8)=true:=by kernel_rfl
theorem sU:(Rows.fillEndsRow.unfollowed==PC.unfollowed 8)=true:=by kernel_rfl
theorem yO:(Rows.fillEndsRow.recurses==PC.recurses 8)=true:=by kernel_rfl
theorem F4:(Rows.fillEndsRow.named==PC.varsNamed 8)=true:=by kernel_rfl
theorem AX:PC.funcNamed "offprint/offprintlaw27.FillEnds" = some 8:=by kernel_rfl
end Go.Proofs.YtaojijkdamfbnaaGreatDoor
