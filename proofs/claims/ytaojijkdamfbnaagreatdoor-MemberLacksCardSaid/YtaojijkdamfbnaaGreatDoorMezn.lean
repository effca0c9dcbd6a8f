/- Parts of the proof, joined; conditions: those that its theorems name. -/
import Derived.Test.YtaojijkdamfbnaaGreatDoorMezm
set_option linter.unusedVariables false
set_option linter.unusedSimpArgs false
set_option maxHeartbeats 4000000
namespace Go.Proofs.YtaojijkdamfbnaaGreatDoor
open Go.ChangeShapes Go.WideShapes Go.RowKit
set_option maxRecDepth 100000
theorem GJ:(Rows.memberLacksRow.inPlace==PC.inPlace 4)=true:=by kernel_rfl
theorem tL:(Rows.memberLacksRow.unfollowed==PC.unfollowed 4)=true:=by kernel_rfl
theorem zN:(Rows.memberLacksRow.recurses==PC.recurses 4)=true:=by kernel_rfl
theorem GH:(Rows.memberLacksRow.named==PC.varsNamed 4)=true:=by kernel_rfl
theorem Bu:PC.funcNamed "offprint/offprintlaw22.MemberLacks" = some 4:=by kernel_rfl
end Go.Proofs.YtaojijkdamfbnaaGreatDoor
