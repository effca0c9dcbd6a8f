/- Parts of the proof, joined; conditions: those that its theorems name. -/
import Derived.Test.YtaojijkdamfbnaaGreatDoorMazm
set_option linter.unusedVariables false
set_option linter.unusedSimpArgs false
set_option maxHeartbeats 4000000
namespace Go.Proofs.YtaojijkdamfbnaaGreatDoor
open Go.ChangeShapes Go.WideShapes Go.RowKit
set_option maxRecDepth 100000
theorem GM:(Rows.memberTellsRow.inPlace==PC.inPlace 3)=true:=by kernel_rfl
theorem tQ:(Rows.memberTellsRow.unfollowed==PC.unfollowed 3)=true:=by kernel_rfl
theorem zN:(Rows.memberTellsRow.recurses==PC.recurses 3)=true:=by kernel_rfl
theorem GL:(Rows.memberTellsRow.named==PC.varsNamed 3)=true:=by kernel_rfl
theorem Bs:PC.funcNamed "offprint/offprintlaw22.MemberTells" = some 3:=by kernel_rfl
end Go.Proofs.YtaojijkdamfbnaaGreatDoor
