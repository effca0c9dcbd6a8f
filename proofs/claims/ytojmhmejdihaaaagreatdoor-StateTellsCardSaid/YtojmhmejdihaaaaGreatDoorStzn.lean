/- Parts of the proof, joined; conditions: those that its theorems name. -/
import Derived.Test.YtojmhmejdihaaaaGreatDoorStzi
set_option linter.unusedVariables false
set_option linter.unusedSimpArgs false
set_option maxHeartbeats 4000000
namespace Go.Proofs.YtojmhmejdihaaaaGreatDoor
section
open Go.ChangeShapes Go.WideShapes Go.RowKit
set_option maxRecDepth 100000
theorem Ki:PC.mayEnter=true:=by kernel_rfl
theorem M5:PC.mainIs=some (Rows.stateTellsCard.stood.harness.1,Rows.stateTellsCard.stood.harness.2.toList):=by kernel_rfl
theorem Km:false=PC.looks []:=by kernel_rfl
end

section
open Go.ChangeShapes Go.WideShapes Go.RowKit
set_option maxRecDepth 100000
theorem Kr:(Rows.stateTellsRow.inPlace==PC.inPlace 3)=true:=by kernel_rfl
theorem xU:(Rows.stateTellsRow.unfollowed==PC.unfollowed 3)=true:=by kernel_rfl
theorem Ce:(Rows.stateTellsRow.recurses==PC.recurses 3)=true:=by kernel_rfl
theorem Kq:(Rows.stateTellsRow.named==PC.varsNamed 3)=true:=by kernel_rfl
theorem Gw:PC.funcNamed "offprint/offprintlaw31.StateTells" = some 3:=by kernel_rfl
end
end Go.Proofs.YtojmhmejdihaaaaGreatDoor
