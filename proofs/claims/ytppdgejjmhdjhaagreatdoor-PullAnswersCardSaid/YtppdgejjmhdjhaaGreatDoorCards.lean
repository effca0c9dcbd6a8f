/-
  DERIVED. GIVEN WITH THE SEED: THE CARDS: each row of YtppdgejjmhdjhaaGreatDoorRows.lean that lists a variable, with what it lists TIED to the program's text (the seventh form; the later family's looks); each row that meets fmt, with fmt's text TOLD by the authors' own Lean function (tested against real Go, not proved from fmt's source: count such statements apart). THE CARD IS WHAT COUNTS. Prove the row's statement (the work); the ties are given (YtppdgejjmhdjhaaGreatDoorTie.lean); close each card by the builder's one call (the guide's Derived/Test/ToyasCard.lean, 'card_holds'). Laid BY PROGRAM, IN A SANDBOX (cutbox-door.mjs). By AI agents, Wed Nov 11 2026. No macro, syntax, notation, axiom, sorry.
-/
import Derived.Test.YtppdgejjmhdjhaaGreatDoorRows
import GoSem.ClaimSeven
namespace Go.Proofs.YtppdgejjmhdjhaaGreatDoor
namespace Rows

/-- THE TIED CARD OF 'offprintlaw25.ViewDeltas'. -/
def viewDeltasCard : Claim7 := { stood := { row := viewDeltasRow, standIns := [], harness := (true, "e6d3d67db0a1dda934f381367d2919857329b7be9bb712852887452b343be140"), looks := false }, kinds := [], alts := [], laidByText := true, laidKinds := [.data], laidTests := true, laidLooks := .later }
def ViewDeltasCardSaid : Prop := Claim7.holds Tryz.pinned (.plain (OpenSpec.ofChange viewDeltasSpec)) viewDeltasCard

/-- THE TIED CARD OF 'offprintlaw25.ViewNone'. -/
def viewNoneCard : Claim7 := { stood := { row := viewNoneRow, standIns := [], harness := (true, "e6d3d67db0a1dda934f381367d2919857329b7be9bb712852887452b343be140"), looks := false }, kinds := [], alts := [], laidByText := true, laidKinds := [.data], laidTests := true, laidLooks := .later }
def ViewNoneCardSaid : Prop := Claim7.holds Tryz.pinned (.plain (OpenSpec.ofChange viewNoneSpec)) viewNoneCard

/-- THE TIED CARD OF 'offprintlaw25.ViewKeeps'. -/
def viewKeepsCard : Claim7 := { stood := { row := viewKeepsRow, standIns := [], harness := (true, "e6d3d67db0a1dda934f381367d2919857329b7be9bb712852887452b343be140"), looks := false }, kinds := [], alts := [], laidByText := true, laidKinds := [.data], laidTests := true, laidLooks := .later }
def ViewKeepsCardSaid : Prop := Claim7.holds Tryz.pinned (.plain (OpenSpec.ofChange viewKeepsSpec)) viewKeepsCard

/-- THE TIED CARD OF 'offprintlaw25.ViewLoads'. -/
def viewLoadsCard : Claim7 := { stood := { row := viewLoadsRow, standIns := [], harness := (true, "e6d3d67db0a1dda934f381367d2919857329b7be9bb712852887452b343be140"), looks := false }, kinds := [], alts := [], laidByText := true, laidKinds := [.data], laidTests := true, laidLooks := .later }
def ViewLoadsCardSaid : Prop := Claim7.holds Tryz.pinned (.plain (OpenSpec.ofChange viewLoadsSpec)) viewLoadsCard

/-- THE TIED CARD OF 'offprintlaw28.PullAnswers'. -/
def pullAnswersCard : Claim7 := { stood := { row := pullAnswersRow, standIns := [], harness := (true, "e6d3d67db0a1dda934f381367d2919857329b7be9bb712852887452b343be140"), looks := false }, kinds := [], alts := [], laidByText := true, laidKinds := [.data], laidTests := true, laidLooks := .later }
def PullAnswersCardSaid : Prop := Claim7.holds Tryz.pinned (.plain (OpenSpec.ofChange pullAnswersSpec)) pullAnswersCard

/-- THE TIED CARD OF 'offprintlaw28.PullSoon'. -/
def pullSoonCard : Claim7 := { stood := { row := pullSoonRow, standIns := [], harness := (true, "e6d3d67db0a1dda934f381367d2919857329b7be9bb712852887452b343be140"), looks := false }, kinds := [], alts := [], laidByText := true, laidKinds := [.data], laidTests := true, laidLooks := .later }
def PullSoonCardSaid : Prop := Claim7.holds Tryz.pinned (.plain (OpenSpec.ofChange pullSoonSpec)) pullSoonCard

/-- THE TIED CARD OF 'offprintlaw28.PullExact'. -/
def pullExactCard : Claim7 := { stood := { row := pullExactRow, standIns := [], harness := (true, "e6d3d67db0a1dda934f381367d2919857329b7be9bb712852887452b343be140"), looks := false }, kinds := [], alts := [], laidByText := true, laidKinds := [.data], laidTests := true, laidLooks := .later }
def PullExactCardSaid : Prop := Claim7.holds Tryz.pinned (.plain (OpenSpec.ofChange pullExactSpec)) pullExactCard

/-- THE SECOND FORM's CARD OF 'offprintlaw25.ViewDeltas'. -/
def viewDeltasUptoCard : Claim7 := { stood := { row := viewDeltasUptoRow, standIns := [], harness := (true, "e6d3d67db0a1dda934f381367d2919857329b7be9bb712852887452b343be140"), looks := false }, kinds := [], alts := [], laidByText := true, laidKinds := [.data], laidTests := true, laidLooks := .later }
def ViewDeltasUptoCardSaid : Prop := Claim7.holds Tryz.pinned (.plain (OpenSpec.upto viewDeltasSpec)) viewDeltasUptoCard

/-- THE SECOND FORM's CARD OF 'offprintlaw25.ViewNone'. -/
def viewNoneUptoCard : Claim7 := { stood := { row := viewNoneUptoRow, standIns := [], harness := (true, "e6d3d67db0a1dda934f381367d2919857329b7be9bb712852887452b343be140"), looks := false }, kinds := [], alts := [], laidByText := true, laidKinds := [.data], laidTests := true, laidLooks := .later }
def ViewNoneUptoCardSaid : Prop := Claim7.holds Tryz.pinned (.plain (OpenSpec.upto viewNoneSpec)) viewNoneUptoCard

/-- THE SECOND FORM's CARD OF 'offprintlaw25.ViewKeeps'. -/
def viewKeepsUptoCard : Claim7 := { stood := { row := viewKeepsUptoRow, standIns := [], harness := (true, "e6d3d67db0a1dda934f381367d2919857329b7be9bb712852887452b343be140"), looks := false }, kinds := [], alts := [], laidByText := true, laidKinds := [.data], laidTests := true, laidLooks := .later }
def ViewKeepsUptoCardSaid : Prop := Claim7.holds Tryz.pinned (.plain (OpenSpec.upto viewKeepsSpec)) viewKeepsUptoCard

/-- THE SECOND FORM's CARD OF 'offprintlaw25.ViewLoads'. -/
def viewLoadsUptoCard : Claim7 := { stood := { row := viewLoadsUptoRow, standIns := [], harness := (true, "e6d3d67db0a1dda934f381367d2919857329b7be9bb712852887452b343be140"), looks := false }, kinds := [], alts := [], laidByText := true, laidKinds := [.data], laidTests := true, laidLooks := .later }
def ViewLoadsUptoCardSaid : Prop := Claim7.holds Tryz.pinned (.plain (OpenSpec.upto viewLoadsSpec)) viewLoadsUptoCard

/-- THE SECOND FORM's CARD OF 'offprintlaw28.PullAnswers'. -/
def pullAnswersUptoCard : Claim7 := { stood := { row := pullAnswersUptoRow, standIns := [], harness := (true, "e6d3d67db0a1dda934f381367d2919857329b7be9bb712852887452b343be140"), looks := false }, kinds := [], alts := [], laidByText := true, laidKinds := [.data], laidTests := true, laidLooks := .later }
def PullAnswersUptoCardSaid : Prop := Claim7.holds Tryz.pinned (.plain (OpenSpec.upto pullAnswersSpec)) pullAnswersUptoCard

/-- THE SECOND FORM's CARD OF 'offprintlaw28.PullSoon'. -/
def pullSoonUptoCard : Claim7 := { stood := { row := pullSoonUptoRow, standIns := [], harness := (true, "e6d3d67db0a1dda934f381367d2919857329b7be9bb712852887452b343be140"), looks := false }, kinds := [], alts := [], laidByText := true, laidKinds := [.data], laidTests := true, laidLooks := .later }
def PullSoonUptoCardSaid : Prop := Claim7.holds Tryz.pinned (.plain (OpenSpec.upto pullSoonSpec)) pullSoonUptoCard

/-- THE SECOND FORM's CARD OF 'offprintlaw28.PullExact'. -/
def pullExactUptoCard : Claim7 := { stood := { row := pullExactUptoRow, standIns := [], harness := (true, "e6d3d67db0a1dda934f381367d2919857329b7be9bb712852887452b343be140"), looks := false }, kinds := [], alts := [], laidByText := true, laidKinds := [.data], laidTests := true, laidLooks := .later }
def PullExactUptoCardSaid : Prop := Claim7.holds Tryz.pinned (.plain (OpenSpec.upto pullExactSpec)) pullExactUptoCard
end Rows
end Go.Proofs.YtppdgejjmhdjhaaGreatDoor
