/-
  DERIVED. GIVEN WITH THE SEED: THE CARDS: each row of YtojmhmejdihaaaaGreatDoorRows.lean that lists a variable, with what it lists TIED to the program's text (the seventh form; the later family's looks); each row that meets fmt, with fmt's text TOLD by the authors' own Lean function (tested against real Go, not proved from fmt's source: count such statements apart). THE CARD IS WHAT COUNTS. Prove the row's statement (the work); the ties are given (YtojmhmejdihaaaaGreatDoorTie.lean); close each card by the builder's one call (the guide's Derived/Test/ToyasCard.lean, 'card_holds'). Laid BY PROGRAM, IN A SANDBOX (cutbox-door.mjs). By AI agents, Wed Nov 11 2026. No macro, syntax, notation, axiom, sorry.
-/
import Derived.Test.YtojmhmejdihaaaaGreatDoorRows
import GoSem.ClaimSeven
namespace Go.Proofs.YtojmhmejdihaaaaGreatDoor
namespace Rows

/-- THE TIED CARD OF 'offprintlaw31.StateTells'. -/
def stateTellsCard : Claim7 := { stood := { row := stateTellsRow, standIns := [], harness := (true, "b2b2bbe2241f274a02c91836fa36241c35be8d01e60ef3962a1798fab0075f95"), looks := false }, kinds := [], alts := [], laidByText := true, laidKinds := [.data], laidTests := true, laidLooks := .later }
def StateTellsCardSaid : Prop := Claim7.holds Tryz.pinned (.plain (OpenSpec.ofChange stateTellsSpec)) stateTellsCard

/-- THE TIED CARD OF 'offprintlaw22.MemberTells'. -/
def memberTellsCard : Claim7 := { stood := { row := memberTellsRow, standIns := [], harness := (true, "b2b2bbe2241f274a02c91836fa36241c35be8d01e60ef3962a1798fab0075f95"), looks := false }, kinds := [], alts := [], laidByText := true, laidKinds := [.data], laidTests := true, laidLooks := .later }
def MemberTellsCardSaid : Prop := Claim7.holds Tryz.pinned (.plain (OpenSpec.ofChange memberTellsSpec)) memberTellsCard

/-- THE TIED CARD OF 'offprintlaw22.MemberLacks'. -/
def memberLacksCard : Claim7 := { stood := { row := memberLacksRow, standIns := [], harness := (true, "b2b2bbe2241f274a02c91836fa36241c35be8d01e60ef3962a1798fab0075f95"), looks := false }, kinds := [], alts := [], laidByText := true, laidKinds := [.data], laidTests := true, laidLooks := .later }
def MemberLacksCardSaid : Prop := Claim7.holds Tryz.pinned (.plain (OpenSpec.ofChange memberLacksSpec)) memberLacksCard

/-- THE TIED CARD OF 'offprintlaw22.MemberNone'. -/
def memberNoneCard : Claim7 := { stood := { row := memberNoneRow, standIns := [], harness := (true, "b2b2bbe2241f274a02c91836fa36241c35be8d01e60ef3962a1798fab0075f95"), looks := false }, kinds := [], alts := [], laidByText := true, laidKinds := [.data], laidTests := true, laidLooks := .later }
def MemberNoneCardSaid : Prop := Claim7.holds Tryz.pinned (.plain (OpenSpec.ofChange memberNoneSpec)) memberNoneCard

/-- THE TIED CARD OF 'offprintlaw27.FillAdds'. -/
def fillAddsCard : Claim7 := { stood := { row := fillAddsRow, standIns := [], harness := (true, "b2b2bbe2241f274a02c91836fa36241c35be8d01e60ef3962a1798fab0075f95"), looks := false }, kinds := [], alts := [], laidByText := true, laidKinds := [.data], laidTests := true, laidLooks := .later }
def FillAddsCardSaid : Prop := Claim7.holds Tryz.pinned (.plain (OpenSpec.ofChange fillAddsSpec)) fillAddsCard

/-- THE TIED CARD OF 'offprintlaw27.FillTells'. -/
def fillTellsCard : Claim7 := { stood := { row := fillTellsRow, standIns := [], harness := (true, "b2b2bbe2241f274a02c91836fa36241c35be8d01e60ef3962a1798fab0075f95"), looks := false }, kinds := [], alts := [], laidByText := true, laidKinds := [.data], laidTests := true, laidLooks := .later }
def FillTellsCardSaid : Prop := Claim7.holds Tryz.pinned (.plain (OpenSpec.ofChange fillTellsSpec)) fillTellsCard

/-- THE TIED CARD OF 'offprintlaw27.FillEnds'. -/
def fillEndsCard : Claim7 := { stood := { row := fillEndsRow, standIns := [], harness := (true, "b2b2bbe2241f274a02c91836fa36241c35be8d01e60ef3962a1798fab0075f95"), looks := false }, kinds := [], alts := [], laidByText := true, laidKinds := [.data], laidTests := true, laidLooks := .later }
def FillEndsCardSaid : Prop := Claim7.holds Tryz.pinned (.plain (OpenSpec.ofChange fillEndsSpec)) fillEndsCard

/-- THE TIED CARD OF 'offprintlaw25.ViewDeltas'. -/
def viewDeltasCard : Claim7 := { stood := { row := viewDeltasRow, standIns := [], harness := (true, "b2b2bbe2241f274a02c91836fa36241c35be8d01e60ef3962a1798fab0075f95"), looks := false }, kinds := [], alts := [], laidByText := true, laidKinds := [.data], laidTests := true, laidLooks := .later }
def ViewDeltasCardSaid : Prop := Claim7.holds Tryz.pinned (.plain (OpenSpec.ofChange viewDeltasSpec)) viewDeltasCard

/-- THE TIED CARD OF 'offprintlaw25.ViewNone'. -/
def viewNoneCard : Claim7 := { stood := { row := viewNoneRow, standIns := [], harness := (true, "b2b2bbe2241f274a02c91836fa36241c35be8d01e60ef3962a1798fab0075f95"), looks := false }, kinds := [], alts := [], laidByText := true, laidKinds := [.data], laidTests := true, laidLooks := .later }
def ViewNoneCardSaid : Prop := Claim7.holds Tryz.pinned (.plain (OpenSpec.ofChange viewNoneSpec)) viewNoneCard

/-- THE TIED CARD OF 'offprintlaw25.ViewKeeps'. -/
def viewKeepsCard : Claim7 := { stood := { row := viewKeepsRow, standIns := [], harness := (true, "b2b2bbe2241f274a02c91836fa36241c35be8d01e60ef3962a1798fab0075f95"), looks := false }, kinds := [], alts := [], laidByText := true, laidKinds := [.data], laidTests := true, laidLooks := .later }
def ViewKeepsCardSaid : Prop := Claim7.holds Tryz.pinned (.plain (OpenSpec.ofChange viewKeepsSpec)) viewKeepsCard

/-- THE TIED CARD OF 'offprintlaw25.ViewLoads'. -/
def viewLoadsCard : Claim7 := { stood := { row := viewLoadsRow, standIns := [], harness := (true, "b2b2bbe2241f274a02c91836fa36241c35be8d01e60ef3962a1798fab0075f95"), looks := false }, kinds := [], alts := [], laidByText := true, laidKinds := [.data], laidTests := true, laidLooks := .later }
def ViewLoadsCardSaid : Prop := Claim7.holds Tryz.pinned (.plain (OpenSpec.ofChange viewLoadsSpec)) viewLoadsCard

/-- THE SECOND FORM's CARD OF 'offprintlaw31.StateTells'. -/
def stateTellsUptoCard : Claim7 := { stood := { row := stateTellsUptoRow, standIns := [], harness := (true, "b2b2bbe2241f274a02c91836fa36241c35be8d01e60ef3962a1798fab0075f95"), looks := false }, kinds := [], alts := [], laidByText := true, laidKinds := [.data], laidTests := true, laidLooks := .later }
def StateTellsUptoCardSaid : Prop := Claim7.holds Tryz.pinned (.plain (OpenSpec.upto stateTellsSpec)) stateTellsUptoCard

/-- THE SECOND FORM's CARD OF 'offprintlaw22.MemberTells'. -/
def memberTellsUptoCard : Claim7 := { stood := { row := memberTellsUptoRow, standIns := [], harness := (true, "b2b2bbe2241f274a02c91836fa36241c35be8d01e60ef3962a1798fab0075f95"), looks := false }, kinds := [], alts := [], laidByText := true, laidKinds := [.data], laidTests := true, laidLooks := .later }
def MemberTellsUptoCardSaid : Prop := Claim7.holds Tryz.pinned (.plain (OpenSpec.upto memberTellsSpec)) memberTellsUptoCard

/-- THE SECOND FORM's CARD OF 'offprintlaw22.MemberLacks'. -/
def memberLacksUptoCard : Claim7 := { stood := { row := memberLacksUptoRow, standIns := [], harness := (true, "b2b2bbe2241f274a02c91836fa36241c35be8d01e60ef3962a1798fab0075f95"), looks := false }, kinds := [], alts := [], laidByText := true, laidKinds := [.data], laidTests := true, laidLooks := .later }
def MemberLacksUptoCardSaid : Prop := Claim7.holds Tryz.pinned (.plain (OpenSpec.upto memberLacksSpec)) memberLacksUptoCard

/-- THE SECOND FORM's CARD OF 'offprintlaw22.MemberNone'. -/
def memberNoneUptoCard : Claim7 := { stood := { row := memberNoneUptoRow, standIns := [], harness := (true, "b2b2bbe2241f274a02c91836fa36241c35be8d01e60ef3962a1798fab0075f95"), looks := false }, kinds := [], alts := [], laidByText := true, laidKinds := [.data], laidTests := true, laidLooks := .later }
def MemberNoneUptoCardSaid : Prop := Claim7.holds Tryz.pinned (.plain (OpenSpec.upto memberNoneSpec)) memberNoneUptoCard

/-- THE SECOND FORM's CARD OF 'offprintlaw27.FillAdds'. -/
def fillAddsUptoCard : Claim7 := { stood := { row := fillAddsUptoRow, standIns := [], harness := (true, "b2b2bbe2241f274a02c91836fa36241c35be8d01e60ef3962a1798fab0075f95"), looks := false }, kinds := [], alts := [], laidByText := true, laidKinds := [.data], laidTests := true, laidLooks := .later }
def FillAddsUptoCardSaid : Prop := Claim7.holds Tryz.pinned (.plain (OpenSpec.upto fillAddsSpec)) fillAddsUptoCard

/-- THE SECOND FORM's CARD OF 'offprintlaw27.FillTells'. -/
def fillTellsUptoCard : Claim7 := { stood := { row := fillTellsUptoRow, standIns := [], harness := (true, "b2b2bbe2241f274a02c91836fa36241c35be8d01e60ef3962a1798fab0075f95"), looks := false }, kinds := [], alts := [], laidByText := true, laidKinds := [.data], laidTests := true, laidLooks := .later }
def FillTellsUptoCardSaid : Prop := Claim7.holds Tryz.pinned (.plain (OpenSpec.upto fillTellsSpec)) fillTellsUptoCard

/-- THE SECOND FORM's CARD OF 'offprintlaw27.FillEnds'. -/
def fillEndsUptoCard : Claim7 := { stood := { row := fillEndsUptoRow, standIns := [], harness := (true, "b2b2bbe2241f274a02c91836fa36241c35be8d01e60ef3962a1798fab0075f95"), looks := false }, kinds := [], alts := [], laidByText := true, laidKinds := [.data], laidTests := true, laidLooks := .later }
def FillEndsUptoCardSaid : Prop := Claim7.holds Tryz.pinned (.plain (OpenSpec.upto fillEndsSpec)) fillEndsUptoCard

/-- THE SECOND FORM's CARD OF 'offprintlaw25.ViewDeltas'. -/
def viewDeltasUptoCard : Claim7 := { stood := { row := viewDeltasUptoRow, standIns := [], harness := (true, "b2b2bbe2241f274a02c91836fa36241c35be8d01e60ef3962a1798fab0075f95"), looks := false }, kinds := [], alts := [], laidByText := true, laidKinds := [.data], laidTests := true, laidLooks := .later }
def ViewDeltasUptoCardSaid : Prop := Claim7.holds Tryz.pinned (.plain (OpenSpec.upto viewDeltasSpec)) viewDeltasUptoCard

/-- THE SECOND FORM's CARD OF 'offprintlaw25.ViewNone'. -/
def viewNoneUptoCard : Claim7 := { stood := { row := viewNoneUptoRow, standIns := [], harness := (true, "b2b2bbe2241f274a02c91836fa36241c35be8d01e60ef3962a1798fab0075f95"), looks := false }, kinds := [], alts := [], laidByText := true, laidKinds := [.data], laidTests := true, laidLooks := .later }
def ViewNoneUptoCardSaid : Prop := Claim7.holds Tryz.pinned (.plain (OpenSpec.upto viewNoneSpec)) viewNoneUptoCard

/-- THE SECOND FORM's CARD OF 'offprintlaw25.ViewKeeps'. -/
def viewKeepsUptoCard : Claim7 := { stood := { row := viewKeepsUptoRow, standIns := [], harness := (true, "b2b2bbe2241f274a02c91836fa36241c35be8d01e60ef3962a1798fab0075f95"), looks := false }, kinds := [], alts := [], laidByText := true, laidKinds := [.data], laidTests := true, laidLooks := .later }
def ViewKeepsUptoCardSaid : Prop := Claim7.holds Tryz.pinned (.plain (OpenSpec.upto viewKeepsSpec)) viewKeepsUptoCard

/-- THE SECOND FORM's CARD OF 'offprintlaw25.ViewLoads'. -/
def viewLoadsUptoCard : Claim7 := { stood := { row := viewLoadsUptoRow, standIns := [], harness := (true, "b2b2bbe2241f274a02c91836fa36241c35be8d01e60ef3962a1798fab0075f95"), looks := false }, kinds := [], alts := [], laidByText := true, laidKinds := [.data], laidTests := true, laidLooks := .later }
def ViewLoadsUptoCardSaid : Prop := Claim7.holds Tryz.pinned (.plain (OpenSpec.upto viewLoadsSpec)) viewLoadsUptoCard
end Rows
end Go.Proofs.YtojmhmejdihaaaaGreatDoor
