/-
  DERIVED. GIVEN WITH THE SEED: THE CARDS: each row of YtaojijkdamfbnaaGreatDoorRows.lean that lists a variable, with what it lists TIED to the program's text (the seventh form; the later family's looks); each row that meets fmt, with fmt's text TOLD by the authors' own Lean function (tested against real Go, not proved from fmt's source: count such statements apart). THE CARD IS WHAT COUNTS. Prove the row's statement (the work); the ties are given (YtaojijkdamfbnaaGreatDoorTie.lean); close each card by the builder's one call (the guide's Derived/Test/ToyasCard.lean, 'card_holds'). Laid BY PROGRAM, IN A SANDBOX (cutbox-door.mjs). By AI agents, Wed Nov 11 2026. No macro, syntax, notation, axiom, sorry.
-/
import Derived.Test.YtaojijkdamfbnaaGreatDoorRows
import GoSem.ClaimSeven
namespace Go.Proofs.YtaojijkdamfbnaaGreatDoor
namespace Rows

/-- THE TIED CARD OF 'offprintlaw22.MemberTells'. -/
def memberTellsCard : Claim7 := { stood := { row := memberTellsRow, standIns := [], harness := (true, "3df8165532426663acb316417c1eaa4322ecdef7b01bd1decc904a5dde013923"), looks := false }, kinds := [], alts := [], laidByText := true, laidKinds := [.data], laidTests := true, laidLooks := .later }
def MemberTellsCardSaid : Prop := Claim7.holds Tryz.pinned (.plain (OpenSpec.ofChange memberTellsSpec)) memberTellsCard

/-- THE TIED CARD OF 'offprintlaw22.MemberLacks'. -/
def memberLacksCard : Claim7 := { stood := { row := memberLacksRow, standIns := [], harness := (true, "3df8165532426663acb316417c1eaa4322ecdef7b01bd1decc904a5dde013923"), looks := false }, kinds := [], alts := [], laidByText := true, laidKinds := [.data], laidTests := true, laidLooks := .later }
def MemberLacksCardSaid : Prop := Claim7.holds Tryz.pinned (.plain (OpenSpec.ofChange memberLacksSpec)) memberLacksCard

/-- THE TIED CARD OF 'offprintlaw22.MemberNone'. -/
def memberNoneCard : Claim7 := { stood := { row := memberNoneRow, standIns := [], harness := (true, "3df8165532426663acb316417c1eaa4322ecdef7b01bd1decc904a5dde013923"), looks := false }, kinds := [], alts := [], laidByText := true, laidKinds := [.data], laidTests := true, laidLooks := .later }
def MemberNoneCardSaid : Prop := Claim7.holds Tryz.pinned (.plain (OpenSpec.ofChange memberNoneSpec)) memberNoneCard

/-- THE TIED CARD OF 'offprintlaw27.FillAdds'. -/
def fillAddsCard : Claim7 := { stood := { row := fillAddsRow, standIns := [], harness := (true, "3df8165532426663acb316417c1eaa4322ecdef7b01bd1decc904a5dde013923"), looks := false }, kinds := [], alts := [], laidByText := true, laidKinds := [.data], laidTests := true, laidLooks := .later }
def FillAddsCardSaid : Prop := Claim7.holds Tryz.pinned (.plain (OpenSpec.ofChange fillAddsSpec)) fillAddsCard

/-- THE TIED CARD OF 'offprintlaw27.FillTells'. -/
def fillTellsCard : Claim7 := { stood := { row := fillTellsRow, standIns := [], harness := (true, "3df8165532426663acb316417c1eaa4322ecdef7b01bd1decc904a5dde013923"), looks := false }, kinds := [], alts := [], laidByText := true, laidKinds := [.data], laidTests := true, laidLooks := .later }
def FillTellsCardSaid : Prop := Claim7.holds Tryz.pinned (.plain (OpenSpec.ofChange fillTellsSpec)) fillTellsCard

/-- THE TIED CARD OF 'offprintlaw27.FillEnds'. -/
def fillEndsCard : Claim7 := { stood := { row := fillEndsRow, standIns := [], harness := (true, "3df8165532426663acb316417c1eaa4322ecdef7b01bd1decc904a5dde013923"), looks := false }, kinds := [], alts := [], laidByText := true, laidKinds := [.data], laidTests := true, laidLooks := .later }
def FillEndsCardSaid : Prop := Claim7.holds Tryz.pinned (.plain (OpenSpec.ofChange fillEndsSpec)) fillEndsCard

/-- THE SECOND FORM's CARD OF 'offprintlaw22.MemberTells'. -/
def memberTellsUptoCard : Claim7 := { stood := { row := memberTellsUptoRow, standIns := [], harness := (true, "3df8165532426663acb316417c1eaa4322ecdef7b01bd1decc904a5dde013923"), looks := false }, kinds := [], alts := [], laidByText := true, laidKinds := [.data], laidTests := true, laidLooks := .later }
def MemberTellsUptoCardSaid : Prop := Claim7.holds Tryz.pinned (.plain (OpenSpec.upto memberTellsSpec)) memberTellsUptoCard

/-- THE SECOND FORM's CARD OF 'offprintlaw22.MemberLacks'. -/
def memberLacksUptoCard : Claim7 := { stood := { row := memberLacksUptoRow, standIns := [], harness := (true, "3df8165532426663acb316417c1eaa4322ecdef7b01bd1decc904a5dde013923"), looks := false }, kinds := [], alts := [], laidByText := true, laidKinds := [.data], laidTests := true, laidLooks := .later }
def MemberLacksUptoCardSaid : Prop := Claim7.holds Tryz.pinned (.plain (OpenSpec.upto memberLacksSpec)) memberLacksUptoCard

/-- THE SECOND FORM's CARD OF 'offprintlaw22.MemberNone'. -/
def memberNoneUptoCard : Claim7 := { stood := { row := memberNoneUptoRow, standIns := [], harness := (true, "3df8165532426663acb316417c1eaa4322ecdef7b01bd1decc904a5dde013923"), looks := false }, kinds := [], alts := [], laidByText := true, laidKinds := [.data], laidTests := true, laidLooks := .later }
def MemberNoneUptoCardSaid : Prop := Claim7.holds Tryz.pinned (.plain (OpenSpec.upto memberNoneSpec)) memberNoneUptoCard

/-- THE SECOND FORM's CARD OF 'offprintlaw27.FillAdds'. -/
def fillAddsUptoCard : Claim7 := { stood := { row := fillAddsUptoRow, standIns := [], harness := (true, "3df8165532426663acb316417c1eaa4322ecdef7b01bd1decc904a5dde013923"), looks := false }, kinds := [], alts := [], laidByText := true, laidKinds := [.data], laidTests := true, laidLooks := .later }
def FillAddsUptoCardSaid : Prop := Claim7.holds Tryz.pinned (.plain (OpenSpec.upto fillAddsSpec)) fillAddsUptoCard

/-- THE SECOND FORM's CARD OF 'offprintlaw27.FillTells'. -/
def fillTellsUptoCard : Claim7 := { stood := { row := fillTellsUptoRow, standIns := [], harness := (true, "3df8165532426663acb316417c1eaa4322ecdef7b01bd1decc904a5dde013923"), looks := false }, kinds := [], alts := [], laidByText := true, laidKinds := [.data], laidTests := true, laidLooks := .later }
def FillTellsUptoCardSaid : Prop := Claim7.holds Tryz.pinned (.plain (OpenSpec.upto fillTellsSpec)) fillTellsUptoCard

/-- THE SECOND FORM's CARD OF 'offprintlaw27.FillEnds'. -/
def fillEndsUptoCard : Claim7 := { stood := { row := fillEndsUptoRow, standIns := [], harness := (true, "3df8165532426663acb316417c1eaa4322ecdef7b01bd1decc904a5dde013923"), looks := false }, kinds := [], alts := [], laidByText := true, laidKinds := [.data], laidTests := true, laidLooks := .later }
def FillEndsUptoCardSaid : Prop := Claim7.holds Tryz.pinned (.plain (OpenSpec.upto fillEndsSpec)) fillEndsUptoCard
end Rows
end Go.Proofs.YtaojijkdamfbnaaGreatDoor
