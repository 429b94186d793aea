/-
  DERIVED. GIVEN WITH THE SEED: THE CARDS: each row of YtnoldakbllfmnaaGreatDoorRows.lean that lists a variable, with what it lists TIED to the program's text (the seventh form; the later family's looks); each row that meets fmt, with fmt's text TOLD by the authors' own Lean function (tested against real Go, not proved from fmt's source: count such statements apart). THE CARD IS WHAT COUNTS. Prove the row's statement (the work); the ties are given (YtnoldakbllfmnaaGreatDoorTie.lean); close each card by the builder's one call (the guide's Derived/Test/ToyasCard.lean, 'card_holds'). Laid BY PROGRAM, IN A SANDBOX (cutbox-door.mjs). By AI agents, Wed Nov 11 2026. No macro, syntax, notation, axiom, sorry.
-/
import Derived.Test.YtnoldakbllfmnaaGreatDoorRows
import GoSem.ClaimSeven
namespace Go.Proofs.YtnoldakbllfmnaaGreatDoor
namespace Rows

/-- THE TIED CARD OF 'midrangelaw13.ProgramChecks'. -/
def programChecksCard : Claim7 := { stood := { row := programChecksRow, standIns := [], harness := (true, "48d4e29f1c809b3cab36680b15902e4fc1bfe3a114a5356350fd5ff3f00873ca"), looks := true }, kinds := [], alts := [], laidByText := true, laidKinds := [.data, .data, .data, .data, .sentinel, .sentinel, .data, .widerDeep, .widerDeep, .pinned], laidTests := true, laidLooks := .later }
def ProgramChecksCardSaid : Prop := Claim7.holds Tryz.pinned (.plain (OpenSpec.ofChange programChecksSpec)) programChecksCard

/-- THE TIED CARD OF 'midrangelaw13.ProgramTexts'. -/
def programTextsCard : Claim7 := { stood := { row := programTextsRow, standIns := [], harness := (true, "48d4e29f1c809b3cab36680b15902e4fc1bfe3a114a5356350fd5ff3f00873ca"), looks := true }, kinds := [], alts := [], laidByText := true, laidKinds := [.data, .data, .data, .data, .sentinel, .sentinel, .data, .widerDeep, .widerDeep, .pinned], laidTests := true, laidLooks := .later }
def ProgramTextsCardSaid : Prop := Claim7.holds Tryz.pinned (.plain (OpenSpec.ofChange programTextsSpec)) programTextsCard

/-- THE TIED CARD OF 'midrangelaw13.ProgramParses'. -/
def programParsesCard : Claim7 := { stood := { row := programParsesRow, standIns := [], harness := (true, "48d4e29f1c809b3cab36680b15902e4fc1bfe3a114a5356350fd5ff3f00873ca"), looks := true }, kinds := [], alts := [], laidByText := true, laidKinds := [.data, .data, .data, .data, .sentinel, .sentinel, .data, .widerDeep, .widerDeep, .pinned], laidTests := true, laidLooks := .later }
def ProgramParsesCardSaid : Prop := Claim7.holds Tryz.pinned (.plain (OpenSpec.ofChange programParsesSpec)) programParsesCard

/-- THE TIED CARD OF 'midrangelaw13.ProgramBack'. -/
def programBackCard : Claim7 := { stood := { row := programBackRow, standIns := [], harness := (true, "48d4e29f1c809b3cab36680b15902e4fc1bfe3a114a5356350fd5ff3f00873ca"), looks := true }, kinds := [], alts := [], laidByText := true, laidKinds := [.data, .data, .data, .data, .sentinel, .sentinel, .data, .widerDeep, .widerDeep, .pinned], laidTests := true, laidLooks := .later }
def ProgramBackCardSaid : Prop := Claim7.holds Tryz.pinned (.plain (OpenSpec.ofChange programBackSpec)) programBackCard

/-- THE TIED CARD OF 'midrangelaw13.ProgramUses'. -/
def programUsesCard : Claim7 := { stood := { row := programUsesRow, standIns := [], harness := (true, "48d4e29f1c809b3cab36680b15902e4fc1bfe3a114a5356350fd5ff3f00873ca"), looks := true }, kinds := [], alts := [], laidByText := true, laidKinds := [.data, .data, .data, .data, .sentinel, .sentinel, .data, .widerDeep, .widerDeep, .pinned], laidTests := true, laidLooks := .later }
def ProgramUsesCardSaid : Prop := Claim7.holds Tryz.pinned (.plain (OpenSpec.ofChange programUsesSpec)) programUsesCard

/-- THE TIED CARD OF 'midrangelaw13.ProgramStores'. -/
def programStoresCard : Claim7 := { stood := { row := programStoresRow, standIns := [], harness := (true, "48d4e29f1c809b3cab36680b15902e4fc1bfe3a114a5356350fd5ff3f00873ca"), looks := true }, kinds := [], alts := [], laidByText := true, laidKinds := [.data, .data, .data, .data, .sentinel, .sentinel, .data, .widerDeep, .widerDeep, .pinned], laidTests := true, laidLooks := .later }
def ProgramStoresCardSaid : Prop := Claim7.holds Tryz.pinned (.plain (OpenSpec.ofChange programStoresSpec)) programStoresCard

/-- THE TIED CARD OF 'midrangelaw13.ProgramApart'. -/
def programApartCard : Claim7 := { stood := { row := programApartRow, standIns := [], harness := (true, "48d4e29f1c809b3cab36680b15902e4fc1bfe3a114a5356350fd5ff3f00873ca"), looks := true }, kinds := [], alts := [], laidByText := true, laidKinds := [.data, .data, .data, .data, .sentinel, .sentinel, .data, .widerDeep, .widerDeep, .pinned], laidTests := true, laidLooks := .later }
def ProgramApartCardSaid : Prop := Claim7.holds Tryz.pinned (.plain (OpenSpec.ofChange programApartSpec)) programApartCard

/-- THE TIED CARD OF 'midrangelaw13.ProgramFlows'. -/
def programFlowsCard : Claim7 := { stood := { row := programFlowsRow, standIns := [], harness := (true, "48d4e29f1c809b3cab36680b15902e4fc1bfe3a114a5356350fd5ff3f00873ca"), looks := true }, kinds := [], alts := [], laidByText := true, laidKinds := [.data, .data, .data, .data, .sentinel, .sentinel, .data, .widerDeep, .widerDeep, .pinned], laidTests := true, laidLooks := .later }
def ProgramFlowsCardSaid : Prop := Claim7.holds Tryz.pinned (.plain (OpenSpec.ofChange programFlowsSpec)) programFlowsCard

/-- THE TIED CARD OF 'midrangelaw13.ProgramClosed'. -/
def programClosedCard : Claim7 := { stood := { row := programClosedRow, standIns := [], harness := (true, "48d4e29f1c809b3cab36680b15902e4fc1bfe3a114a5356350fd5ff3f00873ca"), looks := true }, kinds := [], alts := [], laidByText := true, laidKinds := [.data, .data, .data, .data, .sentinel, .sentinel, .data, .widerDeep, .widerDeep, .pinned], laidTests := true, laidLooks := .later }
def ProgramClosedCardSaid : Prop := Claim7.holds Tryz.pinned (.plain (OpenSpec.ofChange programClosedSpec)) programClosedCard

/-- THE SECOND FORM's CARD OF 'midrangelaw13.ProgramChecks'. -/
def programChecksUptoCard : Claim7 := { stood := { row := programChecksUptoRow, standIns := [], harness := (true, "48d4e29f1c809b3cab36680b15902e4fc1bfe3a114a5356350fd5ff3f00873ca"), looks := true }, kinds := [], alts := [], laidByText := true, laidKinds := [.data, .data, .data, .data, .sentinel, .sentinel, .data, .widerDeep, .widerDeep, .pinned], laidTests := true, laidLooks := .later }
def ProgramChecksUptoCardSaid : Prop := Claim7.holds Tryz.pinned (.plain (OpenSpec.upto programChecksSpec)) programChecksUptoCard

/-- THE SECOND FORM's CARD OF 'midrangelaw13.ProgramTexts'. -/
def programTextsUptoCard : Claim7 := { stood := { row := programTextsUptoRow, standIns := [], harness := (true, "48d4e29f1c809b3cab36680b15902e4fc1bfe3a114a5356350fd5ff3f00873ca"), looks := true }, kinds := [], alts := [], laidByText := true, laidKinds := [.data, .data, .data, .data, .sentinel, .sentinel, .data, .widerDeep, .widerDeep, .pinned], laidTests := true, laidLooks := .later }
def ProgramTextsUptoCardSaid : Prop := Claim7.holds Tryz.pinned (.plain (OpenSpec.upto programTextsSpec)) programTextsUptoCard

/-- THE SECOND FORM's CARD OF 'midrangelaw13.ProgramParses'. -/
def programParsesUptoCard : Claim7 := { stood := { row := programParsesUptoRow, standIns := [], harness := (true, "48d4e29f1c809b3cab36680b15902e4fc1bfe3a114a5356350fd5ff3f00873ca"), looks := true }, kinds := [], alts := [], laidByText := true, laidKinds := [.data, .data, .data, .data, .sentinel, .sentinel, .data, .widerDeep, .widerDeep, .pinned], laidTests := true, laidLooks := .later }
def ProgramParsesUptoCardSaid : Prop := Claim7.holds Tryz.pinned (.plain (OpenSpec.upto programParsesSpec)) programParsesUptoCard

/-- THE SECOND FORM's CARD OF 'midrangelaw13.ProgramBack'. -/
def programBackUptoCard : Claim7 := { stood := { row := programBackUptoRow, standIns := [], harness := (true, "48d4e29f1c809b3cab36680b15902e4fc1bfe3a114a5356350fd5ff3f00873ca"), looks := true }, kinds := [], alts := [], laidByText := true, laidKinds := [.data, .data, .data, .data, .sentinel, .sentinel, .data, .widerDeep, .widerDeep, .pinned], laidTests := true, laidLooks := .later }
def ProgramBackUptoCardSaid : Prop := Claim7.holds Tryz.pinned (.plain (OpenSpec.upto programBackSpec)) programBackUptoCard

/-- THE SECOND FORM's CARD OF 'midrangelaw13.ProgramUses'. -/
def programUsesUptoCard : Claim7 := { stood := { row := programUsesUptoRow, standIns := [], harness := (true, "48d4e29f1c809b3cab36680b15902e4fc1bfe3a114a5356350fd5ff3f00873ca"), looks := true }, kinds := [], alts := [], laidByText := true, laidKinds := [.data, .data, .data, .data, .sentinel, .sentinel, .data, .widerDeep, .widerDeep, .pinned], laidTests := true, laidLooks := .later }
def ProgramUsesUptoCardSaid : Prop := Claim7.holds Tryz.pinned (.plain (OpenSpec.upto programUsesSpec)) programUsesUptoCard

/-- THE SECOND FORM's CARD OF 'midrangelaw13.ProgramStores'. -/
def programStoresUptoCard : Claim7 := { stood := { row := programStoresUptoRow, standIns := [], harness := (true, "48d4e29f1c809b3cab36680b15902e4fc1bfe3a114a5356350fd5ff3f00873ca"), looks := true }, kinds := [], alts := [], laidByText := true, laidKinds := [.data, .data, .data, .data, .sentinel, .sentinel, .data, .widerDeep, .widerDeep, .pinned], laidTests := true, laidLooks := .later }
def ProgramStoresUptoCardSaid : Prop := Claim7.holds Tryz.pinned (.plain (OpenSpec.upto programStoresSpec)) programStoresUptoCard

/-- THE SECOND FORM's CARD OF 'midrangelaw13.ProgramApart'. -/
def programApartUptoCard : Claim7 := { stood := { row := programApartUptoRow, standIns := [], harness := (true, "48d4e29f1c809b3cab36680b15902e4fc1bfe3a114a5356350fd5ff3f00873ca"), looks := true }, kinds := [], alts := [], laidByText := true, laidKinds := [.data, .data, .data, .data, .sentinel, .sentinel, .data, .widerDeep, .widerDeep, .pinned], laidTests := true, laidLooks := .later }
def ProgramApartUptoCardSaid : Prop := Claim7.holds Tryz.pinned (.plain (OpenSpec.upto programApartSpec)) programApartUptoCard

/-- THE SECOND FORM's CARD OF 'midrangelaw13.ProgramFlows'. -/
def programFlowsUptoCard : Claim7 := { stood := { row := programFlowsUptoRow, standIns := [], harness := (true, "48d4e29f1c809b3cab36680b15902e4fc1bfe3a114a5356350fd5ff3f00873ca"), looks := true }, kinds := [], alts := [], laidByText := true, laidKinds := [.data, .data, .data, .data, .sentinel, .sentinel, .data, .widerDeep, .widerDeep, .pinned], laidTests := true, laidLooks := .later }
def ProgramFlowsUptoCardSaid : Prop := Claim7.holds Tryz.pinned (.plain (OpenSpec.upto programFlowsSpec)) programFlowsUptoCard

/-- THE SECOND FORM's CARD OF 'midrangelaw13.ProgramClosed'. -/
def programClosedUptoCard : Claim7 := { stood := { row := programClosedUptoRow, standIns := [], harness := (true, "48d4e29f1c809b3cab36680b15902e4fc1bfe3a114a5356350fd5ff3f00873ca"), looks := true }, kinds := [], alts := [], laidByText := true, laidKinds := [.data, .data, .data, .data, .sentinel, .sentinel, .data, .widerDeep, .widerDeep, .pinned], laidTests := true, laidLooks := .later }
def ProgramClosedUptoCardSaid : Prop := Claim7.holds Tryz.pinned (.plain (OpenSpec.upto programClosedSpec)) programClosedUptoCard
end Rows
end Go.Proofs.YtnoldakbllfmnaaGreatDoor
