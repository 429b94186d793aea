/-
  DERIVED. GIVEN WITH THE SEED: THE CARDS: each row of YtgmpnhfnkhohiaaGreatDoorRows.lean that lists a variable, with what it lists TIED to the program's text (the seventh form; the later family's looks); each row that meets fmt, with fmt's text TOLD by the authors' own Lean function (tested against real Go, not proved from fmt's source: count such statements apart). THE CARD IS WHAT COUNTS. Prove the row's statement (the work); the ties are given (YtgmpnhfnkhohiaaGreatDoorTie.lean); close each card by the builder's one call (the guide's Derived/Test/ToyasCard.lean, 'card_holds'). Laid BY PROGRAM, IN A SANDBOX (cutbox-door.mjs). By AI agents, Wed Nov 11 2026. No macro, syntax, notation, axiom, sorry.
-/
import Derived.Test.YtgmpnhfnkhohiaaGreatDoorRows
import GoSem.ClaimSeven
namespace Go.Proofs.YtgmpnhfnkhohiaaGreatDoor
namespace Rows

/-- THE TIED CARD OF 'midrangelaw03.TaggedDumps'. -/
def taggedDumpsCard : Claim7 := { stood := { row := taggedDumpsRow, standIns := [], harness := (true, "dab75288b01abbba6e724b970728712a273a5a804f09245946268205ec03271d"), looks := true }, kinds := [], alts := [], laidByText := true, laidKinds := [.data, .data, .data, .data, .sentinel, .sentinel, .pinned], laidTests := true, laidLooks := .later }
def TaggedDumpsCardSaid : Prop := Claim7.holds Tryz.pinned (.plain (OpenSpec.ofChange taggedDumpsSpec)) taggedDumpsCard

/-- THE TIED CARD OF 'midrangelaw03.TaggedBack'. -/
def taggedBackCard : Claim7 := { stood := { row := taggedBackRow, standIns := [], harness := (true, "dab75288b01abbba6e724b970728712a273a5a804f09245946268205ec03271d"), looks := true }, kinds := [], alts := [], laidByText := true, laidKinds := [.data, .data, .data, .data, .sentinel, .sentinel, .pinned], laidTests := true, laidLooks := .later }
def TaggedBackCardSaid : Prop := Claim7.holds Tryz.pinned (.plain (OpenSpec.ofChange taggedBackSpec)) taggedBackCard

/-- THE SECOND FORM's CARD OF 'midrangelaw03.TaggedDumps'. -/
def taggedDumpsUptoCard : Claim7 := { stood := { row := taggedDumpsUptoRow, standIns := [], harness := (true, "dab75288b01abbba6e724b970728712a273a5a804f09245946268205ec03271d"), looks := true }, kinds := [], alts := [], laidByText := true, laidKinds := [.data, .data, .data, .data, .sentinel, .sentinel, .pinned], laidTests := true, laidLooks := .later }
def TaggedDumpsUptoCardSaid : Prop := Claim7.holds Tryz.pinned (.plain (OpenSpec.upto taggedDumpsSpec)) taggedDumpsUptoCard

/-- THE SECOND FORM's CARD OF 'midrangelaw03.TaggedBack'. -/
def taggedBackUptoCard : Claim7 := { stood := { row := taggedBackUptoRow, standIns := [], harness := (true, "dab75288b01abbba6e724b970728712a273a5a804f09245946268205ec03271d"), looks := true }, kinds := [], alts := [], laidByText := true, laidKinds := [.data, .data, .data, .data, .sentinel, .sentinel, .pinned], laidTests := true, laidLooks := .later }
def TaggedBackUptoCardSaid : Prop := Claim7.holds Tryz.pinned (.plain (OpenSpec.upto taggedBackSpec)) taggedBackUptoCard
end Rows
end Go.Proofs.YtgmpnhfnkhohiaaGreatDoor
