/-
  DERIVED. GIVEN WITH THE SEED: THE CARDS: each row of YtmpglmcjoelciaaGreatDoorRows.lean that lists a variable, with what it lists TIED to the program's text (the seventh form; the later family's looks); each row that meets fmt, with fmt's text TOLD by the authors' own Lean function (tested against real Go, not proved from fmt's source: count such statements apart). THE CARD IS WHAT COUNTS. Prove the row's statement (the work); the ties are given (YtmpglmcjoelciaaGreatDoorTie.lean); close each card by the builder's one call (the guide's Derived/Test/ToyasCard.lean, 'card_holds'). Laid BY PROGRAM, IN A SANDBOX (cutbox-door.mjs). By AI agents, Wed Nov 11 2026. No macro, syntax, notation, axiom, sorry.
-/
import Derived.Test.YtmpglmcjoelciaaGreatDoorRows
import GoSem.ClaimSeven
namespace Go.Proofs.YtmpglmcjoelciaaGreatDoor
namespace Rows

/-- THE TIED CARD OF 'midrangelaw25.DdsWords'. -/
def ddsWordsCard : Claim7 := { stood := { row := ddsWordsRow, standIns := [], harness := (true, "8470e0a86b50cc07e755685173884c839f38d682c1521856bcf08491a532a02b"), looks := true }, kinds := [], alts := [], laidByText := true, laidKinds := [.data, .data, .data, .data, .sentinel, .sentinel, .widerDeep, .pinned], laidTests := true, laidLooks := .later }
def DdsWordsCardSaid : Prop := Claim7.holds Tryz.pinned (.plain (OpenSpec.ofChange ddsWordsSpec)) ddsWordsCard

/-- THE TIED CARD OF 'midrangelaw25.DdsLogicals'. -/
def ddsLogicalsCard : Claim7 := { stood := { row := ddsLogicalsRow, standIns := [], harness := (true, "8470e0a86b50cc07e755685173884c839f38d682c1521856bcf08491a532a02b"), looks := true }, kinds := [], alts := [], laidByText := true, laidKinds := [.data, .data, .data, .data, .sentinel, .sentinel, .widerDeep, .pinned], laidTests := true, laidLooks := .later }
def DdsLogicalsCardSaid : Prop := Claim7.holds Tryz.pinned (.plain (OpenSpec.ofChange ddsLogicalsSpec)) ddsLogicalsCard

/-- THE TIED CARD OF 'midrangelaw25.DdsParses'. -/
def ddsParsesCard : Claim7 := { stood := { row := ddsParsesRow, standIns := [], harness := (true, "8470e0a86b50cc07e755685173884c839f38d682c1521856bcf08491a532a02b"), looks := true }, kinds := [], alts := [], laidByText := true, laidKinds := [.data, .data, .data, .data, .sentinel, .sentinel, .widerDeep, .pinned], laidTests := true, laidLooks := .later }
def DdsParsesCardSaid : Prop := Claim7.holds Tryz.pinned (.plain (OpenSpec.ofChange ddsParsesSpec)) ddsParsesCard

/-- THE TIED CARD OF 'midrangelaw25.DdsLines'. -/
def ddsLinesCard : Claim7 := { stood := { row := ddsLinesRow, standIns := [], harness := (true, "8470e0a86b50cc07e755685173884c839f38d682c1521856bcf08491a532a02b"), looks := true }, kinds := [], alts := [], laidByText := true, laidKinds := [.data, .data, .data, .data, .sentinel, .sentinel, .widerDeep, .pinned], laidTests := true, laidLooks := .later }
def DdsLinesCardSaid : Prop := Claim7.holds Tryz.pinned (.plain (OpenSpec.ofChange ddsLinesSpec)) ddsLinesCard

/-- THE TIED CARD OF 'midrangelaw25.DdsBack'. -/
def ddsBackCard : Claim7 := { stood := { row := ddsBackRow, standIns := [], harness := (true, "8470e0a86b50cc07e755685173884c839f38d682c1521856bcf08491a532a02b"), looks := true }, kinds := [], alts := [], laidByText := true, laidKinds := [.data, .data, .data, .data, .sentinel, .sentinel, .widerDeep, .pinned], laidTests := true, laidLooks := .later }
def DdsBackCardSaid : Prop := Claim7.holds Tryz.pinned (.plain (OpenSpec.ofChange ddsBackSpec)) ddsBackCard

/-- THE TIED CARD OF 'midrangelaw25.DdsTypes'. -/
def ddsTypesCard : Claim7 := { stood := { row := ddsTypesRow, standIns := [], harness := (true, "8470e0a86b50cc07e755685173884c839f38d682c1521856bcf08491a532a02b"), looks := true }, kinds := [], alts := [], laidByText := true, laidKinds := [.data, .data, .data, .data, .sentinel, .sentinel, .widerDeep, .pinned], laidTests := true, laidLooks := .later }
def DdsTypesCardSaid : Prop := Claim7.holds Tryz.pinned (.plain (OpenSpec.ofChange ddsTypesSpec)) ddsTypesCard

/-- THE TIED CARD OF 'midrangelaw25.DdsOneText'. -/
def ddsOneTextCard : Claim7 := { stood := { row := ddsOneTextRow, standIns := [], harness := (true, "8470e0a86b50cc07e755685173884c839f38d682c1521856bcf08491a532a02b"), looks := true }, kinds := [], alts := [], laidByText := true, laidKinds := [.data, .data, .data, .data, .sentinel, .sentinel, .widerDeep, .pinned], laidTests := true, laidLooks := .later }
def DdsOneTextCardSaid : Prop := Claim7.holds Tryz.pinned (.plain (OpenSpec.ofChange ddsOneTextSpec)) ddsOneTextCard

/-- THE TIED CARD OF 'midrangelaw25.DdsOwn'. -/
def ddsOwnCard : Claim7 := { stood := { row := ddsOwnRow, standIns := [], harness := (true, "8470e0a86b50cc07e755685173884c839f38d682c1521856bcf08491a532a02b"), looks := true }, kinds := [], alts := [], laidByText := true, laidKinds := [.data, .data, .data, .data, .sentinel, .sentinel, .widerDeep, .pinned], laidTests := true, laidLooks := .later }
def DdsOwnCardSaid : Prop := Claim7.holds Tryz.pinned (.plain (OpenSpec.ofChange ddsOwnSpec)) ddsOwnCard

/-- THE TIED CARD OF 'midrangelaw25.DdsOver'. -/
def ddsOverCard : Claim7 := { stood := { row := ddsOverRow, standIns := [], harness := (true, "8470e0a86b50cc07e755685173884c839f38d682c1521856bcf08491a532a02b"), looks := true }, kinds := [], alts := [], laidByText := true, laidKinds := [.data, .data, .data, .data, .sentinel, .sentinel, .widerDeep, .pinned], laidTests := true, laidLooks := .later }
def DdsOverCardSaid : Prop := Claim7.holds Tryz.pinned (.plain (OpenSpec.ofChange ddsOverSpec)) ddsOverCard

/-- THE SECOND FORM's CARD OF 'midrangelaw25.DdsWords'. -/
def ddsWordsUptoCard : Claim7 := { stood := { row := ddsWordsUptoRow, standIns := [], harness := (true, "8470e0a86b50cc07e755685173884c839f38d682c1521856bcf08491a532a02b"), looks := true }, kinds := [], alts := [], laidByText := true, laidKinds := [.data, .data, .data, .data, .sentinel, .sentinel, .widerDeep, .pinned], laidTests := true, laidLooks := .later }
def DdsWordsUptoCardSaid : Prop := Claim7.holds Tryz.pinned (.plain (OpenSpec.upto ddsWordsSpec)) ddsWordsUptoCard

/-- THE SECOND FORM's CARD OF 'midrangelaw25.DdsLogicals'. -/
def ddsLogicalsUptoCard : Claim7 := { stood := { row := ddsLogicalsUptoRow, standIns := [], harness := (true, "8470e0a86b50cc07e755685173884c839f38d682c1521856bcf08491a532a02b"), looks := true }, kinds := [], alts := [], laidByText := true, laidKinds := [.data, .data, .data, .data, .sentinel, .sentinel, .widerDeep, .pinned], laidTests := true, laidLooks := .later }
def DdsLogicalsUptoCardSaid : Prop := Claim7.holds Tryz.pinned (.plain (OpenSpec.upto ddsLogicalsSpec)) ddsLogicalsUptoCard

/-- THE SECOND FORM's CARD OF 'midrangelaw25.DdsParses'. -/
def ddsParsesUptoCard : Claim7 := { stood := { row := ddsParsesUptoRow, standIns := [], harness := (true, "8470e0a86b50cc07e755685173884c839f38d682c1521856bcf08491a532a02b"), looks := true }, kinds := [], alts := [], laidByText := true, laidKinds := [.data, .data, .data, .data, .sentinel, .sentinel, .widerDeep, .pinned], laidTests := true, laidLooks := .later }
def DdsParsesUptoCardSaid : Prop := Claim7.holds Tryz.pinned (.plain (OpenSpec.upto ddsParsesSpec)) ddsParsesUptoCard

/-- THE SECOND FORM's CARD OF 'midrangelaw25.DdsLines'. -/
def ddsLinesUptoCard : Claim7 := { stood := { row := ddsLinesUptoRow, standIns := [], harness := (true, "8470e0a86b50cc07e755685173884c839f38d682c1521856bcf08491a532a02b"), looks := true }, kinds := [], alts := [], laidByText := true, laidKinds := [.data, .data, .data, .data, .sentinel, .sentinel, .widerDeep, .pinned], laidTests := true, laidLooks := .later }
def DdsLinesUptoCardSaid : Prop := Claim7.holds Tryz.pinned (.plain (OpenSpec.upto ddsLinesSpec)) ddsLinesUptoCard

/-- THE SECOND FORM's CARD OF 'midrangelaw25.DdsBack'. -/
def ddsBackUptoCard : Claim7 := { stood := { row := ddsBackUptoRow, standIns := [], harness := (true, "8470e0a86b50cc07e755685173884c839f38d682c1521856bcf08491a532a02b"), looks := true }, kinds := [], alts := [], laidByText := true, laidKinds := [.data, .data, .data, .data, .sentinel, .sentinel, .widerDeep, .pinned], laidTests := true, laidLooks := .later }
def DdsBackUptoCardSaid : Prop := Claim7.holds Tryz.pinned (.plain (OpenSpec.upto ddsBackSpec)) ddsBackUptoCard

/-- THE SECOND FORM's CARD OF 'midrangelaw25.DdsTypes'. -/
def ddsTypesUptoCard : Claim7 := { stood := { row := ddsTypesUptoRow, standIns := [], harness := (true, "8470e0a86b50cc07e755685173884c839f38d682c1521856bcf08491a532a02b"), looks := true }, kinds := [], alts := [], laidByText := true, laidKinds := [.data, .data, .data, .data, .sentinel, .sentinel, .widerDeep, .pinned], laidTests := true, laidLooks := .later }
def DdsTypesUptoCardSaid : Prop := Claim7.holds Tryz.pinned (.plain (OpenSpec.upto ddsTypesSpec)) ddsTypesUptoCard

/-- THE SECOND FORM's CARD OF 'midrangelaw25.DdsOneText'. -/
def ddsOneTextUptoCard : Claim7 := { stood := { row := ddsOneTextUptoRow, standIns := [], harness := (true, "8470e0a86b50cc07e755685173884c839f38d682c1521856bcf08491a532a02b"), looks := true }, kinds := [], alts := [], laidByText := true, laidKinds := [.data, .data, .data, .data, .sentinel, .sentinel, .widerDeep, .pinned], laidTests := true, laidLooks := .later }
def DdsOneTextUptoCardSaid : Prop := Claim7.holds Tryz.pinned (.plain (OpenSpec.upto ddsOneTextSpec)) ddsOneTextUptoCard

/-- THE SECOND FORM's CARD OF 'midrangelaw25.DdsOwn'. -/
def ddsOwnUptoCard : Claim7 := { stood := { row := ddsOwnUptoRow, standIns := [], harness := (true, "8470e0a86b50cc07e755685173884c839f38d682c1521856bcf08491a532a02b"), looks := true }, kinds := [], alts := [], laidByText := true, laidKinds := [.data, .data, .data, .data, .sentinel, .sentinel, .widerDeep, .pinned], laidTests := true, laidLooks := .later }
def DdsOwnUptoCardSaid : Prop := Claim7.holds Tryz.pinned (.plain (OpenSpec.upto ddsOwnSpec)) ddsOwnUptoCard

/-- THE SECOND FORM's CARD OF 'midrangelaw25.DdsOver'. -/
def ddsOverUptoCard : Claim7 := { stood := { row := ddsOverUptoRow, standIns := [], harness := (true, "8470e0a86b50cc07e755685173884c839f38d682c1521856bcf08491a532a02b"), looks := true }, kinds := [], alts := [], laidByText := true, laidKinds := [.data, .data, .data, .data, .sentinel, .sentinel, .widerDeep, .pinned], laidTests := true, laidLooks := .later }
def DdsOverUptoCardSaid : Prop := Claim7.holds Tryz.pinned (.plain (OpenSpec.upto ddsOverSpec)) ddsOverUptoCard
end Rows
end Go.Proofs.YtmpglmcjoelciaaGreatDoor
