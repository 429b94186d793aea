/-
  NARROWER THAN 'FOR EVERY INPUT', by the rows' own cells (each row's printed sentence says how): DdsWords: laid · DdsLogicals: laid · DdsParses: laid · DdsLines: laid · DdsBack: laid · DdsTypes: laid · DdsOneText: laid · DdsOwn: laid · DdsOver: laid.
  DERIVED. THE GIVEN ROWS OF THIS SEAT. 9 by the template 'for every input the law returns true; each argument reads behind the call as it read before'; 0 by the template 'total and deterministic' (their statements: YtmpglmcjoelciaaGreatDoorTotals.lean).
  GIVEN WITH THE SEED: the statements are not yours to turn. If you find one false, say at which input.
  Laid BY PROGRAM, IN A SANDBOX (cutbox-rows.mjs): the forced cells as the released guide's own fill.sh prints them over the translation 0ecde27b4fa99f8e… (all of the seat's roots in one cut). By AI agents, Wed Nov 11 2026. No macro, syntax, notation, axiom, sorry.
-/
import Derived.Test.YtmpglmcjoelciaaGreatDoorChecked
import GoSem.PinnedTables
import GoSem.Claim
import GoSem.ClaimJoined
import GoSem.ClaimMapViews
import Derived.JoinedTies
import Derived.KernelRfl
namespace Go.Proofs.YtmpglmcjoelciaaGreatDoor
/- THE CELL 'sum', in the pinned program and in every row, IS THE sha256 OF THE DUMP (.gsa) THAT YtmpglmcjoelciaaGreatDoorProg.lean LOADS. Nothing in Lean hashes anything: it is a label: what it is worth is what the hold of that sum in a sandbox is worth. -/
noncomputable def Tryz.pinned : Pinned := { name := "ytmpglmcjoelciaagreatdoor", sum := "0ecde27b4fa99f8ec5921dc4af4662909822652d353508374f2c9df8b3875615", checked := Tryz.checked }
namespace Rows
def none {H : Type} : Left H := { results := [], args := [] }

/- WHAT THE LISTED PACKAGE-LEVEL VARIABLES READ AS WHEN THE CALL BEGINS. Each datum BY PROGRAM (the guide's laid-datum.mjs) off the statement by which the dump's own 'gosem.cut.vars' lays the variable. In a bare row this is a premise. The card (YtmpglmcjoelciaaGreatDoorCards.lean) ties it to the program's text. -/
def laid_math_bits_deBruijn32tab {H : Type} : DataW H := .agg [.lit (.int .u8 0), .lit (.int .u8 1), .lit (.int .u8 28), .lit (.int .u8 2), .lit (.int .u8 29), .lit (.int .u8 14), .lit (.int .u8 24), .lit (.int .u8 3), .lit (.int .u8 30), .lit (.int .u8 22), .lit (.int .u8 20), .lit (.int .u8 15), .lit (.int .u8 25), .lit (.int .u8 17), .lit (.int .u8 4), .lit (.int .u8 8), .lit (.int .u8 31), .lit (.int .u8 27), .lit (.int .u8 13), .lit (.int .u8 23), .lit (.int .u8 21), .lit (.int .u8 19), .lit (.int .u8 16), .lit (.int .u8 7), .lit (.int .u8 26), .lit (.int .u8 12), .lit (.int .u8 18), .lit (.int .u8 6), .lit (.int .u8 11), .lit (.int .u8 5), .lit (.int .u8 10), .lit (.int .u8 9)]
def laid_math_bits_deBruijn64tab {H : Type} : DataW H := .agg [.lit (.int .u8 0), .lit (.int .u8 1), .lit (.int .u8 56), .lit (.int .u8 2), .lit (.int .u8 57), .lit (.int .u8 49), .lit (.int .u8 28), .lit (.int .u8 3), .lit (.int .u8 61), .lit (.int .u8 58), .lit (.int .u8 42), .lit (.int .u8 50), .lit (.int .u8 38), .lit (.int .u8 29), .lit (.int .u8 17), .lit (.int .u8 4), .lit (.int .u8 62), .lit (.int .u8 47), .lit (.int .u8 59), .lit (.int .u8 36), .lit (.int .u8 45), .lit (.int .u8 43), .lit (.int .u8 51), .lit (.int .u8 22), .lit (.int .u8 53), .lit (.int .u8 39), .lit (.int .u8 33), .lit (.int .u8 30), .lit (.int .u8 24), .lit (.int .u8 18), .lit (.int .u8 12), .lit (.int .u8 5), .lit (.int .u8 63), .lit (.int .u8 55), .lit (.int .u8 48), .lit (.int .u8 27), .lit (.int .u8 60), .lit (.int .u8 41), .lit (.int .u8 37), .lit (.int .u8 16), .lit (.int .u8 46), .lit (.int .u8 35), .lit (.int .u8 44), .lit (.int .u8 21), .lit (.int .u8 52), .lit (.int .u8 32), .lit (.int .u8 23), .lit (.int .u8 11), .lit (.int .u8 54), .lit (.int .u8 26), .lit (.int .u8 40), .lit (.int .u8 15), .lit (.int .u8 34), .lit (.int .u8 20), .lit (.int .u8 31), .lit (.int .u8 10), .lit (.int .u8 25), .lit (.int .u8 14), .lit (.int .u8 19), .lit (.int .u8 9), .lit (.int .u8 13), .lit (.int .u8 8), .lit (.int .u8 7), .lit (.int .u8 6)]
def laid_internal_strconv_uint64pow10 {H : Type} : DataW H := .agg [.lit (.int .u64 1), .lit (.int .u64 10), .lit (.int .u64 100), .lit (.int .u64 1000), .lit (.int .u64 10000), .lit (.int .u64 100000), .lit (.int .u64 1000000), .lit (.int .u64 10000000), .lit (.int .u64 100000000), .lit (.int .u64 1000000000), .lit (.int .u64 10000000000), .lit (.int .u64 100000000000), .lit (.int .u64 1000000000000), .lit (.int .u64 10000000000000), .lit (.int .u64 100000000000000), .lit (.int .u64 1000000000000000), .lit (.int .u64 10000000000000000), .lit (.int .u64 100000000000000000), .lit (.int .u64 1000000000000000000), .lit (.int .u64 10000000000000000000)]
def laid_unicode_utf8_acceptRanges {H : Type} : DataW H := .agg [.agg [.lit (.int .u8 128), .lit (.int .u8 191)], .agg [.lit (.int .u8 160), .lit (.int .u8 191)], .agg [.lit (.int .u8 128), .lit (.int .u8 159)], .agg [.lit (.int .u8 144), .lit (.int .u8 191)], .agg [.lit (.int .u8 128), .lit (.int .u8 143)], .agg [.lit (.int .u8 0), .lit (.int .u8 0)], .agg [.lit (.int .u8 0), .lit (.int .u8 0)], .agg [.lit (.int .u8 0), .lit (.int .u8 0)], .agg [.lit (.int .u8 0), .lit (.int .u8 0)], .agg [.lit (.int .u8 0), .lit (.int .u8 0)], .agg [.lit (.int .u8 0), .lit (.int .u8 0)], .agg [.lit (.int .u8 0), .lit (.int .u8 0)], .agg [.lit (.int .u8 0), .lit (.int .u8 0)], .agg [.lit (.int .u8 0), .lit (.int .u8 0)], .agg [.lit (.int .u8 0), .lit (.int .u8 0)], .agg [.lit (.int .u8 0), .lit (.int .u8 0)]]
def laid_strconv_ErrRange {H : Type} : DataW H := .iface "*errors.errorString" (.ptr (.agg [.lit (.string [118, 97, 108, 117, 101, 32, 111, 117, 116, 32, 111, 102, 32, 114, 97, 110, 103, 101])]))
def laid_strconv_ErrSyntax {H : Type} : DataW H := .iface "*errors.errorString" (.ptr (.agg [.lit (.string [105, 110, 118, 97, 108, 105, 100, 32, 115, 121, 110, 116, 97, 120])]))
def laid_midrange_dds_ops {H : Type} : DataW H := .slice [.lit (.string [69, 81]), .lit (.string [78, 69]), .lit (.string [76, 84]), .lit (.string [76, 69]), .lit (.string [71, 84]), .lit (.string [71, 69])] []
/-- One of Go's own tables, pinned by name: the form's constant. -/
def laid_unicode_utf8_first : DataW Unit := Go.Pinned.utf8First

/-- 'midrangelaw25.DdsWords': WHATEVER THE INPUT: true; the input reads as it did. -/
def ddsWordsSpec : ChangeSpec := { name := "ddsWords", fn := fun _ => fun
  | [d] => { results := [.lit (.bool true)], args := [d] }
  | _ => none }
def ddsWordsRow : OpenClaim := { program := "ytmpglmcjoelciaagreatdoor", sum := "0ecde27b4fa99f8ec5921dc4af4662909822652d353508374f2c9df8b3875615", func := "midrange/midrangelaw25.DdsWords", spec := "ddsWords", inPlace := ["internal/bytealg.IndexByteString", "internal/bytealg.IndexString", "internal/bytealg.CountString", "internal/abi.NoEscape", "internal/bytealg.MakeNoZero"], unfollowed := true, recurses := true, named := ["internal/bytealg.MaxLen", "unicode/utf8.first", "unicode/utf8.acceptRanges", "strconv.ErrSyntax", "strconv.ErrRange", "internal/strconv.uint64pow10", "math/bits.deBruijn32tab", "math/bits.deBruijn64tab", "midrange/dds.ops"], apart := false, laid := [("math/bits.deBruijn32tab", laid_math_bits_deBruijn32tab), ("math/bits.deBruijn64tab", laid_math_bits_deBruijn64tab), ("internal/strconv.uint64pow10", laid_internal_strconv_uint64pow10), ("unicode/utf8.acceptRanges", laid_unicode_utf8_acceptRanges), ("strconv.ErrRange", laid_strconv_ErrRange), ("strconv.ErrSyntax", laid_strconv_ErrSyntax), ("midrange/dds.ops", laid_midrange_dds_ops), ("unicode/utf8.first", laid_unicode_utf8_first)] }
def DdsWordsSaid : Prop := ddsWordsRow.holds Tryz.pinned (OpenSpec.ofChange ddsWordsSpec)

/-- ITS FALSE NEIGHBOUR: 'it returns false'. Refute it at one input. -/
def ddsWordsWrong : ChangeSpec := { name := "ddsWords", fn := fun _ => fun
  | [d] => { results := [.lit (.bool false)], args := [d] }
  | _ => none }
def DdsWordsWrongFalsely : Prop := ddsWordsRow.holds Tryz.pinned (OpenSpec.ofChange ddsWordsWrong)

/-- 'midrangelaw25.DdsLogicals': WHATEVER THE INPUT: true; the input reads as it did. -/
def ddsLogicalsSpec : ChangeSpec := { name := "ddsLogicals", fn := fun _ => fun
  | [d] => { results := [.lit (.bool true)], args := [d] }
  | _ => none }
def ddsLogicalsRow : OpenClaim := { program := "ytmpglmcjoelciaagreatdoor", sum := "0ecde27b4fa99f8ec5921dc4af4662909822652d353508374f2c9df8b3875615", func := "midrange/midrangelaw25.DdsLogicals", spec := "ddsLogicals", inPlace := ["internal/bytealg.IndexByteString", "internal/bytealg.IndexString", "internal/bytealg.CountString", "internal/abi.NoEscape", "internal/bytealg.MakeNoZero"], unfollowed := true, recurses := true, named := ["internal/bytealg.MaxLen", "unicode/utf8.first", "unicode/utf8.acceptRanges", "strconv.ErrSyntax", "strconv.ErrRange", "internal/strconv.uint64pow10", "math/bits.deBruijn32tab", "math/bits.deBruijn64tab", "midrange/dds.ops"], apart := false, laid := [("math/bits.deBruijn32tab", laid_math_bits_deBruijn32tab), ("math/bits.deBruijn64tab", laid_math_bits_deBruijn64tab), ("internal/strconv.uint64pow10", laid_internal_strconv_uint64pow10), ("unicode/utf8.acceptRanges", laid_unicode_utf8_acceptRanges), ("strconv.ErrRange", laid_strconv_ErrRange), ("strconv.ErrSyntax", laid_strconv_ErrSyntax), ("midrange/dds.ops", laid_midrange_dds_ops), ("unicode/utf8.first", laid_unicode_utf8_first)] }
def DdsLogicalsSaid : Prop := ddsLogicalsRow.holds Tryz.pinned (OpenSpec.ofChange ddsLogicalsSpec)

/-- ITS FALSE NEIGHBOUR: 'it returns false'. Refute it at one input. -/
def ddsLogicalsWrong : ChangeSpec := { name := "ddsLogicals", fn := fun _ => fun
  | [d] => { results := [.lit (.bool false)], args := [d] }
  | _ => none }
def DdsLogicalsWrongFalsely : Prop := ddsLogicalsRow.holds Tryz.pinned (OpenSpec.ofChange ddsLogicalsWrong)

/-- 'midrangelaw25.DdsParses': WHATEVER THE INPUT: true; the input reads as it did. -/
def ddsParsesSpec : ChangeSpec := { name := "ddsParses", fn := fun _ => fun
  | [d] => { results := [.lit (.bool true)], args := [d] }
  | _ => none }
def ddsParsesRow : OpenClaim := { program := "ytmpglmcjoelciaagreatdoor", sum := "0ecde27b4fa99f8ec5921dc4af4662909822652d353508374f2c9df8b3875615", func := "midrange/midrangelaw25.DdsParses", spec := "ddsParses", inPlace := ["internal/bytealg.IndexByteString", "internal/bytealg.IndexString", "internal/bytealg.CountString", "internal/abi.NoEscape", "internal/bytealg.MakeNoZero"], unfollowed := true, recurses := true, named := ["internal/bytealg.MaxLen", "unicode/utf8.first", "unicode/utf8.acceptRanges", "strconv.ErrSyntax", "strconv.ErrRange", "internal/strconv.uint64pow10", "math/bits.deBruijn32tab", "math/bits.deBruijn64tab", "midrange/dds.ops"], apart := false, laid := [("math/bits.deBruijn32tab", laid_math_bits_deBruijn32tab), ("math/bits.deBruijn64tab", laid_math_bits_deBruijn64tab), ("internal/strconv.uint64pow10", laid_internal_strconv_uint64pow10), ("unicode/utf8.acceptRanges", laid_unicode_utf8_acceptRanges), ("strconv.ErrRange", laid_strconv_ErrRange), ("strconv.ErrSyntax", laid_strconv_ErrSyntax), ("midrange/dds.ops", laid_midrange_dds_ops), ("unicode/utf8.first", laid_unicode_utf8_first)] }
def DdsParsesSaid : Prop := ddsParsesRow.holds Tryz.pinned (OpenSpec.ofChange ddsParsesSpec)

/-- ITS FALSE NEIGHBOUR: 'it returns false'. Refute it at one input. -/
def ddsParsesWrong : ChangeSpec := { name := "ddsParses", fn := fun _ => fun
  | [d] => { results := [.lit (.bool false)], args := [d] }
  | _ => none }
def DdsParsesWrongFalsely : Prop := ddsParsesRow.holds Tryz.pinned (OpenSpec.ofChange ddsParsesWrong)

/-- 'midrangelaw25.DdsLines': WHATEVER THE INPUT: true; the input reads as it did. -/
def ddsLinesSpec : ChangeSpec := { name := "ddsLines", fn := fun _ => fun
  | [d] => { results := [.lit (.bool true)], args := [d] }
  | _ => none }
def ddsLinesRow : OpenClaim := { program := "ytmpglmcjoelciaagreatdoor", sum := "0ecde27b4fa99f8ec5921dc4af4662909822652d353508374f2c9df8b3875615", func := "midrange/midrangelaw25.DdsLines", spec := "ddsLines", inPlace := ["internal/bytealg.IndexByteString", "internal/bytealg.IndexString", "internal/bytealg.CountString", "internal/abi.NoEscape", "internal/bytealg.MakeNoZero"], unfollowed := true, recurses := true, named := ["internal/bytealg.MaxLen", "unicode/utf8.first", "unicode/utf8.acceptRanges", "strconv.ErrSyntax", "strconv.ErrRange", "internal/strconv.uint64pow10", "math/bits.deBruijn32tab", "math/bits.deBruijn64tab", "midrange/dds.ops"], apart := false, laid := [("math/bits.deBruijn32tab", laid_math_bits_deBruijn32tab), ("math/bits.deBruijn64tab", laid_math_bits_deBruijn64tab), ("internal/strconv.uint64pow10", laid_internal_strconv_uint64pow10), ("unicode/utf8.acceptRanges", laid_unicode_utf8_acceptRanges), ("strconv.ErrRange", laid_strconv_ErrRange), ("strconv.ErrSyntax", laid_strconv_ErrSyntax), ("midrange/dds.ops", laid_midrange_dds_ops), ("unicode/utf8.first", laid_unicode_utf8_first)] }
def DdsLinesSaid : Prop := ddsLinesRow.holds Tryz.pinned (OpenSpec.ofChange ddsLinesSpec)

/-- ITS FALSE NEIGHBOUR: 'it returns false'. Refute it at one input. -/
def ddsLinesWrong : ChangeSpec := { name := "ddsLines", fn := fun _ => fun
  | [d] => { results := [.lit (.bool false)], args := [d] }
  | _ => none }
def DdsLinesWrongFalsely : Prop := ddsLinesRow.holds Tryz.pinned (OpenSpec.ofChange ddsLinesWrong)

/-- 'midrangelaw25.DdsBack': WHATEVER THE INPUT: true; the input reads as it did. -/
def ddsBackSpec : ChangeSpec := { name := "ddsBack", fn := fun _ => fun
  | [d1, d2] => { results := [.lit (.bool true)], args := [d1, d2] }
  | _ => none }
def ddsBackRow : OpenClaim := { program := "ytmpglmcjoelciaagreatdoor", sum := "0ecde27b4fa99f8ec5921dc4af4662909822652d353508374f2c9df8b3875615", func := "midrange/midrangelaw25.DdsBack", spec := "ddsBack", inPlace := ["internal/bytealg.IndexByteString", "internal/bytealg.IndexString", "internal/bytealg.CountString", "internal/abi.NoEscape", "internal/bytealg.MakeNoZero"], unfollowed := true, recurses := true, named := ["internal/bytealg.MaxLen", "unicode/utf8.first", "unicode/utf8.acceptRanges", "strconv.ErrSyntax", "strconv.ErrRange", "internal/strconv.uint64pow10", "math/bits.deBruijn32tab", "math/bits.deBruijn64tab", "midrange/dds.ops"], apart := false, laid := [("math/bits.deBruijn32tab", laid_math_bits_deBruijn32tab), ("math/bits.deBruijn64tab", laid_math_bits_deBruijn64tab), ("internal/strconv.uint64pow10", laid_internal_strconv_uint64pow10), ("unicode/utf8.acceptRanges", laid_unicode_utf8_acceptRanges), ("strconv.ErrRange", laid_strconv_ErrRange), ("strconv.ErrSyntax", laid_strconv_ErrSyntax), ("midrange/dds.ops", laid_midrange_dds_ops), ("unicode/utf8.first", laid_unicode_utf8_first)] }
def DdsBackSaid : Prop := ddsBackRow.holds Tryz.pinned (OpenSpec.ofChange ddsBackSpec)

/-- ITS FALSE NEIGHBOUR: 'it returns false'. Refute it at one input. -/
def ddsBackWrong : ChangeSpec := { name := "ddsBack", fn := fun _ => fun
  | [d1, d2] => { results := [.lit (.bool false)], args := [d1, d2] }
  | _ => none }
def DdsBackWrongFalsely : Prop := ddsBackRow.holds Tryz.pinned (OpenSpec.ofChange ddsBackWrong)

/-- 'midrangelaw25.DdsTypes': WHATEVER THE INPUT: true; the input reads as it did. -/
def ddsTypesSpec : ChangeSpec := { name := "ddsTypes", fn := fun _ => fun
  | [d1, d2] => { results := [.lit (.bool true)], args := [d1, d2] }
  | _ => none }
def ddsTypesRow : OpenClaim := { program := "ytmpglmcjoelciaagreatdoor", sum := "0ecde27b4fa99f8ec5921dc4af4662909822652d353508374f2c9df8b3875615", func := "midrange/midrangelaw25.DdsTypes", spec := "ddsTypes", inPlace := ["internal/bytealg.IndexByteString", "internal/bytealg.IndexString", "internal/bytealg.CountString", "internal/abi.NoEscape", "internal/bytealg.MakeNoZero"], unfollowed := true, recurses := true, named := ["internal/bytealg.MaxLen", "unicode/utf8.first", "unicode/utf8.acceptRanges", "strconv.ErrSyntax", "strconv.ErrRange", "internal/strconv.uint64pow10", "math/bits.deBruijn32tab", "math/bits.deBruijn64tab", "midrange/dds.ops"], apart := false, laid := [("math/bits.deBruijn32tab", laid_math_bits_deBruijn32tab), ("math/bits.deBruijn64tab", laid_math_bits_deBruijn64tab), ("internal/strconv.uint64pow10", laid_internal_strconv_uint64pow10), ("unicode/utf8.acceptRanges", laid_unicode_utf8_acceptRanges), ("strconv.ErrRange", laid_strconv_ErrRange), ("strconv.ErrSyntax", laid_strconv_ErrSyntax), ("midrange/dds.ops", laid_midrange_dds_ops), ("unicode/utf8.first", laid_unicode_utf8_first)] }
def DdsTypesSaid : Prop := ddsTypesRow.holds Tryz.pinned (OpenSpec.ofChange ddsTypesSpec)

/-- ITS FALSE NEIGHBOUR: 'it returns false'. Refute it at one input. -/
def ddsTypesWrong : ChangeSpec := { name := "ddsTypes", fn := fun _ => fun
  | [d1, d2] => { results := [.lit (.bool false)], args := [d1, d2] }
  | _ => none }
def DdsTypesWrongFalsely : Prop := ddsTypesRow.holds Tryz.pinned (OpenSpec.ofChange ddsTypesWrong)

/-- 'midrangelaw25.DdsOneText': WHATEVER THE INPUT: true; the input reads as it did. -/
def ddsOneTextSpec : ChangeSpec := { name := "ddsOneText", fn := fun _ => fun
  | [d1, d2, d3] => { results := [.lit (.bool true)], args := [d1, d2, d3] }
  | _ => none }
def ddsOneTextRow : OpenClaim := { program := "ytmpglmcjoelciaagreatdoor", sum := "0ecde27b4fa99f8ec5921dc4af4662909822652d353508374f2c9df8b3875615", func := "midrange/midrangelaw25.DdsOneText", spec := "ddsOneText", inPlace := ["internal/bytealg.IndexByteString", "internal/bytealg.IndexString", "internal/bytealg.CountString", "internal/abi.NoEscape", "internal/bytealg.MakeNoZero"], unfollowed := true, recurses := true, named := ["internal/bytealg.MaxLen", "unicode/utf8.first", "unicode/utf8.acceptRanges", "strconv.ErrSyntax", "strconv.ErrRange", "internal/strconv.uint64pow10", "math/bits.deBruijn32tab", "math/bits.deBruijn64tab", "midrange/dds.ops"], apart := false, laid := [("math/bits.deBruijn32tab", laid_math_bits_deBruijn32tab), ("math/bits.deBruijn64tab", laid_math_bits_deBruijn64tab), ("internal/strconv.uint64pow10", laid_internal_strconv_uint64pow10), ("unicode/utf8.acceptRanges", laid_unicode_utf8_acceptRanges), ("strconv.ErrRange", laid_strconv_ErrRange), ("strconv.ErrSyntax", laid_strconv_ErrSyntax), ("midrange/dds.ops", laid_midrange_dds_ops), ("unicode/utf8.first", laid_unicode_utf8_first)] }
def DdsOneTextSaid : Prop := ddsOneTextRow.holds Tryz.pinned (OpenSpec.ofChange ddsOneTextSpec)

/-- ITS FALSE NEIGHBOUR: 'it returns false'. Refute it at one input. -/
def ddsOneTextWrong : ChangeSpec := { name := "ddsOneText", fn := fun _ => fun
  | [d1, d2, d3] => { results := [.lit (.bool false)], args := [d1, d2, d3] }
  | _ => none }
def DdsOneTextWrongFalsely : Prop := ddsOneTextRow.holds Tryz.pinned (OpenSpec.ofChange ddsOneTextWrong)

/-- 'midrangelaw25.DdsOwn': WHATEVER THE INPUT: true; the input reads as it did. -/
def ddsOwnSpec : ChangeSpec := { name := "ddsOwn", fn := fun _ => fun
  | [d1, d2, d3] => { results := [.lit (.bool true)], args := [d1, d2, d3] }
  | _ => none }
def ddsOwnRow : OpenClaim := { program := "ytmpglmcjoelciaagreatdoor", sum := "0ecde27b4fa99f8ec5921dc4af4662909822652d353508374f2c9df8b3875615", func := "midrange/midrangelaw25.DdsOwn", spec := "ddsOwn", inPlace := ["internal/bytealg.IndexByteString", "internal/bytealg.IndexString", "internal/bytealg.CountString", "internal/abi.NoEscape", "internal/bytealg.MakeNoZero"], unfollowed := true, recurses := true, named := ["internal/bytealg.MaxLen", "unicode/utf8.first", "unicode/utf8.acceptRanges", "strconv.ErrSyntax", "strconv.ErrRange", "internal/strconv.uint64pow10", "math/bits.deBruijn32tab", "math/bits.deBruijn64tab", "midrange/dds.ops"], apart := false, laid := [("math/bits.deBruijn32tab", laid_math_bits_deBruijn32tab), ("math/bits.deBruijn64tab", laid_math_bits_deBruijn64tab), ("internal/strconv.uint64pow10", laid_internal_strconv_uint64pow10), ("unicode/utf8.acceptRanges", laid_unicode_utf8_acceptRanges), ("strconv.ErrRange", laid_strconv_ErrRange), ("strconv.ErrSyntax", laid_strconv_ErrSyntax), ("midrange/dds.ops", laid_midrange_dds_ops), ("unicode/utf8.first", laid_unicode_utf8_first)] }
def DdsOwnSaid : Prop := ddsOwnRow.holds Tryz.pinned (OpenSpec.ofChange ddsOwnSpec)

/-- ITS FALSE NEIGHBOUR: 'it returns false'. Refute it at one input. -/
def ddsOwnWrong : ChangeSpec := { name := "ddsOwn", fn := fun _ => fun
  | [d1, d2, d3] => { results := [.lit (.bool false)], args := [d1, d2, d3] }
  | _ => none }
def DdsOwnWrongFalsely : Prop := ddsOwnRow.holds Tryz.pinned (OpenSpec.ofChange ddsOwnWrong)

/-- 'midrangelaw25.DdsOver': WHATEVER THE INPUT: true; the input reads as it did. -/
def ddsOverSpec : ChangeSpec := { name := "ddsOver", fn := fun _ => fun
  | [d1, d2] => { results := [.lit (.bool true)], args := [d1, d2] }
  | _ => none }
def ddsOverRow : OpenClaim := { program := "ytmpglmcjoelciaagreatdoor", sum := "0ecde27b4fa99f8ec5921dc4af4662909822652d353508374f2c9df8b3875615", func := "midrange/midrangelaw25.DdsOver", spec := "ddsOver", inPlace := ["internal/bytealg.IndexByteString", "internal/bytealg.IndexString", "internal/bytealg.CountString", "internal/abi.NoEscape", "internal/bytealg.MakeNoZero"], unfollowed := true, recurses := true, named := ["internal/bytealg.MaxLen", "unicode/utf8.first", "unicode/utf8.acceptRanges", "strconv.ErrSyntax", "strconv.ErrRange", "internal/strconv.uint64pow10", "math/bits.deBruijn32tab", "math/bits.deBruijn64tab", "midrange/dds.ops"], apart := false, laid := [("math/bits.deBruijn32tab", laid_math_bits_deBruijn32tab), ("math/bits.deBruijn64tab", laid_math_bits_deBruijn64tab), ("internal/strconv.uint64pow10", laid_internal_strconv_uint64pow10), ("unicode/utf8.acceptRanges", laid_unicode_utf8_acceptRanges), ("strconv.ErrRange", laid_strconv_ErrRange), ("strconv.ErrSyntax", laid_strconv_ErrSyntax), ("midrange/dds.ops", laid_midrange_dds_ops), ("unicode/utf8.first", laid_unicode_utf8_first)] }
def DdsOverSaid : Prop := ddsOverRow.holds Tryz.pinned (OpenSpec.ofChange ddsOverSpec)

/-- ITS FALSE NEIGHBOUR: 'it returns false'. Refute it at one input. -/
def ddsOverWrong : ChangeSpec := { name := "ddsOver", fn := fun _ => fun
  | [d1, d2] => { results := [.lit (.bool false)], args := [d1, d2] }
  | _ => none }
def DdsOverWrongFalsely : Prop := ddsOverRow.holds Tryz.pinned (OpenSpec.ofChange ddsOverWrong)

/- THE SECOND FORM. 'bulk': how many values and letters a reading holds, each counted each time it is reached (what is shared counts as often as it is met; a slice's spare places count too). A statement '..UptoSaid' is the law's where the arguments, and the package variables that the reading takes, are together of bulk at most 1048576: NARROWER than '..Said'. Prove '..Said' where nothing that the law and all that it calls make is longer than what came in: it says more and counts as full. Else prove '..UptoSaid'. A law counts once. -/
mutual
def uptoBulk {H : Type} : DataW H → Nat
  | .lit (.string bytes) => bytes.length + 1
  | .lit _ => 1
  | .nil => 1
  | .ptr d => uptoBulk d + 1
  | .slice elems spare => uptoBulkAll elems + uptoBulkAll spare + 1
  | .agg parts => uptoBulkAll parts + 1
  | .iface _ d => uptoBulk d + 1
  | .map entries => uptoBulkEntries entries + 1
  | .held _ => 1
def uptoBulkAll {H : Type} : List (DataW H) → Nat
  | [] => 0
  | d :: r => uptoBulk d + uptoBulkAll r
def uptoBulkEntries {H : Type} : List (Lit × DataW H) → Nat
  | [] => 0
  | x :: r => uptoBulkEntry x + uptoBulkEntries r
def uptoBulkEntry {H : Type} : Lit × DataW H → Nat
  | (.string bytes, d) => bytes.length + uptoBulk d + 1
  | (_, d) => uptoBulk d + 1
 end
def uptoSmall : (H : Type) → List (DataW H) → Bool := fun _ ds => decide (uptoBulkAll ds ≤ 1048576)
def OpenSpec.upto (s : _root_.Go.ChangeSpec) : _root_.Go.OpenSpec := { _root_.Go.OpenSpec.ofChange s with cond := some uptoSmall }

/-- 'midrangelaw25.DdsWords', WHERE WHAT IT READS IS OF BULK AT MOST 1048576: true; the input reads as it did. -/
def ddsWordsUptoRow : OpenClaim := { program := "ytmpglmcjoelciaagreatdoor", sum := "0ecde27b4fa99f8ec5921dc4af4662909822652d353508374f2c9df8b3875615", func := "midrange/midrangelaw25.DdsWords", spec := "ddsWords", inPlace := ["internal/bytealg.IndexByteString", "internal/bytealg.IndexString", "internal/bytealg.CountString", "internal/abi.NoEscape", "internal/bytealg.MakeNoZero"], unfollowed := true, recurses := true, named := ["internal/bytealg.MaxLen", "unicode/utf8.first", "unicode/utf8.acceptRanges", "strconv.ErrSyntax", "strconv.ErrRange", "internal/strconv.uint64pow10", "math/bits.deBruijn32tab", "math/bits.deBruijn64tab", "midrange/dds.ops"], apart := false, laid := [("math/bits.deBruijn32tab", laid_math_bits_deBruijn32tab), ("math/bits.deBruijn64tab", laid_math_bits_deBruijn64tab), ("internal/strconv.uint64pow10", laid_internal_strconv_uint64pow10), ("unicode/utf8.acceptRanges", laid_unicode_utf8_acceptRanges), ("strconv.ErrRange", laid_strconv_ErrRange), ("strconv.ErrSyntax", laid_strconv_ErrSyntax), ("midrange/dds.ops", laid_midrange_dds_ops), ("unicode/utf8.first", laid_unicode_utf8_first)], narrowed := true }
def DdsWordsUptoSaid : Prop := ddsWordsUptoRow.holds Tryz.pinned (OpenSpec.upto ddsWordsSpec)

/-- 'midrangelaw25.DdsLogicals', WHERE WHAT IT READS IS OF BULK AT MOST 1048576: true; the input reads as it did. -/
def ddsLogicalsUptoRow : OpenClaim := { program := "ytmpglmcjoelciaagreatdoor", sum := "0ecde27b4fa99f8ec5921dc4af4662909822652d353508374f2c9df8b3875615", func := "midrange/midrangelaw25.DdsLogicals", spec := "ddsLogicals", inPlace := ["internal/bytealg.IndexByteString", "internal/bytealg.IndexString", "internal/bytealg.CountString", "internal/abi.NoEscape", "internal/bytealg.MakeNoZero"], unfollowed := true, recurses := true, named := ["internal/bytealg.MaxLen", "unicode/utf8.first", "unicode/utf8.acceptRanges", "strconv.ErrSyntax", "strconv.ErrRange", "internal/strconv.uint64pow10", "math/bits.deBruijn32tab", "math/bits.deBruijn64tab", "midrange/dds.ops"], apart := false, laid := [("math/bits.deBruijn32tab", laid_math_bits_deBruijn32tab), ("math/bits.deBruijn64tab", laid_math_bits_deBruijn64tab), ("internal/strconv.uint64pow10", laid_internal_strconv_uint64pow10), ("unicode/utf8.acceptRanges", laid_unicode_utf8_acceptRanges), ("strconv.ErrRange", laid_strconv_ErrRange), ("strconv.ErrSyntax", laid_strconv_ErrSyntax), ("midrange/dds.ops", laid_midrange_dds_ops), ("unicode/utf8.first", laid_unicode_utf8_first)], narrowed := true }
def DdsLogicalsUptoSaid : Prop := ddsLogicalsUptoRow.holds Tryz.pinned (OpenSpec.upto ddsLogicalsSpec)

/-- 'midrangelaw25.DdsParses', WHERE WHAT IT READS IS OF BULK AT MOST 1048576: true; the input reads as it did. -/
def ddsParsesUptoRow : OpenClaim := { program := "ytmpglmcjoelciaagreatdoor", sum := "0ecde27b4fa99f8ec5921dc4af4662909822652d353508374f2c9df8b3875615", func := "midrange/midrangelaw25.DdsParses", spec := "ddsParses", inPlace := ["internal/bytealg.IndexByteString", "internal/bytealg.IndexString", "internal/bytealg.CountString", "internal/abi.NoEscape", "internal/bytealg.MakeNoZero"], unfollowed := true, recurses := true, named := ["internal/bytealg.MaxLen", "unicode/utf8.first", "unicode/utf8.acceptRanges", "strconv.ErrSyntax", "strconv.ErrRange", "internal/strconv.uint64pow10", "math/bits.deBruijn32tab", "math/bits.deBruijn64tab", "midrange/dds.ops"], apart := false, laid := [("math/bits.deBruijn32tab", laid_math_bits_deBruijn32tab), ("math/bits.deBruijn64tab", laid_math_bits_deBruijn64tab), ("internal/strconv.uint64pow10", laid_internal_strconv_uint64pow10), ("unicode/utf8.acceptRanges", laid_unicode_utf8_acceptRanges), ("strconv.ErrRange", laid_strconv_ErrRange), ("strconv.ErrSyntax", laid_strconv_ErrSyntax), ("midrange/dds.ops", laid_midrange_dds_ops), ("unicode/utf8.first", laid_unicode_utf8_first)], narrowed := true }
def DdsParsesUptoSaid : Prop := ddsParsesUptoRow.holds Tryz.pinned (OpenSpec.upto ddsParsesSpec)

/-- 'midrangelaw25.DdsLines', WHERE WHAT IT READS IS OF BULK AT MOST 1048576: true; the input reads as it did. -/
def ddsLinesUptoRow : OpenClaim := { program := "ytmpglmcjoelciaagreatdoor", sum := "0ecde27b4fa99f8ec5921dc4af4662909822652d353508374f2c9df8b3875615", func := "midrange/midrangelaw25.DdsLines", spec := "ddsLines", inPlace := ["internal/bytealg.IndexByteString", "internal/bytealg.IndexString", "internal/bytealg.CountString", "internal/abi.NoEscape", "internal/bytealg.MakeNoZero"], unfollowed := true, recurses := true, named := ["internal/bytealg.MaxLen", "unicode/utf8.first", "unicode/utf8.acceptRanges", "strconv.ErrSyntax", "strconv.ErrRange", "internal/strconv.uint64pow10", "math/bits.deBruijn32tab", "math/bits.deBruijn64tab", "midrange/dds.ops"], apart := false, laid := [("math/bits.deBruijn32tab", laid_math_bits_deBruijn32tab), ("math/bits.deBruijn64tab", laid_math_bits_deBruijn64tab), ("internal/strconv.uint64pow10", laid_internal_strconv_uint64pow10), ("unicode/utf8.acceptRanges", laid_unicode_utf8_acceptRanges), ("strconv.ErrRange", laid_strconv_ErrRange), ("strconv.ErrSyntax", laid_strconv_ErrSyntax), ("midrange/dds.ops", laid_midrange_dds_ops), ("unicode/utf8.first", laid_unicode_utf8_first)], narrowed := true }
def DdsLinesUptoSaid : Prop := ddsLinesUptoRow.holds Tryz.pinned (OpenSpec.upto ddsLinesSpec)

/-- 'midrangelaw25.DdsBack', WHERE WHAT IT READS IS OF BULK AT MOST 1048576: true; the input reads as it did. -/
def ddsBackUptoRow : OpenClaim := { program := "ytmpglmcjoelciaagreatdoor", sum := "0ecde27b4fa99f8ec5921dc4af4662909822652d353508374f2c9df8b3875615", func := "midrange/midrangelaw25.DdsBack", spec := "ddsBack", inPlace := ["internal/bytealg.IndexByteString", "internal/bytealg.IndexString", "internal/bytealg.CountString", "internal/abi.NoEscape", "internal/bytealg.MakeNoZero"], unfollowed := true, recurses := true, named := ["internal/bytealg.MaxLen", "unicode/utf8.first", "unicode/utf8.acceptRanges", "strconv.ErrSyntax", "strconv.ErrRange", "internal/strconv.uint64pow10", "math/bits.deBruijn32tab", "math/bits.deBruijn64tab", "midrange/dds.ops"], apart := false, laid := [("math/bits.deBruijn32tab", laid_math_bits_deBruijn32tab), ("math/bits.deBruijn64tab", laid_math_bits_deBruijn64tab), ("internal/strconv.uint64pow10", laid_internal_strconv_uint64pow10), ("unicode/utf8.acceptRanges", laid_unicode_utf8_acceptRanges), ("strconv.ErrRange", laid_strconv_ErrRange), ("strconv.ErrSyntax", laid_strconv_ErrSyntax), ("midrange/dds.ops", laid_midrange_dds_ops), ("unicode/utf8.first", laid_unicode_utf8_first)], narrowed := true }
def DdsBackUptoSaid : Prop := ddsBackUptoRow.holds Tryz.pinned (OpenSpec.upto ddsBackSpec)

/-- 'midrangelaw25.DdsTypes', WHERE WHAT IT READS IS OF BULK AT MOST 1048576: true; the input reads as it did. -/
def ddsTypesUptoRow : OpenClaim := { program := "ytmpglmcjoelciaagreatdoor", sum := "0ecde27b4fa99f8ec5921dc4af4662909822652d353508374f2c9df8b3875615", func := "midrange/midrangelaw25.DdsTypes", spec := "ddsTypes", inPlace := ["internal/bytealg.IndexByteString", "internal/bytealg.IndexString", "internal/bytealg.CountString", "internal/abi.NoEscape", "internal/bytealg.MakeNoZero"], unfollowed := true, recurses := true, named := ["internal/bytealg.MaxLen", "unicode/utf8.first", "unicode/utf8.acceptRanges", "strconv.ErrSyntax", "strconv.ErrRange", "internal/strconv.uint64pow10", "math/bits.deBruijn32tab", "math/bits.deBruijn64tab", "midrange/dds.ops"], apart := false, laid := [("math/bits.deBruijn32tab", laid_math_bits_deBruijn32tab), ("math/bits.deBruijn64tab", laid_math_bits_deBruijn64tab), ("internal/strconv.uint64pow10", laid_internal_strconv_uint64pow10), ("unicode/utf8.acceptRanges", laid_unicode_utf8_acceptRanges), ("strconv.ErrRange", laid_strconv_ErrRange), ("strconv.ErrSyntax", laid_strconv_ErrSyntax), ("midrange/dds.ops", laid_midrange_dds_ops), ("unicode/utf8.first", laid_unicode_utf8_first)], narrowed := true }
def DdsTypesUptoSaid : Prop := ddsTypesUptoRow.holds Tryz.pinned (OpenSpec.upto ddsTypesSpec)

/-- 'midrangelaw25.DdsOneText', WHERE WHAT IT READS IS OF BULK AT MOST 1048576: true; the input reads as it did. -/
def ddsOneTextUptoRow : OpenClaim := { program := "ytmpglmcjoelciaagreatdoor", sum := "0ecde27b4fa99f8ec5921dc4af4662909822652d353508374f2c9df8b3875615", func := "midrange/midrangelaw25.DdsOneText", spec := "ddsOneText", inPlace := ["internal/bytealg.IndexByteString", "internal/bytealg.IndexString", "internal/bytealg.CountString", "internal/abi.NoEscape", "internal/bytealg.MakeNoZero"], unfollowed := true, recurses := true, named := ["internal/bytealg.MaxLen", "unicode/utf8.first", "unicode/utf8.acceptRanges", "strconv.ErrSyntax", "strconv.ErrRange", "internal/strconv.uint64pow10", "math/bits.deBruijn32tab", "math/bits.deBruijn64tab", "midrange/dds.ops"], apart := false, laid := [("math/bits.deBruijn32tab", laid_math_bits_deBruijn32tab), ("math/bits.deBruijn64tab", laid_math_bits_deBruijn64tab), ("internal/strconv.uint64pow10", laid_internal_strconv_uint64pow10), ("unicode/utf8.acceptRanges", laid_unicode_utf8_acceptRanges), ("strconv.ErrRange", laid_strconv_ErrRange), ("strconv.ErrSyntax", laid_strconv_ErrSyntax), ("midrange/dds.ops", laid_midrange_dds_ops), ("unicode/utf8.first", laid_unicode_utf8_first)], narrowed := true }
def DdsOneTextUptoSaid : Prop := ddsOneTextUptoRow.holds Tryz.pinned (OpenSpec.upto ddsOneTextSpec)

/-- 'midrangelaw25.DdsOwn', WHERE WHAT IT READS IS OF BULK AT MOST 1048576: true; the input reads as it did. -/
def ddsOwnUptoRow : OpenClaim := { program := "ytmpglmcjoelciaagreatdoor", sum := "0ecde27b4fa99f8ec5921dc4af4662909822652d353508374f2c9df8b3875615", func := "midrange/midrangelaw25.DdsOwn", spec := "ddsOwn", inPlace := ["internal/bytealg.IndexByteString", "internal/bytealg.IndexString", "internal/bytealg.CountString", "internal/abi.NoEscape", "internal/bytealg.MakeNoZero"], unfollowed := true, recurses := true, named := ["internal/bytealg.MaxLen", "unicode/utf8.first", "unicode/utf8.acceptRanges", "strconv.ErrSyntax", "strconv.ErrRange", "internal/strconv.uint64pow10", "math/bits.deBruijn32tab", "math/bits.deBruijn64tab", "midrange/dds.ops"], apart := false, laid := [("math/bits.deBruijn32tab", laid_math_bits_deBruijn32tab), ("math/bits.deBruijn64tab", laid_math_bits_deBruijn64tab), ("internal/strconv.uint64pow10", laid_internal_strconv_uint64pow10), ("unicode/utf8.acceptRanges", laid_unicode_utf8_acceptRanges), ("strconv.ErrRange", laid_strconv_ErrRange), ("strconv.ErrSyntax", laid_strconv_ErrSyntax), ("midrange/dds.ops", laid_midrange_dds_ops), ("unicode/utf8.first", laid_unicode_utf8_first)], narrowed := true }
def DdsOwnUptoSaid : Prop := ddsOwnUptoRow.holds Tryz.pinned (OpenSpec.upto ddsOwnSpec)

/-- 'midrangelaw25.DdsOver', WHERE WHAT IT READS IS OF BULK AT MOST 1048576: true; the input reads as it did. -/
def ddsOverUptoRow : OpenClaim := { program := "ytmpglmcjoelciaagreatdoor", sum := "0ecde27b4fa99f8ec5921dc4af4662909822652d353508374f2c9df8b3875615", func := "midrange/midrangelaw25.DdsOver", spec := "ddsOver", inPlace := ["internal/bytealg.IndexByteString", "internal/bytealg.IndexString", "internal/bytealg.CountString", "internal/abi.NoEscape", "internal/bytealg.MakeNoZero"], unfollowed := true, recurses := true, named := ["internal/bytealg.MaxLen", "unicode/utf8.first", "unicode/utf8.acceptRanges", "strconv.ErrSyntax", "strconv.ErrRange", "internal/strconv.uint64pow10", "math/bits.deBruijn32tab", "math/bits.deBruijn64tab", "midrange/dds.ops"], apart := false, laid := [("math/bits.deBruijn32tab", laid_math_bits_deBruijn32tab), ("math/bits.deBruijn64tab", laid_math_bits_deBruijn64tab), ("internal/strconv.uint64pow10", laid_internal_strconv_uint64pow10), ("unicode/utf8.acceptRanges", laid_unicode_utf8_acceptRanges), ("strconv.ErrRange", laid_strconv_ErrRange), ("strconv.ErrSyntax", laid_strconv_ErrSyntax), ("midrange/dds.ops", laid_midrange_dds_ops), ("unicode/utf8.first", laid_unicode_utf8_first)], narrowed := true }
def DdsOverUptoSaid : Prop := ddsOverUptoRow.holds Tryz.pinned (OpenSpec.upto ddsOverSpec)

end Rows
end Go.Proofs.YtmpglmcjoelciaaGreatDoor
