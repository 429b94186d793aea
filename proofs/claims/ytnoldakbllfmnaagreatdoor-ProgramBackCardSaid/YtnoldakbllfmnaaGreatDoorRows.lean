/-
  NARROWER THAN 'FOR EVERY INPUT', by the rows' own cells (each row's printed sentence says how): ProgramChecks: laid · ProgramTexts: laid · ProgramParses: laid · ProgramBack: laid · ProgramUses: laid · ProgramStores: laid · ProgramApart: laid · ProgramFlows: laid · ProgramClosed: laid.
  DERIVED. THE GIVEN ROWS OF THIS SEAT. 9 by the template 'for every input the law returns true; each argument reads behind the call as it read before'; 0 by the template 'total and deterministic' (their statements: YtnoldakbllfmnaaGreatDoorTotals.lean).
  GIVEN WITH THE SEED: the statements are not yours to turn. If you find one false, say at which input.
  Laid BY PROGRAM, IN A SANDBOX (cutbox-rows.mjs): the forced cells as the released guide's own fill.sh prints them over the translation 0ce2004cbcfa8b3f… (all of the seat's roots in one cut). By AI agents, Wed Nov 11 2026. No macro, syntax, notation, axiom, sorry.
-/
import Derived.Test.YtnoldakbllfmnaaGreatDoorChecked
import GoSem.PinnedTables
import GoSem.Claim
import GoSem.ClaimJoined
import GoSem.ClaimMapViews
import Derived.JoinedTies
import Derived.KernelRfl
namespace Go.Proofs.YtnoldakbllfmnaaGreatDoor
/- THE CELL 'sum', in the pinned program and in every row, IS THE sha256 OF THE DUMP (.gsa) THAT YtnoldakbllfmnaaGreatDoorProg.lean LOADS. Nothing in Lean hashes anything: it is a label: what it is worth is what the hold of that sum in a sandbox is worth. -/
noncomputable def Tryz.pinned : Pinned := { name := "ytnoldakbllfmnaagreatdoor", sum := "0ce2004cbcfa8b3f8169f531b54333d0624208372e1e874e6aa9f418f80707f7", checked := Tryz.checked }
namespace Rows
def none {H : Type} : Left H := { results := [], args := [] }

/- WHAT THE LISTED PACKAGE-LEVEL VARIABLES READ AS WHEN THE CALL BEGINS. Each datum BY PROGRAM (the guide's laid-datum.mjs) off the statement by which the dump's own 'gosem.cut.vars' lays the variable. In a bare row this is a premise. The card (YtnoldakbllfmnaaGreatDoorCards.lean) ties it to the program's text. -/
def laid_math_bits_deBruijn32tab {H : Type} : DataW H := .agg [.lit (.int .u8 0), .lit (.int .u8 1), .lit (.int .u8 28), .lit (.int .u8 2), .lit (.int .u8 29), .lit (.int .u8 14), .lit (.int .u8 24), .lit (.int .u8 3), .lit (.int .u8 30), .lit (.int .u8 22), .lit (.int .u8 20), .lit (.int .u8 15), .lit (.int .u8 25), .lit (.int .u8 17), .lit (.int .u8 4), .lit (.int .u8 8), .lit (.int .u8 31), .lit (.int .u8 27), .lit (.int .u8 13), .lit (.int .u8 23), .lit (.int .u8 21), .lit (.int .u8 19), .lit (.int .u8 16), .lit (.int .u8 7), .lit (.int .u8 26), .lit (.int .u8 12), .lit (.int .u8 18), .lit (.int .u8 6), .lit (.int .u8 11), .lit (.int .u8 5), .lit (.int .u8 10), .lit (.int .u8 9)]
def laid_math_bits_deBruijn64tab {H : Type} : DataW H := .agg [.lit (.int .u8 0), .lit (.int .u8 1), .lit (.int .u8 56), .lit (.int .u8 2), .lit (.int .u8 57), .lit (.int .u8 49), .lit (.int .u8 28), .lit (.int .u8 3), .lit (.int .u8 61), .lit (.int .u8 58), .lit (.int .u8 42), .lit (.int .u8 50), .lit (.int .u8 38), .lit (.int .u8 29), .lit (.int .u8 17), .lit (.int .u8 4), .lit (.int .u8 62), .lit (.int .u8 47), .lit (.int .u8 59), .lit (.int .u8 36), .lit (.int .u8 45), .lit (.int .u8 43), .lit (.int .u8 51), .lit (.int .u8 22), .lit (.int .u8 53), .lit (.int .u8 39), .lit (.int .u8 33), .lit (.int .u8 30), .lit (.int .u8 24), .lit (.int .u8 18), .lit (.int .u8 12), .lit (.int .u8 5), .lit (.int .u8 63), .lit (.int .u8 55), .lit (.int .u8 48), .lit (.int .u8 27), .lit (.int .u8 60), .lit (.int .u8 41), .lit (.int .u8 37), .lit (.int .u8 16), .lit (.int .u8 46), .lit (.int .u8 35), .lit (.int .u8 44), .lit (.int .u8 21), .lit (.int .u8 52), .lit (.int .u8 32), .lit (.int .u8 23), .lit (.int .u8 11), .lit (.int .u8 54), .lit (.int .u8 26), .lit (.int .u8 40), .lit (.int .u8 15), .lit (.int .u8 34), .lit (.int .u8 20), .lit (.int .u8 31), .lit (.int .u8 10), .lit (.int .u8 25), .lit (.int .u8 14), .lit (.int .u8 19), .lit (.int .u8 9), .lit (.int .u8 13), .lit (.int .u8 8), .lit (.int .u8 7), .lit (.int .u8 6)]
def laid_internal_strconv_uint64pow10 {H : Type} : DataW H := .agg [.lit (.int .u64 1), .lit (.int .u64 10), .lit (.int .u64 100), .lit (.int .u64 1000), .lit (.int .u64 10000), .lit (.int .u64 100000), .lit (.int .u64 1000000), .lit (.int .u64 10000000), .lit (.int .u64 100000000), .lit (.int .u64 1000000000), .lit (.int .u64 10000000000), .lit (.int .u64 100000000000), .lit (.int .u64 1000000000000), .lit (.int .u64 10000000000000), .lit (.int .u64 100000000000000), .lit (.int .u64 1000000000000000), .lit (.int .u64 10000000000000000), .lit (.int .u64 100000000000000000), .lit (.int .u64 1000000000000000000), .lit (.int .u64 10000000000000000000)]
def laid_unicode_utf8_acceptRanges {H : Type} : DataW H := .agg [.agg [.lit (.int .u8 128), .lit (.int .u8 191)], .agg [.lit (.int .u8 160), .lit (.int .u8 191)], .agg [.lit (.int .u8 128), .lit (.int .u8 159)], .agg [.lit (.int .u8 144), .lit (.int .u8 191)], .agg [.lit (.int .u8 128), .lit (.int .u8 143)], .agg [.lit (.int .u8 0), .lit (.int .u8 0)], .agg [.lit (.int .u8 0), .lit (.int .u8 0)], .agg [.lit (.int .u8 0), .lit (.int .u8 0)], .agg [.lit (.int .u8 0), .lit (.int .u8 0)], .agg [.lit (.int .u8 0), .lit (.int .u8 0)], .agg [.lit (.int .u8 0), .lit (.int .u8 0)], .agg [.lit (.int .u8 0), .lit (.int .u8 0)], .agg [.lit (.int .u8 0), .lit (.int .u8 0)], .agg [.lit (.int .u8 0), .lit (.int .u8 0)], .agg [.lit (.int .u8 0), .lit (.int .u8 0)], .agg [.lit (.int .u8 0), .lit (.int .u8 0)]]
def laid_strconv_ErrRange {H : Type} : DataW H := .iface "*errors.errorString" (.ptr (.agg [.lit (.string [118, 97, 108, 117, 101, 32, 111, 117, 116, 32, 111, 102, 32, 114, 97, 110, 103, 101])]))
def laid_strconv_ErrSyntax {H : Type} : DataW H := .iface "*errors.errorString" (.ptr (.agg [.lit (.string [105, 110, 118, 97, 108, 105, 100, 32, 115, 121, 110, 116, 97, 120])]))
def laid_midrange_program_operations {H : Type} : DataW H := .agg [.slice [.lit (.int .i64 0), .lit (.int .i64 4)] [], .slice [.lit (.int .i64 2), .lit (.int .i64 3)] [], .slice [.lit (.int .i64 2), .lit (.int .i64 3), .lit (.int .i64 3)] [], .slice [.lit (.int .i64 2), .lit (.int .i64 3), .lit (.int .i64 3)] [], .slice [.lit (.int .i64 2), .lit (.int .i64 3), .lit (.int .i64 3)] [], .slice [.lit (.int .i64 2), .lit (.int .i64 3), .lit (.int .i64 3)] [], .slice [.lit (.int .i64 2), .lit (.int .i64 3), .lit (.int .i64 3)] [], .slice [.lit (.int .i64 1), .lit (.int .i64 4), .lit (.int .i64 6)] [], .slice [.lit (.int .i64 1), .lit (.int .i64 4), .lit (.int .i64 6)] [], .slice [.lit (.int .i64 6)] [], .slice [.lit (.int .i64 5), .lit (.int .i64 0)] [], .slice [.lit (.int .i64 5), .lit (.int .i64 5)] [], .slice [.lit (.int .i64 5), .lit (.int .i64 3)] [], .slice [.lit (.int .i64 6)] [], .slice [] [], .slice [.lit (.int .i64 3)] [], .slice [.lit (.int .i64 2)] [], .slice [.lit (.int .i64 1)] [], .slice [] []]
def laid_midrange_program_names {H : Type} : DataW H := .agg [.lit (.string [77, 79, 86, 69]), .lit (.string [77, 79, 86, 69, 72]), .lit (.string [65, 68, 68]), .lit (.string [83, 85, 66]), .lit (.string [77, 85, 76]), .lit (.string [68, 73, 86]), .lit (.string [82, 69, 77]), .lit (.string [73, 70, 69, 81]), .lit (.string [73, 70, 76, 84]), .lit (.string [71, 79, 84, 79]), .lit (.string [65, 68, 68, 82]), .lit (.string [77, 79, 86, 69, 80]), .lit (.string [65, 68, 86, 65, 78, 67, 69]), .lit (.string [67, 65, 76, 76]), .lit (.string [82, 69, 84, 85, 82, 78]), .lit (.string [83, 73, 71, 78, 65, 76]), .lit (.string [69, 88, 67, 69, 80, 84, 73, 79, 78]), .lit (.string [80, 82, 73, 78, 84]), .lit (.string [69, 78, 68])]
def laid_midrange_program_types {H : Type} : DataW H := .slice [.lit (.string [67, 72, 65, 82]), .lit (.string [80, 65, 67, 75, 69, 68]), .lit (.string [90, 79, 78, 69, 68]), .lit (.string [66, 73, 78, 65, 82, 89])] []
/-- One of Go's own tables, pinned by name: the form's constant. -/
def laid_unicode_utf8_first : DataW Unit := Go.Pinned.utf8First

/-- 'midrangelaw13.ProgramChecks': WHATEVER THE INPUT: true; the input reads as it did. -/
def programChecksSpec : ChangeSpec := { name := "programChecks", fn := fun _ => fun
  | [d] => { results := [.lit (.bool true)], args := [d] }
  | _ => none }
def programChecksRow : OpenClaim := { program := "ytnoldakbllfmnaagreatdoor", sum := "0ce2004cbcfa8b3f8169f531b54333d0624208372e1e874e6aa9f418f80707f7", func := "midrange/midrangelaw13.ProgramChecks", spec := "programChecks", inPlace := ["internal/abi.NoEscape", "internal/bytealg.MakeNoZero", "internal/bytealg.CountString", "internal/bytealg.IndexByteString", "internal/bytealg.IndexString"], unfollowed := true, recurses := true, named := ["midrange/program.operations", "midrange/program.types", "internal/strconv.uint64pow10", "math/bits.deBruijn32tab", "math/bits.deBruijn64tab", "internal/bytealg.MaxLen", "unicode/utf8.first", "unicode/utf8.acceptRanges", "midrange/program.names", "strconv.ErrSyntax", "strconv.ErrRange"], apart := false, laid := [("math/bits.deBruijn32tab", laid_math_bits_deBruijn32tab), ("math/bits.deBruijn64tab", laid_math_bits_deBruijn64tab), ("internal/strconv.uint64pow10", laid_internal_strconv_uint64pow10), ("unicode/utf8.acceptRanges", laid_unicode_utf8_acceptRanges), ("strconv.ErrRange", laid_strconv_ErrRange), ("strconv.ErrSyntax", laid_strconv_ErrSyntax), ("midrange/program.operations", laid_midrange_program_operations), ("midrange/program.names", laid_midrange_program_names), ("midrange/program.types", laid_midrange_program_types), ("unicode/utf8.first", laid_unicode_utf8_first)] }
def ProgramChecksSaid : Prop := programChecksRow.holds Tryz.pinned (OpenSpec.ofChange programChecksSpec)

/-- ITS FALSE NEIGHBOUR: 'it returns false'. Refute it at one input. -/
def programChecksWrong : ChangeSpec := { name := "programChecks", fn := fun _ => fun
  | [d] => { results := [.lit (.bool false)], args := [d] }
  | _ => none }
def ProgramChecksWrongFalsely : Prop := programChecksRow.holds Tryz.pinned (OpenSpec.ofChange programChecksWrong)

/-- 'midrangelaw13.ProgramTexts': WHATEVER THE INPUT: true; the input reads as it did. -/
def programTextsSpec : ChangeSpec := { name := "programTexts", fn := fun _ => fun
  | [d] => { results := [.lit (.bool true)], args := [d] }
  | _ => none }
def programTextsRow : OpenClaim := { program := "ytnoldakbllfmnaagreatdoor", sum := "0ce2004cbcfa8b3f8169f531b54333d0624208372e1e874e6aa9f418f80707f7", func := "midrange/midrangelaw13.ProgramTexts", spec := "programTexts", inPlace := ["internal/abi.NoEscape", "internal/bytealg.MakeNoZero", "internal/bytealg.CountString", "internal/bytealg.IndexByteString", "internal/bytealg.IndexString"], unfollowed := true, recurses := true, named := ["midrange/program.operations", "midrange/program.types", "internal/strconv.uint64pow10", "math/bits.deBruijn32tab", "math/bits.deBruijn64tab", "internal/bytealg.MaxLen", "unicode/utf8.first", "unicode/utf8.acceptRanges", "midrange/program.names", "strconv.ErrSyntax", "strconv.ErrRange"], apart := false, laid := [("math/bits.deBruijn32tab", laid_math_bits_deBruijn32tab), ("math/bits.deBruijn64tab", laid_math_bits_deBruijn64tab), ("internal/strconv.uint64pow10", laid_internal_strconv_uint64pow10), ("unicode/utf8.acceptRanges", laid_unicode_utf8_acceptRanges), ("strconv.ErrRange", laid_strconv_ErrRange), ("strconv.ErrSyntax", laid_strconv_ErrSyntax), ("midrange/program.operations", laid_midrange_program_operations), ("midrange/program.names", laid_midrange_program_names), ("midrange/program.types", laid_midrange_program_types), ("unicode/utf8.first", laid_unicode_utf8_first)] }
def ProgramTextsSaid : Prop := programTextsRow.holds Tryz.pinned (OpenSpec.ofChange programTextsSpec)

/-- ITS FALSE NEIGHBOUR: 'it returns false'. Refute it at one input. -/
def programTextsWrong : ChangeSpec := { name := "programTexts", fn := fun _ => fun
  | [d] => { results := [.lit (.bool false)], args := [d] }
  | _ => none }
def ProgramTextsWrongFalsely : Prop := programTextsRow.holds Tryz.pinned (OpenSpec.ofChange programTextsWrong)

/-- 'midrangelaw13.ProgramParses': WHATEVER THE INPUT: true; the input reads as it did. -/
def programParsesSpec : ChangeSpec := { name := "programParses", fn := fun _ => fun
  | [d] => { results := [.lit (.bool true)], args := [d] }
  | _ => none }
def programParsesRow : OpenClaim := { program := "ytnoldakbllfmnaagreatdoor", sum := "0ce2004cbcfa8b3f8169f531b54333d0624208372e1e874e6aa9f418f80707f7", func := "midrange/midrangelaw13.ProgramParses", spec := "programParses", inPlace := ["internal/abi.NoEscape", "internal/bytealg.MakeNoZero", "internal/bytealg.CountString", "internal/bytealg.IndexByteString", "internal/bytealg.IndexString"], unfollowed := true, recurses := true, named := ["midrange/program.operations", "midrange/program.types", "internal/strconv.uint64pow10", "math/bits.deBruijn32tab", "math/bits.deBruijn64tab", "internal/bytealg.MaxLen", "unicode/utf8.first", "unicode/utf8.acceptRanges", "midrange/program.names", "strconv.ErrSyntax", "strconv.ErrRange"], apart := false, laid := [("math/bits.deBruijn32tab", laid_math_bits_deBruijn32tab), ("math/bits.deBruijn64tab", laid_math_bits_deBruijn64tab), ("internal/strconv.uint64pow10", laid_internal_strconv_uint64pow10), ("unicode/utf8.acceptRanges", laid_unicode_utf8_acceptRanges), ("strconv.ErrRange", laid_strconv_ErrRange), ("strconv.ErrSyntax", laid_strconv_ErrSyntax), ("midrange/program.operations", laid_midrange_program_operations), ("midrange/program.names", laid_midrange_program_names), ("midrange/program.types", laid_midrange_program_types), ("unicode/utf8.first", laid_unicode_utf8_first)] }
def ProgramParsesSaid : Prop := programParsesRow.holds Tryz.pinned (OpenSpec.ofChange programParsesSpec)

/-- ITS FALSE NEIGHBOUR: 'it returns false'. Refute it at one input. -/
def programParsesWrong : ChangeSpec := { name := "programParses", fn := fun _ => fun
  | [d] => { results := [.lit (.bool false)], args := [d] }
  | _ => none }
def ProgramParsesWrongFalsely : Prop := programParsesRow.holds Tryz.pinned (OpenSpec.ofChange programParsesWrong)

/-- 'midrangelaw13.ProgramBack': WHATEVER THE INPUT: true; the input reads as it did. -/
def programBackSpec : ChangeSpec := { name := "programBack", fn := fun _ => fun
  | [d1, d2] => { results := [.lit (.bool true)], args := [d1, d2] }
  | _ => none }
def programBackRow : OpenClaim := { program := "ytnoldakbllfmnaagreatdoor", sum := "0ce2004cbcfa8b3f8169f531b54333d0624208372e1e874e6aa9f418f80707f7", func := "midrange/midrangelaw13.ProgramBack", spec := "programBack", inPlace := ["internal/abi.NoEscape", "internal/bytealg.MakeNoZero", "internal/bytealg.CountString", "internal/bytealg.IndexByteString", "internal/bytealg.IndexString"], unfollowed := true, recurses := true, named := ["midrange/program.operations", "midrange/program.types", "internal/strconv.uint64pow10", "math/bits.deBruijn32tab", "math/bits.deBruijn64tab", "internal/bytealg.MaxLen", "unicode/utf8.first", "unicode/utf8.acceptRanges", "midrange/program.names", "strconv.ErrSyntax", "strconv.ErrRange"], apart := false, laid := [("math/bits.deBruijn32tab", laid_math_bits_deBruijn32tab), ("math/bits.deBruijn64tab", laid_math_bits_deBruijn64tab), ("internal/strconv.uint64pow10", laid_internal_strconv_uint64pow10), ("unicode/utf8.acceptRanges", laid_unicode_utf8_acceptRanges), ("strconv.ErrRange", laid_strconv_ErrRange), ("strconv.ErrSyntax", laid_strconv_ErrSyntax), ("midrange/program.operations", laid_midrange_program_operations), ("midrange/program.names", laid_midrange_program_names), ("midrange/program.types", laid_midrange_program_types), ("unicode/utf8.first", laid_unicode_utf8_first)] }
def ProgramBackSaid : Prop := programBackRow.holds Tryz.pinned (OpenSpec.ofChange programBackSpec)

/-- ITS FALSE NEIGHBOUR: 'it returns false'. Refute it at one input. -/
def programBackWrong : ChangeSpec := { name := "programBack", fn := fun _ => fun
  | [d1, d2] => { results := [.lit (.bool false)], args := [d1, d2] }
  | _ => none }
def ProgramBackWrongFalsely : Prop := programBackRow.holds Tryz.pinned (OpenSpec.ofChange programBackWrong)

/-- 'midrangelaw13.ProgramUses': WHATEVER THE INPUT: true; the input reads as it did. -/
def programUsesSpec : ChangeSpec := { name := "programUses", fn := fun _ => fun
  | [d1, d2, d3] => { results := [.lit (.bool true)], args := [d1, d2, d3] }
  | _ => none }
def programUsesRow : OpenClaim := { program := "ytnoldakbllfmnaagreatdoor", sum := "0ce2004cbcfa8b3f8169f531b54333d0624208372e1e874e6aa9f418f80707f7", func := "midrange/midrangelaw13.ProgramUses", spec := "programUses", inPlace := ["internal/abi.NoEscape", "internal/bytealg.MakeNoZero", "internal/bytealg.CountString", "internal/bytealg.IndexByteString", "internal/bytealg.IndexString"], unfollowed := true, recurses := true, named := ["midrange/program.operations", "midrange/program.types", "internal/strconv.uint64pow10", "math/bits.deBruijn32tab", "math/bits.deBruijn64tab", "internal/bytealg.MaxLen", "unicode/utf8.first", "unicode/utf8.acceptRanges", "midrange/program.names", "strconv.ErrSyntax", "strconv.ErrRange"], apart := false, laid := [("math/bits.deBruijn32tab", laid_math_bits_deBruijn32tab), ("math/bits.deBruijn64tab", laid_math_bits_deBruijn64tab), ("internal/strconv.uint64pow10", laid_internal_strconv_uint64pow10), ("unicode/utf8.acceptRanges", laid_unicode_utf8_acceptRanges), ("strconv.ErrRange", laid_strconv_ErrRange), ("strconv.ErrSyntax", laid_strconv_ErrSyntax), ("midrange/program.operations", laid_midrange_program_operations), ("midrange/program.names", laid_midrange_program_names), ("midrange/program.types", laid_midrange_program_types), ("unicode/utf8.first", laid_unicode_utf8_first)] }
def ProgramUsesSaid : Prop := programUsesRow.holds Tryz.pinned (OpenSpec.ofChange programUsesSpec)

/-- ITS FALSE NEIGHBOUR: 'it returns false'. Refute it at one input. -/
def programUsesWrong : ChangeSpec := { name := "programUses", fn := fun _ => fun
  | [d1, d2, d3] => { results := [.lit (.bool false)], args := [d1, d2, d3] }
  | _ => none }
def ProgramUsesWrongFalsely : Prop := programUsesRow.holds Tryz.pinned (OpenSpec.ofChange programUsesWrong)

/-- 'midrangelaw13.ProgramStores': WHATEVER THE INPUT: true; the input reads as it did. -/
def programStoresSpec : ChangeSpec := { name := "programStores", fn := fun _ => fun
  | [d] => { results := [.lit (.bool true)], args := [d] }
  | _ => none }
def programStoresRow : OpenClaim := { program := "ytnoldakbllfmnaagreatdoor", sum := "0ce2004cbcfa8b3f8169f531b54333d0624208372e1e874e6aa9f418f80707f7", func := "midrange/midrangelaw13.ProgramStores", spec := "programStores", inPlace := ["internal/abi.NoEscape", "internal/bytealg.MakeNoZero", "internal/bytealg.CountString", "internal/bytealg.IndexByteString", "internal/bytealg.IndexString"], unfollowed := true, recurses := true, named := ["midrange/program.operations", "midrange/program.types", "internal/strconv.uint64pow10", "math/bits.deBruijn32tab", "math/bits.deBruijn64tab", "internal/bytealg.MaxLen", "unicode/utf8.first", "unicode/utf8.acceptRanges", "midrange/program.names", "strconv.ErrSyntax", "strconv.ErrRange"], apart := false, laid := [("math/bits.deBruijn32tab", laid_math_bits_deBruijn32tab), ("math/bits.deBruijn64tab", laid_math_bits_deBruijn64tab), ("internal/strconv.uint64pow10", laid_internal_strconv_uint64pow10), ("unicode/utf8.acceptRanges", laid_unicode_utf8_acceptRanges), ("strconv.ErrRange", laid_strconv_ErrRange), ("strconv.ErrSyntax", laid_strconv_ErrSyntax), ("midrange/program.operations", laid_midrange_program_operations), ("midrange/program.names", laid_midrange_program_names), ("midrange/program.types", laid_midrange_program_types), ("unicode/utf8.first", laid_unicode_utf8_first)] }
def ProgramStoresSaid : Prop := programStoresRow.holds Tryz.pinned (OpenSpec.ofChange programStoresSpec)

/-- ITS FALSE NEIGHBOUR: 'it returns false'. Refute it at one input. -/
def programStoresWrong : ChangeSpec := { name := "programStores", fn := fun _ => fun
  | [d] => { results := [.lit (.bool false)], args := [d] }
  | _ => none }
def ProgramStoresWrongFalsely : Prop := programStoresRow.holds Tryz.pinned (OpenSpec.ofChange programStoresWrong)

/-- 'midrangelaw13.ProgramApart': WHATEVER THE INPUT: true; the input reads as it did. -/
def programApartSpec : ChangeSpec := { name := "programApart", fn := fun _ => fun
  | [d] => { results := [.lit (.bool true)], args := [d] }
  | _ => none }
def programApartRow : OpenClaim := { program := "ytnoldakbllfmnaagreatdoor", sum := "0ce2004cbcfa8b3f8169f531b54333d0624208372e1e874e6aa9f418f80707f7", func := "midrange/midrangelaw13.ProgramApart", spec := "programApart", inPlace := ["internal/abi.NoEscape", "internal/bytealg.MakeNoZero", "internal/bytealg.CountString", "internal/bytealg.IndexByteString", "internal/bytealg.IndexString"], unfollowed := true, recurses := true, named := ["midrange/program.operations", "midrange/program.types", "internal/strconv.uint64pow10", "math/bits.deBruijn32tab", "math/bits.deBruijn64tab", "internal/bytealg.MaxLen", "unicode/utf8.first", "unicode/utf8.acceptRanges", "midrange/program.names", "strconv.ErrSyntax", "strconv.ErrRange"], apart := false, laid := [("math/bits.deBruijn32tab", laid_math_bits_deBruijn32tab), ("math/bits.deBruijn64tab", laid_math_bits_deBruijn64tab), ("internal/strconv.uint64pow10", laid_internal_strconv_uint64pow10), ("unicode/utf8.acceptRanges", laid_unicode_utf8_acceptRanges), ("strconv.ErrRange", laid_strconv_ErrRange), ("strconv.ErrSyntax", laid_strconv_ErrSyntax), ("midrange/program.operations", laid_midrange_program_operations), ("midrange/program.names", laid_midrange_program_names), ("midrange/program.types", laid_midrange_program_types), ("unicode/utf8.first", laid_unicode_utf8_first)] }
def ProgramApartSaid : Prop := programApartRow.holds Tryz.pinned (OpenSpec.ofChange programApartSpec)

/-- ITS FALSE NEIGHBOUR: 'it returns false'. Refute it at one input. -/
def programApartWrong : ChangeSpec := { name := "programApart", fn := fun _ => fun
  | [d] => { results := [.lit (.bool false)], args := [d] }
  | _ => none }
def ProgramApartWrongFalsely : Prop := programApartRow.holds Tryz.pinned (OpenSpec.ofChange programApartWrong)

/-- 'midrangelaw13.ProgramFlows': WHATEVER THE INPUT: true; the input reads as it did. -/
def programFlowsSpec : ChangeSpec := { name := "programFlows", fn := fun _ => fun
  | [d1, d2] => { results := [.lit (.bool true)], args := [d1, d2] }
  | _ => none }
def programFlowsRow : OpenClaim := { program := "ytnoldakbllfmnaagreatdoor", sum := "0ce2004cbcfa8b3f8169f531b54333d0624208372e1e874e6aa9f418f80707f7", func := "midrange/midrangelaw13.ProgramFlows", spec := "programFlows", inPlace := ["internal/abi.NoEscape", "internal/bytealg.MakeNoZero", "internal/bytealg.CountString", "internal/bytealg.IndexByteString", "internal/bytealg.IndexString"], unfollowed := true, recurses := true, named := ["midrange/program.operations", "midrange/program.types", "internal/strconv.uint64pow10", "math/bits.deBruijn32tab", "math/bits.deBruijn64tab", "internal/bytealg.MaxLen", "unicode/utf8.first", "unicode/utf8.acceptRanges", "midrange/program.names", "strconv.ErrSyntax", "strconv.ErrRange"], apart := false, laid := [("math/bits.deBruijn32tab", laid_math_bits_deBruijn32tab), ("math/bits.deBruijn64tab", laid_math_bits_deBruijn64tab), ("internal/strconv.uint64pow10", laid_internal_strconv_uint64pow10), ("unicode/utf8.acceptRanges", laid_unicode_utf8_acceptRanges), ("strconv.ErrRange", laid_strconv_ErrRange), ("strconv.ErrSyntax", laid_strconv_ErrSyntax), ("midrange/program.operations", laid_midrange_program_operations), ("midrange/program.names", laid_midrange_program_names), ("midrange/program.types", laid_midrange_program_types), ("unicode/utf8.first", laid_unicode_utf8_first)] }
def ProgramFlowsSaid : Prop := programFlowsRow.holds Tryz.pinned (OpenSpec.ofChange programFlowsSpec)

/-- ITS FALSE NEIGHBOUR: 'it returns false'. Refute it at one input. -/
def programFlowsWrong : ChangeSpec := { name := "programFlows", fn := fun _ => fun
  | [d1, d2] => { results := [.lit (.bool false)], args := [d1, d2] }
  | _ => none }
def ProgramFlowsWrongFalsely : Prop := programFlowsRow.holds Tryz.pinned (OpenSpec.ofChange programFlowsWrong)

/-- 'midrangelaw13.ProgramClosed': WHATEVER THE INPUT: true; the input reads as it did. -/
def programClosedSpec : ChangeSpec := { name := "programClosed", fn := fun _ => fun
  | [d] => { results := [.lit (.bool true)], args := [d] }
  | _ => none }
def programClosedRow : OpenClaim := { program := "ytnoldakbllfmnaagreatdoor", sum := "0ce2004cbcfa8b3f8169f531b54333d0624208372e1e874e6aa9f418f80707f7", func := "midrange/midrangelaw13.ProgramClosed", spec := "programClosed", inPlace := ["internal/abi.NoEscape", "internal/bytealg.MakeNoZero", "internal/bytealg.CountString", "internal/bytealg.IndexByteString", "internal/bytealg.IndexString"], unfollowed := true, recurses := true, named := ["midrange/program.operations", "midrange/program.types", "internal/strconv.uint64pow10", "math/bits.deBruijn32tab", "math/bits.deBruijn64tab", "internal/bytealg.MaxLen", "unicode/utf8.first", "unicode/utf8.acceptRanges", "midrange/program.names", "strconv.ErrSyntax", "strconv.ErrRange"], apart := false, laid := [("math/bits.deBruijn32tab", laid_math_bits_deBruijn32tab), ("math/bits.deBruijn64tab", laid_math_bits_deBruijn64tab), ("internal/strconv.uint64pow10", laid_internal_strconv_uint64pow10), ("unicode/utf8.acceptRanges", laid_unicode_utf8_acceptRanges), ("strconv.ErrRange", laid_strconv_ErrRange), ("strconv.ErrSyntax", laid_strconv_ErrSyntax), ("midrange/program.operations", laid_midrange_program_operations), ("midrange/program.names", laid_midrange_program_names), ("midrange/program.types", laid_midrange_program_types), ("unicode/utf8.first", laid_unicode_utf8_first)] }
def ProgramClosedSaid : Prop := programClosedRow.holds Tryz.pinned (OpenSpec.ofChange programClosedSpec)

/-- ITS FALSE NEIGHBOUR: 'it returns false'. Refute it at one input. -/
def programClosedWrong : ChangeSpec := { name := "programClosed", fn := fun _ => fun
  | [d] => { results := [.lit (.bool false)], args := [d] }
  | _ => none }
def ProgramClosedWrongFalsely : Prop := programClosedRow.holds Tryz.pinned (OpenSpec.ofChange programClosedWrong)

/- THE SECOND FORM. 'bulk': how many values and letters a reading holds, each counted each time it is reached (what is shared counts as often as it is met; a slice's spare places count too). A statement '..UptoSaid' is the law's where the arguments, and the package variables that the reading takes, are together of bulk at most 1048576: NARROWER than '..Said'. Prove '..Said' where nothing that the law and all that it calls make is longer than what came in: it says more and counts as full. Else prove '..UptoSaid'. A law counts once. -/
mutual
def uptoBulk {H : Type} : DataW H → Nat
  | .lit (.string bytes) => bytes.length + 1
  | .lit _ => 1
  | .nil => 1
  | .ptr d => uptoBulk d + 1
  | .slice elems spare => uptoBulkAll elems + uptoBulkAll spare + 1
  | .agg parts => uptoBulkAll parts + 1
  | .iface _ d => uptoBulk d + 1
  | .map entries => uptoBulkEntries entries + 1
  | .held _ => 1
def uptoBulkAll {H : Type} : List (DataW H) → Nat
  | [] => 0
  | d :: r => uptoBulk d + uptoBulkAll r
def uptoBulkEntries {H : Type} : List (Lit × DataW H) → Nat
  | [] => 0
  | x :: r => uptoBulkEntry x + uptoBulkEntries r
def uptoBulkEntry {H : Type} : Lit × DataW H → Nat
  | (.string bytes, d) => bytes.length + uptoBulk d + 1
  | (_, d) => uptoBulk d + 1
 end
def uptoSmall : (H : Type) → List (DataW H) → Bool := fun _ ds => decide (uptoBulkAll ds ≤ 1048576)
def OpenSpec.upto (s : _root_.Go.ChangeSpec) : _root_.Go.OpenSpec := { _root_.Go.OpenSpec.ofChange s with cond := some uptoSmall }

/-- 'midrangelaw13.ProgramChecks', WHERE WHAT IT READS IS OF BULK AT MOST 1048576: true; the input reads as it did. -/
def programChecksUptoRow : OpenClaim := { program := "ytnoldakbllfmnaagreatdoor", sum := "0ce2004cbcfa8b3f8169f531b54333d0624208372e1e874e6aa9f418f80707f7", func := "midrange/midrangelaw13.ProgramChecks", spec := "programChecks", inPlace := ["internal/abi.NoEscape", "internal/bytealg.MakeNoZero", "internal/bytealg.CountString", "internal/bytealg.IndexByteString", "internal/bytealg.IndexString"], unfollowed := true, recurses := true, named := ["midrange/program.operations", "midrange/program.types", "internal/strconv.uint64pow10", "math/bits.deBruijn32tab", "math/bits.deBruijn64tab", "internal/bytealg.MaxLen", "unicode/utf8.first", "unicode/utf8.acceptRanges", "midrange/program.names", "strconv.ErrSyntax", "strconv.ErrRange"], apart := false, laid := [("math/bits.deBruijn32tab", laid_math_bits_deBruijn32tab), ("math/bits.deBruijn64tab", laid_math_bits_deBruijn64tab), ("internal/strconv.uint64pow10", laid_internal_strconv_uint64pow10), ("unicode/utf8.acceptRanges", laid_unicode_utf8_acceptRanges), ("strconv.ErrRange", laid_strconv_ErrRange), ("strconv.ErrSyntax", laid_strconv_ErrSyntax), ("midrange/program.operations", laid_midrange_program_operations), ("midrange/program.names", laid_midrange_program_names), ("midrange/program.types", laid_midrange_program_types), ("unicode/utf8.first", laid_unicode_utf8_first)], narrowed := true }
def ProgramChecksUptoSaid : Prop := programChecksUptoRow.holds Tryz.pinned (OpenSpec.upto programChecksSpec)

/-- 'midrangelaw13.ProgramTexts', WHERE WHAT IT READS IS OF BULK AT MOST 1048576: true; the input reads as it did. -/
def programTextsUptoRow : OpenClaim := { program := "ytnoldakbllfmnaagreatdoor", sum := "0ce2004cbcfa8b3f8169f531b54333d0624208372e1e874e6aa9f418f80707f7", func := "midrange/midrangelaw13.ProgramTexts", spec := "programTexts", inPlace := ["internal/abi.NoEscape", "internal/bytealg.MakeNoZero", "internal/bytealg.CountString", "internal/bytealg.IndexByteString", "internal/bytealg.IndexString"], unfollowed := true, recurses := true, named := ["midrange/program.operations", "midrange/program.types", "internal/strconv.uint64pow10", "math/bits.deBruijn32tab", "math/bits.deBruijn64tab", "internal/bytealg.MaxLen", "unicode/utf8.first", "unicode/utf8.acceptRanges", "midrange/program.names", "strconv.ErrSyntax", "strconv.ErrRange"], apart := false, laid := [("math/bits.deBruijn32tab", laid_math_bits_deBruijn32tab), ("math/bits.deBruijn64tab", laid_math_bits_deBruijn64tab), ("internal/strconv.uint64pow10", laid_internal_strconv_uint64pow10), ("unicode/utf8.acceptRanges", laid_unicode_utf8_acceptRanges), ("strconv.ErrRange", laid_strconv_ErrRange), ("strconv.ErrSyntax", laid_strconv_ErrSyntax), ("midrange/program.operations", laid_midrange_program_operations), ("midrange/program.names", laid_midrange_program_names), ("midrange/program.types", laid_midrange_program_types), ("unicode/utf8.first", laid_unicode_utf8_first)], narrowed := true }
def ProgramTextsUptoSaid : Prop := programTextsUptoRow.holds Tryz.pinned (OpenSpec.upto programTextsSpec)

/-- 'midrangelaw13.ProgramParses', WHERE WHAT IT READS IS OF BULK AT MOST 1048576: true; the input reads as it did. -/
def programParsesUptoRow : OpenClaim := { program := "ytnoldakbllfmnaagreatdoor", sum := "0ce2004cbcfa8b3f8169f531b54333d0624208372e1e874e6aa9f418f80707f7", func := "midrange/midrangelaw13.ProgramParses", spec := "programParses", inPlace := ["internal/abi.NoEscape", "internal/bytealg.MakeNoZero", "internal/bytealg.CountString", "internal/bytealg.IndexByteString", "internal/bytealg.IndexString"], unfollowed := true, recurses := true, named := ["midrange/program.operations", "midrange/program.types", "internal/strconv.uint64pow10", "math/bits.deBruijn32tab", "math/bits.deBruijn64tab", "internal/bytealg.MaxLen", "unicode/utf8.first", "unicode/utf8.acceptRanges", "midrange/program.names", "strconv.ErrSyntax", "strconv.ErrRange"], apart := false, laid := [("math/bits.deBruijn32tab", laid_math_bits_deBruijn32tab), ("math/bits.deBruijn64tab", laid_math_bits_deBruijn64tab), ("internal/strconv.uint64pow10", laid_internal_strconv_uint64pow10), ("unicode/utf8.acceptRanges", laid_unicode_utf8_acceptRanges), ("strconv.ErrRange", laid_strconv_ErrRange), ("strconv.ErrSyntax", laid_strconv_ErrSyntax), ("midrange/program.operations", laid_midrange_program_operations), ("midrange/program.names", laid_midrange_program_names), ("midrange/program.types", laid_midrange_program_types), ("unicode/utf8.first", laid_unicode_utf8_first)], narrowed := true }
def ProgramParsesUptoSaid : Prop := programParsesUptoRow.holds Tryz.pinned (OpenSpec.upto programParsesSpec)

/-- 'midrangelaw13.ProgramBack', WHERE WHAT IT READS IS OF BULK AT MOST 1048576: true; the input reads as it did. -/
def programBackUptoRow : OpenClaim := { program := "ytnoldakbllfmnaagreatdoor", sum := "0ce2004cbcfa8b3f8169f531b54333d0624208372e1e874e6aa9f418f80707f7", func := "midrange/midrangelaw13.ProgramBack", spec := "programBack", inPlace := ["internal/abi.NoEscape", "internal/bytealg.MakeNoZero", "internal/bytealg.CountString", "internal/bytealg.IndexByteString", "internal/bytealg.IndexString"], unfollowed := true, recurses := true, named := ["midrange/program.operations", "midrange/program.types", "internal/strconv.uint64pow10", "math/bits.deBruijn32tab", "math/bits.deBruijn64tab", "internal/bytealg.MaxLen", "unicode/utf8.first", "unicode/utf8.acceptRanges", "midrange/program.names", "strconv.ErrSyntax", "strconv.ErrRange"], apart := false, laid := [("math/bits.deBruijn32tab", laid_math_bits_deBruijn32tab), ("math/bits.deBruijn64tab", laid_math_bits_deBruijn64tab), ("internal/strconv.uint64pow10", laid_internal_strconv_uint64pow10), ("unicode/utf8.acceptRanges", laid_unicode_utf8_acceptRanges), ("strconv.ErrRange", laid_strconv_ErrRange), ("strconv.ErrSyntax", laid_strconv_ErrSyntax), ("midrange/program.operations", laid_midrange_program_operations), ("midrange/program.names", laid_midrange_program_names), ("midrange/program.types", laid_midrange_program_types), ("unicode/utf8.first", laid_unicode_utf8_first)], narrowed := true }
def ProgramBackUptoSaid : Prop := programBackUptoRow.holds Tryz.pinned (OpenSpec.upto programBackSpec)

/-- 'midrangelaw13.ProgramUses', WHERE WHAT IT READS IS OF BULK AT MOST 1048576: true; the input reads as it did. -/
def programUsesUptoRow : OpenClaim := { program := "ytnoldakbllfmnaagreatdoor", sum := "0ce2004cbcfa8b3f8169f531b54333d0624208372e1e874e6aa9f418f80707f7", func := "midrange/midrangelaw13.ProgramUses", spec := "programUses", inPlace := ["internal/abi.NoEscape", "internal/bytealg.MakeNoZero", "internal/bytealg.CountString", "internal/bytealg.IndexByteString", "internal/bytealg.IndexString"], unfollowed := true, recurses := true, named := ["midrange/program.operations", "midrange/program.types", "internal/strconv.uint64pow10", "math/bits.deBruijn32tab", "math/bits.deBruijn64tab", "internal/bytealg.MaxLen", "unicode/utf8.first", "unicode/utf8.acceptRanges", "midrange/program.names", "strconv.ErrSyntax", "strconv.ErrRange"], apart := false, laid := [("math/bits.deBruijn32tab", laid_math_bits_deBruijn32tab), ("math/bits.deBruijn64tab", laid_math_bits_deBruijn64tab), ("internal/strconv.uint64pow10", laid_internal_strconv_uint64pow10), ("unicode/utf8.acceptRanges", laid_unicode_utf8_acceptRanges), ("strconv.ErrRange", laid_strconv_ErrRange), ("strconv.ErrSyntax", laid_strconv_ErrSyntax), ("midrange/program.operations", laid_midrange_program_operations), ("midrange/program.names", laid_midrange_program_names), ("midrange/program.types", laid_midrange_program_types), ("unicode/utf8.first", laid_unicode_utf8_first)], narrowed := true }
def ProgramUsesUptoSaid : Prop := programUsesUptoRow.holds Tryz.pinned (OpenSpec.upto programUsesSpec)

/-- 'midrangelaw13.ProgramStores', WHERE WHAT IT READS IS OF BULK AT MOST 1048576: true; the input reads as it did. -/
def programStoresUptoRow : OpenClaim := { program := "ytnoldakbllfmnaagreatdoor", sum := "0ce2004cbcfa8b3f8169f531b54333d0624208372e1e874e6aa9f418f80707f7", func := "midrange/midrangelaw13.ProgramStores", spec := "programStores", inPlace := ["internal/abi.NoEscape", "internal/bytealg.MakeNoZero", "internal/bytealg.CountString", "internal/bytealg.IndexByteString", "internal/bytealg.IndexString"], unfollowed := true, recurses := true, named := ["midrange/program.operations", "midrange/program.types", "internal/strconv.uint64pow10", "math/bits.deBruijn32tab", "math/bits.deBruijn64tab", "internal/bytealg.MaxLen", "unicode/utf8.first", "unicode/utf8.acceptRanges", "midrange/program.names", "strconv.ErrSyntax", "strconv.ErrRange"], apart := false, laid := [("math/bits.deBruijn32tab", laid_math_bits_deBruijn32tab), ("math/bits.deBruijn64tab", laid_math_bits_deBruijn64tab), ("internal/strconv.uint64pow10", laid_internal_strconv_uint64pow10), ("unicode/utf8.acceptRanges", laid_unicode_utf8_acceptRanges), ("strconv.ErrRange", laid_strconv_ErrRange), ("strconv.ErrSyntax", laid_strconv_ErrSyntax), ("midrange/program.operations", laid_midrange_program_operations), ("midrange/program.names", laid_midrange_program_names), ("midrange/program.types", laid_midrange_program_types), ("unicode/utf8.first", laid_unicode_utf8_first)], narrowed := true }
def ProgramStoresUptoSaid : Prop := programStoresUptoRow.holds Tryz.pinned (OpenSpec.upto programStoresSpec)

/-- 'midrangelaw13.ProgramApart', WHERE WHAT IT READS IS OF BULK AT MOST 1048576: true; the input reads as it did. -/
def programApartUptoRow : OpenClaim := { program := "ytnoldakbllfmnaagreatdoor", sum := "0ce2004cbcfa8b3f8169f531b54333d0624208372e1e874e6aa9f418f80707f7", func := "midrange/midrangelaw13.ProgramApart", spec := "programApart", inPlace := ["internal/abi.NoEscape", "internal/bytealg.MakeNoZero", "internal/bytealg.CountString", "internal/bytealg.IndexByteString", "internal/bytealg.IndexString"], unfollowed := true, recurses := true, named := ["midrange/program.operations", "midrange/program.types", "internal/strconv.uint64pow10", "math/bits.deBruijn32tab", "math/bits.deBruijn64tab", "internal/bytealg.MaxLen", "unicode/utf8.first", "unicode/utf8.acceptRanges", "midrange/program.names", "strconv.ErrSyntax", "strconv.ErrRange"], apart := false, laid := [("math/bits.deBruijn32tab", laid_math_bits_deBruijn32tab), ("math/bits.deBruijn64tab", laid_math_bits_deBruijn64tab), ("internal/strconv.uint64pow10", laid_internal_strconv_uint64pow10), ("unicode/utf8.acceptRanges", laid_unicode_utf8_acceptRanges), ("strconv.ErrRange", laid_strconv_ErrRange), ("strconv.ErrSyntax", laid_strconv_ErrSyntax), ("midrange/program.operations", laid_midrange_program_operations), ("midrange/program.names", laid_midrange_program_names), ("midrange/program.types", laid_midrange_program_types), ("unicode/utf8.first", laid_unicode_utf8_first)], narrowed := true }
def ProgramApartUptoSaid : Prop := programApartUptoRow.holds Tryz.pinned (OpenSpec.upto programApartSpec)

/-- 'midrangelaw13.ProgramFlows', WHERE WHAT IT READS IS OF BULK AT MOST 1048576: true; the input reads as it did. -/
def programFlowsUptoRow : OpenClaim := { program := "ytnoldakbllfmnaagreatdoor", sum := "0ce2004cbcfa8b3f8169f531b54333d0624208372e1e874e6aa9f418f80707f7", func := "midrange/midrangelaw13.ProgramFlows", spec := "programFlows", inPlace := ["internal/abi.NoEscape", "internal/bytealg.MakeNoZero", "internal/bytealg.CountString", "internal/bytealg.IndexByteString", "internal/bytealg.IndexString"], unfollowed := true, recurses := true, named := ["midrange/program.operations", "midrange/program.types", "internal/strconv.uint64pow10", "math/bits.deBruijn32tab", "math/bits.deBruijn64tab", "internal/bytealg.MaxLen", "unicode/utf8.first", "unicode/utf8.acceptRanges", "midrange/program.names", "strconv.ErrSyntax", "strconv.ErrRange"], apart := false, laid := [("math/bits.deBruijn32tab", laid_math_bits_deBruijn32tab), ("math/bits.deBruijn64tab", laid_math_bits_deBruijn64tab), ("internal/strconv.uint64pow10", laid_internal_strconv_uint64pow10), ("unicode/utf8.acceptRanges", laid_unicode_utf8_acceptRanges), ("strconv.ErrRange", laid_strconv_ErrRange), ("strconv.ErrSyntax", laid_strconv_ErrSyntax), ("midrange/program.operations", laid_midrange_program_operations), ("midrange/program.names", laid_midrange_program_names), ("midrange/program.types", laid_midrange_program_types), ("unicode/utf8.first", laid_unicode_utf8_first)], narrowed := true }
def ProgramFlowsUptoSaid : Prop := programFlowsUptoRow.holds Tryz.pinned (OpenSpec.upto programFlowsSpec)

/-- 'midrangelaw13.ProgramClosed', WHERE WHAT IT READS IS OF BULK AT MOST 1048576: true; the input reads as it did. -/
def programClosedUptoRow : OpenClaim := { program := "ytnoldakbllfmnaagreatdoor", sum := "0ce2004cbcfa8b3f8169f531b54333d0624208372e1e874e6aa9f418f80707f7", func := "midrange/midrangelaw13.ProgramClosed", spec := "programClosed", inPlace := ["internal/abi.NoEscape", "internal/bytealg.MakeNoZero", "internal/bytealg.CountString", "internal/bytealg.IndexByteString", "internal/bytealg.IndexString"], unfollowed := true, recurses := true, named := ["midrange/program.operations", "midrange/program.types", "internal/strconv.uint64pow10", "math/bits.deBruijn32tab", "math/bits.deBruijn64tab", "internal/bytealg.MaxLen", "unicode/utf8.first", "unicode/utf8.acceptRanges", "midrange/program.names", "strconv.ErrSyntax", "strconv.ErrRange"], apart := false, laid := [("math/bits.deBruijn32tab", laid_math_bits_deBruijn32tab), ("math/bits.deBruijn64tab", laid_math_bits_deBruijn64tab), ("internal/strconv.uint64pow10", laid_internal_strconv_uint64pow10), ("unicode/utf8.acceptRanges", laid_unicode_utf8_acceptRanges), ("strconv.ErrRange", laid_strconv_ErrRange), ("strconv.ErrSyntax", laid_strconv_ErrSyntax), ("midrange/program.operations", laid_midrange_program_operations), ("midrange/program.names", laid_midrange_program_names), ("midrange/program.types", laid_midrange_program_types), ("unicode/utf8.first", laid_unicode_utf8_first)], narrowed := true }
def ProgramClosedUptoSaid : Prop := programClosedUptoRow.holds Tryz.pinned (OpenSpec.upto programClosedSpec)

end Rows
end Go.Proofs.YtnoldakbllfmnaaGreatDoor
