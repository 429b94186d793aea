/-
  No cell of these rows narrows 'for every input' (looked for: loops, veiled, ifaces, maps, wideKeys, modest, calm, conditions, laid).
  DERIVED. THE GIVEN ROWS OF THIS SEAT. 7 by the template 'for every input the law returns true; each argument reads behind the call as it read before'; 0 by the template 'total and deterministic' (their statements: YtgmpnhfnkhohiaaTotals.lean).
  GIVEN WITH THE SEED: the statements are not yours to turn. If you find one false, say at which input.
  Laid BY PROGRAM, IN A SANDBOX (cutbox-rows.mjs): the forced cells as the released guide's own fill.sh prints them over the translation ffc6ce421aef32e9… (all of the seat's roots in one cut). By AI agents, Wed Nov 11 2026. No macro, syntax, notation, axiom, sorry.
-/
import Derived.Test.YtgmpnhfnkhohiaaChecked
import GoSem.Claim
import GoSem.ClaimJoined
import GoSem.ClaimMapViews
import Derived.JoinedTies
import Derived.KernelRfl
namespace Go.Proofs.Ytgmpnhfnkhohiaa
/- THE CELL 'sum', in the pinned program and in every row, IS THE sha256 OF THE DUMP (.gsa) THAT YtgmpnhfnkhohiaaProg.lean LOADS. Nothing in Lean hashes anything: it is a label: what it is worth is what the hold of that sum in a sandbox is worth. -/
noncomputable def Try.pinned : Pinned := { name := "ytgmpnhfnkhohiaa", sum := "ffc6ce421aef32e9d10b4b7f645c0e292004c01188522727f6c1268df36046e2", checked := Try.checked }
namespace Rows
def none {H : Type} : Left H := { results := [], args := [] }

/-- 'midrangelaw03.TaggedPointers': WHATEVER THE INPUT: true; the input reads as it did. -/
def taggedPointersSpec : ChangeSpec := { name := "taggedPointers", fn := fun _ => fun
  | [d1, d2] => { results := [.lit (.bool true)], args := [d1, d2] }
  | _ => none }
def taggedPointersRow : OpenClaim := { program := "ytgmpnhfnkhohiaa", sum := "ffc6ce421aef32e9d10b4b7f645c0e292004c01188522727f6c1268df36046e2", func := "midrange/midrangelaw03.TaggedPointers", spec := "taggedPointers", apart := false }
def TaggedPointersSaid : Prop := taggedPointersRow.holds Try.pinned (OpenSpec.ofChange taggedPointersSpec)

/-- ITS FALSE NEIGHBOUR: 'it returns false'. Refute it at one input. -/
def taggedPointersWrong : ChangeSpec := { name := "taggedPointers", fn := fun _ => fun
  | [d1, d2] => { results := [.lit (.bool false)], args := [d1, d2] }
  | _ => none }
def TaggedPointersWrongFalsely : Prop := taggedPointersRow.holds Try.pinned (OpenSpec.ofChange taggedPointersWrong)

/-- 'midrangelaw03.TaggedBytes': WHATEVER THE INPUT: true; the input reads as it did. -/
def taggedBytesSpec : ChangeSpec := { name := "taggedBytes", fn := fun _ => fun
  | [d1, d2] => { results := [.lit (.bool true)], args := [d1, d2] }
  | _ => none }
def taggedBytesRow : OpenClaim := { program := "ytgmpnhfnkhohiaa", sum := "ffc6ce421aef32e9d10b4b7f645c0e292004c01188522727f6c1268df36046e2", func := "midrange/midrangelaw03.TaggedBytes", spec := "taggedBytes", apart := false }
def TaggedBytesSaid : Prop := taggedBytesRow.holds Try.pinned (OpenSpec.ofChange taggedBytesSpec)

/-- ITS FALSE NEIGHBOUR: 'it returns false'. Refute it at one input. -/
def taggedBytesWrong : ChangeSpec := { name := "taggedBytes", fn := fun _ => fun
  | [d1, d2] => { results := [.lit (.bool false)], args := [d1, d2] }
  | _ => none }
def TaggedBytesWrongFalsely : Prop := taggedBytesRow.holds Try.pinned (OpenSpec.ofChange taggedBytesWrong)

/-- 'midrangelaw03.TaggedLoads': WHATEVER THE INPUT: true; the input reads as it did. -/
def taggedLoadsSpec : ChangeSpec := { name := "taggedLoads", fn := fun _ => fun
  | [d1, d2, d3] => { results := [.lit (.bool true)], args := [d1, d2, d3] }
  | _ => none }
def taggedLoadsRow : OpenClaim := { program := "ytgmpnhfnkhohiaa", sum := "ffc6ce421aef32e9d10b4b7f645c0e292004c01188522727f6c1268df36046e2", func := "midrange/midrangelaw03.TaggedLoads", spec := "taggedLoads", apart := false }
def TaggedLoadsSaid : Prop := taggedLoadsRow.holds Try.pinned (OpenSpec.ofChange taggedLoadsSpec)

/-- ITS FALSE NEIGHBOUR: 'it returns false'. Refute it at one input. -/
def taggedLoadsWrong : ChangeSpec := { name := "taggedLoads", fn := fun _ => fun
  | [d1, d2, d3] => { results := [.lit (.bool false)], args := [d1, d2, d3] }
  | _ => none }
def TaggedLoadsWrongFalsely : Prop := taggedLoadsRow.holds Try.pinned (OpenSpec.ofChange taggedLoadsWrong)

/-- 'midrangelaw03.TaggedCopies': WHATEVER THE INPUT: true; the input reads as it did. -/
def taggedCopiesSpec : ChangeSpec := { name := "taggedCopies", fn := fun _ => fun
  | [d1, d2] => { results := [.lit (.bool true)], args := [d1, d2] }
  | _ => none }
def taggedCopiesRow : OpenClaim := { program := "ytgmpnhfnkhohiaa", sum := "ffc6ce421aef32e9d10b4b7f645c0e292004c01188522727f6c1268df36046e2", func := "midrange/midrangelaw03.TaggedCopies", spec := "taggedCopies", apart := false }
def TaggedCopiesSaid : Prop := taggedCopiesRow.holds Try.pinned (OpenSpec.ofChange taggedCopiesSpec)

/-- ITS FALSE NEIGHBOUR: 'it returns false'. Refute it at one input. -/
def taggedCopiesWrong : ChangeSpec := { name := "taggedCopies", fn := fun _ => fun
  | [d1, d2] => { results := [.lit (.bool false)], args := [d1, d2] }
  | _ => none }
def TaggedCopiesWrongFalsely : Prop := taggedCopiesRow.holds Try.pinned (OpenSpec.ofChange taggedCopiesWrong)

/-- 'midrangelaw03.TaggedUnforged': WHATEVER THE INPUT: true; the input reads as it did. -/
def taggedUnforgedSpec : ChangeSpec := { name := "taggedUnforged", fn := fun _ => fun
  | [d1, d2, d3] => { results := [.lit (.bool true)], args := [d1, d2, d3] }
  | _ => none }
def taggedUnforgedRow : OpenClaim := { program := "ytgmpnhfnkhohiaa", sum := "ffc6ce421aef32e9d10b4b7f645c0e292004c01188522727f6c1268df36046e2", func := "midrange/midrangelaw03.TaggedUnforged", spec := "taggedUnforged", apart := false }
def TaggedUnforgedSaid : Prop := taggedUnforgedRow.holds Try.pinned (OpenSpec.ofChange taggedUnforgedSpec)

/-- ITS FALSE NEIGHBOUR: 'it returns false'. Refute it at one input. -/
def taggedUnforgedWrong : ChangeSpec := { name := "taggedUnforged", fn := fun _ => fun
  | [d1, d2, d3] => { results := [.lit (.bool false)], args := [d1, d2, d3] }
  | _ => none }
def TaggedUnforgedWrongFalsely : Prop := taggedUnforgedRow.holds Try.pinned (OpenSpec.ofChange taggedUnforgedWrong)

/-- 'midrangelaw03.TaggedFinds': WHATEVER THE INPUT: true; the input reads as it did. -/
def taggedFindsSpec : ChangeSpec := { name := "taggedFinds", fn := fun _ => fun
  | [d1, d2, d3] => { results := [.lit (.bool true)], args := [d1, d2, d3] }
  | _ => none }
def taggedFindsRow : OpenClaim := { program := "ytgmpnhfnkhohiaa", sum := "ffc6ce421aef32e9d10b4b7f645c0e292004c01188522727f6c1268df36046e2", func := "midrange/midrangelaw03.TaggedFinds", spec := "taggedFinds", inPlace := ["internal/bytealg.IndexByteString", "internal/bytealg.IndexString"], named := ["internal/bytealg.MaxLen"], apart := false }
def TaggedFindsSaid : Prop := taggedFindsRow.holds Try.pinned (OpenSpec.ofChange taggedFindsSpec)

/-- ITS FALSE NEIGHBOUR: 'it returns false'. Refute it at one input. -/
def taggedFindsWrong : ChangeSpec := { name := "taggedFinds", fn := fun _ => fun
  | [d1, d2, d3] => { results := [.lit (.bool false)], args := [d1, d2, d3] }
  | _ => none }
def TaggedFindsWrongFalsely : Prop := taggedFindsRow.holds Try.pinned (OpenSpec.ofChange taggedFindsWrong)

/-- 'midrangelaw03.TaggedStorages': WHATEVER THE INPUT: true; the input reads as it did. -/
def taggedStoragesSpec : ChangeSpec := { name := "taggedStorages", fn := fun _ => fun
  | [d1, d2] => { results := [.lit (.bool true)], args := [d1, d2] }
  | _ => none }
def taggedStoragesRow : OpenClaim := { program := "ytgmpnhfnkhohiaa", sum := "ffc6ce421aef32e9d10b4b7f645c0e292004c01188522727f6c1268df36046e2", func := "midrange/midrangelaw03.TaggedStorages", spec := "taggedStorages", inPlace := ["internal/abi.NoEscape", "internal/bytealg.MakeNoZero"], apart := false }
def TaggedStoragesSaid : Prop := taggedStoragesRow.holds Try.pinned (OpenSpec.ofChange taggedStoragesSpec)

/-- ITS FALSE NEIGHBOUR: 'it returns false'. Refute it at one input. -/
def taggedStoragesWrong : ChangeSpec := { name := "taggedStorages", fn := fun _ => fun
  | [d1, d2] => { results := [.lit (.bool false)], args := [d1, d2] }
  | _ => none }
def TaggedStoragesWrongFalsely : Prop := taggedStoragesRow.holds Try.pinned (OpenSpec.ofChange taggedStoragesWrong)

/- THE SECOND FORM. 'bulk': how many values and letters a reading holds, each counted each time it is reached (what is shared counts as often as it is met; a slice's spare places count too). A statement '..UptoSaid' is the law's where the arguments, and the package variables that the reading takes, are together of bulk at most 1048576: NARROWER than '..Said'. Prove '..Said' where nothing that the law and all that it calls make is longer than what came in: it says more and counts as full. Else prove '..UptoSaid'. A law counts once. -/
mutual
def uptoBulk {H : Type} : DataW H → Nat
  | .lit (.string bytes) => bytes.length + 1
  | .lit _ => 1
  | .nil => 1
  | .ptr d => uptoBulk d + 1
  | .slice elems spare => uptoBulkAll elems + uptoBulkAll spare + 1
  | .agg parts => uptoBulkAll parts + 1
  | .iface _ d => uptoBulk d + 1
  | .map entries => uptoBulkEntries entries + 1
  | .held _ => 1
def uptoBulkAll {H : Type} : List (DataW H) → Nat
  | [] => 0
  | d :: r => uptoBulk d + uptoBulkAll r
def uptoBulkEntries {H : Type} : List (Lit × DataW H) → Nat
  | [] => 0
  | x :: r => uptoBulkEntry x + uptoBulkEntries r
def uptoBulkEntry {H : Type} : Lit × DataW H → Nat
  | (.string bytes, d) => bytes.length + uptoBulk d + 1
  | (_, d) => uptoBulk d + 1
 end
def uptoSmall : (H : Type) → List (DataW H) → Bool := fun _ ds => decide (uptoBulkAll ds ≤ 1048576)
def OpenSpec.upto (s : _root_.Go.ChangeSpec) : _root_.Go.OpenSpec := { _root_.Go.OpenSpec.ofChange s with cond := some uptoSmall }

/-- 'midrangelaw03.TaggedPointers', WHERE WHAT IT READS IS OF BULK AT MOST 1048576: true; the input reads as it did. -/
def taggedPointersUptoRow : OpenClaim := { program := "ytgmpnhfnkhohiaa", sum := "ffc6ce421aef32e9d10b4b7f645c0e292004c01188522727f6c1268df36046e2", func := "midrange/midrangelaw03.TaggedPointers", spec := "taggedPointers", apart := false, narrowed := true }
def TaggedPointersUptoSaid : Prop := taggedPointersUptoRow.holds Try.pinned (OpenSpec.upto taggedPointersSpec)

/-- 'midrangelaw03.TaggedBytes', WHERE WHAT IT READS IS OF BULK AT MOST 1048576: true; the input reads as it did. -/
def taggedBytesUptoRow : OpenClaim := { program := "ytgmpnhfnkhohiaa", sum := "ffc6ce421aef32e9d10b4b7f645c0e292004c01188522727f6c1268df36046e2", func := "midrange/midrangelaw03.TaggedBytes", spec := "taggedBytes", apart := false, narrowed := true }
def TaggedBytesUptoSaid : Prop := taggedBytesUptoRow.holds Try.pinned (OpenSpec.upto taggedBytesSpec)

/-- 'midrangelaw03.TaggedLoads', WHERE WHAT IT READS IS OF BULK AT MOST 1048576: true; the input reads as it did. -/
def taggedLoadsUptoRow : OpenClaim := { program := "ytgmpnhfnkhohiaa", sum := "ffc6ce421aef32e9d10b4b7f645c0e292004c01188522727f6c1268df36046e2", func := "midrange/midrangelaw03.TaggedLoads", spec := "taggedLoads", apart := false, narrowed := true }
def TaggedLoadsUptoSaid : Prop := taggedLoadsUptoRow.holds Try.pinned (OpenSpec.upto taggedLoadsSpec)

/-- 'midrangelaw03.TaggedCopies', WHERE WHAT IT READS IS OF BULK AT MOST 1048576: true; the input reads as it did. -/
def taggedCopiesUptoRow : OpenClaim := { program := "ytgmpnhfnkhohiaa", sum := "ffc6ce421aef32e9d10b4b7f645c0e292004c01188522727f6c1268df36046e2", func := "midrange/midrangelaw03.TaggedCopies", spec := "taggedCopies", apart := false, narrowed := true }
def TaggedCopiesUptoSaid : Prop := taggedCopiesUptoRow.holds Try.pinned (OpenSpec.upto taggedCopiesSpec)

/-- 'midrangelaw03.TaggedUnforged', WHERE WHAT IT READS IS OF BULK AT MOST 1048576: true; the input reads as it did. -/
def taggedUnforgedUptoRow : OpenClaim := { program := "ytgmpnhfnkhohiaa", sum := "ffc6ce421aef32e9d10b4b7f645c0e292004c01188522727f6c1268df36046e2", func := "midrange/midrangelaw03.TaggedUnforged", spec := "taggedUnforged", apart := false, narrowed := true }
def TaggedUnforgedUptoSaid : Prop := taggedUnforgedUptoRow.holds Try.pinned (OpenSpec.upto taggedUnforgedSpec)

/-- 'midrangelaw03.TaggedFinds', WHERE WHAT IT READS IS OF BULK AT MOST 1048576: true; the input reads as it did. -/
def taggedFindsUptoRow : OpenClaim := { program := "ytgmpnhfnkhohiaa", sum := "ffc6ce421aef32e9d10b4b7f645c0e292004c01188522727f6c1268df36046e2", func := "midrange/midrangelaw03.TaggedFinds", spec := "taggedFinds", inPlace := ["internal/bytealg.IndexByteString", "internal/bytealg.IndexString"], named := ["internal/bytealg.MaxLen"], apart := false, narrowed := true }
def TaggedFindsUptoSaid : Prop := taggedFindsUptoRow.holds Try.pinned (OpenSpec.upto taggedFindsSpec)

/-- 'midrangelaw03.TaggedStorages', WHERE WHAT IT READS IS OF BULK AT MOST 1048576: true; the input reads as it did. -/
def taggedStoragesUptoRow : OpenClaim := { program := "ytgmpnhfnkhohiaa", sum := "ffc6ce421aef32e9d10b4b7f645c0e292004c01188522727f6c1268df36046e2", func := "midrange/midrangelaw03.TaggedStorages", spec := "taggedStorages", inPlace := ["internal/abi.NoEscape", "internal/bytealg.MakeNoZero"], apart := false, narrowed := true }
def TaggedStoragesUptoSaid : Prop := taggedStoragesUptoRow.holds Try.pinned (OpenSpec.upto taggedStoragesSpec)

end Rows
end Go.Proofs.Ytgmpnhfnkhohiaa
