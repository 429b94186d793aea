/- TaggedUnforged holds for every input. No condition. -/
import Derived.Test.YtgmpnhfnkhohiaaRows
import Derived.Test.YtgmpnhfnkhohiaaTUb
import Derived.Test.YtgmpnhfnkhohiaaVb

namespace Go.Proofs.Ytgmpnhfnkhohiaa.taggedUnforged
open Go Go.Proofs Go.Proofs.Ev Go.Proofs.Ytgmpnhfnkhohiaa.Ev Go.ChangeShapes Go.WideShapes Go.ChangeAt Go.RowKit
set_option linter.unusedVariables false
theorem own : ownKnob Try.prog.godebug = none := by kernel_rfl
theorem laidOut : laidOutB Try.prog = true := by kernel_rfl

theorem plain (xs : List AV) (h : ArgL G 9 Try.f7.params.toList xs) : HandsIn Try.prog 7 xs (vb true) := by
  rw [Try.params7] at h
  obtain ⟨x0, r0, rfl, hx0, x1, r1, rfl, hx1, x2, r2, rfl, hx2, rfl⟩ := h
  obtain ⟨zs0, hA0, rfl⟩ := hx0
  obtain ⟨zs1, hA1, rfl⟩ := hx1
  obtain ⟨zs2, hA2, rfl⟩ := hx2
  obtain ⟨p1, q2, rfl, ⟨a0, rfl, _⟩, p3, q4, rfl, ⟨a1, rfl, _, ha1⟩, rfl⟩ := hA0
  obtain ⟨p5, q6, rfl, ⟨a2, rfl, _⟩, p7, q8, rfl, ⟨a3, rfl, _⟩, p9, q10, rfl, ⟨a4, rfl, _⟩, rfl⟩ := hA1
  obtain ⟨p11, q12, rfl, ⟨a5, rfl, _⟩, p13, q14, rfl, ⟨a6, rfl, _⟩, p15, q16, rfl, ⟨a7, rfl, _⟩, rfl⟩ := hA2
  obtain ⟨ta1, rfl⟩ := bools_of (xs := a1) (fun y hy => ha1 y hy)
  exact midrangelaw03_TaggedUnforged.hands 1000002 a0 (Bl ta1) a2 a3 a4 a5 a6 a7 (unforged_law (Nat.le_refl _) a0 ta1 a2 a3 a4 a5 a6 a7)

theorem spec (H : Type) (ds : List (DataW H)) (hl : ds.length = 3) : Rows.taggedUnforgedSpec.fn H ds = { results := [.lit (.bool true)], args := ds } := by
  match ds, hl with
  | [_, _, _], _ => rfl
set_option maxRecDepth 100000 in
theorem lifted (os : Os) (started : os.Started) (H : Type) (enc : TypeId × Value → H) :
    ReturnsInHanded {} Try.checked os 7 .any (Rows.taggedUnforgedSpec.pre6 enc Try.prog Try.f7 Rows.taggedUnforgedRow.domain false) (Rows.taggedUnforgedSpec.post enc Try.prog Try.f7 false true false false) := by
  refine returnsInHanded_of_change_shaped (C := Try.checked) own started (by kernel_rfl) Try.func7
    (ChangeSpec.witness6 (enc := enc) (C := Try.checked) false ⟨#[], #[.agg #[.string ByteArray.empty, .slice none 0 0], .agg #[.int .i64 0, .int .i64 0, .string ByteArray.empty], .agg #[.int .i64 0, .int .i64 0, .int .i64 0]], []⟩ 8 (by kernel_rfl) (by kernel_rfl) (by kernel_rfl) (by kernel_rfl)) ?_
  intro W base args ds gs before hval hW hcnd hsz hQ _
  exact law_calls (G := G) (n := 9) cfg laidOut (by kernel_rfl) (by kernel_rfl) rfl Try.underlying4 rfl (fun ds hl => spec H ds (hl.trans (congrArg Array.size Try.params7))) hval hW hQ plain

theorem over : Rows.taggedUnforgedRow.holds Try.pinned (OpenSpec.ofChange Rows.taggedUnforgedSpec) :=
  OpenClaim.holds_of_wide 7 Try.f7 rfl rfl rfl rfl rfl rfl rfl ⟨rfl, rfl, rfl, rfl, rfl⟩ rfl rfl rfl rfl rfl (by kernel_rfl) Try.func7 (by kernel_rfl)
    (of_decide_eq_true (by kernel_rfl)) (by unfold Func.isWrapper; first | (rw [if_pos (by decide +kernel)]; kernel_rfl) | (rw [if_neg (by decide +kernel)]; exact ⟨rfl, rfl⟩))
    (fun os started H enc _ => lifted os started H enc)
theorem proved : Rows.TaggedUnforgedSaid := over
end Go.Proofs.Ytgmpnhfnkhohiaa.taggedUnforged
namespace Go.Proofs.Ytgmpnhfnkhohiaa
/-- The row, under a short name, for the claim. -/
theorem taggedUnforged_holds : Rows.TaggedUnforgedSaid := taggedUnforged.proved
end Go.Proofs.Ytgmpnhfnkhohiaa
