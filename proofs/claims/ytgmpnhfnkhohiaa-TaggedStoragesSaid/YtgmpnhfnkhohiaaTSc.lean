/- TaggedStorages holds for every input. No condition. -/
import Derived.Test.YtgmpnhfnkhohiaaRows
import Derived.Test.YtgmpnhfnkhohiaaTSb
import Derived.Test.YtgmpnhfnkhohiaaVb

namespace Go.Proofs.Ytgmpnhfnkhohiaa.taggedStorages
open Go Go.Proofs Go.Proofs.Ev Go.Proofs.Ytgmpnhfnkhohiaa.Ev Go.ChangeShapes Go.WideShapes Go.ChangeAt Go.RowKit
set_option linter.unusedVariables false
theorem own : ownKnob Try.prog.godebug = none := by kernel_rfl
theorem laidOut : laidOutB Try.prog = true := by kernel_rfl

theorem plain (xs : List AV) (h : ArgL G 9 Try.f9.params.toList xs) : HandsIn Try.prog 9 xs (vb true) := by
  rw [Try.params9] at h
  obtain ⟨x0, r0, rfl, hx0, x1, r1, rfl, hx1, rfl⟩ := h
  obtain ⟨zs0, hA0, rfl⟩ := hx0
  obtain ⟨zs1, hA1, rfl⟩ := hx1
  obtain ⟨p1, q2, rfl, ⟨a0, rfl, _⟩, p3, q4, rfl, ⟨a1, rfl, _, ha1⟩, rfl⟩ := hA0
  obtain ⟨a2, rfl, _⟩ := hA1
  obtain ⟨ta1, rfl⟩ := bools_of (xs := a1) (fun y hy => ha1 y hy)
  exact midrangelaw03_TaggedStorages.hands 1000002 a0 (Bl ta1) a2 (storages_law (Nat.le_refl _) a0 ta1 a2)

theorem spec (H : Type) (ds : List (DataW H)) (hl : ds.length = 2) : Rows.taggedStoragesSpec.fn H ds = { results := [.lit (.bool true)], args := ds } := by
  match ds, hl with
  | [_, _], _ => rfl
set_option maxRecDepth 100000 in
theorem lifted (os : Os) (started : os.Started) (H : Type) (enc : TypeId × Value → H) :
    ReturnsInHanded {} Try.checked os 9 .any (Rows.taggedStoragesSpec.pre6 enc Try.prog Try.f9 Rows.taggedStoragesRow.domain false) (Rows.taggedStoragesSpec.post enc Try.prog Try.f9 false true false false) := by
  refine returnsInHanded_of_change_shaped (C := Try.checked) own started (by kernel_rfl) Try.func9
    (ChangeSpec.witness6 (enc := enc) (C := Try.checked) false ⟨#[], #[.agg #[.string ByteArray.empty, .slice none 0 0], .int .i64 0], []⟩ 8 (by kernel_rfl) (by kernel_rfl) (by kernel_rfl) (by kernel_rfl)) ?_
  intro W base args ds gs before hval hW hcnd hsz hQ _
  exact law_calls (G := G) (n := 9) cfg laidOut (by kernel_rfl) (by kernel_rfl) rfl Try.underlying4 rfl (fun ds hl => spec H ds (hl.trans (congrArg Array.size Try.params9))) hval hW hQ plain

theorem over : Rows.taggedStoragesRow.holds Try.pinned (OpenSpec.ofChange Rows.taggedStoragesSpec) :=
  OpenClaim.holds_of_wide 9 Try.f9 rfl rfl rfl rfl rfl rfl rfl ⟨rfl, rfl, rfl, rfl, rfl⟩ rfl rfl rfl rfl rfl (by kernel_rfl) Try.func9 (by kernel_rfl)
    (of_decide_eq_true (by kernel_rfl)) (by unfold Func.isWrapper; first | (rw [if_pos (by decide +kernel)]; kernel_rfl) | (rw [if_neg (by decide +kernel)]; exact ⟨rfl, rfl⟩))
    (fun os started H enc _ => lifted os started H enc)
theorem proved : Rows.TaggedStoragesSaid := over
end Go.Proofs.Ytgmpnhfnkhohiaa.taggedStorages
namespace Go.Proofs.Ytgmpnhfnkhohiaa
/-- The row, under a short name, for the claim. -/
theorem taggedStorages_holds : Rows.TaggedStoragesSaid := taggedStorages.proved
end Go.Proofs.Ytgmpnhfnkhohiaa
