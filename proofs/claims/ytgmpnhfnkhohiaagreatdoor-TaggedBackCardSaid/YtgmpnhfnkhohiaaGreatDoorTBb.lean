/- internal/stringslite.CutPrefix, out of its evaluation. Printed by the session's own program. -/
import Derived.Test.YtgmpnhfnkhohiaaGreatDoorTBa
import Derived.Test.YtgmpnhfnkhohiaaGreatDoorTBVc
import Derived.PlainAid
import Derived.IntWalk
import Derived.Laws.Strings
import Derived.Lib.SplitLaws
import Derived.Lib.IndexMore
import Derived.Lib.Replace

namespace Go.Proofs.YtgmpnhfnkhohiaaGreatDoor.Ev
open Go Go.Proofs Go.Proofs.Ev
set_option linter.unusedVariables false
set_option maxRecDepth 100000
/-! internal/stringslite.CutPrefix: function 54 -/
noncomputable def stringslite_CutPrefix.e {R : Type} (n : Nat)  (k : ByteArray × Bool → Option R) (a0 : ByteArray) (a1 : ByteArray) : Option R :=
  (stringslite_HasPrefix.F n a0 a1).bind fun p1 =>
  bif !p1 then (k (a0, false)) else (bif decide ((0 : Int) ≤ ((a1.size : Nat) : Int)) && decide ((((a1.size : Nat) : Int) : Int) ≤ ((a0.size : Nat) : Int)) then (let y2 : ByteArray := a0.extract (((a1.size : Nat) : Int)).toNat a0.size
  k (y2, true)) else none)
noncomputable def stringslite_CutPrefix.C {R : Type} (n : Nat) (f : FuncId) (xs : List AV) : (AV → Option R) → Option R :=
  bif Nat.beq f 81 then stringslite_HasPrefix.via n xs else fun _ => none
theorem stringslite_CutPrefix.tells {R : Type} (n : Nat) : Tells (R := R) Tryz.prog (stringslite_CutPrefix.C n) := fun _ xs => tells_at (stringslite_HasPrefix.tells1 n xs) (Tells1.none)
noncomputable def stringslite_CutPrefix.cut (r : Nat) : Option Keep := match r with  | _ => none
theorem stringslite_CutPrefix.e_eq {R : Type} (n : Nat) (rec : List Item → St → Option R) (K : AV → Option R) (a0 : ByteArray) (a1 : ByteArray) :
    goK G (stringslite_CutPrefix.C n) stringslite_CutPrefix.cut (fun S => finK G Tryz.f54.resultTypes.toList Tryz.f54.results.toList S K) rec 1000 [.code (Tryz.f54.body.getD .skip)] (Ev.start Tryz.f54 [vs a0, vs a1]) = stringslite_CutPrefix.e n  (fun p => K (.tup [vs p.1, vb p.2])) a0 a1 := by kernel_rfl
noncomputable def stringslite_CutPrefix.F (n : Nat) (a0 : ByteArray) (a1 : ByteArray) : Option (ByteArray × Bool) := stringslite_CutPrefix.e n  Option.some a0 a1
noncomputable def stringslite_CutPrefix.dec (x : AV) : Option (ByteArray × Bool) := match x with | .tup [.v (.string p0), .v (.bool p1)] => Option.some (p0, p1) | _ => none
theorem stringslite_CutPrefix.dec_inv {p : ByteArray × Bool} (y : AV) (h : stringslite_CutPrefix.dec y = some p) : y = .tup [vs p.1, vb p.2] := by
  unfold stringslite_CutPrefix.dec at h
  split at h
  · cases h; rfl
  · cases h
theorem stringslite_CutPrefix.hands (n : Nat) (a0 : ByteArray) (a1 : ByteArray) {p : ByteArray × Bool} (h : stringslite_CutPrefix.F n a0 a1 = some p) : HandsIn Tryz.prog 54 [vs a0, vs a1] (.tup [vs p.1, vb p.2]) := by
  refine hands_of cfg mixed (fun _ => rfl) rfl (stringslite_CutPrefix.tells n) (fn := Tryz.f54) Tryz.func54 (by kernel_rfl) (by kernel_rfl) (cut := stringslite_CutPrefix.cut) (K := stringslite_CutPrefix.dec) (r := p) (n := n) stringslite_CutPrefix.dec_inv ?_
  rw [funK_getD (by kernel_rfl)]
  have h1 := stringslite_CutPrefix.e_eq n (runK G (stringslite_CutPrefix.C n) stringslite_CutPrefix.cut (fun S => finK G Tryz.f54.resultTypes.toList Tryz.f54.results.toList S stringslite_CutPrefix.dec) n) stringslite_CutPrefix.dec a0 a1
  exact h1.trans h
noncomputable def stringslite_CutPrefix.via {R : Type} (n : Nat) (xs : List AV) : (AV → Option R) → Option R := match xs with | [.v (.string a0), .v (.string a1)] => fun K => (stringslite_CutPrefix.F n a0 a1).bind fun p => K (.tup [vs p.1, vb p.2]) | _ => fun _ => none
theorem stringslite_CutPrefix.tells1 {R : Type} (n : Nat) (xs : List AV) : Tells1 (R := R) Tryz.prog 54 xs (stringslite_CutPrefix.via n xs) := by
  unfold stringslite_CutPrefix.via
  split
  · exact Tells1.of (fun p hp => (stringslite_CutPrefix.hands n _ _ hp).hands rfl)
  · exact Tells1.none
end Go.Proofs.YtgmpnhfnkhohiaaGreatDoor.Ev

/- strings.CutPrefix, out of its evaluation. Printed by the session's own program. -/
namespace Go.Proofs.YtgmpnhfnkhohiaaGreatDoor.Ev
open Go Go.Proofs Go.Proofs.Ev
set_option linter.unusedVariables false
set_option maxRecDepth 100000
/-! strings.CutPrefix: function 32 -/
noncomputable def strings_CutPrefix.e {R : Type} (n : Nat)  (k : ByteArray × Bool → Option R) (a0 : ByteArray) (a1 : ByteArray) : Option R :=
  (stringslite_CutPrefix.F n a0 a1).bind fun p1 =>
  k (p1.1, p1.2)
noncomputable def strings_CutPrefix.C {R : Type} (n : Nat) (f : FuncId) (xs : List AV) : (AV → Option R) → Option R :=
  bif Nat.beq f 54 then stringslite_CutPrefix.via n xs else fun _ => none
theorem strings_CutPrefix.tells {R : Type} (n : Nat) : Tells (R := R) Tryz.prog (strings_CutPrefix.C n) := fun _ xs => tells_at (stringslite_CutPrefix.tells1 n xs) (Tells1.none)
noncomputable def strings_CutPrefix.cut (r : Nat) : Option Keep := match r with  | _ => none
theorem strings_CutPrefix.e_eq {R : Type} (n : Nat) (rec : List Item → St → Option R) (K : AV → Option R) (a0 : ByteArray) (a1 : ByteArray) :
    goK G (strings_CutPrefix.C n) strings_CutPrefix.cut (fun S => finK G Tryz.f32.resultTypes.toList Tryz.f32.results.toList S K) rec 1000 [.code (Tryz.f32.body.getD .skip)] (Ev.start Tryz.f32 [vs a0, vs a1]) = strings_CutPrefix.e n  (fun p => K (.tup [vs p.1, vb p.2])) a0 a1 := by kernel_rfl
noncomputable def strings_CutPrefix.F (n : Nat) (a0 : ByteArray) (a1 : ByteArray) : Option (ByteArray × Bool) := strings_CutPrefix.e n  Option.some a0 a1
noncomputable def strings_CutPrefix.dec (x : AV) : Option (ByteArray × Bool) := match x with | .tup [.v (.string p0), .v (.bool p1)] => Option.some (p0, p1) | _ => none
theorem strings_CutPrefix.dec_inv {p : ByteArray × Bool} (y : AV) (h : strings_CutPrefix.dec y = some p) : y = .tup [vs p.1, vb p.2] := by
  unfold strings_CutPrefix.dec at h
  split at h
  · cases h; rfl
  · cases h
theorem strings_CutPrefix.hands (n : Nat) (a0 : ByteArray) (a1 : ByteArray) {p : ByteArray × Bool} (h : strings_CutPrefix.F n a0 a1 = some p) : HandsIn Tryz.prog 32 [vs a0, vs a1] (.tup [vs p.1, vb p.2]) := by
  refine hands_of cfg mixed (fun _ => rfl) rfl (strings_CutPrefix.tells n) (fn := Tryz.f32) Tryz.func32 (by kernel_rfl) (by kernel_rfl) (cut := strings_CutPrefix.cut) (K := strings_CutPrefix.dec) (r := p) (n := n) strings_CutPrefix.dec_inv ?_
  rw [funK_getD (by kernel_rfl)]
  have h1 := strings_CutPrefix.e_eq n (runK G (strings_CutPrefix.C n) strings_CutPrefix.cut (fun S => finK G Tryz.f32.resultTypes.toList Tryz.f32.results.toList S strings_CutPrefix.dec) n) strings_CutPrefix.dec a0 a1
  exact h1.trans h
noncomputable def strings_CutPrefix.via {R : Type} (n : Nat) (xs : List AV) : (AV → Option R) → Option R := match xs with | [.v (.string a0), .v (.string a1)] => fun K => (strings_CutPrefix.F n a0 a1).bind fun p => K (.tup [vs p.1, vb p.2]) | _ => fun _ => none
theorem strings_CutPrefix.tells1 {R : Type} (n : Nat) (xs : List AV) : Tells1 (R := R) Tryz.prog 32 xs (strings_CutPrefix.via n xs) := by
  unfold strings_CutPrefix.via
  split
  · exact Tells1.of (fun p hp => (strings_CutPrefix.hands n _ _ hp).hands rfl)
  · exact Tells1.none
end Go.Proofs.YtgmpnhfnkhohiaaGreatDoor.Ev

/- strconv.Atoi, out of the library's contract. Printed by the session's own program. -/
namespace Go.Proofs.YtgmpnhfnkhohiaaGreatDoor.Ev
open Go Go.Proofs Go.Proofs.Ev
set_option linter.unusedVariables false
set_option maxRecDepth 100000
noncomputable def strconv_Atoi.F (n : Nat) (s : ByteArray) : Option (Int × Bool) := bif decide (s.size ≤ 281474976710656) then Option.some (atoiR s.data.toList) else none
theorem strconv_Atoi.hands (n : Nat) (s : ByteArray) {p : Int × Bool} (h : strconv_Atoi.F n s = some p) : HandsIn Tryz.prog 33 [.v (.string s)] (.tup [.v (.int .i64 p.1), .err p.2]) := by
  unfold strconv_Atoi.F at h
  cases hc : (decide (s.size ≤ 281474976710656)) with
  | false => rw [hc] at h; cases h
  | true =>
    rw [hc] at h
    cases h
    refine hands_calls (fn := Tryz.f33) Tryz.func33 (by kernel_rfl) (by kernel_rfl) fun w F vals hQ hF hl hr => ?_
    obtain ⟨u0, rfl, h0⟩ := vals1 hl hr
    obtain rfl := rel_v h0
    exact atoi_calls Tryz.laysC172 hF s (of_decide_eq_true hc) (Sents.at hQ rfl) (Sents.at hQ rfl)
noncomputable def strconv_Atoi.via {R : Type} (n : Nat) (ys : List AV) : (AV → Option R) → Option R := match ys with | [.v (.string s)] => fun K => (strconv_Atoi.F n s).bind fun p => K (.tup [.v (.int .i64 p.1), .err p.2]) | _ => fun _ => none
theorem strconv_Atoi.tells1 {R : Type} (n : Nat) (ys : List AV) : Tells1 (R := R) Tryz.prog 33 ys (strconv_Atoi.via n ys) := by
  unfold strconv_Atoi.via
  split
  · exact Tells1.of (fun p hp => (strconv_Atoi.hands n _ hp).hands rfl)
  · exact Tells1.none
end Go.Proofs.YtgmpnhfnkhohiaaGreatDoor.Ev

/- strings.Trim, out of the library's contract. Printed by the session's own program. -/
namespace Go.Proofs.YtgmpnhfnkhohiaaGreatDoor.Ev
open Go Go.Proofs Go.Proofs.Ev
set_option linter.unusedVariables false
set_option maxRecDepth 100000
noncomputable def strings_Trim.F (n : Nat) (s : ByteArray) (t : ByteArray) : Option (ByteArray) := bif decide (s.size ≤ 9223372036854775807) && (decide (t.size < 4294967281) && t.data.toList.all fun b => decide (b.toNat < 128)) then Option.some (⟨(Lib.trimS s.data.toList t.data.toList).toArray⟩) else none
theorem strings_Trim.hands (n : Nat) (s : ByteArray) (t : ByteArray) {p : ByteArray} (h : strings_Trim.F n s t = some p) : HandsIn Tryz.prog 34 [.v (.string s), .v (.string t)] (.v (.string p)) := by
  unfold strings_Trim.F at h
  cases hc : (decide (s.size ≤ 9223372036854775807) && (decide (t.size < 4294967281) && t.data.toList.all fun b => decide (b.toNat < 128))) with
  | false => rw [hc] at h; cases h
  | true =>
    rw [hc] at h
    cases h
    refine hands_calls (fn := Tryz.f34) Tryz.func34 (by kernel_rfl) (by kernel_rfl) fun w F vals hQ hF hl hr => ?_
    obtain ⟨u0, u1, rfl, h0, h1⟩ := vals2 hl hr
    obtain rfl := rel_v h0
    obtain rfl := rel_v h1
    rw [Bool.and_eq_true, Bool.and_eq_true] at hc
    refine (Tryz.strings_Trim_laid s t w (of_decide_eq_true hc.1) (of_decide_eq_true hc.2.1) (ascii_of_all hc.2.2)).mono ?_
    rintro e w' ⟨rfl, hB⟩
    exact ⟨F, fun _ => none, Came.of_below hF hB, .v _ rfl⟩
noncomputable def strings_Trim.via {R : Type} (n : Nat) (ys : List AV) : (AV → Option R) → Option R := match ys with | [.v (.string s), .v (.string t)] => fun K => (strings_Trim.F n s t).bind fun p => K (.v (.string p)) | _ => fun _ => none
theorem strings_Trim.tells1 {R : Type} (n : Nat) (ys : List AV) : Tells1 (R := R) Tryz.prog 34 ys (strings_Trim.via n ys) := by
  unfold strings_Trim.via
  split
  · exact Tells1.of (fun p hp => (strings_Trim.hands n _ _ hp).hands rfl)
  · exact Tells1.none
end Go.Proofs.YtgmpnhfnkhohiaaGreatDoor.Ev

/- strings.Repeat, out of the library's contract. Printed by the session's own program. -/
namespace Go.Proofs.YtgmpnhfnkhohiaaGreatDoor.Ev
open Go Go.Proofs Go.Proofs.Ev
set_option linter.unusedVariables false
set_option maxRecDepth 100000
noncomputable def strings_Repeat.F (n : Nat) (s : ByteArray) (c : Int) : Option (ByteArray) := bif decide (0 ≤ c) && decide ((s.size : Int) * c ≤ 140737488355328) && decide (c ≤ 9223372036854775807) then Option.some (⟨(Lib.repeatL s.data.toList c.toNat).toArray⟩) else none
theorem strings_Repeat.hands (n : Nat) (s : ByteArray) (c : Int) {p : ByteArray} (h : strings_Repeat.F n s c = some p) : HandsIn Tryz.prog 35 [vs s, vi c] (vs p) := by
  unfold strings_Repeat.F at h
  cases hc : (decide (0 ≤ c) && decide ((s.size : Int) * c ≤ 140737488355328) && decide (c ≤ 9223372036854775807)) with
  | false => rw [hc] at h; cases h
  | true =>
    rw [hc] at h
    cases h
    refine hands_calls (fn := Tryz.f35) Tryz.func35 (by kernel_rfl) (by kernel_rfl) fun w F vals hQ hF hl hr => ?_
    obtain ⟨u, v, rfl, hu, hv⟩ := vals2 hl hr
    obtain rfl := rel_v hu
    obtain rfl := rel_v hv
    rw [Bool.and_eq_true, Bool.and_eq_true] at hc
    have h0 := of_decide_eq_true hc.1.1
    have h1 := of_decide_eq_true hc.1.2
    have h2 := of_decide_eq_true hc.2
    obtain ⟨m, rfl⟩ := Int.eq_ofNat_of_zero_le h0
    refine (Tryz.strings_Repeat s m w (by omega) (by have := Int.natCast_mul s.size m; omega)).mono ?_
    rintro e w' ⟨rfl, hB⟩
    exact ⟨F, fun _ => none, Came.of_below hF hB, .v _ rfl⟩
noncomputable def strings_Repeat.via {R : Type} (n : Nat) (ys : List AV) : (AV → Option R) → Option R := match ys with | [.v (.string s), .v (.int .i64 c)] => fun K => (strings_Repeat.F n s c).bind fun p => K (vs p) | _ => fun _ => none
theorem strings_Repeat.tells1 {R : Type} (n : Nat) (ys : List AV) : Tells1 (R := R) Tryz.prog 35 ys (strings_Repeat.via n ys) := by
  unfold strings_Repeat.via
  split
  · exact Tells1.of (fun p hp => (strings_Repeat.hands n _ _ hp).hands rfl)
  · exact Tells1.none
end Go.Proofs.YtgmpnhfnkhohiaaGreatDoor.Ev

/- strings.Split, out of the library's contract. Printed by the session's own program. -/
namespace Go.Proofs.YtgmpnhfnkhohiaaGreatDoor.Ev
open Go Go.Proofs Go.Proofs.Ev
set_option linter.unusedVariables false
set_option maxRecDepth 100000
noncomputable def strings_Split.F (n : Nat) (s : ByteArray) (t : ByteArray) : Option (List AV) := bif (decide (s.size < 4294967281) && decide (1 ≤ t.size)) && (Nat.beq (Lib.splitB t 0 (Lib.countB s t) s).length (Lib.countB s t + 1) && decide (Lib.countB s t + 1 ≤ most)) then Option.some ((Lib.splitB t 0 (Lib.countB s t) s).map fun x => vs x) else none
theorem strings_Split.hands (n : Nat) (s : ByteArray) (t : ByteArray) {p : List AV} (h : strings_Split.F n s t = some p) : HandsIn Tryz.prog 68 [.v (.string s), .v (.string t)] (.fr ⟨true, 9⟩ 1 p) := by
  unfold strings_Split.F at h
  cases hc : ((decide (s.size < 4294967281) && decide (1 ≤ t.size)) && (Nat.beq (Lib.splitB t 0 (Lib.countB s t) s).length (Lib.countB s t + 1) && decide (Lib.countB s t + 1 ≤ most))) with
  | false => rw [hc] at h; cases h
  | true =>
    rw [hc] at h
    cases h
    refine hands_calls (fn := Tryz.f68) Tryz.func68 (by kernel_rfl) (by kernel_rfl) fun w F vals hQ hF hl hr => ?_
    obtain ⟨u0, u1, rfl, h0, h1⟩ := vals2 hl hr
    obtain rfl := rel_v h0
    obtain rfl := rel_v h1
    rw [Bool.and_eq_true, Bool.and_eq_true, Bool.and_eq_true] at hc
    refine (Tryz.strings_Split_shaped s t w (Rooted.opened _ hQ) (of_decide_eq_true hc.1.1) (of_decide_eq_true hc.1.2)).mono ?_
    rintro e w' ⟨rfl, rfl⟩
    exact strs_res rfl hF (Nat.eq_of_beq_eq_true hc.2.1) (of_decide_eq_true hc.2.2)
noncomputable def strings_Split.via {R : Type} (n : Nat) (ys : List AV) : (AV → Option R) → Option R := match ys with | [.v (.string s), .v (.string t)] => fun K => (strings_Split.F n s t).bind fun p => K (.fr ⟨true, 9⟩ 1 p) | _ => fun _ => none
theorem strings_Split.tells1 {R : Type} (n : Nat) (ys : List AV) : Tells1 (R := R) Tryz.prog 68 ys (strings_Split.via n ys) := by
  unfold strings_Split.via
  split
  · exact Tells1.of (fun p hp => (strings_Split.hands n _ _ hp).hands rfl)
  · exact Tells1.none
end Go.Proofs.YtgmpnhfnkhohiaaGreatDoor.Ev

/- strings.IndexByte, out of the library's contract. Printed by the session's own program. -/
namespace Go.Proofs.YtgmpnhfnkhohiaaGreatDoor.Ev
open Go Go.Proofs Go.Proofs.Ev
set_option linter.unusedVariables false
set_option maxRecDepth 100000
noncomputable def strings_IndexByte.F (n : Nat) (s : ByteArray) (c : Int) : Option (Int) := bif true then Option.some (Lib.indexByte s.data.toList c.toNat.toUInt8) else none
theorem strings_IndexByte.hands (n : Nat) (s : ByteArray) (c : Int) {p : Int} (h : strings_IndexByte.F n s c = some p) : HandsIn Tryz.prog 95 [.v (.string s), .v (.int .u8 c)] (.v (.int .i64 p)) := by
  unfold strings_IndexByte.F at h
  cases hc : (true) with
  | false => rw [hc] at h; cases h
  | true =>
    rw [hc] at h
    cases h
    refine hands_calls (fn := Tryz.f95) Tryz.func95 (by kernel_rfl) (by kernel_rfl) fun w F vals hQ hF hl hr => ?_
    obtain ⟨u0, u1, rfl, h0, h1⟩ := vals2 hl hr
    obtain rfl := rel_v h0
    obtain rfl := rel_v h1
    refine (Tryz.strings_IndexByte s c w).mono ?_
    rintro e w' ⟨rfl, rfl⟩
    exact ⟨F, fun _ => none, Came.same hF, .v _ rfl⟩
noncomputable def strings_IndexByte.via {R : Type} (n : Nat) (ys : List AV) : (AV → Option R) → Option R := match ys with | [.v (.string s), .v (.int .u8 c)] => fun K => (strings_IndexByte.F n s c).bind fun p => K (.v (.int .i64 p)) | _ => fun _ => none
theorem strings_IndexByte.tells1 {R : Type} (n : Nat) (ys : List AV) : Tells1 (R := R) Tryz.prog 95 ys (strings_IndexByte.via n ys) := by
  unfold strings_IndexByte.via
  split
  · exact Tells1.of (fun p hp => (strings_IndexByte.hands n _ _ hp).hands rfl)
  · exact Tells1.none
end Go.Proofs.YtgmpnhfnkhohiaaGreatDoor.Ev

/- midrange/tagged.undigits, out of its evaluation. Printed by the session's own program. -/
namespace Go.Proofs.YtgmpnhfnkhohiaaGreatDoor.Ev
open Go Go.Proofs Go.Proofs.Ev
set_option linter.unusedVariables false
set_option maxRecDepth 100000
/-! midrange/tagged.undigits: function 69 -/
noncomputable def tagged_undigits.r3 {R : Type} (n : Nat) (c3 : ByteArray → Int → List AV → Option R) (c3x1 : ByteArray → Int → List AV → Option R) (c7 : Unit → Option R) (k : ByteArray × Bool → Option R) (z1 : ByteArray) (z2 : Int) (z3 : List AV) : Option R :=
  let y1 : Bool := decide ((IntKind.i64.wrap (z2 + 1)) < ((z1.size : Nat) : Int))
  bif y1 then (bif decide ((0 : Int) ≤ z2) && decide (z2 < ((z1.size : Nat) : Int)) then (let y2 : Int := (((z1.data.getD ((z2).toNat) 0).toNat : Nat) : Int)
  (strings_IndexByte.F n (⟨#[48, 49, 50, 51, 52, 53, 54, 55, 56, 57, 65, 66, 67, 68, 69, 70]⟩ : ByteArray) y2).bind fun p3 =>
  bif decide ((0 : Int) ≤ IntKind.i64.wrap (z2 + 1)) && decide (IntKind.i64.wrap (z2 + 1) < ((z1.size : Nat) : Int)) then (let y4 : Int := (((z1.data.getD ((IntKind.i64.wrap (z2 + 1)).toNat) 0).toNat : Nat) : Int)
  (strings_IndexByte.F n (⟨#[48, 49, 50, 51, 52, 53, 54, 55, 56, 57, 65, 66, 67, 68, 69, 70]⟩ : ByteArray) y4).bind fun p5 =>
  bif decide (p3 < 0) then (c7 ()) else (bif decide (p5 < 0) then (c7 ()) else (let y6 : Int := IntKind.i64.wrap (p3 * 2 ^ min (4 : Int).toNat 64)
  let y7 : Int := IntKind.i64.wrap (BitVec.ofInt 64 y6 ||| BitVec.ofInt 64 p5).toNat
  (strings_Builder_WriteByte_h1e0d9.F n (IntKind.u8.wrap y7) z3).bind fun p8 =>
  c3x1 z1 (IntKind.i64.wrap (z2 + 2)) p8.2))) else none) else none) else ((strings_Builder_String_hadf41.F n z3).bind fun p9 =>
  let y10 : Int := Int.tmod ((z1.size : Nat) : Int) 2
  k (p9, y10 == 0))
noncomputable def tagged_undigits.r3x1 {R : Type} (n : Nat) (c3 : ByteArray → Int → List AV → Option R) (c3x1 : ByteArray → Int → List AV → Option R) (c7 : Unit → Option R) (k : ByteArray × Bool → Option R) (z1 : ByteArray) (z2 : Int) (z3 : List AV) : Option R :=
  let y11 : Bool := decide ((IntKind.i64.wrap (z2 + 1)) < ((z1.size : Nat) : Int))
  bif y11 then (bif decide ((0 : Int) ≤ z2) && decide (z2 < ((z1.size : Nat) : Int)) then (let y12 : Int := (((z1.data.getD ((z2).toNat) 0).toNat : Nat) : Int)
  (strings_IndexByte.F n (⟨#[48, 49, 50, 51, 52, 53, 54, 55, 56, 57, 65, 66, 67, 68, 69, 70]⟩ : ByteArray) y12).bind fun p13 =>
  bif decide ((0 : Int) ≤ IntKind.i64.wrap (z2 + 1)) && decide (IntKind.i64.wrap (z2 + 1) < ((z1.size : Nat) : Int)) then (let y14 : Int := (((z1.data.getD ((IntKind.i64.wrap (z2 + 1)).toNat) 0).toNat : Nat) : Int)
  (strings_IndexByte.F n (⟨#[48, 49, 50, 51, 52, 53, 54, 55, 56, 57, 65, 66, 67, 68, 69, 70]⟩ : ByteArray) y14).bind fun p15 =>
  bif decide (p13 < 0) then (c7 ()) else (bif decide (p15 < 0) then (c7 ()) else (let y16 : Int := IntKind.i64.wrap (p13 * 2 ^ min (4 : Int).toNat 64)
  let y17 : Int := IntKind.i64.wrap (BitVec.ofInt 64 y16 ||| BitVec.ofInt 64 p15).toNat
  (strings_Builder_WriteByte_hea3dc.F n (IntKind.u8.wrap y17) z3).bind fun p18 =>
  c3x1 z1 (IntKind.i64.wrap (z2 + 2)) p18.2))) else none) else none) else ((strings_Builder_String_hf88d1.F n z3).bind fun p19 =>
  let y20 : Int := Int.tmod ((z1.size : Nat) : Int) 2
  k (p19, y20 == 0))
noncomputable def tagged_undigits.r7 {R : Type} (n : Nat) (c3 : ByteArray → Int → List AV → Option R) (c3x1 : ByteArray → Int → List AV → Option R) (c7 : Unit → Option R) (k : ByteArray × Bool → Option R) (_ : Unit) : Option R :=
  k ((⟨#[]⟩ : ByteArray), false)
noncomputable def tagged_undigits.e {R : Type} (n : Nat) (c3 : ByteArray → Int → List AV → Option R) (c3x1 : ByteArray → Int → List AV → Option R) (c7 : Unit → Option R) (k : ByteArray × Bool → Option R) (a0 : ByteArray) : Option R :=
  c3 a0 0 []
noncomputable def tagged_undigits.C {R : Type} (n : Nat) (f : FuncId) (xs : List AV) : (AV → Option R) → Option R :=
  bif Nat.beq f 25 && strings_Builder_String_hadf41.is xs then strings_Builder_String_hadf41.via n xs else bif Nat.beq f 25 && strings_Builder_String_hf88d1.is xs then strings_Builder_String_hf88d1.via n xs else bif Nat.beq f 79 && strings_Builder_WriteByte_h1e0d9.is xs then strings_Builder_WriteByte_h1e0d9.via n xs else bif Nat.beq f 79 && strings_Builder_WriteByte_hea3dc.is xs then strings_Builder_WriteByte_hea3dc.via n xs else bif Nat.beq f 95 then strings_IndexByte.via n xs else fun _ => none
theorem tagged_undigits.tells {R : Type} (n : Nat) : Tells (R := R) Tryz.prog (tagged_undigits.C n) := fun _ xs => tells_at2 (strings_Builder_String_hadf41.tells1 n xs) (tells_at2 (strings_Builder_String_hf88d1.tells1 n xs) (tells_at2 (strings_Builder_WriteByte_h1e0d9.tells1 n xs) (tells_at2 (strings_Builder_WriteByte_hea3dc.tells1 n xs) (tells_at (strings_IndexByte.tells1 n xs) (Tells1.none)))))
noncomputable def tagged_undigits.cut (r : Nat) : Option Keep := match r with | 3 => Option.some ⟨[0, 4, 5], [(4, Option.some 1, ⟨true, 5⟩, 1)]⟩ | 7 => Option.some ⟨[], []⟩ | _ => none
noncomputable def tagged_undigits.t3 : List Item := (todoOf 3 1000 [.code (Tryz.f69.body.getD .skip)]).getD []
noncomputable def tagged_undigits.s3 (z1 : ByteArray) (z2 : Int) (z3 : List AV) : St := ⟨[vs z1, .undef, .undef, .undef, .ptr 0 0, vi z2, .undef, .undef, .undef, .undef, .undef, .undef, .undef, .undef, .undef, .undef, .undef, .undef, .undef, .undef, .undef, .undef, .undef, .undef, .undef, .undef, .undef, .undef, .undef, .undef, .undef, .undef, .undef, .undef, .undef, .undef, .undef, .undef, .undef, .undef, .undef], Mem.ofList [.box 57 [.v (.pointer none), .own 1 0 none], .row ⟨true, 5⟩ 1 z3], 2⟩
noncomputable def tagged_undigits.t3x1 : List Item := (todoOf 3 1000 [.code (Tryz.f69.body.getD .skip)]).getD []
noncomputable def tagged_undigits.s3x1 (z1 : ByteArray) (z2 : Int) (z3 : List AV) : St := ⟨[vs z1, .undef, .undef, .undef, .ptr 0 0, vi z2, .undef, .undef, .undef, .undef, .undef, .undef, .undef, .undef, .undef, .undef, .undef, .undef, .undef, .undef, .undef, .undef, .undef, .undef, .undef, .undef, .undef, .undef, .undef, .undef, .undef, .undef, .undef, .undef, .undef, .undef, .undef, .undef, .undef, .undef, .undef], Mem.ofList [.box 57 [.ptr 0 0, .own 1 0 none], .row ⟨true, 5⟩ 1 z3], 2⟩
noncomputable def tagged_undigits.t7 : List Item := (todoOf 7 1000 [.code (Tryz.f69.body.getD .skip)]).getD []
noncomputable def tagged_undigits.s7 (_ : Unit) : St := ⟨[.undef, .undef, .undef, .undef, .undef, .undef, .undef, .undef, .undef, .undef, .undef, .undef, .undef, .undef, .undef, .undef, .undef, .undef, .undef, .undef, .undef, .undef, .undef, .undef, .undef, .undef, .undef, .undef, .undef, .undef, .undef, .undef, .undef, .undef, .undef, .undef, .undef, .undef, .undef, .undef, .undef], Mem.ofList [], 0⟩
theorem tagged_undigits.e_eq {R : Type} (n : Nat) (rec : List Item → St → Option R) (K : AV → Option R) (a0 : ByteArray) :
    goK G (tagged_undigits.C n) tagged_undigits.cut (fun S => finK G Tryz.f69.resultTypes.toList Tryz.f69.results.toList S K) rec 1000 [.code (Tryz.f69.body.getD .skip)] (Ev.start Tryz.f69 [vs a0]) = tagged_undigits.e n (fun z1 z2 z3 => rec tagged_undigits.t3 (tagged_undigits.s3 z1 z2 z3)) (fun z1 z2 z3 => rec tagged_undigits.t3x1 (tagged_undigits.s3x1 z1 z2 z3)) (fun _ => rec tagged_undigits.t7 (tagged_undigits.s7 ())) (fun p => K (.tup [vs p.1, vb p.2])) a0 := by kernel_rfl
theorem tagged_undigits.r3_eq {R : Type} (n : Nat) (rec : List Item → St → Option R) (K : AV → Option R) (z1 : ByteArray) (z2 : Int) (z3 : List AV) :
    atK G (tagged_undigits.C n) tagged_undigits.cut (fun S => finK G Tryz.f69.resultTypes.toList Tryz.f69.results.toList S K) rec tagged_undigits.t3 (tagged_undigits.s3 z1 z2 z3) = tagged_undigits.r3 n (fun z1 z2 z3 => rec tagged_undigits.t3 (tagged_undigits.s3 z1 z2 z3)) (fun z1 z2 z3 => rec tagged_undigits.t3x1 (tagged_undigits.s3x1 z1 z2 z3)) (fun _ => rec tagged_undigits.t7 (tagged_undigits.s7 ())) (fun p => K (.tup [vs p.1, vb p.2])) z1 z2 z3 := by kernel_rfl
theorem tagged_undigits.r3x1_eq {R : Type} (n : Nat) (rec : List Item → St → Option R) (K : AV → Option R) (z1 : ByteArray) (z2 : Int) (z3 : List AV) :
    atK G (tagged_undigits.C n) tagged_undigits.cut (fun S => finK G Tryz.f69.resultTypes.toList Tryz.f69.results.toList S K) rec tagged_undigits.t3x1 (tagged_undigits.s3x1 z1 z2 z3) = tagged_undigits.r3x1 n (fun z1 z2 z3 => rec tagged_undigits.t3 (tagged_undigits.s3 z1 z2 z3)) (fun z1 z2 z3 => rec tagged_undigits.t3x1 (tagged_undigits.s3x1 z1 z2 z3)) (fun _ => rec tagged_undigits.t7 (tagged_undigits.s7 ())) (fun p => K (.tup [vs p.1, vb p.2])) z1 z2 z3 := by kernel_rfl
theorem tagged_undigits.r7_eq {R : Type} (n : Nat) (rec : List Item → St → Option R) (K : AV → Option R) (_ : Unit) :
    atK G (tagged_undigits.C n) tagged_undigits.cut (fun S => finK G Tryz.f69.resultTypes.toList Tryz.f69.results.toList S K) rec tagged_undigits.t7 (tagged_undigits.s7 ()) = tagged_undigits.r7 n (fun z1 z2 z3 => rec tagged_undigits.t3 (tagged_undigits.s3 z1 z2 z3)) (fun z1 z2 z3 => rec tagged_undigits.t3x1 (tagged_undigits.s3x1 z1 z2 z3)) (fun _ => rec tagged_undigits.t7 (tagged_undigits.s7 ())) (fun p => K (.tup [vs p.1, vb p.2])) () := by kernel_rfl
noncomputable def tagged_undigits.l (n : Nat) : Nat → (ByteArray → Int → List AV → Option (ByteArray × Bool)) × (ByteArray → Int → List AV → Option (ByteArray × Bool)) × (Unit → Option (ByteArray × Bool))
  | 0 => ((fun _ _ _ => none), (fun _ _ _ => none), (fun _ => none))
  | m + 1 => (tagged_undigits.r3 n ((tagged_undigits.l n m).1) ((tagged_undigits.l n m).2.1) ((tagged_undigits.l n m).2.2) Option.some, tagged_undigits.r3x1 n ((tagged_undigits.l n m).1) ((tagged_undigits.l n m).2.1) ((tagged_undigits.l n m).2.2) Option.some, tagged_undigits.r7 n ((tagged_undigits.l n m).1) ((tagged_undigits.l n m).2.1) ((tagged_undigits.l n m).2.2) Option.some)
noncomputable def tagged_undigits.F (n : Nat) (a0 : ByteArray) : Option (ByteArray × Bool) := tagged_undigits.e n ((tagged_undigits.l n n).1) ((tagged_undigits.l n n).2.1) ((tagged_undigits.l n n).2.2) Option.some a0
noncomputable def tagged_undigits.dec (x : AV) : Option (ByteArray × Bool) := match x with | .tup [.v (.string p0), .v (.bool p1)] => Option.some (p0, p1) | _ => none
theorem tagged_undigits.dec_inv {p : ByteArray × Bool} (y : AV) (h : tagged_undigits.dec y = some p) : y = .tup [vs p.1, vb p.2] := by
  unfold tagged_undigits.dec at h
  split at h
  · cases h; rfl
  · cases h
theorem tagged_undigits.l_eq (n m : Nat) : (∀ (z1 : ByteArray) (z2 : Int) (z3 : List AV), runK G (tagged_undigits.C n) tagged_undigits.cut (fun S => finK G Tryz.f69.resultTypes.toList Tryz.f69.results.toList S tagged_undigits.dec) m tagged_undigits.t3 (tagged_undigits.s3 z1 z2 z3) = ((tagged_undigits.l n m).1) z1 z2 z3) ∧ (∀ (z1 : ByteArray) (z2 : Int) (z3 : List AV), runK G (tagged_undigits.C n) tagged_undigits.cut (fun S => finK G Tryz.f69.resultTypes.toList Tryz.f69.results.toList S tagged_undigits.dec) m tagged_undigits.t3x1 (tagged_undigits.s3x1 z1 z2 z3) = ((tagged_undigits.l n m).2.1) z1 z2 z3) ∧ (∀ z : Unit, runK G (tagged_undigits.C n) tagged_undigits.cut (fun S => finK G Tryz.f69.resultTypes.toList Tryz.f69.results.toList S tagged_undigits.dec) m tagged_undigits.t7 (tagged_undigits.s7 z) = ((tagged_undigits.l n m).2.2) z) := by
  induction m with
  | zero => exact ⟨fun z1 z2 z3 => rfl, fun z1 z2 z3 => rfl, fun _ => rfl⟩
  | succ m ih =>
    obtain ⟨h3, h3x1, h7⟩ := ih
    have e3 : (fun (z1 : ByteArray) (z2 : Int) (z3 : List AV) => runK G (tagged_undigits.C n) tagged_undigits.cut (fun S => finK G Tryz.f69.resultTypes.toList Tryz.f69.results.toList S tagged_undigits.dec) m tagged_undigits.t3 (tagged_undigits.s3 z1 z2 z3)) = (tagged_undigits.l n m).1 := by funext z1 z2 z3; exact h3 z1 z2 z3
    have e3x1 : (fun (z1 : ByteArray) (z2 : Int) (z3 : List AV) => runK G (tagged_undigits.C n) tagged_undigits.cut (fun S => finK G Tryz.f69.resultTypes.toList Tryz.f69.results.toList S tagged_undigits.dec) m tagged_undigits.t3x1 (tagged_undigits.s3x1 z1 z2 z3)) = (tagged_undigits.l n m).2.1 := by funext z1 z2 z3; exact h3x1 z1 z2 z3
    have e7 : (fun (_ : Unit) => runK G (tagged_undigits.C n) tagged_undigits.cut (fun S => finK G Tryz.f69.resultTypes.toList Tryz.f69.results.toList S tagged_undigits.dec) m tagged_undigits.t7 (tagged_undigits.s7 ())) = (tagged_undigits.l n m).2.2 := by funext z; exact h7 z
    have q3 : ∀ (z1 : ByteArray) (z2 : Int) (z3 : List AV), runK G (tagged_undigits.C n) tagged_undigits.cut (fun S => finK G Tryz.f69.resultTypes.toList Tryz.f69.results.toList S tagged_undigits.dec) (m + 1) tagged_undigits.t3 (tagged_undigits.s3 z1 z2 z3) = ((tagged_undigits.l n (m + 1)).1) z1 z2 z3 := by
      intro z1 z2 z3
      rw [runK_succ]
      refine (tagged_undigits.r3_eq n _ tagged_undigits.dec z1 z2 z3).trans ?_
      rw [e3, e3x1, e7]
      rfl
    have q3x1 : ∀ (z1 : ByteArray) (z2 : Int) (z3 : List AV), runK G (tagged_undigits.C n) tagged_undigits.cut (fun S => finK G Tryz.f69.resultTypes.toList Tryz.f69.results.toList S tagged_undigits.dec) (m + 1) tagged_undigits.t3x1 (tagged_undigits.s3x1 z1 z2 z3) = ((tagged_undigits.l n (m + 1)).2.1) z1 z2 z3 := by
      intro z1 z2 z3
      rw [runK_succ]
      refine (tagged_undigits.r3x1_eq n _ tagged_undigits.dec z1 z2 z3).trans ?_
      rw [e3, e3x1, e7]
      rfl
    have q7 : ∀ z : Unit, runK G (tagged_undigits.C n) tagged_undigits.cut (fun S => finK G Tryz.f69.resultTypes.toList Tryz.f69.results.toList S tagged_undigits.dec) (m + 1) tagged_undigits.t7 (tagged_undigits.s7 z) = ((tagged_undigits.l n (m + 1)).2.2) z := by
      intro z
      rw [runK_succ]
      refine (tagged_undigits.r7_eq n _ tagged_undigits.dec ()).trans ?_
      rw [e3, e3x1, e7]
      rfl
    exact ⟨q3, q3x1, q7⟩
theorem tagged_undigits.hands (n : Nat) (a0 : ByteArray) {p : ByteArray × Bool} (h : tagged_undigits.F n a0 = some p) : HandsIn Tryz.prog 69 [vs a0] (.tup [vs p.1, vb p.2]) := by
  refine hands_of cfg mixed (fun _ => rfl) rfl (tagged_undigits.tells n) (fn := Tryz.f69) Tryz.func69 (by kernel_rfl) (by kernel_rfl) (cut := tagged_undigits.cut) (K := tagged_undigits.dec) (r := p) (n := n) tagged_undigits.dec_inv ?_
  rw [funK_getD (by kernel_rfl)]
  have h1 := tagged_undigits.e_eq n (runK G (tagged_undigits.C n) tagged_undigits.cut (fun S => finK G Tryz.f69.resultTypes.toList Tryz.f69.results.toList S tagged_undigits.dec) n) tagged_undigits.dec a0
  have hl := tagged_undigits.l_eq n n
  simp only [hl.1, hl.2.1, hl.2.2] at h1
  exact h1.trans h
noncomputable def tagged_undigits.via {R : Type} (n : Nat) (xs : List AV) : (AV → Option R) → Option R := match xs with | [.v (.string a0)] => fun K => (tagged_undigits.F n a0).bind fun p => K (.tup [vs p.1, vb p.2]) | _ => fun _ => none
theorem tagged_undigits.tells1 {R : Type} (n : Nat) (xs : List AV) : Tells1 (R := R) Tryz.prog 69 xs (tagged_undigits.via n xs) := by
  unfold tagged_undigits.via
  split
  · exact Tells1.of (fun p hp => (tagged_undigits.hands n _ hp).hands rfl)
  · exact Tells1.none
end Go.Proofs.YtgmpnhfnkhohiaaGreatDoor.Ev

/- midrange/tagged.parsedRow, out of its evaluation. Printed by the session's own program. -/
namespace Go.Proofs.YtgmpnhfnkhohiaaGreatDoor.Ev
open Go Go.Proofs Go.Proofs.Ev
set_option linter.unusedVariables false
set_option maxRecDepth 100000
/-! midrange/tagged.parsedRow: function 36 -/
noncomputable def tagged_parsedRow.e {R : Type} (n : Nat)  (k : ByteArray × Bool × Bool → Option R) (a0 : ByteArray) (a1 : Int) : Option R :=
  (strings_Split.F n a0 (⟨#[32]⟩ : ByteArray)).bind fun p1 =>
  let y2 : Bool := ((p1.length : Nat) : Int) != 6
  bif y2 then (k ((⟨#[]⟩ : ByteArray), false, false)) else (bif decide ((1 : Int) < (p1.length : Nat)) then (withCons ((p1.getD 1 .undef).cells) fun h3 r4 =>
  withStr h3 fun s5 =>
  bif decide ((2 : Int) < (p1.length : Nat)) then (withCons ((p1.getD 2 .undef).cells) fun h6 r7 =>
  withStr h6 fun s8 =>
  chk (decide (s5.size + s8.size ≤ 9223372036854775807)) (bif decide ((3 : Int) < (p1.length : Nat)) then (withCons ((p1.getD 3 .undef).cells) fun h9 r10 =>
  withStr h9 fun s11 =>
  chk (decide ((s5 ++ s8).size + s11.size ≤ 9223372036854775807)) (bif decide ((4 : Int) < (p1.length : Nat)) then (withCons ((p1.getD 4 .undef).cells) fun h12 r13 =>
  withStr h12 fun s14 =>
  chk (decide (((s5 ++ s8) ++ s11).size + s14.size ≤ 9223372036854775807)) ((tagged_undigits.F n (((s5 ++ s8) ++ s11) ++ s14)).bind fun p15 =>
  bif !p15.2 then (k ((⟨#[]⟩ : ByteArray), false, false)) else (let y16 : Bool := ((p15.1.size : Nat) : Int) != 16
  bif y16 then (k ((⟨#[]⟩ : ByteArray), false, false)) else (bif decide ((5 : Int) < (p1.length : Nat)) then (withCons ((p1.getD 5 .undef).cells) fun h17 r18 =>
  withStr h17 fun s19 =>
  let y20 : Bool := s19.toList == (⟨#[80]⟩ : ByteArray).toList
  (tagged_row.F n a1 p15.1 y20).bind fun p21 =>
  k (p15.1, y20, a0.toList == p21.toList)) else none)))) else none)) else none)) else none) else none)
noncomputable def tagged_parsedRow.C {R : Type} (n : Nat) (f : FuncId) (xs : List AV) : (AV → Option R) → Option R :=
  bif Nat.beq f 24 then tagged_row.via n xs else bif Nat.beq f 68 then strings_Split.via n xs else bif Nat.beq f 69 then tagged_undigits.via n xs else fun _ => none
theorem tagged_parsedRow.tells {R : Type} (n : Nat) : Tells (R := R) Tryz.prog (tagged_parsedRow.C n) := fun _ xs => tells_at (tagged_row.tells1 n xs) (tells_at (strings_Split.tells1 n xs) (tells_at (tagged_undigits.tells1 n xs) (Tells1.none)))
noncomputable def tagged_parsedRow.cut (r : Nat) : Option Keep := match r with  | _ => none
theorem tagged_parsedRow.e_eq {R : Type} (n : Nat) (rec : List Item → St → Option R) (K : AV → Option R) (a0 : ByteArray) (a1 : Int) :
    goK G (tagged_parsedRow.C n) tagged_parsedRow.cut (fun S => finK G Tryz.f36.resultTypes.toList Tryz.f36.results.toList S K) rec 1000 [.code (Tryz.f36.body.getD .skip)] (Ev.start Tryz.f36 [vs a0, vi a1]) = tagged_parsedRow.e n  (fun p => K (.tup [vs p.1, vb p.2.1, vb p.2.2])) a0 a1 := by kernel_rfl
noncomputable def tagged_parsedRow.F (n : Nat) (a0 : ByteArray) (a1 : Int) : Option (ByteArray × Bool × Bool) := tagged_parsedRow.e n  Option.some a0 a1
noncomputable def tagged_parsedRow.dec (x : AV) : Option (ByteArray × Bool × Bool) := match x with | .tup [.v (.string p0), .v (.bool p1), .v (.bool p2)] => Option.some (p0, p1, p2) | _ => none
theorem tagged_parsedRow.dec_inv {p : ByteArray × Bool × Bool} (y : AV) (h : tagged_parsedRow.dec y = some p) : y = .tup [vs p.1, vb p.2.1, vb p.2.2] := by
  unfold tagged_parsedRow.dec at h
  split at h
  · cases h; rfl
  · cases h
theorem tagged_parsedRow.hands (n : Nat) (a0 : ByteArray) (a1 : Int) {p : ByteArray × Bool × Bool} (h : tagged_parsedRow.F n a0 a1 = some p) : HandsIn Tryz.prog 36 [vs a0, vi a1] (.tup [vs p.1, vb p.2.1, vb p.2.2]) := by
  refine hands_of cfg mixed (fun _ => rfl) rfl (tagged_parsedRow.tells n) (fn := Tryz.f36) Tryz.func36 (by kernel_rfl) (by kernel_rfl) (cut := tagged_parsedRow.cut) (K := tagged_parsedRow.dec) (r := p) (n := n) tagged_parsedRow.dec_inv ?_
  rw [funK_getD (by kernel_rfl)]
  have h1 := tagged_parsedRow.e_eq n (runK G (tagged_parsedRow.C n) tagged_parsedRow.cut (fun S => finK G Tryz.f36.resultTypes.toList Tryz.f36.results.toList S tagged_parsedRow.dec) n) tagged_parsedRow.dec a0 a1
  exact h1.trans h
noncomputable def tagged_parsedRow.via {R : Type} (n : Nat) (xs : List AV) : (AV → Option R) → Option R := match xs with | [.v (.string a0), .v (.int .i64 a1)] => fun K => (tagged_parsedRow.F n a0 a1).bind fun p => K (.tup [vs p.1, vb p.2.1, vb p.2.2]) | _ => fun _ => none
theorem tagged_parsedRow.tells1 {R : Type} (n : Nat) (xs : List AV) : Tells1 (R := R) Tryz.prog 36 xs (tagged_parsedRow.via n xs) := by
  unfold tagged_parsedRow.via
  split
  · exact Tells1.of (fun p hp => (tagged_parsedRow.hands n _ _ hp).hands rfl)
  · exact Tells1.none
end Go.Proofs.YtgmpnhfnkhohiaaGreatDoor.Ev

/- midrange/tagged.ParseDump, out of its evaluation. Printed by the session's own program. -/
namespace Go.Proofs.YtgmpnhfnkhohiaaGreatDoor.Ev
open Go Go.Proofs Go.Proofs.Ev
set_option linter.unusedVariables false
set_option maxRecDepth 100000
/-! midrange/tagged.ParseDump: function 11 -/
noncomputable def tagged_ParseDump.r6 {R : Type} (n : Nat) (c6 : ByteArray → Bool → Int → ByteArray → ByteArray → List AV → Option R) (c16 : Int → ByteArray → Option R) (c25 : ByteArray → Int → ByteArray → Int → ByteArray → Bool → ByteArray → ByteArray → List AV → Option R) (c33 : ByteArray → Bool → Int → ByteArray → ByteArray → ByteArray → List AV → Option R) (k : ByteArray × List AV × Int × Int → Option R) (z1 : ByteArray) (z2 : Bool) (z3 : Int) (z4 : ByteArray) (z5 : ByteArray) (z6 : List AV) : Option R :=
  let y2 : Bool := decide (z3 < ((z1.size : Nat) : Int))
  bif y2 then (bif decide ((0 : Int) ≤ z3) && decide ((z3 : Int) ≤ ((z1.size : Nat) : Int)) then (let y3 : ByteArray := z1.extract (z3).toNat z1.size
  (strings_Cut.F n y3 (⟨#[10]⟩ : ByteArray)).bind fun p4 =>
  bif !p4.2.2 then (k ((⟨#[]⟩ : ByteArray), [], z3, 8)) else ((strings_CutPrefix.F n p4.1 (⟨#[42]⟩ : ByteArray)).bind fun p5 =>
  bif p5.2 then ((strconv_Atoi.F n p5.1).bind fun p6 =>
  let y7 : Bool := p5.1.toList == (⟨#[]⟩ : ByteArray).toList
  bif y7 then (c16 z3 z4) else ((strings_Trim.F n p5.1 (⟨#[48, 49, 50, 51, 52, 53, 54, 55, 56, 57]⟩ : ByteArray)).bind fun p8 =>
  let y9 : Bool := !(p8.toList == (⟨#[]⟩ : ByteArray).toList)
  bif y9 then (c16 z3 z4) else (bif decide ((0 : Int) < (p5.1.size : Nat)) then (let y10 : Int := (((p5.1.data.getD 0 0).toNat : Nat) : Int)
  bif y10 == 48 then (c16 z3 z4) else (let y11 : Bool := ((z6.length : Nat) : Int) == 0
  bif y11 then (c16 z3 z4) else (let y12 : Int := IntKind.i64.wrap (((z6.length : Nat) : Int) - 1)
  bif decide ((0 : Int) ≤ y12) && decide (y12 < ((z6.length : Nat) : Int)) then (withCons ((z6.getD ((y12).toNat) .undef).cells) fun h13 r14 =>
  withBool h13 fun b15 =>
  bif b15 then (c16 z3 z4) else (bif z2 then (c16 z3 z4) else (bif !(!p6.2) then (k ((⟨#[]⟩ : ByteArray), [], z3, 2)) else (let y16 : Int := IntKind.i64.wrap ((64 : Int) - ((z6.length : Nat) : Int))
  bif decide (p6.1 > y16) then (k ((⟨#[]⟩ : ByteArray), [], z3, 2)) else (let y17 : Int := IntKind.i64.wrap (((z5.size : Nat) : Int) - 16)
  bif decide ((0 : Int) ≤ y17) && decide ((y17 : Int) ≤ ((z5.size : Nat) : Int)) then (let y18 : ByteArray := z5.extract (y17).toNat z5.size
  (strings_Repeat.F n y18 p6.1).bind fun p19 =>
  chk (decide (z5.size + p19.size ≤ 9223372036854775807)) (bif decide ((0 : Int) ≤ p6.1) && decide ((p6.1 : Int) ≤ most) then (let y20 : List AV := List.replicate (p6.1).toNat (vb false)
  bif decide (z6.length + y20.length ≤ most) then (c33 z1 true z3 p4.1 z4 (z5 ++ p19) (z6 ++ y20)) else none) else none)) else none))))) else none))) else none))) else (let y21 : Int := IntKind.i64.wrap (((z6.length : Nat) : Int) * 16)
  (tagged_parsedRow.F n p4.1 y21).bind fun p22 =>
  bif !p22.2.2 then (k ((⟨#[]⟩ : ByteArray), [], z3, 8)) else (let y23 : Bool := decide (((z6.length : Nat) : Int) > 0)
  bif y23 then (bif !p22.2.1 then (let y24 : Int := IntKind.i64.wrap (((z6.length : Nat) : Int) - 1)
  bif decide ((0 : Int) ≤ y24) && decide (y24 < ((z6.length : Nat) : Int)) then (withCons ((z6.getD ((y24).toNat) .undef).cells) fun h25 r26 =>
  withBool h25 fun b27 =>
  bif !b27 then (let y28 : Int := IntKind.i64.wrap (((z5.size : Nat) : Int) - 16)
  bif decide ((0 : Int) ≤ y28) && decide ((y28 : Int) ≤ ((z5.size : Nat) : Int)) then (let y29 : ByteArray := z5.extract (y28).toNat z5.size
  bif p22.1.toList == y29.toList then (k ((⟨#[]⟩ : ByteArray), [], z3, 8)) else (c25 z1 z3 p4.1 ((z6.length : Nat) : Int) p22.1 p22.2.1 z4 z5 z6)) else none) else (c25 z1 z3 p4.1 ((z6.length : Nat) : Int) p22.1 p22.2.1 z4 z5 z6)) else none) else (c25 z1 z3 p4.1 ((z6.length : Nat) : Int) p22.1 p22.2.1 z4 z5 z6)) else (c25 z1 z3 p4.1 ((z6.length : Nat) : Int) p22.1 p22.2.1 z4 z5 z6))))) else none) else (k (z5, z6, 0, 0))
noncomputable def tagged_ParseDump.r16 {R : Type} (n : Nat) (c6 : ByteArray → Bool → Int → ByteArray → ByteArray → List AV → Option R) (c16 : Int → ByteArray → Option R) (c25 : ByteArray → Int → ByteArray → Int → ByteArray → Bool → ByteArray → ByteArray → List AV → Option R) (c33 : ByteArray → Bool → Int → ByteArray → ByteArray → ByteArray → List AV → Option R) (k : ByteArray × List AV × Int × Int → Option R) (z1 : Int) (z2 : ByteArray) : Option R :=
  k ((⟨#[]⟩ : ByteArray), [], z1, 8)
noncomputable def tagged_ParseDump.r25 {R : Type} (n : Nat) (c6 : ByteArray → Bool → Int → ByteArray → ByteArray → List AV → Option R) (c16 : Int → ByteArray → Option R) (c25 : ByteArray → Int → ByteArray → Int → ByteArray → Bool → ByteArray → ByteArray → List AV → Option R) (c33 : ByteArray → Bool → Int → ByteArray → ByteArray → ByteArray → List AV → Option R) (k : ByteArray × List AV × Int × Int → Option R) (z1 : ByteArray) (z2 : Int) (z3 : ByteArray) (z4 : Int) (z5 : ByteArray) (z6 : Bool) (z7 : ByteArray) (z8 : ByteArray) (z9 : List AV) : Option R :=
  bif z4 == 64 then (k ((⟨#[]⟩ : ByteArray), [], z2, 2)) else ((tagged_PointerIn.F n z5).bind fun p31 =>
  bif z6 then (bif p31.2.2.2.2 != 0 then (k ((⟨#[]⟩ : ByteArray), [], z2, 22)) else (chk (decide (z8.size + z5.size ≤ 9223372036854775807)) (bif decide (z9.length + [vb z6].length ≤ most) then (c33 z1 false z2 z3 z7 (z8 ++ z5) (z9 ++ [vb z6])) else none))) else (chk (decide (z8.size + z5.size ≤ 9223372036854775807)) (bif decide (z9.length + [vb z6].length ≤ most) then (c33 z1 false z2 z3 z7 (z8 ++ z5) (z9 ++ [vb z6])) else none)))
noncomputable def tagged_ParseDump.r33 {R : Type} (n : Nat) (c6 : ByteArray → Bool → Int → ByteArray → ByteArray → List AV → Option R) (c16 : Int → ByteArray → Option R) (c25 : ByteArray → Int → ByteArray → Int → ByteArray → Bool → ByteArray → ByteArray → List AV → Option R) (c33 : ByteArray → Bool → Int → ByteArray → ByteArray → ByteArray → List AV → Option R) (k : ByteArray × List AV × Int × Int → Option R) (z1 : ByteArray) (z2 : Bool) (z3 : Int) (z4 : ByteArray) (z5 : ByteArray) (z6 : ByteArray) (z7 : List AV) : Option R :=
  let y30 : Int := IntKind.i64.wrap (((z4.size : Nat) : Int) + 1)
  c6 z1 z2 (IntKind.i64.wrap (z3 + y30)) z5 z6 z7
noncomputable def tagged_ParseDump.e {R : Type} (n : Nat) (c6 : ByteArray → Bool → Int → ByteArray → ByteArray → List AV → Option R) (c16 : Int → ByteArray → Option R) (c25 : ByteArray → Int → ByteArray → Int → ByteArray → Bool → ByteArray → ByteArray → List AV → Option R) (c33 : ByteArray → Bool → Int → ByteArray → ByteArray → ByteArray → List AV → Option R) (k : ByteArray × List AV × Int × Int → Option R) (a0 : ByteArray) : Option R :=
  let y1 : Bool := decide (((a0.size : Nat) : Int) > 6000)
  bif y1 then (k ((⟨#[]⟩ : ByteArray), [], 0, 2)) else (c6 a0 false 0 (⟨#[]⟩ : ByteArray) (⟨#[]⟩ : ByteArray) [])
noncomputable def tagged_ParseDump.C {R : Type} (n : Nat) (f : FuncId) (xs : List AV) : (AV → Option R) → Option R :=
  bif Nat.beq f 16 then tagged_PointerIn.via n xs else bif Nat.beq f 31 then strings_Cut.via n xs else bif Nat.beq f 32 then strings_CutPrefix.via n xs else bif Nat.beq f 33 then strconv_Atoi.via n xs else bif Nat.beq f 34 then strings_Trim.via n xs else bif Nat.beq f 35 then strings_Repeat.via n xs else bif Nat.beq f 36 then tagged_parsedRow.via n xs else fun _ => none
theorem tagged_ParseDump.tells {R : Type} (n : Nat) : Tells (R := R) Tryz.prog (tagged_ParseDump.C n) := fun _ xs => tells_at (tagged_PointerIn.tells1 n xs) (tells_at (strings_Cut.tells1 n xs) (tells_at (strings_CutPrefix.tells1 n xs) (tells_at (strconv_Atoi.tells1 n xs) (tells_at (strings_Trim.tells1 n xs) (tells_at (strings_Repeat.tells1 n xs) (tells_at (tagged_parsedRow.tells1 n xs) (Tells1.none)))))))
noncomputable def tagged_ParseDump.cut (r : Nat) : Option Keep := match r with | 6 => Option.some ⟨[0, 2, 5, 6, 7], [(5, Option.some 1, ⟨true, 4⟩, 1)]⟩ | 16 => Option.some ⟨[2, 7], []⟩ | 25 => Option.some ⟨[0, 2, 5, 7, 8, 11, 16, 17], []⟩ | 33 => Option.some ⟨[0, 2, 5, 6, 7, 8], []⟩ | _ => none
noncomputable def tagged_ParseDump.t6 : List Item := (todoOf 6 1000 [.code (Tryz.f11.body.getD .skip)]).getD []
noncomputable def tagged_ParseDump.s6 (z1 : ByteArray) (z2 : Bool) (z3 : Int) (z4 : ByteArray) (z5 : ByteArray) (z6 : List AV) : St := ⟨[vs z1, .undef, .ptr 0 0, .undef, .undef, .ptr 1 0, vb z2, vi z3, .undef, .undef, .undef, .undef, .undef, .undef, .undef, .undef, .undef, .undef, .undef, .undef, .undef, .undef, .undef, .undef, .undef, .undef, .undef, .undef, .undef, .undef, .undef, .undef, .undef, .undef, .undef, .undef, .undef, .undef, .undef, .undef, .undef, .undef, .undef, .undef, .undef, .undef, .undef, .undef, .undef, .undef, .undef, .undef, .undef, .undef, .undef, .undef, .undef, .undef, .undef, .undef, .undef, .undef, .undef, .undef, .undef, .undef, .undef, .undef, .undef, .undef, .undef, .undef, .undef, .undef, .undef, .undef, .undef, .undef, .undef, .undef, .undef, .undef, .undef, .undef, .undef, .undef, .undef, .undef, .undef, .undef, .undef, .undef, .undef, .undef, .undef, .undef, .undef, .undef, .undef, .undef, .undef, .undef, .undef, .undef, .undef, .undef, .undef, .undef, .undef, .undef, .undef, .undef, .undef, .undef, .undef, .undef, .undef, .undef, .undef, .undef, .undef, .undef, .undef, .undef, .undef, .undef, .undef, .undef, .undef, .undef, .undef, .undef, .undef, .undef, .undef, .undef, .undef, .undef, .undef, .undef, .undef, .undef, .undef, .undef, .undef, .undef, .undef, .undef, .undef, .undef, .undef, .undef, .undef, .undef, .undef, .undef, .undef, .undef, .undef, .undef, .undef, .undef, .undef, .undef, .undef, .undef, .undef, .undef, .undef, .undef, .undef, .undef, .undef, .undef, .undef, .undef, .undef, .undef, .undef, .undef, .undef, .undef, .undef, .undef, .undef, .undef], Mem.ofList [.box 24 [vs z4, .v (.slice none 0 0)], .box 24 [vs z5, .own 2 0 none], .row ⟨true, 4⟩ 1 z6], 3⟩
noncomputable def tagged_ParseDump.t16 : List Item := (todoOf 16 1000 [.code (Tryz.f11.body.getD .skip)]).getD []
noncomputable def tagged_ParseDump.s16 (z1 : Int) (z2 : ByteArray) : St := ⟨[.undef, .undef, .ptr 0 0, .undef, .undef, .undef, .undef, vi z1, .undef, .undef, .undef, .undef, .undef, .undef, .undef, .undef, .undef, .undef, .undef, .undef, .undef, .undef, .undef, .undef, .undef, .undef, .undef, .undef, .undef, .undef, .undef, .undef, .undef, .undef, .undef, .undef, .undef, .undef, .undef, .undef, .undef, .undef, .undef, .undef, .undef, .undef, .undef, .undef, .undef, .undef, .undef, .undef, .undef, .undef, .undef, .undef, .undef, .undef, .undef, .undef, .undef, .undef, .undef, .undef, .undef, .undef, .undef, .undef, .undef, .undef, .undef, .undef, .undef, .undef, .undef, .undef, .undef, .undef, .undef, .undef, .undef, .undef, .undef, .undef, .undef, .undef, .undef, .undef, .undef, .undef, .undef, .undef, .undef, .undef, .undef, .undef, .undef, .undef, .undef, .undef, .undef, .undef, .undef, .undef, .undef, .undef, .undef, .undef, .undef, .undef, .undef, .undef, .undef, .undef, .undef, .undef, .undef, .undef, .undef, .undef, .undef, .undef, .undef, .undef, .undef, .undef, .undef, .undef, .undef, .undef, .undef, .undef, .undef, .undef, .undef, .undef, .undef, .undef, .undef, .undef, .undef, .undef, .undef, .undef, .undef, .undef, .undef, .undef, .undef, .undef, .undef, .undef, .undef, .undef, .undef, .undef, .undef, .undef, .undef, .undef, .undef, .undef, .undef, .undef, .undef, .undef, .undef, .undef, .undef, .undef, .undef, .undef, .undef, .undef, .undef, .undef, .undef, .undef, .undef, .undef, .undef, .undef, .undef, .undef, .undef, .undef], Mem.ofList [.box 24 [vs z2, .v (.slice none 0 0)]], 1⟩
noncomputable def tagged_ParseDump.t25 : List Item := (todoOf 25 1000 [.code (Tryz.f11.body.getD .skip)]).getD []
noncomputable def tagged_ParseDump.s25 (z1 : ByteArray) (z2 : Int) (z3 : ByteArray) (z4 : Int) (z5 : ByteArray) (z6 : Bool) (z7 : ByteArray) (z8 : ByteArray) (z9 : List AV) : St := ⟨[vs z1, .undef, .ptr 0 0, .undef, .undef, .ptr 1 0, .undef, vi z2, vs z3, .undef, .undef, vi z4, .undef, .undef, .undef, .undef, vs z5, vb z6, .undef, .undef, .undef, .undef, .undef, .undef, .undef, .undef, .undef, .undef, .undef, .undef, .undef, .undef, .undef, .undef, .undef, .undef, .undef, .undef, .undef, .undef, .undef, .undef, .undef, .undef, .undef, .undef, .undef, .undef, .undef, .undef, .undef, .undef, .undef, .undef, .undef, .undef, .undef, .undef, .undef, .undef, .undef, .undef, .undef, .undef, .undef, .undef, .undef, .undef, .undef, .undef, .undef, .undef, .undef, .undef, .undef, .undef, .undef, .undef, .undef, .undef, .undef, .undef, .undef, .undef, .undef, .undef, .undef, .undef, .undef, .undef, .undef, .undef, .undef, .undef, .undef, .undef, .undef, .undef, .undef, .undef, .undef, .undef, .undef, .undef, .undef, .undef, .undef, .undef, .undef, .undef, .undef, .undef, .undef, .undef, .undef, .undef, .undef, .undef, .undef, .undef, .undef, .undef, .undef, .undef, .undef, .undef, .undef, .undef, .undef, .undef, .undef, .undef, .undef, .undef, .undef, .undef, .undef, .undef, .undef, .undef, .undef, .undef, .undef, .undef, .undef, .undef, .undef, .undef, .undef, .undef, .undef, .undef, .undef, .undef, .undef, .undef, .undef, .undef, .undef, .undef, .undef, .undef, .undef, .undef, .undef, .undef, .undef, .undef, .undef, .undef, .undef, .undef, .undef, .undef, .undef, .undef, .undef, .undef, .undef, .undef, .undef, .undef, .undef, .undef, .undef, .undef], Mem.ofList [.box 24 [vs z7, .v (.slice none 0 0)], .box 24 [vs z8, .own 2 0 none], .row ⟨true, 4⟩ 1 z9], 3⟩
noncomputable def tagged_ParseDump.t33 : List Item := (todoOf 33 1000 [.code (Tryz.f11.body.getD .skip)]).getD []
noncomputable def tagged_ParseDump.s33 (z1 : ByteArray) (z2 : Bool) (z3 : Int) (z4 : ByteArray) (z5 : ByteArray) (z6 : ByteArray) (z7 : List AV) : St := ⟨[vs z1, .undef, .ptr 0 0, .undef, .undef, .ptr 1 0, vb z2, vi z3, vs z4, .undef, .undef, .undef, .undef, .undef, .undef, .undef, .undef, .undef, .undef, .undef, .undef, .undef, .undef, .undef, .undef, .undef, .undef, .undef, .undef, .undef, .undef, .undef, .undef, .undef, .undef, .undef, .undef, .undef, .undef, .undef, .undef, .undef, .undef, .undef, .undef, .undef, .undef, .undef, .undef, .undef, .undef, .undef, .undef, .undef, .undef, .undef, .undef, .undef, .undef, .undef, .undef, .undef, .undef, .undef, .undef, .undef, .undef, .undef, .undef, .undef, .undef, .undef, .undef, .undef, .undef, .undef, .undef, .undef, .undef, .undef, .undef, .undef, .undef, .undef, .undef, .undef, .undef, .undef, .undef, .undef, .undef, .undef, .undef, .undef, .undef, .undef, .undef, .undef, .undef, .undef, .undef, .undef, .undef, .undef, .undef, .undef, .undef, .undef, .undef, .undef, .undef, .undef, .undef, .undef, .undef, .undef, .undef, .undef, .undef, .undef, .undef, .undef, .undef, .undef, .undef, .undef, .undef, .undef, .undef, .undef, .undef, .undef, .undef, .undef, .undef, .undef, .undef, .undef, .undef, .undef, .undef, .undef, .undef, .undef, .undef, .undef, .undef, .undef, .undef, .undef, .undef, .undef, .undef, .undef, .undef, .undef, .undef, .undef, .undef, .undef, .undef, .undef, .undef, .undef, .undef, .undef, .undef, .undef, .undef, .undef, .undef, .undef, .undef, .undef, .undef, .undef, .undef, .undef, .undef, .undef, .undef, .undef, .undef, .undef, .undef, .undef], Mem.ofList [.box 24 [vs z5, .v (.slice none 0 0)], .box 24 [vs z6, .own 2 0 none], .row ⟨true, 4⟩ 1 z7], 3⟩
theorem tagged_ParseDump.e_eq {R : Type} (n : Nat) (rec : List Item → St → Option R) (K : AV → Option R) (a0 : ByteArray) :
    goK G (tagged_ParseDump.C n) tagged_ParseDump.cut (fun S => finK G Tryz.f11.resultTypes.toList Tryz.f11.results.toList S K) rec 1000 [.code (Tryz.f11.body.getD .skip)] (Ev.start Tryz.f11 [vs a0]) = tagged_ParseDump.e n (fun z1 z2 z3 z4 z5 z6 => rec tagged_ParseDump.t6 (tagged_ParseDump.s6 z1 z2 z3 z4 z5 z6)) (fun z1 z2 => rec tagged_ParseDump.t16 (tagged_ParseDump.s16 z1 z2)) (fun z1 z2 z3 z4 z5 z6 z7 z8 z9 => rec tagged_ParseDump.t25 (tagged_ParseDump.s25 z1 z2 z3 z4 z5 z6 z7 z8 z9)) (fun z1 z2 z3 z4 z5 z6 z7 => rec tagged_ParseDump.t33 (tagged_ParseDump.s33 z1 z2 z3 z4 z5 z6 z7)) (fun p => K (.tup [.agg [vs p.1, .fr ⟨true, 4⟩ 1 p.2.1], vi p.2.2.1, vi p.2.2.2])) a0 := by kernel_rfl
theorem tagged_ParseDump.r6_eq {R : Type} (n : Nat) (rec : List Item → St → Option R) (K : AV → Option R) (z1 : ByteArray) (z2 : Bool) (z3 : Int) (z4 : ByteArray) (z5 : ByteArray) (z6 : List AV) :
    atK G (tagged_ParseDump.C n) tagged_ParseDump.cut (fun S => finK G Tryz.f11.resultTypes.toList Tryz.f11.results.toList S K) rec tagged_ParseDump.t6 (tagged_ParseDump.s6 z1 z2 z3 z4 z5 z6) = tagged_ParseDump.r6 n (fun z1 z2 z3 z4 z5 z6 => rec tagged_ParseDump.t6 (tagged_ParseDump.s6 z1 z2 z3 z4 z5 z6)) (fun z1 z2 => rec tagged_ParseDump.t16 (tagged_ParseDump.s16 z1 z2)) (fun z1 z2 z3 z4 z5 z6 z7 z8 z9 => rec tagged_ParseDump.t25 (tagged_ParseDump.s25 z1 z2 z3 z4 z5 z6 z7 z8 z9)) (fun z1 z2 z3 z4 z5 z6 z7 => rec tagged_ParseDump.t33 (tagged_ParseDump.s33 z1 z2 z3 z4 z5 z6 z7)) (fun p => K (.tup [.agg [vs p.1, .fr ⟨true, 4⟩ 1 p.2.1], vi p.2.2.1, vi p.2.2.2])) z1 z2 z3 z4 z5 z6 := by kernel_rfl
theorem tagged_ParseDump.r16_eq {R : Type} (n : Nat) (rec : List Item → St → Option R) (K : AV → Option R) (z1 : Int) (z2 : ByteArray) :
    atK G (tagged_ParseDump.C n) tagged_ParseDump.cut (fun S => finK G Tryz.f11.resultTypes.toList Tryz.f11.results.toList S K) rec tagged_ParseDump.t16 (tagged_ParseDump.s16 z1 z2) = tagged_ParseDump.r16 n (fun z1 z2 z3 z4 z5 z6 => rec tagged_ParseDump.t6 (tagged_ParseDump.s6 z1 z2 z3 z4 z5 z6)) (fun z1 z2 => rec tagged_ParseDump.t16 (tagged_ParseDump.s16 z1 z2)) (fun z1 z2 z3 z4 z5 z6 z7 z8 z9 => rec tagged_ParseDump.t25 (tagged_ParseDump.s25 z1 z2 z3 z4 z5 z6 z7 z8 z9)) (fun z1 z2 z3 z4 z5 z6 z7 => rec tagged_ParseDump.t33 (tagged_ParseDump.s33 z1 z2 z3 z4 z5 z6 z7)) (fun p => K (.tup [.agg [vs p.1, .fr ⟨true, 4⟩ 1 p.2.1], vi p.2.2.1, vi p.2.2.2])) z1 z2 := by kernel_rfl
theorem tagged_ParseDump.r25_eq {R : Type} (n : Nat) (rec : List Item → St → Option R) (K : AV → Option R) (z1 : ByteArray) (z2 : Int) (z3 : ByteArray) (z4 : Int) (z5 : ByteArray) (z6 : Bool) (z7 : ByteArray) (z8 : ByteArray) (z9 : List AV) :
    atK G (tagged_ParseDump.C n) tagged_ParseDump.cut (fun S => finK G Tryz.f11.resultTypes.toList Tryz.f11.results.toList S K) rec tagged_ParseDump.t25 (tagged_ParseDump.s25 z1 z2 z3 z4 z5 z6 z7 z8 z9) = tagged_ParseDump.r25 n (fun z1 z2 z3 z4 z5 z6 => rec tagged_ParseDump.t6 (tagged_ParseDump.s6 z1 z2 z3 z4 z5 z6)) (fun z1 z2 => rec tagged_ParseDump.t16 (tagged_ParseDump.s16 z1 z2)) (fun z1 z2 z3 z4 z5 z6 z7 z8 z9 => rec tagged_ParseDump.t25 (tagged_ParseDump.s25 z1 z2 z3 z4 z5 z6 z7 z8 z9)) (fun z1 z2 z3 z4 z5 z6 z7 => rec tagged_ParseDump.t33 (tagged_ParseDump.s33 z1 z2 z3 z4 z5 z6 z7)) (fun p => K (.tup [.agg [vs p.1, .fr ⟨true, 4⟩ 1 p.2.1], vi p.2.2.1, vi p.2.2.2])) z1 z2 z3 z4 z5 z6 z7 z8 z9 := by kernel_rfl
theorem tagged_ParseDump.r33_eq {R : Type} (n : Nat) (rec : List Item → St → Option R) (K : AV → Option R) (z1 : ByteArray) (z2 : Bool) (z3 : Int) (z4 : ByteArray) (z5 : ByteArray) (z6 : ByteArray) (z7 : List AV) :
    atK G (tagged_ParseDump.C n) tagged_ParseDump.cut (fun S => finK G Tryz.f11.resultTypes.toList Tryz.f11.results.toList S K) rec tagged_ParseDump.t33 (tagged_ParseDump.s33 z1 z2 z3 z4 z5 z6 z7) = tagged_ParseDump.r33 n (fun z1 z2 z3 z4 z5 z6 => rec tagged_ParseDump.t6 (tagged_ParseDump.s6 z1 z2 z3 z4 z5 z6)) (fun z1 z2 => rec tagged_ParseDump.t16 (tagged_ParseDump.s16 z1 z2)) (fun z1 z2 z3 z4 z5 z6 z7 z8 z9 => rec tagged_ParseDump.t25 (tagged_ParseDump.s25 z1 z2 z3 z4 z5 z6 z7 z8 z9)) (fun z1 z2 z3 z4 z5 z6 z7 => rec tagged_ParseDump.t33 (tagged_ParseDump.s33 z1 z2 z3 z4 z5 z6 z7)) (fun p => K (.tup [.agg [vs p.1, .fr ⟨true, 4⟩ 1 p.2.1], vi p.2.2.1, vi p.2.2.2])) z1 z2 z3 z4 z5 z6 z7 := by kernel_rfl
noncomputable def tagged_ParseDump.l (n : Nat) : Nat → (ByteArray → Bool → Int → ByteArray → ByteArray → List AV → Option (ByteArray × List AV × Int × Int)) × (Int → ByteArray → Option (ByteArray × List AV × Int × Int)) × (ByteArray → Int → ByteArray → Int → ByteArray → Bool → ByteArray → ByteArray → List AV → Option (ByteArray × List AV × Int × Int)) × (ByteArray → Bool → Int → ByteArray → ByteArray → ByteArray → List AV → Option (ByteArray × List AV × Int × Int))
  | 0 => ((fun _ _ _ _ _ _ => none), (fun _ _ => none), (fun _ _ _ _ _ _ _ _ _ => none), (fun _ _ _ _ _ _ _ => none))
  | m + 1 => (tagged_ParseDump.r6 n ((tagged_ParseDump.l n m).1) ((tagged_ParseDump.l n m).2.1) ((tagged_ParseDump.l n m).2.2.1) ((tagged_ParseDump.l n m).2.2.2) Option.some, tagged_ParseDump.r16 n ((tagged_ParseDump.l n m).1) ((tagged_ParseDump.l n m).2.1) ((tagged_ParseDump.l n m).2.2.1) ((tagged_ParseDump.l n m).2.2.2) Option.some, tagged_ParseDump.r25 n ((tagged_ParseDump.l n m).1) ((tagged_ParseDump.l n m).2.1) ((tagged_ParseDump.l n m).2.2.1) ((tagged_ParseDump.l n m).2.2.2) Option.some, tagged_ParseDump.r33 n ((tagged_ParseDump.l n m).1) ((tagged_ParseDump.l n m).2.1) ((tagged_ParseDump.l n m).2.2.1) ((tagged_ParseDump.l n m).2.2.2) Option.some)
noncomputable def tagged_ParseDump.F (n : Nat) (a0 : ByteArray) : Option (ByteArray × List AV × Int × Int) := tagged_ParseDump.e n ((tagged_ParseDump.l n n).1) ((tagged_ParseDump.l n n).2.1) ((tagged_ParseDump.l n n).2.2.1) ((tagged_ParseDump.l n n).2.2.2) Option.some a0
noncomputable def tagged_ParseDump.dec (x : AV) : Option (ByteArray × List AV × Int × Int) := match x with | .tup [.agg [.v (.string p0), .fr ⟨true, 4⟩ 1 p1], .v (.int .i64 p2), .v (.int .i64 p3)] => Option.some (p0, p1, p2, p3) | _ => none
theorem tagged_ParseDump.dec_inv {p : ByteArray × List AV × Int × Int} (y : AV) (h : tagged_ParseDump.dec y = some p) : y = .tup [.agg [vs p.1, .fr ⟨true, 4⟩ 1 p.2.1], vi p.2.2.1, vi p.2.2.2] := by
  unfold tagged_ParseDump.dec at h
  split at h
  · cases h; rfl
  · cases h
theorem tagged_ParseDump.l_eq (n m : Nat) : (∀ (z1 : ByteArray) (z2 : Bool) (z3 : Int) (z4 : ByteArray) (z5 : ByteArray) (z6 : List AV), runK G (tagged_ParseDump.C n) tagged_ParseDump.cut (fun S => finK G Tryz.f11.resultTypes.toList Tryz.f11.results.toList S tagged_ParseDump.dec) m tagged_ParseDump.t6 (tagged_ParseDump.s6 z1 z2 z3 z4 z5 z6) = ((tagged_ParseDump.l n m).1) z1 z2 z3 z4 z5 z6) ∧ (∀ (z1 : Int) (z2 : ByteArray), runK G (tagged_ParseDump.C n) tagged_ParseDump.cut (fun S => finK G Tryz.f11.resultTypes.toList Tryz.f11.results.toList S tagged_ParseDump.dec) m tagged_ParseDump.t16 (tagged_ParseDump.s16 z1 z2) = ((tagged_ParseDump.l n m).2.1) z1 z2) ∧ (∀ (z1 : ByteArray) (z2 : Int) (z3 : ByteArray) (z4 : Int) (z5 : ByteArray) (z6 : Bool) (z7 : ByteArray) (z8 : ByteArray) (z9 : List AV), runK G (tagged_ParseDump.C n) tagged_ParseDump.cut (fun S => finK G Tryz.f11.resultTypes.toList Tryz.f11.results.toList S tagged_ParseDump.dec) m tagged_ParseDump.t25 (tagged_ParseDump.s25 z1 z2 z3 z4 z5 z6 z7 z8 z9) = ((tagged_ParseDump.l n m).2.2.1) z1 z2 z3 z4 z5 z6 z7 z8 z9) ∧ (∀ (z1 : ByteArray) (z2 : Bool) (z3 : Int) (z4 : ByteArray) (z5 : ByteArray) (z6 : ByteArray) (z7 : List AV), runK G (tagged_ParseDump.C n) tagged_ParseDump.cut (fun S => finK G Tryz.f11.resultTypes.toList Tryz.f11.results.toList S tagged_ParseDump.dec) m tagged_ParseDump.t33 (tagged_ParseDump.s33 z1 z2 z3 z4 z5 z6 z7) = ((tagged_ParseDump.l n m).2.2.2) z1 z2 z3 z4 z5 z6 z7) := by
  induction m with
  | zero => exact ⟨fun z1 z2 z3 z4 z5 z6 => rfl, fun z1 z2 => rfl, fun z1 z2 z3 z4 z5 z6 z7 z8 z9 => rfl, fun z1 z2 z3 z4 z5 z6 z7 => rfl⟩
  | succ m ih =>
    obtain ⟨h6, h16, h25, h33⟩ := ih
    have e6 : (fun (z1 : ByteArray) (z2 : Bool) (z3 : Int) (z4 : ByteArray) (z5 : ByteArray) (z6 : List AV) => runK G (tagged_ParseDump.C n) tagged_ParseDump.cut (fun S => finK G Tryz.f11.resultTypes.toList Tryz.f11.results.toList S tagged_ParseDump.dec) m tagged_ParseDump.t6 (tagged_ParseDump.s6 z1 z2 z3 z4 z5 z6)) = (tagged_ParseDump.l n m).1 := by funext z1 z2 z3 z4 z5 z6; exact h6 z1 z2 z3 z4 z5 z6
    have e16 : (fun (z1 : Int) (z2 : ByteArray) => runK G (tagged_ParseDump.C n) tagged_ParseDump.cut (fun S => finK G Tryz.f11.resultTypes.toList Tryz.f11.results.toList S tagged_ParseDump.dec) m tagged_ParseDump.t16 (tagged_ParseDump.s16 z1 z2)) = (tagged_ParseDump.l n m).2.1 := by funext z1 z2; exact h16 z1 z2
    have e25 : (fun (z1 : ByteArray) (z2 : Int) (z3 : ByteArray) (z4 : Int) (z5 : ByteArray) (z6 : Bool) (z7 : ByteArray) (z8 : ByteArray) (z9 : List AV) => runK G (tagged_ParseDump.C n) tagged_ParseDump.cut (fun S => finK G Tryz.f11.resultTypes.toList Tryz.f11.results.toList S tagged_ParseDump.dec) m tagged_ParseDump.t25 (tagged_ParseDump.s25 z1 z2 z3 z4 z5 z6 z7 z8 z9)) = (tagged_ParseDump.l n m).2.2.1 := by funext z1 z2 z3 z4 z5 z6 z7 z8 z9; exact h25 z1 z2 z3 z4 z5 z6 z7 z8 z9
    have e33 : (fun (z1 : ByteArray) (z2 : Bool) (z3 : Int) (z4 : ByteArray) (z5 : ByteArray) (z6 : ByteArray) (z7 : List AV) => runK G (tagged_ParseDump.C n) tagged_ParseDump.cut (fun S => finK G Tryz.f11.resultTypes.toList Tryz.f11.results.toList S tagged_ParseDump.dec) m tagged_ParseDump.t33 (tagged_ParseDump.s33 z1 z2 z3 z4 z5 z6 z7)) = (tagged_ParseDump.l n m).2.2.2 := by funext z1 z2 z3 z4 z5 z6 z7; exact h33 z1 z2 z3 z4 z5 z6 z7
    have q6 : ∀ (z1 : ByteArray) (z2 : Bool) (z3 : Int) (z4 : ByteArray) (z5 : ByteArray) (z6 : List AV), runK G (tagged_ParseDump.C n) tagged_ParseDump.cut (fun S => finK G Tryz.f11.resultTypes.toList Tryz.f11.results.toList S tagged_ParseDump.dec) (m + 1) tagged_ParseDump.t6 (tagged_ParseDump.s6 z1 z2 z3 z4 z5 z6) = ((tagged_ParseDump.l n (m + 1)).1) z1 z2 z3 z4 z5 z6 := by
      intro z1 z2 z3 z4 z5 z6
      rw [runK_succ]
      refine (tagged_ParseDump.r6_eq n _ tagged_ParseDump.dec z1 z2 z3 z4 z5 z6).trans ?_
      rw [e6, e16, e25, e33]
      rfl
    have q16 : ∀ (z1 : Int) (z2 : ByteArray), runK G (tagged_ParseDump.C n) tagged_ParseDump.cut (fun S => finK G Tryz.f11.resultTypes.toList Tryz.f11.results.toList S tagged_ParseDump.dec) (m + 1) tagged_ParseDump.t16 (tagged_ParseDump.s16 z1 z2) = ((tagged_ParseDump.l n (m + 1)).2.1) z1 z2 := by
      intro z1 z2
      rw [runK_succ]
      refine (tagged_ParseDump.r16_eq n _ tagged_ParseDump.dec z1 z2).trans ?_
      rw [e6, e16, e25, e33]
      rfl
    have q25 : ∀ (z1 : ByteArray) (z2 : Int) (z3 : ByteArray) (z4 : Int) (z5 : ByteArray) (z6 : Bool) (z7 : ByteArray) (z8 : ByteArray) (z9 : List AV), runK G (tagged_ParseDump.C n) tagged_ParseDump.cut (fun S => finK G Tryz.f11.resultTypes.toList Tryz.f11.results.toList S tagged_ParseDump.dec) (m + 1) tagged_ParseDump.t25 (tagged_ParseDump.s25 z1 z2 z3 z4 z5 z6 z7 z8 z9) = ((tagged_ParseDump.l n (m + 1)).2.2.1) z1 z2 z3 z4 z5 z6 z7 z8 z9 := by
      intro z1 z2 z3 z4 z5 z6 z7 z8 z9
      rw [runK_succ]
      refine (tagged_ParseDump.r25_eq n _ tagged_ParseDump.dec z1 z2 z3 z4 z5 z6 z7 z8 z9).trans ?_
      rw [e6, e16, e25, e33]
      rfl
    have q33 : ∀ (z1 : ByteArray) (z2 : Bool) (z3 : Int) (z4 : ByteArray) (z5 : ByteArray) (z6 : ByteArray) (z7 : List AV), runK G (tagged_ParseDump.C n) tagged_ParseDump.cut (fun S => finK G Tryz.f11.resultTypes.toList Tryz.f11.results.toList S tagged_ParseDump.dec) (m + 1) tagged_ParseDump.t33 (tagged_ParseDump.s33 z1 z2 z3 z4 z5 z6 z7) = ((tagged_ParseDump.l n (m + 1)).2.2.2) z1 z2 z3 z4 z5 z6 z7 := by
      intro z1 z2 z3 z4 z5 z6 z7
      rw [runK_succ]
      refine (tagged_ParseDump.r33_eq n _ tagged_ParseDump.dec z1 z2 z3 z4 z5 z6 z7).trans ?_
      rw [e6, e16, e25, e33]
      rfl
    exact ⟨q6, q16, q25, q33⟩
theorem tagged_ParseDump.hands (n : Nat) (a0 : ByteArray) {p : ByteArray × List AV × Int × Int} (h : tagged_ParseDump.F n a0 = some p) : HandsIn Tryz.prog 11 [vs a0] (.tup [.agg [vs p.1, .fr ⟨true, 4⟩ 1 p.2.1], vi p.2.2.1, vi p.2.2.2]) := by
  refine hands_of cfg mixed (fun _ => rfl) rfl (tagged_ParseDump.tells n) (fn := Tryz.f11) Tryz.func11 (by kernel_rfl) (by kernel_rfl) (cut := tagged_ParseDump.cut) (K := tagged_ParseDump.dec) (r := p) (n := n) tagged_ParseDump.dec_inv ?_
  rw [funK_getD (by kernel_rfl)]
  have h1 := tagged_ParseDump.e_eq n (runK G (tagged_ParseDump.C n) tagged_ParseDump.cut (fun S => finK G Tryz.f11.resultTypes.toList Tryz.f11.results.toList S tagged_ParseDump.dec) n) tagged_ParseDump.dec a0
  have hl := tagged_ParseDump.l_eq n n
  simp only [hl.1, hl.2.1, hl.2.2.1, hl.2.2.2] at h1
  exact h1.trans h
noncomputable def tagged_ParseDump.via {R : Type} (n : Nat) (xs : List AV) : (AV → Option R) → Option R := match xs with | [.v (.string a0)] => fun K => (tagged_ParseDump.F n a0).bind fun p => K (.tup [.agg [vs p.1, .fr ⟨true, 4⟩ 1 p.2.1], vi p.2.2.1, vi p.2.2.2]) | _ => fun _ => none
theorem tagged_ParseDump.tells1 {R : Type} (n : Nat) (xs : List AV) : Tells1 (R := R) Tryz.prog 11 xs (tagged_ParseDump.via n xs) := by
  unfold tagged_ParseDump.via
  split
  · exact Tells1.of (fun p hp => (tagged_ParseDump.hands n _ hp).hands rfl)
  · exact Tells1.none
end Go.Proofs.YtgmpnhfnkhohiaaGreatDoor.Ev

/- midrange/midrangebase.Bools, out of its evaluation. Printed by the session's own program. -/
namespace Go.Proofs.YtgmpnhfnkhohiaaGreatDoor.Ev
open Go Go.Proofs Go.Proofs.Ev
set_option linter.unusedVariables false
set_option maxRecDepth 100000
/-! midrange/midrangebase.Bools: function 41 -/
noncomputable def midrangebase_Bools.r4 {R : Type} (n : Nat) (c4 : List AV → List AV → Int → Option R) (k : Bool → Option R) (z1 : List AV) (z2 : List AV) (z3 : Int) : Option R :=
  let y2 : Bool := decide (z3 < ((z1.length : Nat) : Int))
  bif y2 then (bif decide ((0 : Int) ≤ z3) && decide (z3 < ((z1.length : Nat) : Int)) then (withCons ((z1.getD ((z3).toNat) .undef).cells) fun h3 r4 =>
  withBool h3 fun b5 =>
  bif decide ((0 : Int) ≤ z3) && decide (z3 < ((z2.length : Nat) : Int)) then (withCons ((z2.getD ((z3).toNat) .undef).cells) fun h6 r7 =>
  withBool h6 fun b8 =>
  bif !(b5 == b8) then (k false) else (c4 z1 z2 (IntKind.i64.wrap (z3 + 1)))) else none) else none) else (k true)
noncomputable def midrangebase_Bools.e {R : Type} (n : Nat) (c4 : List AV → List AV → Int → Option R) (k : Bool → Option R) (a0 : List AV) (a1 : List AV) : Option R :=
  let y1 : Bool := ((a0.length : Nat) : Int) != ((a1.length : Nat) : Int)
  bif y1 then (k false) else (c4 a0 a1 0)
noncomputable def midrangebase_Bools.C {R : Type} (n : Nat) (f : FuncId) (xs : List AV) : (AV → Option R) → Option R :=
  fun _ => none
theorem midrangebase_Bools.tells {R : Type} (n : Nat) : Tells (R := R) Tryz.prog (midrangebase_Bools.C n) := fun _ xs => Tells1.none
noncomputable def midrangebase_Bools.cut (r : Nat) : Option Keep := match r with | 4 => Option.some ⟨[0, 1, 5], []⟩ | _ => none
noncomputable def midrangebase_Bools.t4 : List Item := (todoOf 4 1000 [.code (Tryz.f41.body.getD .skip)]).getD []
noncomputable def midrangebase_Bools.s4 (z1 : List AV) (z2 : List AV) (z3 : Int) : St := ⟨[.sl ⟨true, 4⟩ 1 z1, .sl ⟨true, 4⟩ 1 z2, .undef, .undef, .undef, vi z3, .undef, .undef, .undef, .undef, .undef, .undef, .undef, .undef, .undef, .undef, .undef, .undef, .undef, .undef, .undef, .undef, .undef, .undef, .undef, .undef], Mem.ofList [], 0⟩
theorem midrangebase_Bools.e_eq {R : Type} (n : Nat) (rec : List Item → St → Option R) (K : AV → Option R) (a0 : List AV) (a1 : List AV) :
    goK G (midrangebase_Bools.C n) midrangebase_Bools.cut (fun S => finK G Tryz.f41.resultTypes.toList Tryz.f41.results.toList S K) rec 1000 [.code (Tryz.f41.body.getD .skip)] (Ev.start Tryz.f41 [.sl ⟨true, 4⟩ 1 a0, .sl ⟨true, 4⟩ 1 a1]) = midrangebase_Bools.e n (fun z1 z2 z3 => rec midrangebase_Bools.t4 (midrangebase_Bools.s4 z1 z2 z3)) (fun p => K (vb p)) a0 a1 := by kernel_rfl
theorem midrangebase_Bools.r4_eq {R : Type} (n : Nat) (rec : List Item → St → Option R) (K : AV → Option R) (z1 : List AV) (z2 : List AV) (z3 : Int) :
    atK G (midrangebase_Bools.C n) midrangebase_Bools.cut (fun S => finK G Tryz.f41.resultTypes.toList Tryz.f41.results.toList S K) rec midrangebase_Bools.t4 (midrangebase_Bools.s4 z1 z2 z3) = midrangebase_Bools.r4 n (fun z1 z2 z3 => rec midrangebase_Bools.t4 (midrangebase_Bools.s4 z1 z2 z3)) (fun p => K (vb p)) z1 z2 z3 := by kernel_rfl
noncomputable def midrangebase_Bools.l (n : Nat) : Nat → (List AV → List AV → Int → Option (Bool))
  | 0 => (fun _ _ _ => none)
  | m + 1 => midrangebase_Bools.r4 n (midrangebase_Bools.l n m) Option.some
noncomputable def midrangebase_Bools.F (n : Nat) (a0 : List AV) (a1 : List AV) : Option (Bool) := midrangebase_Bools.e n (midrangebase_Bools.l n n) Option.some a0 a1
noncomputable def midrangebase_Bools.dec (x : AV) : Option (Bool) := match x with | .v (.bool p0) => Option.some p0 | _ => none
theorem midrangebase_Bools.dec_inv {p : Bool} (y : AV) (h : midrangebase_Bools.dec y = some p) : y = vb p := by
  unfold midrangebase_Bools.dec at h
  split at h
  · cases h; rfl
  · cases h
theorem midrangebase_Bools.l_eq (n m : Nat) : (∀ (z1 : List AV) (z2 : List AV) (z3 : Int), runK G (midrangebase_Bools.C n) midrangebase_Bools.cut (fun S => finK G Tryz.f41.resultTypes.toList Tryz.f41.results.toList S midrangebase_Bools.dec) m midrangebase_Bools.t4 (midrangebase_Bools.s4 z1 z2 z3) = (midrangebase_Bools.l n m) z1 z2 z3) := by
  induction m with
  | zero => exact fun z1 z2 z3 => rfl
  | succ m ih =>
    have h4 := ih
    have e4 : (fun (z1 : List AV) (z2 : List AV) (z3 : Int) => runK G (midrangebase_Bools.C n) midrangebase_Bools.cut (fun S => finK G Tryz.f41.resultTypes.toList Tryz.f41.results.toList S midrangebase_Bools.dec) m midrangebase_Bools.t4 (midrangebase_Bools.s4 z1 z2 z3)) = (midrangebase_Bools.l n m) := by funext z1 z2 z3; exact h4 z1 z2 z3
    have q4 : ∀ (z1 : List AV) (z2 : List AV) (z3 : Int), runK G (midrangebase_Bools.C n) midrangebase_Bools.cut (fun S => finK G Tryz.f41.resultTypes.toList Tryz.f41.results.toList S midrangebase_Bools.dec) (m + 1) midrangebase_Bools.t4 (midrangebase_Bools.s4 z1 z2 z3) = (midrangebase_Bools.l n (m + 1)) z1 z2 z3 := by
      intro z1 z2 z3
      rw [runK_succ]
      refine (midrangebase_Bools.r4_eq n _ midrangebase_Bools.dec z1 z2 z3).trans ?_
      rw [e4]
      rfl
    exact q4
theorem midrangebase_Bools.hands (n : Nat) (a0 : List AV) (a1 : List AV) {p : Bool} (h : midrangebase_Bools.F n a0 a1 = some p) : HandsIn Tryz.prog 41 [.sl ⟨true, 4⟩ 1 a0, .sl ⟨true, 4⟩ 1 a1] (vb p) := by
  refine hands_of cfg mixed (fun _ => rfl) rfl (midrangebase_Bools.tells n) (fn := Tryz.f41) Tryz.func41 (by kernel_rfl) (by kernel_rfl) (cut := midrangebase_Bools.cut) (K := midrangebase_Bools.dec) (r := p) (n := n) midrangebase_Bools.dec_inv ?_
  rw [funK_getD (by kernel_rfl)]
  have h1 := midrangebase_Bools.e_eq n (runK G (midrangebase_Bools.C n) midrangebase_Bools.cut (fun S => finK G Tryz.f41.resultTypes.toList Tryz.f41.results.toList S midrangebase_Bools.dec) n) midrangebase_Bools.dec a0 a1
  have hl := midrangebase_Bools.l_eq n n
  simp only [hl] at h1
  exact h1.trans h
noncomputable def midrangebase_Bools.via {R : Type} (n : Nat) (xs : List AV) : (AV → Option R) → Option R := match xs with | [.sl ⟨true, 4⟩ 1 a0, .sl ⟨true, 4⟩ 1 a1] => fun K => (midrangebase_Bools.F n a0 a1).bind fun p => K (vb p) | _ => fun _ => none
theorem midrangebase_Bools.tells1 {R : Type} (n : Nat) (xs : List AV) : Tells1 (R := R) Tryz.prog 41 xs (midrangebase_Bools.via n xs) := by
  unfold midrangebase_Bools.via
  split
  · exact Tells1.of (fun p hp => (midrangebase_Bools.hands n _ _ hp).hands rfl)
  · exact Tells1.none
end Go.Proofs.YtgmpnhfnkhohiaaGreatDoor.Ev

/- midrange/midrangebase.SameStorage, out of its evaluation. Printed by the session's own program. -/
namespace Go.Proofs.YtgmpnhfnkhohiaaGreatDoor.Ev
open Go Go.Proofs Go.Proofs.Ev
set_option linter.unusedVariables false
set_option maxRecDepth 100000
/-! midrange/midrangebase.SameStorage: function 13 -/
noncomputable def midrangebase_SameStorage.e {R : Type} (n : Nat)  (k : Bool → Option R) (a0 : ByteArray) (a1 : List AV) (a2 : ByteArray) (a3 : List AV) : Option R :=
  bif a0.toList == a2.toList then ((midrangebase_Bools.F n a1 a3).bind fun p1 =>
  k p1) else (k false)
noncomputable def midrangebase_SameStorage.C {R : Type} (n : Nat) (f : FuncId) (xs : List AV) : (AV → Option R) → Option R :=
  bif Nat.beq f 41 then midrangebase_Bools.via n xs else fun _ => none
theorem midrangebase_SameStorage.tells {R : Type} (n : Nat) : Tells (R := R) Tryz.prog (midrangebase_SameStorage.C n) := fun _ xs => tells_at (midrangebase_Bools.tells1 n xs) (Tells1.none)
noncomputable def midrangebase_SameStorage.cut (r : Nat) : Option Keep := match r with  | _ => none
theorem midrangebase_SameStorage.e_eq {R : Type} (n : Nat) (rec : List Item → St → Option R) (K : AV → Option R) (a0 : ByteArray) (a1 : List AV) (a2 : ByteArray) (a3 : List AV) :
    goK G (midrangebase_SameStorage.C n) midrangebase_SameStorage.cut (fun S => finK G Tryz.f13.resultTypes.toList Tryz.f13.results.toList S K) rec 1000 [.code (Tryz.f13.body.getD .skip)] (Ev.start Tryz.f13 [AV.agg [vs a0, .sl ⟨true, 4⟩ 1 a1], .agg [vs a2, .sl ⟨true, 4⟩ 1 a3]]) = midrangebase_SameStorage.e n  (fun p => K (vb p)) a0 a1 a2 a3 := by kernel_rfl
noncomputable def midrangebase_SameStorage.F (n : Nat) (a0 : ByteArray) (a1 : List AV) (a2 : ByteArray) (a3 : List AV) : Option (Bool) := midrangebase_SameStorage.e n  Option.some a0 a1 a2 a3
noncomputable def midrangebase_SameStorage.dec (x : AV) : Option (Bool) := match x with | .v (.bool p0) => Option.some p0 | _ => none
theorem midrangebase_SameStorage.dec_inv {p : Bool} (y : AV) (h : midrangebase_SameStorage.dec y = some p) : y = vb p := by
  unfold midrangebase_SameStorage.dec at h
  split at h
  · cases h; rfl
  · cases h
theorem midrangebase_SameStorage.hands (n : Nat) (a0 : ByteArray) (a1 : List AV) (a2 : ByteArray) (a3 : List AV) {p : Bool} (h : midrangebase_SameStorage.F n a0 a1 a2 a3 = some p) : HandsIn Tryz.prog 13 [AV.agg [vs a0, .sl ⟨true, 4⟩ 1 a1], .agg [vs a2, .sl ⟨true, 4⟩ 1 a3]] (vb p) := by
  refine hands_of cfg mixed (fun _ => rfl) rfl (midrangebase_SameStorage.tells n) (fn := Tryz.f13) Tryz.func13 (by kernel_rfl) (by kernel_rfl) (cut := midrangebase_SameStorage.cut) (K := midrangebase_SameStorage.dec) (r := p) (n := n) midrangebase_SameStorage.dec_inv ?_
  rw [funK_getD (by kernel_rfl)]
  have h1 := midrangebase_SameStorage.e_eq n (runK G (midrangebase_SameStorage.C n) midrangebase_SameStorage.cut (fun S => finK G Tryz.f13.resultTypes.toList Tryz.f13.results.toList S midrangebase_SameStorage.dec) n) midrangebase_SameStorage.dec a0 a1 a2 a3
  exact h1.trans h
noncomputable def midrangebase_SameStorage.via {R : Type} (n : Nat) (xs : List AV) : (AV → Option R) → Option R := match xs with | [.agg [.v (.string a0), .sl ⟨true, 4⟩ 1 a1], .agg [.v (.string a2), .sl ⟨true, 4⟩ 1 a3]] => fun K => (midrangebase_SameStorage.F n a0 a1 a2 a3).bind fun p => K (vb p) | _ => fun _ => none
theorem midrangebase_SameStorage.tells1 {R : Type} (n : Nat) (xs : List AV) : Tells1 (R := R) Tryz.prog 13 xs (midrangebase_SameStorage.via n xs) := by
  unfold midrangebase_SameStorage.via
  split
  · exact Tells1.of (fun p hp => (midrangebase_SameStorage.hands n _ _ _ _ hp).hands rfl)
  · exact Tells1.none
end Go.Proofs.YtgmpnhfnkhohiaaGreatDoor.Ev

/- midrange/tagged.place, out of its evaluation. Printed by the session's own program. -/
namespace Go.Proofs.YtgmpnhfnkhohiaaGreatDoor.Ev
open Go Go.Proofs Go.Proofs.Ev
set_option linter.unusedVariables false
set_option maxRecDepth 100000
/-! midrange/tagged.place: function 46 -/
noncomputable def tagged_place.r5 {R : Type} (n : Nat) (c5 : Unit → Option R) (k : Int → Option R) (_ : Unit) : Option R :=
  k 3
noncomputable def tagged_place.e {R : Type} (n : Nat) (c5 : Unit → Option R) (k : Int → Option R) (a0 : ByteArray) (a1 : List AV) (a2 : Int) : Option R :=
  (tagged_CheckStorage.F n a0 a1).bind fun p1 =>
  bif p1.2 != 0 then (k p1.2) else (bif decide (a2 < 0) then (c5 ()) else (let y2 : Bool := decide (a2 ≥ ((a0.size : Nat) : Int))
  bif y2 then (c5 ()) else (bif (Int.tmod a2 16) != 0 then (c5 ()) else (k 0))))
noncomputable def tagged_place.C {R : Type} (n : Nat) (f : FuncId) (xs : List AV) : (AV → Option R) → Option R :=
  bif Nat.beq f 20 then tagged_CheckStorage.via n xs else fun _ => none
theorem tagged_place.tells {R : Type} (n : Nat) : Tells (R := R) Tryz.prog (tagged_place.C n) := fun _ xs => tells_at (tagged_CheckStorage.tells1 n xs) (Tells1.none)
noncomputable def tagged_place.cut (r : Nat) : Option Keep := match r with | 5 => Option.some ⟨[], []⟩ | _ => none
noncomputable def tagged_place.t5 : List Item := (todoOf 5 1000 [.code (Tryz.f46.body.getD .skip)]).getD []
noncomputable def tagged_place.s5 (_ : Unit) : St := ⟨[.undef, .undef, .undef, .undef, .undef, .undef, .undef, .undef, .undef, .undef, .undef, .undef, .undef, .undef, .undef, .undef, .undef, .undef, .undef, .undef, .undef, .undef, .undef, .undef, .undef, .undef, .undef, .undef, .undef], Mem.ofList [], 0⟩
theorem tagged_place.e_eq {R : Type} (n : Nat) (rec : List Item → St → Option R) (K : AV → Option R) (a0 : ByteArray) (a1 : List AV) (a2 : Int) :
    goK G (tagged_place.C n) tagged_place.cut (fun S => finK G Tryz.f46.resultTypes.toList Tryz.f46.results.toList S K) rec 1000 [.code (Tryz.f46.body.getD .skip)] (Ev.start Tryz.f46 [AV.agg [vs a0, .sl ⟨true, 4⟩ 1 a1], vi a2]) = tagged_place.e n (fun _ => rec tagged_place.t5 (tagged_place.s5 ())) (fun p => K (vi p)) a0 a1 a2 := by kernel_rfl
theorem tagged_place.r5_eq {R : Type} (n : Nat) (rec : List Item → St → Option R) (K : AV → Option R) (_ : Unit) :
    atK G (tagged_place.C n) tagged_place.cut (fun S => finK G Tryz.f46.resultTypes.toList Tryz.f46.results.toList S K) rec tagged_place.t5 (tagged_place.s5 ()) = tagged_place.r5 n (fun _ => rec tagged_place.t5 (tagged_place.s5 ())) (fun p => K (vi p)) () := by kernel_rfl
noncomputable def tagged_place.l (n : Nat) : Nat → (Unit → Option (Int))
  | 0 => (fun _ => none)
  | m + 1 => tagged_place.r5 n (tagged_place.l n m) Option.some
noncomputable def tagged_place.F (n : Nat) (a0 : ByteArray) (a1 : List AV) (a2 : Int) : Option (Int) := tagged_place.e n (tagged_place.l n n) Option.some a0 a1 a2
noncomputable def tagged_place.dec (x : AV) : Option (Int) := match x with | .v (.int .i64 p0) => Option.some p0 | _ => none
theorem tagged_place.dec_inv {p : Int} (y : AV) (h : tagged_place.dec y = some p) : y = vi p := by
  unfold tagged_place.dec at h
  split at h
  · cases h; rfl
  · cases h
theorem tagged_place.l_eq (n m : Nat) : (∀ z : Unit, runK G (tagged_place.C n) tagged_place.cut (fun S => finK G Tryz.f46.resultTypes.toList Tryz.f46.results.toList S tagged_place.dec) m tagged_place.t5 (tagged_place.s5 z) = (tagged_place.l n m) z) := by
  induction m with
  | zero => exact fun _ => rfl
  | succ m ih =>
    have h5 := ih
    have e5 : (fun (_ : Unit) => runK G (tagged_place.C n) tagged_place.cut (fun S => finK G Tryz.f46.resultTypes.toList Tryz.f46.results.toList S tagged_place.dec) m tagged_place.t5 (tagged_place.s5 ())) = (tagged_place.l n m) := by funext z; exact h5 z
    have q5 : ∀ z : Unit, runK G (tagged_place.C n) tagged_place.cut (fun S => finK G Tryz.f46.resultTypes.toList Tryz.f46.results.toList S tagged_place.dec) (m + 1) tagged_place.t5 (tagged_place.s5 z) = (tagged_place.l n (m + 1)) z := by
      intro z
      rw [runK_succ]
      refine (tagged_place.r5_eq n _ tagged_place.dec ()).trans ?_
      rw [e5]
      rfl
    exact q5
theorem tagged_place.hands (n : Nat) (a0 : ByteArray) (a1 : List AV) (a2 : Int) {p : Int} (h : tagged_place.F n a0 a1 a2 = some p) : HandsIn Tryz.prog 46 [AV.agg [vs a0, .sl ⟨true, 4⟩ 1 a1], vi a2] (vi p) := by
  refine hands_of cfg mixed (fun _ => rfl) rfl (tagged_place.tells n) (fn := Tryz.f46) Tryz.func46 (by kernel_rfl) (by kernel_rfl) (cut := tagged_place.cut) (K := tagged_place.dec) (r := p) (n := n) tagged_place.dec_inv ?_
  rw [funK_getD (by kernel_rfl)]
  have h1 := tagged_place.e_eq n (runK G (tagged_place.C n) tagged_place.cut (fun S => finK G Tryz.f46.resultTypes.toList Tryz.f46.results.toList S tagged_place.dec) n) tagged_place.dec a0 a1 a2
  have hl := tagged_place.l_eq n n
  simp only [hl] at h1
  exact h1.trans h
noncomputable def tagged_place.via {R : Type} (n : Nat) (xs : List AV) : (AV → Option R) → Option R := match xs with | [.agg [.v (.string a0), .sl ⟨true, 4⟩ 1 a1], .v (.int .i64 a2)] => fun K => (tagged_place.F n a0 a1 a2).bind fun p => K (vi p) | _ => fun _ => none
theorem tagged_place.tells1 {R : Type} (n : Nat) (xs : List AV) : Tells1 (R := R) Tryz.prog 46 xs (tagged_place.via n xs) := by
  unfold tagged_place.via
  split
  · exact Tells1.of (fun p hp => (tagged_place.hands n _ _ _ hp).hands rfl)
  · exact Tells1.none
end Go.Proofs.YtgmpnhfnkhohiaaGreatDoor.Ev

/- slices.Clone[[]bool,bool], out of the library's contract. Printed by the session's own program. -/
namespace Go.Proofs.YtgmpnhfnkhohiaaGreatDoor.Ev
open Go Go.Proofs Go.Proofs.Ev
set_option linter.unusedVariables false
set_option maxRecDepth 100000
noncomputable def slices_Clone_bool_bool.F (n : Nat) (xs : List AV) : Option (List AV) := bif decide (xs.length ≤ most) then Option.some xs else none
theorem slices_Clone_bool_bool.hands (n : Nat) (xs : List AV) {p : List AV} (h : slices_Clone_bool_bool.F n xs = some p) : HandsIn Tryz.prog 76 [.sl ⟨true, 4⟩ 1 xs] (.fr ⟨true, 4⟩ 1 p) := by
  unfold slices_Clone_bool_bool.F at h
  cases hc : decide (xs.length ≤ most) with
  | false => rw [hc] at h; cases h
  | true =>
    rw [hc] at h
    cases h
    exact clone_hands (G := G) Tryz.lay76 cfg (ei := ⟨.bool, 1, 1, false, [.bool], [.bool false], 4⟩) rfl (by decide) (by decide) (by rfl) (fn := Tryz.f76) Tryz.func76 (by kernel_rfl) (by kernel_rfl) xs (of_decide_eq_true hc)
noncomputable def slices_Clone_bool_bool.via {R : Type} (n : Nat) (ys : List AV) : (AV → Option R) → Option R := match ys with | [.sl ⟨true, 4⟩ 1 xs] => fun K => (slices_Clone_bool_bool.F n xs).bind fun p => K (.fr ⟨true, 4⟩ 1 p) | _ => fun _ => none
theorem slices_Clone_bool_bool.tells1 {R : Type} (n : Nat) (ys : List AV) : Tells1 (R := R) Tryz.prog 76 ys (slices_Clone_bool_bool.via n ys) := by
  unfold slices_Clone_bool_bool.via
  split
  · exact Tells1.of (fun p hp => (slices_Clone_bool_bool.hands n _ hp).hands rfl)
  · exact Tells1.none
end Go.Proofs.YtgmpnhfnkhohiaaGreatDoor.Ev

/- midrange/tagged.put, out of its evaluation. Printed by the session's own program. -/
namespace Go.Proofs.YtgmpnhfnkhohiaaGreatDoor.Ev
open Go Go.Proofs Go.Proofs.Ev
set_option linter.unusedVariables false
set_option maxRecDepth 100000
/-! midrange/tagged.put: function 47 -/
noncomputable def tagged_put.e {R : Type} (n : Nat)  (k : ByteArray × List AV → Option R) (a0 : ByteArray) (a1 : List AV) (a2 : Int) (a3 : ByteArray) : Option R :=
  bif decide ((0 : Int) ≤ a2) && decide ((a2 : Int) ≤ ((a0.size : Nat) : Int)) then (chk (decide ((a0.extract 0 (a2).toNat).size + a3.size ≤ 9223372036854775807)) (let y1 : ByteArray := (a0.extract 0 (a2).toNat) ++ a3
  let y2 : Int := IntKind.i64.wrap (a2 + ((a3.size : Nat) : Int))
  bif decide ((0 : Int) ≤ y2) && decide ((y2 : Int) ≤ ((a0.size : Nat) : Int)) then (let y3 : ByteArray := a0.extract (y2).toNat a0.size
  chk (decide (y1.size + y3.size ≤ 9223372036854775807)) ((slices_Clone_bool_bool.F n a1).bind fun p4 =>
  let y5 : Bool := !(a3.toList == (⟨#[]⟩ : ByteArray).toList)
  bif y5 then (let y6 : Int := IntKind.i64.wrap (Int.tdiv a2 16)
  let y7 : Int := IntKind.i64.wrap (a2 + ((a3.size : Nat) : Int))
  let y8 : Int := IntKind.i64.wrap (Int.tdiv (IntKind.i64.wrap (y7 - 1)) 16)
  bif decide ((0 : Int) ≤ IntKind.i64.wrap (y8 + 1)) && decide ((IntKind.i64.wrap (y8 + 1) : Int) ≤ ((p4.length : Nat) : Int)) then (bif decide ((0 : Int) ≤ y6) && decide ((y6 : Int) ≤ IntKind.i64.wrap (y8 + 1)) then (let y9 : List AV := p4.take ((y6).toNat) ++ List.replicate (((IntKind.i64.wrap (y8 + 1)) - y6).toNat) (vb false) ++ p4.drop (((IntKind.i64.wrap (y8 + 1)) - y6).toNat + ((y6).toNat))
  k (y1 ++ y3, y9)) else none) else none) else (k (y1 ++ y3, p4)))) else none)) else none
noncomputable def tagged_put.C {R : Type} (n : Nat) (f : FuncId) (xs : List AV) : (AV → Option R) → Option R :=
  bif Nat.beq f 76 then slices_Clone_bool_bool.via n xs else fun _ => none
theorem tagged_put.tells {R : Type} (n : Nat) : Tells (R := R) Tryz.prog (tagged_put.C n) := fun _ xs => tells_at (slices_Clone_bool_bool.tells1 n xs) (Tells1.none)
noncomputable def tagged_put.cut (r : Nat) : Option Keep := match r with  | _ => none
theorem tagged_put.e_eq {R : Type} (n : Nat) (rec : List Item → St → Option R) (K : AV → Option R) (a0 : ByteArray) (a1 : List AV) (a2 : Int) (a3 : ByteArray) :
    goK G (tagged_put.C n) tagged_put.cut (fun S => finK G Tryz.f47.resultTypes.toList Tryz.f47.results.toList S K) rec 1000 [.code (Tryz.f47.body.getD .skip)] (Ev.start Tryz.f47 [AV.agg [vs a0, .sl ⟨true, 4⟩ 1 a1], vi a2, vs a3]) = tagged_put.e n  (fun p => K (.agg [vs p.1, .fr ⟨true, 4⟩ 1 p.2])) a0 a1 a2 a3 := by kernel_rfl
noncomputable def tagged_put.F (n : Nat) (a0 : ByteArray) (a1 : List AV) (a2 : Int) (a3 : ByteArray) : Option (ByteArray × List AV) := tagged_put.e n  Option.some a0 a1 a2 a3
noncomputable def tagged_put.dec (x : AV) : Option (ByteArray × List AV) := match x with | .agg [.v (.string p0), .fr ⟨true, 4⟩ 1 p1] => Option.some (p0, p1) | _ => none
theorem tagged_put.dec_inv {p : ByteArray × List AV} (y : AV) (h : tagged_put.dec y = some p) : y = .agg [vs p.1, .fr ⟨true, 4⟩ 1 p.2] := by
  unfold tagged_put.dec at h
  split at h
  · cases h; rfl
  · cases h
theorem tagged_put.hands (n : Nat) (a0 : ByteArray) (a1 : List AV) (a2 : Int) (a3 : ByteArray) {p : ByteArray × List AV} (h : tagged_put.F n a0 a1 a2 a3 = some p) : HandsIn Tryz.prog 47 [AV.agg [vs a0, .sl ⟨true, 4⟩ 1 a1], vi a2, vs a3] (.agg [vs p.1, .fr ⟨true, 4⟩ 1 p.2]) := by
  refine hands_of cfg mixed (fun _ => rfl) rfl (tagged_put.tells n) (fn := Tryz.f47) Tryz.func47 (by kernel_rfl) (by kernel_rfl) (cut := tagged_put.cut) (K := tagged_put.dec) (r := p) (n := n) tagged_put.dec_inv ?_
  rw [funK_getD (by kernel_rfl)]
  have h1 := tagged_put.e_eq n (runK G (tagged_put.C n) tagged_put.cut (fun S => finK G Tryz.f47.resultTypes.toList Tryz.f47.results.toList S tagged_put.dec) n) tagged_put.dec a0 a1 a2 a3
  exact h1.trans h
noncomputable def tagged_put.via {R : Type} (n : Nat) (xs : List AV) : (AV → Option R) → Option R := match xs with | [.agg [.v (.string a0), .sl ⟨true, 4⟩ 1 a1], .v (.int .i64 a2), .v (.string a3)] => fun K => (tagged_put.F n a0 a1 a2 a3).bind fun p => K (.agg [vs p.1, .fr ⟨true, 4⟩ 1 p.2]) | _ => fun _ => none
theorem tagged_put.tells1 {R : Type} (n : Nat) (xs : List AV) : Tells1 (R := R) Tryz.prog 47 xs (tagged_put.via n xs) := by
  unfold tagged_put.via
  split
  · exact Tells1.of (fun p hp => (tagged_put.hands n _ _ _ _ hp).hands rfl)
  · exact Tells1.none
end Go.Proofs.YtgmpnhfnkhohiaaGreatDoor.Ev

/- midrange/tagged.StorePointer, out of its evaluation. Printed by the session's own program. -/
namespace Go.Proofs.YtgmpnhfnkhohiaaGreatDoor.Ev
open Go Go.Proofs Go.Proofs.Ev
set_option linter.unusedVariables false
set_option maxRecDepth 100000
/-! midrange/tagged.StorePointer: function 17 -/
noncomputable def tagged_StorePointer.e {R : Type} (n : Nat)  (k : ByteArray × List AV × Int → Option R) (a0 : ByteArray) (a1 : List AV) (a2 : Int) (a3 : Int) (a4 : Int) (a5 : Int) (a6 : Int) : Option R :=
  (tagged_place.F n a0 a1 a2).bind fun p1 =>
  bif p1 != 0 then (k ((⟨#[]⟩ : ByteArray), [], p1)) else ((tagged_CheckPointer.F n a3 a4 a5 a6).bind fun p2 =>
  bif p2 != 0 then (k ((⟨#[]⟩ : ByteArray), [], p2)) else ((tagged_encoded.F n a3 a4 a5 a6).bind fun p3 =>
  (tagged_put.F n a0 a1 a2 p3).bind fun p4 =>
  let y5 : Int := IntKind.i64.wrap (Int.tdiv a2 16)
  bif decide ((0 : Int) ≤ y5) && decide (y5 < ((p4.2.length : Nat) : Int)) then (let y6 : List AV := p4.2.set ((y5).toNat) (vb true)
  k (p4.1, y6, 0)) else none))
noncomputable def tagged_StorePointer.C {R : Type} (n : Nat) (f : FuncId) (xs : List AV) : (AV → Option R) → Option R :=
  bif Nat.beq f 43 then tagged_CheckPointer.via n xs else bif Nat.beq f 44 then tagged_encoded.via n xs else bif Nat.beq f 46 then tagged_place.via n xs else bif Nat.beq f 47 then tagged_put.via n xs else fun _ => none
theorem tagged_StorePointer.tells {R : Type} (n : Nat) : Tells (R := R) Tryz.prog (tagged_StorePointer.C n) := fun _ xs => tells_at (tagged_CheckPointer.tells1 n xs) (tells_at (tagged_encoded.tells1 n xs) (tells_at (tagged_place.tells1 n xs) (tells_at (tagged_put.tells1 n xs) (Tells1.none))))
noncomputable def tagged_StorePointer.cut (r : Nat) : Option Keep := match r with  | _ => none
theorem tagged_StorePointer.e_eq {R : Type} (n : Nat) (rec : List Item → St → Option R) (K : AV → Option R) (a0 : ByteArray) (a1 : List AV) (a2 : Int) (a3 : Int) (a4 : Int) (a5 : Int) (a6 : Int) :
    goK G (tagged_StorePointer.C n) tagged_StorePointer.cut (fun S => finK G Tryz.f17.resultTypes.toList Tryz.f17.results.toList S K) rec 1000 [.code (Tryz.f17.body.getD .skip)] (Ev.start Tryz.f17 [AV.agg [vs a0, .sl ⟨true, 4⟩ 1 a1], vi a2, .agg [vi a3, vi a4, vi a5, vi a6]]) = tagged_StorePointer.e n  (fun p => K (.tup [.agg [vs p.1, .fr ⟨true, 4⟩ 1 p.2.1], vi p.2.2])) a0 a1 a2 a3 a4 a5 a6 := by kernel_rfl
noncomputable def tagged_StorePointer.F (n : Nat) (a0 : ByteArray) (a1 : List AV) (a2 : Int) (a3 : Int) (a4 : Int) (a5 : Int) (a6 : Int) : Option (ByteArray × List AV × Int) := tagged_StorePointer.e n  Option.some a0 a1 a2 a3 a4 a5 a6
noncomputable def tagged_StorePointer.dec (x : AV) : Option (ByteArray × List AV × Int) := match x with | .tup [.agg [.v (.string p0), .fr ⟨true, 4⟩ 1 p1], .v (.int .i64 p2)] => Option.some (p0, p1, p2) | _ => none
theorem tagged_StorePointer.dec_inv {p : ByteArray × List AV × Int} (y : AV) (h : tagged_StorePointer.dec y = some p) : y = .tup [.agg [vs p.1, .fr ⟨true, 4⟩ 1 p.2.1], vi p.2.2] := by
  unfold tagged_StorePointer.dec at h
  split at h
  · cases h; rfl
  · cases h
theorem tagged_StorePointer.hands (n : Nat) (a0 : ByteArray) (a1 : List AV) (a2 : Int) (a3 : Int) (a4 : Int) (a5 : Int) (a6 : Int) {p : ByteArray × List AV × Int} (h : tagged_StorePointer.F n a0 a1 a2 a3 a4 a5 a6 = some p) : HandsIn Tryz.prog 17 [AV.agg [vs a0, .sl ⟨true, 4⟩ 1 a1], vi a2, .agg [vi a3, vi a4, vi a5, vi a6]] (.tup [.agg [vs p.1, .fr ⟨true, 4⟩ 1 p.2.1], vi p.2.2]) := by
  refine hands_of cfg mixed (fun _ => rfl) rfl (tagged_StorePointer.tells n) (fn := Tryz.f17) Tryz.func17 (by kernel_rfl) (by kernel_rfl) (cut := tagged_StorePointer.cut) (K := tagged_StorePointer.dec) (r := p) (n := n) tagged_StorePointer.dec_inv ?_
  rw [funK_getD (by kernel_rfl)]
  have h1 := tagged_StorePointer.e_eq n (runK G (tagged_StorePointer.C n) tagged_StorePointer.cut (fun S => finK G Tryz.f17.resultTypes.toList Tryz.f17.results.toList S tagged_StorePointer.dec) n) tagged_StorePointer.dec a0 a1 a2 a3 a4 a5 a6
  exact h1.trans h
noncomputable def tagged_StorePointer.via {R : Type} (n : Nat) (xs : List AV) : (AV → Option R) → Option R := match xs with | [.agg [.v (.string a0), .sl ⟨true, 4⟩ 1 a1], .v (.int .i64 a2), .agg [.v (.int .i64 a3), .v (.int .i64 a4), .v (.int .i64 a5), .v (.int .i64 a6)]] => fun K => (tagged_StorePointer.F n a0 a1 a2 a3 a4 a5 a6).bind fun p => K (.tup [.agg [vs p.1, .fr ⟨true, 4⟩ 1 p.2.1], vi p.2.2]) | _ => fun _ => none
theorem tagged_StorePointer.tells1 {R : Type} (n : Nat) (xs : List AV) : Tells1 (R := R) Tryz.prog 17 xs (tagged_StorePointer.via n xs) := by
  unfold tagged_StorePointer.via
  split
  · exact Tells1.of (fun p hp => (tagged_StorePointer.hands n _ _ _ _ _ _ _ hp).hands rfl)
  · exact Tells1.none
end Go.Proofs.YtgmpnhfnkhohiaaGreatDoor.Ev

/- midrange/tagged.LoadPointer, out of its evaluation. Printed by the session's own program. -/
namespace Go.Proofs.YtgmpnhfnkhohiaaGreatDoor.Ev
open Go Go.Proofs Go.Proofs.Ev
set_option linter.unusedVariables false
set_option maxRecDepth 100000
/-! midrange/tagged.LoadPointer: function 18 -/
noncomputable def tagged_LoadPointer.e {R : Type} (n : Nat)  (k : Int × Int × Int × Int × Int → Option R) (a0 : ByteArray) (a1 : List AV) (a2 : Int) : Option R :=
  (tagged_place.F n a0 a1 a2).bind fun p1 =>
  bif p1 != 0 then (k (0, 0, 0, 0, p1)) else (let y2 : Int := IntKind.i64.wrap (Int.tdiv a2 16)
  bif decide ((0 : Int) ≤ y2) && decide (y2 < ((a1.length : Nat) : Int)) then (withCons ((a1.getD ((y2).toNat) .undef).cells) fun h3 r4 =>
  withBool h3 fun b5 =>
  bif !b5 then (k (0, 0, 0, 0, 22)) else (bif decide ((0 : Int) ≤ IntKind.i64.wrap (a2 + 16)) && decide ((IntKind.i64.wrap (a2 + 16) : Int) ≤ ((a0.size : Nat) : Int)) then (bif decide ((0 : Int) ≤ a2) && decide ((a2 : Int) ≤ IntKind.i64.wrap (a2 + 16)) then (let y6 : ByteArray := a0.extract (a2).toNat (IntKind.i64.wrap (a2 + 16)).toNat
  (tagged_PointerIn.F n y6).bind fun p7 =>
  k (p7.1, p7.2.1, p7.2.2.1, p7.2.2.2.1, p7.2.2.2.2)) else none) else none)) else none)
noncomputable def tagged_LoadPointer.C {R : Type} (n : Nat) (f : FuncId) (xs : List AV) : (AV → Option R) → Option R :=
  bif Nat.beq f 16 then tagged_PointerIn.via n xs else bif Nat.beq f 46 then tagged_place.via n xs else fun _ => none
theorem tagged_LoadPointer.tells {R : Type} (n : Nat) : Tells (R := R) Tryz.prog (tagged_LoadPointer.C n) := fun _ xs => tells_at (tagged_PointerIn.tells1 n xs) (tells_at (tagged_place.tells1 n xs) (Tells1.none))
noncomputable def tagged_LoadPointer.cut (r : Nat) : Option Keep := match r with  | _ => none
theorem tagged_LoadPointer.e_eq {R : Type} (n : Nat) (rec : List Item → St → Option R) (K : AV → Option R) (a0 : ByteArray) (a1 : List AV) (a2 : Int) :
    goK G (tagged_LoadPointer.C n) tagged_LoadPointer.cut (fun S => finK G Tryz.f18.resultTypes.toList Tryz.f18.results.toList S K) rec 1000 [.code (Tryz.f18.body.getD .skip)] (Ev.start Tryz.f18 [AV.agg [vs a0, .sl ⟨true, 4⟩ 1 a1], vi a2]) = tagged_LoadPointer.e n  (fun p => K (.tup [.agg [vi p.1, vi p.2.1, vi p.2.2.1, vi p.2.2.2.1], vi p.2.2.2.2])) a0 a1 a2 := by kernel_rfl
noncomputable def tagged_LoadPointer.F (n : Nat) (a0 : ByteArray) (a1 : List AV) (a2 : Int) : Option (Int × Int × Int × Int × Int) := tagged_LoadPointer.e n  Option.some a0 a1 a2
noncomputable def tagged_LoadPointer.dec (x : AV) : Option (Int × Int × Int × Int × Int) := match x with | .tup [.agg [.v (.int .i64 p0), .v (.int .i64 p1), .v (.int .i64 p2), .v (.int .i64 p3)], .v (.int .i64 p4)] => Option.some (p0, p1, p2, p3, p4) | _ => none
theorem tagged_LoadPointer.dec_inv {p : Int × Int × Int × Int × Int} (y : AV) (h : tagged_LoadPointer.dec y = some p) : y = .tup [.agg [vi p.1, vi p.2.1, vi p.2.2.1, vi p.2.2.2.1], vi p.2.2.2.2] := by
  unfold tagged_LoadPointer.dec at h
  split at h
  · cases h; rfl
  · cases h
theorem tagged_LoadPointer.hands (n : Nat) (a0 : ByteArray) (a1 : List AV) (a2 : Int) {p : Int × Int × Int × Int × Int} (h : tagged_LoadPointer.F n a0 a1 a2 = some p) : HandsIn Tryz.prog 18 [AV.agg [vs a0, .sl ⟨true, 4⟩ 1 a1], vi a2] (.tup [.agg [vi p.1, vi p.2.1, vi p.2.2.1, vi p.2.2.2.1], vi p.2.2.2.2]) := by
  refine hands_of cfg mixed (fun _ => rfl) rfl (tagged_LoadPointer.tells n) (fn := Tryz.f18) Tryz.func18 (by kernel_rfl) (by kernel_rfl) (cut := tagged_LoadPointer.cut) (K := tagged_LoadPointer.dec) (r := p) (n := n) tagged_LoadPointer.dec_inv ?_
  rw [funK_getD (by kernel_rfl)]
  have h1 := tagged_LoadPointer.e_eq n (runK G (tagged_LoadPointer.C n) tagged_LoadPointer.cut (fun S => finK G Tryz.f18.resultTypes.toList Tryz.f18.results.toList S tagged_LoadPointer.dec) n) tagged_LoadPointer.dec a0 a1 a2
  exact h1.trans h
noncomputable def tagged_LoadPointer.via {R : Type} (n : Nat) (xs : List AV) : (AV → Option R) → Option R := match xs with | [.agg [.v (.string a0), .sl ⟨true, 4⟩ 1 a1], .v (.int .i64 a2)] => fun K => (tagged_LoadPointer.F n a0 a1 a2).bind fun p => K (.tup [.agg [vi p.1, vi p.2.1, vi p.2.2.1, vi p.2.2.2.1], vi p.2.2.2.2]) | _ => fun _ => none
theorem tagged_LoadPointer.tells1 {R : Type} (n : Nat) (xs : List AV) : Tells1 (R := R) Tryz.prog 18 xs (tagged_LoadPointer.via n xs) := by
  unfold tagged_LoadPointer.via
  split
  · exact Tells1.of (fun p hp => (tagged_LoadPointer.hands n _ _ _ hp).hands rfl)
  · exact Tells1.none
end Go.Proofs.YtgmpnhfnkhohiaaGreatDoor.Ev

/- midrange/midrangelaw03.TaggedBack, out of its evaluation. Printed by the session's own program. -/
namespace Go.Proofs.YtgmpnhfnkhohiaaGreatDoor.Ev
open Go Go.Proofs Go.Proofs.Ev
set_option linter.unusedVariables false
set_option maxRecDepth 100000
/-! midrange/midrangelaw03.TaggedBack: function 4 -/
noncomputable def midrangelaw03_TaggedBack.r4 {R : Type} (n : Nat) (c4 : Unit → Option R) (c9 : Unit → Option R) (c11 : ByteArray → Int → ByteArray → List AV → Int → Int → Int → Int → Int → Int → Int → Int → Option R) (c16 : Unit → Option R) (c20 : Unit → Option R) (k : Bool → Option R) (_ : Unit) : Option R :=
  k true
noncomputable def midrangelaw03_TaggedBack.r9 {R : Type} (n : Nat) (c4 : Unit → Option R) (c9 : Unit → Option R) (c11 : ByteArray → Int → ByteArray → List AV → Int → Int → Int → Int → Int → Int → Int → Int → Option R) (c16 : Unit → Option R) (c20 : Unit → Option R) (k : Bool → Option R) (_ : Unit) : Option R :=
  k false
noncomputable def midrangelaw03_TaggedBack.r11 {R : Type} (n : Nat) (c4 : Unit → Option R) (c9 : Unit → Option R) (c11 : ByteArray → Int → ByteArray → List AV → Int → Int → Int → Int → Int → Int → Int → Int → Option R) (c16 : Unit → Option R) (c20 : Unit → Option R) (k : Bool → Option R) (z1 : ByteArray) (z2 : Int) (z3 : ByteArray) (z4 : List AV) (z5 : Int) (z6 : Int) (z7 : Int) (z8 : Int) (z9 : Int) (z10 : Int) (z11 : Int) (z12 : Int) : Option R :=
  let y16 : Bool := decide (z2 < ((z4.length : Nat) : Int))
  bif y16 then ((midrangebase_OwnStorage.F n z3 z4).bind fun p17 =>
  (tagged_StorePointer.F n p17.1 p17.2 (IntKind.i64.wrap (z2 * 16)) z5 z6 z7 z8).bind fun p18 =>
  (midrangebase_OwnStorage.F n p18.1 p18.2.1).bind fun p19 =>
  (tagged_LoadPointer.F n p19.1 p19.2 (IntKind.i64.wrap (z2 * 16))).bind fun p20 =>
  bif p18.2.2 != 0 then (c16 ()) else (bif p20.2.2.2.2 != 0 then (c16 ()) else (let y21 : Bool := !((p20.1 == z5) && ((p20.2.1 == z6) && ((p20.2.2.1 == z7) && ((p20.2.2.2.1 == z8) && true))))
  bif y21 then (c16 ()) else (c11 z1 (IntKind.i64.wrap (z2 + 1)) z3 z4 z5 z6 z7 z8 p20.1 p20.2.1 p20.2.2.1 p20.2.2.2.1)))) else ((midrangebase_OwnStorage.F n z3 z4).bind fun p22 =>
  (tagged_Dump.F n p22.1 p22.2).bind fun p23 =>
  (tagged_ParseDump.F n p23.1).bind fun p24 =>
  bif p23.2 != 0 then (c20 ()) else (bif p24.2.2.2 != 0 then (c20 ()) else (bif p24.2.2.1 != 0 then (c20 ()) else ((midrangebase_SameStorage.F n p24.1 p24.2.1 z3 z4).bind fun p25 =>
  bif !p25 then (c20 ()) else ((tagged_ParseDump.F n z1).bind fun p26 =>
  bif p26.2.2.2 != 0 then (k true) else ((midrangebase_OwnStorage.F n p26.1 p26.2.1).bind fun p27 =>
  (tagged_Dump.F n p27.1 p27.2).bind fun p28 =>
  bif p28.2 == 0 then (k (p28.1.toList == z1.toList)) else (k false)))))))
noncomputable def midrangelaw03_TaggedBack.r16 {R : Type} (n : Nat) (c4 : Unit → Option R) (c9 : Unit → Option R) (c11 : ByteArray → Int → ByteArray → List AV → Int → Int → Int → Int → Int → Int → Int → Int → Option R) (c16 : Unit → Option R) (c20 : Unit → Option R) (k : Bool → Option R) (_ : Unit) : Option R :=
  k false
noncomputable def midrangelaw03_TaggedBack.r20 {R : Type} (n : Nat) (c4 : Unit → Option R) (c9 : Unit → Option R) (c11 : ByteArray → Int → ByteArray → List AV → Int → Int → Int → Int → Int → Int → Int → Int → Option R) (c16 : Unit → Option R) (c20 : Unit → Option R) (k : Bool → Option R) (_ : Unit) : Option R :=
  k false
noncomputable def midrangelaw03_TaggedBack.e {R : Type} (n : Nat) (c4 : Unit → Option R) (c9 : Unit → Option R) (c11 : ByteArray → Int → ByteArray → List AV → Int → Int → Int → Int → Int → Int → Int → Int → Option R) (c16 : Unit → Option R) (c20 : Unit → Option R) (k : Bool → Option R) (a0 : ByteArray) (a1 : List AV) (a2 : Int) (a3 : Int) (a4 : Int) (a5 : Int) (a6 : ByteArray) : Option R :=
  (midrangelaw03_awake.F n ).bind fun p1 =>
  bif !p1 then (k false) else ((midrangelaw03_few.F n a0 a1).bind fun p2 =>
  bif !p2 then (c4 ()) else (let y3 : Bool := decide (((a6.size : Nat) : Int) > 6000)
  bif y3 then (c4 ()) else ((midrangeref03_Err.F n a0 a1).bind fun p4 =>
  bif p4 != 0 then (c4 ()) else ((midrangeref03_PointerErr.F n a2 a3 a4 a5).bind fun p5 =>
  bif p5 == 0 then ((tagged_PointerBytes.F n a2 a3 a4 a5).bind fun p6 =>
  (tagged_PointerIn.F n p6.1).bind fun p7 =>
  bif p6.2 != 0 then (c9 ()) else (bif p7.2.2.2.2 != 0 then (c9 ()) else (let y8 : Bool := !((p7.1 == a2) && ((p7.2.1 == a3) && ((p7.2.2.1 == a4) && ((p7.2.2.2.1 == a5) && true))))
  bif y8 then (c9 ()) else (c11 a6 0 a0 a1 a2 a3 a4 a5 p7.1 p7.2.1 p7.2.2.1 p7.2.2.2.1)))) else ((midrangebase_OwnStorage.F n a0 a1).bind fun p9 =>
  (tagged_Dump.F n p9.1 p9.2).bind fun p10 =>
  (tagged_ParseDump.F n p10.1).bind fun p11 =>
  bif p10.2 != 0 then (c20 ()) else (bif p11.2.2.2 != 0 then (c20 ()) else (bif p11.2.2.1 != 0 then (c20 ()) else ((midrangebase_SameStorage.F n p11.1 p11.2.1 a0 a1).bind fun p12 =>
  bif !p12 then (c20 ()) else ((tagged_ParseDump.F n a6).bind fun p13 =>
  bif p13.2.2.2 != 0 then (k true) else ((midrangebase_OwnStorage.F n p13.1 p13.2.1).bind fun p14 =>
  (tagged_Dump.F n p14.1 p14.2).bind fun p15 =>
  bif p15.2 == 0 then (k (p15.1.toList == a6.toList)) else (k false)))))))))))
noncomputable def midrangelaw03_TaggedBack.C {R : Type} (n : Nat) (f : FuncId) (xs : List AV) : (AV → Option R) → Option R :=
  bif Nat.beq f 5 then midrangelaw03_awake.via n xs else bif Nat.beq f 6 then midrangelaw03_few.via n xs else bif Nat.beq f 7 then tagged_Dump.via n xs else bif Nat.beq f 8 then midrangebase_OwnStorage.via n xs else bif Nat.beq f 9 then midrangeref03_Err.via n xs else bif Nat.beq f 11 then tagged_ParseDump.via n xs else bif Nat.beq f 13 then midrangebase_SameStorage.via n xs else bif Nat.beq f 14 then midrangeref03_PointerErr.via n xs else bif Nat.beq f 15 then tagged_PointerBytes.via n xs else bif Nat.beq f 16 then tagged_PointerIn.via n xs else bif Nat.beq f 17 then tagged_StorePointer.via n xs else bif Nat.beq f 18 then tagged_LoadPointer.via n xs else fun _ => none
theorem midrangelaw03_TaggedBack.tells {R : Type} (n : Nat) : Tells (R := R) Tryz.prog (midrangelaw03_TaggedBack.C n) := fun _ xs => tells_at (midrangelaw03_awake.tells1 n xs) (tells_at (midrangelaw03_few.tells1 n xs) (tells_at (tagged_Dump.tells1 n xs) (tells_at (midrangebase_OwnStorage.tells1 n xs) (tells_at (midrangeref03_Err.tells1 n xs) (tells_at (tagged_ParseDump.tells1 n xs) (tells_at (midrangebase_SameStorage.tells1 n xs) (tells_at (midrangeref03_PointerErr.tells1 n xs) (tells_at (tagged_PointerBytes.tells1 n xs) (tells_at (tagged_PointerIn.tells1 n xs) (tells_at (tagged_StorePointer.tells1 n xs) (tells_at (tagged_LoadPointer.tells1 n xs) (Tells1.none))))))))))))
noncomputable def midrangelaw03_TaggedBack.cut (r : Nat) : Option Keep := match r with | 4 => Option.some ⟨[], []⟩ | 9 => Option.some ⟨[], []⟩ | 11 => Option.some ⟨[2, 3, 4, 9, 11], []⟩ | 16 => Option.some ⟨[], []⟩ | 20 => Option.some ⟨[], []⟩ | _ => none
noncomputable def midrangelaw03_TaggedBack.t4 : List Item := (todoOf 4 1000 [.code (Tryz.f4.body.getD .skip)]).getD []
noncomputable def midrangelaw03_TaggedBack.s4 (_ : Unit) : St := ⟨[.undef, .undef, .undef, .undef, .undef, .undef, .undef, .undef, .undef, .undef, .undef, .undef, .undef, .undef, .undef, .undef, .undef, .undef, .undef, .undef, .undef, .undef, .undef, .undef, .undef, .undef, .undef, .undef, .undef, .undef, .undef, .undef, .undef, .undef, .undef, .undef, .undef, .undef, .undef, .undef, .undef, .undef, .undef, .undef, .undef, .undef, .undef, .undef, .undef, .undef, .undef, .undef, .undef, .undef, .undef, .undef, .undef, .undef, .undef, .undef, .undef, .undef, .undef, .undef, .undef, .undef, .undef, .undef, .undef, .undef, .undef, .undef, .undef, .undef, .undef, .undef, .undef, .undef, .undef, .undef, .undef, .undef, .undef, .undef, .undef, .undef, .undef, .undef, .undef, .undef, .undef, .undef, .undef, .undef, .undef, .undef, .undef, .undef, .undef, .undef, .undef, .undef, .undef, .undef, .undef, .undef, .undef, .undef, .undef, .undef, .undef, .undef, .undef, .undef, .undef, .undef, .undef, .undef, .undef, .undef, .undef, .undef, .undef, .undef, .undef, .undef, .undef, .undef, .undef, .undef, .undef, .undef, .undef, .undef, .undef, .undef, .undef, .undef, .undef, .undef, .undef, .undef, .undef, .undef, .undef, .undef, .undef], Mem.ofList [], 0⟩
noncomputable def midrangelaw03_TaggedBack.t9 : List Item := (todoOf 9 1000 [.code (Tryz.f4.body.getD .skip)]).getD []
noncomputable def midrangelaw03_TaggedBack.s9 (_ : Unit) : St := ⟨[.undef, .undef, .undef, .undef, .undef, .undef, .undef, .undef, .undef, .undef, .undef, .undef, .undef, .undef, .undef, .undef, .undef, .undef, .undef, .undef, .undef, .undef, .undef, .undef, .undef, .undef, .undef, .undef, .undef, .undef, .undef, .undef, .undef, .undef, .undef, .undef, .undef, .undef, .undef, .undef, .undef, .undef, .undef, .undef, .undef, .undef, .undef, .undef, .undef, .undef, .undef, .undef, .undef, .undef, .undef, .undef, .undef, .undef, .undef, .undef, .undef, .undef, .undef, .undef, .undef, .undef, .undef, .undef, .undef, .undef, .undef, .undef, .undef, .undef, .undef, .undef, .undef, .undef, .undef, .undef, .undef, .undef, .undef, .undef, .undef, .undef, .undef, .undef, .undef, .undef, .undef, .undef, .undef, .undef, .undef, .undef, .undef, .undef, .undef, .undef, .undef, .undef, .undef, .undef, .undef, .undef, .undef, .undef, .undef, .undef, .undef, .undef, .undef, .undef, .undef, .undef, .undef, .undef, .undef, .undef, .undef, .undef, .undef, .undef, .undef, .undef, .undef, .undef, .undef, .undef, .undef, .undef, .undef, .undef, .undef, .undef, .undef, .undef, .undef, .undef, .undef, .undef, .undef, .undef, .undef, .undef, .undef], Mem.ofList [], 0⟩
noncomputable def midrangelaw03_TaggedBack.t11 : List Item := (todoOf 11 1000 [.code (Tryz.f4.body.getD .skip)]).getD []
noncomputable def midrangelaw03_TaggedBack.s11 (z1 : ByteArray) (z2 : Int) (z3 : ByteArray) (z4 : List AV) (z5 : Int) (z6 : Int) (z7 : Int) (z8 : Int) (z9 : Int) (z10 : Int) (z11 : Int) (z12 : Int) : St := ⟨[.undef, .undef, vs z1, .ptr 0 0, .ptr 1 0, .undef, .undef, .undef, .undef, .ptr 2 0, .undef, vi z2, .undef, .undef, .undef, .undef, .undef, .undef, .undef, .undef, .undef, .undef, .undef, .undef, .undef, .undef, .undef, .undef, .undef, .undef, .undef, .undef, .undef, .undef, .undef, .undef, .undef, .undef, .undef, .undef, .undef, .undef, .undef, .undef, .undef, .undef, .undef, .undef, .undef, .undef, .undef, .undef, .undef, .undef, .undef, .undef, .undef, .undef, .undef, .undef, .undef, .undef, .undef, .undef, .undef, .undef, .undef, .undef, .undef, .undef, .undef, .undef, .undef, .undef, .undef, .undef, .undef, .undef, .undef, .undef, .undef, .undef, .undef, .undef, .undef, .undef, .undef, .undef, .undef, .undef, .undef, .undef, .undef, .undef, .undef, .undef, .undef, .undef, .undef, .undef, .undef, .undef, .undef, .undef, .undef, .undef, .undef, .undef, .undef, .undef, .undef, .undef, .undef, .undef, .undef, .undef, .undef, .undef, .undef, .undef, .undef, .undef, .undef, .undef, .undef, .undef, .undef, .undef, .undef, .undef, .undef, .undef, .undef, .undef, .undef, .undef, .undef, .undef, .undef, .undef, .undef, .undef, .undef, .undef, .undef, .undef, .undef], Mem.ofList [.box 24 [vs z3, .sl ⟨true, 4⟩ 1 z4], .box 42 [vi z5, vi z6, vi z7, vi z8], .box 42 [vi z9, vi z10, vi z11, vi z12]], 3⟩
noncomputable def midrangelaw03_TaggedBack.t16 : List Item := (todoOf 16 1000 [.code (Tryz.f4.body.getD .skip)]).getD []
noncomputable def midrangelaw03_TaggedBack.s16 (_ : Unit) : St := ⟨[.undef, .undef, .undef, .undef, .undef, .undef, .undef, .undef, .undef, .undef, .undef, .undef, .undef, .undef, .undef, .undef, .undef, .undef, .undef, .undef, .undef, .undef, .undef, .undef, .undef, .undef, .undef, .undef, .undef, .undef, .undef, .undef, .undef, .undef, .undef, .undef, .undef, .undef, .undef, .undef, .undef, .undef, .undef, .undef, .undef, .undef, .undef, .undef, .undef, .undef, .undef, .undef, .undef, .undef, .undef, .undef, .undef, .undef, .undef, .undef, .undef, .undef, .undef, .undef, .undef, .undef, .undef, .undef, .undef, .undef, .undef, .undef, .undef, .undef, .undef, .undef, .undef, .undef, .undef, .undef, .undef, .undef, .undef, .undef, .undef, .undef, .undef, .undef, .undef, .undef, .undef, .undef, .undef, .undef, .undef, .undef, .undef, .undef, .undef, .undef, .undef, .undef, .undef, .undef, .undef, .undef, .undef, .undef, .undef, .undef, .undef, .undef, .undef, .undef, .undef, .undef, .undef, .undef, .undef, .undef, .undef, .undef, .undef, .undef, .undef, .undef, .undef, .undef, .undef, .undef, .undef, .undef, .undef, .undef, .undef, .undef, .undef, .undef, .undef, .undef, .undef, .undef, .undef, .undef, .undef, .undef, .undef], Mem.ofList [], 0⟩
noncomputable def midrangelaw03_TaggedBack.t20 : List Item := (todoOf 20 1000 [.code (Tryz.f4.body.getD .skip)]).getD []
noncomputable def midrangelaw03_TaggedBack.s20 (_ : Unit) : St := ⟨[.undef, .undef, .undef, .undef, .undef, .undef, .undef, .undef, .undef, .undef, .undef, .undef, .undef, .undef, .undef, .undef, .undef, .undef, .undef, .undef, .undef, .undef, .undef, .undef, .undef, .undef, .undef, .undef, .undef, .undef, .undef, .undef, .undef, .undef, .undef, .undef, .undef, .undef, .undef, .undef, .undef, .undef, .undef, .undef, .undef, .undef, .undef, .undef, .undef, .undef, .undef, .undef, .undef, .undef, .undef, .undef, .undef, .undef, .undef, .undef, .undef, .undef, .undef, .undef, .undef, .undef, .undef, .undef, .undef, .undef, .undef, .undef, .undef, .undef, .undef, .undef, .undef, .undef, .undef, .undef, .undef, .undef, .undef, .undef, .undef, .undef, .undef, .undef, .undef, .undef, .undef, .undef, .undef, .undef, .undef, .undef, .undef, .undef, .undef, .undef, .undef, .undef, .undef, .undef, .undef, .undef, .undef, .undef, .undef, .undef, .undef, .undef, .undef, .undef, .undef, .undef, .undef, .undef, .undef, .undef, .undef, .undef, .undef, .undef, .undef, .undef, .undef, .undef, .undef, .undef, .undef, .undef, .undef, .undef, .undef, .undef, .undef, .undef, .undef, .undef, .undef, .undef, .undef, .undef, .undef, .undef, .undef], Mem.ofList [], 0⟩
theorem midrangelaw03_TaggedBack.e_eq {R : Type} (n : Nat) (rec : List Item → St → Option R) (K : AV → Option R) (a0 : ByteArray) (a1 : List AV) (a2 : Int) (a3 : Int) (a4 : Int) (a5 : Int) (a6 : ByteArray) :
    goK G (midrangelaw03_TaggedBack.C n) midrangelaw03_TaggedBack.cut (fun S => finK G Tryz.f4.resultTypes.toList Tryz.f4.results.toList S K) rec 1000 [.code (Tryz.f4.body.getD .skip)] (Ev.start Tryz.f4 [AV.agg [vs a0, .sl ⟨true, 4⟩ 1 a1], .agg [vi a2, vi a3, vi a4, vi a5], vs a6]) = midrangelaw03_TaggedBack.e n (fun _ => rec midrangelaw03_TaggedBack.t4 (midrangelaw03_TaggedBack.s4 ())) (fun _ => rec midrangelaw03_TaggedBack.t9 (midrangelaw03_TaggedBack.s9 ())) (fun z1 z2 z3 z4 z5 z6 z7 z8 z9 z10 z11 z12 => rec midrangelaw03_TaggedBack.t11 (midrangelaw03_TaggedBack.s11 z1 z2 z3 z4 z5 z6 z7 z8 z9 z10 z11 z12)) (fun _ => rec midrangelaw03_TaggedBack.t16 (midrangelaw03_TaggedBack.s16 ())) (fun _ => rec midrangelaw03_TaggedBack.t20 (midrangelaw03_TaggedBack.s20 ())) (fun p => K (vb p)) a0 a1 a2 a3 a4 a5 a6 := by kernel_rfl
theorem midrangelaw03_TaggedBack.r4_eq {R : Type} (n : Nat) (rec : List Item → St → Option R) (K : AV → Option R) (_ : Unit) :
    atK G (midrangelaw03_TaggedBack.C n) midrangelaw03_TaggedBack.cut (fun S => finK G Tryz.f4.resultTypes.toList Tryz.f4.results.toList S K) rec midrangelaw03_TaggedBack.t4 (midrangelaw03_TaggedBack.s4 ()) = midrangelaw03_TaggedBack.r4 n (fun _ => rec midrangelaw03_TaggedBack.t4 (midrangelaw03_TaggedBack.s4 ())) (fun _ => rec midrangelaw03_TaggedBack.t9 (midrangelaw03_TaggedBack.s9 ())) (fun z1 z2 z3 z4 z5 z6 z7 z8 z9 z10 z11 z12 => rec midrangelaw03_TaggedBack.t11 (midrangelaw03_TaggedBack.s11 z1 z2 z3 z4 z5 z6 z7 z8 z9 z10 z11 z12)) (fun _ => rec midrangelaw03_TaggedBack.t16 (midrangelaw03_TaggedBack.s16 ())) (fun _ => rec midrangelaw03_TaggedBack.t20 (midrangelaw03_TaggedBack.s20 ())) (fun p => K (vb p)) () := by kernel_rfl
theorem midrangelaw03_TaggedBack.r9_eq {R : Type} (n : Nat) (rec : List Item → St → Option R) (K : AV → Option R) (_ : Unit) :
    atK G (midrangelaw03_TaggedBack.C n) midrangelaw03_TaggedBack.cut (fun S => finK G Tryz.f4.resultTypes.toList Tryz.f4.results.toList S K) rec midrangelaw03_TaggedBack.t9 (midrangelaw03_TaggedBack.s9 ()) = midrangelaw03_TaggedBack.r9 n (fun _ => rec midrangelaw03_TaggedBack.t4 (midrangelaw03_TaggedBack.s4 ())) (fun _ => rec midrangelaw03_TaggedBack.t9 (midrangelaw03_TaggedBack.s9 ())) (fun z1 z2 z3 z4 z5 z6 z7 z8 z9 z10 z11 z12 => rec midrangelaw03_TaggedBack.t11 (midrangelaw03_TaggedBack.s11 z1 z2 z3 z4 z5 z6 z7 z8 z9 z10 z11 z12)) (fun _ => rec midrangelaw03_TaggedBack.t16 (midrangelaw03_TaggedBack.s16 ())) (fun _ => rec midrangelaw03_TaggedBack.t20 (midrangelaw03_TaggedBack.s20 ())) (fun p => K (vb p)) () := by kernel_rfl
theorem midrangelaw03_TaggedBack.r11_eq {R : Type} (n : Nat) (rec : List Item → St → Option R) (K : AV → Option R) (z1 : ByteArray) (z2 : Int) (z3 : ByteArray) (z4 : List AV) (z5 : Int) (z6 : Int) (z7 : Int) (z8 : Int) (z9 : Int) (z10 : Int) (z11 : Int) (z12 : Int) :
    atK G (midrangelaw03_TaggedBack.C n) midrangelaw03_TaggedBack.cut (fun S => finK G Tryz.f4.resultTypes.toList Tryz.f4.results.toList S K) rec midrangelaw03_TaggedBack.t11 (midrangelaw03_TaggedBack.s11 z1 z2 z3 z4 z5 z6 z7 z8 z9 z10 z11 z12) = midrangelaw03_TaggedBack.r11 n (fun _ => rec midrangelaw03_TaggedBack.t4 (midrangelaw03_TaggedBack.s4 ())) (fun _ => rec midrangelaw03_TaggedBack.t9 (midrangelaw03_TaggedBack.s9 ())) (fun z1 z2 z3 z4 z5 z6 z7 z8 z9 z10 z11 z12 => rec midrangelaw03_TaggedBack.t11 (midrangelaw03_TaggedBack.s11 z1 z2 z3 z4 z5 z6 z7 z8 z9 z10 z11 z12)) (fun _ => rec midrangelaw03_TaggedBack.t16 (midrangelaw03_TaggedBack.s16 ())) (fun _ => rec midrangelaw03_TaggedBack.t20 (midrangelaw03_TaggedBack.s20 ())) (fun p => K (vb p)) z1 z2 z3 z4 z5 z6 z7 z8 z9 z10 z11 z12 := by kernel_rfl
theorem midrangelaw03_TaggedBack.r16_eq {R : Type} (n : Nat) (rec : List Item → St → Option R) (K : AV → Option R) (_ : Unit) :
    atK G (midrangelaw03_TaggedBack.C n) midrangelaw03_TaggedBack.cut (fun S => finK G Tryz.f4.resultTypes.toList Tryz.f4.results.toList S K) rec midrangelaw03_TaggedBack.t16 (midrangelaw03_TaggedBack.s16 ()) = midrangelaw03_TaggedBack.r16 n (fun _ => rec midrangelaw03_TaggedBack.t4 (midrangelaw03_TaggedBack.s4 ())) (fun _ => rec midrangelaw03_TaggedBack.t9 (midrangelaw03_TaggedBack.s9 ())) (fun z1 z2 z3 z4 z5 z6 z7 z8 z9 z10 z11 z12 => rec midrangelaw03_TaggedBack.t11 (midrangelaw03_TaggedBack.s11 z1 z2 z3 z4 z5 z6 z7 z8 z9 z10 z11 z12)) (fun _ => rec midrangelaw03_TaggedBack.t16 (midrangelaw03_TaggedBack.s16 ())) (fun _ => rec midrangelaw03_TaggedBack.t20 (midrangelaw03_TaggedBack.s20 ())) (fun p => K (vb p)) () := by kernel_rfl
theorem midrangelaw03_TaggedBack.r20_eq {R : Type} (n : Nat) (rec : List Item → St → Option R) (K : AV → Option R) (_ : Unit) :
    atK G (midrangelaw03_TaggedBack.C n) midrangelaw03_TaggedBack.cut (fun S => finK G Tryz.f4.resultTypes.toList Tryz.f4.results.toList S K) rec midrangelaw03_TaggedBack.t20 (midrangelaw03_TaggedBack.s20 ()) = midrangelaw03_TaggedBack.r20 n (fun _ => rec midrangelaw03_TaggedBack.t4 (midrangelaw03_TaggedBack.s4 ())) (fun _ => rec midrangelaw03_TaggedBack.t9 (midrangelaw03_TaggedBack.s9 ())) (fun z1 z2 z3 z4 z5 z6 z7 z8 z9 z10 z11 z12 => rec midrangelaw03_TaggedBack.t11 (midrangelaw03_TaggedBack.s11 z1 z2 z3 z4 z5 z6 z7 z8 z9 z10 z11 z12)) (fun _ => rec midrangelaw03_TaggedBack.t16 (midrangelaw03_TaggedBack.s16 ())) (fun _ => rec midrangelaw03_TaggedBack.t20 (midrangelaw03_TaggedBack.s20 ())) (fun p => K (vb p)) () := by kernel_rfl
noncomputable def midrangelaw03_TaggedBack.l (n : Nat) : Nat → (Unit → Option (Bool)) × (Unit → Option (Bool)) × (ByteArray → Int → ByteArray → List AV → Int → Int → Int → Int → Int → Int → Int → Int → Option (Bool)) × (Unit → Option (Bool)) × (Unit → Option (Bool))
  | 0 => ((fun _ => none), (fun _ => none), (fun _ _ _ _ _ _ _ _ _ _ _ _ => none), (fun _ => none), (fun _ => none))
  | m + 1 => (midrangelaw03_TaggedBack.r4 n ((midrangelaw03_TaggedBack.l n m).1) ((midrangelaw03_TaggedBack.l n m).2.1) ((midrangelaw03_TaggedBack.l n m).2.2.1) ((midrangelaw03_TaggedBack.l n m).2.2.2.1) ((midrangelaw03_TaggedBack.l n m).2.2.2.2) Option.some, midrangelaw03_TaggedBack.r9 n ((midrangelaw03_TaggedBack.l n m).1) ((midrangelaw03_TaggedBack.l n m).2.1) ((midrangelaw03_TaggedBack.l n m).2.2.1) ((midrangelaw03_TaggedBack.l n m).2.2.2.1) ((midrangelaw03_TaggedBack.l n m).2.2.2.2) Option.some, midrangelaw03_TaggedBack.r11 n ((midrangelaw03_TaggedBack.l n m).1) ((midrangelaw03_TaggedBack.l n m).2.1) ((midrangelaw03_TaggedBack.l n m).2.2.1) ((midrangelaw03_TaggedBack.l n m).2.2.2.1) ((midrangelaw03_TaggedBack.l n m).2.2.2.2) Option.some, midrangelaw03_TaggedBack.r16 n ((midrangelaw03_TaggedBack.l n m).1) ((midrangelaw03_TaggedBack.l n m).2.1) ((midrangelaw03_TaggedBack.l n m).2.2.1) ((midrangelaw03_TaggedBack.l n m).2.2.2.1) ((midrangelaw03_TaggedBack.l n m).2.2.2.2) Option.some, midrangelaw03_TaggedBack.r20 n ((midrangelaw03_TaggedBack.l n m).1) ((midrangelaw03_TaggedBack.l n m).2.1) ((midrangelaw03_TaggedBack.l n m).2.2.1) ((midrangelaw03_TaggedBack.l n m).2.2.2.1) ((midrangelaw03_TaggedBack.l n m).2.2.2.2) Option.some)
noncomputable def midrangelaw03_TaggedBack.F (n : Nat) (a0 : ByteArray) (a1 : List AV) (a2 : Int) (a3 : Int) (a4 : Int) (a5 : Int) (a6 : ByteArray) : Option (Bool) := midrangelaw03_TaggedBack.e n ((midrangelaw03_TaggedBack.l n n).1) ((midrangelaw03_TaggedBack.l n n).2.1) ((midrangelaw03_TaggedBack.l n n).2.2.1) ((midrangelaw03_TaggedBack.l n n).2.2.2.1) ((midrangelaw03_TaggedBack.l n n).2.2.2.2) Option.some a0 a1 a2 a3 a4 a5 a6
noncomputable def midrangelaw03_TaggedBack.dec (x : AV) : Option (Bool) := match x with | .v (.bool p0) => Option.some p0 | _ => none
theorem midrangelaw03_TaggedBack.dec_inv {p : Bool} (y : AV) (h : midrangelaw03_TaggedBack.dec y = some p) : y = vb p := by
  unfold midrangelaw03_TaggedBack.dec at h
  split at h
  · cases h; rfl
  · cases h
theorem midrangelaw03_TaggedBack.l_eq (n m : Nat) : (∀ z : Unit, runK G (midrangelaw03_TaggedBack.C n) midrangelaw03_TaggedBack.cut (fun S => finK G Tryz.f4.resultTypes.toList Tryz.f4.results.toList S midrangelaw03_TaggedBack.dec) m midrangelaw03_TaggedBack.t4 (midrangelaw03_TaggedBack.s4 z) = ((midrangelaw03_TaggedBack.l n m).1) z) ∧ (∀ z : Unit, runK G (midrangelaw03_TaggedBack.C n) midrangelaw03_TaggedBack.cut (fun S => finK G Tryz.f4.resultTypes.toList Tryz.f4.results.toList S midrangelaw03_TaggedBack.dec) m midrangelaw03_TaggedBack.t9 (midrangelaw03_TaggedBack.s9 z) = ((midrangelaw03_TaggedBack.l n m).2.1) z) ∧ (∀ (z1 : ByteArray) (z2 : Int) (z3 : ByteArray) (z4 : List AV) (z5 : Int) (z6 : Int) (z7 : Int) (z8 : Int) (z9 : Int) (z10 : Int) (z11 : Int) (z12 : Int), runK G (midrangelaw03_TaggedBack.C n) midrangelaw03_TaggedBack.cut (fun S => finK G Tryz.f4.resultTypes.toList Tryz.f4.results.toList S midrangelaw03_TaggedBack.dec) m midrangelaw03_TaggedBack.t11 (midrangelaw03_TaggedBack.s11 z1 z2 z3 z4 z5 z6 z7 z8 z9 z10 z11 z12) = ((midrangelaw03_TaggedBack.l n m).2.2.1) z1 z2 z3 z4 z5 z6 z7 z8 z9 z10 z11 z12) ∧ (∀ z : Unit, runK G (midrangelaw03_TaggedBack.C n) midrangelaw03_TaggedBack.cut (fun S => finK G Tryz.f4.resultTypes.toList Tryz.f4.results.toList S midrangelaw03_TaggedBack.dec) m midrangelaw03_TaggedBack.t16 (midrangelaw03_TaggedBack.s16 z) = ((midrangelaw03_TaggedBack.l n m).2.2.2.1) z) ∧ (∀ z : Unit, runK G (midrangelaw03_TaggedBack.C n) midrangelaw03_TaggedBack.cut (fun S => finK G Tryz.f4.resultTypes.toList Tryz.f4.results.toList S midrangelaw03_TaggedBack.dec) m midrangelaw03_TaggedBack.t20 (midrangelaw03_TaggedBack.s20 z) = ((midrangelaw03_TaggedBack.l n m).2.2.2.2) z) := by
  induction m with
  | zero => exact ⟨fun _ => rfl, fun _ => rfl, fun z1 z2 z3 z4 z5 z6 z7 z8 z9 z10 z11 z12 => rfl, fun _ => rfl, fun _ => rfl⟩
  | succ m ih =>
    obtain ⟨h4, h9, h11, h16, h20⟩ := ih
    have e4 : (fun (_ : Unit) => runK G (midrangelaw03_TaggedBack.C n) midrangelaw03_TaggedBack.cut (fun S => finK G Tryz.f4.resultTypes.toList Tryz.f4.results.toList S midrangelaw03_TaggedBack.dec) m midrangelaw03_TaggedBack.t4 (midrangelaw03_TaggedBack.s4 ())) = (midrangelaw03_TaggedBack.l n m).1 := by funext z; exact h4 z
    have e9 : (fun (_ : Unit) => runK G (midrangelaw03_TaggedBack.C n) midrangelaw03_TaggedBack.cut (fun S => finK G Tryz.f4.resultTypes.toList Tryz.f4.results.toList S midrangelaw03_TaggedBack.dec) m midrangelaw03_TaggedBack.t9 (midrangelaw03_TaggedBack.s9 ())) = (midrangelaw03_TaggedBack.l n m).2.1 := by funext z; exact h9 z
    have e11 : (fun (z1 : ByteArray) (z2 : Int) (z3 : ByteArray) (z4 : List AV) (z5 : Int) (z6 : Int) (z7 : Int) (z8 : Int) (z9 : Int) (z10 : Int) (z11 : Int) (z12 : Int) => runK G (midrangelaw03_TaggedBack.C n) midrangelaw03_TaggedBack.cut (fun S => finK G Tryz.f4.resultTypes.toList Tryz.f4.results.toList S midrangelaw03_TaggedBack.dec) m midrangelaw03_TaggedBack.t11 (midrangelaw03_TaggedBack.s11 z1 z2 z3 z4 z5 z6 z7 z8 z9 z10 z11 z12)) = (midrangelaw03_TaggedBack.l n m).2.2.1 := by funext z1 z2 z3 z4 z5 z6 z7 z8 z9 z10 z11 z12; exact h11 z1 z2 z3 z4 z5 z6 z7 z8 z9 z10 z11 z12
    have e16 : (fun (_ : Unit) => runK G (midrangelaw03_TaggedBack.C n) midrangelaw03_TaggedBack.cut (fun S => finK G Tryz.f4.resultTypes.toList Tryz.f4.results.toList S midrangelaw03_TaggedBack.dec) m midrangelaw03_TaggedBack.t16 (midrangelaw03_TaggedBack.s16 ())) = (midrangelaw03_TaggedBack.l n m).2.2.2.1 := by funext z; exact h16 z
    have e20 : (fun (_ : Unit) => runK G (midrangelaw03_TaggedBack.C n) midrangelaw03_TaggedBack.cut (fun S => finK G Tryz.f4.resultTypes.toList Tryz.f4.results.toList S midrangelaw03_TaggedBack.dec) m midrangelaw03_TaggedBack.t20 (midrangelaw03_TaggedBack.s20 ())) = (midrangelaw03_TaggedBack.l n m).2.2.2.2 := by funext z; exact h20 z
    have q4 : ∀ z : Unit, runK G (midrangelaw03_TaggedBack.C n) midrangelaw03_TaggedBack.cut (fun S => finK G Tryz.f4.resultTypes.toList Tryz.f4.results.toList S midrangelaw03_TaggedBack.dec) (m + 1) midrangelaw03_TaggedBack.t4 (midrangelaw03_TaggedBack.s4 z) = ((midrangelaw03_TaggedBack.l n (m + 1)).1) z := by
      intro z
      rw [runK_succ]
      refine (midrangelaw03_TaggedBack.r4_eq n _ midrangelaw03_TaggedBack.dec ()).trans ?_
      rw [e4, e9, e11, e16, e20]
      rfl
    have q9 : ∀ z : Unit, runK G (midrangelaw03_TaggedBack.C n) midrangelaw03_TaggedBack.cut (fun S => finK G Tryz.f4.resultTypes.toList Tryz.f4.results.toList S midrangelaw03_TaggedBack.dec) (m + 1) midrangelaw03_TaggedBack.t9 (midrangelaw03_TaggedBack.s9 z) = ((midrangelaw03_TaggedBack.l n (m + 1)).2.1) z := by
      intro z
      rw [runK_succ]
      refine (midrangelaw03_TaggedBack.r9_eq n _ midrangelaw03_TaggedBack.dec ()).trans ?_
      rw [e4, e9, e11, e16, e20]
      rfl
    have q11 : ∀ (z1 : ByteArray) (z2 : Int) (z3 : ByteArray) (z4 : List AV) (z5 : Int) (z6 : Int) (z7 : Int) (z8 : Int) (z9 : Int) (z10 : Int) (z11 : Int) (z12 : Int), runK G (midrangelaw03_TaggedBack.C n) midrangelaw03_TaggedBack.cut (fun S => finK G Tryz.f4.resultTypes.toList Tryz.f4.results.toList S midrangelaw03_TaggedBack.dec) (m + 1) midrangelaw03_TaggedBack.t11 (midrangelaw03_TaggedBack.s11 z1 z2 z3 z4 z5 z6 z7 z8 z9 z10 z11 z12) = ((midrangelaw03_TaggedBack.l n (m + 1)).2.2.1) z1 z2 z3 z4 z5 z6 z7 z8 z9 z10 z11 z12 := by
      intro z1 z2 z3 z4 z5 z6 z7 z8 z9 z10 z11 z12
      rw [runK_succ]
      refine (midrangelaw03_TaggedBack.r11_eq n _ midrangelaw03_TaggedBack.dec z1 z2 z3 z4 z5 z6 z7 z8 z9 z10 z11 z12).trans ?_
      rw [e4, e9, e11, e16, e20]
      rfl
    have q16 : ∀ z : Unit, runK G (midrangelaw03_TaggedBack.C n) midrangelaw03_TaggedBack.cut (fun S => finK G Tryz.f4.resultTypes.toList Tryz.f4.results.toList S midrangelaw03_TaggedBack.dec) (m + 1) midrangelaw03_TaggedBack.t16 (midrangelaw03_TaggedBack.s16 z) = ((midrangelaw03_TaggedBack.l n (m + 1)).2.2.2.1) z := by
      intro z
      rw [runK_succ]
      refine (midrangelaw03_TaggedBack.r16_eq n _ midrangelaw03_TaggedBack.dec ()).trans ?_
      rw [e4, e9, e11, e16, e20]
      rfl
    have q20 : ∀ z : Unit, runK G (midrangelaw03_TaggedBack.C n) midrangelaw03_TaggedBack.cut (fun S => finK G Tryz.f4.resultTypes.toList Tryz.f4.results.toList S midrangelaw03_TaggedBack.dec) (m + 1) midrangelaw03_TaggedBack.t20 (midrangelaw03_TaggedBack.s20 z) = ((midrangelaw03_TaggedBack.l n (m + 1)).2.2.2.2) z := by
      intro z
      rw [runK_succ]
      refine (midrangelaw03_TaggedBack.r20_eq n _ midrangelaw03_TaggedBack.dec ()).trans ?_
      rw [e4, e9, e11, e16, e20]
      rfl
    exact ⟨q4, q9, q11, q16, q20⟩
theorem midrangelaw03_TaggedBack.hands (n : Nat) (a0 : ByteArray) (a1 : List AV) (a2 : Int) (a3 : Int) (a4 : Int) (a5 : Int) (a6 : ByteArray) {p : Bool} (h : midrangelaw03_TaggedBack.F n a0 a1 a2 a3 a4 a5 a6 = some p) : HandsIn Tryz.prog 4 [AV.agg [vs a0, .sl ⟨true, 4⟩ 1 a1], .agg [vi a2, vi a3, vi a4, vi a5], vs a6] (vb p) := by
  refine hands_of cfg mixed (fun _ => rfl) rfl (midrangelaw03_TaggedBack.tells n) (fn := Tryz.f4) Tryz.func4 (by kernel_rfl) (by kernel_rfl) (cut := midrangelaw03_TaggedBack.cut) (K := midrangelaw03_TaggedBack.dec) (r := p) (n := n) midrangelaw03_TaggedBack.dec_inv ?_
  rw [funK_getD (by kernel_rfl)]
  have h1 := midrangelaw03_TaggedBack.e_eq n (runK G (midrangelaw03_TaggedBack.C n) midrangelaw03_TaggedBack.cut (fun S => finK G Tryz.f4.resultTypes.toList Tryz.f4.results.toList S midrangelaw03_TaggedBack.dec) n) midrangelaw03_TaggedBack.dec a0 a1 a2 a3 a4 a5 a6
  have hl := midrangelaw03_TaggedBack.l_eq n n
  simp only [hl.1, hl.2.1, hl.2.2.1, hl.2.2.2.1, hl.2.2.2.2] at h1
  exact h1.trans h
end Go.Proofs.YtgmpnhfnkhohiaaGreatDoor.Ev

/- Plain words on numbers, bytes, rows; what the helpers of chapter 3 compute. -/
namespace Go.Proofs.YtgmpnhfnkhohiaaGreatDoor.Ev
open Go Go.Proofs Go.Proofs.Ev
set_option linter.unusedVariables false
theorem w64 {x : Int} (h1 : -9223372036854775808 ≤ x) (h2 : x ≤ 9223372036854775807) : IntKind.i64.wrap x = x := by rw [IntKind.wrap_i64]; omega
theorem w8 (x : Int) : IntKind.u8.wrap x = x % 256 := by rw [IntKind.wrap_u8]
theorem cond_t {α : Type} {p : Prop} [Decidable p] (h : p) (x y : α) : (bif decide p then x else y) = x := by simp [h]
theorem cond_f {α : Type} {p : Prop} [Decidable p] (h : ¬ p) (x y : α) : (bif decide p then x else y) = y := by simp [h]
/-- The lowest 's' bytes of a number, the highest one first. -/
def be (s : Nat) (x : Int) : List UInt8 := (List.range s).map fun j => UInt8.ofNat (x / 256 ^ (s - 1 - j) % 256).toNat
def brow (a : Int) (s i : Nat) : List AV := (List.range s).map fun j => if s - 1 - j < i then vu (a / 256 ^ (s - 1 - j) % 256) else vu 0
theorem strOf_map {α : Type} (f : α → Int) : ∀ l : List α, strOf (l.map fun j => vu (f j)) = some (l.map fun j => UInt8.ofNat (f j).toNat)
  | [] => rfl
  | x :: l => by simp only [List.map_cons, strOf, strOf_map f l, Option.map_some]
theorem brow_full (a : Int) (s : Nat) : brow a s s = (List.range s).map fun j => vu (a / 256 ^ (s - 1 - j) % 256) := by
  unfold brow
  refine List.map_congr_left fun j hj => ?_
  have := List.mem_range.1 hj
  rw [if_pos (by omega)]
theorem strOf_brow (a : Int) (s : Nat) : strOf (brow a s s) = some (be s a) := by rw [brow_full, strOf_map]; rfl
theorem brow_length (a : Int) (s i : Nat) : (brow a s i).length = s := by simp [brow]
theorem be_length (s : Nat) (a : Int) : (be s a).length = s := by simp [be]
theorem brow_set {a : Int} {s i : Nat} (hi : i < s) : (brow a s i).set (s - 1 - i) (vu (a / 256 ^ i % 256)) = brow a s (i + 1) := by
  apply List.ext_getElem
  · simp [brow]
  · intro j h1 h2
    simp only [List.length_set, brow_length] at h1
    rw [List.getElem_set]
    simp only [brow, List.getElem_map, List.getElem_range]
    by_cases hj : s - 1 - i = j
    · rw [if_pos hj, if_pos (by omega), show s - 1 - j = i by omega]
    · rw [if_neg hj]
      by_cases h3 : s - 1 - j < i
      · rw [if_pos h3, if_pos (by omega)]
      · rw [if_neg h3, if_neg (by omega)]
theorem brow_zero (a : Int) (s : Nat) : brow a s 0 = List.replicate s (vu 0) := by
  apply List.ext_getElem
  · simp [brow]
  · intro j h1 h2
    simp [brow]
theorem two_pow8 (i : Nat) : (2 : Int) ^ (8 * i) = 256 ^ i := by rw [Int.pow_mul]; rfl
theorem big_l (n : Nat) (a : Int) (s : Nat) (hs : s ≤ 8) : ∀ (d i m : Nat), i + d = s → d < m → tagged_big.l n m a s s i (brow a s i) = some (brow a s s)
  | _, _, 0, _, h => absurd h (by omega)
  | 0, i, m + 1, h, _ => by
    have : i = s := by omega
    subst this
    unfold tagged_big.l tagged_big.r3
    rw [cond_f (by omega)]
  | d + 1, i, m + 1, h, hm => by
    unfold tagged_big.l tagged_big.r3
    rw [cond_t (by omega)]
    simp only
    have e1 : IntKind.i64.wrap ((s : Int) - 1) = ((s - 1 : Nat) : Int) := by rw [w64] <;> omega
    have e2 : IntKind.i64.wrap (((s - 1 : Nat) : Int) - i) = ((s - 1 - i : Nat) : Int) := by rw [w64] <;> omega
    have e3 : IntKind.i64.wrap (8 * (i : Int)) = ((8 * i : Nat) : Int) := by rw [w64] <;> omega
    have e4 : IntKind.i64.wrap ((i : Int) + 1) = ((i + 1 : Nat) : Int) := by rw [w64] <;> omega
    rw [e1, e2, e3, e4, cond_t (by omega)]
    have e5 : min ((8 * i : Nat) : Int).toNat 64 = 8 * i := by omega
    rw [e5, two_pow8, brow_length, Int.toNat_natCast]
    have e6 : (decide ((0 : Int) ≤ ((s - 1 - i : Nat) : Int)) && decide (((s - 1 - i : Nat) : Int) < (s : Int))) = true := by
      rw [Bool.and_eq_true, decide_eq_true_eq, decide_eq_true_eq]; omega
    rw [e6, cond_true, w8, Int.fdiv_eq_ediv_of_nonneg _ (by exact Int.le_of_lt (Int.pow_pos (by omega))), brow_set (by omega)]
    exact big_l n a s hs d (i + 1) m (by omega) (by omega)
theorem big_eq {n : Nat} (a : Int) (s : Nat) (hs : s ≤ 8) (hn : s < n) : tagged_big.F n a s = some (brow a s s) := by
  unfold tagged_big.F tagged_big.e
  have e : ((decide ((0 : Int) ≤ (s : Int)) && decide ((s : Int) ≤ (most : Int))) && decide ((s : Int) = s) && true && true) = true := by
    have : most = 1000000000 := rfl
    simp [this]
    omega
  rw [e, cond_true]
  simp only [List.length_replicate, Int.toNat_natCast]
  have := big_l n a s hs s 0 n (by omega) hn
  rw [brow_zero] at this
  exact this
theorem bigBytes_l (n : Nat) (a : Int) (ha : 0 ≤ a) (ha2 : a ≤ 9223372036854775807) (s : Nat) (hs : s ≤ 1000) : ∀ (d i m : Nat), i + d = s → d < m → midrangebase_BigBytes.l n m (a / 256 ^ i) s i (brow a s i) = some ⟨(be s a).toArray⟩
  | _, _, 0, _, h => absurd h (by omega)
  | 0, i, m + 1, h, _ => by
    have : i = s := by omega
    subst this
    unfold midrangebase_BigBytes.l midrangebase_BigBytes.r3
    rw [cond_f (by omega), strOf_brow]
    rfl
  | d + 1, i, m + 1, h, hm => by
    unfold midrangebase_BigBytes.l midrangebase_BigBytes.r3
    rw [cond_t (by omega)]
    simp only
    have hpos : (0 : Int) < 256 ^ i := Int.pow_pos (by omega)
    have hq : 0 ≤ a / 256 ^ i := Int.ediv_nonneg ha (Int.le_of_lt hpos)
    have hq2 : a / 256 ^ i ≤ a := Int.ediv_le_self _ ha
    have e1 : IntKind.i64.wrap ((s : Int) - 1) = ((s - 1 : Nat) : Int) := by rw [w64] <;> omega
    have e2 : IntKind.i64.wrap (((s - 1 : Nat) : Int) - i) = ((s - 1 - i : Nat) : Int) := by rw [w64] <;> omega
    have e4 : IntKind.i64.wrap ((i : Int) + 1) = ((i + 1 : Nat) : Int) := by rw [w64] <;> omega
    have e6 : (decide ((0 : Int) ≤ ((s - 1 - i : Nat) : Int)) && decide (((s - 1 - i : Nat) : Int) < (s : Int))) = true := by
      rw [Bool.and_eq_true, decide_eq_true_eq, decide_eq_true_eq]; omega
    have e7 : Int.tmod (a / 256 ^ i) 256 = a / 256 ^ i % 256 := Int.tmod_eq_emod_of_nonneg hq
    have e8 : IntKind.i64.wrap (Int.tdiv (a / 256 ^ i) 256) = a / 256 ^ (i + 1) := by
      rw [Int.tdiv_eq_ediv_of_nonneg hq, Int.ediv_ediv_of_nonneg (Int.le_of_lt hpos), ← Int.pow_succ]
      have h1 : 0 ≤ a / 256 ^ (i + 1) := Int.ediv_nonneg ha (Int.le_of_lt (Int.pow_pos (by omega)))
      have h2 : a / 256 ^ (i + 1) ≤ a := Int.ediv_le_self _ ha
      show IntKind.i64.wrap (a / 256 ^ (i + 1)) = _
      exact w64 (by omega) (by omega)
    rw [e1, e2, e4, brow_length, Int.toNat_natCast, e6, cond_true, w8, e7, e8, show a / 256 ^ i % 256 % 256 = a / 256 ^ i % 256 by omega, brow_set (by omega)]
    exact bigBytes_l n a ha ha2 s hs d (i + 1) m (by omega) (by omega)
theorem bigBytes_eq {n : Nat} {a : Int} (ha : 0 ≤ a) (ha2 : a ≤ 9223372036854775807) (s : Nat) (hs : s ≤ 1000) (hn : s < n) : midrangebase_BigBytes.F n a s = some ⟨(be s a).toArray⟩ := by
  unfold midrangebase_BigBytes.F midrangebase_BigBytes.e
  have e : ((decide ((0 : Int) ≤ (s : Int)) && decide ((s : Int) ≤ (most : Int))) && decide ((s : Int) = s) && true && true) = true := by
    have : most = 1000000000 := rfl
    simp [this]
    omega
  rw [e, cond_true]
  simp only [Int.toNat_natCast]
  have := bigBytes_l n a ha ha2 s hs s 0 n (by omega) hn
  rw [brow_zero, Int.pow_zero, Int.ediv_one] at this
  exact this
theorem flatten_take {α : Type} {xs : List (List α)} {i : Nat} (hi : i < xs.length) : (xs.take i).flatten ++ xs[i] = (xs.take (i + 1)).flatten := by
  rw [List.take_succ_eq_append_getElem hi, List.flatten_append, List.flatten_singleton]
/-- slices.Concat of rows of bytes. -/
theorem concat_l2 (n : Nat) (xs : List (List AV)) (ht : xs.flatten.length ≤ most) (hl : xs.length ≤ 1000000) : ∀ (d i m : Nat), i + d = xs.length → d < m →
    (slices_Concat_byte_byte.l n m).2 (xs.map (AV.sl ⟨true, 5⟩ 1)) xs.length i (xs.take i).flatten = some xs.flatten
  | _, _, 0, _, h => absurd h (by omega)
  | 0, i, m + 1, h, _ => by
    have : i = xs.length := by omega
    subst this
    simp only [slices_Concat_byte_byte.l, slices_Concat_byte_byte.r11]
    rw [cond_f (by omega), List.take_length]
  | d + 1, i, m + 1, h, hm => by
    simp only [slices_Concat_byte_byte.l, slices_Concat_byte_byte.r11]
    have e4 : IntKind.i64.wrap ((i : Int) + 1) = ((i + 1 : Nat) : Int) := by rw [w64] <;> omega
    have e6 : (decide ((0 : Int) ≤ (i : Int)) && decide ((i : Int) < (((xs.map (AV.sl ⟨true, 5⟩ 1)).length : Nat) : Int))) = true := by
      rw [Bool.and_eq_true, decide_eq_true_eq, decide_eq_true_eq, List.length_map]; omega
    have hi : i < xs.length := by omega
    have e7 : (xs.map (AV.sl ⟨true, 5⟩ 1)).getD i .undef = AV.sl ⟨true, 5⟩ 1 xs[i] := by simp [List.getD_eq_getElem?_getD, hi]
    have e8 := flatten_take hi
    have e9 : (xs.take (i + 1)).flatten.length ≤ xs.flatten.length := by
      have : xs.flatten = (xs.take (i + 1)).flatten ++ (xs.drop (i + 1)).flatten := by rw [← List.flatten_append, List.take_append_drop]
      rw [this, List.length_append]; omega
    rw [cond_t (by omega), e6, cond_true, Int.toNat_natCast, e7, e4]
    simp only [AV.cells, withCons, withSl, BEq.rfl, Bool.true_and, Nat.beq_refl, cond_true]
    rw [e8, cond_t (by rw [← List.length_append, e8]; omega)]
    exact concat_l2 n xs ht hl d (i + 1) m (by omega) (by omega)
theorem concat_l1 (n : Nat) (hn : 1000002 ≤ n) (xs : List (List AV)) (ht : xs.flatten.length ≤ most) (hl : xs.length ≤ 1000000) : ∀ (d i m : Nat), i + d = xs.length → d + xs.length + 2 < m →
    (slices_Concat_byte_byte.l n m).1 (xs.map (AV.sl ⟨true, 5⟩ 1)) (((xs.take i).flatten.length : Nat) : Int) (xs.map (AV.sl ⟨true, 5⟩ 1)) xs.length i = some xs.flatten
  | _, _, 0, _, h => absurd h (by omega)
  | 0, i, m + 1, h, hm => by
    have : i = xs.length := by omega
    subst this
    simp only [slices_Concat_byte_byte.l, slices_Concat_byte_byte.r3]
    have hmost : most = 1000000000 := rfl
    have e : (decide ((0 : Int) ≤ (((xs.take xs.length).flatten.length : Nat) : Int)) && decide ((((xs.take xs.length).flatten.length : Nat) : Int) ≤ (most : Int))) = true := by
      rw [Bool.and_eq_true, decide_eq_true_eq, decide_eq_true_eq, List.take_length]; omega
    rw [cond_f (by omega), slices_Grow_byte_byte.F, e]
    simp only [cond_true, Option.bind_some, List.length_map]
    exact concat_l2 n xs ht hl xs.length 0 m (by omega) (by omega)
  | d + 1, i, m + 1, h, hm => by
    simp only [slices_Concat_byte_byte.l, slices_Concat_byte_byte.r3]
    have e4 : IntKind.i64.wrap ((i : Int) + 1) = ((i + 1 : Nat) : Int) := by rw [w64] <;> omega
    have e6 : (decide ((0 : Int) ≤ (i : Int)) && decide ((i : Int) < (((xs.map (AV.sl ⟨true, 5⟩ 1)).length : Nat) : Int))) = true := by
      rw [Bool.and_eq_true, decide_eq_true_eq, decide_eq_true_eq, List.length_map]; omega
    have hi : i < xs.length := by omega
    have e7 : (xs.map (AV.sl ⟨true, 5⟩ 1)).getD i .undef = AV.sl ⟨true, 5⟩ 1 xs[i] := by simp [List.getD_eq_getElem?_getD, hi]
    have e8 : (xs.take i).flatten.length + xs[i].length = (xs.take (i + 1)).flatten.length := by rw [← flatten_take hi, List.length_append]
    have e9 : (xs.take (i + 1)).flatten.length ≤ xs.flatten.length := by
      have : xs.flatten = (xs.take (i + 1)).flatten ++ (xs.drop (i + 1)).flatten := by rw [← List.flatten_append, List.take_append_drop]
      rw [this, List.length_append]; omega
    have hmost : most = 1000000000 := rfl
    have e10 : IntKind.i64.wrap ((((xs.take i).flatten.length : Nat) : Int) + ((xs[i].length : Nat) : Int)) = (((xs.take (i + 1)).flatten.length : Nat) : Int) := by
      rw [w64] <;> omega
    rw [cond_t (by omega), e6, cond_true, Int.toNat_natCast, e7, e4]
    simp only [AV.cells, withCons, withSl, BEq.rfl, Bool.true_and, Nat.beq_refl, cond_true]
    rw [e10, cond_f (by omega)]
    exact concat_l1 n hn xs ht hl d (i + 1) m (by omega) (by omega)
theorem concat_eq {n : Nat} (hn : 1000002 ≤ n) (xs : List (List AV)) (ht : xs.flatten.length ≤ most) (hl : xs.length ≤ 1000) : slices_Concat_byte_byte.F n (xs.map (AV.sl ⟨true, 5⟩ 1)) = some xs.flatten := by
  unfold slices_Concat_byte_byte.F slices_Concat_byte_byte.e
  rw [List.length_map]
  exact concat_l1 n hn xs ht (by omega) xs.length 0 n (by omega) (by omega)
theorem within_eq (n : Nat) (a b c : Int) : tagged_within.F n a b c = some (decide (b ≤ a) && decide (a ≤ c)) := by
  unfold tagged_within.F tagged_within.e
  cases decide (b ≤ a) <;> rfl
theorem bwithin_eq (n : Nat) (a b c : Int) : midrangebase_Within.F n a b c = some (decide (b ≤ a) && decide (a ≤ c)) := by
  unfold midrangebase_Within.F midrangebase_Within.e
  cases decide (b ≤ a) <;> rfl
end Go.Proofs.YtgmpnhfnkhohiaaGreatDoor.Ev

/- Pointers and their bytes: what chapter 3's program and its reference compute is the same. -/
namespace Go.Proofs.YtgmpnhfnkhohiaaGreatDoor.Ev
open Go Go.Proofs Go.Proofs.Ev
set_option linter.unusedVariables false
def bytesOf (a0 a1 a2 a3 : Int) : List UInt8 := be 1 a0 ++ be 1 0 ++ be 2 a3 ++ be 6 a1 ++ be 6 a2
theorem bytesOf_length (a0 a1 a2 a3 : Int) : (bytesOf a0 a1 a2 a3).length = 16 := by simp [bytesOf, be_length]
theorem encoded_eq {n : Nat} (hn : 1000002 ≤ n) (a0 a1 a2 a3 : Int) : tagged_encoded.F n a0 a1 a2 a3 = some ⟨(bytesOf a0 a1 a2 a3).toArray⟩ := by
  unfold tagged_encoded.F tagged_encoded.e
  have h1 := big_eq (n := n) a0 1 (by omega) (by omega)
  have h2 := big_eq (n := n) 0 1 (by omega) (by omega)
  have h3 := big_eq (n := n) a3 2 (by omega) (by omega)
  have h4 := big_eq (n := n) a1 6 (by omega) (by omega)
  have h5 := big_eq (n := n) a2 6 (by omega) (by omega)
  have hc := concat_eq (n := n) hn [brow a0 1 1, brow 0 1 1, brow a3 2 2, brow a1 6 6, brow a2 6 6] (by simp [brow_length, most]) (by simp)
  simp only [List.map_cons, List.map_nil] at hc
  rw [show ((1 : Nat) : Int) = 1 from rfl] at h1 h2
  rw [show ((2 : Nat) : Int) = 2 from rfl] at h3
  rw [show ((6 : Nat) : Int) = 6 from rfl] at h4 h5
  rw [h1, h2, h3, h4, h5]
  simp only [Option.bind_some, hc]
  have hs : ∀ l1 l2 : List AV, ∀ b1 b2, strOf l1 = some b1 → strOf l2 = some b2 → strOf (l1 ++ l2) = some (b1 ++ b2) := by
    intro l1
    induction l1 with
    | nil => intro l2 b1 b2 h1 h2; cases h1; exact h2
    | cons x l1 ih =>
      intro l2 b1 b2 h1 h2
      cases x with
      | v y =>
        cases y with
        | int k i =>
          cases k with
          | u8 =>
            simp only [strOf, List.cons_append] at h1 ⊢
            cases hs : strOf l1 with
            | none => rw [hs] at h1; cases h1
            | some b => rw [hs] at h1; cases h1; rw [ih l2 b b2 hs h2]; rfl
          | _ => cases h1
        | _ => cases h1
      | _ => cases h1
  have e : strOf [brow a0 1 1, brow 0 1 1, brow a3 2 2, brow a1 6 6, brow a2 6 6].flatten = some (bytesOf a0 a1 a2 a3) := by
    simp only [List.flatten_cons, List.flatten_nil, List.append_nil, bytesOf, List.append_assoc]
    exact hs _ _ _ _ (strOf_brow _ _) (hs _ _ _ _ (strOf_brow _ _) (hs _ _ _ _ (strOf_brow _ _) (hs _ _ _ _ (strOf_brow _ _) (strOf_brow _ _))))
  rw [e]
  rfl
theorem bytes_append (a b : List UInt8) : (⟨a.toArray⟩ : ByteArray) ++ (⟨b.toArray⟩ : ByteArray) = ⟨(a ++ b).toArray⟩ := by
  apply ByteArray.ext
  rw [ByteArray.data_append]
  simp
theorem check_eq {n : Nat} (hn : 1 ≤ n) (a0 a1 a2 a3 : Int) : ∃ c, tagged_CheckPointer.F n a0 a1 a2 a3 = some c ∧ midrangeref03_PointerErr.F n a0 a1 a2 a3 = some c ∧
    (c = 0 → (0 ≤ a0 ∧ a0 ≤ 2) ∧ (0 ≤ a1 ∧ a1 ≤ 1099511627775) ∧ (0 ≤ a2 ∧ a2 ≤ 16777215) ∧ (0 ≤ a3 ∧ a3 ≤ 1023)) := by
  obtain ⟨m, rfl⟩ : ∃ m, n = m + 1 := ⟨n - 1, by omega⟩
  unfold tagged_CheckPointer.F tagged_CheckPointer.e midrangeref03_PointerErr.F midrangeref03_PointerErr.e
  simp only [within_eq, bwithin_eq, Option.bind_some, tagged_CheckPointer.l, tagged_CheckPointer.r6, midrangeref03_PointerErr.l, midrangeref03_PointerErr.r4]
  cases h0 : (decide (0 ≤ a0) && decide (a0 ≤ 2)) with
  | false => exact ⟨4, rfl, rfl, by omega⟩
  | true =>
    cases h1 : (decide (0 ≤ a1) && decide (a1 ≤ 1099511627775)) with
    | false => exact ⟨3, rfl, rfl, by omega⟩
    | true =>
      cases h2 : (decide (0 ≤ a2) && decide (a2 ≤ 16777215)) with
      | false => exact ⟨3, rfl, rfl, by omega⟩
      | true =>
        cases h3 : (decide (0 ≤ a3) && decide (a3 ≤ 1023)) with
        | false => exact ⟨3, rfl, rfl, by omega⟩
        | true =>
          simp only [Bool.and_eq_true, decide_eq_true_eq] at h0 h1 h2 h3
          cases ha : (a3 != 0) <;> cases hb : (a0 != 1)
          · exact ⟨0, rfl, rfl, fun _ => ⟨h0, h1, h2, h3⟩⟩
          · exact ⟨0, rfl, rfl, fun _ => ⟨h0, h1, h2, h3⟩⟩
          · exact ⟨0, rfl, rfl, fun _ => ⟨h0, h1, h2, h3⟩⟩
          · exact ⟨5, rfl, rfl, by omega⟩
theorem pointerBytes_eq {n : Nat} (hn : 1000002 ≤ n) (a0 a1 a2 a3 : Int) : ∃ c, tagged_CheckPointer.F n a0 a1 a2 a3 = some c ∧ midrangeref03_PointerErr.F n a0 a1 a2 a3 = some c ∧
    tagged_PointerBytes.F n a0 a1 a2 a3 = some (bif c != 0 then (⟨#[]⟩, c) else (⟨(bytesOf a0 a1 a2 a3).toArray⟩, 0)) ∧ True := by
  obtain ⟨c, h1, h2, h3⟩ := check_eq (n := n) (by omega) a0 a1 a2 a3
  refine ⟨c, h1, h2, ?_, trivial⟩
  · unfold tagged_PointerBytes.F tagged_PointerBytes.e
    rw [h1, encoded_eq hn]
    simp only [Option.bind_some]
    cases c != 0 <;> rfl
/-- A number out of its bytes. -/
def val (l : List UInt8) : Nat := l.foldl (fun a b => a * 256 + b.toNat) 0
theorem val_snoc (l : List UInt8) (b : UInt8) : val (l ++ [b]) = val l * 256 + b.toNat := by simp [val]
theorem val_lt : ∀ (k : Nat) (l : List UInt8), l.length = k → val l < 256 ^ k
  | 0, l, h => by have := List.length_eq_zero_iff.1 h; subst this; decide
  | k + 1, l, h => by
    have hne : l ≠ [] := by rintro rfl; simp at h
    have e := List.dropLast_concat_getLast hne
    rw [← e, val_snoc]
    have h1 := val_lt k l.dropLast (by simp [h])
    have h2 := (l.getLast hne).toNat_lt
    rw [Nat.pow_succ]
    omega
theorem take_snoc {l : List UInt8} {i : Nat} (hi : i < l.length) : l.take (i + 1) = l.take i ++ [l[i]] := List.take_succ_eq_append_getElem hi
theorem or_low (a b : Nat) (ha : a < 2 ^ 48) (hb : b < 256) : IntKind.i64.wrap ((BitVec.ofInt 64 ((a : Int) * 256) ||| BitVec.ofInt 64 (b : Int)).toNat : Int) = ((a * 256 + b : Nat) : Int) := by
  have e1 : BitVec.ofInt 64 ((a : Int) * 256) = BitVec.ofNat 64 (a * 256) := by
    rw [show (a : Int) * 256 = ((a * 256 : Nat) : Int) by omega, BitVec.ofInt_natCast]
  have e2 : BitVec.ofInt 64 (b : Int) = BitVec.ofNat 64 b := BitVec.ofInt_natCast ..
  rw [e1, e2, BitVec.toNat_or, BitVec.toNat_ofNat, BitVec.toNat_ofNat, Nat.mod_eq_of_lt (by omega), Nat.mod_eq_of_lt (by omega)]
  have : a * 256 ||| b = a * 256 + b := by
    have := Nat.shiftLeft_add_eq_or_of_lt (i := 8) (b := b) (by omega) a
    rw [Nat.shiftLeft_eq, show (2 : Nat) ^ 8 = 256 from rfl] at this
    omega
  rw [this]
  exact w64 (by omega) (by omega)
theorem number_l (n : Nat) (s : ByteArray) (hs : s.size ≤ 6) : ∀ (d i m : Nat), i + d = s.size → d < m → tagged_number.l n m s (val (s.data.toList.take i) : Int) s.size i = some (val s.data.toList : Int)
  | _, _, 0, _, h => absurd h (by omega)
  | 0, i, m + 1, h, _ => by
    have : i = s.size := by omega
    subst this
    unfold tagged_number.l tagged_number.r3
    rw [cond_f (by omega), List.take_of_length_le (by rw [Array.length_toList]; exact Nat.le_refl _)]
  | d + 1, i, m + 1, h, hm => by
    unfold tagged_number.l tagged_number.r3
    have hi : i < s.size := by omega
    have hl : i < s.data.toList.length := by rw [Array.length_toList]; exact hi
    have hv := val_lt i (s.data.toList.take i) (by rw [List.length_take]; omega)
    have hp : 256 ^ i ≤ 256 ^ 5 := Nat.pow_le_pow_right (by omega) (by omega)
    have e1 : IntKind.i64.wrap ((val (s.data.toList.take i) : Int) * 2 ^ min (8 : Int).toNat 64) = (val (s.data.toList.take i) : Int) * 256 := by
      have : (2 : Int) ^ min (8 : Int).toNat 64 = 256 := by decide
      rw [this]
      exact w64 (by omega) (by omega)
    have e2 : (decide ((0 : Int) ≤ (i : Int)) && decide ((i : Int) < ((s.size : Nat) : Int))) = true := by
      rw [Bool.and_eq_true, decide_eq_true_eq, decide_eq_true_eq]; omega
    have e3 : s.data.getD i 0 = s.data.toList[i] := by
      have : i < s.data.size := hi
      rw [Array.getD_eq_getD_getElem?, Array.getElem?_eq_getElem this]
      rfl
    have e4 : IntKind.i64.wrap ((i : Int) + 1) = ((i + 1 : Nat) : Int) := by rw [w64] <;> omega
    have hb := (s.data.toList[i]).toNat_lt
    rw [cond_t (by omega)]
    simp only
    rw [e1, e2, cond_true, Int.toNat_natCast, e3, w64 (x := (((s.data.toList[i]).toNat : Nat) : Int)) (by omega) (by omega), or_low _ _ (by omega) (by omega), e4, ← val_snoc, ← take_snoc hl]
    exact number_l n s hs d (i + 1) m (by omega) (by omega)
theorem number_eq {n : Nat} (s : ByteArray) (hs : s.size ≤ 6) (hn : 7 ≤ n) : tagged_number.F n s = some (val s.data.toList : Int) := by
  unfold tagged_number.F tagged_number.e
  exact number_l n s hs s.size 0 n (by omega) (by omega)
theorem bigAt_l (n : Nat) (s : ByteArray) (at_ len : Nat) (hl : len ≤ 6) (hs : at_ + len ≤ s.size) (hz : s.size ≤ 1000000) : ∀ (d i m : Nat), i + d = len → d < m →
    midrangebase_Big.l n m s at_ len (val ((s.data.toList.drop at_).take i) : Int) i = some (val ((s.data.toList.drop at_).take len) : Int)
  | _, _, 0, _, h => absurd h (by omega)
  | 0, i, m + 1, h, _ => by
    have : i = len := by omega
    subst this
    unfold midrangebase_Big.l midrangebase_Big.r3
    rw [cond_f (by omega)]
  | d + 1, i, m + 1, h, hm => by
    unfold midrangebase_Big.l midrangebase_Big.r3
    have hi : at_ + i < s.size := by omega
    have hll : i < (s.data.toList.drop at_).length := by
      rw [List.length_drop, Array.length_toList]
      have : at_ + i < s.data.size := hi
      omega
    have hv := val_lt i ((s.data.toList.drop at_).take i) (by rw [List.length_take]; omega)
    have hp : 256 ^ i ≤ 256 ^ 5 := Nat.pow_le_pow_right (by omega) (by omega)
    have e0 : IntKind.i64.wrap ((at_ : Int) + (i : Int)) = ((at_ + i : Nat) : Int) := by rw [w64] <;> omega
    have e2 : (decide ((0 : Int) ≤ ((at_ + i : Nat) : Int)) && decide (((at_ + i : Nat) : Int) < ((s.size : Nat) : Int))) = true := by
      rw [Bool.and_eq_true, decide_eq_true_eq, decide_eq_true_eq]; omega
    have e3 : s.data.getD (at_ + i) 0 = (s.data.toList.drop at_)[i] := by
      have : at_ + i < s.data.size := hi
      rw [Array.getD_eq_getD_getElem?, Array.getElem?_eq_getElem this, List.getElem_drop]
      rfl
    have e4 : IntKind.i64.wrap ((i : Int) + 1) = ((i + 1 : Nat) : Int) := by rw [w64] <;> omega
    have hb := ((s.data.toList.drop at_)[i]).toNat_lt
    have e5 : IntKind.i64.wrap ((IntKind.i64.wrap ((val ((s.data.toList.drop at_).take i) : Int) * 256)) + (IntKind.i64.wrap ((((s.data.toList.drop at_)[i]).toNat : Nat) : Int))) = ((val ((s.data.toList.drop at_).take (i + 1)) : Nat) : Int) := by
      rw [take_snoc hll, val_snoc, w64 (x := (val ((s.data.toList.drop at_).take i) : Int) * 256) (by omega) (by omega), w64 (x := ((((s.data.toList.drop at_)[i]).toNat : Nat) : Int)) (by omega) (by omega), w64 (by omega) (by omega)]
      omega
    rw [cond_t (by omega), e0, e2, cond_true]
    simp only [Int.toNat_natCast]
    rw [e3, e5, e4]
    exact bigAt_l n s at_ len hl hs hz d (i + 1) m (by omega) (by omega)
theorem bigAt_eq {n : Nat} (s : ByteArray) (at_ len : Nat) (hl : len ≤ 6) (hs : at_ + len ≤ s.size) (hz : s.size ≤ 1000000) (hn : 7 ≤ n) : midrangebase_Big.F n s at_ len = some (val ((s.data.toList.drop at_).take len) : Int) := by
  unfold midrangebase_Big.F midrangebase_Big.e
  exact bigAt_l n s at_ len hl hs hz len 0 n (by omega) (by omega)
theorem extract_list (s : ByteArray) (a b : Nat) : (s.extract a b).data.toList = (s.data.toList.drop a).take (b - a) := by
  rw [ByteArray.data_extract, Array.toList_extract, List.extract_eq_take_drop]
theorem extract_size (s : ByteArray) (a b : Nat) (h : b ≤ s.size) : (s.extract a b).size = b - a := by
  rw [ByteArray.size_extract]; omega
/-- What a pointer's bytes stand for. -/
theorem pointerIn_eq {n : Nat} (hn : 7 ≤ n) (s : ByteArray) : ∃ p, tagged_PointerIn.F n s = some p ∧ midrangeref03_In.F n s = some p := by
  unfold tagged_PointerIn.F tagged_PointerIn.e midrangeref03_In.F midrangeref03_In.e
  by_cases hs : s.size = 16
  · have e16 : (((s.size : Nat) : Int) != 16) = false := by rw [hs]; rfl
    have g1 : decide ((1 : Int) < ((s.size : Nat) : Int)) = true := by rw [hs]; rfl
    have g0 : decide ((0 : Int) < ((s.size : Nat) : Int)) = true := by rw [hs]; rfl
    simp only [e16, cond_false, g1, g0, cond_true]
    cases h1 : ((((s.data.getD 1 0).toNat : Nat) : Int) != 0) with
    | true => exact ⟨_, rfl, rfl⟩
    | false =>
      simp only [cond_false]
      have g4 : (decide ((0 : Int) ≤ 4) && decide ((4 : Int) ≤ ((s.size : Nat) : Int))) = true := by rw [hs]; rfl
      have g10 : (decide ((0 : Int) ≤ 10) && decide ((10 : Int) ≤ ((s.size : Nat) : Int))) = true := by rw [hs]; rfl
      have g2 : (decide ((0 : Int) ≤ 2) && decide ((2 : Int) ≤ 4)) = true := rfl
      have g3 : (decide ((0 : Int) ≤ 4) && decide ((4 : Int) ≤ 10)) = true := rfl
      rw [g4, g10, g2, g3]
      simp only [cond_true]
      have n1 := number_eq (n := n) (s.extract 2 4) (by rw [extract_size _ _ _ (by omega)]; omega) hn
      have n2 := number_eq (n := n) (s.extract 4 10) (by rw [extract_size _ _ _ (by omega)]; omega) hn
      have n3 := number_eq (n := n) (s.extract 10 s.size) (by rw [extract_size _ _ _ (by omega)]; omega) hn
      have b1 := bigAt_eq (n := n) s 2 2 (by omega) (by omega) (by omega) hn
      have b2 := bigAt_eq (n := n) s 4 6 (by omega) (by omega) (by omega) hn
      have b3 := bigAt_eq (n := n) s 10 6 (by omega) (by omega) (by omega) hn
      rw [extract_list] at n1 n2 n3
      rw [hs] at n3
      have k1 : midrangebase_Big.F n s 2 2 = some (val ((s.data.toList.drop 2).take 2) : Int) := b1
      have k2 : midrangebase_Big.F n s 4 6 = some (val ((s.data.toList.drop 4).take 6) : Int) := b2
      have k3 : midrangebase_Big.F n s 10 6 = some (val ((s.data.toList.drop 10).take 6) : Int) := b3
      rw [hs, n1, n2, n3, k1, k2, k3]
      simp only [Option.bind_some]
      obtain ⟨c, c1, c2, _⟩ := check_eq (n := n) (by omega) (IntKind.i64.wrap (((s.data.getD 0 0).toNat : Nat) : Int)) (val ((s.data.toList.drop 4).take 6) : Int) (val ((s.data.toList.drop 10).take 6) : Int) (val ((s.data.toList.drop 2).take 2) : Int)
      have d1 : tagged_CheckPointer.F n (IntKind.i64.wrap (((s.data.getD 0 0).toNat : Nat) : Int)) (val ((s.data.toList.drop 4).take (10 - 4)) : Int) (val ((s.data.toList.drop 10).take (16 - 10)) : Int) (val ((s.data.toList.drop 2).take (4 - 2)) : Int) = some c := c1
      rw [c2, d1]
      simp only [Option.bind_some]
      cases c != 0 <;> exact ⟨_, rfl, rfl⟩
  · have e16 : (((s.size : Nat) : Int) != 16) = true := by simp; omega
    simp only [e16, cond_true]
    exact ⟨_, rfl, rfl⟩
theorem awake_eq {n : Nat} (hn : 1000002 ≤ n) : midrangelaw03_awake.F n = some true := by
  unfold midrangelaw03_awake.F midrangelaw03_awake.e
  obtain ⟨c, h1, _, h3, _⟩ := pointerBytes_eq hn 1 258 3 5
  have hc : c = 0 := by
    obtain ⟨m, rfl⟩ : ∃ m, n = m + 1 := ⟨n - 1, by omega⟩
    have : tagged_CheckPointer.F (m + 1) 1 258 3 5 = some 0 := by
      unfold tagged_CheckPointer.F tagged_CheckPointer.e
      simp only [within_eq, Option.bind_some]
      rfl
    rw [this] at h1
    cases h1
    rfl
  subst hc
  rw [h3]
  have b := bigBytes_eq (n := n) (a := 1) (by omega) (by omega) 2 (by omega) (by omega)
  rw [show ((2 : Nat) : Int) = 2 from rfl] at b
  simp only [Option.bind_some, b]
  decide +kernel
end Go.Proofs.YtgmpnhfnkhohiaaGreatDoor.Ev

/- Storages: checks, ranges, reads and writes: what chapter 3's program and its reference compute is the same. -/
namespace Go.Proofs.YtgmpnhfnkhohiaaGreatDoor.Ev
open Go Go.Proofs Go.Proofs.Ev
set_option linter.unusedVariables false
def Bl (ts : List Bool) : List AV := ts.map vb
theorem bools_of : ∀ {xs : List AV}, (∀ y ∈ xs, ∃ b, [y] = [vb b]) → ∃ ts, xs = Bl ts
  | [], _ => ⟨[], rfl⟩
  | x :: xs, h => by
    obtain ⟨b, hb⟩ := h x (by simp)
    obtain ⟨ts, hts⟩ := bools_of (xs := xs) (fun y hy => h y (by simp [hy]))
    cases hb
    exact ⟨b :: ts, by rw [hts]; rfl⟩
theorem bl_length (ts : List Bool) : (Bl ts).length = ts.length := by simp [Bl]
theorem bl_get {ts : List Bool} {i : Nat} (h : i < ts.length) : (Bl ts).getD i .undef = vb ts[i] := by simp [Bl, List.getD_eq_getElem?_getD, h]
theorem within_t {i : Nat} {len : Nat} (h : i < len) : (decide ((0 : Int) ≤ (i : Int)) && decide ((i : Int) < (len : Int))) = true := by
  rw [Bool.and_eq_true, decide_eq_true_eq, decide_eq_true_eq]; omega
theorem upto_t {i : Nat} {len : Nat} (h : i ≤ len) : (decide ((0 : Int) ≤ (i : Int)) && decide ((i : Int) ≤ (len : Int))) = true := by
  rw [Bool.and_eq_true, decide_eq_true_eq, decide_eq_true_eq]; omega
theorem upto_t2 {i j : Nat} (h : i ≤ j) : (decide ((0 : Int) ≤ (i : Int)) && decide ((i : Int) ≤ (j : Int))) = true := upto_t h
theorem wsucc {i : Nat} (h : i ≤ 1000000000) : IntKind.i64.wrap ((i : Int) + 1) = ((i + 1 : Nat) : Int) := by rw [w64] <;> omega
theorem quad_eq (n : Nat) (s : ByteArray) (t : List AV) (i : Nat) (h : 16 * i + 16 ≤ s.size) (hs : s.size ≤ 1000000) : midrangeref03_quad.F n s t i = some (s.extract (16 * i) (16 * i + 16)) := by
  unfold midrangeref03_quad.F midrangeref03_quad.e
  have e1 : IntKind.i64.wrap ((i : Int) * 16) = ((16 * i : Nat) : Int) := by rw [w64] <;> omega
  have e2 : IntKind.i64.wrap (((16 * i : Nat) : Int) + 16) = ((16 * i + 16 : Nat) : Int) := by rw [w64] <;> omega
  simp only [e1, e2]
  rw [upto_t h, upto_t2 (by omega)]
  simp only [cond_true, Int.toNat_natCast]
theorem check_l (n : Nat) (hn : 7 ≤ n) (s : ByteArray) (ts : List Bool) (hs : s.size = 16 * ts.length) (hl : ts.length ≤ 1000) : ∀ (d i m m' : Nat), i + d = ts.length → d < m → d < m' →
    ∃ r, tagged_CheckStorage.l n m (Bl ts) ts.length i s (Bl ts) = some r ∧ midrangeref03_Check.l n m' ts.length i s (Bl ts) = some r ∧ (r.2 = 0 → r.1 = ts.length ∧ ∀ j, i ≤ j → (hj : j < ts.length) → ts[j] = true → ∃ p, midrangeref03_In.F n (s.extract (16 * j) (16 * j + 16)) = some p ∧ p.2.2.2.2 = 0)
  | _, _, 0, _, _, h, _ => absurd h (by omega)
  | _, _, _, 0, _, _, h => absurd h (by omega)
  | 0, i, m + 1, m' + 1, h, _, _ => by
    have : i = ts.length := by omega
    subst this
    unfold tagged_CheckStorage.l tagged_CheckStorage.r9 midrangeref03_Check.l midrangeref03_Check.r9
    rw [cond_f (by omega), cond_f (by omega), bl_length]
    exact ⟨_, rfl, rfl, fun _ => ⟨rfl, fun j h1 h2 => absurd h2 (by omega)⟩⟩
  | d + 1, i, m + 1, m' + 1, h, h1, h2 => by
    have hi : i < ts.length := by omega
    unfold tagged_CheckStorage.l tagged_CheckStorage.r9 midrangeref03_Check.l midrangeref03_Check.r9
    rw [cond_t (by omega), cond_t (by omega), bl_length, within_t hi, cond_true, cond_true, Int.toNat_natCast, bl_get hi]
    simp only [AV.cells, withCons, withBool]
    obtain ⟨r, r1, r2, r3⟩ := check_l n hn s ts hs hl d (i + 1) m m' (by omega) (by omega) (by omega)
    rw [wsucc (by omega), r1, r2]
    cases hb : ts[i] with
    | false =>
      refine ⟨r, rfl, rfl, fun h0 => ⟨(r3 h0).1, fun j hj hj2 hj3 => ?_⟩⟩
      by_cases e : j = i
      · subst e; rw [hb] at hj3; cases hj3
      · exact (r3 h0).2 j (by omega) hj2 hj3
    | true =>
      have e1 : IntKind.i64.wrap ((i : Int) * 16) = ((16 * i : Nat) : Int) := by rw [w64] <;> omega
      have e2 : IntKind.i64.wrap (((16 * i : Nat) : Int) + 16) = ((16 * i + 16 : Nat) : Int) := by rw [w64] <;> omega
      obtain ⟨p, p1, p2⟩ := pointerIn_eq hn (s.extract (16 * i) (16 * i + 16))
      simp only [Bool.not_true, cond_false, cond_true, e1, e2]
      rw [upto_t (by omega), upto_t2 (by omega), quad_eq n s _ i (by omega) (by omega)]
      simp only [cond_true, Int.toNat_natCast, Option.bind_some, p1, p2]
      cases hp : (p.2.2.2.2 != 0) with
      | true => exact ⟨_, rfl, rfl, fun h0 => by cases h0⟩
      | false =>
        refine ⟨r, rfl, rfl, fun h0 => ⟨(r3 h0).1, fun j hj hj2 hj3 => ?_⟩⟩
        by_cases e : j = i
        · subst e; exact ⟨p, p2, by simpa using hp⟩
        · exact (r3 h0).2 j (by omega) hj2 hj3
/-- What a check of a storage comes to. -/
theorem checkS_eq {n : Nat} (hn : 1002 ≤ n) (s : ByteArray) (ts : List Bool) (hs : s.size ≤ 1072) :
    ∃ r, tagged_CheckStorage.F n s (Bl ts) = some r ∧ midrangeref03_Check.F n s (Bl ts) = some r ∧
      (r.2 = 0 → s.size = 16 * ts.length ∧ ts.length ≤ 64 ∧ r.1 = ts.length ∧ ∀ j, (hj : j < ts.length) → ts[j] = true → ∃ p, midrangeref03_In.F n (s.extract (16 * j) (16 * j + 16)) = some p ∧ p.2.2.2.2 = 0) := by
  unfold tagged_CheckStorage.F tagged_CheckStorage.e midrangeref03_Check.F midrangeref03_Check.e
  have e1 : Int.tmod ((s.size : Nat) : Int) 16 = ((s.size % 16 : Nat) : Int) := by rw [Int.tmod_eq_emod_of_nonneg (by omega)]; omega
  have e2 : IntKind.i64.wrap (Int.tdiv ((s.size : Nat) : Int) 16) = ((s.size / 16 : Nat) : Int) := by rw [Int.tdiv_eq_ediv_of_nonneg (by omega), w64] <;> omega
  simp only [e1, e2, bl_length]
  by_cases h1 : ((s.size : Nat) : Int) > 1024
  · simp only [h1, decide_true, cond_true]
    exact ⟨_, rfl, rfl, fun h => by cases h⟩
  · simp only [h1, decide_false, cond_false]
    cases h2 : (((s.size % 16 : Nat) : Int) != 0) with
    | true => exact ⟨_, rfl, rfl, fun h => by cases h⟩
    | false =>
      simp only [cond_false]
      cases h3 : (((ts.length : Nat) : Int) != ((s.size / 16 : Nat) : Int)) with
      | true => exact ⟨_, rfl, rfl, fun h => by cases h⟩
      | false =>
        simp only [bne_eq_false_iff_eq] at h2 h3
        have hsz : s.size = 16 * ts.length := by omega
        simp only [cond_false]
        rw [show s.size / 16 = ts.length by omega]
        obtain ⟨r, r1, r2, r3⟩ := check_l n (by omega) s ts hsz (by omega) ts.length 0 n n (by omega) (by omega) (by omega)
        exact ⟨r, r1, r2, fun h => ⟨hsz, by omega, (r3 h).1, fun j hj hb => (r3 h).2 j (by omega) hj hb⟩⟩
theorem own_eq (n : Nat) (s : ByteArray) (ts : List Bool) (hl : ts.length ≤ 1000) : midrangebase_OwnStorage.F n s (Bl ts) = some (s, Bl ts) := by
  unfold midrangebase_OwnStorage.F midrangebase_OwnStorage.e midrangebase_CopyBools.F midrangebase_CopyBools.e
  have : most = 1000000000 := rfl
  rw [cond_t (by rw [bl_length]; omega)]
  rfl
/-- A storage's tags after so many bytes have been written at an offset; its bytes. -/
def clr (ts : List Bool) (a k : Nat) : List Bool := (List.range ts.length).map fun j => if 0 < k ∧ a / 16 ≤ j ∧ j ≤ (a + k - 1) / 16 then false else ts.getD j false
def patch (s d : ByteArray) (a : Nat) : ByteArray := s.extract 0 a ++ d ++ s.extract (a + d.size) s.size
theorem clr_length (ts : List Bool) (a k : Nat) : (clr ts a k).length = ts.length := by simp [clr]
theorem clr_zero (ts : List Bool) (a : Nat) : clr ts a 0 = ts := by
  apply List.ext_getElem
  · simp [clr]
  · intro j h1 h2
    simp [clr, List.getD_eq_getElem?_getD, h2]
theorem bl_set (ts : List Bool) (i : Nat) (b : Bool) : (Bl ts).set i (vb b) = Bl (ts.set i b) := by simp [Bl, List.map_set]
theorem bl_take (ts : List Bool) (i : Nat) : (Bl ts).take i = Bl (ts.take i) := by simp [Bl, List.map_take]
theorem bl_drop (ts : List Bool) (i : Nat) : (Bl ts).drop i = Bl (ts.drop i) := by simp [Bl, List.map_drop]
theorem bl_append (ts us : List Bool) : Bl ts ++ Bl us = Bl (ts ++ us) := by simp [Bl]
theorem bl_replicate (k : Nat) (b : Bool) : List.replicate k (vb b) = Bl (List.replicate k b) := by simp [Bl]
theorem clr_cut {ts : List Bool} {a k : Nat} (hk : 0 < k) (h : a + k ≤ 16 * ts.length) :
    ts.take (a / 16) ++ List.replicate ((a + k - 1) / 16 + 1 - a / 16) false ++ ts.drop ((a + k - 1) / 16 + 1 - a / 16 + a / 16) = clr ts a k := by
  have h1 : (a + k - 1) / 16 + 1 - a / 16 + a / 16 = (a + k - 1) / 16 + 1 := by omega
  rw [h1]
  apply List.ext_getElem
  · simp [clr]; omega
  · intro j h2 h3
    rw [clr_length] at h3
    simp only [clr, List.getElem_map, List.getElem_range]
    have hg : ts.getD j false = ts[j] := by simp [List.getD_eq_getElem?_getD, h3]
    by_cases c1 : j < a / 16
    · rw [if_neg (by omega), hg, List.getElem_append_left (by simp; omega), List.getElem_append_left (by simp; omega), List.getElem_take]
    · by_cases c2 : j ≤ (a + k - 1) / 16
      · rw [if_pos (by omega), List.getElem_append_left (by simp; omega), List.getElem_append_right (by simp; omega), List.getElem_replicate]
      · rw [if_neg (by omega), hg, List.getElem_append_right (by simp; omega), List.getElem_drop]
        congr 1
        simp
        omega
theorem toList_empty (d : ByteArray) : (d.toList == (⟨#[]⟩ : ByteArray).toList) = decide (d.size = 0) := by
  rw [ByteArray.toList_eq, ByteArray.toList_eq]
  cases h : decide (d.size = 0) with
  | true =>
    have h := of_decide_eq_true h
    have : d.data.toList = [] := List.length_eq_zero_iff.1 (by rw [Array.length_toList]; exact h)
    rw [this]
    rfl
  | false =>
    have h := of_decide_eq_false h
    rw [beq_eq_false_iff_ne]
    intro e
    apply h
    have : d.data.toList.length = 0 := by rw [e]; rfl
    rw [Array.length_toList] at this
    exact this
theorem patch_parts {s d : ByteArray} {a : Nat} (h : a + d.size ≤ s.size) (hs : s.size ≤ 1000000) :
    (s.extract 0 a).size + d.size ≤ 9223372036854775807 ∧ (s.extract 0 a ++ d).size + (s.extract (a + d.size) s.size).size ≤ 9223372036854775807 := by
  have h1 := extract_size s 0 a (by omega)
  have h2 := extract_size s (a + d.size) s.size (Nat.le_refl _)
  rw [ByteArray.size_append, h1, h2]
  omega
theorem put_eq (n : Nat) (s d : ByteArray) (ts : List Bool) (a : Nat) (h : a + d.size ≤ s.size) (hs : s.size = 16 * ts.length) (hl : ts.length ≤ 1000) : tagged_put.F n s (Bl ts) a d = some (patch s d a, Bl (clr ts a d.size)) := by
  unfold tagged_put.F tagged_put.e
  obtain ⟨p1, p2⟩ := patch_parts h (by omega)
  have e : IntKind.i64.wrap ((a : Int) + ((d.size : Nat) : Int)) = ((a + d.size : Nat) : Int) := by rw [w64] <;> omega
  have hmost : most = 1000000000 := rfl
  simp only [e, Int.toNat_natCast]
  rw [upto_t (by omega), upto_t h]
  simp only [cond_true, chk, p1, p2, decide_true, slices_Clone_bool_bool.F]
  rw [cond_t (by rw [bl_length]; omega)]
  simp only [Option.bind_some, toList_empty]
  by_cases h0 : d.size = 0
  · simp only [h0, decide_true, Bool.not_true, cond_false, clr_zero]
    unfold patch
    rw [h0]
  · have f1 : IntKind.i64.wrap (Int.tdiv (a : Int) 16) = ((a / 16 : Nat) : Int) := by rw [Int.tdiv_eq_ediv_of_nonneg (by omega), w64] <;> omega
    have f2 : IntKind.i64.wrap (((a + d.size : Nat) : Int) - 1) = ((a + d.size - 1 : Nat) : Int) := by rw [w64] <;> omega
    have f3 : IntKind.i64.wrap (Int.tdiv ((a + d.size - 1 : Nat) : Int) 16) = (((a + d.size - 1) / 16 : Nat) : Int) := by rw [Int.tdiv_eq_ediv_of_nonneg (by omega), w64] <;> omega
    have f4 : IntKind.i64.wrap ((((a + d.size - 1) / 16 : Nat) : Int) + 1) = (((a + d.size - 1) / 16 + 1 : Nat) : Int) := by rw [w64] <;> omega
    have f5 : ((((a + d.size - 1) / 16 + 1 : Nat) : Int) - ((a / 16 : Nat) : Int)).toNat = (a + d.size - 1) / 16 + 1 - a / 16 := by omega
    simp only [h0, decide_false, Bool.not_false, cond_true, f1, f2, f3, f4, f5, Int.toNat_natCast]
    rw [bl_length, upto_t (by omega), upto_t2 (by omega)]
    simp only [cond_true]
    rw [bl_take, bl_drop, bl_replicate, bl_append, bl_append, clr_cut (by omega) (by omega)]
    rfl
theorem bools_l (n : Nat) (ts : List Bool) (hl : ts.length ≤ 1000000) : ∀ (e i m : Nat), i + e = ts.length → e < m → midrangebase_Bools.l n m (Bl ts) (Bl ts) i = some true
  | _, _, 0, _, h => absurd h (by omega)
  | 0, i, m + 1, h, _ => by
    have : i = ts.length := by omega
    subst this
    unfold midrangebase_Bools.l midrangebase_Bools.r4
    rw [bl_length, cond_f (by omega)]
  | e + 1, i, m + 1, h, hm => by
    have hi : i < ts.length := by omega
    unfold midrangebase_Bools.l midrangebase_Bools.r4
    rw [bl_length, cond_t (by omega), within_t hi, cond_true, Int.toNat_natCast, bl_get hi]
    simp only [AV.cells, withCons, withBool, BEq.rfl, Bool.not_true, cond_false, cond_true]
    rw [wsucc (by omega)]
    exact bools_l n ts hl e (i + 1) m (by omega) (by omega)
theorem same_eq {n : Nat} (s : ByteArray) (ts : List Bool) (hl : ts.length ≤ 1000000) (hn : ts.length < n) : midrangebase_SameStorage.F n s (Bl ts) s (Bl ts) = some true := by
  unfold midrangebase_SameStorage.F midrangebase_SameStorage.e midrangebase_Bools.F midrangebase_Bools.e
  simp only [BEq.rfl, cond_true, bne_self_eq_false, cond_false]
  rw [show (0 : Int) = ((0 : Nat) : Int) from rfl, bools_l n ts hl ts.length 0 n (by omega) hn]
  rfl
theorem err_eq {n : Nat} {s : ByteArray} {t : List AV} {r : Int × Int} (h : midrangeref03_Check.F n s t = some r) : midrangeref03_Err.F n s t = some r.2 := by
  unfold midrangeref03_Err.F midrangeref03_Err.e
  rw [h]
  rfl
theorem few_eq (n : Nat) (s : ByteArray) (ts : List Bool) : midrangelaw03_few.F n s (Bl ts) = some (decide (s.size ≤ 1072) && decide (ts.length ≤ 67)) := by
  unfold midrangelaw03_few.F midrangelaw03_few.e
  rw [bl_length]
  have e1 : decide (((s.size : Nat) : Int) ≤ 1072) = decide (s.size ≤ 1072) := decide_eq_decide.2 (by omega)
  have e2 : decide (((ts.length : Nat) : Int) ≤ 67) = decide (ts.length ≤ 67) := decide_eq_decide.2 (by omega)
  simp only [e1, e2]
  cases decide (s.size ≤ 1072) <;> rfl
end Go.Proofs.YtgmpnhfnkhohiaaGreatDoor.Ev

/- Hexadecimal digits, the pieces between spaces, and the lines of a dump: laws on lists of bytes, with no program in sight. -/
namespace Go.Proofs.YtgmpnhfnkhohiaaGreatDoor.Ev
open Go Go.Lib
set_option linter.unusedVariables false
def hd (n : Nat) : UInt8 := if n < 10 then UInt8.ofNat (48 + n) else UInt8.ofNat (55 + n)
def hx : List UInt8 → List UInt8
  | [] => []
  | b :: l => hd (b.toNat / 16) :: hd (b.toNat % 16) :: hx l
theorem hx_append : ∀ a b : List UInt8, hx (a ++ b) = hx a ++ hx b
  | [], _ => rfl
  | x :: a, b => by simp [hx, hx_append a b]
theorem hx_length : ∀ a : List UInt8, (hx a).length = 2 * a.length
  | [] => rfl
  | x :: a => by simp [hx, hx_length a]; omega
/-- The value of a digit, or -1. -/
def dg (c : UInt8) : Int := if 48 ≤ c.toNat ∧ c.toNat ≤ 57 then (c.toNat : Int) - 48 else if 65 ≤ c.toNat ∧ c.toNat ≤ 70 then (c.toNat : Int) - 55 else -1
theorem dg_range (c : UInt8) : -1 ≤ dg c ∧ dg c ≤ 15 := by unfold dg; split <;> (try split) <;> omega
theorem hd_toNat (n : Nat) (h : n < 16) : (hd n).toNat = if n < 10 then 48 + n else 55 + n := by
  unfold hd
  split <;> (rw [UInt8.toNat_ofNat']; omega)
theorem dg_hd (n : Nat) (h : n < 16) : dg (hd n) = n := by
  unfold dg
  rw [hd_toNat n h]
  split <;> split <;> (try split) <;> omega
theorem hd_ne (n : Nat) (h : n < 16) : hd n ≠ 32 := by
  intro e
  have := hd_toNat n h
  rw [e] at this
  have h2 : (32 : UInt8).toNat = 32 := rfl
  rw [h2] at this
  split at this <;> omega
theorem hx_no (l : List UInt8) : ∀ x ∈ hx l, x ≠ 32 := by
  induction l with
  | nil => intro x hx; cases hx
  | cons b l ih =>
    intro x h
    have := b.toNat_lt
    rcases List.mem_cons.1 h with rfl | h
    · exact hd_ne _ (by omega)
    · rcases List.mem_cons.1 h with rfl | h
      · exact hd_ne _ (by omega)
      · exact ih x h
/-- The bytes of digits. -/
def unhx : List UInt8 → Option (List UInt8)
  | [] => some []
  | [_] => none
  | a :: b :: l => if dg a < 0 ∨ dg b < 0 then none else (unhx l).map fun r => UInt8.ofNat (16 * (dg a).toNat + (dg b).toNat) :: r
theorem unhx_cc (a b : UInt8) (l : List UInt8) : unhx (a :: b :: l) = if dg a < 0 ∨ dg b < 0 then none else (unhx l).map fun r => UInt8.ofNat (16 * (dg a).toNat + (dg b).toNat) :: r := rfl
theorem unhx_hx : ∀ l : List UInt8, unhx (hx l) = some l
  | [] => rfl
  | b :: l => by
    have := b.toNat_lt
    have e1 := dg_hd (b.toNat / 16) (by omega)
    have e2 := dg_hd (b.toNat % 16) (by omega)
    unfold hx unhx
    rw [unhx_hx l, e1, e2, if_neg (by omega)]
    simp only [Option.map_some, Option.some.injEq, List.cons.injEq, and_true]
    apply UInt8.toNat_inj.1
    rw [UInt8.toNat_ofNat', Int.toNat_natCast, Int.toNat_natCast]
    omega
/-- The pieces between spaces. -/
def sp : List UInt8 → List (List UInt8)
  | [] => [[]]
  | c :: l => if c = 32 then [] :: sp l else match sp l with
    | h :: t => (c :: h) :: t
    | [] => [[c]]
theorem sp_c (c : UInt8) (l : List UInt8) : sp (c :: l) = if c = 32 then [] :: sp l else match sp l with
    | h :: t => (c :: h) :: t
    | [] => [[c]] := rfl
theorem splitK_sp : ∀ l : List UInt8, splitK [32] 0 (count l [32]) l = sp l
  | [] => by rw [count_one]; rfl
  | c :: l => by
    have ih := splitK_sp l
    by_cases hc : c = 32
    · subst hc
      have hix : index (32 :: l) [32] = 0 := by rw [index]; simp [List.isPrefixOf]
      rw [count_cons_eq, Nat.add_comm]
      unfold splitK sp
      rw [hix, if_neg (by decide), if_pos rfl]
      simp only [List.length_singleton, Int.toNat_zero, Nat.add_zero, List.take_zero, Nat.zero_add, List.drop_one, List.tail_cons, ih]
    · rw [count_cons_ne c 32 l hc]
      unfold sp
      rw [if_neg hc, ← ih]
      have hp : ([32] : List UInt8).isPrefixOf (c :: l) = false := by simp [List.isPrefixOf, Ne.symm hc]
      have hix : index (c :: l) [32] = if index l [32] == -1 then -1 else index l [32] + 1 := by rw [index, hp]; simp
      cases hk : count l [32] with
      | zero => rfl
      | succ k =>
        obtain ⟨j, hj⟩ := index_of_count (s := l) (old := [32]) (by omega)
        have h1 : ¬ (index l [32] == -1) = true := by rw [hj]; simp <;> omega
        rw [if_neg h1, hj] at hix
        unfold splitK
        rw [if_neg h1, hix, hj, if_neg (by simp <;> omega)]
        have e1 : ((j : Int) + 1).toNat = j + 1 := by omega
        simp only [e1, Int.toNat_natCast, Nat.add_zero, List.length_singleton, List.take_succ_cons, List.drop_succ_cons]
theorem sp_piece : ∀ (p : List UInt8), (∀ x ∈ p, x ≠ 32) → sp p = [p]
  | [], _ => rfl
  | c :: p, h => by
    unfold sp
    rw [if_neg (h c List.mem_cons_self), sp_piece p (fun x hx => h x (List.mem_cons_of_mem _ hx))]
theorem sp_cons : ∀ (p r : List UInt8), (∀ x ∈ p, x ≠ 32) → sp (p ++ 32 :: r) = p :: sp r
  | [], r, _ => by simp [sp]
  | c :: p, r, h => by
    show sp (c :: (p ++ 32 :: r)) = _
    rw [sp_c, if_neg (h c List.mem_cons_self), sp_cons p r (fun x hx => h x (List.mem_cons_of_mem _ hx))]
/-- The line of a quadword, without the line feed. -/
def R (a q : List UInt8) (t : Bool) : List UInt8 :=
  (hx a ++ [58]) ++ 32 :: (hx (q.take 4) ++ 32 :: (hx ((q.drop 4).take 4) ++ 32 :: (hx ((q.drop 8).take 4) ++ 32 :: (hx (q.drop 12) ++ 32 :: [if t then 80 else 45]))))
theorem sp_R (a q : List UInt8) (t : Bool) : sp (R a q t) = [hx a ++ [58], hx (q.take 4), hx ((q.drop 4).take 4), hx ((q.drop 8).take 4), hx (q.drop 12), [if t then 80 else 45]] := by
  unfold R
  rw [sp_cons _ _ (by intro x h; rcases List.mem_append.1 h with h | h; exact hx_no _ x h; simp at h; subst h; decide), sp_cons _ _ (hx_no _), sp_cons _ _ (hx_no _), sp_cons _ _ (hx_no _), sp_cons _ _ (hx_no _), sp_piece _ (by cases t <;> simp)]
theorem R_hex (q : List UInt8) : hx (q.take 4) ++ hx ((q.drop 4).take 4) ++ hx ((q.drop 8).take 4) ++ hx (q.drop 12) = hx q := by
  rw [← hx_append, ← hx_append, ← hx_append]
  congr 1
  have e1 : q.drop 8 = (q.drop 4).drop 4 := by rw [List.drop_drop]
  have e2 : q.drop 12 = (q.drop 8).drop 4 := by rw [List.drop_drop]
  rw [e2, List.append_assoc, List.append_assoc, List.take_append_drop, e1, List.take_append_drop, List.take_append_drop]
theorem R_length {a q : List UInt8} (ha : a.length = 3) (hq : q.length = 16) (t : Bool) : (R a q t).length = 45 := by
  unfold R
  simp only [List.length_append, List.length_cons, List.length_nil, hx_length, List.length_take, List.length_drop, ha, hq]
  omega
end Go.Proofs.YtgmpnhfnkhohiaaGreatDoor.Ev

/- Bytes as hexadecimal digits, the line of a quadword, small numbers: what chapter 3's program and its reference write. -/
namespace Go.Proofs.YtgmpnhfnkhohiaaGreatDoor.Ev
open Go Go.Proofs Go.Proofs.Ev
set_option linter.unusedVariables false
abbrev bs (l : List UInt8) : ByteArray := ⟨l.toArray⟩
theorem bs_of (s : ByteArray) : s = bs s.data.toList := rfl
theorem bs_append (a b : List UInt8) : bs a ++ bs b = bs (a ++ b) := bytes_append a b
theorem bs_size (l : List UInt8) : (bs l).size = l.length := rfl
theorem bs_extract (l : List UInt8) (a b : Nat) : (bs l).extract a b = bs ((l.drop a).take (b - a)) := by
  rw [bs_of ((bs l).extract a b), extract_list]
theorem bs_getD (l : List UInt8) (i : Nat) : (bs l).data.getD i 0 = l.getD i 0 := by
  rw [Array.getD_eq_getD_getElem?, List.getD_eq_getElem?_getD]
  simp
theorem bs_toList (l : List UInt8) : (bs l).toList = l := by rw [ByteArray.toList_eq]
def Ub (l : List UInt8) : List AV := l.map fun b => vu b.toNat
theorem Ub_append (a b : List UInt8) : Ub a ++ Ub b = Ub (a ++ b) := by simp [Ub]
theorem Ub_length (a : List UInt8) : (Ub a).length = a.length := by simp [Ub]
theorem Ub_nil : Ub [] = [] := rfl
theorem Ub_one (b : UInt8) : [vu ((b.toNat : Nat) : Int)] = Ub [b] := rfl
theorem strOf_Ub (l : List UInt8) : strOf (Ub l) = some l := by
  unfold Ub
  rw [strOf_map]
  simp
theorem Ub_str (l : List UInt8) : ((bs l).toList.map fun b => vu b.toNat) = Ub l := by rw [bs_toList]; rfl
theorem hexAt {k : Nat} (h : k < 16) : (⟨#[48, 49, 50, 51, 52, 53, 54, 55, 56, 57, 65, 66, 67, 68, 69, 70]⟩ : ByteArray).data.getD k 0 = hd k := by
  have : ∀ k : Fin 16, (⟨#[48, 49, 50, 51, 52, 53, 54, 55, 56, 57, 65, 66, 67, 68, 69, 70]⟩ : ByteArray).data.getD k.1 0 = hd k.1 := by decide +kernel
  exact this ⟨k, h⟩
theorem shr4 (b : UInt8) : Int.fdiv ((b.toNat : Nat) : Int) (2 ^ min (4 : Int).toNat 8) = ((b.toNat / 16 : Nat) : Int) := by
  rw [show (2 : Int) ^ min (4 : Int).toNat 8 = 16 from rfl, Int.fdiv_eq_ediv_of_nonneg _ (by omega)]
  omega
theorem and15 (b : UInt8) : IntKind.u8.wrap (BitVec.ofInt 8 ((b.toNat : Nat) : Int) &&& BitVec.ofInt 8 15).toNat = ((b.toNat % 16 : Nat) : Int) := by
  have : ∀ k : Fin 256, IntKind.u8.wrap (BitVec.ofInt 8 ((k.1 : Nat) : Int) &&& BitVec.ofInt 8 15).toNat = ((k.1 % 16 : Nat) : Int) := by decide +kernel
  exact this ⟨b.toNat, b.toNat_lt⟩
theorem wb1 (n : Nat) (b : UInt8) (o : List UInt8) (h : o.length < 1000000000) : strings_Builder_WriteByte_h1e0d9.F n ((b.toNat : Nat) : Int) (Ub o) = some (false, Ub (o ++ [b])) := by
  unfold strings_Builder_WriteByte_h1e0d9.F strings_Builder_WriteByte_h1e0d9.e strings_Builder_copyCheck_h16f15.F
  simp only [Option.bind_some]
  rw [Ub_length, cond_t (by simp [most]; omega), Ub_one, Ub_append]
theorem wb2 (n : Nat) (b : UInt8) (o : List UInt8) (h : o.length < 1000000000) : strings_Builder_WriteByte_hea3dc.F n ((b.toNat : Nat) : Int) (Ub o) = some (false, Ub (o ++ [b])) := by
  unfold strings_Builder_WriteByte_hea3dc.F strings_Builder_WriteByte_hea3dc.e strings_Builder_copyCheck_hda709.F
  simp only [Option.bind_some]
  rw [Ub_length, cond_t (by simp [most]; omega), Ub_one, Ub_append]
theorem ws1 (n : Nat) (s o : List UInt8) (h : o.length + s.length ≤ 1000000000) : strings_Builder_WriteString_h7baad.F n (bs s) (Ub o) = some ((s.length : Int), false, Ub (o ++ s)) := by
  unfold strings_Builder_WriteString_h7baad.F strings_Builder_WriteString_h7baad.e strings_Builder_copyCheck_h16f15.F
  simp only [Option.bind_some]
  rw [Ub_str, Ub_length, Ub_length, cond_t (by simpa [most] using h), Ub_append]
  rfl
theorem ws2 (n : Nat) (s o : List UInt8) (h : o.length + s.length ≤ 1000000000) : strings_Builder_WriteString_he1305.F n (bs s) (Ub o) = some ((s.length : Int), false, Ub (o ++ s)) := by
  unfold strings_Builder_WriteString_he1305.F strings_Builder_WriteString_he1305.e strings_Builder_copyCheck_hda709.F
  simp only [Option.bind_some]
  rw [Ub_str, Ub_length, Ub_length, cond_t (by simpa [most] using h), Ub_append]
  rfl
theorem st1 (n : Nat) (o : List UInt8) (h : o.length ≤ 1000000000) : strings_Builder_String_hadf41.F n (Ub o) = some (bs o) := by
  unfold strings_Builder_String_hadf41.F
  rw [Ub_length, cond_t (by simpa [most] using h), strOf_Ub]
  rfl
theorem st2 (n : Nat) (o : List UInt8) (h : o.length ≤ 1000000000) : strings_Builder_String_hf88d1.F n (Ub o) = some (bs o) := by
  unfold strings_Builder_String_hf88d1.F
  rw [Ub_length, cond_t (by simpa [most] using h), strOf_Ub]
  rfl
theorem hx_step {l : List UInt8} {i : Nat} (hi : i < l.length) : hx (l.take i) ++ [hd (l[i].toNat / 16)] ++ [hd (l[i].toNat % 16)] = hx (l.take (i + 1)) := by
  rw [take_snoc hi, hx_append]
  simp [hx]
theorem getD_at {l : List UInt8} {i : Nat} (hi : i < l.length) : (bs l).data.getD i 0 = l[i] := by
  rw [bs_getD]; simp [List.getD_eq_getElem?_getD, hi]
theorem lt16 (k : Nat) (h : k < 16) : (decide ((0 : Int) ≤ ((k : Nat) : Int)) && decide (((k : Nat) : Int) < ((16 : Nat) : Int))) = true := by
  rw [Bool.and_eq_true, decide_eq_true_eq, decide_eq_true_eq]; omega
theorem digits_l (n : Nat) (l : List UInt8) (hl : l.length ≤ 100000) : ∀ (d i m : Nat), i + d = l.length → d < m → (tagged_digits.l n m).2 (bs l) l.length i (Ub (hx (l.take i))) = some (bs (hx l))
  | _, _, 0, _, h => absurd h (by omega)
  | 0, i, m + 1, h, _ => by
    have : i = l.length := by omega
    subst this
    show tagged_digits.r3x1 n (tagged_digits.l n m).1 (tagged_digits.l n m).2 some _ _ _ _ = _
    unfold tagged_digits.r3x1
    rw [cond_f (by omega), List.take_length, st2 _ _ (by rw [hx_length]; omega)]
    rfl
  | d + 1, i, m + 1, h, hm => by
    have hi : i < l.length := by omega
    have ih := digits_l n l hl d (i + 1) m (by omega) (by omega)
    have hb := l[i].toNat_lt
    have h1 : l[i].toNat / 16 < 16 := by omega
    have h2 : l[i].toNat % 16 < 16 := by omega
    show tagged_digits.r3x1 n (tagged_digits.l n m).1 (tagged_digits.l n m).2 some _ _ _ _ = _
    unfold tagged_digits.r3x1
    simp only [bs_size, Int.toNat_natCast, getD_at hi, within_t hi, cond_true, shr4, lt16 _ h1, hexAt h1, and15, lt16 _ h2, hexAt h2]
    rw [cond_t (by omega), wb2 n _ _ (by rw [hx_length]; simp; omega), Option.bind_some, wb2 n _ _ (by simp [hx_length]; omega), Option.bind_some, wsucc (by omega), hx_step hi]
    exact ih
/-- Bytes in hexadecimal digits. -/
theorem digits_eq {n : Nat} (l : List UInt8) (hl : l.length ≤ 100000) (hn : l.length + 2 < n) : tagged_digits.F n (bs l) = some (bs (hx l)) := by
  obtain ⟨m, rfl⟩ : ∃ m, n = m + 1 := ⟨n - 1, by omega⟩
  unfold tagged_digits.F tagged_digits.e
  show tagged_digits.r3 (m + 1) (tagged_digits.l (m + 1) m).1 (tagged_digits.l (m + 1) m).2 some _ _ _ _ = _
  unfold tagged_digits.r3
  by_cases h0 : 0 < l.length
  · have hb := l[0].toNat_lt
    have h1 : l[0].toNat / 16 < 16 := by omega
    have h2 : l[0].toNat % 16 < 16 := by omega
    have w0 : (decide ((0 : Int) ≤ 0) && decide ((0 : Int) < ((l.length : Nat) : Int))) = true := within_t h0
    have ih := digits_l (m + 1) l hl (l.length - 1) 1 m (by omega) (by omega)
    simp only [bs_size, Int.toNat_zero, getD_at h0, w0, cond_true, shr4, lt16 _ h1, hexAt h1, and15, lt16 _ h2, hexAt h2, Int.toNat_natCast]
    rw [cond_t (by omega), ← Ub_nil, wb1 _ _ _ (by simp), Option.bind_some, wb2 _ _ _ (by simp), Option.bind_some, show IntKind.i64.wrap ((0 : Int) + 1) = ((1 : Nat) : Int) from by rw [w64] <;> omega]
    have e := hx_step h0
    rw [List.take_zero] at e
    rw [show ([] : List UInt8) ++ [hd (l[0].toNat / 16)] ++ [hd (l[0].toNat % 16)] = hx (l.take 1) from e]
    exact ih
  · have : l = [] := List.length_eq_zero_iff.1 (by omega)
    subst this
    rw [cond_f (by rw [bs_size]; simp), show ([] : List AV) = Ub [] from rfl, st1 _ _ (by simp)]
    rfl
/-- Numbers below a hundred. -/
theorem itoa_eq (n k : Nat) (h : k < 100) : strconv_Itoa.F n k = some (bs (Lib.decDigits k)) := by
  unfold strconv_Itoa.F
  have : (decide ((0 : Int) ≤ (k : Int)) && decide ((k : Int) < 100)) = true := by rw [Bool.and_eq_true, decide_eq_true_eq, decide_eq_true_eq]; omega
  rw [this]
  rfl
theorem dec1 {k : Nat} (h : k < 10) : Lib.decDigits k = [UInt8.ofNat (48 + k)] := by rw [Lib.decDigits, dif_pos h]
theorem dec2 {k : Nat} (h : ¬ k < 10) (h2 : k < 100) : Lib.decDigits k = [UInt8.ofNat (48 + k / 10), UInt8.ofNat (48 + k % 10)] := by
  rw [Lib.decDigits, dif_neg h, dec1 (by omega)]; rfl
end Go.Proofs.YtgmpnhfnkhohiaaGreatDoor.Ev

/- The line of a quadword; dumps of storages. -/
namespace Go.Proofs.YtgmpnhfnkhohiaaGreatDoor.Ev
open Go Go.Proofs Go.Proofs.Ev
set_option linter.unusedVariables false
theorem chk_t {R : Type} {p : Prop} [Decidable p] (h : p) (K : Option R) : chk (decide p) K = K := by simp [chk, h]
/-- The line that the program writes. -/
theorem row_eq {n : Nat} (hn : 1000 ≤ n) (a : Int) (q : List UInt8) (hq : q.length = 16) (t : Bool) : tagged_row.F n a (bs q) t = some (bs (R (be 3 a) q t)) := by
  unfold tagged_row.F tagged_row.e
  have hb := big_eq (n := n) a 3 (by omega) (by omega)
  rw [show ((3 : Nat) : Int) = 3 from rfl] at hb
  have g4 : (decide ((0 : Int) ≤ 4) && decide ((4 : Int) ≤ (((bs q).size : Nat) : Int))) = true := by rw [bs_size, hq]; rfl
  have g8 : (decide ((0 : Int) ≤ 8) && decide ((8 : Int) ≤ (((bs q).size : Nat) : Int))) = true := by rw [bs_size, hq]; rfl
  have g12 : (decide ((0 : Int) ≤ 12) && decide ((12 : Int) ≤ (((bs q).size : Nat) : Int))) = true := by rw [bs_size, hq]; rfl
  have e1 : (decide ((0 : Int) ≤ 4) && decide ((4 : Int) ≤ 8)) = true := rfl
  have e2 : (decide ((0 : Int) ≤ 8) && decide ((8 : Int) ≤ 12)) = true := rfl
  have d0 := digits_eq (n := n) (be 3 a) (by rw [be_length]; omega) (by rw [be_length]; omega)
  have x1 : (bs q).extract 0 4 = bs (q.take 4) := by rw [bs_extract]; rfl
  have x2 : (bs q).extract 4 8 = bs ((q.drop 4).take 4) := by rw [bs_extract]
  have x3 : (bs q).extract 8 12 = bs ((q.drop 8).take 4) := by rw [bs_extract]
  have x4 : (bs q).extract 12 (bs q).size = bs (q.drop 12) := by rw [bs_extract, bs_size, List.take_of_length_le (by simp)]
  have d1 := digits_eq (n := n) (q.take 4) (by simp; omega) (by simp; omega)
  have d2 := digits_eq (n := n) ((q.drop 4).take 4) (by simp; omega) (by simp; omega)
  have d3 := digits_eq (n := n) ((q.drop 8).take 4) (by simp; omega) (by simp; omega)
  have d4 := digits_eq (n := n) (q.drop 12) (by simp; omega) (by simp; omega)
  simp only [hb, Option.bind_some, strOf_brow, withSome, d0, g4, g8, g12, e1, e2, x1, x2, x3, x4, d1, d2, d3, d4, cond_true]
  have l0 : (hx (be 3 a)).length = 6 := by rw [hx_length, be_length]
  have l1 : (hx (q.take 4)).length = 8 := by rw [hx_length]; simp; omega
  have l2 : (hx ((q.drop 4).take 4)).length = 8 := by rw [hx_length]; simp; omega
  have l3 : (hx ((q.drop 8).take 4)).length = 8 := by rw [hx_length]; simp; omega
  have l4 : (hx (q.drop 12)).length = 8 := by rw [hx_length]; simp; omega
  unfold R
  generalize hx (be 3 a) = A at *
  generalize hx (q.take 4) = B at *
  generalize hx ((q.drop 4).take 4) = C at *
  generalize hx ((q.drop 8).take 4) = D at *
  generalize hx (q.drop 12) = E at *
  have k : ∀ l : List UInt8, (⟨l.toArray⟩ : ByteArray) = bs l := fun _ => rfl
  have k1 : (⟨#[58, 32]⟩ : ByteArray) = bs [58, 32] := rfl
  have k2 : (⟨#[32]⟩ : ByteArray) = bs [32] := rfl
  have k3 : (⟨#[32, 80]⟩ : ByteArray) = bs [32, 80] := rfl
  have k4 : (⟨#[32, 45]⟩ : ByteArray) = bs [32, 45] := rfl
  cases t
  all_goals
    simp only [k1, k2, k3, k4, bs_append, bs_size, List.length_append, List.length_cons, List.length_nil, l0, l1, l2, l3, l4, cond_true, cond_false]
    simp only [chk]
    simp [List.append_assoc]
/-- The quadwords of a storage. -/
def Q (l : List UInt8) (i : Nat) : List UInt8 := (l.drop (16 * i)).take 16
theorem Q_length {l : List UInt8} {i : Nat} (h : 16 * i + 16 ≤ l.length) : (Q l i).length = 16 := by simp [Q]; omega
theorem Q_extract (l : List UInt8) (i : Nat) : (bs l).extract (16 * i) (16 * i + 16) = bs (Q l i) := by
  rw [bs_extract, show 16 * i + 16 - 16 * i = 16 by omega]; rfl
def same (l : List UInt8) (ts : List Bool) (i : Nat) : Bool := decide (0 < i) && (!ts.getD i false && (!ts.getD (i - 1) false && Q l i == Q l (i - 1)))
theorem bl_getD {ts : List Bool} {i : Nat} (h : i < ts.length) : (Bl ts).getD i .undef = vb (ts.getD i false) := by
  rw [bl_get h]; simp [List.getD_eq_getElem?_getD, h]
theorem beq_bs (a b : List UInt8) : ((bs a).toList == (bs b).toList) = (a == b) := by rw [bs_toList, bs_toList]
theorem repeats_eq (n : Nat) (l : List UInt8) (ts : List Bool) (i : Nat) (hi : i < ts.length) (hl : l.length = 16 * ts.length) (hs : ts.length ≤ 1000) : tagged_repeats.F n (bs l) (Bl ts) i = some (same l ts i) := by
  unfold tagged_repeats.F tagged_repeats.e same
  cases i with
  | zero => rw [cond_f (by omega)]; rfl
  | succ i =>
    have e0 : IntKind.i64.wrap (((i + 1 : Nat) : Int) - 1) = ((i : Nat) : Int) := by rw [w64] <;> omega
    have e1 : IntKind.i64.wrap (((i + 1 : Nat) : Int) * 16) = ((16 * (i + 1) : Nat) : Int) := by rw [w64] <;> omega
    have e2 : IntKind.i64.wrap (((16 * (i + 1) : Nat) : Int) + 16) = ((16 * (i + 1) + 16 : Nat) : Int) := by rw [w64] <;> omega
    have e3 : IntKind.i64.wrap (((16 * (i + 1) : Nat) : Int) - 16) = ((16 * i : Nat) : Int) := by rw [w64] <;> omega
    rw [cond_t (by omega)]
    simp only [e0, e1, e2, e3, bl_length, within_t hi, within_t (show i < ts.length by omega), cond_true, Int.toNat_natCast, bl_getD hi, bl_getD (show i < ts.length by omega), AV.cells, withCons, withBool, bs_size]
    have hd1 : decide (0 < i + 1) = true := by simp
    rw [hd1, Nat.add_sub_cancel]
    cases h1 : ts.getD (i + 1) false with
    | true => rfl
    | false =>
      cases h2 : ts.getD i false with
      | true => rfl
      | false =>
        simp only [Bool.not_false, cond_true, Bool.true_and]
        rw [upto_t (show 16 * (i + 1) + 16 ≤ l.length by omega), upto_t2 (show 16 * (i + 1) ≤ 16 * (i + 1) + 16 by omega), upto_t (show 16 * (i + 1) ≤ l.length by omega), upto_t2 (show 16 * i ≤ 16 * (i + 1) by omega)]
        simp only [cond_true]
        rw [show 16 * (i + 1) = 16 * i + 16 by omega, Q_extract l i, show 16 * i + 16 + 16 = 16 * (i + 1) + 16 by omega, show 16 * i + 16 = 16 * (i + 1) by omega, Q_extract l (i + 1), beq_bs]
end Go.Proofs.YtgmpnhfnkhohiaaGreatDoor.Ev

/- Dumps: what the program writes and what the reference writes is the same text. -/
namespace Go.Proofs.YtgmpnhfnkhohiaaGreatDoor.Ev
open Go Go.Proofs Go.Proofs.Ev
set_option linter.unusedVariables false
def star (k : Nat) : List UInt8 := 42 :: (Lib.decDigits k ++ [10])
def lineB (l : List UInt8) (ts : List Bool) (i : Nat) : List UInt8 := R (be 3 ((16 * i : Nat) : Int)) (Q l i) (ts.getD i false) ++ [10]
/-- How many quadwords from 'i' on are left out. -/
def run (l : List UInt8) (ts : List Bool) : Nat → Nat → Nat
  | 0, _ => 0
  | d + 1, i => if same l ts i then run l ts d (i + 1) + 1 else 0
theorem run_le (l : List UInt8) (ts : List Bool) : ∀ d i, run l ts d i ≤ d
  | 0, _ => Nat.le_refl _
  | d + 1, i => by
    unfold run
    have := run_le l ts d (i + 1)
    split <;> omega
def Df (l : List UInt8) (ts : List Bool) : Nat → Nat → List UInt8
  | 0, _ => []
  | f + 1, i => if i < ts.length then (if 0 < run l ts (ts.length - i) i then star (run l ts (ts.length - i) i) ++ Df l ts f (i + run l ts (ts.length - i) i) else lineB l ts i ++ Df l ts f (i + 1)) else []
theorem Df_end (l : List UInt8) (ts : List Bool) (f i : Nat) (h : ¬ i < ts.length) : Df l ts f i = [] := by
  cases f with
  | zero => rfl
  | succ f => unfold Df; rw [if_neg h]
theorem star_le {k : Nat} (h : k < 100) : (star k).length ≤ 4 := by
  unfold star
  by_cases h1 : k < 10
  · rw [dec1 h1]; simp
  · rw [dec2 h1 h]; simp
theorem lineB_length {l : List UInt8} {ts : List Bool} {i : Nat} (h : 16 * i + 16 ≤ l.length) : (lineB l ts i).length = 46 := by
  unfold lineB
  rw [List.length_append, R_length (by rw [be_length]) (Q_length h)]
  rfl
section
variable {n : Nat} {l : List UInt8} {ts : List Bool}
theorem inner9 (hl : l.length = 16 * ts.length) (hs : ts.length ≤ 64) (o : List AV) (i : Nat) (X : Option (ByteArray × Int)) : ∀ (d k m : Nat), i + k + d = ts.length → d < m →
    (∀ m', m ≤ m' + d + 1 → (tagged_Dump.l n m').2.2.2.2.2.2 i ((k + run l ts d (i + k) : Nat) : Int) (bs l) (Bl ts) o = X) → (tagged_Dump.l n m).2.2.2.2.1 i (k : Int) (bs l) (Bl ts) o = X
  | d, k, 0, h, hm, hX => absurd hm (by omega)
  | 0, k, m + 1, h, hm, hX => by
    show tagged_Dump.r9x1 n (tagged_Dump.l n m).1 (tagged_Dump.l n m).2.1 (tagged_Dump.l n m).2.2.1 (tagged_Dump.l n m).2.2.2.1 (tagged_Dump.l n m).2.2.2.2.1 (tagged_Dump.l n m).2.2.2.2.2.1 (tagged_Dump.l n m).2.2.2.2.2.2 some _ _ _ _ _ = _
    unfold tagged_Dump.r9x1
    have e : IntKind.i64.wrap ((i : Int) + (k : Int)) = ((i + k : Nat) : Int) := by rw [w64] <;> omega
    simp only [e, bl_length]
    rw [cond_f (by omega)]
    exact hX m (by omega)
  | d + 1, k, m + 1, h, hm, hX => by
    show tagged_Dump.r9x1 n (tagged_Dump.l n m).1 (tagged_Dump.l n m).2.1 (tagged_Dump.l n m).2.2.1 (tagged_Dump.l n m).2.2.2.1 (tagged_Dump.l n m).2.2.2.2.1 (tagged_Dump.l n m).2.2.2.2.2.1 (tagged_Dump.l n m).2.2.2.2.2.2 some _ _ _ _ _ = _
    unfold tagged_Dump.r9x1
    have e : IntKind.i64.wrap ((i : Int) + (k : Int)) = ((i + k : Nat) : Int) := by rw [w64] <;> omega
    simp only [e, bl_length]
    rw [cond_t (by omega), repeats_eq n l ts (i + k) (by omega) hl (by omega)]
    simp only [Option.bind_some]
    unfold run at hX
    cases hsm : same l ts (i + k) with
    | true =>
      rw [hsm, if_pos rfl] at hX
      rw [cond_true, wsucc (by omega)]
      refine inner9 hl hs o i X d (k + 1) m (by omega) (by omega) (fun m' hm' => ?_)
      have := hX m' (by omega)
      rw [show k + (run l ts d (i + k + 1) + 1) = k + 1 + run l ts d (i + k + 1) by omega] at this
      exact this
    | false =>
      rw [hsm] at hX
      rw [cond_false]
      exact hX m (by omega)
theorem inner9a (hl : l.length = 16 * ts.length) (hs : ts.length ≤ 64) (o : List AV) (i : Nat) (X : Option (ByteArray × Int)) : ∀ (d k m : Nat), i + k + d = ts.length → d < m →
    (∀ m', m ≤ m' + d + 1 → (tagged_Dump.l n m').2.2.2.2.2.1 i ((k + run l ts d (i + k) : Nat) : Int) (bs l) (Bl ts) o = X) → (tagged_Dump.l n m).2.2.2.1 i (k : Int) (bs l) (Bl ts) o = X
  | d, k, 0, h, hm, hX => absurd hm (by omega)
  | 0, k, m + 1, h, hm, hX => by
    show tagged_Dump.r9 n (tagged_Dump.l n m).1 (tagged_Dump.l n m).2.1 (tagged_Dump.l n m).2.2.1 (tagged_Dump.l n m).2.2.2.1 (tagged_Dump.l n m).2.2.2.2.1 (tagged_Dump.l n m).2.2.2.2.2.1 (tagged_Dump.l n m).2.2.2.2.2.2 some _ _ _ _ _ = _
    unfold tagged_Dump.r9
    have e : IntKind.i64.wrap ((i : Int) + (k : Int)) = ((i + k : Nat) : Int) := by rw [w64] <;> omega
    simp only [e, bl_length]
    rw [cond_f (by omega)]
    exact hX m (by omega)
  | d + 1, k, m + 1, h, hm, hX => by
    show tagged_Dump.r9 n (tagged_Dump.l n m).1 (tagged_Dump.l n m).2.1 (tagged_Dump.l n m).2.2.1 (tagged_Dump.l n m).2.2.2.1 (tagged_Dump.l n m).2.2.2.2.1 (tagged_Dump.l n m).2.2.2.2.2.1 (tagged_Dump.l n m).2.2.2.2.2.2 some _ _ _ _ _ = _
    unfold tagged_Dump.r9
    have e : IntKind.i64.wrap ((i : Int) + (k : Int)) = ((i + k : Nat) : Int) := by rw [w64] <;> omega
    simp only [e, bl_length]
    rw [cond_t (by omega), repeats_eq n l ts (i + k) (by omega) hl (by omega)]
    simp only [Option.bind_some]
    unfold run at hX
    cases hsm : same l ts (i + k) with
    | true =>
      rw [hsm, if_pos rfl] at hX
      rw [cond_true, wsucc (by omega)]
      refine inner9a hl hs o i X d (k + 1) m (by omega) (by omega) (fun m' hm' => ?_)
      have := hX m' (by omega)
      rw [show k + (run l ts d (i + k + 1) + 1) = k + 1 + run l ts d (i + k + 1) by omega] at this
      exact this
    | false =>
      rw [hsm] at hX
      rw [cond_false]
      exact hX m (by omega)
/-- One item of a dump. -/
def item (l : List UInt8) (ts : List Bool) (i k : Nat) : List UInt8 := if 0 < k then star k else lineB l ts i
theorem item_le {i k : Nat} (hl : 16 * i + 16 ≤ l.length) (hk : k < 100) : (item l ts i k).length ≤ 46 := by
  unfold item
  split
  · have := star_le hk; omega
  · rw [lineB_length hl]; exact Nat.le_refl _
def next (i k : Nat) : Nat := if 0 < k then i + k else i + 1
theorem out11 (hn : 10000 ≤ n) (hl : l.length = 16 * ts.length) (hs : ts.length ≤ 64) {i k : Nat} (hi : i < ts.length) (hk : i + k ≤ ts.length) (o : List UInt8) (ho : o.length ≤ 46 * i) (m : Nat) :
    (tagged_Dump.l n (m + 1)).2.2.2.2.2.2 i (k : Int) (bs l) (Bl ts) (Ub o) = (tagged_Dump.l n m).2.2.1 ((next i k - 1 : Nat) : Int) (bs l) (Bl ts) (Ub (o ++ item l ts i k)) := by
  show tagged_Dump.r11x1 n (tagged_Dump.l n m).1 (tagged_Dump.l n m).2.1 (tagged_Dump.l n m).2.2.1 (tagged_Dump.l n m).2.2.2.1 (tagged_Dump.l n m).2.2.2.2.1 (tagged_Dump.l n m).2.2.2.2.2.1 (tagged_Dump.l n m).2.2.2.2.2.2 some _ _ _ _ _ = _
  unfold tagged_Dump.r11x1 item next
  have k1 : (⟨#[42]⟩ : ByteArray) = bs [42] := rfl
  have k2 : (⟨#[10]⟩ : ByteArray) = bs [10] := rfl
  by_cases h : 0 < k
  · rw [cond_t (by omega), itoa_eq n k (by omega), if_pos h, if_pos h]
    have hd := star_le (show k < 100 by omega)
    have hd' : (Lib.decDigits k).length ≤ 2 := by
      by_cases h1 : k < 10
      · rw [dec1 h1]; simp
      · rw [dec2 h1 (by omega)]; simp
    have e1 : IntKind.i64.wrap ((k : Int) - 1) = ((k - 1 : Nat) : Int) := by rw [w64] <;> omega
    have e2 : IntKind.i64.wrap ((i : Int) + ((k - 1 : Nat) : Int)) = ((i + k - 1 : Nat) : Int) := by rw [w64] <;> omega
    simp only [Option.bind_some, k1, k2, bs_append, bs_size, List.length_append, e1, e2]
    rw [chk_t (by omega), chk_t (by simp; omega), show [42] ++ Lib.decDigits k ++ [10] = star k from rfl, ws2 n _ _ (by omega)]
    rfl
  · rw [cond_f (by omega), if_neg h, if_neg h]
    have e1 : IntKind.i64.wrap ((i : Int) * 16) = ((16 * i : Nat) : Int) := by rw [w64] <;> omega
    have e2 : IntKind.i64.wrap (((16 * i : Nat) : Int) + 16) = ((16 * i + 16 : Nat) : Int) := by rw [w64] <;> omega
    simp only [e1, e2, bs_size, bl_length, within_t hi, cond_true, Int.toNat_natCast, bl_getD hi, AV.cells, withCons, withBool]
    have hL := lineB_length (l := l) (ts := ts) (i := i) (by omega)
    have hR : (R (be 3 ((16 * i : Nat) : Int)) (Q l i) (ts.getD i false)).length = 45 := R_length (by rw [be_length]) (Q_length (by omega)) _
    rw [upto_t (show 16 * i + 16 ≤ l.length by omega), upto_t2 (show 16 * i ≤ 16 * i + 16 by omega), Q_extract, row_eq (by omega) _ _ (Q_length (by omega))]
    simp only [cond_true, Option.bind_some, k2, bs_append, bs_size, hR]
    rw [chk_t (by omega), show R (be 3 ((16 * i : Nat) : Int)) (Q l i) (ts.getD i false) ++ [10] = lineB l ts i from rfl, ws2 n _ _ (by omega)]
    simp only [Option.bind_some, Nat.add_sub_cancel]
theorem out11a (hn : 10000 ≤ n) (hl : l.length = 16 * ts.length) (hs : ts.length ≤ 64) {i k : Nat} (hi : i < ts.length) (hk : i + k ≤ ts.length) (o : List UInt8) (ho : o.length ≤ 46 * i) (m : Nat) :
    (tagged_Dump.l n (m + 1)).2.2.2.2.2.1 i (k : Int) (bs l) (Bl ts) (Ub o) = (tagged_Dump.l n m).2.2.1 ((next i k - 1 : Nat) : Int) (bs l) (Bl ts) (Ub (o ++ item l ts i k)) := by
  show tagged_Dump.r11 n (tagged_Dump.l n m).1 (tagged_Dump.l n m).2.1 (tagged_Dump.l n m).2.2.1 (tagged_Dump.l n m).2.2.2.1 (tagged_Dump.l n m).2.2.2.2.1 (tagged_Dump.l n m).2.2.2.2.2.1 (tagged_Dump.l n m).2.2.2.2.2.2 some _ _ _ _ _ = _
  unfold tagged_Dump.r11 item next
  have k1 : (⟨#[42]⟩ : ByteArray) = bs [42] := rfl
  have k2 : (⟨#[10]⟩ : ByteArray) = bs [10] := rfl
  by_cases h : 0 < k
  · rw [cond_t (by omega), itoa_eq n k (by omega), if_pos h, if_pos h]
    have hd := star_le (show k < 100 by omega)
    have hd' : (Lib.decDigits k).length ≤ 2 := by
      by_cases h1 : k < 10
      · rw [dec1 h1]; simp
      · rw [dec2 h1 (by omega)]; simp
    have e1 : IntKind.i64.wrap ((k : Int) - 1) = ((k - 1 : Nat) : Int) := by rw [w64] <;> omega
    have e2 : IntKind.i64.wrap ((i : Int) + ((k - 1 : Nat) : Int)) = ((i + k - 1 : Nat) : Int) := by rw [w64] <;> omega
    simp only [Option.bind_some, k1, k2, bs_append, bs_size, List.length_append, e1, e2]
    rw [chk_t (by omega), chk_t (by simp; omega), show [42] ++ Lib.decDigits k ++ [10] = star k from rfl, ws1 n _ _ (by omega)]
    rfl
  · rw [cond_f (by omega), if_neg h, if_neg h]
    have e1 : IntKind.i64.wrap ((i : Int) * 16) = ((16 * i : Nat) : Int) := by rw [w64] <;> omega
    have e2 : IntKind.i64.wrap (((16 * i : Nat) : Int) + 16) = ((16 * i + 16 : Nat) : Int) := by rw [w64] <;> omega
    simp only [e1, e2, bs_size, bl_length, within_t hi, cond_true, Int.toNat_natCast, bl_getD hi, AV.cells, withCons, withBool]
    have hL := lineB_length (l := l) (ts := ts) (i := i) (by omega)
    have hR : (R (be 3 ((16 * i : Nat) : Int)) (Q l i) (ts.getD i false)).length = 45 := R_length (by rw [be_length]) (Q_length (by omega)) _
    rw [upto_t (show 16 * i + 16 ≤ l.length by omega), upto_t2 (show 16 * i ≤ 16 * i + 16 by omega), Q_extract, row_eq (by omega) _ _ (Q_length (by omega))]
    simp only [cond_true, Option.bind_some, k2, bs_append, bs_size, hR]
    rw [chk_t (by omega), show R (be 3 ((16 * i : Nat) : Int)) (Q l i) (ts.getD i false) ++ [10] = lineB l ts i from rfl, ws1 n _ _ (by omega)]
    simp only [Option.bind_some, Nat.add_sub_cancel]
theorem to7 (m i : Nat) (hi : i ≤ 1000) (s : ByteArray) (t o : List AV) : (tagged_Dump.l n (m + 1)).2.2.1 i s t o = (tagged_Dump.l n m).2.1 ((i + 1 : Nat) : Int) s t o := by
  show tagged_Dump.r7 n (tagged_Dump.l n m).1 (tagged_Dump.l n m).2.1 (tagged_Dump.l n m).2.2.1 (tagged_Dump.l n m).2.2.2.1 (tagged_Dump.l n m).2.2.2.2.1 (tagged_Dump.l n m).2.2.2.2.2.1 (tagged_Dump.l n m).2.2.2.2.2.2 some _ _ _ _ = _
  unfold tagged_Dump.r7
  rw [wsucc (by omega)]
theorem Df_step {f i : Nat} (hi : i < ts.length) : Df l ts (f + 1) i = item l ts i (run l ts (ts.length - i) i) ++ Df l ts f (next i (run l ts (ts.length - i) i)) := by
  rw [show Df l ts (f + 1) i = if i < ts.length then (if 0 < run l ts (ts.length - i) i then star (run l ts (ts.length - i) i) ++ Df l ts f (i + run l ts (ts.length - i) i) else lineB l ts i ++ Df l ts f (i + 1)) else [] from rfl, if_pos hi]
  unfold item next
  split <;> rfl
theorem dump6x (hn : 10000 ≤ n) (hl : l.length = 16 * ts.length) (hs : ts.length ≤ 64) : ∀ (f i m : Nat) (o : List UInt8), i ≤ ts.length → ts.length - i ≤ f → 80 * (ts.length - i) + 80 ≤ m → o.length ≤ 46 * i →
    (tagged_Dump.l n m).2.1 i (bs l) (Bl ts) (Ub o) = some (bs (o ++ Df l ts f i), 0)
  | f, i, 0, o, _, _, hm, _ => absurd hm (by omega)
  | f, i, m + 1, o, hi, hf, hm, ho => by
    show tagged_Dump.r6x1 n (tagged_Dump.l n m).1 (tagged_Dump.l n m).2.1 (tagged_Dump.l n m).2.2.1 (tagged_Dump.l n m).2.2.2.1 (tagged_Dump.l n m).2.2.2.2.1 (tagged_Dump.l n m).2.2.2.2.2.1 (tagged_Dump.l n m).2.2.2.2.2.2 some _ _ _ _ = _
    unfold tagged_Dump.r6x1
    simp only [bl_length]
    by_cases hi2 : i < ts.length
    · rw [cond_t (by omega)]
      obtain ⟨f, rfl⟩ : ∃ f', f = f' + 1 := ⟨f - 1, by omega⟩
      have hr := run_le l ts (ts.length - i) i
      refine inner9 hl hs _ i _ (ts.length - i) 0 m (by omega) (by omega) (fun m' hm' => ?_)
      rw [Nat.zero_add, Nat.add_zero]
      obtain ⟨m2, rfl⟩ : ∃ m2, m' = m2 + 2 := ⟨m' - 2, by omega⟩
      have hit := item_le (l := l) (ts := ts) (i := i) (k := run l ts (ts.length - i) i) (by omega) (by omega)
      have hnx : i + 1 ≤ next i (run l ts (ts.length - i) i) ∧ next i (run l ts (ts.length - i) i) ≤ ts.length := by unfold next; split <;> omega
      rw [out11 hn hl hs hi2 (by omega) o ho, to7 _ _ (by omega), Nat.sub_add_cancel (by omega), Df_step hi2]
      rw [dump6x hn hl hs f _ m2 _ hnx.2 (by omega) (by omega) (by rw [List.length_append]; omega), List.append_assoc]
    · rw [cond_f (by omega), st2 _ _ (by omega), Df_end l ts f i hi2, List.append_nil]
      rfl
termination_by f => f
decreasing_by all_goals (simp_wf; omega)
/-- The dump of a storage that is valid. -/
def dump (l : List UInt8) (ts : List Bool) : List UInt8 := Df l ts ts.length 0
theorem dump_eq (hn : 10000 ≤ n) (hl : l.length = 16 * ts.length) (hs : ts.length ≤ 64) {r : Int × Int} (hr : tagged_CheckStorage.F n (bs l) (Bl ts) = some r) (h0 : r.2 = 0) : tagged_Dump.F n (bs l) (Bl ts) = some (bs (dump l ts), 0) := by
  obtain ⟨m, rfl⟩ : ∃ m, n = m + 1 := ⟨n - 1, by omega⟩
  unfold tagged_Dump.F tagged_Dump.e dump
  rw [hr]
  simp only [Option.bind_some, h0]
  show tagged_Dump.r6 (m + 1) (tagged_Dump.l (m + 1) m).1 (tagged_Dump.l (m + 1) m).2.1 (tagged_Dump.l (m + 1) m).2.2.1 (tagged_Dump.l (m + 1) m).2.2.2.1 (tagged_Dump.l (m + 1) m).2.2.2.2.1 (tagged_Dump.l (m + 1) m).2.2.2.2.2.1 (tagged_Dump.l (m + 1) m).2.2.2.2.2.2 some ((0 : Nat) : Int) _ _ (Ub []) = _
  unfold tagged_Dump.r6
  simp only [bl_length]
  by_cases hi2 : 0 < ts.length
  · rw [cond_t (by omega)]
    obtain ⟨f, hf⟩ : ∃ f', ts.length = f' + 1 := ⟨ts.length - 1, by omega⟩
    have hr := run_le l ts (ts.length - 0) 0
    refine inner9a hl hs _ 0 _ (ts.length - 0) 0 m (by omega) (by omega) (fun m' hm' => ?_)
    rw [show (0 + run l ts (ts.length - 0) (0 + 0)) = run l ts (ts.length - 0) 0 from Nat.zero_add _]
    obtain ⟨m2, rfl⟩ : ∃ m2, m' = m2 + 2 := ⟨m' - 2, by omega⟩
    have hit := item_le (l := l) (ts := ts) (i := 0) (k := run l ts (ts.length - 0) 0) (by omega) (by omega)
    have hnx : 0 + 1 ≤ next 0 (run l ts (ts.length - 0) 0) ∧ next 0 (run l ts (ts.length - 0) 0) ≤ ts.length := by unfold next; split <;> omega
    rw [out11a hn hl hs hi2 (by omega) [] (by simp), to7 _ _ (by omega), Nat.sub_add_cancel (by omega)]
    have e : Df l ts ts.length 0 = item l ts 0 (run l ts (ts.length - 0) 0) ++ Df l ts f (next 0 (run l ts (ts.length - 0) 0)) := by
      rw [← Df_step hi2, hf]
    rw [dump6x hn hl hs f _ m2 _ hnx.2 (by omega) (by omega) (by rw [List.length_append, List.length_nil]; omega), e, List.nil_append]
  · rw [cond_f (by omega), st1 _ _ (by simp), Df_end l ts _ 0 hi2]
    rfl
end
end Go.Proofs.YtgmpnhfnkhohiaaGreatDoor.Ev

/- Lines of a dump, read: the program's way and the reference's way. -/
namespace Go.Proofs.YtgmpnhfnkhohiaaGreatDoor.Ev
open Go Go.Proofs Go.Proofs.Ev
set_option linter.unusedVariables false
/-- The bytes of the pairs of digits; a last odd one is passed over. -/
def und : List UInt8 → Option (List UInt8)
  | [] => some []
  | [_] => some []
  | a :: b :: l => if dg a < 0 ∨ dg b < 0 then none else (und l).map fun r => UInt8.ofNat (16 * (dg a).toNat + (dg b).toNat) :: r
theorem und_cc (a b : UInt8) (l : List UInt8) : und (a :: b :: l) = if dg a < 0 ∨ dg b < 0 then none else (und l).map fun r => UInt8.ofNat (16 * (dg a).toNat + (dg b).toNat) :: r := rfl
theorem und_unhx : ∀ (n : Nat) (l : List UInt8), l.length ≤ n → unhx l = if l.length % 2 = 0 then und l else none
  | _, [], _ => rfl
  | _, [_], _ => rfl
  | 0, _ :: _ :: _, h => by simp at h
  | n + 1, a :: b :: l, h => by
    have ih := und_unhx n l (by simp at h; omega)
    rw [unhx_cc, und_cc, ih]
    have e : (a :: b :: l).length % 2 = l.length % 2 := by simp only [List.length_cons]; omega
    rw [e]
    by_cases h2 : l.length % 2 = 0
    · rw [if_pos h2, if_pos h2]
    · rw [if_neg h2, if_neg h2]; split <;> rfl
theorem und_length : ∀ (n : Nat) (l b : List UInt8), l.length ≤ n → und l = some b → b.length = l.length / 2
  | _, [], b, _, h => by cases h; rfl
  | _, [_], b, _, h => by cases h; simp
  | 0, _ :: _ :: _, _, h, _ => by simp at h
  | n + 1, x :: y :: l, b, hn, h => by
    rw [und_cc] at h
    split at h
    · cases h
    · rw [Option.map_eq_some_iff] at h
      obtain ⟨r, h1, rfl⟩ := h
      have := und_length n l r (by simp at hn; omega) h1
      simp; omega
theorem index_hex (c : UInt8) : Lib.indexByte (⟨#[48, 49, 50, 51, 52, 53, 54, 55, 56, 57, 65, 66, 67, 68, 69, 70]⟩ : ByteArray).data.toList ((c.toNat : Nat) : Int).toNat.toUInt8 = dg c := by
  have : ∀ k : Fin 256, Lib.indexByte (⟨#[48, 49, 50, 51, 52, 53, 54, 55, 56, 57, 65, 66, 67, 68, 69, 70]⟩ : ByteArray).data.toList ((k.1 : Nat) : Int).toNat.toUInt8 = dg (UInt8.ofNat k.1) := by decide +kernel
  have h := this ⟨c.toNat, c.toNat_lt⟩
  simpa using h
theorem indexByte_eq (n : Nat) (c : UInt8) : strings_IndexByte.F n (⟨#[48, 49, 50, 51, 52, 53, 54, 55, 56, 57, 65, 66, 67, 68, 69, 70]⟩ : ByteArray) ((c.toNat : Nat) : Int) = some (dg c) := by
  unfold strings_IndexByte.F
  rw [index_hex]
  rfl
theorem byte_of (p q : Nat) (hp : p < 16) (hq : q < 16) : IntKind.u8.wrap (IntKind.i64.wrap (BitVec.ofInt 64 (IntKind.i64.wrap ((p : Int) * 2 ^ min (4 : Int).toNat 64)) ||| BitVec.ofInt 64 (q : Int)).toNat) = (((UInt8.ofNat (16 * p + q)).toNat : Nat) : Int) := by
  have : ∀ (p q : Fin 16), IntKind.u8.wrap (IntKind.i64.wrap (BitVec.ofInt 64 (IntKind.i64.wrap (((p.1 : Nat) : Int) * 2 ^ min (4 : Int).toNat 64)) ||| BitVec.ofInt 64 ((q.1 : Nat) : Int)).toNat) = (((UInt8.ofNat (16 * p.1 + q.1)).toNat : Nat) : Int) := by decide +kernel
  exact this ⟨p, hp⟩ ⟨q, hq⟩
theorem drop_two {l : List UInt8} {i : Nat} (h : i + 1 < l.length) : l.drop i = l[i] :: l[i + 1] :: l.drop (i + 2) := by
  rw [List.drop_eq_getElem_cons (show i < l.length by omega), List.drop_eq_getElem_cons h]
section
variable {n : Nat} {l : List UInt8}
theorem to7u (m : Nat) (u : Unit) : (tagged_undigits.l n (m + 1)).2.2 u = some (bs [], false) := rfl
theorem undigits_l (hl : l.length ≤ 100000) : ∀ (m i : Nat) (o : List UInt8), i ≤ l.length → i % 2 = 0 → l.length - i + 3 ≤ m → o.length ≤ i →
    (tagged_undigits.l n m).2.1 (bs l) i (Ub o) = some (match und (l.drop i) with | none => (bs [], false) | some b => (bs (o ++ b), l.length % 2 == 0))
  | 0, i, o, _, _, h, _ => absurd h (by omega)
  | m + 1, i, o, hi, he, hm, ho => by
    have hmod : (Int.tmod ((l.length : Nat) : Int) 2 == 0) = (l.length % 2 == 0) := by
      rw [Int.tmod_eq_emod_of_nonneg (by omega)]
      rcases Nat.mod_two_eq_zero_or_one l.length with h | h
      · rw [h, show ((l.length : Int) % 2) = 0 by omega]; rfl
      · rw [h, show ((l.length : Int) % 2) = 1 by omega]; rfl
    show tagged_undigits.r3x1 n (tagged_undigits.l n m).1 (tagged_undigits.l n m).2.1 (tagged_undigits.l n m).2.2 some _ _ _ = _
    unfold tagged_undigits.r3x1
    simp only [bs_size, wsucc (show i ≤ 1000000000 by omega)]
    by_cases h2 : i + 1 < l.length
    · rw [cond_t (by omega), within_t (show i < l.length by omega), drop_two h2, und_cc]
      have hx1 := dg_range l[i]
      have hy1 := dg_range l[i + 1]
      simp only [cond_true, Int.toNat_natCast, getD_at (show i < l.length by omega), getD_at h2, indexByte_eq, Option.bind_some]
      rw [within_t h2]
      simp only [cond_true]
      obtain ⟨m, rfl⟩ : ∃ m', m = m' + 1 := ⟨m - 1, by omega⟩
      by_cases g1 : dg l[i] < 0
      · rw [cond_t g1, if_pos (.inl g1), to7u]
      · rw [cond_f g1]
        by_cases g2 : dg l[i + 1] < 0
        · rw [cond_t g2, if_pos (.inr g2), to7u]
        · rw [cond_f g2, if_neg (by omega)]
          obtain ⟨p, hp⟩ : ∃ p : Nat, dg l[i] = p := ⟨(dg l[i]).toNat, by omega⟩
          obtain ⟨q, hq⟩ : ∃ q : Nat, dg l[i + 1] = q := ⟨(dg l[i + 1]).toNat, by omega⟩
          rw [hp, hq, byte_of p q (by omega) (by omega), wb2 n _ _ (by omega)]
          have e : IntKind.i64.wrap ((i : Int) + 2) = ((i + 2 : Nat) : Int) := by rw [w64] <;> omega
          simp only [Option.bind_some, e, Int.toNat_natCast]
          have ih := undigits_l hl (m + 1) (i + 2) (o ++ [UInt8.ofNat (16 * p + q)]) (by omega) (by omega) (by omega) (by simp; omega)
          rw [ih]
          cases und (l.drop (i + 2)) with
          | none => rfl
          | some b => simp
    · rw [cond_f (by omega), st2 _ _ (by omega)]
      have hu : und (l.drop i) = some [] := by
        by_cases h3 : i < l.length
        · have : l.drop i = [l[i]] := by rw [List.drop_eq_getElem_cons h3, List.drop_eq_nil_of_le (by omega)]
          rw [this]; rfl
        · rw [List.drop_eq_nil_of_le (by omega)]; rfl
      rw [hu]
      simp only [Option.bind_some, hmod, List.append_nil]
theorem undigits_eq (hl : l.length ≤ 100000) (hn : l.length + 10 ≤ n) : tagged_undigits.F n (bs l) = some (match und l with | none => (bs [], false) | some b => (bs b, l.length % 2 == 0)) := by
  obtain ⟨m, rfl⟩ : ∃ m, n = m + 1 := ⟨n - 1, by omega⟩
  unfold tagged_undigits.F tagged_undigits.e
  have hmod : (Int.tmod ((l.length : Nat) : Int) 2 == 0) = (l.length % 2 == 0) := by
    rw [Int.tmod_eq_emod_of_nonneg (by omega)]
    rcases Nat.mod_two_eq_zero_or_one l.length with h | h
    · rw [h, show ((l.length : Int) % 2) = 0 by omega]; rfl
    · rw [h, show ((l.length : Int) % 2) = 1 by omega]; rfl
  show tagged_undigits.r3 (m + 1) (tagged_undigits.l (m + 1) m).1 (tagged_undigits.l (m + 1) m).2.1 (tagged_undigits.l (m + 1) m).2.2 some _ ((0 : Nat) : Int) (Ub []) = _
  unfold tagged_undigits.r3
  simp only [bs_size, wsucc (show 0 ≤ 1000000000 by omega)]
  by_cases h2 : 0 + 1 < l.length
  · have hd0 := drop_two h2
    rw [List.drop_zero] at hd0
    rw [cond_t (by omega), within_t (show 0 < l.length by omega)]
    conv => rhs; rw [hd0, und_cc]
    have hx1 := dg_range l[0]
    have hy1 := dg_range l[0 + 1]
    simp only [cond_true, Int.toNat_natCast, getD_at (show 0 < l.length by omega), getD_at h2, indexByte_eq, Option.bind_some]
    rw [within_t h2]
    simp only [cond_true]
    obtain ⟨m, rfl⟩ : ∃ m', m = m' + 1 := ⟨m - 1, by omega⟩
    by_cases g1 : dg l[0] < 0
    · rw [cond_t g1, if_pos (.inl g1), to7u]
    · rw [cond_f g1]
      by_cases g2 : dg l[0 + 1] < 0
      · rw [cond_t g2, if_pos (.inr g2), to7u]
      · rw [cond_f g2, if_neg (by omega)]
        obtain ⟨p, hp⟩ : ∃ p : Nat, dg l[0] = p := ⟨(dg l[0]).toNat, by omega⟩
        obtain ⟨q, hq⟩ : ∃ q : Nat, dg l[0 + 1] = q := ⟨(dg l[0 + 1]).toNat, by omega⟩
        rw [hp, hq, byte_of p q (by omega) (by omega), wb1 _ _ _ (by simp)]
        have e : IntKind.i64.wrap (((0 : Nat) : Int) + 2) = ((2 : Nat) : Int) := by rw [w64] <;> omega
        simp only [Option.bind_some, e, Int.toNat_natCast, List.nil_append]
        have ih := undigits_l (n := m + 1 + 1) hl (m + 1) 2 [UInt8.ofNat (16 * p + q)] (by omega) (by omega) (by omega) (by simp)
        rw [ih]
        rw [Nat.zero_add]
        cases und (l.drop 2) with
        | none => rfl
        | some b => rw [← hd0]; rfl
  · rw [cond_f (by omega), st1 _ _ (by simp)]
    have hu : und l = some [] := by
      match l, h2 with
      | [], _ => rfl
      | [_], _ => rfl
      | _ :: _ :: _, h => simp at h
    rw [hu]
    simp only [Option.bind_some, hmod]
end
end Go.Proofs.YtgmpnhfnkhohiaaGreatDoor.Ev

/- A line of a dump: whether it is the one of a quadword, as the program and as the reference find it. -/
namespace Go.Proofs.YtgmpnhfnkhohiaaGreatDoor.Ev
open Go Go.Proofs Go.Proofs.Ev
set_option linter.unusedVariables false
theorem splitB_sp (l : List UInt8) : Lib.splitB (bs [32]) 0 (Lib.countB (bs l) (bs [32])) (bs l) = (sp l).map bs := by
  have h := Lib.splitB_data (bs [32]) 0 (Lib.countB (bs l) (bs [32])) (bs l)
  have e : (bs l).data.toList = l := rfl
  have e2 : Lib.countB (bs l) (bs [32]) = Lib.count l [32] := rfl
  have e3 : (bs [32]).data.toList = [32] := rfl
  rw [e3, e, e2, splitK_sp] at h
  rw [e2, ← h, List.map_map]
  conv => lhs; rw [← List.map_id (Lib.splitB (bs [32]) 0 (Lib.count l [32]) (bs l))]
  rfl
theorem sp_length (l : List UInt8) : (sp l).length ≤ l.length + 1 := by
  induction l with
  | nil => simp [sp]
  | cons c l ih =>
    rw [sp_c]
    split
    · simp; omega
    · split
      · rename_i h t e; rw [e] at ih; simp at ih ⊢; omega
      · simp
theorem split_eq (n : Nat) (l : List UInt8) (hl : l.length ≤ 100000) : strings_Split.F n (bs l) (⟨#[32]⟩ : ByteArray) = some ((sp l).map fun x => vs (bs x)) := by
  unfold strings_Split.F
  have k : (⟨#[32]⟩ : ByteArray) = bs [32] := rfl
  have h1 : (sp l).length = Lib.countB (bs l) (bs [32]) + 1 := by
    have := Lib.splitB_all (bs [32]) (by simp [bs_size]) 0 (Lib.countB (bs l) (bs [32])) (bs l) rfl
    rw [splitB_sp, List.length_map] at this
    exact this
  have h2 := sp_length l
  rw [k, splitB_sp]
  have c1 : decide ((bs l).size < 4294967281) = true := decide_eq_true (by rw [bs_size]; omega)
  have c2 : decide (1 ≤ (bs [32]).size) = true := rfl
  have c3 : Nat.beq ((sp l).map bs).length (Lib.countB (bs l) (bs [32]) + 1) = true := by rw [List.length_map, h1]; exact Nat.beq_refl _
  have c4 : decide (Lib.countB (bs l) (bs [32]) + 1 ≤ most) = true := decide_eq_true (by simp [most]; omega)
  rw [c1, c2, c3, c4]
  simp only [Bool.and_self, cond_true, List.map_map]
  rfl
section
variable {n : Nat} {l : List UInt8}
theorem parsedRow_eq (hn : 100100 ≤ n) (hl : l.length ≤ 10000) (a : Int) : ∃ b t k, tagged_parsedRow.F n (bs l) a = some (bs b, t, k) ∧ (k = true → b.length = 16 ∧ l = R (be 3 a) b t) ∧
    ∀ q u, q.length = 16 → l = R (be 3 a) q u → k = true ∧ b = q ∧ t = u := by
  unfold tagged_parsedRow.F tagged_parsedRow.e
  rw [split_eq n l (by omega)]
  simp only [Option.bind_some, List.length_map]
  cases h6 : ((((sp l).length : Nat) : Int) != 6) with
  | true =>
    refine ⟨[], false, false, rfl, by simp, fun q u hq e => ?_⟩
    rw [e, sp_R] at h6
    simp at h6
  | false =>
    have h6' : (sp l).length = 6 := by simp at h6; omega
    obtain ⟨f0, f1, f2, f3, f4, f5, hf⟩ : ∃ f0 f1 f2 f3 f4 f5, sp l = [f0, f1, f2, f3, f4, f5] := by
      match sp l, h6' with
      | [f0, f1, f2, f3, f4, f5], _ => exact ⟨f0, f1, f2, f3, f4, f5, rfl⟩
    have hsum : f0.length + f1.length + f2.length + f3.length + f4.length + f5.length ≤ l.length := by
      have : ∀ m : List UInt8, ((sp m).map List.length).sum ≤ m.length := by
        intro m
        induction m with
        | nil => simp [sp]
        | cons c m ih =>
          rw [sp_c]
          split
          · simp; omega
          · split
            · rename_i h t e; rw [e] at ih; simp at ih ⊢; omega
            · simp
      have := this l
      rw [hf] at this
      simp at this
      omega
    have hrow : ∀ q u, q.length = 16 → l = R (be 3 a) q u → f1 ++ f2 ++ f3 ++ f4 = hx q ∧ f5 = [if u then 80 else 45] := by
      intro q u hq e
      rw [e, sp_R] at hf
      simp only [List.cons.injEq, and_true] at hf
      obtain ⟨_, h1, h2, h3, h4, h5⟩ := hf
      rw [← h1, ← h2, ← h3, ← h4, R_hex]
      exact ⟨rfl, h5.symm⟩
    rw [hf]
    simp only [cond_false, List.map_cons, List.map_nil, List.length_cons, List.length_nil]
    have c1 : decide ((1 : Int) < ((0 + 1 + 1 + 1 + 1 + 1 + 1 : Nat) : Int)) = true := rfl
    have c2 : decide ((2 : Int) < ((0 + 1 + 1 + 1 + 1 + 1 + 1 : Nat) : Int)) = true := rfl
    have c3 : decide ((3 : Int) < ((0 + 1 + 1 + 1 + 1 + 1 + 1 : Nat) : Int)) = true := rfl
    have c4 : decide ((4 : Int) < ((0 + 1 + 1 + 1 + 1 + 1 + 1 : Nat) : Int)) = true := rfl
    have c5 : decide ((5 : Int) < ((0 + 1 + 1 + 1 + 1 + 1 + 1 : Nat) : Int)) = true := rfl
    rw [c1, c2, c3, c4, c5]
    simp only [cond_true, List.getD_cons_succ, List.getD_cons_zero, AV.cells, withCons, withStr, bs_append, bs_size]
    rw [chk_t (by omega), chk_t (by rw [List.length_append]; omega), chk_t (by rw [List.length_append, List.length_append]; omega)]
    have hlen : (f1 ++ f2 ++ f3 ++ f4).length ≤ 10000 := by simp only [List.length_append]; omega
    rw [undigits_eq (by omega) (by omega)]
    have hunhx := und_unhx _ (f1 ++ f2 ++ f3 ++ f4) (Nat.le_refl _)
    generalize hF : f1 ++ f2 ++ f3 ++ f4 = F at *
    cases hu : und F with
    | none =>
      refine ⟨[], false, false, rfl, by simp, fun q u hq e => ?_⟩
      have h1 := (hrow q u hq e).1
      rw [hu] at hunhx
      rw [h1, unhx_hx] at hunhx
      split at hunhx <;> cases hunhx
    | some b =>
      have hbl := und_length _ F b (Nat.le_refl _) hu
      simp only [Option.bind_some]
      cases hm : (F.length % 2 == 0) with
      | false =>
        refine ⟨[], false, false, rfl, by simp, fun q u hq e => ?_⟩
        have h1 := (hrow q u hq e).1
        rw [h1, hx_length] at hm
        simp at hm
      | true =>
        have hm' : F.length % 2 = 0 := by simpa using hm
        rw [if_pos hm', hu] at hunhx
        simp only [Bool.not_true, cond_false, bs_size]
        cases h16 : (((b.length : Nat) : Int) != 16) with
        | true =>
          refine ⟨[], false, false, rfl, by simp, fun q u hq e => ?_⟩
          have h1 := (hrow q u hq e).1
          rw [h1, unhx_hx] at hunhx
          cases hunhx
          rw [hq] at h16
          simp at h16
        | false =>
          have hb16 : b.length = 16 := by simp at h16; omega
          rw [cond_false, row_eq (by omega) a b hb16]
          have e80 : ((bs f5).toList == (⟨#[80]⟩ : ByteArray).toList) = (f5 == [80]) := beq_bs f5 [80]
          simp only [Option.bind_some, beq_bs, e80]
          refine ⟨b, f5 == [80], l == R (be 3 a) b (f5 == [80]), rfl, fun hk => ⟨hb16, eq_of_beq hk⟩, fun q u hq e => ?_⟩
          obtain ⟨h1, h2⟩ := hrow q u hq e
          rw [h1, unhx_hx] at hunhx
          cases hunhx
          have h3 : (f5 == [80]) = u := by rw [h2]; cases u <;> rfl
          rw [h3]
          exact ⟨by rw [← e]; simp, rfl, rfl⟩
theorem drop_app {k j : Nat} {A B : List UInt8} (h : l.drop k = A ++ B) (hA : A.length = j) : l.drop (k + j) = B ∧ (l.drop k).take j = A := by
  subst hA
  rw [← List.drop_drop, h]
  exact ⟨List.drop_left, List.take_left⟩
theorem drop_one {k : Nat} {c : UInt8} {B : List UInt8} (h : l.drop k = c :: B) : l.drop (k + 1) = B ∧ l.getD k 0 = c := by
  have h1 := drop_app (A := [c]) (j := 1) h rfl
  refine ⟨h1.1, ?_⟩
  have : (l.drop k)[0]? = some c := by rw [h]; rfl
  rw [List.getElem?_drop] at this
  simp at this
  rw [List.getD_eq_getElem?_getD, this]; rfl
theorem drop_take {k j : Nat} : l.drop k = (l.drop k).take j ++ l.drop (k + j) := by
  rw [← List.drop_drop, List.take_append_drop]
/-- The parts of a line. -/
theorem R_parts {A q : List UInt8} {u : Bool} (hA : A.length = 3) (hq : q.length = 16) (e : l = R A q u) : l.take 6 = hx A ∧ (l.drop 6).take 2 = [58, 32] ∧ (l.drop 8).take 8 = hx (q.take 4) ∧ l.getD 16 0 = 32 ∧ (l.drop 17).take 8 = hx ((q.drop 4).take 4) ∧ l.getD 25 0 = 32 ∧
    (l.drop 26).take 8 = hx ((q.drop 8).take 4) ∧ l.getD 34 0 = 32 ∧ (l.drop 35).take 8 = hx (q.drop 12) ∧ l.getD 43 0 = 32 ∧ l.getD 44 0 = (if u then 80 else 45) := by
  have h0 : l.drop 0 = hx A ++ ([58, 32] ++ (hx (q.take 4) ++ 32 :: (hx ((q.drop 4).take 4) ++ 32 :: (hx ((q.drop 8).take 4) ++ 32 :: (hx (q.drop 12) ++ 32 :: [if u then 80 else 45]))))) := by
    rw [List.drop_zero, e]; unfold R; simp
  obtain ⟨h1, t1⟩ := drop_app h0 (j := 6) (by rw [hx_length, hA])
  obtain ⟨h2, t2⟩ := drop_app h1 (j := 2) rfl
  obtain ⟨h3, t3⟩ := drop_app h2 (j := 8) (by rw [hx_length]; simp; omega)
  obtain ⟨h4, t4⟩ := drop_one h3
  obtain ⟨h5, t5⟩ := drop_app h4 (j := 8) (by rw [hx_length]; simp; omega)
  obtain ⟨h6, t6⟩ := drop_one h5
  obtain ⟨h7, t7⟩ := drop_app h6 (j := 8) (by rw [hx_length]; simp; omega)
  obtain ⟨h8, t8⟩ := drop_one h7
  obtain ⟨h9, t9⟩ := drop_app h8 (j := 8) (by rw [hx_length]; simp; omega)
  obtain ⟨ha, ta⟩ := drop_one h9
  obtain ⟨hb, tb⟩ := drop_one ha
  exact ⟨by simpa using t1, t2, t3, t4, t5, t6, t7, t8, t9, ta, tb⟩
end
end Go.Proofs.YtgmpnhfnkhohiaaGreatDoor.Ev

/- A line of a dump, as the reference reads it. -/
namespace Go.Proofs.YtgmpnhfnkhohiaaGreatDoor.Ev
open Go Go.Proofs Go.Proofs.Ev
set_option linter.unusedVariables false
theorem arr_getD (l : List UInt8) (i : Nat) : l.toArray.getD i 0 = l.getD i 0 := bs_getD l i
theorem ne_int (c : UInt8) (k : Nat) (hk : k < 256) : (((c.toNat : Nat) : Int) != (k : Int)) = (c != UInt8.ofNat k) := by
  rw [Bool.eq_iff_iff, bne_iff_ne, bne_iff_ne]
  have e : (UInt8.ofNat k).toNat = k := by rw [UInt8.toNat_ofNat']; omega
  constructor
  · intro h h2; rw [h2, e] at h; exact h rfl
  · intro h h2
    apply h
    apply UInt8.toNat_inj.1
    rw [e]; omega
theorem eq_int (c : UInt8) (k : Nat) (hk : k < 256) : (((c.toNat : Nat) : Int) == (k : Int)) = (c == UInt8.ofNat k) := by
  have := ne_int c k hk
  rw [bne, bne] at this
  simpa using this
section
variable {n : Nat} {l : List UInt8}
end
end Go.Proofs.YtgmpnhfnkhohiaaGreatDoor.Ev

/- Counts in dumps: numbers with decimal digits, as strconv.Atoi with strings.Trim reads them and as the reference does. -/
namespace Go.Proofs.YtgmpnhfnkhohiaaGreatDoor.Ev
open Go Go.Proofs Go.Proofs.Ev
set_option linter.unusedVariables false
def isD (c : UInt8) : Bool := decide (48 ≤ c.toNat) && decide (c.toNat ≤ 57)
theorem isD_iff (c : UInt8) : isD c = true ↔ 48 ≤ c.toNat ∧ c.toNat ≤ 57 := by simp [isD]
def valA (a : Nat) (l : List UInt8) : Nat := l.foldl (fun a b => a * 10 + (b.toNat - 48)) a
theorem valA_cons (a : Nat) (b : UInt8) (l : List UInt8) : valA a (b :: l) = valA (a * 10 + (b.toNat - 48)) l := by unfold valA; rw [List.foldl_cons]
theorem valA_ge : ∀ (l : List UInt8) (a : Nat), a ≤ valA a l
  | [], a => Nat.le_refl _
  | b :: l, a => by rw [valA_cons]; have := valA_ge l (a * 10 + (b.toNat - 48)); omega
theorem valA_ge_pow : ∀ (l : List UInt8) (a : Nat), a * 10 ^ l.length ≤ valA a l
  | [], a => by simp [valA]
  | b :: l, a => by
    rw [valA_cons, List.length_cons, Nat.pow_succ]
    have h := valA_ge_pow l (a * 10 + (b.toNat - 48))
    have h2 : a * (10 ^ l.length * 10) = a * 10 * 10 ^ l.length := by rw [Nat.mul_assoc, Nat.mul_comm 10]
    have h3 : a * 10 * 10 ^ l.length ≤ (a * 10 + (b.toNat - 48)) * 10 ^ l.length := Nat.mul_le_mul_right _ (by omega)
    omega
abbrev valD (l : List UInt8) : Nat := valA 0 l
/-- A number without superfluous zeros, not 0. -/
def good (l : List UInt8) : Bool := match l with
  | [] => false
  | c :: r => (c :: r).all isD && c != 48
theorem good_pos {l : List UInt8} (h : good l = true) : 10 ^ (l.length - 1) ≤ valD l := by
  cases l with
  | nil => cases h
  | cons c r =>
    simp only [good, List.all_cons, Bool.and_eq_true, bne_iff_ne] at h
    have hc := (isD_iff c).1 h.1.1
    have hne : c.toNat ≠ 48 := fun e => h.2 (UInt8.toNat_inj.1 e)
    have := valA_ge_pow r (0 * 10 + (c.toNat - 48))
    show _ ≤ valA 0 (c :: r)
    rw [valA_cons]
    have h1 : 1 * 10 ^ r.length ≤ (0 * 10 + (c.toNat - 48)) * 10 ^ r.length := Nat.mul_le_mul_right _ (by omega)
    simp only [List.length_cons, Nat.add_sub_cancel]
    omega
theorem parseUint_eq : ∀ (l : List UInt8) (a : Nat), l.all isD = true → a < 18446744073709551616 → Lib.parseUint10 a l = if valA a l < 18446744073709551616 then .ok (valA a l) else .range
  | [], a, _, ha => by rw [show valA a [] = a from rfl, if_pos ha]; rfl
  | c :: l, a, h, ha => by
    simp only [List.all_cons, Bool.and_eq_true] at h
    have hc := (isD_iff c).1 h.1
    have hge := valA_ge l (a * 10 + (c.toNat - 48))
    unfold Lib.parseUint10
    rw [if_pos hc, valA_cons]
    by_cases h1 : 1844674407370955162 ≤ a
    · rw [if_pos h1, if_neg (by omega)]
    · rw [if_neg h1]
      by_cases h2 : 18446744073709551616 ≤ a * 10 + (c.toNat - 48)
      · rw [if_pos h2, if_neg (by omega)]
      · rw [if_neg h2, parseUint_eq l _ h.2 (by omega)]
theorem atoiR_good {l : List UInt8} (h : good l = true) : (valD l < 9223372036854775808 ∧ atoiR l = ((valD l : Int), false)) ∨ (9223372036854775808 ≤ valD l ∧ (atoiR l).2 = true) := by
  cases l with
  | nil => cases h
  | cons c r =>
    simp only [good, Bool.and_eq_true, bne_iff_ne] at h
    have hall := h.1
    have hc := h.1
    simp only [List.all_cons, Bool.and_eq_true] at hc
    have hc := (isD_iff c).1 hc.1
    have e : Lib.parseMag (c :: r) = if valD (c :: r) < 18446744073709551616 then .ok (valD (c :: r)) else .range := by
      unfold Lib.parseMag
      rw [if_neg (by simp), parseUint_eq _ _ hall (by omega)]
    have n1 : ¬ c.toNat = 43 := by omega
    have n2 : ¬ c.toNat = 45 := by omega
    have key : Lib.atoiAll (c :: r) = if valD (c :: r) < 9223372036854775808 then .ok (valD (c :: r) : Int) else .range := by
      unfold Lib.atoiAll
      simp only [n1, n2, or_self, if_false, e]
      by_cases h1 : valD (c :: r) < 18446744073709551616
      · rw [if_pos h1]
        simp only [not_false_eq_true, true_and, false_and, if_false]
        by_cases h2 : 9223372036854775808 ≤ valD (c :: r)
        · rw [if_pos h2, if_neg (by omega)]
        · rw [if_neg h2, if_pos (by omega)]
      · rw [if_neg h1, if_neg (by omega)]
    unfold atoiR
    rw [key]
    by_cases h1 : valD (c :: r) < 9223372036854775808
    · refine .inl ⟨h1, ?_⟩
      rw [if_pos h1]
    · refine .inr ⟨by omega, ?_⟩
      rw [if_neg h1]
def digs : List UInt8 := [48, 49, 50, 51, 52, 53, 54, 55, 56, 57]
theorem digs_isD (c : UInt8) : digs.contains c = isD c := by
  have : ∀ k : Fin 256, digs.contains (UInt8.ofNat k.1) = isD (UInt8.ofNat k.1) := by decide +kernel
  have h := this ⟨c.toNat, c.toNat_lt⟩
  simpa using h
theorem dropWhile_all {p : UInt8 → Bool} : ∀ l : List UInt8, (l.dropWhile p == []) = l.all p
  | [] => rfl
  | c :: l => by
    rw [List.dropWhile_cons, List.all_cons]
    cases h : p c with
    | true => simp only [if_true, Bool.true_and]; exact dropWhile_all l
    | false => rfl
theorem trim_digs (l : List UInt8) : (Lib.trimS l digs == []) = l.all isD := by
  unfold Lib.trimS Lib.trimLeftS Lib.trimRightS
  have hp : (fun x => digs.contains x) = isD := funext digs_isD
  rw [hp, dropWhile_all]
  rw [Bool.eq_iff_iff]
  constructor
  · intro h
    rw [List.all_eq_true] at h ⊢
    intro x hx
    by_cases h0 : l.reverse.dropWhile isD = []
    · have := dropWhile_all (p := isD) l.reverse
      rw [h0] at this
      have h9 := List.all_eq_true.1 this.symm x (by simpa using hx)
      exact h9
    · exfalso
      obtain ⟨y, t, hyt⟩ := List.exists_cons_of_ne_nil h0
      have hy : isD y = false := by
        have := List.head?_dropWhile_not isD l.reverse
        rw [hyt] at this
        simpa using this
      have := h y (by rw [hyt]; simp)
      rw [hy] at this
      cases this
  · intro h
    rw [List.all_eq_true] at h ⊢
    intro x hx
    have h1 : x ∈ l.reverse := (List.dropWhile_sublist isD).subset (by simpa using hx)
    exact h x (by simpa using h1)
section
variable {n : Nat} {l : List UInt8}
theorem good_iff : good l = true ↔ 1 ≤ l.length ∧ l.getD 0 0 ≠ 48 ∧ l.all isD = true := by
  cases l with
  | nil => simp [good]
  | cons c r =>
    simp only [good, Bool.and_eq_true, bne_iff_ne, List.length_cons, List.getD_cons_zero]
    constructor
    · rintro ⟨h1, h2⟩; exact ⟨by omega, h2, h1⟩
    · rintro ⟨_, h2, h1⟩; exact ⟨h1, h2⟩
end
end Go.Proofs.YtgmpnhfnkhohiaaGreatDoor.Ev

/- Dumps, read: what the program's reader computes. -/
namespace Go.Proofs.YtgmpnhfnkhohiaaGreatDoor.Ev
open Go Go.Proofs Go.Proofs.Ev
set_option linter.unusedVariables false
/-- Where the first line feed stands. -/
def nl : List UInt8 → Option Nat
  | [] => none
  | c :: r => if c = 10 then some 0 else (nl r).map (· + 1)
theorem nl_lt : ∀ {r : List UInt8} {k : Nat}, nl r = some k → k < r.length
  | [], k, h => by cases h
  | c :: r, k, h => by
    unfold nl at h
    split at h
    · cases h; simp
    · rw [Option.map_eq_some_iff] at h
      obtain ⟨j, h1, rfl⟩ := h
      have := nl_lt h1
      simp; omega
theorem index_nl : ∀ r : List UInt8, Lib.index r [10] = match nl r with | some k => (k : Int) | none => -1
  | [] => rfl
  | c :: r => by
    have ih := index_nl r
    unfold Lib.index nl
    by_cases h : c = 10
    · subst h; simp [List.isPrefixOf]
    · have hp : ([10] : List UInt8).isPrefixOf (c :: r) = false := by simp [List.isPrefixOf, Ne.symm h]
      rw [hp, if_neg (by simp), if_neg h, ih]
      cases nl r with
      | none => rfl
      | some k =>
        have : ¬ (((k : Nat) : Int) == -1) = true := by rw [beq_iff_eq]; omega
        simp only [Option.map_some]
        rw [if_neg this]
        rfl
theorem cut_nl (r : List UInt8) : Lib.cut r [10] = match nl r with | some k => (r.take k, r.drop (k + 1), true) | none => (r, [], false) := by
  unfold Lib.cut
  rw [index_nl]
  cases nl r with
  | none => rw [if_neg (by decide)]
  | some k => rw [if_pos (by simp)]; rfl
/-- The line of a quadword, if a text is one. -/
def rowQ (i : Nat) (line : List UInt8) : Option (List UInt8 × Bool) :=
  match unhx ((line.drop 8).take 8 ++ (line.drop 17).take 8 ++ (line.drop 26).take 8 ++ (line.drop 35).take 8) with
  | some b => if b.length = 16 ∧ line = R (be 3 ((16 * i : Nat) : Int)) b (line.getD 44 0 == 80) then some (b, line.getD 44 0 == 80) else none
  | none => none
theorem rowQ_iff {i : Nat} {line b : List UInt8} {t : Bool} : rowQ i line = some (b, t) ↔ b.length = 16 ∧ line = R (be 3 ((16 * i : Nat) : Int)) b t := by
  constructor
  · intro h
    unfold rowQ at h
    split at h
    · split at h
      · rename_i hc; cases h; exact hc
      · cases h
    · cases h
  · rintro ⟨hb, e⟩
    obtain ⟨_, _, p0, _, p1, _, p2, _, p3, _, p4⟩ := R_parts (by rw [be_length]) hb e
    unfold rowQ
    rw [p0, p1, p2, p3, R_hex, unhx_hx]
    have ht : (line.getD 44 0 == 80) = t := by rw [p4]; cases t <;> rfl
    simp only [ht]
    rw [if_pos ⟨hb, e⟩]
inductive Out where
  | ok (s : List UInt8) (ts : List Bool) (st : Bool)
  | err (c : Int)
inductive PR where
  | ok (s : List UInt8) (ts : List Bool)
  | err (a : Nat) (c : Int)
def lastQ (s : List UInt8) : List UInt8 := s.drop (s.length - 16)
noncomputable def pe (n : Nat) (b : List UInt8) : Int := match tagged_PointerIn.F n (bs b) with | some p => p.2.2.2.2 | none => 0
def lastT (ts : List Bool) : Bool := ts.getD (ts.length - 1) false
/-- What a line that says how many quadwords repeat does. -/
def stepS (rest s : List UInt8) (ts : List Bool) (st : Bool) : Out :=
  if good rest = true ∧ 0 < ts.length ∧ lastT ts = false ∧ st = false then
    (if ts.length + valD rest ≤ 64 then .ok (s ++ Lib.repeatL (lastQ s) (valD rest)) (ts ++ List.replicate (valD rest) false) true else .err 2) else .err 8
noncomputable def stepR (n : Nat) (line s : List UInt8) (ts : List Bool) : Out :=
  match rowQ ts.length line with
  | none => .err 8
  | some (b, t) => if 0 < ts.length ∧ t = false ∧ lastT ts = false ∧ b = lastQ s then .err 8 else if ts.length = 64 then .err 2 else if t = true ∧ pe n b ≠ 0 then .err 22 else .ok (s ++ b) (ts ++ [t]) false
noncomputable def stepL (n : Nat) (line s : List UInt8) (ts : List Bool) (st : Bool) : Out :=
  match line with
  | [] => stepR n [] s ts
  | c :: rest => if c = 42 then stepS rest s ts st else stepR n (c :: rest) s ts
/-- The storage with a dump, or where it ends and why. -/
noncomputable def P (n : Nat) : Nat → Nat → List UInt8 → List UInt8 → List Bool → Bool → PR
  | 0, a, _, s, ts, _ => .ok s ts
  | f + 1, a, rest, s, ts, st => match rest with
    | [] => .ok s ts
    | c :: r => match nl (c :: r) with
      | none => .err a 8
      | some k => match stepL n ((c :: r).take k) s ts st with
        | .err e => .err a e
        | .ok s' ts' st' => P n f (a + k + 1) ((c :: r).drop (k + 1)) s' ts' st'
def res : PR → Option (ByteArray × List AV × Int × Int)
  | .ok s ts => some (bs s, Bl ts, 0, 0)
  | .err a c => some (bs [], [], (a : Int), c)
section
variable {n : Nat}
theorem cutLine_eq (r : List UInt8) (h : r.length ≤ 100000) : strings_Cut.F n (bs r) (⟨#[10]⟩ : ByteArray) = some (match nl r with | some k => (bs (r.take k), bs (r.drop (k + 1)), true) | none => (bs r, bs [], false)) := by
  unfold strings_Cut.F
  have k : (⟨#[10]⟩ : ByteArray).data.toList = [10] := rfl
  rw [cond_t (by rw [bs_size]; omega), k, show (bs r).data.toList = r from rfl, cut_nl]
  cases nl r <;> rfl
theorem cutStar_eq (l : List UInt8) : strings_CutPrefix.F n (bs l) (⟨#[42]⟩ : ByteArray) = some (match l with | c :: r => if c = 42 then (bs r, true) else (bs (c :: r), false) | [] => (bs [], false)) := by
  unfold strings_CutPrefix.F strings_CutPrefix.e stringslite_CutPrefix.F stringslite_CutPrefix.e stringslite_HasPrefix.F stringslite_HasPrefix.e
  have k : (⟨#[42]⟩ : ByteArray) = bs [42] := rfl
  simp only [k, bs_size]
  cases l with
  | nil => rw [cond_f (by simp)]; rfl
  | cons c r =>
    have h1 : (decide ((0 : Int) ≤ ((([42] : List UInt8).length : Nat) : Int)) && decide (((([42] : List UInt8).length : Nat) : Int) ≤ (((c :: r).length : Nat) : Int))) = true := by
      simp only [List.length_cons, List.length_nil]
      rw [Bool.and_eq_true, decide_eq_true_eq, decide_eq_true_eq]; omega
    have e1 : (bs (c :: r)).extract 0 (((([42] : List UInt8).length : Nat) : Int)).toNat = bs [c] := by rw [bs_extract]; rfl
    have e2 : (bs (c :: r)).extract (((([42] : List UInt8).length : Nat) : Int)).toNat (c :: r).length = bs r := by
      rw [bs_extract]
      show bs (r.take ((c :: r).length - 1)) = _
      rw [List.length_cons, Nat.add_sub_cancel, List.take_length]
    rw [cond_t (by simp only [List.length_cons, List.length_nil]; omega), h1, e1, e2, beq_bs]
    by_cases h : c = 42
    · subst h; simp
    · have : ([c] == [42]) = false := by simp [h]
      rw [this]
      simp [h]
/-- Where the reader of the program is, in plain words. -/
theorem starred_eq (hn : 100100 ≤ n) (m : Nat) (hm : 3 ≤ m) (rest s x : List UInt8) (T line : ByteArray) (ts : List Bool) (st : Bool) (a : Nat) (hr : rest.length ≤ 10000) (hs : s.length = 16 * ts.length) (ht : ts.length ≤ 64) (Y : Option (ByteArray × List AV × Int × Int))
    (h8 : stepS rest s ts st = .err 8 → Y = some (bs [], [], (a : Int), 8)) (h2 : stepS rest s ts st = .err 2 → Y = some (bs [], [], (a : Int), 2))
    (hok : ∀ s' ts' st', stepS rest s ts st = .ok s' ts' st' → Y = (tagged_ParseDump.l n m).2.2.2 T st' a line (bs x) (bs s') (Bl ts')) :
    ((strconv_Atoi.F n (bs rest)).bind fun p6 =>
      let y7 : Bool := (bs rest).toList == (⟨#[]⟩ : ByteArray).toList
      bif y7 then ((tagged_ParseDump.l n m).2.1 a (bs x)) else ((strings_Trim.F n (bs rest) (⟨#[48, 49, 50, 51, 52, 53, 54, 55, 56, 57]⟩ : ByteArray)).bind fun p8 =>
      let y9 : Bool := !(p8.toList == (⟨#[]⟩ : ByteArray).toList)
      bif y9 then ((tagged_ParseDump.l n m).2.1 a (bs x)) else (bif decide ((0 : Int) < ((bs rest).size : Nat)) then (let y10 : Int := ((((bs rest).data.getD 0 0).toNat : Nat) : Int)
      bif y10 == 48 then ((tagged_ParseDump.l n m).2.1 a (bs x)) else (let y11 : Bool := (((Bl ts).length : Nat) : Int) == 0
      bif y11 then ((tagged_ParseDump.l n m).2.1 a (bs x)) else (let y12 : Int := IntKind.i64.wrap ((((Bl ts).length : Nat) : Int) - 1)
      bif decide ((0 : Int) ≤ y12) && decide (y12 < (((Bl ts).length : Nat) : Int)) then (withCons (((Bl ts).getD ((y12).toNat) .undef).cells) fun h13 r14 =>
      withBool h13 fun b15 =>
      bif b15 then ((tagged_ParseDump.l n m).2.1 a (bs x)) else (bif st then ((tagged_ParseDump.l n m).2.1 a (bs x)) else (bif !(!p6.2) then (some ((⟨#[]⟩ : ByteArray), [], (a : Int), 2)) else (let y16 : Int := IntKind.i64.wrap ((64 : Int) - (((Bl ts).length : Nat) : Int))
      bif decide (p6.1 > y16) then (some ((⟨#[]⟩ : ByteArray), [], (a : Int), 2)) else (let y17 : Int := IntKind.i64.wrap ((((bs s).size : Nat) : Int) - 16)
      bif decide ((0 : Int) ≤ y17) && decide ((y17 : Int) ≤ (((bs s).size : Nat) : Int)) then (let y18 : ByteArray := (bs s).extract (y17).toNat (bs s).size
      (strings_Repeat.F n y18 p6.1).bind fun p19 =>
      chk (decide ((bs s).size + p19.size ≤ 9223372036854775807)) (bif decide ((0 : Int) ≤ p6.1) && decide ((p6.1 : Int) ≤ most) then (let y20 : List AV := List.replicate (p6.1).toNat (vb false)
      bif decide ((Bl ts).length + y20.length ≤ most) then ((tagged_ParseDump.l n m).2.2.2 T true a line (bs x) ((bs s) ++ p19) ((Bl ts) ++ y20)) else none) else none)) else none))))) else none))) else none))) = Y := by
  obtain ⟨m, rfl⟩ : ∃ m', m = m' + 1 := ⟨m - 1, by omega⟩
  have c16 : (tagged_ParseDump.l n (m + 1)).2.1 (a : Int) (bs x) = some (bs [], [], (a : Int), 8) := rfl
  have kd : (⟨#[48, 49, 50, 51, 52, 53, 54, 55, 56, 57]⟩ : ByteArray) = bs digs := rfl
  have ke : (⟨#[]⟩ : ByteArray) = bs [] := rfl
  have hat : strconv_Atoi.F n (bs rest) = some (atoiR rest) := by
    unfold strconv_Atoi.F
    rw [cond_t (by rw [bs_size]; omega)]
  have htr : strings_Trim.F n (bs rest) (bs digs) = some (bs (Lib.trimS rest digs)) := by
    unfold strings_Trim.F
    have c1 : decide ((bs rest).size ≤ 9223372036854775807) = true := decide_eq_true (by rw [bs_size]; omega)
    have c2 : (decide ((bs digs).size < 4294967281) && (bs digs).data.toList.all fun b => decide (b.toNat < 128)) = true := by decide +kernel
    rw [c1, c2]
    rfl
  rw [hat, kd, htr, ke]
  simp only [Option.bind_some, beq_bs, bs_size, bl_length, arr_getD, c16, trim_digs]
  unfold stepS at h8 h2 hok
  have e48 := eq_int (rest.getD 0 0) 48 (by omega)
  rw [show (((48 : Nat) : Int)) = 48 from rfl] at e48
  rw [e48]
  by_cases hg : good rest = true
  · obtain ⟨g1, g2, g3⟩ := good_iff.1 hg
    have b1 : (rest == []) = false := by rw [beq_eq_false_iff_ne]; intro e; rw [e] at g1; simp at g1
    have b2 : (rest.getD 0 0 == UInt8.ofNat 48) = false := by rw [beq_eq_false_iff_ne]; exact g2
    rw [b1, g3, b2, cond_t (show (0 : Int) < ((rest.length : Nat) : Int) by omega)]
    simp only [cond_false, Bool.not_true]
    by_cases hq : 0 < ts.length
    · have b3 : ((((ts.length : Nat) : Int)) == 0) = false := by rw [beq_eq_false_iff_ne]; omega
      have e12 : IntKind.i64.wrap (((ts.length : Nat) : Int) - 1) = ((ts.length - 1 : Nat) : Int) := by rw [w64] <;> omega
      rw [b3]
      simp only [e12, cond_false]
      rw [within_t (show ts.length - 1 < ts.length by omega)]
      simp only [cond_true, Int.toNat_natCast, bl_getD (show ts.length - 1 < ts.length by omega), AV.cells, withCons, withBool]
      cases hl : ts.getD (ts.length - 1) false with
      | true => rw [cond_true]; exact (h8 (if_neg (by unfold lastT; rw [hl]; simp))).symm
      | false =>
        rw [cond_false]
        cases hst : st with
        | true => rw [cond_true]; exact (h8 (if_neg (by rw [hst]; simp))).symm
        | false =>
          rw [cond_false]
          have hC : good rest = true ∧ 0 < ts.length ∧ lastT ts = false ∧ st = false := ⟨hg, hq, hl, hst⟩
          rw [if_pos hC] at h8 h2
          have hok' : ts.length + valD rest ≤ 64 → Y = (tagged_ParseDump.l n (m + 1)).2.2.2 T true a line (bs x) (bs (s ++ Lib.repeatL (lastQ s) (valD rest))) (Bl (ts ++ List.replicate (valD rest) false)) := fun h => hok _ _ _ (by rw [if_pos hC, if_pos h])
          have e16 : IntKind.i64.wrap ((64 : Int) - ((ts.length : Nat) : Int)) = ((64 - ts.length : Nat) : Int) := by rw [w64] <;> omega
          rcases atoiR_good hg with ⟨hv, e⟩ | ⟨hv, e⟩
          · rw [e]
            simp only [Bool.not_false, Bool.not_true, cond_false, e16]
            by_cases hbig : ts.length + valD rest ≤ 64
            · have e17 : IntKind.i64.wrap (((s.length : Nat) : Int) - 16) = ((s.length - 16 : Nat) : Int) := by rw [w64] <;> omega
              have hlq : (bs s).extract (s.length - 16) s.length = bs (lastQ s) := by rw [bs_extract, List.take_of_length_le (by simp)]; rfl
              have hlen : (lastQ s).length = 16 := by unfold lastQ; simp; omega
              rw [cond_f (by omega)]
              simp only [e17]
              rw [upto_t (show s.length - 16 ≤ s.length by omega)]
              simp only [cond_true, Int.toNat_natCast, hlq]
              have hrep : strings_Repeat.F n (bs (lastQ s)) ((valD rest : Nat) : Int) = some (bs (Lib.repeatL (lastQ s) (valD rest))) := by
                unfold strings_Repeat.F
                have c1 : (decide ((0 : Int) ≤ ((valD rest : Nat) : Int)) && decide ((((bs (lastQ s)).size : Nat) : Int) * ((valD rest : Nat) : Int) ≤ 140737488355328) && decide (((valD rest : Nat) : Int) ≤ 9223372036854775807)) = true := by
                  rw [bs_size, hlen, Bool.and_eq_true, Bool.and_eq_true, decide_eq_true_eq, decide_eq_true_eq, decide_eq_true_eq]; omega
                rw [c1]
                rfl
              rw [hrep]
              simp only [Option.bind_some, bs_size, Lib.repeatL_length, hlen]
              have c2 : (decide ((0 : Int) ≤ ((valD rest : Nat) : Int)) && decide (((valD rest : Nat) : Int) ≤ (most : Int))) = true := by
                rw [Bool.and_eq_true, decide_eq_true_eq, decide_eq_true_eq]; simp [most]; omega
              rw [chk_t (by omega), c2, cond_true, cond_t (by simp [most]; omega), bs_append, bl_replicate, bl_append]
              exact (hok' hbig).symm
            · rw [cond_t (by omega)]
              exact (h2 (if_neg hbig)).symm
          · rw [e]
            simp only [Bool.not_true, Bool.not_false, cond_true]
            exact (h2 (if_neg (by omega))).symm
    · have b3 : ((((ts.length : Nat) : Int)) == 0) = true := by rw [beq_iff_eq]; omega
      rw [b3, cond_true]
      exact (h8 (if_neg (by omega))).symm
  · have h8' := h8 (if_neg (fun hh => hg hh.1))
    rw [h8']
    cases b1 : (rest == []) with
    | true => rfl
    | false =>
      have hne : rest ≠ [] := fun e => by rw [e] at b1; cases b1
      rw [cond_false]
      cases b2 : rest.all isD with
      | false => rfl
      | true =>
        have h1 : 1 ≤ rest.length := by
          rcases Nat.eq_zero_or_pos rest.length with h | h
          · exact absurd (List.length_eq_zero_iff.1 h) hne
          · exact h
        have b3 : (rest.getD 0 0 == UInt8.ofNat 48) = true := by
          rw [beq_iff_eq]
          by_cases h : rest.getD 0 0 = 48
          · exact h
          · exact absurd (good_iff.2 ⟨h1, h, b2⟩) hg
        simp only [Bool.not_true, cond_false]
        rw [cond_t (show (0 : Int) < ((rest.length : Nat) : Int) by omega), b3]
        rfl
end
end Go.Proofs.YtgmpnhfnkhohiaaGreatDoor.Ev

/- Dumps, read by the program. -/
namespace Go.Proofs.YtgmpnhfnkhohiaaGreatDoor.Ev
open Go Go.Proofs Go.Proofs.Ev
set_option linter.unusedVariables false
section
variable {n : Nat}
theorem stepS_inv {rest s s' : List UInt8} {ts ts' : List Bool} {st st' : Bool} (hs : s.length = 16 * ts.length) (h : stepS rest s ts st = .ok s' ts' st') : s'.length = 16 * ts'.length ∧ ts'.length ≤ 64 := by
  unfold stepS at h
  split at h
  · rename_i hc
    split at h
    · cases h
      have : (lastQ s).length = 16 := by unfold lastQ; simp; omega
      rw [List.length_append, List.length_append, Lib.repeatL_length, List.length_replicate, this]
      omega
    · cases h
  · cases h
theorem stepR_inv {line s s' : List UInt8} {ts ts' : List Bool} {st' : Bool} (hs : s.length = 16 * ts.length) (ht : ts.length ≤ 64) (h : stepR n line s ts = .ok s' ts' st') : s'.length = 16 * ts'.length ∧ ts'.length ≤ 64 := by
  unfold stepR at h
  split at h
  · cases h
  · rename_i b t hr
    have hb := (rowQ_iff.1 hr).1
    split at h
    · cases h
    · split at h
      · cases h
      · split at h
        · cases h
        · cases h
          rw [List.length_append, List.length_append]
          simp
          omega
theorem stepL_inv {line s s' : List UInt8} {ts ts' : List Bool} {st st' : Bool} (hs : s.length = 16 * ts.length) (ht : ts.length ≤ 64) (h : stepL n line s ts st = .ok s' ts' st') : s'.length = 16 * ts'.length ∧ ts'.length ≤ 64 := by
  cases line with
  | nil =>
    have h : stepR n [] s ts = .ok s' ts' st' := h
    exact stepR_inv hs ht h
  | cons c r =>
    unfold stepL at h
    by_cases hc : c = 42
    · simp only [if_pos hc] at h; exact stepS_inv hs h
    · simp only [if_neg hc] at h; exact stepR_inv hs ht h
theorem plain_eq (hn : 100100 ≤ n) (m : Nat) (line s x : List UInt8) (T : ByteArray) (ts : List Bool) (a : Nat) (hr : line.length ≤ 10000) (hs : s.length = 16 * ts.length) (ht : ts.length ≤ 64) (Y : Option (ByteArray × List AV × Int × Int))
    (herr : ∀ e, stepR n line s ts = .err e → Y = some (bs [], [], (a : Int), e))
    (hok : ∀ s' ts' st', stepR n line s ts = .ok s' ts' st' → Y = (tagged_ParseDump.l n m).2.2.2 T st' a (bs line) (bs x) (bs s') (Bl ts')) :
    ((tagged_parsedRow.F n (bs line) (IntKind.i64.wrap ((((Bl ts).length : Nat) : Int) * 16))).bind fun p22 =>
      bif !p22.2.2 then (some ((⟨#[]⟩ : ByteArray), [], (a : Int), 8)) else (let y23 : Bool := decide ((((Bl ts).length : Nat) : Int) > 0)
      bif y23 then (bif !p22.2.1 then (let y24 : Int := IntKind.i64.wrap ((((Bl ts).length : Nat) : Int) - 1)
      bif decide ((0 : Int) ≤ y24) && decide (y24 < (((Bl ts).length : Nat) : Int)) then (withCons (((Bl ts).getD ((y24).toNat) .undef).cells) fun h25 r26 =>
      withBool h25 fun b27 =>
      bif !b27 then (let y28 : Int := IntKind.i64.wrap ((((bs s).size : Nat) : Int) - 16)
      bif decide ((0 : Int) ≤ y28) && decide ((y28 : Int) ≤ (((bs s).size : Nat) : Int)) then (let y29 : ByteArray := (bs s).extract (y28).toNat (bs s).size
      bif p22.1.toList == y29.toList then (some ((⟨#[]⟩ : ByteArray), [], (a : Int), 8)) else ((tagged_ParseDump.l n (m + 1)).2.2.1 T a (bs line) (((Bl ts).length : Nat) : Int) p22.1 p22.2.1 (bs x) (bs s) (Bl ts))) else none) else ((tagged_ParseDump.l n (m + 1)).2.2.1 T a (bs line) (((Bl ts).length : Nat) : Int) p22.1 p22.2.1 (bs x) (bs s) (Bl ts))) else none) else ((tagged_ParseDump.l n (m + 1)).2.2.1 T a (bs line) (((Bl ts).length : Nat) : Int) p22.1 p22.2.1 (bs x) (bs s) (Bl ts))) else ((tagged_ParseDump.l n (m + 1)).2.2.1 T a (bs line) (((Bl ts).length : Nat) : Int) p22.1 p22.2.1 (bs x) (bs s) (Bl ts)))) = Y := by
  have e16 : IntKind.i64.wrap (((ts.length : Nat) : Int) * 16) = ((16 * ts.length : Nat) : Int) := by rw [w64] <;> omega
  simp only [bl_length, e16]
  obtain ⟨b, t, k, e, h1, h2⟩ := parsedRow_eq (n := n) (l := line) hn hr ((16 * ts.length : Nat) : Int)
  rw [e]
  simp only [Option.bind_some]
  cases k with
  | false =>
    have hnone : rowQ ts.length line = none := by
      cases hq : rowQ ts.length line with
      | none => rfl
      | some p =>
        obtain ⟨q, u⟩ := p
        obtain ⟨hb, he⟩ := rowQ_iff.1 hq
        have := (h2 q u hb he).1
        cases this
    exact (herr 8 (by unfold stepR; rw [hnone])).symm
  | true =>
    obtain ⟨hb, he⟩ := h1 rfl
    have hrow : rowQ ts.length line = some (b, t) := rowQ_iff.2 ⟨hb, he⟩
    simp only [Bool.not_true, cond_false]
    have hstep : stepR n line s ts = if 0 < ts.length ∧ t = false ∧ lastT ts = false ∧ b = lastQ s then .err 8 else if ts.length = 64 then .err 2 else if t = true ∧ pe n b ≠ 0 then .err 22 else .ok (s ++ b) (ts ++ [t]) false := by
      unfold stepR; rw [hrow]
    -- the last word, where the line does not repeat what stands before it
    have fin : ¬ (0 < ts.length ∧ t = false ∧ lastT ts = false ∧ b = lastQ s) → (tagged_ParseDump.l n (m + 1)).2.2.1 T a (bs line) ((ts.length : Nat) : Int) (bs b) t (bs x) (bs s) (Bl ts) = Y := by
      intro hnr
      rw [if_neg hnr] at hstep
      show tagged_ParseDump.r25 n (tagged_ParseDump.l n m).1 (tagged_ParseDump.l n m).2.1 (tagged_ParseDump.l n m).2.2.1 (tagged_ParseDump.l n m).2.2.2 some T a (bs line) ((ts.length : Nat) : Int) (bs b) t (bs x) (bs s) (Bl ts) = Y
      unfold tagged_ParseDump.r25
      by_cases h64 : ts.length = 64
      · have : ((((ts.length : Nat) : Int)) == 64) = true := by rw [beq_iff_eq]; omega
        rw [this, cond_true]
        rw [if_pos h64] at hstep
        exact (herr 2 hstep).symm
      · have h64' : ((((ts.length : Nat) : Int)) == 64) = false := by rw [beq_eq_false_iff_ne]; omega
        rw [if_neg h64] at hstep
        rw [h64', cond_false]
        obtain ⟨p, hp, _⟩ := pointerIn_eq (n := n) (by omega) (bs b)
        rw [hp]
        simp only [Option.bind_some, bs_size, hb]
        have hpe : pe n b = p.2.2.2.2 := by unfold pe; rw [hp]
        have c1 : ∀ X : Option (ByteArray × List AV × Int × Int), chk (decide (s.length + 16 ≤ 9223372036854775807)) X = X := fun X => chk_t (by omega) X
        have c2 : decide ((Bl ts).length + [vb t].length ≤ most) = true := decide_eq_true (by rw [bl_length]; simp [most]; omega)
        have e3 : Bl ts ++ [vb t] = Bl (ts ++ [t]) := by simp [Bl]
        simp only [c1, c2, cond_true, bs_append, e3]
        cases ht2 : t with
        | false =>
          rw [if_neg (by rw [ht2]; simp)] at hstep
          rw [ht2] at hstep
          rw [cond_false]
          exact (hok _ _ _ hstep).symm
        | true =>
          rw [cond_true]
          cases hz : (p.2.2.2.2 != 0) with
          | true =>
            rw [bne_iff_ne] at hz
            rw [if_pos ⟨ht2, by rw [hpe]; exact hz⟩] at hstep
            rw [cond_true]
            exact (herr 22 hstep).symm
          | false =>
            rw [bne_eq_false_iff_eq] at hz
            rw [if_neg (fun hh => hh.2 (by rw [hpe]; exact hz)), ht2] at hstep
            rw [cond_false]
            exact (hok _ _ _ hstep).symm
    by_cases hq : 0 < ts.length
    · have e12 : IntKind.i64.wrap (((ts.length : Nat) : Int) - 1) = ((ts.length - 1 : Nat) : Int) := by rw [w64] <;> omega
      have e17 : IntKind.i64.wrap (((s.length : Nat) : Int) - 16) = ((s.length - 16 : Nat) : Int) := by rw [w64] <;> omega
      have hlq : (bs s).extract (s.length - 16) s.length = bs (lastQ s) := by rw [bs_extract, List.take_of_length_le (by simp)]; rfl
      rw [cond_t (by omega)]
      cases t with
      | true => simp only [Bool.not_true, cond_false]; exact fin (by simp)
      | false =>
        simp only [Bool.not_false, cond_true, e12]
        rw [within_t (show ts.length - 1 < ts.length by omega)]
        simp only [cond_true, Int.toNat_natCast, bl_getD (show ts.length - 1 < ts.length by omega), AV.cells, withCons, withBool, bs_size, e17]
        cases hl : ts.getD (ts.length - 1) false with
        | true => simp only [Bool.not_true, cond_false]; exact fin (by unfold lastT; rw [hl]; simp)
        | false =>
          simp only [Bool.not_false, cond_true]
          rw [upto_t (show s.length - 16 ≤ s.length by omega)]
          simp only [cond_true, hlq, beq_bs]
          cases hbq : (b == lastQ s) with
          | true =>
            rw [cond_true]
            exact (herr 8 (by rw [hstep, if_pos ⟨hq, rfl, hl, eq_of_beq hbq⟩])).symm
          | false =>
            rw [cond_false]
            exact fin (fun hh => by rw [hh.2.2.2] at hbq; simp at hbq)
    · rw [cond_f (by omega)]
      exact fin (fun hh => hq hh.1)
theorem to33 (m : Nat) (T : ByteArray) (st : Bool) (a : Nat) (line x s : List UInt8) (t : List AV) (ha : a + line.length ≤ 1000000) : (tagged_ParseDump.l n (m + 1)).2.2.2 T st a (bs line) (bs x) (bs s) t = (tagged_ParseDump.l n m).1 T st ((a + line.length + 1 : Nat) : Int) (bs x) (bs s) t := by
  show tagged_ParseDump.r33 n (tagged_ParseDump.l n m).1 (tagged_ParseDump.l n m).2.1 (tagged_ParseDump.l n m).2.2.1 (tagged_ParseDump.l n m).2.2.2 some T st a (bs line) (bs x) (bs s) t = _
  unfold tagged_ParseDump.r33
  have e2 : IntKind.i64.wrap ((a : Int) + ((line.length + 1 : Nat) : Int)) = ((a + line.length + 1 : Nat) : Int) := by rw [w64] <;> omega
  simp only [bs_size, wsucc (show line.length ≤ 1000000000 by omega), e2]
theorem parse6 (hn : 100100 ≤ n) (T : List UInt8) (hT : T.length ≤ 6000) (x : List UInt8) : ∀ (f a m : Nat) (s : List UInt8) (ts : List Bool) (st : Bool), a ≤ T.length → T.length - a < f → 4 * (T.length - a) + 8 ≤ m → s.length = 16 * ts.length → ts.length ≤ 64 →
    (tagged_ParseDump.l n m).1 (bs T) st a (bs x) (bs s) (Bl ts) = res (P n f a (T.drop a) s ts st)
  | 0, a, m, s, ts, st, _, h, _, _, _ => absurd h (by omega)
  | f + 1, a, m, s, ts, st, ha, hf, hm, hs, ht => by
    obtain ⟨m, rfl⟩ : ∃ m', m = m' + 2 := ⟨m - 2, by omega⟩
    show tagged_ParseDump.r6 n (tagged_ParseDump.l n (m + 1)).1 (tagged_ParseDump.l n (m + 1)).2.1 (tagged_ParseDump.l n (m + 1)).2.2.1 (tagged_ParseDump.l n (m + 1)).2.2.2 some (bs T) st a (bs x) (bs s) (Bl ts) = _
    unfold tagged_ParseDump.r6
    rw [show (bs T).size = T.length from rfl]
    by_cases hlt : a < T.length
    · obtain ⟨c, r, hcr⟩ : ∃ c r, T.drop a = c :: r := ⟨T[a], T.drop (a + 1), List.drop_eq_getElem_cons hlt⟩
      have hlen : (T.drop a).length = T.length - a := by simp
      have hP : P n (f + 1) a (T.drop a) s ts st = match nl (T.drop a) with
        | none => .err a 8
        | some k => match stepL n ((T.drop a).take k) s ts st with
          | .err e => .err a e
          | .ok s' ts' st' => P n f (a + k + 1) ((T.drop a).drop (k + 1)) s' ts' st' := by rw [hcr]; rfl
      have hex : (bs T).extract a T.length = bs (T.drop a) := by rw [bs_extract, List.take_of_length_le (by simp)]
      rw [hP]
      simp only
      rw [cond_t (by omega), upto_t (show a ≤ T.length by omega), cond_true, Int.toNat_natCast, hex, cutLine_eq _ (by omega)]
      simp only [Option.bind_some]
      cases hk : nl (T.drop a) with
      | none => rfl
      | some k =>
        have hkl := nl_lt hk
        rw [hlen] at hkl
        simp only [Bool.not_true, cond_false]
        rw [cutStar_eq]
        simp only [Option.bind_some]
        have hll : ((T.drop a).take k).length = k := by simp; omega
        have hdd : (T.drop a).drop (k + 1) = T.drop (a + k + 1) := by rw [List.drop_drop]; rfl
        rw [hdd]
        generalize hline : (T.drop a).take k = line at *
        have go : ∀ s' ts' st', s'.length = 16 * ts'.length → ts'.length ≤ 64 → ∀ m', m ≤ m' + 1 → (tagged_ParseDump.l n (m' + 1)).2.2.2 (bs T) st' a (bs line) (bs x) (bs s') (Bl ts') = res (P n f (a + k + 1) (T.drop (a + k + 1)) s' ts' st') := by
          intro s' ts' st' h1 h2 m' hm'
          rw [to33 _ _ _ _ _ _ _ _ (by omega), hll]
          exact parse6 hn T hT x f (a + k + 1) m' s' ts' st' (by omega) (by omega) (by omega) h1 h2
        obtain ⟨m2, rfl⟩ : ∃ m2, m = m2 + 1 := ⟨m - 1, by omega⟩
        have plain : ∀ (hL : stepL n line s ts st = stepR n line s ts), ((tagged_parsedRow.F n (bs line) (IntKind.i64.wrap ((((Bl ts).length : Nat) : Int) * 16))).bind fun p22 => _) = res (match stepL n line s ts st with
            | .err e => .err a e
            | .ok s' ts' st' => P n f (a + k + 1) (T.drop (a + k + 1)) s' ts' st') := fun hL => plain_eq hn (m2 + 1) line s x (bs T) ts a (by omega) hs ht _ (fun e he => by rw [hL, he]; rfl) (fun s' ts' st' he => by
              rw [hL, he]
              obtain ⟨i1, i2⟩ := stepR_inv hs ht he
              exact (go s' ts' st' i1 i2 m2 (by omega)).symm)
        cases line with
        | nil => exact plain rfl
        | cons c2 rest =>
          by_cases hc : c2 = 42
          · simp only [if_pos hc, cond_true]
            have hL : stepL n (c2 :: rest) s ts st = stepS rest s ts st := by unfold stepL; simp only [if_pos hc]
            have hrl : rest.length ≤ 10000 := by simp at hll; omega
            refine starred_eq hn (m2 + 1 + 1) (by omega) rest s x (bs T) (bs (c2 :: rest)) ts st a hrl hs ht _ (fun he => by rw [hL, he]; rfl) (fun he => by rw [hL, he]; rfl) (fun s' ts' st' he => ?_)
            rw [hL, he]
            obtain ⟨i1, i2⟩ := stepS_inv hs he
            exact (go s' ts' st' i1 i2 (m2 + 1) (by omega)).symm
          · simp only [if_neg hc, cond_false]
            exact plain (by unfold stepL; simp only [if_neg hc])
    · have : T.drop a = [] := List.drop_eq_nil_of_le (by omega)
      rw [this]
      simp only
      rw [cond_f (by omega)]
      rfl
theorem parseDump_eq (hn : 100100 ≤ n) (T : List UInt8) : tagged_ParseDump.F n (bs T) = if T.length > 6000 then some (bs [], [], 0, 2) else res (P n (T.length + 1) 0 T [] [] false) := by
  unfold tagged_ParseDump.F tagged_ParseDump.e
  simp only [bs_size]
  by_cases h : T.length > 6000
  · rw [cond_t (by omega), if_pos h]
  · rw [cond_f (by omega), if_neg h]
    have := parse6 hn T (by omega) [] (T.length + 1) 0 n [] [] false (by omega) (by omega) (by omega) rfl (by simp)
    rw [List.drop_zero] at this
    exact this
end
end Go.Proofs.YtgmpnhfnkhohiaaGreatDoor.Ev

/- Dumps, read by the reference. -/
namespace Go.Proofs.YtgmpnhfnkhohiaaGreatDoor.Ev
open Go Go.Proofs Go.Proofs.Ev
set_option linter.unusedVariables false
section
variable {n : Nat}
theorem lastQ_Q {s : List UInt8} {q : Nat} (h : s.length = 16 * (q + 1)) : Q s q = lastQ s := by
  unfold Q lastQ
  rw [show 16 * q = s.length - 16 by omega, List.take_of_length_le (by simp; omega)]
end
end Go.Proofs.YtgmpnhfnkhohiaaGreatDoor.Ev

/- Dumps, read by the reference: the whole; and P3.7. -/
namespace Go.Proofs.YtgmpnhfnkhohiaaGreatDoor.Ev
open Go Go.Proofs Go.Proofs.Ev
set_option linter.unusedVariables false
section
variable {n : Nat}
theorem nl_cons {c : UInt8} {r : List UInt8} : nl (c :: r) = if c = 10 then some 0 else (nl r).map (· + 1) := rfl
theorem at_nl : ∀ {r : List UInt8} {k : Nat}, nl r = some k → r[k]? = some 10
  | [], k, h => by cases h
  | c :: r, k, h => by
    rw [nl_cons] at h
    split at h
    · rename_i hc; cases h; simp [hc]
    · rw [Option.map_eq_some_iff] at h
      obtain ⟨j, h1, rfl⟩ := h
      simpa using at_nl h1
end
end Go.Proofs.YtgmpnhfnkhohiaaGreatDoor.Ev
