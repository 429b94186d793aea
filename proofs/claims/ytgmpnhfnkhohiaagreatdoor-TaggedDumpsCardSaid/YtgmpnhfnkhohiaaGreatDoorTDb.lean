/- midrange/midrangeref03.Check, out of its evaluation. Printed by the session's own program. -/
import Derived.Test.YtgmpnhfnkhohiaaGreatDoorTDa
import Derived.Test.YtgmpnhfnkhohiaaGreatDoorVc

namespace Go.Proofs.YtgmpnhfnkhohiaaGreatDoor.Ev
open Go Go.Proofs Go.Proofs.Ev
set_option linter.unusedVariables false
set_option maxRecDepth 100000
/-! midrange/midrangeref03.Check: function 27 -/
noncomputable def midrangeref03_Check.r9 {R : Type} (n : Nat) (c9 : Int → Int → ByteArray → List AV → Option R) (k : Int × Int → Option R) (z1 : Int) (z2 : Int) (z3 : ByteArray) (z4 : List AV) : Option R :=
  bif decide (z2 < z1) then (bif decide ((0 : Int) ≤ z2) && decide (z2 < ((z4.length : Nat) : Int)) then (withCons ((z4.getD ((z2).toNat) .undef).cells) fun h5 r6 =>
  withBool h5 fun b7 =>
  bif b7 then ((midrangeref03_quad.F n z3 z4 z2).bind fun p8 =>
  (midrangeref03_In.F n p8).bind fun p9 =>
  bif p9.2.2.2.2 != 0 then (k (z2, 22)) else (c9 z1 (IntKind.i64.wrap (z2 + 1)) z3 z4)) else (c9 z1 (IntKind.i64.wrap (z2 + 1)) z3 z4)) else none) else (k (z1, 0))
noncomputable def midrangeref03_Check.e {R : Type} (n : Nat) (c9 : Int → Int → ByteArray → List AV → Option R) (k : Int × Int → Option R) (a0 : ByteArray) (a1 : List AV) : Option R :=
  let y1 : Bool := decide (((a0.size : Nat) : Int) > 1024)
  bif y1 then (k (0, 2)) else (let y2 : Int := Int.tmod ((a0.size : Nat) : Int) 16
  bif y2 != 0 then (k (0, 18)) else (let y3 : Int := IntKind.i64.wrap (Int.tdiv ((a0.size : Nat) : Int) 16)
  let y4 : Bool := ((a1.length : Nat) : Int) != y3
  bif y4 then (k (0, 6)) else (c9 y3 0 a0 a1)))
noncomputable def midrangeref03_Check.C {R : Type} (n : Nat) (f : FuncId) (xs : List AV) : (AV → Option R) → Option R :=
  bif Nat.beq f 38 then midrangeref03_quad.via n xs else bif Nat.beq f 40 then midrangeref03_In.via n xs else fun _ => none
theorem midrangeref03_Check.tells {R : Type} (n : Nat) : Tells (R := R) Tryz.prog (midrangeref03_Check.C n) := fun _ xs => tells_at (midrangeref03_quad.tells1 n xs) (tells_at (midrangeref03_In.tells1 n xs) (Tells1.none))
noncomputable def midrangeref03_Check.cut (r : Nat) : Option Keep := match r with | 9 => Option.some ⟨[1, 4, 5], []⟩ | _ => none
noncomputable def midrangeref03_Check.t9 : List Item := (todoOf 9 1000 [.code (Tryz.f27.body.getD .skip)]).getD []
noncomputable def midrangeref03_Check.s9 (z1 : Int) (z2 : Int) (z3 : ByteArray) (z4 : List AV) : St := ⟨[.undef, .ptr 0 0, .undef, .undef, vi z1, vi z2, .undef, .undef, .undef, .undef, .undef, .undef, .undef, .undef, .undef, .undef, .undef, .undef, .undef, .undef, .undef, .undef, .undef, .undef, .undef, .undef, .undef, .undef, .undef, .undef, .undef, .undef, .undef, .undef, .undef, .undef, .undef, .undef, .undef, .undef, .undef, .undef, .undef, .undef, .undef, .undef, .undef], Mem.ofList [.box 24 [vs z3, .sl ⟨true, 4⟩ 1 z4]], 1⟩
theorem midrangeref03_Check.e_eq {R : Type} (n : Nat) (rec : List Item → St → Option R) (K : AV → Option R) (a0 : ByteArray) (a1 : List AV) :
    goK G (midrangeref03_Check.C n) midrangeref03_Check.cut (fun S => finK G Tryz.f27.resultTypes.toList Tryz.f27.results.toList S K) rec 1000 [.code (Tryz.f27.body.getD .skip)] (Ev.start Tryz.f27 [AV.agg [vs a0, .sl ⟨true, 4⟩ 1 a1]]) = midrangeref03_Check.e n (fun z1 z2 z3 z4 => rec midrangeref03_Check.t9 (midrangeref03_Check.s9 z1 z2 z3 z4)) (fun p => K (.tup [vi p.1, vi p.2])) a0 a1 := by kernel_rfl
theorem midrangeref03_Check.r9_eq {R : Type} (n : Nat) (rec : List Item → St → Option R) (K : AV → Option R) (z1 : Int) (z2 : Int) (z3 : ByteArray) (z4 : List AV) :
    atK G (midrangeref03_Check.C n) midrangeref03_Check.cut (fun S => finK G Tryz.f27.resultTypes.toList Tryz.f27.results.toList S K) rec midrangeref03_Check.t9 (midrangeref03_Check.s9 z1 z2 z3 z4) = midrangeref03_Check.r9 n (fun z1 z2 z3 z4 => rec midrangeref03_Check.t9 (midrangeref03_Check.s9 z1 z2 z3 z4)) (fun p => K (.tup [vi p.1, vi p.2])) z1 z2 z3 z4 := by kernel_rfl
noncomputable def midrangeref03_Check.l (n : Nat) : Nat → (Int → Int → ByteArray → List AV → Option (Int × Int))
  | 0 => (fun _ _ _ _ => none)
  | m + 1 => midrangeref03_Check.r9 n (midrangeref03_Check.l n m) Option.some
noncomputable def midrangeref03_Check.F (n : Nat) (a0 : ByteArray) (a1 : List AV) : Option (Int × Int) := midrangeref03_Check.e n (midrangeref03_Check.l n n) Option.some a0 a1
noncomputable def midrangeref03_Check.dec (x : AV) : Option (Int × Int) := match x with | .tup [.v (.int .i64 p0), .v (.int .i64 p1)] => Option.some (p0, p1) | _ => none
theorem midrangeref03_Check.dec_inv {p : Int × Int} (y : AV) (h : midrangeref03_Check.dec y = some p) : y = .tup [vi p.1, vi p.2] := by
  unfold midrangeref03_Check.dec at h
  split at h
  · cases h; rfl
  · cases h
theorem midrangeref03_Check.l_eq (n m : Nat) : (∀ (z1 : Int) (z2 : Int) (z3 : ByteArray) (z4 : List AV), runK G (midrangeref03_Check.C n) midrangeref03_Check.cut (fun S => finK G Tryz.f27.resultTypes.toList Tryz.f27.results.toList S midrangeref03_Check.dec) m midrangeref03_Check.t9 (midrangeref03_Check.s9 z1 z2 z3 z4) = (midrangeref03_Check.l n m) z1 z2 z3 z4) := by
  induction m with
  | zero => exact fun z1 z2 z3 z4 => rfl
  | succ m ih =>
    have h9 := ih
    have e9 : (fun (z1 : Int) (z2 : Int) (z3 : ByteArray) (z4 : List AV) => runK G (midrangeref03_Check.C n) midrangeref03_Check.cut (fun S => finK G Tryz.f27.resultTypes.toList Tryz.f27.results.toList S midrangeref03_Check.dec) m midrangeref03_Check.t9 (midrangeref03_Check.s9 z1 z2 z3 z4)) = (midrangeref03_Check.l n m) := by funext z1 z2 z3 z4; exact h9 z1 z2 z3 z4
    have q9 : ∀ (z1 : Int) (z2 : Int) (z3 : ByteArray) (z4 : List AV), runK G (midrangeref03_Check.C n) midrangeref03_Check.cut (fun S => finK G Tryz.f27.resultTypes.toList Tryz.f27.results.toList S midrangeref03_Check.dec) (m + 1) midrangeref03_Check.t9 (midrangeref03_Check.s9 z1 z2 z3 z4) = (midrangeref03_Check.l n (m + 1)) z1 z2 z3 z4 := by
      intro z1 z2 z3 z4
      rw [runK_succ]
      refine (midrangeref03_Check.r9_eq n _ midrangeref03_Check.dec z1 z2 z3 z4).trans ?_
      rw [e9]
      rfl
    exact q9
theorem midrangeref03_Check.hands (n : Nat) (a0 : ByteArray) (a1 : List AV) {p : Int × Int} (h : midrangeref03_Check.F n a0 a1 = some p) : HandsIn Tryz.prog 27 [AV.agg [vs a0, .sl ⟨true, 4⟩ 1 a1]] (.tup [vi p.1, vi p.2]) := by
  refine hands_of cfg mixed (fun _ => rfl) rfl (midrangeref03_Check.tells n) (fn := Tryz.f27) Tryz.func27 (by kernel_rfl) (by kernel_rfl) (cut := midrangeref03_Check.cut) (K := midrangeref03_Check.dec) (r := p) (n := n) midrangeref03_Check.dec_inv ?_
  rw [funK_getD (by kernel_rfl)]
  have h1 := midrangeref03_Check.e_eq n (runK G (midrangeref03_Check.C n) midrangeref03_Check.cut (fun S => finK G Tryz.f27.resultTypes.toList Tryz.f27.results.toList S midrangeref03_Check.dec) n) midrangeref03_Check.dec a0 a1
  have hl := midrangeref03_Check.l_eq n n
  simp only [hl] at h1
  exact h1.trans h
noncomputable def midrangeref03_Check.via {R : Type} (n : Nat) (xs : List AV) : (AV → Option R) → Option R := match xs with | [.agg [.v (.string a0), .sl ⟨true, 4⟩ 1 a1]] => fun K => (midrangeref03_Check.F n a0 a1).bind fun p => K (.tup [vi p.1, vi p.2]) | _ => fun _ => none
noncomputable def midrangeref03_Check.is (xs : List AV) : Bool := match xs with | [.agg [.v (.string _), .sl ⟨true, 4⟩ 1 _]] => true | _ => false
theorem midrangeref03_Check.tells1 {R : Type} (n : Nat) (xs : List AV) : Tells1 (R := R) Tryz.prog 27 xs (midrangeref03_Check.via n xs) := by
  unfold midrangeref03_Check.via
  split
  · exact Tells1.of (fun p hp => (midrangeref03_Check.hands n _ _ hp).hands rfl)
  · exact Tells1.none
end Go.Proofs.YtgmpnhfnkhohiaaGreatDoor.Ev

/- midrange/midrangeref03.Err, out of its evaluation. Printed by the session's own program. -/
namespace Go.Proofs.YtgmpnhfnkhohiaaGreatDoor.Ev
open Go Go.Proofs Go.Proofs.Ev
set_option linter.unusedVariables false
set_option maxRecDepth 100000
/-! midrange/midrangeref03.Err: function 9 -/
noncomputable def midrangeref03_Err.e {R : Type} (n : Nat)  (k : Int → Option R) (a0 : ByteArray) (a1 : List AV) : Option R :=
  (midrangeref03_Check.F n a0 a1).bind fun p1 =>
  k p1.2
noncomputable def midrangeref03_Err.C {R : Type} (n : Nat) (f : FuncId) (xs : List AV) : (AV → Option R) → Option R :=
  bif Nat.beq f 27 then midrangeref03_Check.via n xs else fun _ => none
theorem midrangeref03_Err.tells {R : Type} (n : Nat) : Tells (R := R) Tryz.prog (midrangeref03_Err.C n) := fun _ xs => tells_at (midrangeref03_Check.tells1 n xs) (Tells1.none)
noncomputable def midrangeref03_Err.cut (r : Nat) : Option Keep := match r with  | _ => none
theorem midrangeref03_Err.e_eq {R : Type} (n : Nat) (rec : List Item → St → Option R) (K : AV → Option R) (a0 : ByteArray) (a1 : List AV) :
    goK G (midrangeref03_Err.C n) midrangeref03_Err.cut (fun S => finK G Tryz.f9.resultTypes.toList Tryz.f9.results.toList S K) rec 1000 [.code (Tryz.f9.body.getD .skip)] (Ev.start Tryz.f9 [AV.agg [vs a0, .sl ⟨true, 4⟩ 1 a1]]) = midrangeref03_Err.e n  (fun p => K (vi p)) a0 a1 := by kernel_rfl
noncomputable def midrangeref03_Err.F (n : Nat) (a0 : ByteArray) (a1 : List AV) : Option (Int) := midrangeref03_Err.e n  Option.some a0 a1
noncomputable def midrangeref03_Err.dec (x : AV) : Option (Int) := match x with | .v (.int .i64 p0) => Option.some p0 | _ => none
theorem midrangeref03_Err.dec_inv {p : Int} (y : AV) (h : midrangeref03_Err.dec y = some p) : y = vi p := by
  unfold midrangeref03_Err.dec at h
  split at h
  · cases h; rfl
  · cases h
theorem midrangeref03_Err.hands (n : Nat) (a0 : ByteArray) (a1 : List AV) {p : Int} (h : midrangeref03_Err.F n a0 a1 = some p) : HandsIn Tryz.prog 9 [AV.agg [vs a0, .sl ⟨true, 4⟩ 1 a1]] (vi p) := by
  refine hands_of cfg mixed (fun _ => rfl) rfl (midrangeref03_Err.tells n) (fn := Tryz.f9) Tryz.func9 (by kernel_rfl) (by kernel_rfl) (cut := midrangeref03_Err.cut) (K := midrangeref03_Err.dec) (r := p) (n := n) midrangeref03_Err.dec_inv ?_
  rw [funK_getD (by kernel_rfl)]
  have h1 := midrangeref03_Err.e_eq n (runK G (midrangeref03_Err.C n) midrangeref03_Err.cut (fun S => finK G Tryz.f9.resultTypes.toList Tryz.f9.results.toList S midrangeref03_Err.dec) n) midrangeref03_Err.dec a0 a1
  exact h1.trans h
noncomputable def midrangeref03_Err.via {R : Type} (n : Nat) (xs : List AV) : (AV → Option R) → Option R := match xs with | [.agg [.v (.string a0), .sl ⟨true, 4⟩ 1 a1]] => fun K => (midrangeref03_Err.F n a0 a1).bind fun p => K (vi p) | _ => fun _ => none
noncomputable def midrangeref03_Err.is (xs : List AV) : Bool := match xs with | [.agg [.v (.string _), .sl ⟨true, 4⟩ 1 _]] => true | _ => false
theorem midrangeref03_Err.tells1 {R : Type} (n : Nat) (xs : List AV) : Tells1 (R := R) Tryz.prog 9 xs (midrangeref03_Err.via n xs) := by
  unfold midrangeref03_Err.via
  split
  · exact Tells1.of (fun p hp => (midrangeref03_Err.hands n _ _ hp).hands rfl)
  · exact Tells1.none
end Go.Proofs.YtgmpnhfnkhohiaaGreatDoor.Ev

/- midrange/midrangeref03.isSame, out of its evaluation. Printed by the session's own program. -/
namespace Go.Proofs.YtgmpnhfnkhohiaaGreatDoor.Ev
open Go Go.Proofs Go.Proofs.Ev
set_option linter.unusedVariables false
set_option maxRecDepth 100000
/-! midrange/midrangeref03.isSame: function 28 -/
noncomputable def midrangeref03_isSame.e {R : Type} (n : Nat)  (k : Bool → Option R) (a0 : ByteArray) (a1 : List AV) (a2 : Int) : Option R :=
  bif decide (a2 > 0) then (bif decide ((0 : Int) ≤ a2) && decide (a2 < ((a1.length : Nat) : Int)) then (withCons ((a1.getD ((a2).toNat) .undef).cells) fun h1 r2 =>
  withBool h1 fun b3 =>
  bif !b3 then (bif decide ((0 : Int) ≤ IntKind.i64.wrap (a2 - 1)) && decide (IntKind.i64.wrap (a2 - 1) < ((a1.length : Nat) : Int)) then (withCons ((a1.getD ((IntKind.i64.wrap (a2 - 1)).toNat) .undef).cells) fun h4 r5 =>
  withBool h4 fun b6 =>
  bif !b6 then ((midrangeref03_quad.F n a0 a1 a2).bind fun p7 =>
  (midrangeref03_quad.F n a0 a1 (IntKind.i64.wrap (a2 - 1))).bind fun p8 =>
  k (p7.toList == p8.toList)) else (k false)) else none) else (k false)) else none) else (k false)
noncomputable def midrangeref03_isSame.C {R : Type} (n : Nat) (f : FuncId) (xs : List AV) : (AV → Option R) → Option R :=
  bif Nat.beq f 38 then midrangeref03_quad.via n xs else fun _ => none
theorem midrangeref03_isSame.tells {R : Type} (n : Nat) : Tells (R := R) Tryz.prog (midrangeref03_isSame.C n) := fun _ xs => tells_at (midrangeref03_quad.tells1 n xs) (Tells1.none)
noncomputable def midrangeref03_isSame.cut (r : Nat) : Option Keep := match r with  | _ => none
theorem midrangeref03_isSame.e_eq {R : Type} (n : Nat) (rec : List Item → St → Option R) (K : AV → Option R) (a0 : ByteArray) (a1 : List AV) (a2 : Int) :
    goK G (midrangeref03_isSame.C n) midrangeref03_isSame.cut (fun S => finK G Tryz.f28.resultTypes.toList Tryz.f28.results.toList S K) rec 1000 [.code (Tryz.f28.body.getD .skip)] (Ev.start Tryz.f28 [AV.agg [vs a0, .sl ⟨true, 4⟩ 1 a1], vi a2]) = midrangeref03_isSame.e n  (fun p => K (vb p)) a0 a1 a2 := by kernel_rfl
noncomputable def midrangeref03_isSame.F (n : Nat) (a0 : ByteArray) (a1 : List AV) (a2 : Int) : Option (Bool) := midrangeref03_isSame.e n  Option.some a0 a1 a2
noncomputable def midrangeref03_isSame.dec (x : AV) : Option (Bool) := match x with | .v (.bool p0) => Option.some p0 | _ => none
theorem midrangeref03_isSame.dec_inv {p : Bool} (y : AV) (h : midrangeref03_isSame.dec y = some p) : y = vb p := by
  unfold midrangeref03_isSame.dec at h
  split at h
  · cases h; rfl
  · cases h
theorem midrangeref03_isSame.hands (n : Nat) (a0 : ByteArray) (a1 : List AV) (a2 : Int) {p : Bool} (h : midrangeref03_isSame.F n a0 a1 a2 = some p) : HandsIn Tryz.prog 28 [AV.agg [vs a0, .sl ⟨true, 4⟩ 1 a1], vi a2] (vb p) := by
  refine hands_of cfg mixed (fun _ => rfl) rfl (midrangeref03_isSame.tells n) (fn := Tryz.f28) Tryz.func28 (by kernel_rfl) (by kernel_rfl) (cut := midrangeref03_isSame.cut) (K := midrangeref03_isSame.dec) (r := p) (n := n) midrangeref03_isSame.dec_inv ?_
  rw [funK_getD (by kernel_rfl)]
  have h1 := midrangeref03_isSame.e_eq n (runK G (midrangeref03_isSame.C n) midrangeref03_isSame.cut (fun S => finK G Tryz.f28.resultTypes.toList Tryz.f28.results.toList S midrangeref03_isSame.dec) n) midrangeref03_isSame.dec a0 a1 a2
  exact h1.trans h
noncomputable def midrangeref03_isSame.via {R : Type} (n : Nat) (xs : List AV) : (AV → Option R) → Option R := match xs with | [.agg [.v (.string a0), .sl ⟨true, 4⟩ 1 a1], .v (.int .i64 a2)] => fun K => (midrangeref03_isSame.F n a0 a1 a2).bind fun p => K (vb p) | _ => fun _ => none
noncomputable def midrangeref03_isSame.is (xs : List AV) : Bool := match xs with | [.agg [.v (.string _), .sl ⟨true, 4⟩ 1 _], .v (.int .i64 _)] => true | _ => false
theorem midrangeref03_isSame.tells1 {R : Type} (n : Nat) (xs : List AV) : Tells1 (R := R) Tryz.prog 28 xs (midrangeref03_isSame.via n xs) := by
  unfold midrangeref03_isSame.via
  split
  · exact Tells1.of (fun p hp => (midrangeref03_isSame.hands n _ _ _ hp).hands rfl)
  · exact Tells1.none
end Go.Proofs.YtgmpnhfnkhohiaaGreatDoor.Ev

/- midrange/midrangeref03.hex, out of its evaluation. Printed by the session's own program. -/
namespace Go.Proofs.YtgmpnhfnkhohiaaGreatDoor.Ev
open Go Go.Proofs Go.Proofs.Ev
set_option linter.unusedVariables false
set_option maxRecDepth 100000
/-! midrange/midrangeref03.hex: function 52 -/
noncomputable def midrangeref03_hex.r3 {R : Type} (n : Nat) (c3 : ByteArray → Int → List AV → Option R) (k : ByteArray → Option R) (z1 : ByteArray) (z2 : Int) (z3 : List AV) : Option R :=
  let y1 : Bool := decide (z2 < ((z1.size : Nat) : Int))
  bif y1 then (bif decide ((0 : Int) ≤ z2) && decide (z2 < ((z1.size : Nat) : Int)) then (let y2 : Int := (((z1.data.getD ((z2).toNat) 0).toNat : Nat) : Int)
  let y3 : Int := IntKind.u8.wrap (Int.tdiv y2 16)
  bif decide ((0 : Int) ≤ y3) && decide (y3 < ((16 : Nat) : Int)) then (let y4 : Int := ((((⟨#[48, 49, 50, 51, 52, 53, 54, 55, 56, 57, 65, 66, 67, 68, 69, 70]⟩ : ByteArray).data.getD ((y3).toNat) 0).toNat : Nat) : Int)
  bif decide ((0 : Int) ≤ z2) && decide (z2 < ((z1.size : Nat) : Int)) then (let y5 : Int := (((z1.data.getD ((z2).toNat) 0).toNat : Nat) : Int)
  bif decide ((0 : Int) ≤ Int.tmod y5 16) && decide (Int.tmod y5 16 < ((16 : Nat) : Int)) then (let y6 : Int := ((((⟨#[48, 49, 50, 51, 52, 53, 54, 55, 56, 57, 65, 66, 67, 68, 69, 70]⟩ : ByteArray).data.getD ((Int.tmod y5 16).toNat) 0).toNat : Nat) : Int)
  bif decide (z3.length + [vu y4, vu y6].length ≤ most) then (c3 z1 (IntKind.i64.wrap (z2 + 1)) (z3 ++ [vu y4, vu y6])) else none) else none) else none) else none) else none) else (withSome (strOf z3) fun bs7 =>
  k (⟨bs7.toArray⟩ : ByteArray))
noncomputable def midrangeref03_hex.e {R : Type} (n : Nat) (c3 : ByteArray → Int → List AV → Option R) (k : ByteArray → Option R) (a0 : ByteArray) : Option R :=
  c3 a0 0 []
noncomputable def midrangeref03_hex.C {R : Type} (n : Nat) (f : FuncId) (xs : List AV) : (AV → Option R) → Option R :=
  fun _ => none
theorem midrangeref03_hex.tells {R : Type} (n : Nat) : Tells (R := R) Tryz.prog (midrangeref03_hex.C n) := fun _ xs => Tells1.none
noncomputable def midrangeref03_hex.cut (r : Nat) : Option Keep := match r with | 3 => Option.some ⟨[0, 3, 4], [(3, none, ⟨true, 5⟩, 1)]⟩ | _ => none
noncomputable def midrangeref03_hex.t3 : List Item := (todoOf 3 1000 [.code (Tryz.f52.body.getD .skip)]).getD []
noncomputable def midrangeref03_hex.s3 (z1 : ByteArray) (z2 : Int) (z3 : List AV) : St := ⟨[vs z1, .undef, .undef, .own 0 0 none, vi z2, .undef, .undef, .undef, .undef, .undef, .undef, .undef, .undef, .undef, .undef, .undef, .undef, .undef, .undef, .undef, .undef, .undef, .undef, .undef, .undef, .undef], Mem.ofList [.row ⟨true, 5⟩ 1 z3], 1⟩
theorem midrangeref03_hex.e_eq {R : Type} (n : Nat) (rec : List Item → St → Option R) (K : AV → Option R) (a0 : ByteArray) :
    goK G (midrangeref03_hex.C n) midrangeref03_hex.cut (fun S => finK G Tryz.f52.resultTypes.toList Tryz.f52.results.toList S K) rec 1000 [.code (Tryz.f52.body.getD .skip)] (Ev.start Tryz.f52 [vs a0]) = midrangeref03_hex.e n (fun z1 z2 z3 => rec midrangeref03_hex.t3 (midrangeref03_hex.s3 z1 z2 z3)) (fun p => K (vs p)) a0 := by kernel_rfl
theorem midrangeref03_hex.r3_eq {R : Type} (n : Nat) (rec : List Item → St → Option R) (K : AV → Option R) (z1 : ByteArray) (z2 : Int) (z3 : List AV) :
    atK G (midrangeref03_hex.C n) midrangeref03_hex.cut (fun S => finK G Tryz.f52.resultTypes.toList Tryz.f52.results.toList S K) rec midrangeref03_hex.t3 (midrangeref03_hex.s3 z1 z2 z3) = midrangeref03_hex.r3 n (fun z1 z2 z3 => rec midrangeref03_hex.t3 (midrangeref03_hex.s3 z1 z2 z3)) (fun p => K (vs p)) z1 z2 z3 := by kernel_rfl
noncomputable def midrangeref03_hex.l (n : Nat) : Nat → (ByteArray → Int → List AV → Option (ByteArray))
  | 0 => (fun _ _ _ => none)
  | m + 1 => midrangeref03_hex.r3 n (midrangeref03_hex.l n m) Option.some
noncomputable def midrangeref03_hex.F (n : Nat) (a0 : ByteArray) : Option (ByteArray) := midrangeref03_hex.e n (midrangeref03_hex.l n n) Option.some a0
noncomputable def midrangeref03_hex.dec (x : AV) : Option (ByteArray) := match x with | .v (.string p0) => Option.some p0 | _ => none
theorem midrangeref03_hex.dec_inv {p : ByteArray} (y : AV) (h : midrangeref03_hex.dec y = some p) : y = vs p := by
  unfold midrangeref03_hex.dec at h
  split at h
  · cases h; rfl
  · cases h
theorem midrangeref03_hex.l_eq (n m : Nat) : (∀ (z1 : ByteArray) (z2 : Int) (z3 : List AV), runK G (midrangeref03_hex.C n) midrangeref03_hex.cut (fun S => finK G Tryz.f52.resultTypes.toList Tryz.f52.results.toList S midrangeref03_hex.dec) m midrangeref03_hex.t3 (midrangeref03_hex.s3 z1 z2 z3) = (midrangeref03_hex.l n m) z1 z2 z3) := by
  induction m with
  | zero => exact fun z1 z2 z3 => rfl
  | succ m ih =>
    have h3 := ih
    have e3 : (fun (z1 : ByteArray) (z2 : Int) (z3 : List AV) => runK G (midrangeref03_hex.C n) midrangeref03_hex.cut (fun S => finK G Tryz.f52.resultTypes.toList Tryz.f52.results.toList S midrangeref03_hex.dec) m midrangeref03_hex.t3 (midrangeref03_hex.s3 z1 z2 z3)) = (midrangeref03_hex.l n m) := by funext z1 z2 z3; exact h3 z1 z2 z3
    have q3 : ∀ (z1 : ByteArray) (z2 : Int) (z3 : List AV), runK G (midrangeref03_hex.C n) midrangeref03_hex.cut (fun S => finK G Tryz.f52.resultTypes.toList Tryz.f52.results.toList S midrangeref03_hex.dec) (m + 1) midrangeref03_hex.t3 (midrangeref03_hex.s3 z1 z2 z3) = (midrangeref03_hex.l n (m + 1)) z1 z2 z3 := by
      intro z1 z2 z3
      rw [runK_succ]
      refine (midrangeref03_hex.r3_eq n _ midrangeref03_hex.dec z1 z2 z3).trans ?_
      rw [e3]
      rfl
    exact q3
theorem midrangeref03_hex.hands (n : Nat) (a0 : ByteArray) {p : ByteArray} (h : midrangeref03_hex.F n a0 = some p) : HandsIn Tryz.prog 52 [vs a0] (vs p) := by
  refine hands_of cfg mixed (fun _ => rfl) rfl (midrangeref03_hex.tells n) (fn := Tryz.f52) Tryz.func52 (by kernel_rfl) (by kernel_rfl) (cut := midrangeref03_hex.cut) (K := midrangeref03_hex.dec) (r := p) (n := n) midrangeref03_hex.dec_inv ?_
  rw [funK_getD (by kernel_rfl)]
  have h1 := midrangeref03_hex.e_eq n (runK G (midrangeref03_hex.C n) midrangeref03_hex.cut (fun S => finK G Tryz.f52.resultTypes.toList Tryz.f52.results.toList S midrangeref03_hex.dec) n) midrangeref03_hex.dec a0
  have hl := midrangeref03_hex.l_eq n n
  simp only [hl] at h1
  exact h1.trans h
noncomputable def midrangeref03_hex.via {R : Type} (n : Nat) (xs : List AV) : (AV → Option R) → Option R := match xs with | [.v (.string a0)] => fun K => (midrangeref03_hex.F n a0).bind fun p => K (vs p) | _ => fun _ => none
noncomputable def midrangeref03_hex.is (xs : List AV) : Bool := match xs with | [.v (.string _)] => true | _ => false
theorem midrangeref03_hex.tells1 {R : Type} (n : Nat) (xs : List AV) : Tells1 (R := R) Tryz.prog 52 xs (midrangeref03_hex.via n xs) := by
  unfold midrangeref03_hex.via
  split
  · exact Tells1.of (fun p hp => (midrangeref03_hex.hands n _ hp).hands rfl)
  · exact Tells1.none
end Go.Proofs.YtgmpnhfnkhohiaaGreatDoor.Ev

/- midrange/midrangeref03.line, out of its evaluation. Printed by the session's own program. -/
namespace Go.Proofs.YtgmpnhfnkhohiaaGreatDoor.Ev
open Go Go.Proofs Go.Proofs.Ev
set_option linter.unusedVariables false
set_option maxRecDepth 100000
/-! midrange/midrangeref03.line: function 29 -/
noncomputable def midrangeref03_line.r4 {R : Type} (n : Nat) (c4 : Int → ByteArray → ByteArray → Int → ByteArray → List AV → Option R) (k : ByteArray → Option R) (z1 : Int) (z2 : ByteArray) (z3 : ByteArray) (z4 : Int) (z5 : ByteArray) (z6 : List AV) : Option R :=
  bif decide (z4 < 4) then (let y5 : Int := IntKind.i64.wrap ((4 : Int) * z4)
  let y6 : Int := IntKind.i64.wrap ((4 : Int) * z4)
  bif decide ((0 : Int) ≤ IntKind.i64.wrap (y6 + 4)) && decide ((IntKind.i64.wrap (y6 + 4) : Int) ≤ ((z2.size : Nat) : Int)) then (bif decide ((0 : Int) ≤ y5) && decide ((y5 : Int) ≤ IntKind.i64.wrap (y6 + 4)) then (let y7 : ByteArray := z2.extract (y5).toNat (IntKind.i64.wrap (y6 + 4)).toNat
  (midrangeref03_hex.F n y7).bind fun p8 =>
  chk (decide (z3.size + p8.size ≤ 9223372036854775807)) (chk (decide ((z3 ++ p8).size + 1 ≤ 9223372036854775807)) (let y9 : ByteArray := (z3 ++ p8) ++ (⟨#[32]⟩ : ByteArray)
  c4 z1 z2 y9 (IntKind.i64.wrap (z4 + 1)) z5 z6))) else none) else none) else (bif decide ((0 : Int) ≤ z1) && decide (z1 < ((z6.length : Nat) : Int)) then (withCons ((z6.getD ((z1).toNat) .undef).cells) fun h10 r11 =>
  withBool h10 fun b12 =>
  bif b12 then (chk (decide (z3.size + 2 ≤ 9223372036854775807)) (let y13 : ByteArray := z3 ++ (⟨#[80, 10]⟩ : ByteArray)
  k y13)) else (chk (decide (z3.size + 2 ≤ 9223372036854775807)) (let y14 : ByteArray := z3 ++ (⟨#[45, 10]⟩ : ByteArray)
  k y14))) else none)
noncomputable def midrangeref03_line.e {R : Type} (n : Nat) (c4 : Int → ByteArray → ByteArray → Int → ByteArray → List AV → Option R) (k : ByteArray → Option R) (a0 : ByteArray) (a1 : List AV) (a2 : Int) : Option R :=
  (midrangeref03_quad.F n a0 a1 a2).bind fun p1 =>
  (midrangebase_BigBytes.F n (IntKind.i64.wrap (a2 * 16)) 3).bind fun p2 =>
  (midrangeref03_hex.F n p2).bind fun p3 =>
  chk (decide (p3.size + 2 ≤ 9223372036854775807)) (let y4 : ByteArray := p3 ++ (⟨#[58, 32]⟩ : ByteArray)
  c4 a2 p1 y4 0 a0 a1)
noncomputable def midrangeref03_line.C {R : Type} (n : Nat) (f : FuncId) (xs : List AV) : (AV → Option R) → Option R :=
  bif Nat.beq f 19 then midrangebase_BigBytes.via n xs else bif Nat.beq f 38 then midrangeref03_quad.via n xs else bif Nat.beq f 52 then midrangeref03_hex.via n xs else fun _ => none
theorem midrangeref03_line.tells {R : Type} (n : Nat) : Tells (R := R) Tryz.prog (midrangeref03_line.C n) := fun _ xs => tells_at (midrangebase_BigBytes.tells1 n xs) (tells_at (midrangeref03_quad.tells1 n xs) (tells_at (midrangeref03_hex.tells1 n xs) (Tells1.none)))
noncomputable def midrangeref03_line.cut (r : Nat) : Option Keep := match r with | 4 => Option.some ⟨[1, 2, 5, 6, 7], []⟩ | _ => none
noncomputable def midrangeref03_line.t4 : List Item := (todoOf 4 1000 [.code (Tryz.f29.body.getD .skip)]).getD []
noncomputable def midrangeref03_line.s4 (z1 : Int) (z2 : ByteArray) (z3 : ByteArray) (z4 : Int) (z5 : ByteArray) (z6 : List AV) : St := ⟨[.undef, vi z1, .ptr 0 0, .undef, .undef, vs z2, vs z3, vi z4, .undef, .undef, .undef, .undef, .undef, .undef, .undef, .undef, .undef, .undef, .undef, .undef, .undef, .undef, .undef, .undef, .undef, .undef, .undef, .undef, .undef, .undef, .undef, .undef, .undef, .undef, .undef, .undef, .undef, .undef, .undef, .undef], Mem.ofList [.box 24 [vs z5, .sl ⟨true, 4⟩ 1 z6]], 1⟩
theorem midrangeref03_line.e_eq {R : Type} (n : Nat) (rec : List Item → St → Option R) (K : AV → Option R) (a0 : ByteArray) (a1 : List AV) (a2 : Int) :
    goK G (midrangeref03_line.C n) midrangeref03_line.cut (fun S => finK G Tryz.f29.resultTypes.toList Tryz.f29.results.toList S K) rec 1000 [.code (Tryz.f29.body.getD .skip)] (Ev.start Tryz.f29 [AV.agg [vs a0, .sl ⟨true, 4⟩ 1 a1], vi a2]) = midrangeref03_line.e n (fun z1 z2 z3 z4 z5 z6 => rec midrangeref03_line.t4 (midrangeref03_line.s4 z1 z2 z3 z4 z5 z6)) (fun p => K (vs p)) a0 a1 a2 := by kernel_rfl
theorem midrangeref03_line.r4_eq {R : Type} (n : Nat) (rec : List Item → St → Option R) (K : AV → Option R) (z1 : Int) (z2 : ByteArray) (z3 : ByteArray) (z4 : Int) (z5 : ByteArray) (z6 : List AV) :
    atK G (midrangeref03_line.C n) midrangeref03_line.cut (fun S => finK G Tryz.f29.resultTypes.toList Tryz.f29.results.toList S K) rec midrangeref03_line.t4 (midrangeref03_line.s4 z1 z2 z3 z4 z5 z6) = midrangeref03_line.r4 n (fun z1 z2 z3 z4 z5 z6 => rec midrangeref03_line.t4 (midrangeref03_line.s4 z1 z2 z3 z4 z5 z6)) (fun p => K (vs p)) z1 z2 z3 z4 z5 z6 := by kernel_rfl
noncomputable def midrangeref03_line.l (n : Nat) : Nat → (Int → ByteArray → ByteArray → Int → ByteArray → List AV → Option (ByteArray))
  | 0 => (fun _ _ _ _ _ _ => none)
  | m + 1 => midrangeref03_line.r4 n (midrangeref03_line.l n m) Option.some
noncomputable def midrangeref03_line.F (n : Nat) (a0 : ByteArray) (a1 : List AV) (a2 : Int) : Option (ByteArray) := midrangeref03_line.e n (midrangeref03_line.l n n) Option.some a0 a1 a2
noncomputable def midrangeref03_line.dec (x : AV) : Option (ByteArray) := match x with | .v (.string p0) => Option.some p0 | _ => none
theorem midrangeref03_line.dec_inv {p : ByteArray} (y : AV) (h : midrangeref03_line.dec y = some p) : y = vs p := by
  unfold midrangeref03_line.dec at h
  split at h
  · cases h; rfl
  · cases h
theorem midrangeref03_line.l_eq (n m : Nat) : (∀ (z1 : Int) (z2 : ByteArray) (z3 : ByteArray) (z4 : Int) (z5 : ByteArray) (z6 : List AV), runK G (midrangeref03_line.C n) midrangeref03_line.cut (fun S => finK G Tryz.f29.resultTypes.toList Tryz.f29.results.toList S midrangeref03_line.dec) m midrangeref03_line.t4 (midrangeref03_line.s4 z1 z2 z3 z4 z5 z6) = (midrangeref03_line.l n m) z1 z2 z3 z4 z5 z6) := by
  induction m with
  | zero => exact fun z1 z2 z3 z4 z5 z6 => rfl
  | succ m ih =>
    have h4 := ih
    have e4 : (fun (z1 : Int) (z2 : ByteArray) (z3 : ByteArray) (z4 : Int) (z5 : ByteArray) (z6 : List AV) => runK G (midrangeref03_line.C n) midrangeref03_line.cut (fun S => finK G Tryz.f29.resultTypes.toList Tryz.f29.results.toList S midrangeref03_line.dec) m midrangeref03_line.t4 (midrangeref03_line.s4 z1 z2 z3 z4 z5 z6)) = (midrangeref03_line.l n m) := by funext z1 z2 z3 z4 z5 z6; exact h4 z1 z2 z3 z4 z5 z6
    have q4 : ∀ (z1 : Int) (z2 : ByteArray) (z3 : ByteArray) (z4 : Int) (z5 : ByteArray) (z6 : List AV), runK G (midrangeref03_line.C n) midrangeref03_line.cut (fun S => finK G Tryz.f29.resultTypes.toList Tryz.f29.results.toList S midrangeref03_line.dec) (m + 1) midrangeref03_line.t4 (midrangeref03_line.s4 z1 z2 z3 z4 z5 z6) = (midrangeref03_line.l n (m + 1)) z1 z2 z3 z4 z5 z6 := by
      intro z1 z2 z3 z4 z5 z6
      rw [runK_succ]
      refine (midrangeref03_line.r4_eq n _ midrangeref03_line.dec z1 z2 z3 z4 z5 z6).trans ?_
      rw [e4]
      rfl
    exact q4
theorem midrangeref03_line.hands (n : Nat) (a0 : ByteArray) (a1 : List AV) (a2 : Int) {p : ByteArray} (h : midrangeref03_line.F n a0 a1 a2 = some p) : HandsIn Tryz.prog 29 [AV.agg [vs a0, .sl ⟨true, 4⟩ 1 a1], vi a2] (vs p) := by
  refine hands_of cfg mixed (fun _ => rfl) rfl (midrangeref03_line.tells n) (fn := Tryz.f29) Tryz.func29 (by kernel_rfl) (by kernel_rfl) (cut := midrangeref03_line.cut) (K := midrangeref03_line.dec) (r := p) (n := n) midrangeref03_line.dec_inv ?_
  rw [funK_getD (by kernel_rfl)]
  have h1 := midrangeref03_line.e_eq n (runK G (midrangeref03_line.C n) midrangeref03_line.cut (fun S => finK G Tryz.f29.resultTypes.toList Tryz.f29.results.toList S midrangeref03_line.dec) n) midrangeref03_line.dec a0 a1 a2
  have hl := midrangeref03_line.l_eq n n
  simp only [hl] at h1
  exact h1.trans h
noncomputable def midrangeref03_line.via {R : Type} (n : Nat) (xs : List AV) : (AV → Option R) → Option R := match xs with | [.agg [.v (.string a0), .sl ⟨true, 4⟩ 1 a1], .v (.int .i64 a2)] => fun K => (midrangeref03_line.F n a0 a1 a2).bind fun p => K (vs p) | _ => fun _ => none
noncomputable def midrangeref03_line.is (xs : List AV) : Bool := match xs with | [.agg [.v (.string _), .sl ⟨true, 4⟩ 1 _], .v (.int .i64 _)] => true | _ => false
theorem midrangeref03_line.tells1 {R : Type} (n : Nat) (xs : List AV) : Tells1 (R := R) Tryz.prog 29 xs (midrangeref03_line.via n xs) := by
  unfold midrangeref03_line.via
  split
  · exact Tells1.of (fun p hp => (midrangeref03_line.hands n _ _ _ hp).hands rfl)
  · exact Tells1.none
end Go.Proofs.YtgmpnhfnkhohiaaGreatDoor.Ev

/- midrange/midrangebase.Digits, out of its evaluation. Printed by the session's own program. -/
namespace Go.Proofs.YtgmpnhfnkhohiaaGreatDoor.Ev
open Go Go.Proofs Go.Proofs.Ev
set_option linter.unusedVariables false
set_option maxRecDepth 100000
/-! midrange/midrangebase.Digits: function 30 -/
noncomputable def midrangebase_Digits.e {R : Type} (n : Nat) (Y : Int → Option (ByteArray))  (k : ByteArray → Option R) (a0 : Int) : Option R :=
  bif decide (a0 < (-9)) then (let y1 : Int := IntKind.i64.wrap (Int.tdiv a0 10)
  (Y (IntKind.i64.wrap (0 - y1))).bind fun p2 =>
  chk (decide (1 + p2.size ≤ 9223372036854775807)) ((Y (IntKind.i64.wrap (0 - (Int.tmod a0 10)))).bind fun p3 =>
  chk (decide (((⟨#[45]⟩ : ByteArray) ++ p2).size + p3.size ≤ 9223372036854775807)) (let y4 : ByteArray := ((⟨#[45]⟩ : ByteArray) ++ p2) ++ p3
  k y4))) else (bif decide (a0 < 0) then ((Y (IntKind.i64.wrap (0 - a0))).bind fun p5 =>
  chk (decide (1 + p5.size ≤ 9223372036854775807)) (k ((⟨#[45]⟩ : ByteArray) ++ p5))) else (bif decide (a0 < 10) then (let y6 : Int := IntKind.i64.wrap ((48 : Int) + a0)
  withSome (strOf [vu (IntKind.u8.wrap y6)]) fun bs7 =>
  k (⟨bs7.toArray⟩ : ByteArray)) else (let y8 : Int := IntKind.i64.wrap (Int.tdiv a0 10)
  (Y y8).bind fun p9 =>
  let y10 : Int := IntKind.i64.wrap ((48 : Int) + (Int.tmod a0 10))
  withSome (strOf [vu (IntKind.u8.wrap y10)]) fun bs11 =>
  chk (decide (p9.size + (⟨bs11.toArray⟩ : ByteArray).size ≤ 9223372036854775807)) (let y12 : ByteArray := p9 ++ (⟨bs11.toArray⟩ : ByteArray)
  k y12))))
noncomputable def midrangebase_Digits.via0 {R : Type} (Y : Int → Option (ByteArray)) (xs : List AV) : (AV → Option R) → Option R := match xs with | [.v (.int .i64 a0)] => fun K => (Y a0).bind fun p => K (vs p) | _ => fun _ => none
theorem midrangebase_Digits.tells0 {R : Type} (Y : Int → Option (ByteArray)) (hY : ∀ (a0 : Int) (p : ByteArray), Y a0 = some p → HandsIn Tryz.prog 30 [vi a0] (vs p)) (xs : List AV) : Tells1 (R := R) Tryz.prog 30 xs (midrangebase_Digits.via0 Y xs) := by
  unfold midrangebase_Digits.via0
  split
  · exact Tells1.of (fun p hp => (hY _ p hp).hands rfl)
  · exact Tells1.none
noncomputable def midrangebase_Digits.C {R : Type} (n : Nat) (Y : Int → Option (ByteArray)) (f : FuncId) (xs : List AV) : (AV → Option R) → Option R :=
  bif Nat.beq f 30 then midrangebase_Digits.via0 Y xs else fun _ => none
theorem midrangebase_Digits.tells {R : Type} (n : Nat) (Y : Int → Option (ByteArray)) (hY : ∀ (a0 : Int) (p : ByteArray), Y a0 = some p → HandsIn Tryz.prog 30 [vi a0] (vs p)) : Tells (R := R) Tryz.prog (midrangebase_Digits.C n Y) := fun _ xs => tells_at (midrangebase_Digits.tells0 Y hY xs) (Tells1.none)
noncomputable def midrangebase_Digits.cut (r : Nat) : Option Keep := match r with  | _ => none
theorem midrangebase_Digits.e_eq {R : Type} (n : Nat) (Y : Int → Option (ByteArray)) (rec : List Item → St → Option R) (K : AV → Option R) (a0 : Int) :
    goK G (midrangebase_Digits.C n Y) midrangebase_Digits.cut (fun S => finK G Tryz.f30.resultTypes.toList Tryz.f30.results.toList S K) rec 1000 [.code (Tryz.f30.body.getD .skip)] (Ev.start Tryz.f30 [vi a0]) = midrangebase_Digits.e n Y  (fun p => K (vs p)) a0 := by kernel_rfl
noncomputable def midrangebase_Digits.D (n : Nat) : Nat → Int → Option (ByteArray)
  | 0, _ => none
  | d + 1, a0 => midrangebase_Digits.e n (midrangebase_Digits.D n d)  Option.some a0
noncomputable def midrangebase_Digits.F (n : Nat) (a0 : Int) : Option (ByteArray) := midrangebase_Digits.D n n a0
noncomputable def midrangebase_Digits.dec (x : AV) : Option (ByteArray) := match x with | .v (.string p0) => Option.some p0 | _ => none
theorem midrangebase_Digits.dec_inv {p : ByteArray} (y : AV) (h : midrangebase_Digits.dec y = some p) : y = vs p := by
  unfold midrangebase_Digits.dec at h
  split at h
  · cases h; rfl
  · cases h
theorem midrangebase_Digits.handsD (n : Nat) (d : Nat) : ∀ (a0 : Int) (p : ByteArray), midrangebase_Digits.D n d a0 = some p → HandsIn Tryz.prog 30 [vi a0] (vs p) := by
  induction d with
  | zero => intro a0 p h; cases h
  | succ d ih =>
   intro a0 p h
   refine hands_of cfg mixed (fun _ => rfl) rfl (midrangebase_Digits.tells n (midrangebase_Digits.D n d) ih) (fn := Tryz.f30) Tryz.func30 (by kernel_rfl) (by kernel_rfl) (cut := midrangebase_Digits.cut) (K := midrangebase_Digits.dec) (r := p) (n := n) midrangebase_Digits.dec_inv ?_
   rw [funK_getD (by kernel_rfl)]
   have h1 := midrangebase_Digits.e_eq n (midrangebase_Digits.D n d) (runK G (midrangebase_Digits.C n (midrangebase_Digits.D n d)) midrangebase_Digits.cut (fun S => finK G Tryz.f30.resultTypes.toList Tryz.f30.results.toList S midrangebase_Digits.dec) n) midrangebase_Digits.dec a0
   exact h1.trans h
theorem midrangebase_Digits.hands (n : Nat) (a0 : Int) {p : ByteArray} (h : midrangebase_Digits.F n a0 = some p) : HandsIn Tryz.prog 30 [vi a0] (vs p) := midrangebase_Digits.handsD n n a0 p h
noncomputable def midrangebase_Digits.via {R : Type} (n : Nat) (xs : List AV) : (AV → Option R) → Option R := match xs with | [.v (.int .i64 a0)] => fun K => (midrangebase_Digits.F n a0).bind fun p => K (vs p) | _ => fun _ => none
noncomputable def midrangebase_Digits.is (xs : List AV) : Bool := match xs with | [.v (.int .i64 _)] => true | _ => false
theorem midrangebase_Digits.tells1 {R : Type} (n : Nat) (xs : List AV) : Tells1 (R := R) Tryz.prog 30 xs (midrangebase_Digits.via n xs) := by
  unfold midrangebase_Digits.via
  split
  · exact Tells1.of (fun p hp => (midrangebase_Digits.hands n _ hp).hands rfl)
  · exact Tells1.none
end Go.Proofs.YtgmpnhfnkhohiaaGreatDoor.Ev

/- midrange/midrangeref03.Dump, out of its evaluation. Printed by the session's own program. -/
namespace Go.Proofs.YtgmpnhfnkhohiaaGreatDoor.Ev
open Go Go.Proofs Go.Proofs.Ev
set_option linter.unusedVariables false
set_option maxRecDepth 100000
/-! midrange/midrangeref03.Dump: function 10 -/
noncomputable def midrangeref03_Dump.r3 {R : Type} (n : Nat) (c3 : ByteArray → Int → ByteArray → List AV → Option R) (c4 : ByteArray → Int → ByteArray → List AV → Option R) (c8 : ByteArray → Int → Int → ByteArray → List AV → Option R) (k : ByteArray → Option R) (z1 : ByteArray) (z2 : Int) (z3 : ByteArray) (z4 : List AV) : Option R :=
  let y1 : Bool := decide (z2 < ((z4.length : Nat) : Int))
  bif y1 then ((midrangeref03_isSame.F n z3 z4 z2).bind fun p2 =>
  bif !p2 then ((midrangeref03_line.F n z3 z4 z2).bind fun p3 =>
  chk (decide (z1.size + p3.size ≤ 9223372036854775807)) (c4 (z1 ++ p3) z2 z3 z4)) else (c8 z1 z2 1 z3 z4)) else (k z1)
noncomputable def midrangeref03_Dump.r4 {R : Type} (n : Nat) (c3 : ByteArray → Int → ByteArray → List AV → Option R) (c4 : ByteArray → Int → ByteArray → List AV → Option R) (c8 : ByteArray → Int → Int → ByteArray → List AV → Option R) (k : ByteArray → Option R) (z1 : ByteArray) (z2 : Int) (z3 : ByteArray) (z4 : List AV) : Option R :=
  c3 z1 (IntKind.i64.wrap (z2 + 1)) z3 z4
noncomputable def midrangeref03_Dump.r8 {R : Type} (n : Nat) (c3 : ByteArray → Int → ByteArray → List AV → Option R) (c4 : ByteArray → Int → ByteArray → List AV → Option R) (c8 : ByteArray → Int → Int → ByteArray → List AV → Option R) (k : ByteArray → Option R) (z1 : ByteArray) (z2 : Int) (z3 : Int) (z4 : ByteArray) (z5 : List AV) : Option R :=
  let y4 : Bool := decide ((IntKind.i64.wrap (z2 + z3)) < ((z5.length : Nat) : Int))
  bif y4 then ((midrangeref03_isSame.F n z4 z5 (IntKind.i64.wrap (z2 + z3))).bind fun p5 =>
  bif p5 then (c8 z1 z2 (IntKind.i64.wrap (z3 + 1)) z4 z5) else (chk (decide (z1.size + 1 ≤ 9223372036854775807)) ((midrangebase_Digits.F n z3).bind fun p6 =>
  chk (decide ((z1 ++ (⟨#[42]⟩ : ByteArray)).size + p6.size ≤ 9223372036854775807)) (let y7 : ByteArray := (z1 ++ (⟨#[42]⟩ : ByteArray)) ++ p6
  chk (decide (y7.size + 1 ≤ 9223372036854775807)) (let y8 : Int := IntKind.i64.wrap ((IntKind.i64.wrap (z2 + z3)) - 1)
  c4 (y7 ++ (⟨#[10]⟩ : ByteArray)) y8 z4 z5))))) else (chk (decide (z1.size + 1 ≤ 9223372036854775807)) ((midrangebase_Digits.F n z3).bind fun p9 =>
  chk (decide ((z1 ++ (⟨#[42]⟩ : ByteArray)).size + p9.size ≤ 9223372036854775807)) (let y10 : ByteArray := (z1 ++ (⟨#[42]⟩ : ByteArray)) ++ p9
  chk (decide (y10.size + 1 ≤ 9223372036854775807)) (let y11 : Int := IntKind.i64.wrap ((IntKind.i64.wrap (z2 + z3)) - 1)
  c4 (y10 ++ (⟨#[10]⟩ : ByteArray)) y11 z4 z5))))
noncomputable def midrangeref03_Dump.e {R : Type} (n : Nat) (c3 : ByteArray → Int → ByteArray → List AV → Option R) (c4 : ByteArray → Int → ByteArray → List AV → Option R) (c8 : ByteArray → Int → Int → ByteArray → List AV → Option R) (k : ByteArray → Option R) (a0 : ByteArray) (a1 : List AV) : Option R :=
  c3 (⟨#[]⟩ : ByteArray) 0 a0 a1
noncomputable def midrangeref03_Dump.C {R : Type} (n : Nat) (f : FuncId) (xs : List AV) : (AV → Option R) → Option R :=
  bif Nat.beq f 28 then midrangeref03_isSame.via n xs else bif Nat.beq f 29 then midrangeref03_line.via n xs else bif Nat.beq f 30 then midrangebase_Digits.via n xs else fun _ => none
theorem midrangeref03_Dump.tells {R : Type} (n : Nat) : Tells (R := R) Tryz.prog (midrangeref03_Dump.C n) := fun _ xs => tells_at (midrangeref03_isSame.tells1 n xs) (tells_at (midrangeref03_line.tells1 n xs) (tells_at (midrangebase_Digits.tells1 n xs) (Tells1.none)))
noncomputable def midrangeref03_Dump.cut (r : Nat) : Option Keep := match r with | 3 => Option.some ⟨[1, 3, 4], []⟩ | 4 => Option.some ⟨[1, 3, 4], []⟩ | 8 => Option.some ⟨[1, 3, 4, 5], []⟩ | _ => none
noncomputable def midrangeref03_Dump.t3 : List Item := (todoOf 3 1000 [.code (Tryz.f10.body.getD .skip)]).getD []
noncomputable def midrangeref03_Dump.s3 (z1 : ByteArray) (z2 : Int) (z3 : ByteArray) (z4 : List AV) : St := ⟨[.undef, .ptr 0 0, .undef, vs z1, vi z2, .undef, .undef, .undef, .undef, .undef, .undef, .undef, .undef, .undef, .undef, .undef, .undef, .undef, .undef, .undef, .undef, .undef, .undef, .undef, .undef, .undef, .undef, .undef, .undef, .undef, .undef, .undef, .undef, .undef, .undef, .undef, .undef, .undef, .undef, .undef, .undef, .undef, .undef, .undef, .undef, .undef, .undef, .undef, .undef], Mem.ofList [.box 24 [vs z3, .sl ⟨true, 4⟩ 1 z4]], 1⟩
noncomputable def midrangeref03_Dump.t4 : List Item := (todoOf 4 1000 [.code (Tryz.f10.body.getD .skip)]).getD []
noncomputable def midrangeref03_Dump.s4 (z1 : ByteArray) (z2 : Int) (z3 : ByteArray) (z4 : List AV) : St := ⟨[.undef, .ptr 0 0, .undef, vs z1, vi z2, .undef, .undef, .undef, .undef, .undef, .undef, .undef, .undef, .undef, .undef, .undef, .undef, .undef, .undef, .undef, .undef, .undef, .undef, .undef, .undef, .undef, .undef, .undef, .undef, .undef, .undef, .undef, .undef, .undef, .undef, .undef, .undef, .undef, .undef, .undef, .undef, .undef, .undef, .undef, .undef, .undef, .undef, .undef, .undef], Mem.ofList [.box 24 [vs z3, .sl ⟨true, 4⟩ 1 z4]], 1⟩
noncomputable def midrangeref03_Dump.t8 : List Item := (todoOf 8 1000 [.code (Tryz.f10.body.getD .skip)]).getD []
noncomputable def midrangeref03_Dump.s8 (z1 : ByteArray) (z2 : Int) (z3 : Int) (z4 : ByteArray) (z5 : List AV) : St := ⟨[.undef, .ptr 0 0, .undef, vs z1, vi z2, vi z3, .undef, .undef, .undef, .undef, .undef, .undef, .undef, .undef, .undef, .undef, .undef, .undef, .undef, .undef, .undef, .undef, .undef, .undef, .undef, .undef, .undef, .undef, .undef, .undef, .undef, .undef, .undef, .undef, .undef, .undef, .undef, .undef, .undef, .undef, .undef, .undef, .undef, .undef, .undef, .undef, .undef, .undef, .undef], Mem.ofList [.box 24 [vs z4, .sl ⟨true, 4⟩ 1 z5]], 1⟩
theorem midrangeref03_Dump.e_eq {R : Type} (n : Nat) (rec : List Item → St → Option R) (K : AV → Option R) (a0 : ByteArray) (a1 : List AV) :
    goK G (midrangeref03_Dump.C n) midrangeref03_Dump.cut (fun S => finK G Tryz.f10.resultTypes.toList Tryz.f10.results.toList S K) rec 1000 [.code (Tryz.f10.body.getD .skip)] (Ev.start Tryz.f10 [AV.agg [vs a0, .sl ⟨true, 4⟩ 1 a1]]) = midrangeref03_Dump.e n (fun z1 z2 z3 z4 => rec midrangeref03_Dump.t3 (midrangeref03_Dump.s3 z1 z2 z3 z4)) (fun z1 z2 z3 z4 => rec midrangeref03_Dump.t4 (midrangeref03_Dump.s4 z1 z2 z3 z4)) (fun z1 z2 z3 z4 z5 => rec midrangeref03_Dump.t8 (midrangeref03_Dump.s8 z1 z2 z3 z4 z5)) (fun p => K (vs p)) a0 a1 := by kernel_rfl
theorem midrangeref03_Dump.r3_eq {R : Type} (n : Nat) (rec : List Item → St → Option R) (K : AV → Option R) (z1 : ByteArray) (z2 : Int) (z3 : ByteArray) (z4 : List AV) :
    atK G (midrangeref03_Dump.C n) midrangeref03_Dump.cut (fun S => finK G Tryz.f10.resultTypes.toList Tryz.f10.results.toList S K) rec midrangeref03_Dump.t3 (midrangeref03_Dump.s3 z1 z2 z3 z4) = midrangeref03_Dump.r3 n (fun z1 z2 z3 z4 => rec midrangeref03_Dump.t3 (midrangeref03_Dump.s3 z1 z2 z3 z4)) (fun z1 z2 z3 z4 => rec midrangeref03_Dump.t4 (midrangeref03_Dump.s4 z1 z2 z3 z4)) (fun z1 z2 z3 z4 z5 => rec midrangeref03_Dump.t8 (midrangeref03_Dump.s8 z1 z2 z3 z4 z5)) (fun p => K (vs p)) z1 z2 z3 z4 := by kernel_rfl
theorem midrangeref03_Dump.r4_eq {R : Type} (n : Nat) (rec : List Item → St → Option R) (K : AV → Option R) (z1 : ByteArray) (z2 : Int) (z3 : ByteArray) (z4 : List AV) :
    atK G (midrangeref03_Dump.C n) midrangeref03_Dump.cut (fun S => finK G Tryz.f10.resultTypes.toList Tryz.f10.results.toList S K) rec midrangeref03_Dump.t4 (midrangeref03_Dump.s4 z1 z2 z3 z4) = midrangeref03_Dump.r4 n (fun z1 z2 z3 z4 => rec midrangeref03_Dump.t3 (midrangeref03_Dump.s3 z1 z2 z3 z4)) (fun z1 z2 z3 z4 => rec midrangeref03_Dump.t4 (midrangeref03_Dump.s4 z1 z2 z3 z4)) (fun z1 z2 z3 z4 z5 => rec midrangeref03_Dump.t8 (midrangeref03_Dump.s8 z1 z2 z3 z4 z5)) (fun p => K (vs p)) z1 z2 z3 z4 := by kernel_rfl
theorem midrangeref03_Dump.r8_eq {R : Type} (n : Nat) (rec : List Item → St → Option R) (K : AV → Option R) (z1 : ByteArray) (z2 : Int) (z3 : Int) (z4 : ByteArray) (z5 : List AV) :
    atK G (midrangeref03_Dump.C n) midrangeref03_Dump.cut (fun S => finK G Tryz.f10.resultTypes.toList Tryz.f10.results.toList S K) rec midrangeref03_Dump.t8 (midrangeref03_Dump.s8 z1 z2 z3 z4 z5) = midrangeref03_Dump.r8 n (fun z1 z2 z3 z4 => rec midrangeref03_Dump.t3 (midrangeref03_Dump.s3 z1 z2 z3 z4)) (fun z1 z2 z3 z4 => rec midrangeref03_Dump.t4 (midrangeref03_Dump.s4 z1 z2 z3 z4)) (fun z1 z2 z3 z4 z5 => rec midrangeref03_Dump.t8 (midrangeref03_Dump.s8 z1 z2 z3 z4 z5)) (fun p => K (vs p)) z1 z2 z3 z4 z5 := by kernel_rfl
noncomputable def midrangeref03_Dump.l (n : Nat) : Nat → (ByteArray → Int → ByteArray → List AV → Option (ByteArray)) × (ByteArray → Int → ByteArray → List AV → Option (ByteArray)) × (ByteArray → Int → Int → ByteArray → List AV → Option (ByteArray))
  | 0 => ((fun _ _ _ _ => none), (fun _ _ _ _ => none), (fun _ _ _ _ _ => none))
  | m + 1 => (midrangeref03_Dump.r3 n ((midrangeref03_Dump.l n m).1) ((midrangeref03_Dump.l n m).2.1) ((midrangeref03_Dump.l n m).2.2) Option.some, midrangeref03_Dump.r4 n ((midrangeref03_Dump.l n m).1) ((midrangeref03_Dump.l n m).2.1) ((midrangeref03_Dump.l n m).2.2) Option.some, midrangeref03_Dump.r8 n ((midrangeref03_Dump.l n m).1) ((midrangeref03_Dump.l n m).2.1) ((midrangeref03_Dump.l n m).2.2) Option.some)
noncomputable def midrangeref03_Dump.F (n : Nat) (a0 : ByteArray) (a1 : List AV) : Option (ByteArray) := midrangeref03_Dump.e n ((midrangeref03_Dump.l n n).1) ((midrangeref03_Dump.l n n).2.1) ((midrangeref03_Dump.l n n).2.2) Option.some a0 a1
noncomputable def midrangeref03_Dump.dec (x : AV) : Option (ByteArray) := match x with | .v (.string p0) => Option.some p0 | _ => none
theorem midrangeref03_Dump.dec_inv {p : ByteArray} (y : AV) (h : midrangeref03_Dump.dec y = some p) : y = vs p := by
  unfold midrangeref03_Dump.dec at h
  split at h
  · cases h; rfl
  · cases h
theorem midrangeref03_Dump.l_eq (n m : Nat) : (∀ (z1 : ByteArray) (z2 : Int) (z3 : ByteArray) (z4 : List AV), runK G (midrangeref03_Dump.C n) midrangeref03_Dump.cut (fun S => finK G Tryz.f10.resultTypes.toList Tryz.f10.results.toList S midrangeref03_Dump.dec) m midrangeref03_Dump.t3 (midrangeref03_Dump.s3 z1 z2 z3 z4) = ((midrangeref03_Dump.l n m).1) z1 z2 z3 z4) ∧ (∀ (z1 : ByteArray) (z2 : Int) (z3 : ByteArray) (z4 : List AV), runK G (midrangeref03_Dump.C n) midrangeref03_Dump.cut (fun S => finK G Tryz.f10.resultTypes.toList Tryz.f10.results.toList S midrangeref03_Dump.dec) m midrangeref03_Dump.t4 (midrangeref03_Dump.s4 z1 z2 z3 z4) = ((midrangeref03_Dump.l n m).2.1) z1 z2 z3 z4) ∧ (∀ (z1 : ByteArray) (z2 : Int) (z3 : Int) (z4 : ByteArray) (z5 : List AV), runK G (midrangeref03_Dump.C n) midrangeref03_Dump.cut (fun S => finK G Tryz.f10.resultTypes.toList Tryz.f10.results.toList S midrangeref03_Dump.dec) m midrangeref03_Dump.t8 (midrangeref03_Dump.s8 z1 z2 z3 z4 z5) = ((midrangeref03_Dump.l n m).2.2) z1 z2 z3 z4 z5) := by
  induction m with
  | zero => exact ⟨fun z1 z2 z3 z4 => rfl, fun z1 z2 z3 z4 => rfl, fun z1 z2 z3 z4 z5 => rfl⟩
  | succ m ih =>
    obtain ⟨h3, h4, h8⟩ := ih
    have e3 : (fun (z1 : ByteArray) (z2 : Int) (z3 : ByteArray) (z4 : List AV) => runK G (midrangeref03_Dump.C n) midrangeref03_Dump.cut (fun S => finK G Tryz.f10.resultTypes.toList Tryz.f10.results.toList S midrangeref03_Dump.dec) m midrangeref03_Dump.t3 (midrangeref03_Dump.s3 z1 z2 z3 z4)) = (midrangeref03_Dump.l n m).1 := by funext z1 z2 z3 z4; exact h3 z1 z2 z3 z4
    have e4 : (fun (z1 : ByteArray) (z2 : Int) (z3 : ByteArray) (z4 : List AV) => runK G (midrangeref03_Dump.C n) midrangeref03_Dump.cut (fun S => finK G Tryz.f10.resultTypes.toList Tryz.f10.results.toList S midrangeref03_Dump.dec) m midrangeref03_Dump.t4 (midrangeref03_Dump.s4 z1 z2 z3 z4)) = (midrangeref03_Dump.l n m).2.1 := by funext z1 z2 z3 z4; exact h4 z1 z2 z3 z4
    have e8 : (fun (z1 : ByteArray) (z2 : Int) (z3 : Int) (z4 : ByteArray) (z5 : List AV) => runK G (midrangeref03_Dump.C n) midrangeref03_Dump.cut (fun S => finK G Tryz.f10.resultTypes.toList Tryz.f10.results.toList S midrangeref03_Dump.dec) m midrangeref03_Dump.t8 (midrangeref03_Dump.s8 z1 z2 z3 z4 z5)) = (midrangeref03_Dump.l n m).2.2 := by funext z1 z2 z3 z4 z5; exact h8 z1 z2 z3 z4 z5
    have q3 : ∀ (z1 : ByteArray) (z2 : Int) (z3 : ByteArray) (z4 : List AV), runK G (midrangeref03_Dump.C n) midrangeref03_Dump.cut (fun S => finK G Tryz.f10.resultTypes.toList Tryz.f10.results.toList S midrangeref03_Dump.dec) (m + 1) midrangeref03_Dump.t3 (midrangeref03_Dump.s3 z1 z2 z3 z4) = ((midrangeref03_Dump.l n (m + 1)).1) z1 z2 z3 z4 := by
      intro z1 z2 z3 z4
      rw [runK_succ]
      refine (midrangeref03_Dump.r3_eq n _ midrangeref03_Dump.dec z1 z2 z3 z4).trans ?_
      rw [e3, e4, e8]
      rfl
    have q4 : ∀ (z1 : ByteArray) (z2 : Int) (z3 : ByteArray) (z4 : List AV), runK G (midrangeref03_Dump.C n) midrangeref03_Dump.cut (fun S => finK G Tryz.f10.resultTypes.toList Tryz.f10.results.toList S midrangeref03_Dump.dec) (m + 1) midrangeref03_Dump.t4 (midrangeref03_Dump.s4 z1 z2 z3 z4) = ((midrangeref03_Dump.l n (m + 1)).2.1) z1 z2 z3 z4 := by
      intro z1 z2 z3 z4
      rw [runK_succ]
      refine (midrangeref03_Dump.r4_eq n _ midrangeref03_Dump.dec z1 z2 z3 z4).trans ?_
      rw [e3, e4, e8]
      rfl
    have q8 : ∀ (z1 : ByteArray) (z2 : Int) (z3 : Int) (z4 : ByteArray) (z5 : List AV), runK G (midrangeref03_Dump.C n) midrangeref03_Dump.cut (fun S => finK G Tryz.f10.resultTypes.toList Tryz.f10.results.toList S midrangeref03_Dump.dec) (m + 1) midrangeref03_Dump.t8 (midrangeref03_Dump.s8 z1 z2 z3 z4 z5) = ((midrangeref03_Dump.l n (m + 1)).2.2) z1 z2 z3 z4 z5 := by
      intro z1 z2 z3 z4 z5
      rw [runK_succ]
      refine (midrangeref03_Dump.r8_eq n _ midrangeref03_Dump.dec z1 z2 z3 z4 z5).trans ?_
      rw [e3, e4, e8]
      rfl
    exact ⟨q3, q4, q8⟩
theorem midrangeref03_Dump.hands (n : Nat) (a0 : ByteArray) (a1 : List AV) {p : ByteArray} (h : midrangeref03_Dump.F n a0 a1 = some p) : HandsIn Tryz.prog 10 [AV.agg [vs a0, .sl ⟨true, 4⟩ 1 a1]] (vs p) := by
  refine hands_of cfg mixed (fun _ => rfl) rfl (midrangeref03_Dump.tells n) (fn := Tryz.f10) Tryz.func10 (by kernel_rfl) (by kernel_rfl) (cut := midrangeref03_Dump.cut) (K := midrangeref03_Dump.dec) (r := p) (n := n) midrangeref03_Dump.dec_inv ?_
  rw [funK_getD (by kernel_rfl)]
  have h1 := midrangeref03_Dump.e_eq n (runK G (midrangeref03_Dump.C n) midrangeref03_Dump.cut (fun S => finK G Tryz.f10.resultTypes.toList Tryz.f10.results.toList S midrangeref03_Dump.dec) n) midrangeref03_Dump.dec a0 a1
  have hl := midrangeref03_Dump.l_eq n n
  simp only [hl.1, hl.2.1, hl.2.2] at h1
  exact h1.trans h
noncomputable def midrangeref03_Dump.via {R : Type} (n : Nat) (xs : List AV) : (AV → Option R) → Option R := match xs with | [.agg [.v (.string a0), .sl ⟨true, 4⟩ 1 a1]] => fun K => (midrangeref03_Dump.F n a0 a1).bind fun p => K (vs p) | _ => fun _ => none
noncomputable def midrangeref03_Dump.is (xs : List AV) : Bool := match xs with | [.agg [.v (.string _), .sl ⟨true, 4⟩ 1 _]] => true | _ => false
theorem midrangeref03_Dump.tells1 {R : Type} (n : Nat) (xs : List AV) : Tells1 (R := R) Tryz.prog 10 xs (midrangeref03_Dump.via n xs) := by
  unfold midrangeref03_Dump.via
  split
  · exact Tells1.of (fun p hp => (midrangeref03_Dump.hands n _ _ hp).hands rfl)
  · exact Tells1.none
end Go.Proofs.YtgmpnhfnkhohiaaGreatDoor.Ev

/- strings.Cut, out of the library's contract. Printed by the session's own program. -/
namespace Go.Proofs.YtgmpnhfnkhohiaaGreatDoor.Ev
open Go Go.Proofs Go.Proofs.Ev
set_option linter.unusedVariables false
set_option maxRecDepth 100000
noncomputable def strings_Cut.F (n : Nat) (s : ByteArray) (t : ByteArray) : Option (ByteArray × ByteArray × Bool) := bif decide (s.size < 4294967281) then Option.some ((⟨(Lib.cut s.data.toList t.data.toList).1.toArray⟩, ⟨(Lib.cut s.data.toList t.data.toList).2.1.toArray⟩, (Lib.cut s.data.toList t.data.toList).2.2)) else none
theorem strings_Cut.hands (n : Nat) (s : ByteArray) (t : ByteArray) {p : ByteArray × ByteArray × Bool} (h : strings_Cut.F n s t = some p) : HandsIn Tryz.prog 31 [.v (.string s), .v (.string t)] (.tup [.v (.string p.1), .v (.string p.2.1), .v (.bool p.2.2)]) := by
  unfold strings_Cut.F at h
  cases hc : (decide (s.size < 4294967281)) with
  | false => rw [hc] at h; cases h
  | true =>
    rw [hc] at h
    cases h
    refine hands_calls (fn := Tryz.f31) Tryz.func31 (by kernel_rfl) (by kernel_rfl) fun w F vals hQ hF hl hr => ?_
    obtain ⟨u0, u1, rfl, h0, h1⟩ := vals2 hl hr
    obtain rfl := rel_v h0
    obtain rfl := rel_v h1
    refine (Tryz.strings_Cut_shaped s t w (Rooted.opened _ hQ) (of_decide_eq_true hc)).mono ?_
    rintro e w' ⟨rfl, n, rfl⟩
    exact ⟨F, fun _ => none, Came.of_below hF ⟨rfl, rfl, rfl, Nat.le_refl _, fun _ _ => rfl⟩, #[_, _, _], rfl, rfl, .v _ rfl, .v _ rfl, .v _ rfl, trivial⟩
noncomputable def strings_Cut.via {R : Type} (n : Nat) (ys : List AV) : (AV → Option R) → Option R := match ys with | [.v (.string s), .v (.string t)] => fun K => (strings_Cut.F n s t).bind fun p => K (.tup [.v (.string p.1), .v (.string p.2.1), .v (.bool p.2.2)]) | _ => fun _ => none
theorem strings_Cut.tells1 {R : Type} (n : Nat) (ys : List AV) : Tells1 (R := R) Tryz.prog 31 ys (strings_Cut.via n ys) := by
  unfold strings_Cut.via
  split
  · exact Tells1.of (fun p hp => (strings_Cut.hands n _ _ hp).hands rfl)
  · exact Tells1.none
end Go.Proofs.YtgmpnhfnkhohiaaGreatDoor.Ev

/- internal/stringslite.HasPrefix, out of its evaluation. Printed by the session's own program. -/
namespace Go.Proofs.YtgmpnhfnkhohiaaGreatDoor.Ev
open Go Go.Proofs Go.Proofs.Ev
set_option linter.unusedVariables false
set_option maxRecDepth 100000
/-! internal/stringslite.HasPrefix: function 81 -/
noncomputable def stringslite_HasPrefix.e {R : Type} (n : Nat)  (k : Bool → Option R) (a0 : ByteArray) (a1 : ByteArray) : Option R :=
  let y1 : Bool := decide (((a0.size : Nat) : Int) ≥ ((a1.size : Nat) : Int))
  bif y1 then (bif decide ((0 : Int) ≤ ((a1.size : Nat) : Int)) && decide ((((a1.size : Nat) : Int) : Int) ≤ ((a0.size : Nat) : Int)) then (let y2 : ByteArray := a0.extract 0 (((a1.size : Nat) : Int)).toNat
  k (y2.toList == a1.toList)) else none) else (k false)
noncomputable def stringslite_HasPrefix.C {R : Type} (n : Nat) (f : FuncId) (xs : List AV) : (AV → Option R) → Option R :=
  fun _ => none
theorem stringslite_HasPrefix.tells {R : Type} (n : Nat) : Tells (R := R) Tryz.prog (stringslite_HasPrefix.C n) := fun _ xs => Tells1.none
noncomputable def stringslite_HasPrefix.cut (r : Nat) : Option Keep := match r with  | _ => none
theorem stringslite_HasPrefix.e_eq {R : Type} (n : Nat) (rec : List Item → St → Option R) (K : AV → Option R) (a0 : ByteArray) (a1 : ByteArray) :
    goK G (stringslite_HasPrefix.C n) stringslite_HasPrefix.cut (fun S => finK G Tryz.f81.resultTypes.toList Tryz.f81.results.toList S K) rec 1000 [.code (Tryz.f81.body.getD .skip)] (Ev.start Tryz.f81 [vs a0, vs a1]) = stringslite_HasPrefix.e n  (fun p => K (vb p)) a0 a1 := by kernel_rfl
noncomputable def stringslite_HasPrefix.F (n : Nat) (a0 : ByteArray) (a1 : ByteArray) : Option (Bool) := stringslite_HasPrefix.e n  Option.some a0 a1
noncomputable def stringslite_HasPrefix.dec (x : AV) : Option (Bool) := match x with | .v (.bool p0) => Option.some p0 | _ => none
theorem stringslite_HasPrefix.dec_inv {p : Bool} (y : AV) (h : stringslite_HasPrefix.dec y = some p) : y = vb p := by
  unfold stringslite_HasPrefix.dec at h
  split at h
  · cases h; rfl
  · cases h
theorem stringslite_HasPrefix.hands (n : Nat) (a0 : ByteArray) (a1 : ByteArray) {p : Bool} (h : stringslite_HasPrefix.F n a0 a1 = some p) : HandsIn Tryz.prog 81 [vs a0, vs a1] (vb p) := by
  refine hands_of cfg mixed (fun _ => rfl) rfl (stringslite_HasPrefix.tells n) (fn := Tryz.f81) Tryz.func81 (by kernel_rfl) (by kernel_rfl) (cut := stringslite_HasPrefix.cut) (K := stringslite_HasPrefix.dec) (r := p) (n := n) stringslite_HasPrefix.dec_inv ?_
  rw [funK_getD (by kernel_rfl)]
  have h1 := stringslite_HasPrefix.e_eq n (runK G (stringslite_HasPrefix.C n) stringslite_HasPrefix.cut (fun S => finK G Tryz.f81.resultTypes.toList Tryz.f81.results.toList S stringslite_HasPrefix.dec) n) stringslite_HasPrefix.dec a0 a1
  exact h1.trans h
noncomputable def stringslite_HasPrefix.via {R : Type} (n : Nat) (xs : List AV) : (AV → Option R) → Option R := match xs with | [.v (.string a0), .v (.string a1)] => fun K => (stringslite_HasPrefix.F n a0 a1).bind fun p => K (vb p) | _ => fun _ => none
noncomputable def stringslite_HasPrefix.is (xs : List AV) : Bool := match xs with | [.v (.string _), .v (.string _)] => true | _ => false
theorem stringslite_HasPrefix.tells1 {R : Type} (n : Nat) (xs : List AV) : Tells1 (R := R) Tryz.prog 81 xs (stringslite_HasPrefix.via n xs) := by
  unfold stringslite_HasPrefix.via
  split
  · exact Tells1.of (fun p hp => (stringslite_HasPrefix.hands n _ _ hp).hands rfl)
  · exact Tells1.none
end Go.Proofs.YtgmpnhfnkhohiaaGreatDoor.Ev

/- internal/stringslite.CutPrefix, out of its evaluation. Printed by the session's own program. -/
namespace Go.Proofs.YtgmpnhfnkhohiaaGreatDoor.Ev
open Go Go.Proofs Go.Proofs.Ev
set_option linter.unusedVariables false
set_option maxRecDepth 100000
/-! internal/stringslite.CutPrefix: function 54 -/
noncomputable def stringslite_CutPrefix.e {R : Type} (n : Nat)  (k : ByteArray × Bool → Option R) (a0 : ByteArray) (a1 : ByteArray) : Option R :=
  (stringslite_HasPrefix.F n a0 a1).bind fun p1 =>
  bif !p1 then (k (a0, false)) else (bif decide ((0 : Int) ≤ ((a1.size : Nat) : Int)) && decide ((((a1.size : Nat) : Int) : Int) ≤ ((a0.size : Nat) : Int)) then (let y2 : ByteArray := a0.extract (((a1.size : Nat) : Int)).toNat a0.size
  k (y2, true)) else none)
noncomputable def stringslite_CutPrefix.C {R : Type} (n : Nat) (f : FuncId) (xs : List AV) : (AV → Option R) → Option R :=
  bif Nat.beq f 81 then stringslite_HasPrefix.via n xs else fun _ => none
theorem stringslite_CutPrefix.tells {R : Type} (n : Nat) : Tells (R := R) Tryz.prog (stringslite_CutPrefix.C n) := fun _ xs => tells_at (stringslite_HasPrefix.tells1 n xs) (Tells1.none)
noncomputable def stringslite_CutPrefix.cut (r : Nat) : Option Keep := match r with  | _ => none
theorem stringslite_CutPrefix.e_eq {R : Type} (n : Nat) (rec : List Item → St → Option R) (K : AV → Option R) (a0 : ByteArray) (a1 : ByteArray) :
    goK G (stringslite_CutPrefix.C n) stringslite_CutPrefix.cut (fun S => finK G Tryz.f54.resultTypes.toList Tryz.f54.results.toList S K) rec 1000 [.code (Tryz.f54.body.getD .skip)] (Ev.start Tryz.f54 [vs a0, vs a1]) = stringslite_CutPrefix.e n  (fun p => K (.tup [vs p.1, vb p.2])) a0 a1 := by kernel_rfl
noncomputable def stringslite_CutPrefix.F (n : Nat) (a0 : ByteArray) (a1 : ByteArray) : Option (ByteArray × Bool) := stringslite_CutPrefix.e n  Option.some a0 a1
noncomputable def stringslite_CutPrefix.dec (x : AV) : Option (ByteArray × Bool) := match x with | .tup [.v (.string p0), .v (.bool p1)] => Option.some (p0, p1) | _ => none
theorem stringslite_CutPrefix.dec_inv {p : ByteArray × Bool} (y : AV) (h : stringslite_CutPrefix.dec y = some p) : y = .tup [vs p.1, vb p.2] := by
  unfold stringslite_CutPrefix.dec at h
  split at h
  · cases h; rfl
  · cases h
theorem stringslite_CutPrefix.hands (n : Nat) (a0 : ByteArray) (a1 : ByteArray) {p : ByteArray × Bool} (h : stringslite_CutPrefix.F n a0 a1 = some p) : HandsIn Tryz.prog 54 [vs a0, vs a1] (.tup [vs p.1, vb p.2]) := by
  refine hands_of cfg mixed (fun _ => rfl) rfl (stringslite_CutPrefix.tells n) (fn := Tryz.f54) Tryz.func54 (by kernel_rfl) (by kernel_rfl) (cut := stringslite_CutPrefix.cut) (K := stringslite_CutPrefix.dec) (r := p) (n := n) stringslite_CutPrefix.dec_inv ?_
  rw [funK_getD (by kernel_rfl)]
  have h1 := stringslite_CutPrefix.e_eq n (runK G (stringslite_CutPrefix.C n) stringslite_CutPrefix.cut (fun S => finK G Tryz.f54.resultTypes.toList Tryz.f54.results.toList S stringslite_CutPrefix.dec) n) stringslite_CutPrefix.dec a0 a1
  exact h1.trans h
noncomputable def stringslite_CutPrefix.via {R : Type} (n : Nat) (xs : List AV) : (AV → Option R) → Option R := match xs with | [.v (.string a0), .v (.string a1)] => fun K => (stringslite_CutPrefix.F n a0 a1).bind fun p => K (.tup [vs p.1, vb p.2]) | _ => fun _ => none
noncomputable def stringslite_CutPrefix.is (xs : List AV) : Bool := match xs with | [.v (.string _), .v (.string _)] => true | _ => false
theorem stringslite_CutPrefix.tells1 {R : Type} (n : Nat) (xs : List AV) : Tells1 (R := R) Tryz.prog 54 xs (stringslite_CutPrefix.via n xs) := by
  unfold stringslite_CutPrefix.via
  split
  · exact Tells1.of (fun p hp => (stringslite_CutPrefix.hands n _ _ hp).hands rfl)
  · exact Tells1.none
end Go.Proofs.YtgmpnhfnkhohiaaGreatDoor.Ev

/- strings.CutPrefix, out of its evaluation. Printed by the session's own program. -/
namespace Go.Proofs.YtgmpnhfnkhohiaaGreatDoor.Ev
open Go Go.Proofs Go.Proofs.Ev
set_option linter.unusedVariables false
set_option maxRecDepth 100000
/-! strings.CutPrefix: function 32 -/
noncomputable def strings_CutPrefix.e {R : Type} (n : Nat)  (k : ByteArray × Bool → Option R) (a0 : ByteArray) (a1 : ByteArray) : Option R :=
  (stringslite_CutPrefix.F n a0 a1).bind fun p1 =>
  k (p1.1, p1.2)
noncomputable def strings_CutPrefix.C {R : Type} (n : Nat) (f : FuncId) (xs : List AV) : (AV → Option R) → Option R :=
  bif Nat.beq f 54 then stringslite_CutPrefix.via n xs else fun _ => none
theorem strings_CutPrefix.tells {R : Type} (n : Nat) : Tells (R := R) Tryz.prog (strings_CutPrefix.C n) := fun _ xs => tells_at (stringslite_CutPrefix.tells1 n xs) (Tells1.none)
noncomputable def strings_CutPrefix.cut (r : Nat) : Option Keep := match r with  | _ => none
theorem strings_CutPrefix.e_eq {R : Type} (n : Nat) (rec : List Item → St → Option R) (K : AV → Option R) (a0 : ByteArray) (a1 : ByteArray) :
    goK G (strings_CutPrefix.C n) strings_CutPrefix.cut (fun S => finK G Tryz.f32.resultTypes.toList Tryz.f32.results.toList S K) rec 1000 [.code (Tryz.f32.body.getD .skip)] (Ev.start Tryz.f32 [vs a0, vs a1]) = strings_CutPrefix.e n  (fun p => K (.tup [vs p.1, vb p.2])) a0 a1 := by kernel_rfl
noncomputable def strings_CutPrefix.F (n : Nat) (a0 : ByteArray) (a1 : ByteArray) : Option (ByteArray × Bool) := strings_CutPrefix.e n  Option.some a0 a1
noncomputable def strings_CutPrefix.dec (x : AV) : Option (ByteArray × Bool) := match x with | .tup [.v (.string p0), .v (.bool p1)] => Option.some (p0, p1) | _ => none
theorem strings_CutPrefix.dec_inv {p : ByteArray × Bool} (y : AV) (h : strings_CutPrefix.dec y = some p) : y = .tup [vs p.1, vb p.2] := by
  unfold strings_CutPrefix.dec at h
  split at h
  · cases h; rfl
  · cases h
theorem strings_CutPrefix.hands (n : Nat) (a0 : ByteArray) (a1 : ByteArray) {p : ByteArray × Bool} (h : strings_CutPrefix.F n a0 a1 = some p) : HandsIn Tryz.prog 32 [vs a0, vs a1] (.tup [vs p.1, vb p.2]) := by
  refine hands_of cfg mixed (fun _ => rfl) rfl (strings_CutPrefix.tells n) (fn := Tryz.f32) Tryz.func32 (by kernel_rfl) (by kernel_rfl) (cut := strings_CutPrefix.cut) (K := strings_CutPrefix.dec) (r := p) (n := n) strings_CutPrefix.dec_inv ?_
  rw [funK_getD (by kernel_rfl)]
  have h1 := strings_CutPrefix.e_eq n (runK G (strings_CutPrefix.C n) strings_CutPrefix.cut (fun S => finK G Tryz.f32.resultTypes.toList Tryz.f32.results.toList S strings_CutPrefix.dec) n) strings_CutPrefix.dec a0 a1
  exact h1.trans h
noncomputable def strings_CutPrefix.via {R : Type} (n : Nat) (xs : List AV) : (AV → Option R) → Option R := match xs with | [.v (.string a0), .v (.string a1)] => fun K => (strings_CutPrefix.F n a0 a1).bind fun p => K (.tup [vs p.1, vb p.2]) | _ => fun _ => none
noncomputable def strings_CutPrefix.is (xs : List AV) : Bool := match xs with | [.v (.string _), .v (.string _)] => true | _ => false
theorem strings_CutPrefix.tells1 {R : Type} (n : Nat) (xs : List AV) : Tells1 (R := R) Tryz.prog 32 xs (strings_CutPrefix.via n xs) := by
  unfold strings_CutPrefix.via
  split
  · exact Tells1.of (fun p hp => (strings_CutPrefix.hands n _ _ hp).hands rfl)
  · exact Tells1.none
end Go.Proofs.YtgmpnhfnkhohiaaGreatDoor.Ev

/- strconv.Atoi, out of the library's contract. Printed by the session's own program. -/
namespace Go.Proofs.YtgmpnhfnkhohiaaGreatDoor.Ev
open Go Go.Proofs Go.Proofs.Ev
set_option linter.unusedVariables false
set_option maxRecDepth 100000
noncomputable def strconv_Atoi.F (n : Nat) (s : ByteArray) : Option (Int × Bool) := bif decide (s.size ≤ 281474976710656) then Option.some (atoiR s.data.toList) else none
theorem strconv_Atoi.hands (n : Nat) (s : ByteArray) {p : Int × Bool} (h : strconv_Atoi.F n s = some p) : HandsIn Tryz.prog 33 [.v (.string s)] (.tup [.v (.int .i64 p.1), .err p.2]) := by
  unfold strconv_Atoi.F at h
  cases hc : (decide (s.size ≤ 281474976710656)) with
  | false => rw [hc] at h; cases h
  | true =>
    rw [hc] at h
    cases h
    refine hands_calls (fn := Tryz.f33) Tryz.func33 (by kernel_rfl) (by kernel_rfl) fun w F vals hQ hF hl hr => ?_
    obtain ⟨u0, rfl, h0⟩ := vals1 hl hr
    obtain rfl := rel_v h0
    exact atoi_calls Tryz.laysC172 hF s (of_decide_eq_true hc) (Sents.at hQ rfl) (Sents.at hQ rfl)
noncomputable def strconv_Atoi.via {R : Type} (n : Nat) (ys : List AV) : (AV → Option R) → Option R := match ys with | [.v (.string s)] => fun K => (strconv_Atoi.F n s).bind fun p => K (.tup [.v (.int .i64 p.1), .err p.2]) | _ => fun _ => none
theorem strconv_Atoi.tells1 {R : Type} (n : Nat) (ys : List AV) : Tells1 (R := R) Tryz.prog 33 ys (strconv_Atoi.via n ys) := by
  unfold strconv_Atoi.via
  split
  · exact Tells1.of (fun p hp => (strconv_Atoi.hands n _ hp).hands rfl)
  · exact Tells1.none
end Go.Proofs.YtgmpnhfnkhohiaaGreatDoor.Ev

/- strings.Trim, out of the library's contract. Printed by the session's own program. -/
namespace Go.Proofs.YtgmpnhfnkhohiaaGreatDoor.Ev
open Go Go.Proofs Go.Proofs.Ev
set_option linter.unusedVariables false
set_option maxRecDepth 100000
noncomputable def strings_Trim.F (n : Nat) (s : ByteArray) (t : ByteArray) : Option (ByteArray) := bif decide (s.size ≤ 9223372036854775807) && (decide (t.size < 4294967281) && t.data.toList.all fun b => decide (b.toNat < 128)) then Option.some (⟨(Lib.trimS s.data.toList t.data.toList).toArray⟩) else none
theorem strings_Trim.hands (n : Nat) (s : ByteArray) (t : ByteArray) {p : ByteArray} (h : strings_Trim.F n s t = some p) : HandsIn Tryz.prog 34 [.v (.string s), .v (.string t)] (.v (.string p)) := by
  unfold strings_Trim.F at h
  cases hc : (decide (s.size ≤ 9223372036854775807) && (decide (t.size < 4294967281) && t.data.toList.all fun b => decide (b.toNat < 128))) with
  | false => rw [hc] at h; cases h
  | true =>
    rw [hc] at h
    cases h
    refine hands_calls (fn := Tryz.f34) Tryz.func34 (by kernel_rfl) (by kernel_rfl) fun w F vals hQ hF hl hr => ?_
    obtain ⟨u0, u1, rfl, h0, h1⟩ := vals2 hl hr
    obtain rfl := rel_v h0
    obtain rfl := rel_v h1
    rw [Bool.and_eq_true, Bool.and_eq_true] at hc
    refine (Tryz.strings_Trim_laid s t w (of_decide_eq_true hc.1) (of_decide_eq_true hc.2.1) (ascii_of_all hc.2.2)).mono ?_
    rintro e w' ⟨rfl, hB⟩
    exact ⟨F, fun _ => none, Came.of_below hF hB, .v _ rfl⟩
noncomputable def strings_Trim.via {R : Type} (n : Nat) (ys : List AV) : (AV → Option R) → Option R := match ys with | [.v (.string s), .v (.string t)] => fun K => (strings_Trim.F n s t).bind fun p => K (.v (.string p)) | _ => fun _ => none
theorem strings_Trim.tells1 {R : Type} (n : Nat) (ys : List AV) : Tells1 (R := R) Tryz.prog 34 ys (strings_Trim.via n ys) := by
  unfold strings_Trim.via
  split
  · exact Tells1.of (fun p hp => (strings_Trim.hands n _ _ hp).hands rfl)
  · exact Tells1.none
end Go.Proofs.YtgmpnhfnkhohiaaGreatDoor.Ev

/- strings.Repeat, out of the library's contract. Printed by the session's own program. -/
namespace Go.Proofs.YtgmpnhfnkhohiaaGreatDoor.Ev
open Go Go.Proofs Go.Proofs.Ev
set_option linter.unusedVariables false
set_option maxRecDepth 100000
noncomputable def strings_Repeat.F (n : Nat) (s : ByteArray) (c : Int) : Option (ByteArray) := bif decide (0 ≤ c) && decide ((s.size : Int) * c ≤ 140737488355328) && decide (c ≤ 9223372036854775807) then Option.some (⟨(Lib.repeatL s.data.toList c.toNat).toArray⟩) else none
theorem strings_Repeat.hands (n : Nat) (s : ByteArray) (c : Int) {p : ByteArray} (h : strings_Repeat.F n s c = some p) : HandsIn Tryz.prog 35 [vs s, vi c] (vs p) := by
  unfold strings_Repeat.F at h
  cases hc : (decide (0 ≤ c) && decide ((s.size : Int) * c ≤ 140737488355328) && decide (c ≤ 9223372036854775807)) with
  | false => rw [hc] at h; cases h
  | true =>
    rw [hc] at h
    cases h
    refine hands_calls (fn := Tryz.f35) Tryz.func35 (by kernel_rfl) (by kernel_rfl) fun w F vals hQ hF hl hr => ?_
    obtain ⟨u, v, rfl, hu, hv⟩ := vals2 hl hr
    obtain rfl := rel_v hu
    obtain rfl := rel_v hv
    rw [Bool.and_eq_true, Bool.and_eq_true] at hc
    have h0 := of_decide_eq_true hc.1.1
    have h1 := of_decide_eq_true hc.1.2
    have h2 := of_decide_eq_true hc.2
    obtain ⟨m, rfl⟩ := Int.eq_ofNat_of_zero_le h0
    refine (Tryz.strings_Repeat s m w (by omega) (by have := Int.natCast_mul s.size m; omega)).mono ?_
    rintro e w' ⟨rfl, hB⟩
    exact ⟨F, fun _ => none, Came.of_below hF hB, .v _ rfl⟩
noncomputable def strings_Repeat.via {R : Type} (n : Nat) (ys : List AV) : (AV → Option R) → Option R := match ys with | [.v (.string s), .v (.int .i64 c)] => fun K => (strings_Repeat.F n s c).bind fun p => K (vs p) | _ => fun _ => none
theorem strings_Repeat.tells1 {R : Type} (n : Nat) (ys : List AV) : Tells1 (R := R) Tryz.prog 35 ys (strings_Repeat.via n ys) := by
  unfold strings_Repeat.via
  split
  · exact Tells1.of (fun p hp => (strings_Repeat.hands n _ _ hp).hands rfl)
  · exact Tells1.none
end Go.Proofs.YtgmpnhfnkhohiaaGreatDoor.Ev

/- strings.Split, out of the library's contract. Printed by the session's own program. -/
namespace Go.Proofs.YtgmpnhfnkhohiaaGreatDoor.Ev
open Go Go.Proofs Go.Proofs.Ev
set_option linter.unusedVariables false
set_option maxRecDepth 100000
noncomputable def strings_Split.F (n : Nat) (s : ByteArray) (t : ByteArray) : Option (List AV) := bif (decide (s.size < 4294967281) && decide (1 ≤ t.size)) && (Nat.beq (Lib.splitB t 0 (Lib.countB s t) s).length (Lib.countB s t + 1) && decide (Lib.countB s t + 1 ≤ most)) then Option.some ((Lib.splitB t 0 (Lib.countB s t) s).map fun x => vs x) else none
theorem strings_Split.hands (n : Nat) (s : ByteArray) (t : ByteArray) {p : List AV} (h : strings_Split.F n s t = some p) : HandsIn Tryz.prog 68 [.v (.string s), .v (.string t)] (.fr ⟨true, 9⟩ 1 p) := by
  unfold strings_Split.F at h
  cases hc : ((decide (s.size < 4294967281) && decide (1 ≤ t.size)) && (Nat.beq (Lib.splitB t 0 (Lib.countB s t) s).length (Lib.countB s t + 1) && decide (Lib.countB s t + 1 ≤ most))) with
  | false => rw [hc] at h; cases h
  | true =>
    rw [hc] at h
    cases h
    refine hands_calls (fn := Tryz.f68) Tryz.func68 (by kernel_rfl) (by kernel_rfl) fun w F vals hQ hF hl hr => ?_
    obtain ⟨u0, u1, rfl, h0, h1⟩ := vals2 hl hr
    obtain rfl := rel_v h0
    obtain rfl := rel_v h1
    rw [Bool.and_eq_true, Bool.and_eq_true, Bool.and_eq_true] at hc
    refine (Tryz.strings_Split_shaped s t w (Rooted.opened _ hQ) (of_decide_eq_true hc.1.1) (of_decide_eq_true hc.1.2)).mono ?_
    rintro e w' ⟨rfl, rfl⟩
    exact strs_res rfl hF (Nat.eq_of_beq_eq_true hc.2.1) (of_decide_eq_true hc.2.2)
noncomputable def strings_Split.via {R : Type} (n : Nat) (ys : List AV) : (AV → Option R) → Option R := match ys with | [.v (.string s), .v (.string t)] => fun K => (strings_Split.F n s t).bind fun p => K (.fr ⟨true, 9⟩ 1 p) | _ => fun _ => none
theorem strings_Split.tells1 {R : Type} (n : Nat) (ys : List AV) : Tells1 (R := R) Tryz.prog 68 ys (strings_Split.via n ys) := by
  unfold strings_Split.via
  split
  · exact Tells1.of (fun p hp => (strings_Split.hands n _ _ hp).hands rfl)
  · exact Tells1.none
end Go.Proofs.YtgmpnhfnkhohiaaGreatDoor.Ev

/- strings.IndexByte, out of the library's contract. Printed by the session's own program. -/
namespace Go.Proofs.YtgmpnhfnkhohiaaGreatDoor.Ev
open Go Go.Proofs Go.Proofs.Ev
set_option linter.unusedVariables false
set_option maxRecDepth 100000
noncomputable def strings_IndexByte.F (n : Nat) (s : ByteArray) (c : Int) : Option (Int) := bif true then Option.some (Lib.indexByte s.data.toList c.toNat.toUInt8) else none
theorem strings_IndexByte.hands (n : Nat) (s : ByteArray) (c : Int) {p : Int} (h : strings_IndexByte.F n s c = some p) : HandsIn Tryz.prog 95 [.v (.string s), .v (.int .u8 c)] (.v (.int .i64 p)) := by
  unfold strings_IndexByte.F at h
  cases hc : (true) with
  | false => rw [hc] at h; cases h
  | true =>
    rw [hc] at h
    cases h
    refine hands_calls (fn := Tryz.f95) Tryz.func95 (by kernel_rfl) (by kernel_rfl) fun w F vals hQ hF hl hr => ?_
    obtain ⟨u0, u1, rfl, h0, h1⟩ := vals2 hl hr
    obtain rfl := rel_v h0
    obtain rfl := rel_v h1
    refine (Tryz.strings_IndexByte s c w).mono ?_
    rintro e w' ⟨rfl, rfl⟩
    exact ⟨F, fun _ => none, Came.same hF, .v _ rfl⟩
noncomputable def strings_IndexByte.via {R : Type} (n : Nat) (ys : List AV) : (AV → Option R) → Option R := match ys with | [.v (.string s), .v (.int .u8 c)] => fun K => (strings_IndexByte.F n s c).bind fun p => K (.v (.int .i64 p)) | _ => fun _ => none
theorem strings_IndexByte.tells1 {R : Type} (n : Nat) (ys : List AV) : Tells1 (R := R) Tryz.prog 95 ys (strings_IndexByte.via n ys) := by
  unfold strings_IndexByte.via
  split
  · exact Tells1.of (fun p hp => (strings_IndexByte.hands n _ _ hp).hands rfl)
  · exact Tells1.none
end Go.Proofs.YtgmpnhfnkhohiaaGreatDoor.Ev

/- midrange/tagged.undigits, out of its evaluation. Printed by the session's own program. -/
namespace Go.Proofs.YtgmpnhfnkhohiaaGreatDoor.Ev
open Go Go.Proofs Go.Proofs.Ev
set_option linter.unusedVariables false
set_option maxRecDepth 100000
/-! midrange/tagged.undigits: function 69 -/
noncomputable def tagged_undigits.r3 {R : Type} (n : Nat) (c3 : ByteArray → Int → List AV → Option R) (c3x1 : ByteArray → Int → List AV → Option R) (c7 : Unit → Option R) (k : ByteArray × Bool → Option R) (z1 : ByteArray) (z2 : Int) (z3 : List AV) : Option R :=
  let y1 : Bool := decide ((IntKind.i64.wrap (z2 + 1)) < ((z1.size : Nat) : Int))
  bif y1 then (bif decide ((0 : Int) ≤ z2) && decide (z2 < ((z1.size : Nat) : Int)) then (let y2 : Int := (((z1.data.getD ((z2).toNat) 0).toNat : Nat) : Int)
  (strings_IndexByte.F n (⟨#[48, 49, 50, 51, 52, 53, 54, 55, 56, 57, 65, 66, 67, 68, 69, 70]⟩ : ByteArray) y2).bind fun p3 =>
  bif decide ((0 : Int) ≤ IntKind.i64.wrap (z2 + 1)) && decide (IntKind.i64.wrap (z2 + 1) < ((z1.size : Nat) : Int)) then (let y4 : Int := (((z1.data.getD ((IntKind.i64.wrap (z2 + 1)).toNat) 0).toNat : Nat) : Int)
  (strings_IndexByte.F n (⟨#[48, 49, 50, 51, 52, 53, 54, 55, 56, 57, 65, 66, 67, 68, 69, 70]⟩ : ByteArray) y4).bind fun p5 =>
  bif decide (p3 < 0) then (c7 ()) else (bif decide (p5 < 0) then (c7 ()) else (let y6 : Int := IntKind.i64.wrap (p3 * 2 ^ min (4 : Int).toNat 64)
  let y7 : Int := IntKind.i64.wrap (BitVec.ofInt 64 y6 ||| BitVec.ofInt 64 p5).toNat
  (strings_Builder_WriteByte_h1e0d9.F n (IntKind.u8.wrap y7) z3).bind fun p8 =>
  c3x1 z1 (IntKind.i64.wrap (z2 + 2)) p8.2))) else none) else none) else ((strings_Builder_String_hadf41.F n z3).bind fun p9 =>
  let y10 : Int := Int.tmod ((z1.size : Nat) : Int) 2
  k (p9, y10 == 0))
noncomputable def tagged_undigits.r3x1 {R : Type} (n : Nat) (c3 : ByteArray → Int → List AV → Option R) (c3x1 : ByteArray → Int → List AV → Option R) (c7 : Unit → Option R) (k : ByteArray × Bool → Option R) (z1 : ByteArray) (z2 : Int) (z3 : List AV) : Option R :=
  let y11 : Bool := decide ((IntKind.i64.wrap (z2 + 1)) < ((z1.size : Nat) : Int))
  bif y11 then (bif decide ((0 : Int) ≤ z2) && decide (z2 < ((z1.size : Nat) : Int)) then (let y12 : Int := (((z1.data.getD ((z2).toNat) 0).toNat : Nat) : Int)
  (strings_IndexByte.F n (⟨#[48, 49, 50, 51, 52, 53, 54, 55, 56, 57, 65, 66, 67, 68, 69, 70]⟩ : ByteArray) y12).bind fun p13 =>
  bif decide ((0 : Int) ≤ IntKind.i64.wrap (z2 + 1)) && decide (IntKind.i64.wrap (z2 + 1) < ((z1.size : Nat) : Int)) then (let y14 : Int := (((z1.data.getD ((IntKind.i64.wrap (z2 + 1)).toNat) 0).toNat : Nat) : Int)
  (strings_IndexByte.F n (⟨#[48, 49, 50, 51, 52, 53, 54, 55, 56, 57, 65, 66, 67, 68, 69, 70]⟩ : ByteArray) y14).bind fun p15 =>
  bif decide (p13 < 0) then (c7 ()) else (bif decide (p15 < 0) then (c7 ()) else (let y16 : Int := IntKind.i64.wrap (p13 * 2 ^ min (4 : Int).toNat 64)
  let y17 : Int := IntKind.i64.wrap (BitVec.ofInt 64 y16 ||| BitVec.ofInt 64 p15).toNat
  (strings_Builder_WriteByte_hea3dc.F n (IntKind.u8.wrap y17) z3).bind fun p18 =>
  c3x1 z1 (IntKind.i64.wrap (z2 + 2)) p18.2))) else none) else none) else ((strings_Builder_String_hf88d1.F n z3).bind fun p19 =>
  let y20 : Int := Int.tmod ((z1.size : Nat) : Int) 2
  k (p19, y20 == 0))
noncomputable def tagged_undigits.r7 {R : Type} (n : Nat) (c3 : ByteArray → Int → List AV → Option R) (c3x1 : ByteArray → Int → List AV → Option R) (c7 : Unit → Option R) (k : ByteArray × Bool → Option R) (_ : Unit) : Option R :=
  k ((⟨#[]⟩ : ByteArray), false)
noncomputable def tagged_undigits.e {R : Type} (n : Nat) (c3 : ByteArray → Int → List AV → Option R) (c3x1 : ByteArray → Int → List AV → Option R) (c7 : Unit → Option R) (k : ByteArray × Bool → Option R) (a0 : ByteArray) : Option R :=
  c3 a0 0 []
noncomputable def tagged_undigits.C {R : Type} (n : Nat) (f : FuncId) (xs : List AV) : (AV → Option R) → Option R :=
  bif Nat.beq f 25 && strings_Builder_String_hadf41.is xs then strings_Builder_String_hadf41.via n xs else bif Nat.beq f 25 && strings_Builder_String_hf88d1.is xs then strings_Builder_String_hf88d1.via n xs else bif Nat.beq f 79 && strings_Builder_WriteByte_h1e0d9.is xs then strings_Builder_WriteByte_h1e0d9.via n xs else bif Nat.beq f 79 && strings_Builder_WriteByte_hea3dc.is xs then strings_Builder_WriteByte_hea3dc.via n xs else bif Nat.beq f 95 then strings_IndexByte.via n xs else fun _ => none
theorem tagged_undigits.tells {R : Type} (n : Nat) : Tells (R := R) Tryz.prog (tagged_undigits.C n) := fun _ xs => tells_at2 (strings_Builder_String_hadf41.tells1 n xs) (tells_at2 (strings_Builder_String_hf88d1.tells1 n xs) (tells_at2 (strings_Builder_WriteByte_h1e0d9.tells1 n xs) (tells_at2 (strings_Builder_WriteByte_hea3dc.tells1 n xs) (tells_at (strings_IndexByte.tells1 n xs) (Tells1.none)))))
noncomputable def tagged_undigits.cut (r : Nat) : Option Keep := match r with | 3 => Option.some ⟨[0, 4, 5], [(4, Option.some 1, ⟨true, 5⟩, 1)]⟩ | 7 => Option.some ⟨[], []⟩ | _ => none
noncomputable def tagged_undigits.t3 : List Item := (todoOf 3 1000 [.code (Tryz.f69.body.getD .skip)]).getD []
noncomputable def tagged_undigits.s3 (z1 : ByteArray) (z2 : Int) (z3 : List AV) : St := ⟨[vs z1, .undef, .undef, .undef, .ptr 0 0, vi z2, .undef, .undef, .undef, .undef, .undef, .undef, .undef, .undef, .undef, .undef, .undef, .undef, .undef, .undef, .undef, .undef, .undef, .undef, .undef, .undef, .undef, .undef, .undef, .undef, .undef, .undef, .undef, .undef, .undef, .undef, .undef, .undef, .undef, .undef, .undef], Mem.ofList [.box 57 [.v (.pointer none), .own 1 0 none], .row ⟨true, 5⟩ 1 z3], 2⟩
noncomputable def tagged_undigits.t3x1 : List Item := (todoOf 3 1000 [.code (Tryz.f69.body.getD .skip)]).getD []
noncomputable def tagged_undigits.s3x1 (z1 : ByteArray) (z2 : Int) (z3 : List AV) : St := ⟨[vs z1, .undef, .undef, .undef, .ptr 0 0, vi z2, .undef, .undef, .undef, .undef, .undef, .undef, .undef, .undef, .undef, .undef, .undef, .undef, .undef, .undef, .undef, .undef, .undef, .undef, .undef, .undef, .undef, .undef, .undef, .undef, .undef, .undef, .undef, .undef, .undef, .undef, .undef, .undef, .undef, .undef, .undef], Mem.ofList [.box 57 [.ptr 0 0, .own 1 0 none], .row ⟨true, 5⟩ 1 z3], 2⟩
noncomputable def tagged_undigits.t7 : List Item := (todoOf 7 1000 [.code (Tryz.f69.body.getD .skip)]).getD []
noncomputable def tagged_undigits.s7 (_ : Unit) : St := ⟨[.undef, .undef, .undef, .undef, .undef, .undef, .undef, .undef, .undef, .undef, .undef, .undef, .undef, .undef, .undef, .undef, .undef, .undef, .undef, .undef, .undef, .undef, .undef, .undef, .undef, .undef, .undef, .undef, .undef, .undef, .undef, .undef, .undef, .undef, .undef, .undef, .undef, .undef, .undef, .undef, .undef], Mem.ofList [], 0⟩
theorem tagged_undigits.e_eq {R : Type} (n : Nat) (rec : List Item → St → Option R) (K : AV → Option R) (a0 : ByteArray) :
    goK G (tagged_undigits.C n) tagged_undigits.cut (fun S => finK G Tryz.f69.resultTypes.toList Tryz.f69.results.toList S K) rec 1000 [.code (Tryz.f69.body.getD .skip)] (Ev.start Tryz.f69 [vs a0]) = tagged_undigits.e n (fun z1 z2 z3 => rec tagged_undigits.t3 (tagged_undigits.s3 z1 z2 z3)) (fun z1 z2 z3 => rec tagged_undigits.t3x1 (tagged_undigits.s3x1 z1 z2 z3)) (fun _ => rec tagged_undigits.t7 (tagged_undigits.s7 ())) (fun p => K (.tup [vs p.1, vb p.2])) a0 := by kernel_rfl
theorem tagged_undigits.r3_eq {R : Type} (n : Nat) (rec : List Item → St → Option R) (K : AV → Option R) (z1 : ByteArray) (z2 : Int) (z3 : List AV) :
    atK G (tagged_undigits.C n) tagged_undigits.cut (fun S => finK G Tryz.f69.resultTypes.toList Tryz.f69.results.toList S K) rec tagged_undigits.t3 (tagged_undigits.s3 z1 z2 z3) = tagged_undigits.r3 n (fun z1 z2 z3 => rec tagged_undigits.t3 (tagged_undigits.s3 z1 z2 z3)) (fun z1 z2 z3 => rec tagged_undigits.t3x1 (tagged_undigits.s3x1 z1 z2 z3)) (fun _ => rec tagged_undigits.t7 (tagged_undigits.s7 ())) (fun p => K (.tup [vs p.1, vb p.2])) z1 z2 z3 := by kernel_rfl
theorem tagged_undigits.r3x1_eq {R : Type} (n : Nat) (rec : List Item → St → Option R) (K : AV → Option R) (z1 : ByteArray) (z2 : Int) (z3 : List AV) :
    atK G (tagged_undigits.C n) tagged_undigits.cut (fun S => finK G Tryz.f69.resultTypes.toList Tryz.f69.results.toList S K) rec tagged_undigits.t3x1 (tagged_undigits.s3x1 z1 z2 z3) = tagged_undigits.r3x1 n (fun z1 z2 z3 => rec tagged_undigits.t3 (tagged_undigits.s3 z1 z2 z3)) (fun z1 z2 z3 => rec tagged_undigits.t3x1 (tagged_undigits.s3x1 z1 z2 z3)) (fun _ => rec tagged_undigits.t7 (tagged_undigits.s7 ())) (fun p => K (.tup [vs p.1, vb p.2])) z1 z2 z3 := by kernel_rfl
theorem tagged_undigits.r7_eq {R : Type} (n : Nat) (rec : List Item → St → Option R) (K : AV → Option R) (_ : Unit) :
    atK G (tagged_undigits.C n) tagged_undigits.cut (fun S => finK G Tryz.f69.resultTypes.toList Tryz.f69.results.toList S K) rec tagged_undigits.t7 (tagged_undigits.s7 ()) = tagged_undigits.r7 n (fun z1 z2 z3 => rec tagged_undigits.t3 (tagged_undigits.s3 z1 z2 z3)) (fun z1 z2 z3 => rec tagged_undigits.t3x1 (tagged_undigits.s3x1 z1 z2 z3)) (fun _ => rec tagged_undigits.t7 (tagged_undigits.s7 ())) (fun p => K (.tup [vs p.1, vb p.2])) () := by kernel_rfl
noncomputable def tagged_undigits.l (n : Nat) : Nat → (ByteArray → Int → List AV → Option (ByteArray × Bool)) × (ByteArray → Int → List AV → Option (ByteArray × Bool)) × (Unit → Option (ByteArray × Bool))
  | 0 => ((fun _ _ _ => none), (fun _ _ _ => none), (fun _ => none))
  | m + 1 => (tagged_undigits.r3 n ((tagged_undigits.l n m).1) ((tagged_undigits.l n m).2.1) ((tagged_undigits.l n m).2.2) Option.some, tagged_undigits.r3x1 n ((tagged_undigits.l n m).1) ((tagged_undigits.l n m).2.1) ((tagged_undigits.l n m).2.2) Option.some, tagged_undigits.r7 n ((tagged_undigits.l n m).1) ((tagged_undigits.l n m).2.1) ((tagged_undigits.l n m).2.2) Option.some)
noncomputable def tagged_undigits.F (n : Nat) (a0 : ByteArray) : Option (ByteArray × Bool) := tagged_undigits.e n ((tagged_undigits.l n n).1) ((tagged_undigits.l n n).2.1) ((tagged_undigits.l n n).2.2) Option.some a0
noncomputable def tagged_undigits.dec (x : AV) : Option (ByteArray × Bool) := match x with | .tup [.v (.string p0), .v (.bool p1)] => Option.some (p0, p1) | _ => none
theorem tagged_undigits.dec_inv {p : ByteArray × Bool} (y : AV) (h : tagged_undigits.dec y = some p) : y = .tup [vs p.1, vb p.2] := by
  unfold tagged_undigits.dec at h
  split at h
  · cases h; rfl
  · cases h
theorem tagged_undigits.l_eq (n m : Nat) : (∀ (z1 : ByteArray) (z2 : Int) (z3 : List AV), runK G (tagged_undigits.C n) tagged_undigits.cut (fun S => finK G Tryz.f69.resultTypes.toList Tryz.f69.results.toList S tagged_undigits.dec) m tagged_undigits.t3 (tagged_undigits.s3 z1 z2 z3) = ((tagged_undigits.l n m).1) z1 z2 z3) ∧ (∀ (z1 : ByteArray) (z2 : Int) (z3 : List AV), runK G (tagged_undigits.C n) tagged_undigits.cut (fun S => finK G Tryz.f69.resultTypes.toList Tryz.f69.results.toList S tagged_undigits.dec) m tagged_undigits.t3x1 (tagged_undigits.s3x1 z1 z2 z3) = ((tagged_undigits.l n m).2.1) z1 z2 z3) ∧ (∀ z : Unit, runK G (tagged_undigits.C n) tagged_undigits.cut (fun S => finK G Tryz.f69.resultTypes.toList Tryz.f69.results.toList S tagged_undigits.dec) m tagged_undigits.t7 (tagged_undigits.s7 z) = ((tagged_undigits.l n m).2.2) z) := by
  induction m with
  | zero => exact ⟨fun z1 z2 z3 => rfl, fun z1 z2 z3 => rfl, fun _ => rfl⟩
  | succ m ih =>
    obtain ⟨h3, h3x1, h7⟩ := ih
    have e3 : (fun (z1 : ByteArray) (z2 : Int) (z3 : List AV) => runK G (tagged_undigits.C n) tagged_undigits.cut (fun S => finK G Tryz.f69.resultTypes.toList Tryz.f69.results.toList S tagged_undigits.dec) m tagged_undigits.t3 (tagged_undigits.s3 z1 z2 z3)) = (tagged_undigits.l n m).1 := by funext z1 z2 z3; exact h3 z1 z2 z3
    have e3x1 : (fun (z1 : ByteArray) (z2 : Int) (z3 : List AV) => runK G (tagged_undigits.C n) tagged_undigits.cut (fun S => finK G Tryz.f69.resultTypes.toList Tryz.f69.results.toList S tagged_undigits.dec) m tagged_undigits.t3x1 (tagged_undigits.s3x1 z1 z2 z3)) = (tagged_undigits.l n m).2.1 := by funext z1 z2 z3; exact h3x1 z1 z2 z3
    have e7 : (fun (_ : Unit) => runK G (tagged_undigits.C n) tagged_undigits.cut (fun S => finK G Tryz.f69.resultTypes.toList Tryz.f69.results.toList S tagged_undigits.dec) m tagged_undigits.t7 (tagged_undigits.s7 ())) = (tagged_undigits.l n m).2.2 := by funext z; exact h7 z
    have q3 : ∀ (z1 : ByteArray) (z2 : Int) (z3 : List AV), runK G (tagged_undigits.C n) tagged_undigits.cut (fun S => finK G Tryz.f69.resultTypes.toList Tryz.f69.results.toList S tagged_undigits.dec) (m + 1) tagged_undigits.t3 (tagged_undigits.s3 z1 z2 z3) = ((tagged_undigits.l n (m + 1)).1) z1 z2 z3 := by
      intro z1 z2 z3
      rw [runK_succ]
      refine (tagged_undigits.r3_eq n _ tagged_undigits.dec z1 z2 z3).trans ?_
      rw [e3, e3x1, e7]
      rfl
    have q3x1 : ∀ (z1 : ByteArray) (z2 : Int) (z3 : List AV), runK G (tagged_undigits.C n) tagged_undigits.cut (fun S => finK G Tryz.f69.resultTypes.toList Tryz.f69.results.toList S tagged_undigits.dec) (m + 1) tagged_undigits.t3x1 (tagged_undigits.s3x1 z1 z2 z3) = ((tagged_undigits.l n (m + 1)).2.1) z1 z2 z3 := by
      intro z1 z2 z3
      rw [runK_succ]
      refine (tagged_undigits.r3x1_eq n _ tagged_undigits.dec z1 z2 z3).trans ?_
      rw [e3, e3x1, e7]
      rfl
    have q7 : ∀ z : Unit, runK G (tagged_undigits.C n) tagged_undigits.cut (fun S => finK G Tryz.f69.resultTypes.toList Tryz.f69.results.toList S tagged_undigits.dec) (m + 1) tagged_undigits.t7 (tagged_undigits.s7 z) = ((tagged_undigits.l n (m + 1)).2.2) z := by
      intro z
      rw [runK_succ]
      refine (tagged_undigits.r7_eq n _ tagged_undigits.dec ()).trans ?_
      rw [e3, e3x1, e7]
      rfl
    exact ⟨q3, q3x1, q7⟩
theorem tagged_undigits.hands (n : Nat) (a0 : ByteArray) {p : ByteArray × Bool} (h : tagged_undigits.F n a0 = some p) : HandsIn Tryz.prog 69 [vs a0] (.tup [vs p.1, vb p.2]) := by
  refine hands_of cfg mixed (fun _ => rfl) rfl (tagged_undigits.tells n) (fn := Tryz.f69) Tryz.func69 (by kernel_rfl) (by kernel_rfl) (cut := tagged_undigits.cut) (K := tagged_undigits.dec) (r := p) (n := n) tagged_undigits.dec_inv ?_
  rw [funK_getD (by kernel_rfl)]
  have h1 := tagged_undigits.e_eq n (runK G (tagged_undigits.C n) tagged_undigits.cut (fun S => finK G Tryz.f69.resultTypes.toList Tryz.f69.results.toList S tagged_undigits.dec) n) tagged_undigits.dec a0
  have hl := tagged_undigits.l_eq n n
  simp only [hl.1, hl.2.1, hl.2.2] at h1
  exact h1.trans h
noncomputable def tagged_undigits.via {R : Type} (n : Nat) (xs : List AV) : (AV → Option R) → Option R := match xs with | [.v (.string a0)] => fun K => (tagged_undigits.F n a0).bind fun p => K (.tup [vs p.1, vb p.2]) | _ => fun _ => none
noncomputable def tagged_undigits.is (xs : List AV) : Bool := match xs with | [.v (.string _)] => true | _ => false
theorem tagged_undigits.tells1 {R : Type} (n : Nat) (xs : List AV) : Tells1 (R := R) Tryz.prog 69 xs (tagged_undigits.via n xs) := by
  unfold tagged_undigits.via
  split
  · exact Tells1.of (fun p hp => (tagged_undigits.hands n _ hp).hands rfl)
  · exact Tells1.none
end Go.Proofs.YtgmpnhfnkhohiaaGreatDoor.Ev

/- midrange/tagged.parsedRow, out of its evaluation. Printed by the session's own program. -/
namespace Go.Proofs.YtgmpnhfnkhohiaaGreatDoor.Ev
open Go Go.Proofs Go.Proofs.Ev
set_option linter.unusedVariables false
set_option maxRecDepth 100000
/-! midrange/tagged.parsedRow: function 36 -/
noncomputable def tagged_parsedRow.e {R : Type} (n : Nat)  (k : ByteArray × Bool × Bool → Option R) (a0 : ByteArray) (a1 : Int) : Option R :=
  (strings_Split.F n a0 (⟨#[32]⟩ : ByteArray)).bind fun p1 =>
  let y2 : Bool := ((p1.length : Nat) : Int) != 6
  bif y2 then (k ((⟨#[]⟩ : ByteArray), false, false)) else (bif decide ((1 : Int) < (p1.length : Nat)) then (withCons ((p1.getD 1 .undef).cells) fun h3 r4 =>
  withStr h3 fun s5 =>
  bif decide ((2 : Int) < (p1.length : Nat)) then (withCons ((p1.getD 2 .undef).cells) fun h6 r7 =>
  withStr h6 fun s8 =>
  chk (decide (s5.size + s8.size ≤ 9223372036854775807)) (bif decide ((3 : Int) < (p1.length : Nat)) then (withCons ((p1.getD 3 .undef).cells) fun h9 r10 =>
  withStr h9 fun s11 =>
  chk (decide ((s5 ++ s8).size + s11.size ≤ 9223372036854775807)) (bif decide ((4 : Int) < (p1.length : Nat)) then (withCons ((p1.getD 4 .undef).cells) fun h12 r13 =>
  withStr h12 fun s14 =>
  chk (decide (((s5 ++ s8) ++ s11).size + s14.size ≤ 9223372036854775807)) ((tagged_undigits.F n (((s5 ++ s8) ++ s11) ++ s14)).bind fun p15 =>
  bif !p15.2 then (k ((⟨#[]⟩ : ByteArray), false, false)) else (let y16 : Bool := ((p15.1.size : Nat) : Int) != 16
  bif y16 then (k ((⟨#[]⟩ : ByteArray), false, false)) else (bif decide ((5 : Int) < (p1.length : Nat)) then (withCons ((p1.getD 5 .undef).cells) fun h17 r18 =>
  withStr h17 fun s19 =>
  let y20 : Bool := s19.toList == (⟨#[80]⟩ : ByteArray).toList
  (tagged_row.F n a1 p15.1 y20).bind fun p21 =>
  k (p15.1, y20, a0.toList == p21.toList)) else none)))) else none)) else none)) else none) else none)
noncomputable def tagged_parsedRow.C {R : Type} (n : Nat) (f : FuncId) (xs : List AV) : (AV → Option R) → Option R :=
  bif Nat.beq f 24 then tagged_row.via n xs else bif Nat.beq f 68 then strings_Split.via n xs else bif Nat.beq f 69 then tagged_undigits.via n xs else fun _ => none
theorem tagged_parsedRow.tells {R : Type} (n : Nat) : Tells (R := R) Tryz.prog (tagged_parsedRow.C n) := fun _ xs => tells_at (tagged_row.tells1 n xs) (tells_at (strings_Split.tells1 n xs) (tells_at (tagged_undigits.tells1 n xs) (Tells1.none)))
noncomputable def tagged_parsedRow.cut (r : Nat) : Option Keep := match r with  | _ => none
theorem tagged_parsedRow.e_eq {R : Type} (n : Nat) (rec : List Item → St → Option R) (K : AV → Option R) (a0 : ByteArray) (a1 : Int) :
    goK G (tagged_parsedRow.C n) tagged_parsedRow.cut (fun S => finK G Tryz.f36.resultTypes.toList Tryz.f36.results.toList S K) rec 1000 [.code (Tryz.f36.body.getD .skip)] (Ev.start Tryz.f36 [vs a0, vi a1]) = tagged_parsedRow.e n  (fun p => K (.tup [vs p.1, vb p.2.1, vb p.2.2])) a0 a1 := by kernel_rfl
noncomputable def tagged_parsedRow.F (n : Nat) (a0 : ByteArray) (a1 : Int) : Option (ByteArray × Bool × Bool) := tagged_parsedRow.e n  Option.some a0 a1
noncomputable def tagged_parsedRow.dec (x : AV) : Option (ByteArray × Bool × Bool) := match x with | .tup [.v (.string p0), .v (.bool p1), .v (.bool p2)] => Option.some (p0, p1, p2) | _ => none
theorem tagged_parsedRow.dec_inv {p : ByteArray × Bool × Bool} (y : AV) (h : tagged_parsedRow.dec y = some p) : y = .tup [vs p.1, vb p.2.1, vb p.2.2] := by
  unfold tagged_parsedRow.dec at h
  split at h
  · cases h; rfl
  · cases h
theorem tagged_parsedRow.hands (n : Nat) (a0 : ByteArray) (a1 : Int) {p : ByteArray × Bool × Bool} (h : tagged_parsedRow.F n a0 a1 = some p) : HandsIn Tryz.prog 36 [vs a0, vi a1] (.tup [vs p.1, vb p.2.1, vb p.2.2]) := by
  refine hands_of cfg mixed (fun _ => rfl) rfl (tagged_parsedRow.tells n) (fn := Tryz.f36) Tryz.func36 (by kernel_rfl) (by kernel_rfl) (cut := tagged_parsedRow.cut) (K := tagged_parsedRow.dec) (r := p) (n := n) tagged_parsedRow.dec_inv ?_
  rw [funK_getD (by kernel_rfl)]
  have h1 := tagged_parsedRow.e_eq n (runK G (tagged_parsedRow.C n) tagged_parsedRow.cut (fun S => finK G Tryz.f36.resultTypes.toList Tryz.f36.results.toList S tagged_parsedRow.dec) n) tagged_parsedRow.dec a0 a1
  exact h1.trans h
noncomputable def tagged_parsedRow.via {R : Type} (n : Nat) (xs : List AV) : (AV → Option R) → Option R := match xs with | [.v (.string a0), .v (.int .i64 a1)] => fun K => (tagged_parsedRow.F n a0 a1).bind fun p => K (.tup [vs p.1, vb p.2.1, vb p.2.2]) | _ => fun _ => none
noncomputable def tagged_parsedRow.is (xs : List AV) : Bool := match xs with | [.v (.string _), .v (.int .i64 _)] => true | _ => false
theorem tagged_parsedRow.tells1 {R : Type} (n : Nat) (xs : List AV) : Tells1 (R := R) Tryz.prog 36 xs (tagged_parsedRow.via n xs) := by
  unfold tagged_parsedRow.via
  split
  · exact Tells1.of (fun p hp => (tagged_parsedRow.hands n _ _ hp).hands rfl)
  · exact Tells1.none
end Go.Proofs.YtgmpnhfnkhohiaaGreatDoor.Ev

/- midrange/tagged.ParseDump, out of its evaluation. Printed by the session's own program. -/
namespace Go.Proofs.YtgmpnhfnkhohiaaGreatDoor.Ev
open Go Go.Proofs Go.Proofs.Ev
set_option linter.unusedVariables false
set_option maxRecDepth 100000
/-! midrange/tagged.ParseDump: function 11 -/
noncomputable def tagged_ParseDump.r6 {R : Type} (n : Nat) (c6 : ByteArray → Bool → Int → ByteArray → ByteArray → List AV → Option R) (c16 : Int → ByteArray → Option R) (c25 : ByteArray → Int → ByteArray → Int → ByteArray → Bool → ByteArray → ByteArray → List AV → Option R) (c33 : ByteArray → Bool → Int → ByteArray → ByteArray → ByteArray → List AV → Option R) (k : ByteArray × List AV × Int × Int → Option R) (z1 : ByteArray) (z2 : Bool) (z3 : Int) (z4 : ByteArray) (z5 : ByteArray) (z6 : List AV) : Option R :=
  let y2 : Bool := decide (z3 < ((z1.size : Nat) : Int))
  bif y2 then (bif decide ((0 : Int) ≤ z3) && decide ((z3 : Int) ≤ ((z1.size : Nat) : Int)) then (let y3 : ByteArray := z1.extract (z3).toNat z1.size
  (strings_Cut.F n y3 (⟨#[10]⟩ : ByteArray)).bind fun p4 =>
  bif !p4.2.2 then (k ((⟨#[]⟩ : ByteArray), [], z3, 8)) else ((strings_CutPrefix.F n p4.1 (⟨#[42]⟩ : ByteArray)).bind fun p5 =>
  bif p5.2 then ((strconv_Atoi.F n p5.1).bind fun p6 =>
  let y7 : Bool := p5.1.toList == (⟨#[]⟩ : ByteArray).toList
  bif y7 then (c16 z3 z4) else ((strings_Trim.F n p5.1 (⟨#[48, 49, 50, 51, 52, 53, 54, 55, 56, 57]⟩ : ByteArray)).bind fun p8 =>
  let y9 : Bool := !(p8.toList == (⟨#[]⟩ : ByteArray).toList)
  bif y9 then (c16 z3 z4) else (bif decide ((0 : Int) < (p5.1.size : Nat)) then (let y10 : Int := (((p5.1.data.getD 0 0).toNat : Nat) : Int)
  bif y10 == 48 then (c16 z3 z4) else (let y11 : Bool := ((z6.length : Nat) : Int) == 0
  bif y11 then (c16 z3 z4) else (let y12 : Int := IntKind.i64.wrap (((z6.length : Nat) : Int) - 1)
  bif decide ((0 : Int) ≤ y12) && decide (y12 < ((z6.length : Nat) : Int)) then (withCons ((z6.getD ((y12).toNat) .undef).cells) fun h13 r14 =>
  withBool h13 fun b15 =>
  bif b15 then (c16 z3 z4) else (bif z2 then (c16 z3 z4) else (bif !(!p6.2) then (k ((⟨#[]⟩ : ByteArray), [], z3, 2)) else (let y16 : Int := IntKind.i64.wrap ((64 : Int) - ((z6.length : Nat) : Int))
  bif decide (p6.1 > y16) then (k ((⟨#[]⟩ : ByteArray), [], z3, 2)) else (let y17 : Int := IntKind.i64.wrap (((z5.size : Nat) : Int) - 16)
  bif decide ((0 : Int) ≤ y17) && decide ((y17 : Int) ≤ ((z5.size : Nat) : Int)) then (let y18 : ByteArray := z5.extract (y17).toNat z5.size
  (strings_Repeat.F n y18 p6.1).bind fun p19 =>
  chk (decide (z5.size + p19.size ≤ 9223372036854775807)) (bif decide ((0 : Int) ≤ p6.1) && decide ((p6.1 : Int) ≤ most) then (let y20 : List AV := List.replicate (p6.1).toNat (vb false)
  bif decide (z6.length + y20.length ≤ most) then (c33 z1 true z3 p4.1 z4 (z5 ++ p19) (z6 ++ y20)) else none) else none)) else none))))) else none))) else none))) else (let y21 : Int := IntKind.i64.wrap (((z6.length : Nat) : Int) * 16)
  (tagged_parsedRow.F n p4.1 y21).bind fun p22 =>
  bif !p22.2.2 then (k ((⟨#[]⟩ : ByteArray), [], z3, 8)) else (let y23 : Bool := decide (((z6.length : Nat) : Int) > 0)
  bif y23 then (bif !p22.2.1 then (let y24 : Int := IntKind.i64.wrap (((z6.length : Nat) : Int) - 1)
  bif decide ((0 : Int) ≤ y24) && decide (y24 < ((z6.length : Nat) : Int)) then (withCons ((z6.getD ((y24).toNat) .undef).cells) fun h25 r26 =>
  withBool h25 fun b27 =>
  bif !b27 then (let y28 : Int := IntKind.i64.wrap (((z5.size : Nat) : Int) - 16)
  bif decide ((0 : Int) ≤ y28) && decide ((y28 : Int) ≤ ((z5.size : Nat) : Int)) then (let y29 : ByteArray := z5.extract (y28).toNat z5.size
  bif p22.1.toList == y29.toList then (k ((⟨#[]⟩ : ByteArray), [], z3, 8)) else (c25 z1 z3 p4.1 ((z6.length : Nat) : Int) p22.1 p22.2.1 z4 z5 z6)) else none) else (c25 z1 z3 p4.1 ((z6.length : Nat) : Int) p22.1 p22.2.1 z4 z5 z6)) else none) else (c25 z1 z3 p4.1 ((z6.length : Nat) : Int) p22.1 p22.2.1 z4 z5 z6)) else (c25 z1 z3 p4.1 ((z6.length : Nat) : Int) p22.1 p22.2.1 z4 z5 z6))))) else none) else (k (z5, z6, 0, 0))
noncomputable def tagged_ParseDump.r16 {R : Type} (n : Nat) (c6 : ByteArray → Bool → Int → ByteArray → ByteArray → List AV → Option R) (c16 : Int → ByteArray → Option R) (c25 : ByteArray → Int → ByteArray → Int → ByteArray → Bool → ByteArray → ByteArray → List AV → Option R) (c33 : ByteArray → Bool → Int → ByteArray → ByteArray → ByteArray → List AV → Option R) (k : ByteArray × List AV × Int × Int → Option R) (z1 : Int) (z2 : ByteArray) : Option R :=
  k ((⟨#[]⟩ : ByteArray), [], z1, 8)
noncomputable def tagged_ParseDump.r25 {R : Type} (n : Nat) (c6 : ByteArray → Bool → Int → ByteArray → ByteArray → List AV → Option R) (c16 : Int → ByteArray → Option R) (c25 : ByteArray → Int → ByteArray → Int → ByteArray → Bool → ByteArray → ByteArray → List AV → Option R) (c33 : ByteArray → Bool → Int → ByteArray → ByteArray → ByteArray → List AV → Option R) (k : ByteArray × List AV × Int × Int → Option R) (z1 : ByteArray) (z2 : Int) (z3 : ByteArray) (z4 : Int) (z5 : ByteArray) (z6 : Bool) (z7 : ByteArray) (z8 : ByteArray) (z9 : List AV) : Option R :=
  bif z4 == 64 then (k ((⟨#[]⟩ : ByteArray), [], z2, 2)) else ((tagged_PointerIn.F n z5).bind fun p31 =>
  bif z6 then (bif p31.2.2.2.2 != 0 then (k ((⟨#[]⟩ : ByteArray), [], z2, 22)) else (chk (decide (z8.size + z5.size ≤ 9223372036854775807)) (bif decide (z9.length + [vb z6].length ≤ most) then (c33 z1 false z2 z3 z7 (z8 ++ z5) (z9 ++ [vb z6])) else none))) else (chk (decide (z8.size + z5.size ≤ 9223372036854775807)) (bif decide (z9.length + [vb z6].length ≤ most) then (c33 z1 false z2 z3 z7 (z8 ++ z5) (z9 ++ [vb z6])) else none)))
noncomputable def tagged_ParseDump.r33 {R : Type} (n : Nat) (c6 : ByteArray → Bool → Int → ByteArray → ByteArray → List AV → Option R) (c16 : Int → ByteArray → Option R) (c25 : ByteArray → Int → ByteArray → Int → ByteArray → Bool → ByteArray → ByteArray → List AV → Option R) (c33 : ByteArray → Bool → Int → ByteArray → ByteArray → ByteArray → List AV → Option R) (k : ByteArray × List AV × Int × Int → Option R) (z1 : ByteArray) (z2 : Bool) (z3 : Int) (z4 : ByteArray) (z5 : ByteArray) (z6 : ByteArray) (z7 : List AV) : Option R :=
  let y30 : Int := IntKind.i64.wrap (((z4.size : Nat) : Int) + 1)
  c6 z1 z2 (IntKind.i64.wrap (z3 + y30)) z5 z6 z7
noncomputable def tagged_ParseDump.e {R : Type} (n : Nat) (c6 : ByteArray → Bool → Int → ByteArray → ByteArray → List AV → Option R) (c16 : Int → ByteArray → Option R) (c25 : ByteArray → Int → ByteArray → Int → ByteArray → Bool → ByteArray → ByteArray → List AV → Option R) (c33 : ByteArray → Bool → Int → ByteArray → ByteArray → ByteArray → List AV → Option R) (k : ByteArray × List AV × Int × Int → Option R) (a0 : ByteArray) : Option R :=
  let y1 : Bool := decide (((a0.size : Nat) : Int) > 6000)
  bif y1 then (k ((⟨#[]⟩ : ByteArray), [], 0, 2)) else (c6 a0 false 0 (⟨#[]⟩ : ByteArray) (⟨#[]⟩ : ByteArray) [])
noncomputable def tagged_ParseDump.C {R : Type} (n : Nat) (f : FuncId) (xs : List AV) : (AV → Option R) → Option R :=
  bif Nat.beq f 16 then tagged_PointerIn.via n xs else bif Nat.beq f 31 then strings_Cut.via n xs else bif Nat.beq f 32 then strings_CutPrefix.via n xs else bif Nat.beq f 33 then strconv_Atoi.via n xs else bif Nat.beq f 34 then strings_Trim.via n xs else bif Nat.beq f 35 then strings_Repeat.via n xs else bif Nat.beq f 36 then tagged_parsedRow.via n xs else fun _ => none
theorem tagged_ParseDump.tells {R : Type} (n : Nat) : Tells (R := R) Tryz.prog (tagged_ParseDump.C n) := fun _ xs => tells_at (tagged_PointerIn.tells1 n xs) (tells_at (strings_Cut.tells1 n xs) (tells_at (strings_CutPrefix.tells1 n xs) (tells_at (strconv_Atoi.tells1 n xs) (tells_at (strings_Trim.tells1 n xs) (tells_at (strings_Repeat.tells1 n xs) (tells_at (tagged_parsedRow.tells1 n xs) (Tells1.none)))))))
noncomputable def tagged_ParseDump.cut (r : Nat) : Option Keep := match r with | 6 => Option.some ⟨[0, 2, 5, 6, 7], [(5, Option.some 1, ⟨true, 4⟩, 1)]⟩ | 16 => Option.some ⟨[2, 7], []⟩ | 25 => Option.some ⟨[0, 2, 5, 7, 8, 11, 16, 17], []⟩ | 33 => Option.some ⟨[0, 2, 5, 6, 7, 8], []⟩ | _ => none
noncomputable def tagged_ParseDump.t6 : List Item := (todoOf 6 1000 [.code (Tryz.f11.body.getD .skip)]).getD []
noncomputable def tagged_ParseDump.s6 (z1 : ByteArray) (z2 : Bool) (z3 : Int) (z4 : ByteArray) (z5 : ByteArray) (z6 : List AV) : St := ⟨[vs z1, .undef, .ptr 0 0, .undef, .undef, .ptr 1 0, vb z2, vi z3, .undef, .undef, .undef, .undef, .undef, .undef, .undef, .undef, .undef, .undef, .undef, .undef, .undef, .undef, .undef, .undef, .undef, .undef, .undef, .undef, .undef, .undef, .undef, .undef, .undef, .undef, .undef, .undef, .undef, .undef, .undef, .undef, .undef, .undef, .undef, .undef, .undef, .undef, .undef, .undef, .undef, .undef, .undef, .undef, .undef, .undef, .undef, .undef, .undef, .undef, .undef, .undef, .undef, .undef, .undef, .undef, .undef, .undef, .undef, .undef, .undef, .undef, .undef, .undef, .undef, .undef, .undef, .undef, .undef, .undef, .undef, .undef, .undef, .undef, .undef, .undef, .undef, .undef, .undef, .undef, .undef, .undef, .undef, .undef, .undef, .undef, .undef, .undef, .undef, .undef, .undef, .undef, .undef, .undef, .undef, .undef, .undef, .undef, .undef, .undef, .undef, .undef, .undef, .undef, .undef, .undef, .undef, .undef, .undef, .undef, .undef, .undef, .undef, .undef, .undef, .undef, .undef, .undef, .undef, .undef, .undef, .undef, .undef, .undef, .undef, .undef, .undef, .undef, .undef, .undef, .undef, .undef, .undef, .undef, .undef, .undef, .undef, .undef, .undef, .undef, .undef, .undef, .undef, .undef, .undef, .undef, .undef, .undef, .undef, .undef, .undef, .undef, .undef, .undef, .undef, .undef, .undef, .undef, .undef, .undef, .undef, .undef, .undef, .undef, .undef, .undef, .undef, .undef, .undef, .undef, .undef, .undef, .undef, .undef, .undef, .undef, .undef, .undef], Mem.ofList [.box 24 [vs z4, .v (.slice none 0 0)], .box 24 [vs z5, .own 2 0 none], .row ⟨true, 4⟩ 1 z6], 3⟩
noncomputable def tagged_ParseDump.t16 : List Item := (todoOf 16 1000 [.code (Tryz.f11.body.getD .skip)]).getD []
noncomputable def tagged_ParseDump.s16 (z1 : Int) (z2 : ByteArray) : St := ⟨[.undef, .undef, .ptr 0 0, .undef, .undef, .undef, .undef, vi z1, .undef, .undef, .undef, .undef, .undef, .undef, .undef, .undef, .undef, .undef, .undef, .undef, .undef, .undef, .undef, .undef, .undef, .undef, .undef, .undef, .undef, .undef, .undef, .undef, .undef, .undef, .undef, .undef, .undef, .undef, .undef, .undef, .undef, .undef, .undef, .undef, .undef, .undef, .undef, .undef, .undef, .undef, .undef, .undef, .undef, .undef, .undef, .undef, .undef, .undef, .undef, .undef, .undef, .undef, .undef, .undef, .undef, .undef, .undef, .undef, .undef, .undef, .undef, .undef, .undef, .undef, .undef, .undef, .undef, .undef, .undef, .undef, .undef, .undef, .undef, .undef, .undef, .undef, .undef, .undef, .undef, .undef, .undef, .undef, .undef, .undef, .undef, .undef, .undef, .undef, .undef, .undef, .undef, .undef, .undef, .undef, .undef, .undef, .undef, .undef, .undef, .undef, .undef, .undef, .undef, .undef, .undef, .undef, .undef, .undef, .undef, .undef, .undef, .undef, .undef, .undef, .undef, .undef, .undef, .undef, .undef, .undef, .undef, .undef, .undef, .undef, .undef, .undef, .undef, .undef, .undef, .undef, .undef, .undef, .undef, .undef, .undef, .undef, .undef, .undef, .undef, .undef, .undef, .undef, .undef, .undef, .undef, .undef, .undef, .undef, .undef, .undef, .undef, .undef, .undef, .undef, .undef, .undef, .undef, .undef, .undef, .undef, .undef, .undef, .undef, .undef, .undef, .undef, .undef, .undef, .undef, .undef, .undef, .undef, .undef, .undef, .undef, .undef], Mem.ofList [.box 24 [vs z2, .v (.slice none 0 0)]], 1⟩
noncomputable def tagged_ParseDump.t25 : List Item := (todoOf 25 1000 [.code (Tryz.f11.body.getD .skip)]).getD []
noncomputable def tagged_ParseDump.s25 (z1 : ByteArray) (z2 : Int) (z3 : ByteArray) (z4 : Int) (z5 : ByteArray) (z6 : Bool) (z7 : ByteArray) (z8 : ByteArray) (z9 : List AV) : St := ⟨[vs z1, .undef, .ptr 0 0, .undef, .undef, .ptr 1 0, .undef, vi z2, vs z3, .undef, .undef, vi z4, .undef, .undef, .undef, .undef, vs z5, vb z6, .undef, .undef, .undef, .undef, .undef, .undef, .undef, .undef, .undef, .undef, .undef, .undef, .undef, .undef, .undef, .undef, .undef, .undef, .undef, .undef, .undef, .undef, .undef, .undef, .undef, .undef, .undef, .undef, .undef, .undef, .undef, .undef, .undef, .undef, .undef, .undef, .undef, .undef, .undef, .undef, .undef, .undef, .undef, .undef, .undef, .undef, .undef, .undef, .undef, .undef, .undef, .undef, .undef, .undef, .undef, .undef, .undef, .undef, .undef, .undef, .undef, .undef, .undef, .undef, .undef, .undef, .undef, .undef, .undef, .undef, .undef, .undef, .undef, .undef, .undef, .undef, .undef, .undef, .undef, .undef, .undef, .undef, .undef, .undef, .undef, .undef, .undef, .undef, .undef, .undef, .undef, .undef, .undef, .undef, .undef, .undef, .undef, .undef, .undef, .undef, .undef, .undef, .undef, .undef, .undef, .undef, .undef, .undef, .undef, .undef, .undef, .undef, .undef, .undef, .undef, .undef, .undef, .undef, .undef, .undef, .undef, .undef, .undef, .undef, .undef, .undef, .undef, .undef, .undef, .undef, .undef, .undef, .undef, .undef, .undef, .undef, .undef, .undef, .undef, .undef, .undef, .undef, .undef, .undef, .undef, .undef, .undef, .undef, .undef, .undef, .undef, .undef, .undef, .undef, .undef, .undef, .undef, .undef, .undef, .undef, .undef, .undef, .undef, .undef, .undef, .undef, .undef, .undef], Mem.ofList [.box 24 [vs z7, .v (.slice none 0 0)], .box 24 [vs z8, .own 2 0 none], .row ⟨true, 4⟩ 1 z9], 3⟩
noncomputable def tagged_ParseDump.t33 : List Item := (todoOf 33 1000 [.code (Tryz.f11.body.getD .skip)]).getD []
noncomputable def tagged_ParseDump.s33 (z1 : ByteArray) (z2 : Bool) (z3 : Int) (z4 : ByteArray) (z5 : ByteArray) (z6 : ByteArray) (z7 : List AV) : St := ⟨[vs z1, .undef, .ptr 0 0, .undef, .undef, .ptr 1 0, vb z2, vi z3, vs z4, .undef, .undef, .undef, .undef, .undef, .undef, .undef, .undef, .undef, .undef, .undef, .undef, .undef, .undef, .undef, .undef, .undef, .undef, .undef, .undef, .undef, .undef, .undef, .undef, .undef, .undef, .undef, .undef, .undef, .undef, .undef, .undef, .undef, .undef, .undef, .undef, .undef, .undef, .undef, .undef, .undef, .undef, .undef, .undef, .undef, .undef, .undef, .undef, .undef, .undef, .undef, .undef, .undef, .undef, .undef, .undef, .undef, .undef, .undef, .undef, .undef, .undef, .undef, .undef, .undef, .undef, .undef, .undef, .undef, .undef, .undef, .undef, .undef, .undef, .undef, .undef, .undef, .undef, .undef, .undef, .undef, .undef, .undef, .undef, .undef, .undef, .undef, .undef, .undef, .undef, .undef, .undef, .undef, .undef, .undef, .undef, .undef, .undef, .undef, .undef, .undef, .undef, .undef, .undef, .undef, .undef, .undef, .undef, .undef, .undef, .undef, .undef, .undef, .undef, .undef, .undef, .undef, .undef, .undef, .undef, .undef, .undef, .undef, .undef, .undef, .undef, .undef, .undef, .undef, .undef, .undef, .undef, .undef, .undef, .undef, .undef, .undef, .undef, .undef, .undef, .undef, .undef, .undef, .undef, .undef, .undef, .undef, .undef, .undef, .undef, .undef, .undef, .undef, .undef, .undef, .undef, .undef, .undef, .undef, .undef, .undef, .undef, .undef, .undef, .undef, .undef, .undef, .undef, .undef, .undef, .undef, .undef, .undef, .undef, .undef, .undef, .undef], Mem.ofList [.box 24 [vs z5, .v (.slice none 0 0)], .box 24 [vs z6, .own 2 0 none], .row ⟨true, 4⟩ 1 z7], 3⟩
theorem tagged_ParseDump.e_eq {R : Type} (n : Nat) (rec : List Item → St → Option R) (K : AV → Option R) (a0 : ByteArray) :
    goK G (tagged_ParseDump.C n) tagged_ParseDump.cut (fun S => finK G Tryz.f11.resultTypes.toList Tryz.f11.results.toList S K) rec 1000 [.code (Tryz.f11.body.getD .skip)] (Ev.start Tryz.f11 [vs a0]) = tagged_ParseDump.e n (fun z1 z2 z3 z4 z5 z6 => rec tagged_ParseDump.t6 (tagged_ParseDump.s6 z1 z2 z3 z4 z5 z6)) (fun z1 z2 => rec tagged_ParseDump.t16 (tagged_ParseDump.s16 z1 z2)) (fun z1 z2 z3 z4 z5 z6 z7 z8 z9 => rec tagged_ParseDump.t25 (tagged_ParseDump.s25 z1 z2 z3 z4 z5 z6 z7 z8 z9)) (fun z1 z2 z3 z4 z5 z6 z7 => rec tagged_ParseDump.t33 (tagged_ParseDump.s33 z1 z2 z3 z4 z5 z6 z7)) (fun p => K (.tup [.agg [vs p.1, .fr ⟨true, 4⟩ 1 p.2.1], vi p.2.2.1, vi p.2.2.2])) a0 := by kernel_rfl
theorem tagged_ParseDump.r6_eq {R : Type} (n : Nat) (rec : List Item → St → Option R) (K : AV → Option R) (z1 : ByteArray) (z2 : Bool) (z3 : Int) (z4 : ByteArray) (z5 : ByteArray) (z6 : List AV) :
    atK G (tagged_ParseDump.C n) tagged_ParseDump.cut (fun S => finK G Tryz.f11.resultTypes.toList Tryz.f11.results.toList S K) rec tagged_ParseDump.t6 (tagged_ParseDump.s6 z1 z2 z3 z4 z5 z6) = tagged_ParseDump.r6 n (fun z1 z2 z3 z4 z5 z6 => rec tagged_ParseDump.t6 (tagged_ParseDump.s6 z1 z2 z3 z4 z5 z6)) (fun z1 z2 => rec tagged_ParseDump.t16 (tagged_ParseDump.s16 z1 z2)) (fun z1 z2 z3 z4 z5 z6 z7 z8 z9 => rec tagged_ParseDump.t25 (tagged_ParseDump.s25 z1 z2 z3 z4 z5 z6 z7 z8 z9)) (fun z1 z2 z3 z4 z5 z6 z7 => rec tagged_ParseDump.t33 (tagged_ParseDump.s33 z1 z2 z3 z4 z5 z6 z7)) (fun p => K (.tup [.agg [vs p.1, .fr ⟨true, 4⟩ 1 p.2.1], vi p.2.2.1, vi p.2.2.2])) z1 z2 z3 z4 z5 z6 := by kernel_rfl
theorem tagged_ParseDump.r16_eq {R : Type} (n : Nat) (rec : List Item → St → Option R) (K : AV → Option R) (z1 : Int) (z2 : ByteArray) :
    atK G (tagged_ParseDump.C n) tagged_ParseDump.cut (fun S => finK G Tryz.f11.resultTypes.toList Tryz.f11.results.toList S K) rec tagged_ParseDump.t16 (tagged_ParseDump.s16 z1 z2) = tagged_ParseDump.r16 n (fun z1 z2 z3 z4 z5 z6 => rec tagged_ParseDump.t6 (tagged_ParseDump.s6 z1 z2 z3 z4 z5 z6)) (fun z1 z2 => rec tagged_ParseDump.t16 (tagged_ParseDump.s16 z1 z2)) (fun z1 z2 z3 z4 z5 z6 z7 z8 z9 => rec tagged_ParseDump.t25 (tagged_ParseDump.s25 z1 z2 z3 z4 z5 z6 z7 z8 z9)) (fun z1 z2 z3 z4 z5 z6 z7 => rec tagged_ParseDump.t33 (tagged_ParseDump.s33 z1 z2 z3 z4 z5 z6 z7)) (fun p => K (.tup [.agg [vs p.1, .fr ⟨true, 4⟩ 1 p.2.1], vi p.2.2.1, vi p.2.2.2])) z1 z2 := by kernel_rfl
theorem tagged_ParseDump.r25_eq {R : Type} (n : Nat) (rec : List Item → St → Option R) (K : AV → Option R) (z1 : ByteArray) (z2 : Int) (z3 : ByteArray) (z4 : Int) (z5 : ByteArray) (z6 : Bool) (z7 : ByteArray) (z8 : ByteArray) (z9 : List AV) :
    atK G (tagged_ParseDump.C n) tagged_ParseDump.cut (fun S => finK G Tryz.f11.resultTypes.toList Tryz.f11.results.toList S K) rec tagged_ParseDump.t25 (tagged_ParseDump.s25 z1 z2 z3 z4 z5 z6 z7 z8 z9) = tagged_ParseDump.r25 n (fun z1 z2 z3 z4 z5 z6 => rec tagged_ParseDump.t6 (tagged_ParseDump.s6 z1 z2 z3 z4 z5 z6)) (fun z1 z2 => rec tagged_ParseDump.t16 (tagged_ParseDump.s16 z1 z2)) (fun z1 z2 z3 z4 z5 z6 z7 z8 z9 => rec tagged_ParseDump.t25 (tagged_ParseDump.s25 z1 z2 z3 z4 z5 z6 z7 z8 z9)) (fun z1 z2 z3 z4 z5 z6 z7 => rec tagged_ParseDump.t33 (tagged_ParseDump.s33 z1 z2 z3 z4 z5 z6 z7)) (fun p => K (.tup [.agg [vs p.1, .fr ⟨true, 4⟩ 1 p.2.1], vi p.2.2.1, vi p.2.2.2])) z1 z2 z3 z4 z5 z6 z7 z8 z9 := by kernel_rfl
theorem tagged_ParseDump.r33_eq {R : Type} (n : Nat) (rec : List Item → St → Option R) (K : AV → Option R) (z1 : ByteArray) (z2 : Bool) (z3 : Int) (z4 : ByteArray) (z5 : ByteArray) (z6 : ByteArray) (z7 : List AV) :
    atK G (tagged_ParseDump.C n) tagged_ParseDump.cut (fun S => finK G Tryz.f11.resultTypes.toList Tryz.f11.results.toList S K) rec tagged_ParseDump.t33 (tagged_ParseDump.s33 z1 z2 z3 z4 z5 z6 z7) = tagged_ParseDump.r33 n (fun z1 z2 z3 z4 z5 z6 => rec tagged_ParseDump.t6 (tagged_ParseDump.s6 z1 z2 z3 z4 z5 z6)) (fun z1 z2 => rec tagged_ParseDump.t16 (tagged_ParseDump.s16 z1 z2)) (fun z1 z2 z3 z4 z5 z6 z7 z8 z9 => rec tagged_ParseDump.t25 (tagged_ParseDump.s25 z1 z2 z3 z4 z5 z6 z7 z8 z9)) (fun z1 z2 z3 z4 z5 z6 z7 => rec tagged_ParseDump.t33 (tagged_ParseDump.s33 z1 z2 z3 z4 z5 z6 z7)) (fun p => K (.tup [.agg [vs p.1, .fr ⟨true, 4⟩ 1 p.2.1], vi p.2.2.1, vi p.2.2.2])) z1 z2 z3 z4 z5 z6 z7 := by kernel_rfl
noncomputable def tagged_ParseDump.l (n : Nat) : Nat → (ByteArray → Bool → Int → ByteArray → ByteArray → List AV → Option (ByteArray × List AV × Int × Int)) × (Int → ByteArray → Option (ByteArray × List AV × Int × Int)) × (ByteArray → Int → ByteArray → Int → ByteArray → Bool → ByteArray → ByteArray → List AV → Option (ByteArray × List AV × Int × Int)) × (ByteArray → Bool → Int → ByteArray → ByteArray → ByteArray → List AV → Option (ByteArray × List AV × Int × Int))
  | 0 => ((fun _ _ _ _ _ _ => none), (fun _ _ => none), (fun _ _ _ _ _ _ _ _ _ => none), (fun _ _ _ _ _ _ _ => none))
  | m + 1 => (tagged_ParseDump.r6 n ((tagged_ParseDump.l n m).1) ((tagged_ParseDump.l n m).2.1) ((tagged_ParseDump.l n m).2.2.1) ((tagged_ParseDump.l n m).2.2.2) Option.some, tagged_ParseDump.r16 n ((tagged_ParseDump.l n m).1) ((tagged_ParseDump.l n m).2.1) ((tagged_ParseDump.l n m).2.2.1) ((tagged_ParseDump.l n m).2.2.2) Option.some, tagged_ParseDump.r25 n ((tagged_ParseDump.l n m).1) ((tagged_ParseDump.l n m).2.1) ((tagged_ParseDump.l n m).2.2.1) ((tagged_ParseDump.l n m).2.2.2) Option.some, tagged_ParseDump.r33 n ((tagged_ParseDump.l n m).1) ((tagged_ParseDump.l n m).2.1) ((tagged_ParseDump.l n m).2.2.1) ((tagged_ParseDump.l n m).2.2.2) Option.some)
noncomputable def tagged_ParseDump.F (n : Nat) (a0 : ByteArray) : Option (ByteArray × List AV × Int × Int) := tagged_ParseDump.e n ((tagged_ParseDump.l n n).1) ((tagged_ParseDump.l n n).2.1) ((tagged_ParseDump.l n n).2.2.1) ((tagged_ParseDump.l n n).2.2.2) Option.some a0
noncomputable def tagged_ParseDump.dec (x : AV) : Option (ByteArray × List AV × Int × Int) := match x with | .tup [.agg [.v (.string p0), .fr ⟨true, 4⟩ 1 p1], .v (.int .i64 p2), .v (.int .i64 p3)] => Option.some (p0, p1, p2, p3) | _ => none
theorem tagged_ParseDump.dec_inv {p : ByteArray × List AV × Int × Int} (y : AV) (h : tagged_ParseDump.dec y = some p) : y = .tup [.agg [vs p.1, .fr ⟨true, 4⟩ 1 p.2.1], vi p.2.2.1, vi p.2.2.2] := by
  unfold tagged_ParseDump.dec at h
  split at h
  · cases h; rfl
  · cases h
theorem tagged_ParseDump.l_eq (n m : Nat) : (∀ (z1 : ByteArray) (z2 : Bool) (z3 : Int) (z4 : ByteArray) (z5 : ByteArray) (z6 : List AV), runK G (tagged_ParseDump.C n) tagged_ParseDump.cut (fun S => finK G Tryz.f11.resultTypes.toList Tryz.f11.results.toList S tagged_ParseDump.dec) m tagged_ParseDump.t6 (tagged_ParseDump.s6 z1 z2 z3 z4 z5 z6) = ((tagged_ParseDump.l n m).1) z1 z2 z3 z4 z5 z6) ∧ (∀ (z1 : Int) (z2 : ByteArray), runK G (tagged_ParseDump.C n) tagged_ParseDump.cut (fun S => finK G Tryz.f11.resultTypes.toList Tryz.f11.results.toList S tagged_ParseDump.dec) m tagged_ParseDump.t16 (tagged_ParseDump.s16 z1 z2) = ((tagged_ParseDump.l n m).2.1) z1 z2) ∧ (∀ (z1 : ByteArray) (z2 : Int) (z3 : ByteArray) (z4 : Int) (z5 : ByteArray) (z6 : Bool) (z7 : ByteArray) (z8 : ByteArray) (z9 : List AV), runK G (tagged_ParseDump.C n) tagged_ParseDump.cut (fun S => finK G Tryz.f11.resultTypes.toList Tryz.f11.results.toList S tagged_ParseDump.dec) m tagged_ParseDump.t25 (tagged_ParseDump.s25 z1 z2 z3 z4 z5 z6 z7 z8 z9) = ((tagged_ParseDump.l n m).2.2.1) z1 z2 z3 z4 z5 z6 z7 z8 z9) ∧ (∀ (z1 : ByteArray) (z2 : Bool) (z3 : Int) (z4 : ByteArray) (z5 : ByteArray) (z6 : ByteArray) (z7 : List AV), runK G (tagged_ParseDump.C n) tagged_ParseDump.cut (fun S => finK G Tryz.f11.resultTypes.toList Tryz.f11.results.toList S tagged_ParseDump.dec) m tagged_ParseDump.t33 (tagged_ParseDump.s33 z1 z2 z3 z4 z5 z6 z7) = ((tagged_ParseDump.l n m).2.2.2) z1 z2 z3 z4 z5 z6 z7) := by
  induction m with
  | zero => exact ⟨fun z1 z2 z3 z4 z5 z6 => rfl, fun z1 z2 => rfl, fun z1 z2 z3 z4 z5 z6 z7 z8 z9 => rfl, fun z1 z2 z3 z4 z5 z6 z7 => rfl⟩
  | succ m ih =>
    obtain ⟨h6, h16, h25, h33⟩ := ih
    have e6 : (fun (z1 : ByteArray) (z2 : Bool) (z3 : Int) (z4 : ByteArray) (z5 : ByteArray) (z6 : List AV) => runK G (tagged_ParseDump.C n) tagged_ParseDump.cut (fun S => finK G Tryz.f11.resultTypes.toList Tryz.f11.results.toList S tagged_ParseDump.dec) m tagged_ParseDump.t6 (tagged_ParseDump.s6 z1 z2 z3 z4 z5 z6)) = (tagged_ParseDump.l n m).1 := by funext z1 z2 z3 z4 z5 z6; exact h6 z1 z2 z3 z4 z5 z6
    have e16 : (fun (z1 : Int) (z2 : ByteArray) => runK G (tagged_ParseDump.C n) tagged_ParseDump.cut (fun S => finK G Tryz.f11.resultTypes.toList Tryz.f11.results.toList S tagged_ParseDump.dec) m tagged_ParseDump.t16 (tagged_ParseDump.s16 z1 z2)) = (tagged_ParseDump.l n m).2.1 := by funext z1 z2; exact h16 z1 z2
    have e25 : (fun (z1 : ByteArray) (z2 : Int) (z3 : ByteArray) (z4 : Int) (z5 : ByteArray) (z6 : Bool) (z7 : ByteArray) (z8 : ByteArray) (z9 : List AV) => runK G (tagged_ParseDump.C n) tagged_ParseDump.cut (fun S => finK G Tryz.f11.resultTypes.toList Tryz.f11.results.toList S tagged_ParseDump.dec) m tagged_ParseDump.t25 (tagged_ParseDump.s25 z1 z2 z3 z4 z5 z6 z7 z8 z9)) = (tagged_ParseDump.l n m).2.2.1 := by funext z1 z2 z3 z4 z5 z6 z7 z8 z9; exact h25 z1 z2 z3 z4 z5 z6 z7 z8 z9
    have e33 : (fun (z1 : ByteArray) (z2 : Bool) (z3 : Int) (z4 : ByteArray) (z5 : ByteArray) (z6 : ByteArray) (z7 : List AV) => runK G (tagged_ParseDump.C n) tagged_ParseDump.cut (fun S => finK G Tryz.f11.resultTypes.toList Tryz.f11.results.toList S tagged_ParseDump.dec) m tagged_ParseDump.t33 (tagged_ParseDump.s33 z1 z2 z3 z4 z5 z6 z7)) = (tagged_ParseDump.l n m).2.2.2 := by funext z1 z2 z3 z4 z5 z6 z7; exact h33 z1 z2 z3 z4 z5 z6 z7
    have q6 : ∀ (z1 : ByteArray) (z2 : Bool) (z3 : Int) (z4 : ByteArray) (z5 : ByteArray) (z6 : List AV), runK G (tagged_ParseDump.C n) tagged_ParseDump.cut (fun S => finK G Tryz.f11.resultTypes.toList Tryz.f11.results.toList S tagged_ParseDump.dec) (m + 1) tagged_ParseDump.t6 (tagged_ParseDump.s6 z1 z2 z3 z4 z5 z6) = ((tagged_ParseDump.l n (m + 1)).1) z1 z2 z3 z4 z5 z6 := by
      intro z1 z2 z3 z4 z5 z6
      rw [runK_succ]
      refine (tagged_ParseDump.r6_eq n _ tagged_ParseDump.dec z1 z2 z3 z4 z5 z6).trans ?_
      rw [e6, e16, e25, e33]
      rfl
    have q16 : ∀ (z1 : Int) (z2 : ByteArray), runK G (tagged_ParseDump.C n) tagged_ParseDump.cut (fun S => finK G Tryz.f11.resultTypes.toList Tryz.f11.results.toList S tagged_ParseDump.dec) (m + 1) tagged_ParseDump.t16 (tagged_ParseDump.s16 z1 z2) = ((tagged_ParseDump.l n (m + 1)).2.1) z1 z2 := by
      intro z1 z2
      rw [runK_succ]
      refine (tagged_ParseDump.r16_eq n _ tagged_ParseDump.dec z1 z2).trans ?_
      rw [e6, e16, e25, e33]
      rfl
    have q25 : ∀ (z1 : ByteArray) (z2 : Int) (z3 : ByteArray) (z4 : Int) (z5 : ByteArray) (z6 : Bool) (z7 : ByteArray) (z8 : ByteArray) (z9 : List AV), runK G (tagged_ParseDump.C n) tagged_ParseDump.cut (fun S => finK G Tryz.f11.resultTypes.toList Tryz.f11.results.toList S tagged_ParseDump.dec) (m + 1) tagged_ParseDump.t25 (tagged_ParseDump.s25 z1 z2 z3 z4 z5 z6 z7 z8 z9) = ((tagged_ParseDump.l n (m + 1)).2.2.1) z1 z2 z3 z4 z5 z6 z7 z8 z9 := by
      intro z1 z2 z3 z4 z5 z6 z7 z8 z9
      rw [runK_succ]
      refine (tagged_ParseDump.r25_eq n _ tagged_ParseDump.dec z1 z2 z3 z4 z5 z6 z7 z8 z9).trans ?_
      rw [e6, e16, e25, e33]
      rfl
    have q33 : ∀ (z1 : ByteArray) (z2 : Bool) (z3 : Int) (z4 : ByteArray) (z5 : ByteArray) (z6 : ByteArray) (z7 : List AV), runK G (tagged_ParseDump.C n) tagged_ParseDump.cut (fun S => finK G Tryz.f11.resultTypes.toList Tryz.f11.results.toList S tagged_ParseDump.dec) (m + 1) tagged_ParseDump.t33 (tagged_ParseDump.s33 z1 z2 z3 z4 z5 z6 z7) = ((tagged_ParseDump.l n (m + 1)).2.2.2) z1 z2 z3 z4 z5 z6 z7 := by
      intro z1 z2 z3 z4 z5 z6 z7
      rw [runK_succ]
      refine (tagged_ParseDump.r33_eq n _ tagged_ParseDump.dec z1 z2 z3 z4 z5 z6 z7).trans ?_
      rw [e6, e16, e25, e33]
      rfl
    exact ⟨q6, q16, q25, q33⟩
theorem tagged_ParseDump.hands (n : Nat) (a0 : ByteArray) {p : ByteArray × List AV × Int × Int} (h : tagged_ParseDump.F n a0 = some p) : HandsIn Tryz.prog 11 [vs a0] (.tup [.agg [vs p.1, .fr ⟨true, 4⟩ 1 p.2.1], vi p.2.2.1, vi p.2.2.2]) := by
  refine hands_of cfg mixed (fun _ => rfl) rfl (tagged_ParseDump.tells n) (fn := Tryz.f11) Tryz.func11 (by kernel_rfl) (by kernel_rfl) (cut := tagged_ParseDump.cut) (K := tagged_ParseDump.dec) (r := p) (n := n) tagged_ParseDump.dec_inv ?_
  rw [funK_getD (by kernel_rfl)]
  have h1 := tagged_ParseDump.e_eq n (runK G (tagged_ParseDump.C n) tagged_ParseDump.cut (fun S => finK G Tryz.f11.resultTypes.toList Tryz.f11.results.toList S tagged_ParseDump.dec) n) tagged_ParseDump.dec a0
  have hl := tagged_ParseDump.l_eq n n
  simp only [hl.1, hl.2.1, hl.2.2.1, hl.2.2.2] at h1
  exact h1.trans h
noncomputable def tagged_ParseDump.via {R : Type} (n : Nat) (xs : List AV) : (AV → Option R) → Option R := match xs with | [.v (.string a0)] => fun K => (tagged_ParseDump.F n a0).bind fun p => K (.tup [.agg [vs p.1, .fr ⟨true, 4⟩ 1 p.2.1], vi p.2.2.1, vi p.2.2.2]) | _ => fun _ => none
noncomputable def tagged_ParseDump.is (xs : List AV) : Bool := match xs with | [.v (.string _)] => true | _ => false
theorem tagged_ParseDump.tells1 {R : Type} (n : Nat) (xs : List AV) : Tells1 (R := R) Tryz.prog 11 xs (tagged_ParseDump.via n xs) := by
  unfold tagged_ParseDump.via
  split
  · exact Tells1.of (fun p hp => (tagged_ParseDump.hands n _ hp).hands rfl)
  · exact Tells1.none
end Go.Proofs.YtgmpnhfnkhohiaaGreatDoor.Ev

/- midrange/midrangebase.IsDigit, out of its evaluation. Printed by the session's own program. -/
namespace Go.Proofs.YtgmpnhfnkhohiaaGreatDoor.Ev
open Go Go.Proofs Go.Proofs.Ev
set_option linter.unusedVariables false
set_option maxRecDepth 100000
/-! midrange/midrangebase.IsDigit: function 96 -/
noncomputable def midrangebase_IsDigit.e {R : Type} (n : Nat)  (k : Bool → Option R) (a0 : Int) : Option R :=
  bif decide ((48 : Int) ≤ a0) then (k (decide (a0 ≤ 57))) else (k false)
noncomputable def midrangebase_IsDigit.C {R : Type} (n : Nat) (f : FuncId) (xs : List AV) : (AV → Option R) → Option R :=
  fun _ => none
theorem midrangebase_IsDigit.tells {R : Type} (n : Nat) : Tells (R := R) Tryz.prog (midrangebase_IsDigit.C n) := fun _ xs => Tells1.none
noncomputable def midrangebase_IsDigit.cut (r : Nat) : Option Keep := match r with  | _ => none
theorem midrangebase_IsDigit.e_eq {R : Type} (n : Nat) (rec : List Item → St → Option R) (K : AV → Option R) (a0 : Int) :
    goK G (midrangebase_IsDigit.C n) midrangebase_IsDigit.cut (fun S => finK G Tryz.f96.resultTypes.toList Tryz.f96.results.toList S K) rec 1000 [.code (Tryz.f96.body.getD .skip)] (Ev.start Tryz.f96 [vu a0]) = midrangebase_IsDigit.e n  (fun p => K (vb p)) a0 := by kernel_rfl
noncomputable def midrangebase_IsDigit.F (n : Nat) (a0 : Int) : Option (Bool) := midrangebase_IsDigit.e n  Option.some a0
noncomputable def midrangebase_IsDigit.dec (x : AV) : Option (Bool) := match x with | .v (.bool p0) => Option.some p0 | _ => none
theorem midrangebase_IsDigit.dec_inv {p : Bool} (y : AV) (h : midrangebase_IsDigit.dec y = some p) : y = vb p := by
  unfold midrangebase_IsDigit.dec at h
  split at h
  · cases h; rfl
  · cases h
theorem midrangebase_IsDigit.hands (n : Nat) (a0 : Int) {p : Bool} (h : midrangebase_IsDigit.F n a0 = some p) : HandsIn Tryz.prog 96 [vu a0] (vb p) := by
  refine hands_of cfg mixed (fun _ => rfl) rfl (midrangebase_IsDigit.tells n) (fn := Tryz.f96) Tryz.func96 (by kernel_rfl) (by kernel_rfl) (cut := midrangebase_IsDigit.cut) (K := midrangebase_IsDigit.dec) (r := p) (n := n) midrangebase_IsDigit.dec_inv ?_
  rw [funK_getD (by kernel_rfl)]
  have h1 := midrangebase_IsDigit.e_eq n (runK G (midrangebase_IsDigit.C n) midrangebase_IsDigit.cut (fun S => finK G Tryz.f96.resultTypes.toList Tryz.f96.results.toList S midrangebase_IsDigit.dec) n) midrangebase_IsDigit.dec a0
  exact h1.trans h
noncomputable def midrangebase_IsDigit.via {R : Type} (n : Nat) (xs : List AV) : (AV → Option R) → Option R := match xs with | [.v (.int .u8 a0)] => fun K => (midrangebase_IsDigit.F n a0).bind fun p => K (vb p) | _ => fun _ => none
noncomputable def midrangebase_IsDigit.is (xs : List AV) : Bool := match xs with | [.v (.int .u8 _)] => true | _ => false
theorem midrangebase_IsDigit.tells1 {R : Type} (n : Nat) (xs : List AV) : Tells1 (R := R) Tryz.prog 96 xs (midrangebase_IsDigit.via n xs) := by
  unfold midrangebase_IsDigit.via
  split
  · exact Tells1.of (fun p hp => (midrangebase_IsDigit.hands n _ hp).hands rfl)
  · exact Tells1.none
end Go.Proofs.YtgmpnhfnkhohiaaGreatDoor.Ev

/- midrange/midrangebase.NumberOf, out of its evaluation. Printed by the session's own program. -/
namespace Go.Proofs.YtgmpnhfnkhohiaaGreatDoor.Ev
open Go Go.Proofs Go.Proofs.Ev
set_option linter.unusedVariables false
set_option maxRecDepth 100000
/-! midrange/midrangebase.NumberOf: function 70 -/
noncomputable def midrangebase_NumberOf.r4 {R : Type} (n : Nat) (c4 : ByteArray → Bool → Option R) (c5 : Unit → Option R) (c8 : ByteArray → Bool → Int → Int → Option R) (k : Int × Bool → Option R) (z1 : ByteArray) (z2 : Bool) : Option R :=
  (midrangebase_Within.F n ((z1.size : Nat) : Int) 1 15).bind fun p3 =>
  bif !p3 then (c5 ()) else (bif decide ((0 : Int) < (z1.size : Nat)) then (let y4 : Int := (((z1.data.getD 0 0).toNat : Nat) : Int)
  bif y4 == 48 then (bif z2 then (c5 ()) else (let y5 : Bool := decide (((z1.size : Nat) : Int) > 1)
  bif y5 then (c5 ()) else (c8 z1 z2 0 0))) else (c8 z1 z2 0 0)) else none)
noncomputable def midrangebase_NumberOf.r5 {R : Type} (n : Nat) (c4 : ByteArray → Bool → Option R) (c5 : Unit → Option R) (c8 : ByteArray → Bool → Int → Int → Option R) (k : Int × Bool → Option R) (_ : Unit) : Option R :=
  k (0, false)
noncomputable def midrangebase_NumberOf.r8 {R : Type} (n : Nat) (c4 : ByteArray → Bool → Option R) (c5 : Unit → Option R) (c8 : ByteArray → Bool → Int → Int → Option R) (k : Int × Bool → Option R) (z1 : ByteArray) (z2 : Bool) (z3 : Int) (z4 : Int) : Option R :=
  let y6 : Bool := decide (z4 < ((z1.size : Nat) : Int))
  bif y6 then (bif decide ((0 : Int) ≤ z4) && decide (z4 < ((z1.size : Nat) : Int)) then (let y7 : Int := (((z1.data.getD ((z4).toNat) 0).toNat : Nat) : Int)
  (midrangebase_IsDigit.F n y7).bind fun p8 =>
  bif !p8 then (k (0, false)) else (bif decide ((0 : Int) ≤ z4) && decide (z4 < ((z1.size : Nat) : Int)) then (let y9 : Int := (((z1.data.getD ((z4).toNat) 0).toNat : Nat) : Int)
  let y10 : Int := IntKind.i64.wrap (IntKind.u8.wrap (y9 - 48))
  let y11 : Int := IntKind.i64.wrap ((IntKind.i64.wrap (z3 * 10)) + y10)
  c8 z1 z2 y11 (IntKind.i64.wrap (z4 + 1))) else none)) else none) else (bif z2 then (k (IntKind.i64.wrap (0 - z3), true)) else (k (z3, true)))
noncomputable def midrangebase_NumberOf.e {R : Type} (n : Nat) (c4 : ByteArray → Bool → Option R) (c5 : Unit → Option R) (c8 : ByteArray → Bool → Int → Int → Option R) (k : Int × Bool → Option R) (a0 : ByteArray) : Option R :=
  let y1 : Bool := decide (((a0.size : Nat) : Int) > 0)
  bif y1 then (bif decide ((0 : Int) < (a0.size : Nat)) then (let y2 : Int := (((a0.data.getD 0 0).toNat : Nat) : Int)
  bif y2 == 45 then (bif decide ((0 : Int) ≤ 1) && decide ((1 : Int) ≤ ((a0.size : Nat) : Int)) then (c4 (a0.extract 1 a0.size) (y2 == 45)) else none) else (c4 a0 (y2 == 45))) else none) else (c4 a0 false)
noncomputable def midrangebase_NumberOf.C {R : Type} (n : Nat) (f : FuncId) (xs : List AV) : (AV → Option R) → Option R :=
  bif Nat.beq f 42 then midrangebase_Within.via n xs else bif Nat.beq f 96 then midrangebase_IsDigit.via n xs else fun _ => none
theorem midrangebase_NumberOf.tells {R : Type} (n : Nat) : Tells (R := R) Tryz.prog (midrangebase_NumberOf.C n) := fun _ xs => tells_at (midrangebase_Within.tells1 n xs) (tells_at (midrangebase_IsDigit.tells1 n xs) (Tells1.none))
noncomputable def midrangebase_NumberOf.cut (r : Nat) : Option Keep := match r with | 4 => Option.some ⟨[0, 4], []⟩ | 5 => Option.some ⟨[], []⟩ | 8 => Option.some ⟨[0, 4, 5, 6], []⟩ | _ => none
noncomputable def midrangebase_NumberOf.t4 : List Item := (todoOf 4 1000 [.code (Tryz.f70.body.getD .skip)]).getD []
noncomputable def midrangebase_NumberOf.s4 (z1 : ByteArray) (z2 : Bool) : St := ⟨[vs z1, .undef, .undef, .undef, vb z2, .undef, .undef, .undef, .undef, .undef, .undef, .undef, .undef, .undef, .undef, .undef, .undef, .undef, .undef, .undef, .undef, .undef, .undef, .undef, .undef, .undef, .undef, .undef, .undef, .undef, .undef, .undef, .undef, .undef, .undef, .undef, .undef, .undef, .undef, .undef, .undef, .undef, .undef, .undef, .undef, .undef, .undef, .undef, .undef, .undef, .undef, .undef, .undef, .undef, .undef, .undef, .undef, .undef], Mem.ofList [], 0⟩
noncomputable def midrangebase_NumberOf.t5 : List Item := (todoOf 5 1000 [.code (Tryz.f70.body.getD .skip)]).getD []
noncomputable def midrangebase_NumberOf.s5 (_ : Unit) : St := ⟨[.undef, .undef, .undef, .undef, .undef, .undef, .undef, .undef, .undef, .undef, .undef, .undef, .undef, .undef, .undef, .undef, .undef, .undef, .undef, .undef, .undef, .undef, .undef, .undef, .undef, .undef, .undef, .undef, .undef, .undef, .undef, .undef, .undef, .undef, .undef, .undef, .undef, .undef, .undef, .undef, .undef, .undef, .undef, .undef, .undef, .undef, .undef, .undef, .undef, .undef, .undef, .undef, .undef, .undef, .undef, .undef, .undef, .undef], Mem.ofList [], 0⟩
noncomputable def midrangebase_NumberOf.t8 : List Item := (todoOf 8 1000 [.code (Tryz.f70.body.getD .skip)]).getD []
noncomputable def midrangebase_NumberOf.s8 (z1 : ByteArray) (z2 : Bool) (z3 : Int) (z4 : Int) : St := ⟨[vs z1, .undef, .undef, .undef, vb z2, vi z3, vi z4, .undef, .undef, .undef, .undef, .undef, .undef, .undef, .undef, .undef, .undef, .undef, .undef, .undef, .undef, .undef, .undef, .undef, .undef, .undef, .undef, .undef, .undef, .undef, .undef, .undef, .undef, .undef, .undef, .undef, .undef, .undef, .undef, .undef, .undef, .undef, .undef, .undef, .undef, .undef, .undef, .undef, .undef, .undef, .undef, .undef, .undef, .undef, .undef, .undef, .undef, .undef], Mem.ofList [], 0⟩
theorem midrangebase_NumberOf.e_eq {R : Type} (n : Nat) (rec : List Item → St → Option R) (K : AV → Option R) (a0 : ByteArray) :
    goK G (midrangebase_NumberOf.C n) midrangebase_NumberOf.cut (fun S => finK G Tryz.f70.resultTypes.toList Tryz.f70.results.toList S K) rec 1000 [.code (Tryz.f70.body.getD .skip)] (Ev.start Tryz.f70 [vs a0]) = midrangebase_NumberOf.e n (fun z1 z2 => rec midrangebase_NumberOf.t4 (midrangebase_NumberOf.s4 z1 z2)) (fun _ => rec midrangebase_NumberOf.t5 (midrangebase_NumberOf.s5 ())) (fun z1 z2 z3 z4 => rec midrangebase_NumberOf.t8 (midrangebase_NumberOf.s8 z1 z2 z3 z4)) (fun p => K (.tup [vi p.1, vb p.2])) a0 := by kernel_rfl
theorem midrangebase_NumberOf.r4_eq {R : Type} (n : Nat) (rec : List Item → St → Option R) (K : AV → Option R) (z1 : ByteArray) (z2 : Bool) :
    atK G (midrangebase_NumberOf.C n) midrangebase_NumberOf.cut (fun S => finK G Tryz.f70.resultTypes.toList Tryz.f70.results.toList S K) rec midrangebase_NumberOf.t4 (midrangebase_NumberOf.s4 z1 z2) = midrangebase_NumberOf.r4 n (fun z1 z2 => rec midrangebase_NumberOf.t4 (midrangebase_NumberOf.s4 z1 z2)) (fun _ => rec midrangebase_NumberOf.t5 (midrangebase_NumberOf.s5 ())) (fun z1 z2 z3 z4 => rec midrangebase_NumberOf.t8 (midrangebase_NumberOf.s8 z1 z2 z3 z4)) (fun p => K (.tup [vi p.1, vb p.2])) z1 z2 := by kernel_rfl
theorem midrangebase_NumberOf.r5_eq {R : Type} (n : Nat) (rec : List Item → St → Option R) (K : AV → Option R) (_ : Unit) :
    atK G (midrangebase_NumberOf.C n) midrangebase_NumberOf.cut (fun S => finK G Tryz.f70.resultTypes.toList Tryz.f70.results.toList S K) rec midrangebase_NumberOf.t5 (midrangebase_NumberOf.s5 ()) = midrangebase_NumberOf.r5 n (fun z1 z2 => rec midrangebase_NumberOf.t4 (midrangebase_NumberOf.s4 z1 z2)) (fun _ => rec midrangebase_NumberOf.t5 (midrangebase_NumberOf.s5 ())) (fun z1 z2 z3 z4 => rec midrangebase_NumberOf.t8 (midrangebase_NumberOf.s8 z1 z2 z3 z4)) (fun p => K (.tup [vi p.1, vb p.2])) () := by kernel_rfl
theorem midrangebase_NumberOf.r8_eq {R : Type} (n : Nat) (rec : List Item → St → Option R) (K : AV → Option R) (z1 : ByteArray) (z2 : Bool) (z3 : Int) (z4 : Int) :
    atK G (midrangebase_NumberOf.C n) midrangebase_NumberOf.cut (fun S => finK G Tryz.f70.resultTypes.toList Tryz.f70.results.toList S K) rec midrangebase_NumberOf.t8 (midrangebase_NumberOf.s8 z1 z2 z3 z4) = midrangebase_NumberOf.r8 n (fun z1 z2 => rec midrangebase_NumberOf.t4 (midrangebase_NumberOf.s4 z1 z2)) (fun _ => rec midrangebase_NumberOf.t5 (midrangebase_NumberOf.s5 ())) (fun z1 z2 z3 z4 => rec midrangebase_NumberOf.t8 (midrangebase_NumberOf.s8 z1 z2 z3 z4)) (fun p => K (.tup [vi p.1, vb p.2])) z1 z2 z3 z4 := by kernel_rfl
noncomputable def midrangebase_NumberOf.l (n : Nat) : Nat → (ByteArray → Bool → Option (Int × Bool)) × (Unit → Option (Int × Bool)) × (ByteArray → Bool → Int → Int → Option (Int × Bool))
  | 0 => ((fun _ _ => none), (fun _ => none), (fun _ _ _ _ => none))
  | m + 1 => (midrangebase_NumberOf.r4 n ((midrangebase_NumberOf.l n m).1) ((midrangebase_NumberOf.l n m).2.1) ((midrangebase_NumberOf.l n m).2.2) Option.some, midrangebase_NumberOf.r5 n ((midrangebase_NumberOf.l n m).1) ((midrangebase_NumberOf.l n m).2.1) ((midrangebase_NumberOf.l n m).2.2) Option.some, midrangebase_NumberOf.r8 n ((midrangebase_NumberOf.l n m).1) ((midrangebase_NumberOf.l n m).2.1) ((midrangebase_NumberOf.l n m).2.2) Option.some)
noncomputable def midrangebase_NumberOf.F (n : Nat) (a0 : ByteArray) : Option (Int × Bool) := midrangebase_NumberOf.e n ((midrangebase_NumberOf.l n n).1) ((midrangebase_NumberOf.l n n).2.1) ((midrangebase_NumberOf.l n n).2.2) Option.some a0
noncomputable def midrangebase_NumberOf.dec (x : AV) : Option (Int × Bool) := match x with | .tup [.v (.int .i64 p0), .v (.bool p1)] => Option.some (p0, p1) | _ => none
theorem midrangebase_NumberOf.dec_inv {p : Int × Bool} (y : AV) (h : midrangebase_NumberOf.dec y = some p) : y = .tup [vi p.1, vb p.2] := by
  unfold midrangebase_NumberOf.dec at h
  split at h
  · cases h; rfl
  · cases h
theorem midrangebase_NumberOf.l_eq (n m : Nat) : (∀ (z1 : ByteArray) (z2 : Bool), runK G (midrangebase_NumberOf.C n) midrangebase_NumberOf.cut (fun S => finK G Tryz.f70.resultTypes.toList Tryz.f70.results.toList S midrangebase_NumberOf.dec) m midrangebase_NumberOf.t4 (midrangebase_NumberOf.s4 z1 z2) = ((midrangebase_NumberOf.l n m).1) z1 z2) ∧ (∀ z : Unit, runK G (midrangebase_NumberOf.C n) midrangebase_NumberOf.cut (fun S => finK G Tryz.f70.resultTypes.toList Tryz.f70.results.toList S midrangebase_NumberOf.dec) m midrangebase_NumberOf.t5 (midrangebase_NumberOf.s5 z) = ((midrangebase_NumberOf.l n m).2.1) z) ∧ (∀ (z1 : ByteArray) (z2 : Bool) (z3 : Int) (z4 : Int), runK G (midrangebase_NumberOf.C n) midrangebase_NumberOf.cut (fun S => finK G Tryz.f70.resultTypes.toList Tryz.f70.results.toList S midrangebase_NumberOf.dec) m midrangebase_NumberOf.t8 (midrangebase_NumberOf.s8 z1 z2 z3 z4) = ((midrangebase_NumberOf.l n m).2.2) z1 z2 z3 z4) := by
  induction m with
  | zero => exact ⟨fun z1 z2 => rfl, fun _ => rfl, fun z1 z2 z3 z4 => rfl⟩
  | succ m ih =>
    obtain ⟨h4, h5, h8⟩ := ih
    have e4 : (fun (z1 : ByteArray) (z2 : Bool) => runK G (midrangebase_NumberOf.C n) midrangebase_NumberOf.cut (fun S => finK G Tryz.f70.resultTypes.toList Tryz.f70.results.toList S midrangebase_NumberOf.dec) m midrangebase_NumberOf.t4 (midrangebase_NumberOf.s4 z1 z2)) = (midrangebase_NumberOf.l n m).1 := by funext z1 z2; exact h4 z1 z2
    have e5 : (fun (_ : Unit) => runK G (midrangebase_NumberOf.C n) midrangebase_NumberOf.cut (fun S => finK G Tryz.f70.resultTypes.toList Tryz.f70.results.toList S midrangebase_NumberOf.dec) m midrangebase_NumberOf.t5 (midrangebase_NumberOf.s5 ())) = (midrangebase_NumberOf.l n m).2.1 := by funext z; exact h5 z
    have e8 : (fun (z1 : ByteArray) (z2 : Bool) (z3 : Int) (z4 : Int) => runK G (midrangebase_NumberOf.C n) midrangebase_NumberOf.cut (fun S => finK G Tryz.f70.resultTypes.toList Tryz.f70.results.toList S midrangebase_NumberOf.dec) m midrangebase_NumberOf.t8 (midrangebase_NumberOf.s8 z1 z2 z3 z4)) = (midrangebase_NumberOf.l n m).2.2 := by funext z1 z2 z3 z4; exact h8 z1 z2 z3 z4
    have q4 : ∀ (z1 : ByteArray) (z2 : Bool), runK G (midrangebase_NumberOf.C n) midrangebase_NumberOf.cut (fun S => finK G Tryz.f70.resultTypes.toList Tryz.f70.results.toList S midrangebase_NumberOf.dec) (m + 1) midrangebase_NumberOf.t4 (midrangebase_NumberOf.s4 z1 z2) = ((midrangebase_NumberOf.l n (m + 1)).1) z1 z2 := by
      intro z1 z2
      rw [runK_succ]
      refine (midrangebase_NumberOf.r4_eq n _ midrangebase_NumberOf.dec z1 z2).trans ?_
      rw [e4, e5, e8]
      rfl
    have q5 : ∀ z : Unit, runK G (midrangebase_NumberOf.C n) midrangebase_NumberOf.cut (fun S => finK G Tryz.f70.resultTypes.toList Tryz.f70.results.toList S midrangebase_NumberOf.dec) (m + 1) midrangebase_NumberOf.t5 (midrangebase_NumberOf.s5 z) = ((midrangebase_NumberOf.l n (m + 1)).2.1) z := by
      intro z
      rw [runK_succ]
      refine (midrangebase_NumberOf.r5_eq n _ midrangebase_NumberOf.dec ()).trans ?_
      rw [e4, e5, e8]
      rfl
    have q8 : ∀ (z1 : ByteArray) (z2 : Bool) (z3 : Int) (z4 : Int), runK G (midrangebase_NumberOf.C n) midrangebase_NumberOf.cut (fun S => finK G Tryz.f70.resultTypes.toList Tryz.f70.results.toList S midrangebase_NumberOf.dec) (m + 1) midrangebase_NumberOf.t8 (midrangebase_NumberOf.s8 z1 z2 z3 z4) = ((midrangebase_NumberOf.l n (m + 1)).2.2) z1 z2 z3 z4 := by
      intro z1 z2 z3 z4
      rw [runK_succ]
      refine (midrangebase_NumberOf.r8_eq n _ midrangebase_NumberOf.dec z1 z2 z3 z4).trans ?_
      rw [e4, e5, e8]
      rfl
    exact ⟨q4, q5, q8⟩
theorem midrangebase_NumberOf.hands (n : Nat) (a0 : ByteArray) {p : Int × Bool} (h : midrangebase_NumberOf.F n a0 = some p) : HandsIn Tryz.prog 70 [vs a0] (.tup [vi p.1, vb p.2]) := by
  refine hands_of cfg mixed (fun _ => rfl) rfl (midrangebase_NumberOf.tells n) (fn := Tryz.f70) Tryz.func70 (by kernel_rfl) (by kernel_rfl) (cut := midrangebase_NumberOf.cut) (K := midrangebase_NumberOf.dec) (r := p) (n := n) midrangebase_NumberOf.dec_inv ?_
  rw [funK_getD (by kernel_rfl)]
  have h1 := midrangebase_NumberOf.e_eq n (runK G (midrangebase_NumberOf.C n) midrangebase_NumberOf.cut (fun S => finK G Tryz.f70.resultTypes.toList Tryz.f70.results.toList S midrangebase_NumberOf.dec) n) midrangebase_NumberOf.dec a0
  have hl := midrangebase_NumberOf.l_eq n n
  simp only [hl.1, hl.2.1, hl.2.2] at h1
  exact h1.trans h
noncomputable def midrangebase_NumberOf.via {R : Type} (n : Nat) (xs : List AV) : (AV → Option R) → Option R := match xs with | [.v (.string a0)] => fun K => (midrangebase_NumberOf.F n a0).bind fun p => K (.tup [vi p.1, vb p.2]) | _ => fun _ => none
noncomputable def midrangebase_NumberOf.is (xs : List AV) : Bool := match xs with | [.v (.string _)] => true | _ => false
theorem midrangebase_NumberOf.tells1 {R : Type} (n : Nat) (xs : List AV) : Tells1 (R := R) Tryz.prog 70 xs (midrangebase_NumberOf.via n xs) := by
  unfold midrangebase_NumberOf.via
  split
  · exact Tells1.of (fun p hp => (midrangebase_NumberOf.hands n _ hp).hands rfl)
  · exact Tells1.none
end Go.Proofs.YtgmpnhfnkhohiaaGreatDoor.Ev

/- midrange/midrangeref03.countOf, out of its evaluation. Printed by the session's own program. -/
namespace Go.Proofs.YtgmpnhfnkhohiaaGreatDoor.Ev
open Go Go.Proofs Go.Proofs.Ev
set_option linter.unusedVariables false
set_option maxRecDepth 100000
/-! midrange/midrangeref03.countOf: function 37 -/
noncomputable def midrangeref03_countOf.r4 {R : Type} (n : Nat) (c4 : ByteArray → Int → Option R) (k : Int × Bool → Option R) (z1 : ByteArray) (z2 : Int) : Option R :=
  let y3 : Bool := decide (z2 < ((z1.size : Nat) : Int))
  bif y3 then (bif decide ((0 : Int) ≤ z2) && decide (z2 < ((z1.size : Nat) : Int)) then (let y4 : Int := (((z1.data.getD ((z2).toNat) 0).toNat : Nat) : Int)
  bif decide (y4 < 48) then (k (0, false)) else (bif decide ((0 : Int) ≤ z2) && decide (z2 < ((z1.size : Nat) : Int)) then (let y5 : Int := (((z1.data.getD ((z2).toNat) 0).toNat : Nat) : Int)
  bif decide (y5 > 57) then (k (0, false)) else (c4 z1 (IntKind.i64.wrap (z2 + 1)))) else none)) else none) else (bif decide ((0 : Int) < (z1.size : Nat)) then (let y6 : Int := (((z1.data.getD 0 0).toNat : Nat) : Int)
  k (999999999999999, y6 != 48)) else none)
noncomputable def midrangeref03_countOf.e {R : Type} (n : Nat) (c4 : ByteArray → Int → Option R) (k : Int × Bool → Option R) (a0 : ByteArray) : Option R :=
  let y1 : Bool := decide (((a0.size : Nat) : Int) ≤ 15)
  bif y1 then ((midrangebase_NumberOf.F n a0).bind fun p2 =>
  k (p2.1, p2.2)) else (c4 a0 0)
noncomputable def midrangeref03_countOf.C {R : Type} (n : Nat) (f : FuncId) (xs : List AV) : (AV → Option R) → Option R :=
  bif Nat.beq f 70 then midrangebase_NumberOf.via n xs else fun _ => none
theorem midrangeref03_countOf.tells {R : Type} (n : Nat) : Tells (R := R) Tryz.prog (midrangeref03_countOf.C n) := fun _ xs => tells_at (midrangebase_NumberOf.tells1 n xs) (Tells1.none)
noncomputable def midrangeref03_countOf.cut (r : Nat) : Option Keep := match r with | 4 => Option.some ⟨[0, 4], []⟩ | _ => none
noncomputable def midrangeref03_countOf.t4 : List Item := (todoOf 4 1000 [.code (Tryz.f37.body.getD .skip)]).getD []
noncomputable def midrangeref03_countOf.s4 (z1 : ByteArray) (z2 : Int) : St := ⟨[vs z1, .undef, .undef, .undef, vi z2, .undef, .undef, .undef, .undef, .undef, .undef, .undef, .undef, .undef, .undef, .undef, .undef, .undef, .undef, .undef, .undef, .undef, .undef, .undef, .undef, .undef, .undef, .undef, .undef, .undef, .undef], Mem.ofList [], 0⟩
theorem midrangeref03_countOf.e_eq {R : Type} (n : Nat) (rec : List Item → St → Option R) (K : AV → Option R) (a0 : ByteArray) :
    goK G (midrangeref03_countOf.C n) midrangeref03_countOf.cut (fun S => finK G Tryz.f37.resultTypes.toList Tryz.f37.results.toList S K) rec 1000 [.code (Tryz.f37.body.getD .skip)] (Ev.start Tryz.f37 [vs a0]) = midrangeref03_countOf.e n (fun z1 z2 => rec midrangeref03_countOf.t4 (midrangeref03_countOf.s4 z1 z2)) (fun p => K (.tup [vi p.1, vb p.2])) a0 := by kernel_rfl
theorem midrangeref03_countOf.r4_eq {R : Type} (n : Nat) (rec : List Item → St → Option R) (K : AV → Option R) (z1 : ByteArray) (z2 : Int) :
    atK G (midrangeref03_countOf.C n) midrangeref03_countOf.cut (fun S => finK G Tryz.f37.resultTypes.toList Tryz.f37.results.toList S K) rec midrangeref03_countOf.t4 (midrangeref03_countOf.s4 z1 z2) = midrangeref03_countOf.r4 n (fun z1 z2 => rec midrangeref03_countOf.t4 (midrangeref03_countOf.s4 z1 z2)) (fun p => K (.tup [vi p.1, vb p.2])) z1 z2 := by kernel_rfl
noncomputable def midrangeref03_countOf.l (n : Nat) : Nat → (ByteArray → Int → Option (Int × Bool))
  | 0 => (fun _ _ => none)
  | m + 1 => midrangeref03_countOf.r4 n (midrangeref03_countOf.l n m) Option.some
noncomputable def midrangeref03_countOf.F (n : Nat) (a0 : ByteArray) : Option (Int × Bool) := midrangeref03_countOf.e n (midrangeref03_countOf.l n n) Option.some a0
noncomputable def midrangeref03_countOf.dec (x : AV) : Option (Int × Bool) := match x with | .tup [.v (.int .i64 p0), .v (.bool p1)] => Option.some (p0, p1) | _ => none
theorem midrangeref03_countOf.dec_inv {p : Int × Bool} (y : AV) (h : midrangeref03_countOf.dec y = some p) : y = .tup [vi p.1, vb p.2] := by
  unfold midrangeref03_countOf.dec at h
  split at h
  · cases h; rfl
  · cases h
theorem midrangeref03_countOf.l_eq (n m : Nat) : (∀ (z1 : ByteArray) (z2 : Int), runK G (midrangeref03_countOf.C n) midrangeref03_countOf.cut (fun S => finK G Tryz.f37.resultTypes.toList Tryz.f37.results.toList S midrangeref03_countOf.dec) m midrangeref03_countOf.t4 (midrangeref03_countOf.s4 z1 z2) = (midrangeref03_countOf.l n m) z1 z2) := by
  induction m with
  | zero => exact fun z1 z2 => rfl
  | succ m ih =>
    have h4 := ih
    have e4 : (fun (z1 : ByteArray) (z2 : Int) => runK G (midrangeref03_countOf.C n) midrangeref03_countOf.cut (fun S => finK G Tryz.f37.resultTypes.toList Tryz.f37.results.toList S midrangeref03_countOf.dec) m midrangeref03_countOf.t4 (midrangeref03_countOf.s4 z1 z2)) = (midrangeref03_countOf.l n m) := by funext z1 z2; exact h4 z1 z2
    have q4 : ∀ (z1 : ByteArray) (z2 : Int), runK G (midrangeref03_countOf.C n) midrangeref03_countOf.cut (fun S => finK G Tryz.f37.resultTypes.toList Tryz.f37.results.toList S midrangeref03_countOf.dec) (m + 1) midrangeref03_countOf.t4 (midrangeref03_countOf.s4 z1 z2) = (midrangeref03_countOf.l n (m + 1)) z1 z2 := by
      intro z1 z2
      rw [runK_succ]
      refine (midrangeref03_countOf.r4_eq n _ midrangeref03_countOf.dec z1 z2).trans ?_
      rw [e4]
      rfl
    exact q4
theorem midrangeref03_countOf.hands (n : Nat) (a0 : ByteArray) {p : Int × Bool} (h : midrangeref03_countOf.F n a0 = some p) : HandsIn Tryz.prog 37 [vs a0] (.tup [vi p.1, vb p.2]) := by
  refine hands_of cfg mixed (fun _ => rfl) rfl (midrangeref03_countOf.tells n) (fn := Tryz.f37) Tryz.func37 (by kernel_rfl) (by kernel_rfl) (cut := midrangeref03_countOf.cut) (K := midrangeref03_countOf.dec) (r := p) (n := n) midrangeref03_countOf.dec_inv ?_
  rw [funK_getD (by kernel_rfl)]
  have h1 := midrangeref03_countOf.e_eq n (runK G (midrangeref03_countOf.C n) midrangeref03_countOf.cut (fun S => finK G Tryz.f37.resultTypes.toList Tryz.f37.results.toList S midrangeref03_countOf.dec) n) midrangeref03_countOf.dec a0
  have hl := midrangeref03_countOf.l_eq n n
  simp only [hl] at h1
  exact h1.trans h
noncomputable def midrangeref03_countOf.via {R : Type} (n : Nat) (xs : List AV) : (AV → Option R) → Option R := match xs with | [.v (.string a0)] => fun K => (midrangeref03_countOf.F n a0).bind fun p => K (.tup [vi p.1, vb p.2]) | _ => fun _ => none
noncomputable def midrangeref03_countOf.is (xs : List AV) : Bool := match xs with | [.v (.string _)] => true | _ => false
theorem midrangeref03_countOf.tells1 {R : Type} (n : Nat) (xs : List AV) : Tells1 (R := R) Tryz.prog 37 xs (midrangeref03_countOf.via n xs) := by
  unfold midrangeref03_countOf.via
  split
  · exact Tells1.of (fun p hp => (midrangeref03_countOf.hands n _ hp).hands rfl)
  · exact Tells1.none
end Go.Proofs.YtgmpnhfnkhohiaaGreatDoor.Ev

/- midrange/midrangebase.Repeat, out of its evaluation. Printed by the session's own program. -/
namespace Go.Proofs.YtgmpnhfnkhohiaaGreatDoor.Ev
open Go Go.Proofs Go.Proofs.Ev
set_option linter.unusedVariables false
set_option maxRecDepth 100000
/-! midrange/midrangebase.Repeat: function 71 -/
noncomputable def midrangebase_Repeat.r3 {R : Type} (n : Nat) (c3 : Int → Int → Int → List AV → Option R) (k : ByteArray → Option R) (z1 : Int) (z2 : Int) (z3 : Int) (z4 : List AV) : Option R :=
  bif decide (z3 < z2) then (bif decide (z4.length + [vu z1].length ≤ most) then (c3 z1 z2 (IntKind.i64.wrap (z3 + 1)) (z4 ++ [vu z1])) else none) else (withSome (strOf z4) fun bs1 =>
  k (⟨bs1.toArray⟩ : ByteArray))
noncomputable def midrangebase_Repeat.e {R : Type} (n : Nat) (c3 : Int → Int → Int → List AV → Option R) (k : ByteArray → Option R) (a0 : Int) (a1 : Int) : Option R :=
  c3 a0 a1 0 []
noncomputable def midrangebase_Repeat.C {R : Type} (n : Nat) (f : FuncId) (xs : List AV) : (AV → Option R) → Option R :=
  fun _ => none
theorem midrangebase_Repeat.tells {R : Type} (n : Nat) : Tells (R := R) Tryz.prog (midrangebase_Repeat.C n) := fun _ xs => Tells1.none
noncomputable def midrangebase_Repeat.cut (r : Nat) : Option Keep := match r with | 3 => Option.some ⟨[0, 1, 5, 6], [(5, none, ⟨true, 5⟩, 1)]⟩ | _ => none
noncomputable def midrangebase_Repeat.t3 : List Item := (todoOf 3 1000 [.code (Tryz.f71.body.getD .skip)]).getD []
noncomputable def midrangebase_Repeat.s3 (z1 : Int) (z2 : Int) (z3 : Int) (z4 : List AV) : St := ⟨[vu z1, vi z2, .undef, .undef, .undef, .own 0 0 none, vi z3, .undef, .undef, .undef, .undef, .undef, .undef, .undef, .undef, .undef, .undef, .undef], Mem.ofList [.row ⟨true, 5⟩ 1 z4], 1⟩
theorem midrangebase_Repeat.e_eq {R : Type} (n : Nat) (rec : List Item → St → Option R) (K : AV → Option R) (a0 : Int) (a1 : Int) :
    goK G (midrangebase_Repeat.C n) midrangebase_Repeat.cut (fun S => finK G Tryz.f71.resultTypes.toList Tryz.f71.results.toList S K) rec 1000 [.code (Tryz.f71.body.getD .skip)] (Ev.start Tryz.f71 [vu a0, vi a1]) = midrangebase_Repeat.e n (fun z1 z2 z3 z4 => rec midrangebase_Repeat.t3 (midrangebase_Repeat.s3 z1 z2 z3 z4)) (fun p => K (vs p)) a0 a1 := by kernel_rfl
theorem midrangebase_Repeat.r3_eq {R : Type} (n : Nat) (rec : List Item → St → Option R) (K : AV → Option R) (z1 : Int) (z2 : Int) (z3 : Int) (z4 : List AV) :
    atK G (midrangebase_Repeat.C n) midrangebase_Repeat.cut (fun S => finK G Tryz.f71.resultTypes.toList Tryz.f71.results.toList S K) rec midrangebase_Repeat.t3 (midrangebase_Repeat.s3 z1 z2 z3 z4) = midrangebase_Repeat.r3 n (fun z1 z2 z3 z4 => rec midrangebase_Repeat.t3 (midrangebase_Repeat.s3 z1 z2 z3 z4)) (fun p => K (vs p)) z1 z2 z3 z4 := by kernel_rfl
noncomputable def midrangebase_Repeat.l (n : Nat) : Nat → (Int → Int → Int → List AV → Option (ByteArray))
  | 0 => (fun _ _ _ _ => none)
  | m + 1 => midrangebase_Repeat.r3 n (midrangebase_Repeat.l n m) Option.some
noncomputable def midrangebase_Repeat.F (n : Nat) (a0 : Int) (a1 : Int) : Option (ByteArray) := midrangebase_Repeat.e n (midrangebase_Repeat.l n n) Option.some a0 a1
noncomputable def midrangebase_Repeat.dec (x : AV) : Option (ByteArray) := match x with | .v (.string p0) => Option.some p0 | _ => none
theorem midrangebase_Repeat.dec_inv {p : ByteArray} (y : AV) (h : midrangebase_Repeat.dec y = some p) : y = vs p := by
  unfold midrangebase_Repeat.dec at h
  split at h
  · cases h; rfl
  · cases h
theorem midrangebase_Repeat.l_eq (n m : Nat) : (∀ (z1 : Int) (z2 : Int) (z3 : Int) (z4 : List AV), runK G (midrangebase_Repeat.C n) midrangebase_Repeat.cut (fun S => finK G Tryz.f71.resultTypes.toList Tryz.f71.results.toList S midrangebase_Repeat.dec) m midrangebase_Repeat.t3 (midrangebase_Repeat.s3 z1 z2 z3 z4) = (midrangebase_Repeat.l n m) z1 z2 z3 z4) := by
  induction m with
  | zero => exact fun z1 z2 z3 z4 => rfl
  | succ m ih =>
    have h3 := ih
    have e3 : (fun (z1 : Int) (z2 : Int) (z3 : Int) (z4 : List AV) => runK G (midrangebase_Repeat.C n) midrangebase_Repeat.cut (fun S => finK G Tryz.f71.resultTypes.toList Tryz.f71.results.toList S midrangebase_Repeat.dec) m midrangebase_Repeat.t3 (midrangebase_Repeat.s3 z1 z2 z3 z4)) = (midrangebase_Repeat.l n m) := by funext z1 z2 z3 z4; exact h3 z1 z2 z3 z4
    have q3 : ∀ (z1 : Int) (z2 : Int) (z3 : Int) (z4 : List AV), runK G (midrangebase_Repeat.C n) midrangebase_Repeat.cut (fun S => finK G Tryz.f71.resultTypes.toList Tryz.f71.results.toList S midrangebase_Repeat.dec) (m + 1) midrangebase_Repeat.t3 (midrangebase_Repeat.s3 z1 z2 z3 z4) = (midrangebase_Repeat.l n (m + 1)) z1 z2 z3 z4 := by
      intro z1 z2 z3 z4
      rw [runK_succ]
      refine (midrangebase_Repeat.r3_eq n _ midrangebase_Repeat.dec z1 z2 z3 z4).trans ?_
      rw [e3]
      rfl
    exact q3
theorem midrangebase_Repeat.hands (n : Nat) (a0 : Int) (a1 : Int) {p : ByteArray} (h : midrangebase_Repeat.F n a0 a1 = some p) : HandsIn Tryz.prog 71 [vu a0, vi a1] (vs p) := by
  refine hands_of cfg mixed (fun _ => rfl) rfl (midrangebase_Repeat.tells n) (fn := Tryz.f71) Tryz.func71 (by kernel_rfl) (by kernel_rfl) (cut := midrangebase_Repeat.cut) (K := midrangebase_Repeat.dec) (r := p) (n := n) midrangebase_Repeat.dec_inv ?_
  rw [funK_getD (by kernel_rfl)]
  have h1 := midrangebase_Repeat.e_eq n (runK G (midrangebase_Repeat.C n) midrangebase_Repeat.cut (fun S => finK G Tryz.f71.resultTypes.toList Tryz.f71.results.toList S midrangebase_Repeat.dec) n) midrangebase_Repeat.dec a0 a1
  have hl := midrangebase_Repeat.l_eq n n
  simp only [hl] at h1
  exact h1.trans h
noncomputable def midrangebase_Repeat.via {R : Type} (n : Nat) (xs : List AV) : (AV → Option R) → Option R := match xs with | [.v (.int .u8 a0), .v (.int .i64 a1)] => fun K => (midrangebase_Repeat.F n a0 a1).bind fun p => K (vs p) | _ => fun _ => none
noncomputable def midrangebase_Repeat.is (xs : List AV) : Bool := match xs with | [.v (.int .u8 _), .v (.int .i64 _)] => true | _ => false
theorem midrangebase_Repeat.tells1 {R : Type} (n : Nat) (xs : List AV) : Tells1 (R := R) Tryz.prog 71 xs (midrangebase_Repeat.via n xs) := by
  unfold midrangebase_Repeat.via
  split
  · exact Tells1.of (fun p hp => (midrangebase_Repeat.hands n _ _ hp).hands rfl)
  · exact Tells1.none
end Go.Proofs.YtgmpnhfnkhohiaaGreatDoor.Ev

/- midrange/midrangeref03.digit, out of its evaluation. Printed by the session's own program. -/
namespace Go.Proofs.YtgmpnhfnkhohiaaGreatDoor.Ev
open Go Go.Proofs Go.Proofs.Ev
set_option linter.unusedVariables false
set_option maxRecDepth 100000
/-! midrange/midrangeref03.digit: function 72 -/
noncomputable def midrangeref03_digit.e {R : Type} (n : Nat)  (k : Int → Option R) (a0 : Int) : Option R :=
  (midrangebase_IsDigit.F n a0).bind fun p1 =>
  bif p1 then (let y2 : Int := IntKind.i64.wrap (IntKind.u8.wrap (a0 - 48))
  k y2) else ((midrangebase_Within.F n (IntKind.i64.wrap a0) 65 70).bind fun p3 =>
  bif p3 then (let y4 : Int := IntKind.i64.wrap (IntKind.u8.wrap (a0 - 65))
  k (IntKind.i64.wrap (y4 + 10))) else (k (-1)))
noncomputable def midrangeref03_digit.C {R : Type} (n : Nat) (f : FuncId) (xs : List AV) : (AV → Option R) → Option R :=
  bif Nat.beq f 42 then midrangebase_Within.via n xs else bif Nat.beq f 96 then midrangebase_IsDigit.via n xs else fun _ => none
theorem midrangeref03_digit.tells {R : Type} (n : Nat) : Tells (R := R) Tryz.prog (midrangeref03_digit.C n) := fun _ xs => tells_at (midrangebase_Within.tells1 n xs) (tells_at (midrangebase_IsDigit.tells1 n xs) (Tells1.none))
noncomputable def midrangeref03_digit.cut (r : Nat) : Option Keep := match r with  | _ => none
theorem midrangeref03_digit.e_eq {R : Type} (n : Nat) (rec : List Item → St → Option R) (K : AV → Option R) (a0 : Int) :
    goK G (midrangeref03_digit.C n) midrangeref03_digit.cut (fun S => finK G Tryz.f72.resultTypes.toList Tryz.f72.results.toList S K) rec 1000 [.code (Tryz.f72.body.getD .skip)] (Ev.start Tryz.f72 [vu a0]) = midrangeref03_digit.e n  (fun p => K (vi p)) a0 := by kernel_rfl
noncomputable def midrangeref03_digit.F (n : Nat) (a0 : Int) : Option (Int) := midrangeref03_digit.e n  Option.some a0
noncomputable def midrangeref03_digit.dec (x : AV) : Option (Int) := match x with | .v (.int .i64 p0) => Option.some p0 | _ => none
theorem midrangeref03_digit.dec_inv {p : Int} (y : AV) (h : midrangeref03_digit.dec y = some p) : y = vi p := by
  unfold midrangeref03_digit.dec at h
  split at h
  · cases h; rfl
  · cases h
theorem midrangeref03_digit.hands (n : Nat) (a0 : Int) {p : Int} (h : midrangeref03_digit.F n a0 = some p) : HandsIn Tryz.prog 72 [vu a0] (vi p) := by
  refine hands_of cfg mixed (fun _ => rfl) rfl (midrangeref03_digit.tells n) (fn := Tryz.f72) Tryz.func72 (by kernel_rfl) (by kernel_rfl) (cut := midrangeref03_digit.cut) (K := midrangeref03_digit.dec) (r := p) (n := n) midrangeref03_digit.dec_inv ?_
  rw [funK_getD (by kernel_rfl)]
  have h1 := midrangeref03_digit.e_eq n (runK G (midrangeref03_digit.C n) midrangeref03_digit.cut (fun S => finK G Tryz.f72.resultTypes.toList Tryz.f72.results.toList S midrangeref03_digit.dec) n) midrangeref03_digit.dec a0
  exact h1.trans h
noncomputable def midrangeref03_digit.via {R : Type} (n : Nat) (xs : List AV) : (AV → Option R) → Option R := match xs with | [.v (.int .u8 a0)] => fun K => (midrangeref03_digit.F n a0).bind fun p => K (vi p) | _ => fun _ => none
noncomputable def midrangeref03_digit.is (xs : List AV) : Bool := match xs with | [.v (.int .u8 _)] => true | _ => false
theorem midrangeref03_digit.tells1 {R : Type} (n : Nat) (xs : List AV) : Tells1 (R := R) Tryz.prog 72 xs (midrangeref03_digit.via n xs) := by
  unfold midrangeref03_digit.via
  split
  · exact Tells1.of (fun p hp => (midrangeref03_digit.hands n _ hp).hands rfl)
  · exact Tells1.none
end Go.Proofs.YtgmpnhfnkhohiaaGreatDoor.Ev

/- midrange/midrangeref03.quadOf, out of its evaluation. Printed by the session's own program. -/
namespace Go.Proofs.YtgmpnhfnkhohiaaGreatDoor.Ev
open Go Go.Proofs Go.Proofs.Ev
set_option linter.unusedVariables false
set_option maxRecDepth 100000
/-! midrange/midrangeref03.quadOf: function 39 -/
noncomputable def midrangeref03_quadOf.r2 {R : Type} (n : Nat) (c2 : Unit → Option R) (c5 : ByteArray → Int → List AV → Option R) (c11 : ByteArray → Int → Int → Int → List AV → Option R) (k : ByteArray × Bool × Bool → Option R) (_ : Unit) : Option R :=
  (midrangebase_Repeat.F n 0 16).bind fun p8 =>
  k (p8, false, false)
noncomputable def midrangeref03_quadOf.r5 {R : Type} (n : Nat) (c2 : Unit → Option R) (c5 : ByteArray → Int → List AV → Option R) (c11 : ByteArray → Int → Int → Int → List AV → Option R) (k : ByteArray × Bool × Bool → Option R) (z1 : ByteArray) (z2 : Int) (z3 : List AV) : Option R :=
  bif decide (z2 < 4) then (let y9 : Int := IntKind.i64.wrap ((9 : Int) * z2)
  let y10 : Int := IntKind.i64.wrap ((8 : Int) + y9)
  bif decide ((0 : Int) ≤ IntKind.i64.wrap (y10 + 8)) && decide (IntKind.i64.wrap (y10 + 8) < ((z1.size : Nat) : Int)) then (let y11 : Int := (((z1.data.getD ((IntKind.i64.wrap (y10 + 8)).toNat) 0).toNat : Nat) : Int)
  bif y11 != 32 then ((midrangebase_Repeat.F n 0 16).bind fun p12 =>
  k (p12, false, false)) else (c11 z1 z2 y10 0 z3)) else none) else (withSome (strOf z3) fun bs13 =>
  bif decide ((44 : Int) < (z1.size : Nat)) then (let y14 : Int := (((z1.data.getD 44 0).toNat : Nat) : Int)
  k ((⟨bs13.toArray⟩ : ByteArray), y14 == 80, true)) else none)
noncomputable def midrangeref03_quadOf.r11 {R : Type} (n : Nat) (c2 : Unit → Option R) (c5 : ByteArray → Int → List AV → Option R) (c11 : ByteArray → Int → Int → Int → List AV → Option R) (k : ByteArray × Bool × Bool → Option R) (z1 : ByteArray) (z2 : Int) (z3 : Int) (z4 : Int) (z5 : List AV) : Option R :=
  bif decide (z4 < 8) then (bif decide ((0 : Int) ≤ IntKind.i64.wrap (z3 + z4)) && decide (IntKind.i64.wrap (z3 + z4) < ((z1.size : Nat) : Int)) then (let y15 : Int := (((z1.data.getD ((IntKind.i64.wrap (z3 + z4)).toNat) 0).toNat : Nat) : Int)
  (midrangeref03_digit.F n y15).bind fun p16 =>
  let y17 : Int := IntKind.i64.wrap ((IntKind.i64.wrap (z3 + z4)) + 1)
  bif decide ((0 : Int) ≤ y17) && decide (y17 < ((z1.size : Nat) : Int)) then (let y18 : Int := (((z1.data.getD ((y17).toNat) 0).toNat : Nat) : Int)
  (midrangeref03_digit.F n y18).bind fun p19 =>
  bif decide (p16 < 0) then ((midrangebase_Repeat.F n 0 16).bind fun p20 =>
  k (p20, false, false)) else (bif decide (p19 < 0) then ((midrangebase_Repeat.F n 0 16).bind fun p21 =>
  k (p21, false, false)) else (let y22 : Int := IntKind.i64.wrap ((16 : Int) * p16)
  let y23 : Int := IntKind.u8.wrap (IntKind.i64.wrap (y22 + p19))
  bif decide (z5.length + [vu y23].length ≤ most) then (c11 z1 z2 z3 (IntKind.i64.wrap (z4 + 2)) (z5 ++ [vu y23])) else none))) else none) else none) else (c5 z1 (IntKind.i64.wrap (z2 + 1)) z5)
noncomputable def midrangeref03_quadOf.e {R : Type} (n : Nat) (c2 : Unit → Option R) (c5 : ByteArray → Int → List AV → Option R) (c11 : ByteArray → Int → Int → Int → List AV → Option R) (k : ByteArray × Bool × Bool → Option R) (a0 : ByteArray) (a1 : Int) : Option R :=
  let y1 : Bool := ((a0.size : Nat) : Int) != 45
  bif y1 then (c2 ()) else (bif decide ((0 : Int) ≤ 6) && decide ((6 : Int) ≤ ((a0.size : Nat) : Int)) then ((midrangebase_BigBytes.F n (IntKind.i64.wrap (a1 * 16)) 3).bind fun p2 =>
  (midrangeref03_hex.F n p2).bind fun p3 =>
  let y4 : Bool := !((a0.extract 0 6).toList == p3.toList)
  bif y4 then (c2 ()) else (bif decide ((0 : Int) ≤ 8) && decide ((8 : Int) ≤ ((a0.size : Nat) : Int)) then (bif decide ((0 : Int) ≤ 6) && decide ((6 : Int) ≤ 8) then (let y5 : Bool := !((a0.extract 6 8).toList == (⟨#[58, 32]⟩ : ByteArray).toList)
  bif y5 then (c2 ()) else (bif decide ((44 : Int) < (a0.size : Nat)) then (let y6 : Int := (((a0.data.getD 44 0).toNat : Nat) : Int)
  bif y6 != 80 then (bif decide ((44 : Int) < (a0.size : Nat)) then (let y7 : Int := (((a0.data.getD 44 0).toNat : Nat) : Int)
  bif y7 != 45 then (c2 ()) else (c5 a0 0 [])) else none) else (c5 a0 0 [])) else none)) else none) else none)) else none)
noncomputable def midrangeref03_quadOf.C {R : Type} (n : Nat) (f : FuncId) (xs : List AV) : (AV → Option R) → Option R :=
  bif Nat.beq f 19 then midrangebase_BigBytes.via n xs else bif Nat.beq f 52 then midrangeref03_hex.via n xs else bif Nat.beq f 71 then midrangebase_Repeat.via n xs else bif Nat.beq f 72 then midrangeref03_digit.via n xs else fun _ => none
theorem midrangeref03_quadOf.tells {R : Type} (n : Nat) : Tells (R := R) Tryz.prog (midrangeref03_quadOf.C n) := fun _ xs => tells_at (midrangebase_BigBytes.tells1 n xs) (tells_at (midrangeref03_hex.tells1 n xs) (tells_at (midrangebase_Repeat.tells1 n xs) (tells_at (midrangeref03_digit.tells1 n xs) (Tells1.none))))
noncomputable def midrangeref03_quadOf.cut (r : Nat) : Option Keep := match r with | 2 => Option.some ⟨[], []⟩ | 5 => Option.some ⟨[0, 7, 8], [(7, none, ⟨true, 5⟩, 1)]⟩ | 11 => Option.some ⟨[0, 7, 8, 9, 10], [(7, none, ⟨true, 5⟩, 1)]⟩ | _ => none
noncomputable def midrangeref03_quadOf.t2 : List Item := (todoOf 2 1000 [.code (Tryz.f39.body.getD .skip)]).getD []
noncomputable def midrangeref03_quadOf.s2 (_ : Unit) : St := ⟨[.undef, .undef, .undef, .undef, .undef, .undef, .undef, .undef, .undef, .undef, .undef, .undef, .undef, .undef, .undef, .undef, .undef, .undef, .undef, .undef, .undef, .undef, .undef, .undef, .undef, .undef, .undef, .undef, .undef, .undef, .undef, .undef, .undef, .undef, .undef, .undef, .undef, .undef, .undef, .undef, .undef, .undef, .undef, .undef, .undef, .undef, .undef, .undef, .undef, .undef, .undef, .undef, .undef, .undef, .undef, .undef, .undef, .undef, .undef, .undef, .undef, .undef, .undef, .undef, .undef, .undef, .undef, .undef, .undef, .undef, .undef, .undef, .undef, .undef, .undef, .undef, .undef, .undef, .undef, .undef, .undef, .undef, .undef, .undef, .undef, .undef, .undef, .undef, .undef, .undef, .undef], Mem.ofList [], 0⟩
noncomputable def midrangeref03_quadOf.t5 : List Item := (todoOf 5 1000 [.code (Tryz.f39.body.getD .skip)]).getD []
noncomputable def midrangeref03_quadOf.s5 (z1 : ByteArray) (z2 : Int) (z3 : List AV) : St := ⟨[vs z1, .undef, .undef, .undef, .undef, .undef, .undef, .own 0 0 none, vi z2, .undef, .undef, .undef, .undef, .undef, .undef, .undef, .undef, .undef, .undef, .undef, .undef, .undef, .undef, .undef, .undef, .undef, .undef, .undef, .undef, .undef, .undef, .undef, .undef, .undef, .undef, .undef, .undef, .undef, .undef, .undef, .undef, .undef, .undef, .undef, .undef, .undef, .undef, .undef, .undef, .undef, .undef, .undef, .undef, .undef, .undef, .undef, .undef, .undef, .undef, .undef, .undef, .undef, .undef, .undef, .undef, .undef, .undef, .undef, .undef, .undef, .undef, .undef, .undef, .undef, .undef, .undef, .undef, .undef, .undef, .undef, .undef, .undef, .undef, .undef, .undef, .undef, .undef, .undef, .undef, .undef, .undef], Mem.ofList [.row ⟨true, 5⟩ 1 z3], 1⟩
noncomputable def midrangeref03_quadOf.t11 : List Item := (todoOf 11 1000 [.code (Tryz.f39.body.getD .skip)]).getD []
noncomputable def midrangeref03_quadOf.s11 (z1 : ByteArray) (z2 : Int) (z3 : Int) (z4 : Int) (z5 : List AV) : St := ⟨[vs z1, .undef, .undef, .undef, .undef, .undef, .undef, .own 0 0 none, vi z2, vi z3, vi z4, .undef, .undef, .undef, .undef, .undef, .undef, .undef, .undef, .undef, .undef, .undef, .undef, .undef, .undef, .undef, .undef, .undef, .undef, .undef, .undef, .undef, .undef, .undef, .undef, .undef, .undef, .undef, .undef, .undef, .undef, .undef, .undef, .undef, .undef, .undef, .undef, .undef, .undef, .undef, .undef, .undef, .undef, .undef, .undef, .undef, .undef, .undef, .undef, .undef, .undef, .undef, .undef, .undef, .undef, .undef, .undef, .undef, .undef, .undef, .undef, .undef, .undef, .undef, .undef, .undef, .undef, .undef, .undef, .undef, .undef, .undef, .undef, .undef, .undef, .undef, .undef, .undef, .undef, .undef, .undef], Mem.ofList [.row ⟨true, 5⟩ 1 z5], 1⟩
theorem midrangeref03_quadOf.e_eq {R : Type} (n : Nat) (rec : List Item → St → Option R) (K : AV → Option R) (a0 : ByteArray) (a1 : Int) :
    goK G (midrangeref03_quadOf.C n) midrangeref03_quadOf.cut (fun S => finK G Tryz.f39.resultTypes.toList Tryz.f39.results.toList S K) rec 1000 [.code (Tryz.f39.body.getD .skip)] (Ev.start Tryz.f39 [vs a0, vi a1]) = midrangeref03_quadOf.e n (fun _ => rec midrangeref03_quadOf.t2 (midrangeref03_quadOf.s2 ())) (fun z1 z2 z3 => rec midrangeref03_quadOf.t5 (midrangeref03_quadOf.s5 z1 z2 z3)) (fun z1 z2 z3 z4 z5 => rec midrangeref03_quadOf.t11 (midrangeref03_quadOf.s11 z1 z2 z3 z4 z5)) (fun p => K (.tup [vs p.1, vb p.2.1, vb p.2.2])) a0 a1 := by kernel_rfl
theorem midrangeref03_quadOf.r2_eq {R : Type} (n : Nat) (rec : List Item → St → Option R) (K : AV → Option R) (_ : Unit) :
    atK G (midrangeref03_quadOf.C n) midrangeref03_quadOf.cut (fun S => finK G Tryz.f39.resultTypes.toList Tryz.f39.results.toList S K) rec midrangeref03_quadOf.t2 (midrangeref03_quadOf.s2 ()) = midrangeref03_quadOf.r2 n (fun _ => rec midrangeref03_quadOf.t2 (midrangeref03_quadOf.s2 ())) (fun z1 z2 z3 => rec midrangeref03_quadOf.t5 (midrangeref03_quadOf.s5 z1 z2 z3)) (fun z1 z2 z3 z4 z5 => rec midrangeref03_quadOf.t11 (midrangeref03_quadOf.s11 z1 z2 z3 z4 z5)) (fun p => K (.tup [vs p.1, vb p.2.1, vb p.2.2])) () := by kernel_rfl
theorem midrangeref03_quadOf.r5_eq {R : Type} (n : Nat) (rec : List Item → St → Option R) (K : AV → Option R) (z1 : ByteArray) (z2 : Int) (z3 : List AV) :
    atK G (midrangeref03_quadOf.C n) midrangeref03_quadOf.cut (fun S => finK G Tryz.f39.resultTypes.toList Tryz.f39.results.toList S K) rec midrangeref03_quadOf.t5 (midrangeref03_quadOf.s5 z1 z2 z3) = midrangeref03_quadOf.r5 n (fun _ => rec midrangeref03_quadOf.t2 (midrangeref03_quadOf.s2 ())) (fun z1 z2 z3 => rec midrangeref03_quadOf.t5 (midrangeref03_quadOf.s5 z1 z2 z3)) (fun z1 z2 z3 z4 z5 => rec midrangeref03_quadOf.t11 (midrangeref03_quadOf.s11 z1 z2 z3 z4 z5)) (fun p => K (.tup [vs p.1, vb p.2.1, vb p.2.2])) z1 z2 z3 := by kernel_rfl
theorem midrangeref03_quadOf.r11_eq {R : Type} (n : Nat) (rec : List Item → St → Option R) (K : AV → Option R) (z1 : ByteArray) (z2 : Int) (z3 : Int) (z4 : Int) (z5 : List AV) :
    atK G (midrangeref03_quadOf.C n) midrangeref03_quadOf.cut (fun S => finK G Tryz.f39.resultTypes.toList Tryz.f39.results.toList S K) rec midrangeref03_quadOf.t11 (midrangeref03_quadOf.s11 z1 z2 z3 z4 z5) = midrangeref03_quadOf.r11 n (fun _ => rec midrangeref03_quadOf.t2 (midrangeref03_quadOf.s2 ())) (fun z1 z2 z3 => rec midrangeref03_quadOf.t5 (midrangeref03_quadOf.s5 z1 z2 z3)) (fun z1 z2 z3 z4 z5 => rec midrangeref03_quadOf.t11 (midrangeref03_quadOf.s11 z1 z2 z3 z4 z5)) (fun p => K (.tup [vs p.1, vb p.2.1, vb p.2.2])) z1 z2 z3 z4 z5 := by kernel_rfl
noncomputable def midrangeref03_quadOf.l (n : Nat) : Nat → (Unit → Option (ByteArray × Bool × Bool)) × (ByteArray → Int → List AV → Option (ByteArray × Bool × Bool)) × (ByteArray → Int → Int → Int → List AV → Option (ByteArray × Bool × Bool))
  | 0 => ((fun _ => none), (fun _ _ _ => none), (fun _ _ _ _ _ => none))
  | m + 1 => (midrangeref03_quadOf.r2 n ((midrangeref03_quadOf.l n m).1) ((midrangeref03_quadOf.l n m).2.1) ((midrangeref03_quadOf.l n m).2.2) Option.some, midrangeref03_quadOf.r5 n ((midrangeref03_quadOf.l n m).1) ((midrangeref03_quadOf.l n m).2.1) ((midrangeref03_quadOf.l n m).2.2) Option.some, midrangeref03_quadOf.r11 n ((midrangeref03_quadOf.l n m).1) ((midrangeref03_quadOf.l n m).2.1) ((midrangeref03_quadOf.l n m).2.2) Option.some)
noncomputable def midrangeref03_quadOf.F (n : Nat) (a0 : ByteArray) (a1 : Int) : Option (ByteArray × Bool × Bool) := midrangeref03_quadOf.e n ((midrangeref03_quadOf.l n n).1) ((midrangeref03_quadOf.l n n).2.1) ((midrangeref03_quadOf.l n n).2.2) Option.some a0 a1
noncomputable def midrangeref03_quadOf.dec (x : AV) : Option (ByteArray × Bool × Bool) := match x with | .tup [.v (.string p0), .v (.bool p1), .v (.bool p2)] => Option.some (p0, p1, p2) | _ => none
theorem midrangeref03_quadOf.dec_inv {p : ByteArray × Bool × Bool} (y : AV) (h : midrangeref03_quadOf.dec y = some p) : y = .tup [vs p.1, vb p.2.1, vb p.2.2] := by
  unfold midrangeref03_quadOf.dec at h
  split at h
  · cases h; rfl
  · cases h
theorem midrangeref03_quadOf.l_eq (n m : Nat) : (∀ z : Unit, runK G (midrangeref03_quadOf.C n) midrangeref03_quadOf.cut (fun S => finK G Tryz.f39.resultTypes.toList Tryz.f39.results.toList S midrangeref03_quadOf.dec) m midrangeref03_quadOf.t2 (midrangeref03_quadOf.s2 z) = ((midrangeref03_quadOf.l n m).1) z) ∧ (∀ (z1 : ByteArray) (z2 : Int) (z3 : List AV), runK G (midrangeref03_quadOf.C n) midrangeref03_quadOf.cut (fun S => finK G Tryz.f39.resultTypes.toList Tryz.f39.results.toList S midrangeref03_quadOf.dec) m midrangeref03_quadOf.t5 (midrangeref03_quadOf.s5 z1 z2 z3) = ((midrangeref03_quadOf.l n m).2.1) z1 z2 z3) ∧ (∀ (z1 : ByteArray) (z2 : Int) (z3 : Int) (z4 : Int) (z5 : List AV), runK G (midrangeref03_quadOf.C n) midrangeref03_quadOf.cut (fun S => finK G Tryz.f39.resultTypes.toList Tryz.f39.results.toList S midrangeref03_quadOf.dec) m midrangeref03_quadOf.t11 (midrangeref03_quadOf.s11 z1 z2 z3 z4 z5) = ((midrangeref03_quadOf.l n m).2.2) z1 z2 z3 z4 z5) := by
  induction m with
  | zero => exact ⟨fun _ => rfl, fun z1 z2 z3 => rfl, fun z1 z2 z3 z4 z5 => rfl⟩
  | succ m ih =>
    obtain ⟨h2, h5, h11⟩ := ih
    have e2 : (fun (_ : Unit) => runK G (midrangeref03_quadOf.C n) midrangeref03_quadOf.cut (fun S => finK G Tryz.f39.resultTypes.toList Tryz.f39.results.toList S midrangeref03_quadOf.dec) m midrangeref03_quadOf.t2 (midrangeref03_quadOf.s2 ())) = (midrangeref03_quadOf.l n m).1 := by funext z; exact h2 z
    have e5 : (fun (z1 : ByteArray) (z2 : Int) (z3 : List AV) => runK G (midrangeref03_quadOf.C n) midrangeref03_quadOf.cut (fun S => finK G Tryz.f39.resultTypes.toList Tryz.f39.results.toList S midrangeref03_quadOf.dec) m midrangeref03_quadOf.t5 (midrangeref03_quadOf.s5 z1 z2 z3)) = (midrangeref03_quadOf.l n m).2.1 := by funext z1 z2 z3; exact h5 z1 z2 z3
    have e11 : (fun (z1 : ByteArray) (z2 : Int) (z3 : Int) (z4 : Int) (z5 : List AV) => runK G (midrangeref03_quadOf.C n) midrangeref03_quadOf.cut (fun S => finK G Tryz.f39.resultTypes.toList Tryz.f39.results.toList S midrangeref03_quadOf.dec) m midrangeref03_quadOf.t11 (midrangeref03_quadOf.s11 z1 z2 z3 z4 z5)) = (midrangeref03_quadOf.l n m).2.2 := by funext z1 z2 z3 z4 z5; exact h11 z1 z2 z3 z4 z5
    have q2 : ∀ z : Unit, runK G (midrangeref03_quadOf.C n) midrangeref03_quadOf.cut (fun S => finK G Tryz.f39.resultTypes.toList Tryz.f39.results.toList S midrangeref03_quadOf.dec) (m + 1) midrangeref03_quadOf.t2 (midrangeref03_quadOf.s2 z) = ((midrangeref03_quadOf.l n (m + 1)).1) z := by
      intro z
      rw [runK_succ]
      refine (midrangeref03_quadOf.r2_eq n _ midrangeref03_quadOf.dec ()).trans ?_
      rw [e2, e5, e11]
      rfl
    have q5 : ∀ (z1 : ByteArray) (z2 : Int) (z3 : List AV), runK G (midrangeref03_quadOf.C n) midrangeref03_quadOf.cut (fun S => finK G Tryz.f39.resultTypes.toList Tryz.f39.results.toList S midrangeref03_quadOf.dec) (m + 1) midrangeref03_quadOf.t5 (midrangeref03_quadOf.s5 z1 z2 z3) = ((midrangeref03_quadOf.l n (m + 1)).2.1) z1 z2 z3 := by
      intro z1 z2 z3
      rw [runK_succ]
      refine (midrangeref03_quadOf.r5_eq n _ midrangeref03_quadOf.dec z1 z2 z3).trans ?_
      rw [e2, e5, e11]
      rfl
    have q11 : ∀ (z1 : ByteArray) (z2 : Int) (z3 : Int) (z4 : Int) (z5 : List AV), runK G (midrangeref03_quadOf.C n) midrangeref03_quadOf.cut (fun S => finK G Tryz.f39.resultTypes.toList Tryz.f39.results.toList S midrangeref03_quadOf.dec) (m + 1) midrangeref03_quadOf.t11 (midrangeref03_quadOf.s11 z1 z2 z3 z4 z5) = ((midrangeref03_quadOf.l n (m + 1)).2.2) z1 z2 z3 z4 z5 := by
      intro z1 z2 z3 z4 z5
      rw [runK_succ]
      refine (midrangeref03_quadOf.r11_eq n _ midrangeref03_quadOf.dec z1 z2 z3 z4 z5).trans ?_
      rw [e2, e5, e11]
      rfl
    exact ⟨q2, q5, q11⟩
theorem midrangeref03_quadOf.hands (n : Nat) (a0 : ByteArray) (a1 : Int) {p : ByteArray × Bool × Bool} (h : midrangeref03_quadOf.F n a0 a1 = some p) : HandsIn Tryz.prog 39 [vs a0, vi a1] (.tup [vs p.1, vb p.2.1, vb p.2.2]) := by
  refine hands_of cfg mixed (fun _ => rfl) rfl (midrangeref03_quadOf.tells n) (fn := Tryz.f39) Tryz.func39 (by kernel_rfl) (by kernel_rfl) (cut := midrangeref03_quadOf.cut) (K := midrangeref03_quadOf.dec) (r := p) (n := n) midrangeref03_quadOf.dec_inv ?_
  rw [funK_getD (by kernel_rfl)]
  have h1 := midrangeref03_quadOf.e_eq n (runK G (midrangeref03_quadOf.C n) midrangeref03_quadOf.cut (fun S => finK G Tryz.f39.resultTypes.toList Tryz.f39.results.toList S midrangeref03_quadOf.dec) n) midrangeref03_quadOf.dec a0 a1
  have hl := midrangeref03_quadOf.l_eq n n
  simp only [hl.1, hl.2.1, hl.2.2] at h1
  exact h1.trans h
noncomputable def midrangeref03_quadOf.via {R : Type} (n : Nat) (xs : List AV) : (AV → Option R) → Option R := match xs with | [.v (.string a0), .v (.int .i64 a1)] => fun K => (midrangeref03_quadOf.F n a0 a1).bind fun p => K (.tup [vs p.1, vb p.2.1, vb p.2.2]) | _ => fun _ => none
noncomputable def midrangeref03_quadOf.is (xs : List AV) : Bool := match xs with | [.v (.string _), .v (.int .i64 _)] => true | _ => false
theorem midrangeref03_quadOf.tells1 {R : Type} (n : Nat) (xs : List AV) : Tells1 (R := R) Tryz.prog 39 xs (midrangeref03_quadOf.via n xs) := by
  unfold midrangeref03_quadOf.via
  split
  · exact Tells1.of (fun p hp => (midrangeref03_quadOf.hands n _ _ hp).hands rfl)
  · exact Tells1.none
end Go.Proofs.YtgmpnhfnkhohiaaGreatDoor.Ev

/- midrange/midrangeref03.Parse, out of its evaluation. Printed by the session's own program. -/
namespace Go.Proofs.YtgmpnhfnkhohiaaGreatDoor.Ev
open Go Go.Proofs Go.Proofs.Ev
set_option linter.unusedVariables false
set_option maxRecDepth 100000
/-! midrange/midrangeref03.Parse: function 12 -/
noncomputable def midrangeref03_Parse.r6 {R : Type} (n : Nat) (c6 : ByteArray → Bool → Int → ByteArray → ByteArray → List AV → Option R) (c8 : ByteArray → Bool → Int → Int → ByteArray → ByteArray → List AV → Option R) (c16 : Int → ByteArray → Option R) (c21 : ByteArray → Int → Int → ByteArray → Int → ByteArray → ByteArray → List AV → Option R) (c25 : ByteArray → Int → Int → ByteArray → ByteArray → ByteArray → List AV → Option R) (c35 : ByteArray → Bool → Int → ByteArray → ByteArray → List AV → Option R) (k : ByteArray × List AV × Int × Int → Option R) (z1 : ByteArray) (z2 : Bool) (z3 : Int) (z4 : ByteArray) (z5 : ByteArray) (z6 : List AV) : Option R :=
  let y2 : Bool := decide (z3 < ((z1.size : Nat) : Int))
  bif y2 then (c8 z1 z2 z3 z3 z4 z5 z6) else (k (z5, z6, 0, 0))
noncomputable def midrangeref03_Parse.r8 {R : Type} (n : Nat) (c6 : ByteArray → Bool → Int → ByteArray → ByteArray → List AV → Option R) (c8 : ByteArray → Bool → Int → Int → ByteArray → ByteArray → List AV → Option R) (c16 : Int → ByteArray → Option R) (c21 : ByteArray → Int → Int → ByteArray → Int → ByteArray → ByteArray → List AV → Option R) (c25 : ByteArray → Int → Int → ByteArray → ByteArray → ByteArray → List AV → Option R) (c35 : ByteArray → Bool → Int → ByteArray → ByteArray → List AV → Option R) (k : ByteArray × List AV × Int × Int → Option R) (z1 : ByteArray) (z2 : Bool) (z3 : Int) (z4 : Int) (z5 : ByteArray) (z6 : ByteArray) (z7 : List AV) : Option R :=
  let y3 : Bool := decide (z4 < ((z1.size : Nat) : Int))
  bif y3 then (bif decide ((0 : Int) ≤ z4) && decide (z4 < ((z1.size : Nat) : Int)) then (let y4 : Int := (((z1.data.getD ((z4).toNat) 0).toNat : Nat) : Int)
  bif y4 != 10 then (c8 z1 z2 z3 (IntKind.i64.wrap (z4 + 1)) z5 z6 z7) else (let y5 : Bool := z4 == ((z1.size : Nat) : Int)
  bif y5 then (k ((⟨#[]⟩ : ByteArray), [], z3, 8)) else (bif decide ((0 : Int) ≤ z4) && decide ((z4 : Int) ≤ ((z1.size : Nat) : Int)) then (bif decide ((0 : Int) ≤ z3) && decide ((z3 : Int) ≤ z4) then (let y6 : ByteArray := z1.extract (z3).toNat (z4).toNat
  let y7 : Bool := decide (((y6.size : Nat) : Int) > 0)
  bif y7 then (bif decide ((0 : Int) < (y6.size : Nat)) then (let y8 : Int := (((y6.data.getD 0 0).toNat : Nat) : Int)
  bif y8 == 42 then (bif decide ((0 : Int) ≤ 1) && decide ((1 : Int) ≤ ((y6.size : Nat) : Int)) then ((midrangeref03_countOf.F n (y6.extract 1 y6.size)).bind fun p9 =>
  bif !p9.2 then (c16 z3 z5) else (bif decide (p9.1 < 1) then (c16 z3 z5) else (bif z2 then (c16 z3 z5) else (let y10 : Bool := ((z7.length : Nat) : Int) == 0
  bif y10 then (c16 z3 z5) else (let y11 : Int := IntKind.i64.wrap (((z7.length : Nat) : Int) - 1)
  bif decide ((0 : Int) ≤ y11) && decide (y11 < ((z7.length : Nat) : Int)) then (withCons ((z7.getD ((y11).toNat) .undef).cells) fun h12 r13 =>
  withBool h12 fun b14 =>
  bif b14 then (c16 z3 z5) else (let y15 : Int := IntKind.i64.wrap ((64 : Int) - ((z7.length : Nat) : Int))
  bif decide (p9.1 > y15) then (k ((⟨#[]⟩ : ByteArray), [], z3, 2)) else (let y16 : Int := IntKind.i64.wrap (((z7.length : Nat) : Int) - 1)
  (midrangeref03_quad.F n z6 z7 y16).bind fun p17 =>
  c21 z1 z4 p9.1 p17 0 z5 z6 z7))) else none))))) else none) else (c25 z1 z3 z4 y6 z5 z6 z7)) else none) else (c25 z1 z3 z4 y6 z5 z6 z7)) else none) else none))) else none) else (let y18 : Bool := z4 == ((z1.size : Nat) : Int)
  bif y18 then (k ((⟨#[]⟩ : ByteArray), [], z3, 8)) else (bif decide ((0 : Int) ≤ z4) && decide ((z4 : Int) ≤ ((z1.size : Nat) : Int)) then (bif decide ((0 : Int) ≤ z3) && decide ((z3 : Int) ≤ z4) then (let y19 : ByteArray := z1.extract (z3).toNat (z4).toNat
  let y20 : Bool := decide (((y19.size : Nat) : Int) > 0)
  bif y20 then (bif decide ((0 : Int) < (y19.size : Nat)) then (let y21 : Int := (((y19.data.getD 0 0).toNat : Nat) : Int)
  bif y21 == 42 then (bif decide ((0 : Int) ≤ 1) && decide ((1 : Int) ≤ ((y19.size : Nat) : Int)) then ((midrangeref03_countOf.F n (y19.extract 1 y19.size)).bind fun p22 =>
  bif !p22.2 then (c16 z3 z5) else (bif decide (p22.1 < 1) then (c16 z3 z5) else (bif z2 then (c16 z3 z5) else (let y23 : Bool := ((z7.length : Nat) : Int) == 0
  bif y23 then (c16 z3 z5) else (let y24 : Int := IntKind.i64.wrap (((z7.length : Nat) : Int) - 1)
  bif decide ((0 : Int) ≤ y24) && decide (y24 < ((z7.length : Nat) : Int)) then (withCons ((z7.getD ((y24).toNat) .undef).cells) fun h25 r26 =>
  withBool h25 fun b27 =>
  bif b27 then (c16 z3 z5) else (let y28 : Int := IntKind.i64.wrap ((64 : Int) - ((z7.length : Nat) : Int))
  bif decide (p22.1 > y28) then (k ((⟨#[]⟩ : ByteArray), [], z3, 2)) else (let y29 : Int := IntKind.i64.wrap (((z7.length : Nat) : Int) - 1)
  (midrangeref03_quad.F n z6 z7 y29).bind fun p30 =>
  c21 z1 z4 p22.1 p30 0 z5 z6 z7))) else none))))) else none) else (c25 z1 z3 z4 y19 z5 z6 z7)) else none) else (c25 z1 z3 z4 y19 z5 z6 z7)) else none) else none))
noncomputable def midrangeref03_Parse.r16 {R : Type} (n : Nat) (c6 : ByteArray → Bool → Int → ByteArray → ByteArray → List AV → Option R) (c8 : ByteArray → Bool → Int → Int → ByteArray → ByteArray → List AV → Option R) (c16 : Int → ByteArray → Option R) (c21 : ByteArray → Int → Int → ByteArray → Int → ByteArray → ByteArray → List AV → Option R) (c25 : ByteArray → Int → Int → ByteArray → ByteArray → ByteArray → List AV → Option R) (c35 : ByteArray → Bool → Int → ByteArray → ByteArray → List AV → Option R) (k : ByteArray × List AV × Int × Int → Option R) (z1 : Int) (z2 : ByteArray) : Option R :=
  k ((⟨#[]⟩ : ByteArray), [], z1, 8)
noncomputable def midrangeref03_Parse.r21 {R : Type} (n : Nat) (c6 : ByteArray → Bool → Int → ByteArray → ByteArray → List AV → Option R) (c8 : ByteArray → Bool → Int → Int → ByteArray → ByteArray → List AV → Option R) (c16 : Int → ByteArray → Option R) (c21 : ByteArray → Int → Int → ByteArray → Int → ByteArray → ByteArray → List AV → Option R) (c25 : ByteArray → Int → Int → ByteArray → ByteArray → ByteArray → List AV → Option R) (c35 : ByteArray → Bool → Int → ByteArray → ByteArray → List AV → Option R) (k : ByteArray × List AV × Int × Int → Option R) (z1 : ByteArray) (z2 : Int) (z3 : Int) (z4 : ByteArray) (z5 : Int) (z6 : ByteArray) (z7 : ByteArray) (z8 : List AV) : Option R :=
  bif decide (z5 < z3) then (chk (decide (z7.size + z4.size ≤ 9223372036854775807)) (bif decide (z8.length + [vb false].length ≤ most) then (c21 z1 z2 z3 z4 (IntKind.i64.wrap (z5 + 1)) z6 (z7 ++ z4) (z8 ++ [vb false])) else none)) else (c35 z1 true z2 z6 z7 z8)
noncomputable def midrangeref03_Parse.r25 {R : Type} (n : Nat) (c6 : ByteArray → Bool → Int → ByteArray → ByteArray → List AV → Option R) (c8 : ByteArray → Bool → Int → Int → ByteArray → ByteArray → List AV → Option R) (c16 : Int → ByteArray → Option R) (c21 : ByteArray → Int → Int → ByteArray → Int → ByteArray → ByteArray → List AV → Option R) (c25 : ByteArray → Int → Int → ByteArray → ByteArray → ByteArray → List AV → Option R) (c35 : ByteArray → Bool → Int → ByteArray → ByteArray → List AV → Option R) (k : ByteArray × List AV × Int × Int → Option R) (z1 : ByteArray) (z2 : Int) (z3 : Int) (z4 : ByteArray) (z5 : ByteArray) (z6 : ByteArray) (z7 : List AV) : Option R :=
  (midrangeref03_quadOf.F n z4 ((z7.length : Nat) : Int)).bind fun p31 =>
  chk (decide (z6.size + p31.1.size ≤ 9223372036854775807)) ((midrangebase_CopyBools.F n z7).bind fun p32 =>
  bif decide (p32.length + [vb p31.2.1].length ≤ most) then (bif !p31.2.2 then (k ((⟨#[]⟩ : ByteArray), [], z2, 8)) else ((midrangeref03_isSame.F n (z6 ++ p31.1) (p32 ++ [vb p31.2.1]) ((z7.length : Nat) : Int)).bind fun p33 =>
  bif p33 then (k ((⟨#[]⟩ : ByteArray), [], z2, 8)) else (let y34 : Bool := ((z7.length : Nat) : Int) == 64
  bif y34 then (k ((⟨#[]⟩ : ByteArray), [], z2, 2)) else ((midrangeref03_In.F n p31.1).bind fun p35 =>
  bif p31.2.1 then (bif p35.2.2.2.2 != 0 then (k ((⟨#[]⟩ : ByteArray), [], z2, 22)) else (c35 z1 false z3 z5 (z6 ++ p31.1) (p32 ++ [vb p31.2.1]))) else (c35 z1 false z3 z5 (z6 ++ p31.1) (p32 ++ [vb p31.2.1])))))) else none)
noncomputable def midrangeref03_Parse.r35 {R : Type} (n : Nat) (c6 : ByteArray → Bool → Int → ByteArray → ByteArray → List AV → Option R) (c8 : ByteArray → Bool → Int → Int → ByteArray → ByteArray → List AV → Option R) (c16 : Int → ByteArray → Option R) (c21 : ByteArray → Int → Int → ByteArray → Int → ByteArray → ByteArray → List AV → Option R) (c25 : ByteArray → Int → Int → ByteArray → ByteArray → ByteArray → List AV → Option R) (c35 : ByteArray → Bool → Int → ByteArray → ByteArray → List AV → Option R) (k : ByteArray × List AV × Int × Int → Option R) (z1 : ByteArray) (z2 : Bool) (z3 : Int) (z4 : ByteArray) (z5 : ByteArray) (z6 : List AV) : Option R :=
  c6 z1 z2 (IntKind.i64.wrap (z3 + 1)) z4 z5 z6
noncomputable def midrangeref03_Parse.e {R : Type} (n : Nat) (c6 : ByteArray → Bool → Int → ByteArray → ByteArray → List AV → Option R) (c8 : ByteArray → Bool → Int → Int → ByteArray → ByteArray → List AV → Option R) (c16 : Int → ByteArray → Option R) (c21 : ByteArray → Int → Int → ByteArray → Int → ByteArray → ByteArray → List AV → Option R) (c25 : ByteArray → Int → Int → ByteArray → ByteArray → ByteArray → List AV → Option R) (c35 : ByteArray → Bool → Int → ByteArray → ByteArray → List AV → Option R) (k : ByteArray × List AV × Int × Int → Option R) (a0 : ByteArray) : Option R :=
  let y1 : Bool := decide (((a0.size : Nat) : Int) > 6000)
  bif y1 then (k ((⟨#[]⟩ : ByteArray), [], 0, 2)) else (c6 a0 false 0 (⟨#[]⟩ : ByteArray) (⟨#[]⟩ : ByteArray) [])
noncomputable def midrangeref03_Parse.C {R : Type} (n : Nat) (f : FuncId) (xs : List AV) : (AV → Option R) → Option R :=
  bif Nat.beq f 26 then midrangebase_CopyBools.via n xs else bif Nat.beq f 28 then midrangeref03_isSame.via n xs else bif Nat.beq f 37 then midrangeref03_countOf.via n xs else bif Nat.beq f 38 then midrangeref03_quad.via n xs else bif Nat.beq f 39 then midrangeref03_quadOf.via n xs else bif Nat.beq f 40 then midrangeref03_In.via n xs else fun _ => none
theorem midrangeref03_Parse.tells {R : Type} (n : Nat) : Tells (R := R) Tryz.prog (midrangeref03_Parse.C n) := fun _ xs => tells_at (midrangebase_CopyBools.tells1 n xs) (tells_at (midrangeref03_isSame.tells1 n xs) (tells_at (midrangeref03_countOf.tells1 n xs) (tells_at (midrangeref03_quad.tells1 n xs) (tells_at (midrangeref03_quadOf.tells1 n xs) (tells_at (midrangeref03_In.tells1 n xs) (Tells1.none))))))
noncomputable def midrangeref03_Parse.cut (r : Nat) : Option Keep := match r with | 6 => Option.some ⟨[0, 2, 5, 6, 7], [(5, Option.some 1, ⟨true, 4⟩, 1)]⟩ | 8 => Option.some ⟨[0, 2, 5, 6, 7, 8], []⟩ | 16 => Option.some ⟨[2, 7], []⟩ | 21 => Option.some ⟨[0, 2, 5, 8, 10, 12, 13], []⟩ | 25 => Option.some ⟨[0, 2, 5, 7, 8, 9], []⟩ | 35 => Option.some ⟨[0, 2, 5, 6, 8], []⟩ | _ => none
noncomputable def midrangeref03_Parse.t6 : List Item := (todoOf 6 1000 [.code (Tryz.f12.body.getD .skip)]).getD []
noncomputable def midrangeref03_Parse.s6 (z1 : ByteArray) (z2 : Bool) (z3 : Int) (z4 : ByteArray) (z5 : ByteArray) (z6 : List AV) : St := ⟨[vs z1, .undef, .ptr 0 0, .undef, .undef, .ptr 1 0, vb z2, vi z3, .undef, .undef, .undef, .undef, .undef, .undef, .undef, .undef, .undef, .undef, .undef, .undef, .undef, .undef, .undef, .undef, .undef, .undef, .undef, .undef, .undef, .undef, .undef, .undef, .undef, .undef, .undef, .undef, .undef, .undef, .undef, .undef, .undef, .undef, .undef, .undef, .undef, .undef, .undef, .undef, .undef, .undef, .undef, .undef, .undef, .undef, .undef, .undef, .undef, .undef, .undef, .undef, .undef, .undef, .undef, .undef, .undef, .undef, .undef, .undef, .undef, .undef, .undef, .undef, .undef, .undef, .undef, .undef, .undef, .undef, .undef, .undef, .undef, .undef, .undef, .undef, .undef, .undef, .undef, .undef, .undef, .undef, .undef, .undef, .undef, .undef, .undef, .undef, .undef, .undef, .undef, .undef, .undef, .undef, .undef, .undef, .undef, .undef, .undef, .undef, .undef, .undef, .undef, .undef, .undef, .undef, .undef, .undef, .undef, .undef, .undef, .undef, .undef, .undef, .undef, .undef, .undef, .undef, .undef, .undef, .undef, .undef, .undef, .undef, .undef, .undef, .undef, .undef, .undef, .undef, .undef, .undef, .undef, .undef, .undef, .undef, .undef, .undef, .undef, .undef, .undef, .undef, .undef, .undef, .undef, .undef, .undef, .undef, .undef, .undef, .undef, .undef, .undef, .undef, .undef, .undef, .undef, .undef, .undef, .undef, .undef, .undef, .undef, .undef, .undef, .undef, .undef], Mem.ofList [.box 24 [vs z4, .v (.slice none 0 0)], .box 24 [vs z5, .own 2 0 none], .row ⟨true, 4⟩ 1 z6], 3⟩
noncomputable def midrangeref03_Parse.t8 : List Item := (todoOf 8 1000 [.code (Tryz.f12.body.getD .skip)]).getD []
noncomputable def midrangeref03_Parse.s8 (z1 : ByteArray) (z2 : Bool) (z3 : Int) (z4 : Int) (z5 : ByteArray) (z6 : ByteArray) (z7 : List AV) : St := ⟨[vs z1, .undef, .ptr 0 0, .undef, .undef, .ptr 1 0, vb z2, vi z3, vi z4, .undef, .undef, .undef, .undef, .undef, .undef, .undef, .undef, .undef, .undef, .undef, .undef, .undef, .undef, .undef, .undef, .undef, .undef, .undef, .undef, .undef, .undef, .undef, .undef, .undef, .undef, .undef, .undef, .undef, .undef, .undef, .undef, .undef, .undef, .undef, .undef, .undef, .undef, .undef, .undef, .undef, .undef, .undef, .undef, .undef, .undef, .undef, .undef, .undef, .undef, .undef, .undef, .undef, .undef, .undef, .undef, .undef, .undef, .undef, .undef, .undef, .undef, .undef, .undef, .undef, .undef, .undef, .undef, .undef, .undef, .undef, .undef, .undef, .undef, .undef, .undef, .undef, .undef, .undef, .undef, .undef, .undef, .undef, .undef, .undef, .undef, .undef, .undef, .undef, .undef, .undef, .undef, .undef, .undef, .undef, .undef, .undef, .undef, .undef, .undef, .undef, .undef, .undef, .undef, .undef, .undef, .undef, .undef, .undef, .undef, .undef, .undef, .undef, .undef, .undef, .undef, .undef, .undef, .undef, .undef, .undef, .undef, .undef, .undef, .undef, .undef, .undef, .undef, .undef, .undef, .undef, .undef, .undef, .undef, .undef, .undef, .undef, .undef, .undef, .undef, .undef, .undef, .undef, .undef, .undef, .undef, .undef, .undef, .undef, .undef, .undef, .undef, .undef, .undef, .undef, .undef, .undef, .undef, .undef, .undef, .undef, .undef, .undef, .undef, .undef, .undef], Mem.ofList [.box 24 [vs z5, .v (.slice none 0 0)], .box 24 [vs z6, .own 2 0 none], .row ⟨true, 4⟩ 1 z7], 3⟩
noncomputable def midrangeref03_Parse.t16 : List Item := (todoOf 16 1000 [.code (Tryz.f12.body.getD .skip)]).getD []
noncomputable def midrangeref03_Parse.s16 (z1 : Int) (z2 : ByteArray) : St := ⟨[.undef, .undef, .ptr 0 0, .undef, .undef, .undef, .undef, vi z1, .undef, .undef, .undef, .undef, .undef, .undef, .undef, .undef, .undef, .undef, .undef, .undef, .undef, .undef, .undef, .undef, .undef, .undef, .undef, .undef, .undef, .undef, .undef, .undef, .undef, .undef, .undef, .undef, .undef, .undef, .undef, .undef, .undef, .undef, .undef, .undef, .undef, .undef, .undef, .undef, .undef, .undef, .undef, .undef, .undef, .undef, .undef, .undef, .undef, .undef, .undef, .undef, .undef, .undef, .undef, .undef, .undef, .undef, .undef, .undef, .undef, .undef, .undef, .undef, .undef, .undef, .undef, .undef, .undef, .undef, .undef, .undef, .undef, .undef, .undef, .undef, .undef, .undef, .undef, .undef, .undef, .undef, .undef, .undef, .undef, .undef, .undef, .undef, .undef, .undef, .undef, .undef, .undef, .undef, .undef, .undef, .undef, .undef, .undef, .undef, .undef, .undef, .undef, .undef, .undef, .undef, .undef, .undef, .undef, .undef, .undef, .undef, .undef, .undef, .undef, .undef, .undef, .undef, .undef, .undef, .undef, .undef, .undef, .undef, .undef, .undef, .undef, .undef, .undef, .undef, .undef, .undef, .undef, .undef, .undef, .undef, .undef, .undef, .undef, .undef, .undef, .undef, .undef, .undef, .undef, .undef, .undef, .undef, .undef, .undef, .undef, .undef, .undef, .undef, .undef, .undef, .undef, .undef, .undef, .undef, .undef, .undef, .undef, .undef, .undef, .undef, .undef], Mem.ofList [.box 24 [vs z2, .v (.slice none 0 0)]], 1⟩
noncomputable def midrangeref03_Parse.t21 : List Item := (todoOf 21 1000 [.code (Tryz.f12.body.getD .skip)]).getD []
noncomputable def midrangeref03_Parse.s21 (z1 : ByteArray) (z2 : Int) (z3 : Int) (z4 : ByteArray) (z5 : Int) (z6 : ByteArray) (z7 : ByteArray) (z8 : List AV) : St := ⟨[vs z1, .undef, .ptr 0 0, .undef, .undef, .ptr 1 0, .undef, .undef, vi z2, .undef, vi z3, .undef, vs z4, vi z5, .undef, .undef, .undef, .undef, .undef, .undef, .undef, .undef, .undef, .undef, .undef, .undef, .undef, .undef, .undef, .undef, .undef, .undef, .undef, .undef, .undef, .undef, .undef, .undef, .undef, .undef, .undef, .undef, .undef, .undef, .undef, .undef, .undef, .undef, .undef, .undef, .undef, .undef, .undef, .undef, .undef, .undef, .undef, .undef, .undef, .undef, .undef, .undef, .undef, .undef, .undef, .undef, .undef, .undef, .undef, .undef, .undef, .undef, .undef, .undef, .undef, .undef, .undef, .undef, .undef, .undef, .undef, .undef, .undef, .undef, .undef, .undef, .undef, .undef, .undef, .undef, .undef, .undef, .undef, .undef, .undef, .undef, .undef, .undef, .undef, .undef, .undef, .undef, .undef, .undef, .undef, .undef, .undef, .undef, .undef, .undef, .undef, .undef, .undef, .undef, .undef, .undef, .undef, .undef, .undef, .undef, .undef, .undef, .undef, .undef, .undef, .undef, .undef, .undef, .undef, .undef, .undef, .undef, .undef, .undef, .undef, .undef, .undef, .undef, .undef, .undef, .undef, .undef, .undef, .undef, .undef, .undef, .undef, .undef, .undef, .undef, .undef, .undef, .undef, .undef, .undef, .undef, .undef, .undef, .undef, .undef, .undef, .undef, .undef, .undef, .undef, .undef, .undef, .undef, .undef, .undef, .undef, .undef, .undef, .undef, .undef], Mem.ofList [.box 24 [vs z6, .v (.slice none 0 0)], .box 24 [vs z7, .own 2 0 none], .row ⟨true, 4⟩ 1 z8], 3⟩
noncomputable def midrangeref03_Parse.t25 : List Item := (todoOf 25 1000 [.code (Tryz.f12.body.getD .skip)]).getD []
noncomputable def midrangeref03_Parse.s25 (z1 : ByteArray) (z2 : Int) (z3 : Int) (z4 : ByteArray) (z5 : ByteArray) (z6 : ByteArray) (z7 : List AV) : St := ⟨[vs z1, .undef, .ptr 0 0, .undef, .undef, .ptr 1 0, .undef, vi z2, vi z3, vs z4, .undef, .undef, .undef, .undef, .undef, .undef, .undef, .undef, .undef, .undef, .undef, .undef, .undef, .undef, .undef, .undef, .undef, .undef, .undef, .undef, .undef, .undef, .undef, .undef, .undef, .undef, .undef, .undef, .undef, .undef, .undef, .undef, .undef, .undef, .undef, .undef, .undef, .undef, .undef, .undef, .undef, .undef, .undef, .undef, .undef, .undef, .undef, .undef, .undef, .undef, .undef, .undef, .undef, .undef, .undef, .undef, .undef, .undef, .undef, .undef, .undef, .undef, .undef, .undef, .undef, .undef, .undef, .undef, .undef, .undef, .undef, .undef, .undef, .undef, .undef, .undef, .undef, .undef, .undef, .undef, .undef, .undef, .undef, .undef, .undef, .undef, .undef, .undef, .undef, .undef, .undef, .undef, .undef, .undef, .undef, .undef, .undef, .undef, .undef, .undef, .undef, .undef, .undef, .undef, .undef, .undef, .undef, .undef, .undef, .undef, .undef, .undef, .undef, .undef, .undef, .undef, .undef, .undef, .undef, .undef, .undef, .undef, .undef, .undef, .undef, .undef, .undef, .undef, .undef, .undef, .undef, .undef, .undef, .undef, .undef, .undef, .undef, .undef, .undef, .undef, .undef, .undef, .undef, .undef, .undef, .undef, .undef, .undef, .undef, .undef, .undef, .undef, .undef, .undef, .undef, .undef, .undef, .undef, .undef, .undef, .undef, .undef, .undef, .undef, .undef], Mem.ofList [.box 24 [vs z5, .v (.slice none 0 0)], .box 24 [vs z6, .own 2 0 none], .row ⟨true, 4⟩ 1 z7], 3⟩
noncomputable def midrangeref03_Parse.t35 : List Item := (todoOf 35 1000 [.code (Tryz.f12.body.getD .skip)]).getD []
noncomputable def midrangeref03_Parse.s35 (z1 : ByteArray) (z2 : Bool) (z3 : Int) (z4 : ByteArray) (z5 : ByteArray) (z6 : List AV) : St := ⟨[vs z1, .undef, .ptr 0 0, .undef, .undef, .ptr 1 0, vb z2, .undef, vi z3, .undef, .undef, .undef, .undef, .undef, .undef, .undef, .undef, .undef, .undef, .undef, .undef, .undef, .undef, .undef, .undef, .undef, .undef, .undef, .undef, .undef, .undef, .undef, .undef, .undef, .undef, .undef, .undef, .undef, .undef, .undef, .undef, .undef, .undef, .undef, .undef, .undef, .undef, .undef, .undef, .undef, .undef, .undef, .undef, .undef, .undef, .undef, .undef, .undef, .undef, .undef, .undef, .undef, .undef, .undef, .undef, .undef, .undef, .undef, .undef, .undef, .undef, .undef, .undef, .undef, .undef, .undef, .undef, .undef, .undef, .undef, .undef, .undef, .undef, .undef, .undef, .undef, .undef, .undef, .undef, .undef, .undef, .undef, .undef, .undef, .undef, .undef, .undef, .undef, .undef, .undef, .undef, .undef, .undef, .undef, .undef, .undef, .undef, .undef, .undef, .undef, .undef, .undef, .undef, .undef, .undef, .undef, .undef, .undef, .undef, .undef, .undef, .undef, .undef, .undef, .undef, .undef, .undef, .undef, .undef, .undef, .undef, .undef, .undef, .undef, .undef, .undef, .undef, .undef, .undef, .undef, .undef, .undef, .undef, .undef, .undef, .undef, .undef, .undef, .undef, .undef, .undef, .undef, .undef, .undef, .undef, .undef, .undef, .undef, .undef, .undef, .undef, .undef, .undef, .undef, .undef, .undef, .undef, .undef, .undef, .undef, .undef, .undef, .undef, .undef, .undef], Mem.ofList [.box 24 [vs z4, .v (.slice none 0 0)], .box 24 [vs z5, .own 2 0 none], .row ⟨true, 4⟩ 1 z6], 3⟩
theorem midrangeref03_Parse.e_eq {R : Type} (n : Nat) (rec : List Item → St → Option R) (K : AV → Option R) (a0 : ByteArray) :
    goK G (midrangeref03_Parse.C n) midrangeref03_Parse.cut (fun S => finK G Tryz.f12.resultTypes.toList Tryz.f12.results.toList S K) rec 1000 [.code (Tryz.f12.body.getD .skip)] (Ev.start Tryz.f12 [vs a0]) = midrangeref03_Parse.e n (fun z1 z2 z3 z4 z5 z6 => rec midrangeref03_Parse.t6 (midrangeref03_Parse.s6 z1 z2 z3 z4 z5 z6)) (fun z1 z2 z3 z4 z5 z6 z7 => rec midrangeref03_Parse.t8 (midrangeref03_Parse.s8 z1 z2 z3 z4 z5 z6 z7)) (fun z1 z2 => rec midrangeref03_Parse.t16 (midrangeref03_Parse.s16 z1 z2)) (fun z1 z2 z3 z4 z5 z6 z7 z8 => rec midrangeref03_Parse.t21 (midrangeref03_Parse.s21 z1 z2 z3 z4 z5 z6 z7 z8)) (fun z1 z2 z3 z4 z5 z6 z7 => rec midrangeref03_Parse.t25 (midrangeref03_Parse.s25 z1 z2 z3 z4 z5 z6 z7)) (fun z1 z2 z3 z4 z5 z6 => rec midrangeref03_Parse.t35 (midrangeref03_Parse.s35 z1 z2 z3 z4 z5 z6)) (fun p => K (.tup [.agg [vs p.1, .fr ⟨true, 4⟩ 1 p.2.1], vi p.2.2.1, vi p.2.2.2])) a0 := by kernel_rfl
theorem midrangeref03_Parse.r6_eq {R : Type} (n : Nat) (rec : List Item → St → Option R) (K : AV → Option R) (z1 : ByteArray) (z2 : Bool) (z3 : Int) (z4 : ByteArray) (z5 : ByteArray) (z6 : List AV) :
    atK G (midrangeref03_Parse.C n) midrangeref03_Parse.cut (fun S => finK G Tryz.f12.resultTypes.toList Tryz.f12.results.toList S K) rec midrangeref03_Parse.t6 (midrangeref03_Parse.s6 z1 z2 z3 z4 z5 z6) = midrangeref03_Parse.r6 n (fun z1 z2 z3 z4 z5 z6 => rec midrangeref03_Parse.t6 (midrangeref03_Parse.s6 z1 z2 z3 z4 z5 z6)) (fun z1 z2 z3 z4 z5 z6 z7 => rec midrangeref03_Parse.t8 (midrangeref03_Parse.s8 z1 z2 z3 z4 z5 z6 z7)) (fun z1 z2 => rec midrangeref03_Parse.t16 (midrangeref03_Parse.s16 z1 z2)) (fun z1 z2 z3 z4 z5 z6 z7 z8 => rec midrangeref03_Parse.t21 (midrangeref03_Parse.s21 z1 z2 z3 z4 z5 z6 z7 z8)) (fun z1 z2 z3 z4 z5 z6 z7 => rec midrangeref03_Parse.t25 (midrangeref03_Parse.s25 z1 z2 z3 z4 z5 z6 z7)) (fun z1 z2 z3 z4 z5 z6 => rec midrangeref03_Parse.t35 (midrangeref03_Parse.s35 z1 z2 z3 z4 z5 z6)) (fun p => K (.tup [.agg [vs p.1, .fr ⟨true, 4⟩ 1 p.2.1], vi p.2.2.1, vi p.2.2.2])) z1 z2 z3 z4 z5 z6 := by kernel_rfl
theorem midrangeref03_Parse.r8_eq {R : Type} (n : Nat) (rec : List Item → St → Option R) (K : AV → Option R) (z1 : ByteArray) (z2 : Bool) (z3 : Int) (z4 : Int) (z5 : ByteArray) (z6 : ByteArray) (z7 : List AV) :
    atK G (midrangeref03_Parse.C n) midrangeref03_Parse.cut (fun S => finK G Tryz.f12.resultTypes.toList Tryz.f12.results.toList S K) rec midrangeref03_Parse.t8 (midrangeref03_Parse.s8 z1 z2 z3 z4 z5 z6 z7) = midrangeref03_Parse.r8 n (fun z1 z2 z3 z4 z5 z6 => rec midrangeref03_Parse.t6 (midrangeref03_Parse.s6 z1 z2 z3 z4 z5 z6)) (fun z1 z2 z3 z4 z5 z6 z7 => rec midrangeref03_Parse.t8 (midrangeref03_Parse.s8 z1 z2 z3 z4 z5 z6 z7)) (fun z1 z2 => rec midrangeref03_Parse.t16 (midrangeref03_Parse.s16 z1 z2)) (fun z1 z2 z3 z4 z5 z6 z7 z8 => rec midrangeref03_Parse.t21 (midrangeref03_Parse.s21 z1 z2 z3 z4 z5 z6 z7 z8)) (fun z1 z2 z3 z4 z5 z6 z7 => rec midrangeref03_Parse.t25 (midrangeref03_Parse.s25 z1 z2 z3 z4 z5 z6 z7)) (fun z1 z2 z3 z4 z5 z6 => rec midrangeref03_Parse.t35 (midrangeref03_Parse.s35 z1 z2 z3 z4 z5 z6)) (fun p => K (.tup [.agg [vs p.1, .fr ⟨true, 4⟩ 1 p.2.1], vi p.2.2.1, vi p.2.2.2])) z1 z2 z3 z4 z5 z6 z7 := by kernel_rfl
theorem midrangeref03_Parse.r16_eq {R : Type} (n : Nat) (rec : List Item → St → Option R) (K : AV → Option R) (z1 : Int) (z2 : ByteArray) :
    atK G (midrangeref03_Parse.C n) midrangeref03_Parse.cut (fun S => finK G Tryz.f12.resultTypes.toList Tryz.f12.results.toList S K) rec midrangeref03_Parse.t16 (midrangeref03_Parse.s16 z1 z2) = midrangeref03_Parse.r16 n (fun z1 z2 z3 z4 z5 z6 => rec midrangeref03_Parse.t6 (midrangeref03_Parse.s6 z1 z2 z3 z4 z5 z6)) (fun z1 z2 z3 z4 z5 z6 z7 => rec midrangeref03_Parse.t8 (midrangeref03_Parse.s8 z1 z2 z3 z4 z5 z6 z7)) (fun z1 z2 => rec midrangeref03_Parse.t16 (midrangeref03_Parse.s16 z1 z2)) (fun z1 z2 z3 z4 z5 z6 z7 z8 => rec midrangeref03_Parse.t21 (midrangeref03_Parse.s21 z1 z2 z3 z4 z5 z6 z7 z8)) (fun z1 z2 z3 z4 z5 z6 z7 => rec midrangeref03_Parse.t25 (midrangeref03_Parse.s25 z1 z2 z3 z4 z5 z6 z7)) (fun z1 z2 z3 z4 z5 z6 => rec midrangeref03_Parse.t35 (midrangeref03_Parse.s35 z1 z2 z3 z4 z5 z6)) (fun p => K (.tup [.agg [vs p.1, .fr ⟨true, 4⟩ 1 p.2.1], vi p.2.2.1, vi p.2.2.2])) z1 z2 := by kernel_rfl
theorem midrangeref03_Parse.r21_eq {R : Type} (n : Nat) (rec : List Item → St → Option R) (K : AV → Option R) (z1 : ByteArray) (z2 : Int) (z3 : Int) (z4 : ByteArray) (z5 : Int) (z6 : ByteArray) (z7 : ByteArray) (z8 : List AV) :
    atK G (midrangeref03_Parse.C n) midrangeref03_Parse.cut (fun S => finK G Tryz.f12.resultTypes.toList Tryz.f12.results.toList S K) rec midrangeref03_Parse.t21 (midrangeref03_Parse.s21 z1 z2 z3 z4 z5 z6 z7 z8) = midrangeref03_Parse.r21 n (fun z1 z2 z3 z4 z5 z6 => rec midrangeref03_Parse.t6 (midrangeref03_Parse.s6 z1 z2 z3 z4 z5 z6)) (fun z1 z2 z3 z4 z5 z6 z7 => rec midrangeref03_Parse.t8 (midrangeref03_Parse.s8 z1 z2 z3 z4 z5 z6 z7)) (fun z1 z2 => rec midrangeref03_Parse.t16 (midrangeref03_Parse.s16 z1 z2)) (fun z1 z2 z3 z4 z5 z6 z7 z8 => rec midrangeref03_Parse.t21 (midrangeref03_Parse.s21 z1 z2 z3 z4 z5 z6 z7 z8)) (fun z1 z2 z3 z4 z5 z6 z7 => rec midrangeref03_Parse.t25 (midrangeref03_Parse.s25 z1 z2 z3 z4 z5 z6 z7)) (fun z1 z2 z3 z4 z5 z6 => rec midrangeref03_Parse.t35 (midrangeref03_Parse.s35 z1 z2 z3 z4 z5 z6)) (fun p => K (.tup [.agg [vs p.1, .fr ⟨true, 4⟩ 1 p.2.1], vi p.2.2.1, vi p.2.2.2])) z1 z2 z3 z4 z5 z6 z7 z8 := by kernel_rfl
theorem midrangeref03_Parse.r25_eq {R : Type} (n : Nat) (rec : List Item → St → Option R) (K : AV → Option R) (z1 : ByteArray) (z2 : Int) (z3 : Int) (z4 : ByteArray) (z5 : ByteArray) (z6 : ByteArray) (z7 : List AV) :
    atK G (midrangeref03_Parse.C n) midrangeref03_Parse.cut (fun S => finK G Tryz.f12.resultTypes.toList Tryz.f12.results.toList S K) rec midrangeref03_Parse.t25 (midrangeref03_Parse.s25 z1 z2 z3 z4 z5 z6 z7) = midrangeref03_Parse.r25 n (fun z1 z2 z3 z4 z5 z6 => rec midrangeref03_Parse.t6 (midrangeref03_Parse.s6 z1 z2 z3 z4 z5 z6)) (fun z1 z2 z3 z4 z5 z6 z7 => rec midrangeref03_Parse.t8 (midrangeref03_Parse.s8 z1 z2 z3 z4 z5 z6 z7)) (fun z1 z2 => rec midrangeref03_Parse.t16 (midrangeref03_Parse.s16 z1 z2)) (fun z1 z2 z3 z4 z5 z6 z7 z8 => rec midrangeref03_Parse.t21 (midrangeref03_Parse.s21 z1 z2 z3 z4 z5 z6 z7 z8)) (fun z1 z2 z3 z4 z5 z6 z7 => rec midrangeref03_Parse.t25 (midrangeref03_Parse.s25 z1 z2 z3 z4 z5 z6 z7)) (fun z1 z2 z3 z4 z5 z6 => rec midrangeref03_Parse.t35 (midrangeref03_Parse.s35 z1 z2 z3 z4 z5 z6)) (fun p => K (.tup [.agg [vs p.1, .fr ⟨true, 4⟩ 1 p.2.1], vi p.2.2.1, vi p.2.2.2])) z1 z2 z3 z4 z5 z6 z7 := by kernel_rfl
theorem midrangeref03_Parse.r35_eq {R : Type} (n : Nat) (rec : List Item → St → Option R) (K : AV → Option R) (z1 : ByteArray) (z2 : Bool) (z3 : Int) (z4 : ByteArray) (z5 : ByteArray) (z6 : List AV) :
    atK G (midrangeref03_Parse.C n) midrangeref03_Parse.cut (fun S => finK G Tryz.f12.resultTypes.toList Tryz.f12.results.toList S K) rec midrangeref03_Parse.t35 (midrangeref03_Parse.s35 z1 z2 z3 z4 z5 z6) = midrangeref03_Parse.r35 n (fun z1 z2 z3 z4 z5 z6 => rec midrangeref03_Parse.t6 (midrangeref03_Parse.s6 z1 z2 z3 z4 z5 z6)) (fun z1 z2 z3 z4 z5 z6 z7 => rec midrangeref03_Parse.t8 (midrangeref03_Parse.s8 z1 z2 z3 z4 z5 z6 z7)) (fun z1 z2 => rec midrangeref03_Parse.t16 (midrangeref03_Parse.s16 z1 z2)) (fun z1 z2 z3 z4 z5 z6 z7 z8 => rec midrangeref03_Parse.t21 (midrangeref03_Parse.s21 z1 z2 z3 z4 z5 z6 z7 z8)) (fun z1 z2 z3 z4 z5 z6 z7 => rec midrangeref03_Parse.t25 (midrangeref03_Parse.s25 z1 z2 z3 z4 z5 z6 z7)) (fun z1 z2 z3 z4 z5 z6 => rec midrangeref03_Parse.t35 (midrangeref03_Parse.s35 z1 z2 z3 z4 z5 z6)) (fun p => K (.tup [.agg [vs p.1, .fr ⟨true, 4⟩ 1 p.2.1], vi p.2.2.1, vi p.2.2.2])) z1 z2 z3 z4 z5 z6 := by kernel_rfl
noncomputable def midrangeref03_Parse.l (n : Nat) : Nat → (ByteArray → Bool → Int → ByteArray → ByteArray → List AV → Option (ByteArray × List AV × Int × Int)) × (ByteArray → Bool → Int → Int → ByteArray → ByteArray → List AV → Option (ByteArray × List AV × Int × Int)) × (Int → ByteArray → Option (ByteArray × List AV × Int × Int)) × (ByteArray → Int → Int → ByteArray → Int → ByteArray → ByteArray → List AV → Option (ByteArray × List AV × Int × Int)) × (ByteArray → Int → Int → ByteArray → ByteArray → ByteArray → List AV → Option (ByteArray × List AV × Int × Int)) × (ByteArray → Bool → Int → ByteArray → ByteArray → List AV → Option (ByteArray × List AV × Int × Int))
  | 0 => ((fun _ _ _ _ _ _ => none), (fun _ _ _ _ _ _ _ => none), (fun _ _ => none), (fun _ _ _ _ _ _ _ _ => none), (fun _ _ _ _ _ _ _ => none), (fun _ _ _ _ _ _ => none))
  | m + 1 => (midrangeref03_Parse.r6 n ((midrangeref03_Parse.l n m).1) ((midrangeref03_Parse.l n m).2.1) ((midrangeref03_Parse.l n m).2.2.1) ((midrangeref03_Parse.l n m).2.2.2.1) ((midrangeref03_Parse.l n m).2.2.2.2.1) ((midrangeref03_Parse.l n m).2.2.2.2.2) Option.some, midrangeref03_Parse.r8 n ((midrangeref03_Parse.l n m).1) ((midrangeref03_Parse.l n m).2.1) ((midrangeref03_Parse.l n m).2.2.1) ((midrangeref03_Parse.l n m).2.2.2.1) ((midrangeref03_Parse.l n m).2.2.2.2.1) ((midrangeref03_Parse.l n m).2.2.2.2.2) Option.some, midrangeref03_Parse.r16 n ((midrangeref03_Parse.l n m).1) ((midrangeref03_Parse.l n m).2.1) ((midrangeref03_Parse.l n m).2.2.1) ((midrangeref03_Parse.l n m).2.2.2.1) ((midrangeref03_Parse.l n m).2.2.2.2.1) ((midrangeref03_Parse.l n m).2.2.2.2.2) Option.some, midrangeref03_Parse.r21 n ((midrangeref03_Parse.l n m).1) ((midrangeref03_Parse.l n m).2.1) ((midrangeref03_Parse.l n m).2.2.1) ((midrangeref03_Parse.l n m).2.2.2.1) ((midrangeref03_Parse.l n m).2.2.2.2.1) ((midrangeref03_Parse.l n m).2.2.2.2.2) Option.some, midrangeref03_Parse.r25 n ((midrangeref03_Parse.l n m).1) ((midrangeref03_Parse.l n m).2.1) ((midrangeref03_Parse.l n m).2.2.1) ((midrangeref03_Parse.l n m).2.2.2.1) ((midrangeref03_Parse.l n m).2.2.2.2.1) ((midrangeref03_Parse.l n m).2.2.2.2.2) Option.some, midrangeref03_Parse.r35 n ((midrangeref03_Parse.l n m).1) ((midrangeref03_Parse.l n m).2.1) ((midrangeref03_Parse.l n m).2.2.1) ((midrangeref03_Parse.l n m).2.2.2.1) ((midrangeref03_Parse.l n m).2.2.2.2.1) ((midrangeref03_Parse.l n m).2.2.2.2.2) Option.some)
noncomputable def midrangeref03_Parse.F (n : Nat) (a0 : ByteArray) : Option (ByteArray × List AV × Int × Int) := midrangeref03_Parse.e n ((midrangeref03_Parse.l n n).1) ((midrangeref03_Parse.l n n).2.1) ((midrangeref03_Parse.l n n).2.2.1) ((midrangeref03_Parse.l n n).2.2.2.1) ((midrangeref03_Parse.l n n).2.2.2.2.1) ((midrangeref03_Parse.l n n).2.2.2.2.2) Option.some a0
noncomputable def midrangeref03_Parse.dec (x : AV) : Option (ByteArray × List AV × Int × Int) := match x with | .tup [.agg [.v (.string p0), .fr ⟨true, 4⟩ 1 p1], .v (.int .i64 p2), .v (.int .i64 p3)] => Option.some (p0, p1, p2, p3) | _ => none
theorem midrangeref03_Parse.dec_inv {p : ByteArray × List AV × Int × Int} (y : AV) (h : midrangeref03_Parse.dec y = some p) : y = .tup [.agg [vs p.1, .fr ⟨true, 4⟩ 1 p.2.1], vi p.2.2.1, vi p.2.2.2] := by
  unfold midrangeref03_Parse.dec at h
  split at h
  · cases h; rfl
  · cases h
theorem midrangeref03_Parse.l_eq (n m : Nat) : (∀ (z1 : ByteArray) (z2 : Bool) (z3 : Int) (z4 : ByteArray) (z5 : ByteArray) (z6 : List AV), runK G (midrangeref03_Parse.C n) midrangeref03_Parse.cut (fun S => finK G Tryz.f12.resultTypes.toList Tryz.f12.results.toList S midrangeref03_Parse.dec) m midrangeref03_Parse.t6 (midrangeref03_Parse.s6 z1 z2 z3 z4 z5 z6) = ((midrangeref03_Parse.l n m).1) z1 z2 z3 z4 z5 z6) ∧ (∀ (z1 : ByteArray) (z2 : Bool) (z3 : Int) (z4 : Int) (z5 : ByteArray) (z6 : ByteArray) (z7 : List AV), runK G (midrangeref03_Parse.C n) midrangeref03_Parse.cut (fun S => finK G Tryz.f12.resultTypes.toList Tryz.f12.results.toList S midrangeref03_Parse.dec) m midrangeref03_Parse.t8 (midrangeref03_Parse.s8 z1 z2 z3 z4 z5 z6 z7) = ((midrangeref03_Parse.l n m).2.1) z1 z2 z3 z4 z5 z6 z7) ∧ (∀ (z1 : Int) (z2 : ByteArray), runK G (midrangeref03_Parse.C n) midrangeref03_Parse.cut (fun S => finK G Tryz.f12.resultTypes.toList Tryz.f12.results.toList S midrangeref03_Parse.dec) m midrangeref03_Parse.t16 (midrangeref03_Parse.s16 z1 z2) = ((midrangeref03_Parse.l n m).2.2.1) z1 z2) ∧ (∀ (z1 : ByteArray) (z2 : Int) (z3 : Int) (z4 : ByteArray) (z5 : Int) (z6 : ByteArray) (z7 : ByteArray) (z8 : List AV), runK G (midrangeref03_Parse.C n) midrangeref03_Parse.cut (fun S => finK G Tryz.f12.resultTypes.toList Tryz.f12.results.toList S midrangeref03_Parse.dec) m midrangeref03_Parse.t21 (midrangeref03_Parse.s21 z1 z2 z3 z4 z5 z6 z7 z8) = ((midrangeref03_Parse.l n m).2.2.2.1) z1 z2 z3 z4 z5 z6 z7 z8) ∧ (∀ (z1 : ByteArray) (z2 : Int) (z3 : Int) (z4 : ByteArray) (z5 : ByteArray) (z6 : ByteArray) (z7 : List AV), runK G (midrangeref03_Parse.C n) midrangeref03_Parse.cut (fun S => finK G Tryz.f12.resultTypes.toList Tryz.f12.results.toList S midrangeref03_Parse.dec) m midrangeref03_Parse.t25 (midrangeref03_Parse.s25 z1 z2 z3 z4 z5 z6 z7) = ((midrangeref03_Parse.l n m).2.2.2.2.1) z1 z2 z3 z4 z5 z6 z7) ∧ (∀ (z1 : ByteArray) (z2 : Bool) (z3 : Int) (z4 : ByteArray) (z5 : ByteArray) (z6 : List AV), runK G (midrangeref03_Parse.C n) midrangeref03_Parse.cut (fun S => finK G Tryz.f12.resultTypes.toList Tryz.f12.results.toList S midrangeref03_Parse.dec) m midrangeref03_Parse.t35 (midrangeref03_Parse.s35 z1 z2 z3 z4 z5 z6) = ((midrangeref03_Parse.l n m).2.2.2.2.2) z1 z2 z3 z4 z5 z6) := by
  induction m with
  | zero => exact ⟨fun z1 z2 z3 z4 z5 z6 => rfl, fun z1 z2 z3 z4 z5 z6 z7 => rfl, fun z1 z2 => rfl, fun z1 z2 z3 z4 z5 z6 z7 z8 => rfl, fun z1 z2 z3 z4 z5 z6 z7 => rfl, fun z1 z2 z3 z4 z5 z6 => rfl⟩
  | succ m ih =>
    obtain ⟨h6, h8, h16, h21, h25, h35⟩ := ih
    have e6 : (fun (z1 : ByteArray) (z2 : Bool) (z3 : Int) (z4 : ByteArray) (z5 : ByteArray) (z6 : List AV) => runK G (midrangeref03_Parse.C n) midrangeref03_Parse.cut (fun S => finK G Tryz.f12.resultTypes.toList Tryz.f12.results.toList S midrangeref03_Parse.dec) m midrangeref03_Parse.t6 (midrangeref03_Parse.s6 z1 z2 z3 z4 z5 z6)) = (midrangeref03_Parse.l n m).1 := by funext z1 z2 z3 z4 z5 z6; exact h6 z1 z2 z3 z4 z5 z6
    have e8 : (fun (z1 : ByteArray) (z2 : Bool) (z3 : Int) (z4 : Int) (z5 : ByteArray) (z6 : ByteArray) (z7 : List AV) => runK G (midrangeref03_Parse.C n) midrangeref03_Parse.cut (fun S => finK G Tryz.f12.resultTypes.toList Tryz.f12.results.toList S midrangeref03_Parse.dec) m midrangeref03_Parse.t8 (midrangeref03_Parse.s8 z1 z2 z3 z4 z5 z6 z7)) = (midrangeref03_Parse.l n m).2.1 := by funext z1 z2 z3 z4 z5 z6 z7; exact h8 z1 z2 z3 z4 z5 z6 z7
    have e16 : (fun (z1 : Int) (z2 : ByteArray) => runK G (midrangeref03_Parse.C n) midrangeref03_Parse.cut (fun S => finK G Tryz.f12.resultTypes.toList Tryz.f12.results.toList S midrangeref03_Parse.dec) m midrangeref03_Parse.t16 (midrangeref03_Parse.s16 z1 z2)) = (midrangeref03_Parse.l n m).2.2.1 := by funext z1 z2; exact h16 z1 z2
    have e21 : (fun (z1 : ByteArray) (z2 : Int) (z3 : Int) (z4 : ByteArray) (z5 : Int) (z6 : ByteArray) (z7 : ByteArray) (z8 : List AV) => runK G (midrangeref03_Parse.C n) midrangeref03_Parse.cut (fun S => finK G Tryz.f12.resultTypes.toList Tryz.f12.results.toList S midrangeref03_Parse.dec) m midrangeref03_Parse.t21 (midrangeref03_Parse.s21 z1 z2 z3 z4 z5 z6 z7 z8)) = (midrangeref03_Parse.l n m).2.2.2.1 := by funext z1 z2 z3 z4 z5 z6 z7 z8; exact h21 z1 z2 z3 z4 z5 z6 z7 z8
    have e25 : (fun (z1 : ByteArray) (z2 : Int) (z3 : Int) (z4 : ByteArray) (z5 : ByteArray) (z6 : ByteArray) (z7 : List AV) => runK G (midrangeref03_Parse.C n) midrangeref03_Parse.cut (fun S => finK G Tryz.f12.resultTypes.toList Tryz.f12.results.toList S midrangeref03_Parse.dec) m midrangeref03_Parse.t25 (midrangeref03_Parse.s25 z1 z2 z3 z4 z5 z6 z7)) = (midrangeref03_Parse.l n m).2.2.2.2.1 := by funext z1 z2 z3 z4 z5 z6 z7; exact h25 z1 z2 z3 z4 z5 z6 z7
    have e35 : (fun (z1 : ByteArray) (z2 : Bool) (z3 : Int) (z4 : ByteArray) (z5 : ByteArray) (z6 : List AV) => runK G (midrangeref03_Parse.C n) midrangeref03_Parse.cut (fun S => finK G Tryz.f12.resultTypes.toList Tryz.f12.results.toList S midrangeref03_Parse.dec) m midrangeref03_Parse.t35 (midrangeref03_Parse.s35 z1 z2 z3 z4 z5 z6)) = (midrangeref03_Parse.l n m).2.2.2.2.2 := by funext z1 z2 z3 z4 z5 z6; exact h35 z1 z2 z3 z4 z5 z6
    have q6 : ∀ (z1 : ByteArray) (z2 : Bool) (z3 : Int) (z4 : ByteArray) (z5 : ByteArray) (z6 : List AV), runK G (midrangeref03_Parse.C n) midrangeref03_Parse.cut (fun S => finK G Tryz.f12.resultTypes.toList Tryz.f12.results.toList S midrangeref03_Parse.dec) (m + 1) midrangeref03_Parse.t6 (midrangeref03_Parse.s6 z1 z2 z3 z4 z5 z6) = ((midrangeref03_Parse.l n (m + 1)).1) z1 z2 z3 z4 z5 z6 := by
      intro z1 z2 z3 z4 z5 z6
      rw [runK_succ]
      refine (midrangeref03_Parse.r6_eq n _ midrangeref03_Parse.dec z1 z2 z3 z4 z5 z6).trans ?_
      rw [e6, e8, e16, e21, e25, e35]
      rfl
    have q8 : ∀ (z1 : ByteArray) (z2 : Bool) (z3 : Int) (z4 : Int) (z5 : ByteArray) (z6 : ByteArray) (z7 : List AV), runK G (midrangeref03_Parse.C n) midrangeref03_Parse.cut (fun S => finK G Tryz.f12.resultTypes.toList Tryz.f12.results.toList S midrangeref03_Parse.dec) (m + 1) midrangeref03_Parse.t8 (midrangeref03_Parse.s8 z1 z2 z3 z4 z5 z6 z7) = ((midrangeref03_Parse.l n (m + 1)).2.1) z1 z2 z3 z4 z5 z6 z7 := by
      intro z1 z2 z3 z4 z5 z6 z7
      rw [runK_succ]
      refine (midrangeref03_Parse.r8_eq n _ midrangeref03_Parse.dec z1 z2 z3 z4 z5 z6 z7).trans ?_
      rw [e6, e8, e16, e21, e25, e35]
      rfl
    have q16 : ∀ (z1 : Int) (z2 : ByteArray), runK G (midrangeref03_Parse.C n) midrangeref03_Parse.cut (fun S => finK G Tryz.f12.resultTypes.toList Tryz.f12.results.toList S midrangeref03_Parse.dec) (m + 1) midrangeref03_Parse.t16 (midrangeref03_Parse.s16 z1 z2) = ((midrangeref03_Parse.l n (m + 1)).2.2.1) z1 z2 := by
      intro z1 z2
      rw [runK_succ]
      refine (midrangeref03_Parse.r16_eq n _ midrangeref03_Parse.dec z1 z2).trans ?_
      rw [e6, e8, e16, e21, e25, e35]
      rfl
    have q21 : ∀ (z1 : ByteArray) (z2 : Int) (z3 : Int) (z4 : ByteArray) (z5 : Int) (z6 : ByteArray) (z7 : ByteArray) (z8 : List AV), runK G (midrangeref03_Parse.C n) midrangeref03_Parse.cut (fun S => finK G Tryz.f12.resultTypes.toList Tryz.f12.results.toList S midrangeref03_Parse.dec) (m + 1) midrangeref03_Parse.t21 (midrangeref03_Parse.s21 z1 z2 z3 z4 z5 z6 z7 z8) = ((midrangeref03_Parse.l n (m + 1)).2.2.2.1) z1 z2 z3 z4 z5 z6 z7 z8 := by
      intro z1 z2 z3 z4 z5 z6 z7 z8
      rw [runK_succ]
      refine (midrangeref03_Parse.r21_eq n _ midrangeref03_Parse.dec z1 z2 z3 z4 z5 z6 z7 z8).trans ?_
      rw [e6, e8, e16, e21, e25, e35]
      rfl
    have q25 : ∀ (z1 : ByteArray) (z2 : Int) (z3 : Int) (z4 : ByteArray) (z5 : ByteArray) (z6 : ByteArray) (z7 : List AV), runK G (midrangeref03_Parse.C n) midrangeref03_Parse.cut (fun S => finK G Tryz.f12.resultTypes.toList Tryz.f12.results.toList S midrangeref03_Parse.dec) (m + 1) midrangeref03_Parse.t25 (midrangeref03_Parse.s25 z1 z2 z3 z4 z5 z6 z7) = ((midrangeref03_Parse.l n (m + 1)).2.2.2.2.1) z1 z2 z3 z4 z5 z6 z7 := by
      intro z1 z2 z3 z4 z5 z6 z7
      rw [runK_succ]
      refine (midrangeref03_Parse.r25_eq n _ midrangeref03_Parse.dec z1 z2 z3 z4 z5 z6 z7).trans ?_
      rw [e6, e8, e16, e21, e25, e35]
      rfl
    have q35 : ∀ (z1 : ByteArray) (z2 : Bool) (z3 : Int) (z4 : ByteArray) (z5 : ByteArray) (z6 : List AV), runK G (midrangeref03_Parse.C n) midrangeref03_Parse.cut (fun S => finK G Tryz.f12.resultTypes.toList Tryz.f12.results.toList S midrangeref03_Parse.dec) (m + 1) midrangeref03_Parse.t35 (midrangeref03_Parse.s35 z1 z2 z3 z4 z5 z6) = ((midrangeref03_Parse.l n (m + 1)).2.2.2.2.2) z1 z2 z3 z4 z5 z6 := by
      intro z1 z2 z3 z4 z5 z6
      rw [runK_succ]
      refine (midrangeref03_Parse.r35_eq n _ midrangeref03_Parse.dec z1 z2 z3 z4 z5 z6).trans ?_
      rw [e6, e8, e16, e21, e25, e35]
      rfl
    exact ⟨q6, q8, q16, q21, q25, q35⟩
theorem midrangeref03_Parse.hands (n : Nat) (a0 : ByteArray) {p : ByteArray × List AV × Int × Int} (h : midrangeref03_Parse.F n a0 = some p) : HandsIn Tryz.prog 12 [vs a0] (.tup [.agg [vs p.1, .fr ⟨true, 4⟩ 1 p.2.1], vi p.2.2.1, vi p.2.2.2]) := by
  refine hands_of cfg mixed (fun _ => rfl) rfl (midrangeref03_Parse.tells n) (fn := Tryz.f12) Tryz.func12 (by kernel_rfl) (by kernel_rfl) (cut := midrangeref03_Parse.cut) (K := midrangeref03_Parse.dec) (r := p) (n := n) midrangeref03_Parse.dec_inv ?_
  rw [funK_getD (by kernel_rfl)]
  have h1 := midrangeref03_Parse.e_eq n (runK G (midrangeref03_Parse.C n) midrangeref03_Parse.cut (fun S => finK G Tryz.f12.resultTypes.toList Tryz.f12.results.toList S midrangeref03_Parse.dec) n) midrangeref03_Parse.dec a0
  have hl := midrangeref03_Parse.l_eq n n
  simp only [hl.1, hl.2.1, hl.2.2.1, hl.2.2.2.1, hl.2.2.2.2.1, hl.2.2.2.2.2] at h1
  exact h1.trans h
noncomputable def midrangeref03_Parse.via {R : Type} (n : Nat) (xs : List AV) : (AV → Option R) → Option R := match xs with | [.v (.string a0)] => fun K => (midrangeref03_Parse.F n a0).bind fun p => K (.tup [.agg [vs p.1, .fr ⟨true, 4⟩ 1 p.2.1], vi p.2.2.1, vi p.2.2.2]) | _ => fun _ => none
noncomputable def midrangeref03_Parse.is (xs : List AV) : Bool := match xs with | [.v (.string _)] => true | _ => false
theorem midrangeref03_Parse.tells1 {R : Type} (n : Nat) (xs : List AV) : Tells1 (R := R) Tryz.prog 12 xs (midrangeref03_Parse.via n xs) := by
  unfold midrangeref03_Parse.via
  split
  · exact Tells1.of (fun p hp => (midrangeref03_Parse.hands n _ hp).hands rfl)
  · exact Tells1.none
end Go.Proofs.YtgmpnhfnkhohiaaGreatDoor.Ev

/- midrange/midrangebase.Bools, out of its evaluation. Printed by the session's own program. -/
namespace Go.Proofs.YtgmpnhfnkhohiaaGreatDoor.Ev
open Go Go.Proofs Go.Proofs.Ev
set_option linter.unusedVariables false
set_option maxRecDepth 100000
/-! midrange/midrangebase.Bools: function 41 -/
noncomputable def midrangebase_Bools.r4 {R : Type} (n : Nat) (c4 : List AV → List AV → Int → Option R) (k : Bool → Option R) (z1 : List AV) (z2 : List AV) (z3 : Int) : Option R :=
  let y2 : Bool := decide (z3 < ((z1.length : Nat) : Int))
  bif y2 then (bif decide ((0 : Int) ≤ z3) && decide (z3 < ((z1.length : Nat) : Int)) then (withCons ((z1.getD ((z3).toNat) .undef).cells) fun h3 r4 =>
  withBool h3 fun b5 =>
  bif decide ((0 : Int) ≤ z3) && decide (z3 < ((z2.length : Nat) : Int)) then (withCons ((z2.getD ((z3).toNat) .undef).cells) fun h6 r7 =>
  withBool h6 fun b8 =>
  bif !(b5 == b8) then (k false) else (c4 z1 z2 (IntKind.i64.wrap (z3 + 1)))) else none) else none) else (k true)
noncomputable def midrangebase_Bools.e {R : Type} (n : Nat) (c4 : List AV → List AV → Int → Option R) (k : Bool → Option R) (a0 : List AV) (a1 : List AV) : Option R :=
  let y1 : Bool := ((a0.length : Nat) : Int) != ((a1.length : Nat) : Int)
  bif y1 then (k false) else (c4 a0 a1 0)
noncomputable def midrangebase_Bools.C {R : Type} (n : Nat) (f : FuncId) (xs : List AV) : (AV → Option R) → Option R :=
  fun _ => none
theorem midrangebase_Bools.tells {R : Type} (n : Nat) : Tells (R := R) Tryz.prog (midrangebase_Bools.C n) := fun _ xs => Tells1.none
noncomputable def midrangebase_Bools.cut (r : Nat) : Option Keep := match r with | 4 => Option.some ⟨[0, 1, 5], []⟩ | _ => none
noncomputable def midrangebase_Bools.t4 : List Item := (todoOf 4 1000 [.code (Tryz.f41.body.getD .skip)]).getD []
noncomputable def midrangebase_Bools.s4 (z1 : List AV) (z2 : List AV) (z3 : Int) : St := ⟨[.sl ⟨true, 4⟩ 1 z1, .sl ⟨true, 4⟩ 1 z2, .undef, .undef, .undef, vi z3, .undef, .undef, .undef, .undef, .undef, .undef, .undef, .undef, .undef, .undef, .undef, .undef, .undef, .undef, .undef, .undef, .undef, .undef, .undef, .undef], Mem.ofList [], 0⟩
theorem midrangebase_Bools.e_eq {R : Type} (n : Nat) (rec : List Item → St → Option R) (K : AV → Option R) (a0 : List AV) (a1 : List AV) :
    goK G (midrangebase_Bools.C n) midrangebase_Bools.cut (fun S => finK G Tryz.f41.resultTypes.toList Tryz.f41.results.toList S K) rec 1000 [.code (Tryz.f41.body.getD .skip)] (Ev.start Tryz.f41 [.sl ⟨true, 4⟩ 1 a0, .sl ⟨true, 4⟩ 1 a1]) = midrangebase_Bools.e n (fun z1 z2 z3 => rec midrangebase_Bools.t4 (midrangebase_Bools.s4 z1 z2 z3)) (fun p => K (vb p)) a0 a1 := by kernel_rfl
theorem midrangebase_Bools.r4_eq {R : Type} (n : Nat) (rec : List Item → St → Option R) (K : AV → Option R) (z1 : List AV) (z2 : List AV) (z3 : Int) :
    atK G (midrangebase_Bools.C n) midrangebase_Bools.cut (fun S => finK G Tryz.f41.resultTypes.toList Tryz.f41.results.toList S K) rec midrangebase_Bools.t4 (midrangebase_Bools.s4 z1 z2 z3) = midrangebase_Bools.r4 n (fun z1 z2 z3 => rec midrangebase_Bools.t4 (midrangebase_Bools.s4 z1 z2 z3)) (fun p => K (vb p)) z1 z2 z3 := by kernel_rfl
noncomputable def midrangebase_Bools.l (n : Nat) : Nat → (List AV → List AV → Int → Option (Bool))
  | 0 => (fun _ _ _ => none)
  | m + 1 => midrangebase_Bools.r4 n (midrangebase_Bools.l n m) Option.some
noncomputable def midrangebase_Bools.F (n : Nat) (a0 : List AV) (a1 : List AV) : Option (Bool) := midrangebase_Bools.e n (midrangebase_Bools.l n n) Option.some a0 a1
noncomputable def midrangebase_Bools.dec (x : AV) : Option (Bool) := match x with | .v (.bool p0) => Option.some p0 | _ => none
theorem midrangebase_Bools.dec_inv {p : Bool} (y : AV) (h : midrangebase_Bools.dec y = some p) : y = vb p := by
  unfold midrangebase_Bools.dec at h
  split at h
  · cases h; rfl
  · cases h
theorem midrangebase_Bools.l_eq (n m : Nat) : (∀ (z1 : List AV) (z2 : List AV) (z3 : Int), runK G (midrangebase_Bools.C n) midrangebase_Bools.cut (fun S => finK G Tryz.f41.resultTypes.toList Tryz.f41.results.toList S midrangebase_Bools.dec) m midrangebase_Bools.t4 (midrangebase_Bools.s4 z1 z2 z3) = (midrangebase_Bools.l n m) z1 z2 z3) := by
  induction m with
  | zero => exact fun z1 z2 z3 => rfl
  | succ m ih =>
    have h4 := ih
    have e4 : (fun (z1 : List AV) (z2 : List AV) (z3 : Int) => runK G (midrangebase_Bools.C n) midrangebase_Bools.cut (fun S => finK G Tryz.f41.resultTypes.toList Tryz.f41.results.toList S midrangebase_Bools.dec) m midrangebase_Bools.t4 (midrangebase_Bools.s4 z1 z2 z3)) = (midrangebase_Bools.l n m) := by funext z1 z2 z3; exact h4 z1 z2 z3
    have q4 : ∀ (z1 : List AV) (z2 : List AV) (z3 : Int), runK G (midrangebase_Bools.C n) midrangebase_Bools.cut (fun S => finK G Tryz.f41.resultTypes.toList Tryz.f41.results.toList S midrangebase_Bools.dec) (m + 1) midrangebase_Bools.t4 (midrangebase_Bools.s4 z1 z2 z3) = (midrangebase_Bools.l n (m + 1)) z1 z2 z3 := by
      intro z1 z2 z3
      rw [runK_succ]
      refine (midrangebase_Bools.r4_eq n _ midrangebase_Bools.dec z1 z2 z3).trans ?_
      rw [e4]
      rfl
    exact q4
theorem midrangebase_Bools.hands (n : Nat) (a0 : List AV) (a1 : List AV) {p : Bool} (h : midrangebase_Bools.F n a0 a1 = some p) : HandsIn Tryz.prog 41 [.sl ⟨true, 4⟩ 1 a0, .sl ⟨true, 4⟩ 1 a1] (vb p) := by
  refine hands_of cfg mixed (fun _ => rfl) rfl (midrangebase_Bools.tells n) (fn := Tryz.f41) Tryz.func41 (by kernel_rfl) (by kernel_rfl) (cut := midrangebase_Bools.cut) (K := midrangebase_Bools.dec) (r := p) (n := n) midrangebase_Bools.dec_inv ?_
  rw [funK_getD (by kernel_rfl)]
  have h1 := midrangebase_Bools.e_eq n (runK G (midrangebase_Bools.C n) midrangebase_Bools.cut (fun S => finK G Tryz.f41.resultTypes.toList Tryz.f41.results.toList S midrangebase_Bools.dec) n) midrangebase_Bools.dec a0 a1
  have hl := midrangebase_Bools.l_eq n n
  simp only [hl] at h1
  exact h1.trans h
noncomputable def midrangebase_Bools.via {R : Type} (n : Nat) (xs : List AV) : (AV → Option R) → Option R := match xs with | [.sl ⟨true, 4⟩ 1 a0, .sl ⟨true, 4⟩ 1 a1] => fun K => (midrangebase_Bools.F n a0 a1).bind fun p => K (vb p) | _ => fun _ => none
noncomputable def midrangebase_Bools.is (xs : List AV) : Bool := match xs with | [.sl ⟨true, 4⟩ 1 _, .sl ⟨true, 4⟩ 1 _] => true | _ => false
theorem midrangebase_Bools.tells1 {R : Type} (n : Nat) (xs : List AV) : Tells1 (R := R) Tryz.prog 41 xs (midrangebase_Bools.via n xs) := by
  unfold midrangebase_Bools.via
  split
  · exact Tells1.of (fun p hp => (midrangebase_Bools.hands n _ _ hp).hands rfl)
  · exact Tells1.none
end Go.Proofs.YtgmpnhfnkhohiaaGreatDoor.Ev

/- midrange/midrangebase.SameStorage, out of its evaluation. Printed by the session's own program. -/
namespace Go.Proofs.YtgmpnhfnkhohiaaGreatDoor.Ev
open Go Go.Proofs Go.Proofs.Ev
set_option linter.unusedVariables false
set_option maxRecDepth 100000
/-! midrange/midrangebase.SameStorage: function 13 -/
noncomputable def midrangebase_SameStorage.e {R : Type} (n : Nat)  (k : Bool → Option R) (a0 : ByteArray) (a1 : List AV) (a2 : ByteArray) (a3 : List AV) : Option R :=
  bif a0.toList == a2.toList then ((midrangebase_Bools.F n a1 a3).bind fun p1 =>
  k p1) else (k false)
noncomputable def midrangebase_SameStorage.C {R : Type} (n : Nat) (f : FuncId) (xs : List AV) : (AV → Option R) → Option R :=
  bif Nat.beq f 41 then midrangebase_Bools.via n xs else fun _ => none
theorem midrangebase_SameStorage.tells {R : Type} (n : Nat) : Tells (R := R) Tryz.prog (midrangebase_SameStorage.C n) := fun _ xs => tells_at (midrangebase_Bools.tells1 n xs) (Tells1.none)
noncomputable def midrangebase_SameStorage.cut (r : Nat) : Option Keep := match r with  | _ => none
theorem midrangebase_SameStorage.e_eq {R : Type} (n : Nat) (rec : List Item → St → Option R) (K : AV → Option R) (a0 : ByteArray) (a1 : List AV) (a2 : ByteArray) (a3 : List AV) :
    goK G (midrangebase_SameStorage.C n) midrangebase_SameStorage.cut (fun S => finK G Tryz.f13.resultTypes.toList Tryz.f13.results.toList S K) rec 1000 [.code (Tryz.f13.body.getD .skip)] (Ev.start Tryz.f13 [AV.agg [vs a0, .sl ⟨true, 4⟩ 1 a1], .agg [vs a2, .sl ⟨true, 4⟩ 1 a3]]) = midrangebase_SameStorage.e n  (fun p => K (vb p)) a0 a1 a2 a3 := by kernel_rfl
noncomputable def midrangebase_SameStorage.F (n : Nat) (a0 : ByteArray) (a1 : List AV) (a2 : ByteArray) (a3 : List AV) : Option (Bool) := midrangebase_SameStorage.e n  Option.some a0 a1 a2 a3
noncomputable def midrangebase_SameStorage.dec (x : AV) : Option (Bool) := match x with | .v (.bool p0) => Option.some p0 | _ => none
theorem midrangebase_SameStorage.dec_inv {p : Bool} (y : AV) (h : midrangebase_SameStorage.dec y = some p) : y = vb p := by
  unfold midrangebase_SameStorage.dec at h
  split at h
  · cases h; rfl
  · cases h
theorem midrangebase_SameStorage.hands (n : Nat) (a0 : ByteArray) (a1 : List AV) (a2 : ByteArray) (a3 : List AV) {p : Bool} (h : midrangebase_SameStorage.F n a0 a1 a2 a3 = some p) : HandsIn Tryz.prog 13 [AV.agg [vs a0, .sl ⟨true, 4⟩ 1 a1], .agg [vs a2, .sl ⟨true, 4⟩ 1 a3]] (vb p) := by
  refine hands_of cfg mixed (fun _ => rfl) rfl (midrangebase_SameStorage.tells n) (fn := Tryz.f13) Tryz.func13 (by kernel_rfl) (by kernel_rfl) (cut := midrangebase_SameStorage.cut) (K := midrangebase_SameStorage.dec) (r := p) (n := n) midrangebase_SameStorage.dec_inv ?_
  rw [funK_getD (by kernel_rfl)]
  have h1 := midrangebase_SameStorage.e_eq n (runK G (midrangebase_SameStorage.C n) midrangebase_SameStorage.cut (fun S => finK G Tryz.f13.resultTypes.toList Tryz.f13.results.toList S midrangebase_SameStorage.dec) n) midrangebase_SameStorage.dec a0 a1 a2 a3
  exact h1.trans h
noncomputable def midrangebase_SameStorage.via {R : Type} (n : Nat) (xs : List AV) : (AV → Option R) → Option R := match xs with | [.agg [.v (.string a0), .sl ⟨true, 4⟩ 1 a1], .agg [.v (.string a2), .sl ⟨true, 4⟩ 1 a3]] => fun K => (midrangebase_SameStorage.F n a0 a1 a2 a3).bind fun p => K (vb p) | _ => fun _ => none
noncomputable def midrangebase_SameStorage.is (xs : List AV) : Bool := match xs with | [.agg [.v (.string _), .sl ⟨true, 4⟩ 1 _], .agg [.v (.string _), .sl ⟨true, 4⟩ 1 _]] => true | _ => false
theorem midrangebase_SameStorage.tells1 {R : Type} (n : Nat) (xs : List AV) : Tells1 (R := R) Tryz.prog 13 xs (midrangebase_SameStorage.via n xs) := by
  unfold midrangebase_SameStorage.via
  split
  · exact Tells1.of (fun p hp => (midrangebase_SameStorage.hands n _ _ _ _ hp).hands rfl)
  · exact Tells1.none
end Go.Proofs.YtgmpnhfnkhohiaaGreatDoor.Ev

/- midrange/midrangelaw03.TaggedDumps, out of its evaluation. Printed by the session's own program. -/
namespace Go.Proofs.YtgmpnhfnkhohiaaGreatDoor.Ev
open Go Go.Proofs Go.Proofs.Ev
set_option linter.unusedVariables false
set_option maxRecDepth 100000
/-! midrange/midrangelaw03.TaggedDumps: function 3 -/
noncomputable def midrangelaw03_TaggedDumps.e {R : Type} (n : Nat)  (k : Bool → Option R) (a0 : ByteArray) (a1 : List AV) (a2 : ByteArray) : Option R :=
  (midrangelaw03_awake.F n ).bind fun p1 =>
  bif !p1 then (k false) else ((midrangelaw03_few.F n a0 a1).bind fun p2 =>
  bif !p2 then (k true) else (let y3 : Bool := decide (((a2.size : Nat) : Int) > 6050)
  bif y3 then (k true) else ((midrangebase_OwnStorage.F n a0 a1).bind fun p4 =>
  (tagged_Dump.F n p4.1 p4.2).bind fun p5 =>
  (midrangeref03_Err.F n a0 a1).bind fun p6 =>
  bif p6 != 0 then (bif p5.2 != p6 then (k false) else (let y7 : Bool := !(p5.1.toList == (⟨#[]⟩ : ByteArray).toList)
  bif y7 then (k false) else ((tagged_ParseDump.F n a2).bind fun p8 =>
  (midrangeref03_Parse.F n a2).bind fun p9 =>
  bif p8.2.2.2 == p9.2.2.2 then (bif p8.2.2.1 == p9.2.2.1 then ((midrangebase_SameStorage.F n p8.1 p8.2.1 p9.1 p9.2.1).bind fun p10 =>
  k p10) else (k false)) else (k false)))) else (bif p5.2 != 0 then (k false) else ((midrangeref03_Dump.F n a0 a1).bind fun p11 =>
  bif !(p5.1.toList == p11.toList) then (k false) else ((tagged_ParseDump.F n a2).bind fun p12 =>
  (midrangeref03_Parse.F n a2).bind fun p13 =>
  bif p12.2.2.2 == p13.2.2.2 then (bif p12.2.2.1 == p13.2.2.1 then ((midrangebase_SameStorage.F n p12.1 p12.2.1 p13.1 p13.2.1).bind fun p14 =>
  k p14) else (k false)) else (k false)))))))
noncomputable def midrangelaw03_TaggedDumps.C {R : Type} (n : Nat) (f : FuncId) (xs : List AV) : (AV → Option R) → Option R :=
  bif Nat.beq f 5 then midrangelaw03_awake.via n xs else bif Nat.beq f 6 then midrangelaw03_few.via n xs else bif Nat.beq f 7 then tagged_Dump.via n xs else bif Nat.beq f 8 then midrangebase_OwnStorage.via n xs else bif Nat.beq f 9 then midrangeref03_Err.via n xs else bif Nat.beq f 10 then midrangeref03_Dump.via n xs else bif Nat.beq f 11 then tagged_ParseDump.via n xs else bif Nat.beq f 12 then midrangeref03_Parse.via n xs else bif Nat.beq f 13 then midrangebase_SameStorage.via n xs else fun _ => none
theorem midrangelaw03_TaggedDumps.tells {R : Type} (n : Nat) : Tells (R := R) Tryz.prog (midrangelaw03_TaggedDumps.C n) := fun _ xs => tells_at (midrangelaw03_awake.tells1 n xs) (tells_at (midrangelaw03_few.tells1 n xs) (tells_at (tagged_Dump.tells1 n xs) (tells_at (midrangebase_OwnStorage.tells1 n xs) (tells_at (midrangeref03_Err.tells1 n xs) (tells_at (midrangeref03_Dump.tells1 n xs) (tells_at (tagged_ParseDump.tells1 n xs) (tells_at (midrangeref03_Parse.tells1 n xs) (tells_at (midrangebase_SameStorage.tells1 n xs) (Tells1.none)))))))))
noncomputable def midrangelaw03_TaggedDumps.cut (r : Nat) : Option Keep := match r with  | _ => none
theorem midrangelaw03_TaggedDumps.e_eq {R : Type} (n : Nat) (rec : List Item → St → Option R) (K : AV → Option R) (a0 : ByteArray) (a1 : List AV) (a2 : ByteArray) :
    goK G (midrangelaw03_TaggedDumps.C n) midrangelaw03_TaggedDumps.cut (fun S => finK G Tryz.f3.resultTypes.toList Tryz.f3.results.toList S K) rec 1000 [.code (Tryz.f3.body.getD .skip)] (Ev.start Tryz.f3 [AV.agg [vs a0, .sl ⟨true, 4⟩ 1 a1], vs a2]) = midrangelaw03_TaggedDumps.e n  (fun p => K (vb p)) a0 a1 a2 := by kernel_rfl
noncomputable def midrangelaw03_TaggedDumps.F (n : Nat) (a0 : ByteArray) (a1 : List AV) (a2 : ByteArray) : Option (Bool) := midrangelaw03_TaggedDumps.e n  Option.some a0 a1 a2
noncomputable def midrangelaw03_TaggedDumps.dec (x : AV) : Option (Bool) := match x with | .v (.bool p0) => Option.some p0 | _ => none
theorem midrangelaw03_TaggedDumps.dec_inv {p : Bool} (y : AV) (h : midrangelaw03_TaggedDumps.dec y = some p) : y = vb p := by
  unfold midrangelaw03_TaggedDumps.dec at h
  split at h
  · cases h; rfl
  · cases h
theorem midrangelaw03_TaggedDumps.hands (n : Nat) (a0 : ByteArray) (a1 : List AV) (a2 : ByteArray) {p : Bool} (h : midrangelaw03_TaggedDumps.F n a0 a1 a2 = some p) : HandsIn Tryz.prog 3 [AV.agg [vs a0, .sl ⟨true, 4⟩ 1 a1], vs a2] (vb p) := by
  refine hands_of cfg mixed (fun _ => rfl) rfl (midrangelaw03_TaggedDumps.tells n) (fn := Tryz.f3) Tryz.func3 (by kernel_rfl) (by kernel_rfl) (cut := midrangelaw03_TaggedDumps.cut) (K := midrangelaw03_TaggedDumps.dec) (r := p) (n := n) midrangelaw03_TaggedDumps.dec_inv ?_
  rw [funK_getD (by kernel_rfl)]
  have h1 := midrangelaw03_TaggedDumps.e_eq n (runK G (midrangelaw03_TaggedDumps.C n) midrangelaw03_TaggedDumps.cut (fun S => finK G Tryz.f3.resultTypes.toList Tryz.f3.results.toList S midrangelaw03_TaggedDumps.dec) n) midrangelaw03_TaggedDumps.dec a0 a1 a2
  exact h1.trans h
noncomputable def midrangelaw03_TaggedDumps.via {R : Type} (n : Nat) (xs : List AV) : (AV → Option R) → Option R := match xs with | [.agg [.v (.string a0), .sl ⟨true, 4⟩ 1 a1], .v (.string a2)] => fun K => (midrangelaw03_TaggedDumps.F n a0 a1 a2).bind fun p => K (vb p) | _ => fun _ => none
noncomputable def midrangelaw03_TaggedDumps.is (xs : List AV) : Bool := match xs with | [.agg [.v (.string _), .sl ⟨true, 4⟩ 1 _], .v (.string _)] => true | _ => false
theorem midrangelaw03_TaggedDumps.tells1 {R : Type} (n : Nat) (xs : List AV) : Tells1 (R := R) Tryz.prog 3 xs (midrangelaw03_TaggedDumps.via n xs) := by
  unfold midrangelaw03_TaggedDumps.via
  split
  · exact Tells1.of (fun p hp => (midrangelaw03_TaggedDumps.hands n _ _ _ hp).hands rfl)
  · exact Tells1.none
end Go.Proofs.YtgmpnhfnkhohiaaGreatDoor.Ev

/- midrange/tagged.place, out of its evaluation. Printed by the session's own program. -/
namespace Go.Proofs.YtgmpnhfnkhohiaaGreatDoor.Ev
open Go Go.Proofs Go.Proofs.Ev
set_option linter.unusedVariables false
set_option maxRecDepth 100000
/-! midrange/tagged.place: function 46 -/
noncomputable def tagged_place.r5 {R : Type} (n : Nat) (c5 : Unit → Option R) (k : Int → Option R) (_ : Unit) : Option R :=
  k 3
noncomputable def tagged_place.e {R : Type} (n : Nat) (c5 : Unit → Option R) (k : Int → Option R) (a0 : ByteArray) (a1 : List AV) (a2 : Int) : Option R :=
  (tagged_CheckStorage.F n a0 a1).bind fun p1 =>
  bif p1.2 != 0 then (k p1.2) else (bif decide (a2 < 0) then (c5 ()) else (let y2 : Bool := decide (a2 ≥ ((a0.size : Nat) : Int))
  bif y2 then (c5 ()) else (bif (Int.tmod a2 16) != 0 then (c5 ()) else (k 0))))
noncomputable def tagged_place.C {R : Type} (n : Nat) (f : FuncId) (xs : List AV) : (AV → Option R) → Option R :=
  bif Nat.beq f 20 then tagged_CheckStorage.via n xs else fun _ => none
theorem tagged_place.tells {R : Type} (n : Nat) : Tells (R := R) Tryz.prog (tagged_place.C n) := fun _ xs => tells_at (tagged_CheckStorage.tells1 n xs) (Tells1.none)
noncomputable def tagged_place.cut (r : Nat) : Option Keep := match r with | 5 => Option.some ⟨[], []⟩ | _ => none
noncomputable def tagged_place.t5 : List Item := (todoOf 5 1000 [.code (Tryz.f46.body.getD .skip)]).getD []
noncomputable def tagged_place.s5 (_ : Unit) : St := ⟨[.undef, .undef, .undef, .undef, .undef, .undef, .undef, .undef, .undef, .undef, .undef, .undef, .undef, .undef, .undef, .undef, .undef, .undef, .undef, .undef, .undef, .undef, .undef, .undef, .undef, .undef, .undef, .undef, .undef], Mem.ofList [], 0⟩
theorem tagged_place.e_eq {R : Type} (n : Nat) (rec : List Item → St → Option R) (K : AV → Option R) (a0 : ByteArray) (a1 : List AV) (a2 : Int) :
    goK G (tagged_place.C n) tagged_place.cut (fun S => finK G Tryz.f46.resultTypes.toList Tryz.f46.results.toList S K) rec 1000 [.code (Tryz.f46.body.getD .skip)] (Ev.start Tryz.f46 [AV.agg [vs a0, .sl ⟨true, 4⟩ 1 a1], vi a2]) = tagged_place.e n (fun _ => rec tagged_place.t5 (tagged_place.s5 ())) (fun p => K (vi p)) a0 a1 a2 := by kernel_rfl
theorem tagged_place.r5_eq {R : Type} (n : Nat) (rec : List Item → St → Option R) (K : AV → Option R) (_ : Unit) :
    atK G (tagged_place.C n) tagged_place.cut (fun S => finK G Tryz.f46.resultTypes.toList Tryz.f46.results.toList S K) rec tagged_place.t5 (tagged_place.s5 ()) = tagged_place.r5 n (fun _ => rec tagged_place.t5 (tagged_place.s5 ())) (fun p => K (vi p)) () := by kernel_rfl
noncomputable def tagged_place.l (n : Nat) : Nat → (Unit → Option (Int))
  | 0 => (fun _ => none)
  | m + 1 => tagged_place.r5 n (tagged_place.l n m) Option.some
noncomputable def tagged_place.F (n : Nat) (a0 : ByteArray) (a1 : List AV) (a2 : Int) : Option (Int) := tagged_place.e n (tagged_place.l n n) Option.some a0 a1 a2
noncomputable def tagged_place.dec (x : AV) : Option (Int) := match x with | .v (.int .i64 p0) => Option.some p0 | _ => none
theorem tagged_place.dec_inv {p : Int} (y : AV) (h : tagged_place.dec y = some p) : y = vi p := by
  unfold tagged_place.dec at h
  split at h
  · cases h; rfl
  · cases h
theorem tagged_place.l_eq (n m : Nat) : (∀ z : Unit, runK G (tagged_place.C n) tagged_place.cut (fun S => finK G Tryz.f46.resultTypes.toList Tryz.f46.results.toList S tagged_place.dec) m tagged_place.t5 (tagged_place.s5 z) = (tagged_place.l n m) z) := by
  induction m with
  | zero => exact fun _ => rfl
  | succ m ih =>
    have h5 := ih
    have e5 : (fun (_ : Unit) => runK G (tagged_place.C n) tagged_place.cut (fun S => finK G Tryz.f46.resultTypes.toList Tryz.f46.results.toList S tagged_place.dec) m tagged_place.t5 (tagged_place.s5 ())) = (tagged_place.l n m) := by funext z; exact h5 z
    have q5 : ∀ z : Unit, runK G (tagged_place.C n) tagged_place.cut (fun S => finK G Tryz.f46.resultTypes.toList Tryz.f46.results.toList S tagged_place.dec) (m + 1) tagged_place.t5 (tagged_place.s5 z) = (tagged_place.l n (m + 1)) z := by
      intro z
      rw [runK_succ]
      refine (tagged_place.r5_eq n _ tagged_place.dec ()).trans ?_
      rw [e5]
      rfl
    exact q5
theorem tagged_place.hands (n : Nat) (a0 : ByteArray) (a1 : List AV) (a2 : Int) {p : Int} (h : tagged_place.F n a0 a1 a2 = some p) : HandsIn Tryz.prog 46 [AV.agg [vs a0, .sl ⟨true, 4⟩ 1 a1], vi a2] (vi p) := by
  refine hands_of cfg mixed (fun _ => rfl) rfl (tagged_place.tells n) (fn := Tryz.f46) Tryz.func46 (by kernel_rfl) (by kernel_rfl) (cut := tagged_place.cut) (K := tagged_place.dec) (r := p) (n := n) tagged_place.dec_inv ?_
  rw [funK_getD (by kernel_rfl)]
  have h1 := tagged_place.e_eq n (runK G (tagged_place.C n) tagged_place.cut (fun S => finK G Tryz.f46.resultTypes.toList Tryz.f46.results.toList S tagged_place.dec) n) tagged_place.dec a0 a1 a2
  have hl := tagged_place.l_eq n n
  simp only [hl] at h1
  exact h1.trans h
noncomputable def tagged_place.via {R : Type} (n : Nat) (xs : List AV) : (AV → Option R) → Option R := match xs with | [.agg [.v (.string a0), .sl ⟨true, 4⟩ 1 a1], .v (.int .i64 a2)] => fun K => (tagged_place.F n a0 a1 a2).bind fun p => K (vi p) | _ => fun _ => none
noncomputable def tagged_place.is (xs : List AV) : Bool := match xs with | [.agg [.v (.string _), .sl ⟨true, 4⟩ 1 _], .v (.int .i64 _)] => true | _ => false
theorem tagged_place.tells1 {R : Type} (n : Nat) (xs : List AV) : Tells1 (R := R) Tryz.prog 46 xs (tagged_place.via n xs) := by
  unfold tagged_place.via
  split
  · exact Tells1.of (fun p hp => (tagged_place.hands n _ _ _ hp).hands rfl)
  · exact Tells1.none
end Go.Proofs.YtgmpnhfnkhohiaaGreatDoor.Ev

/- slices.Clone[[]bool,bool], out of the library's contract. Printed by the session's own program. -/
namespace Go.Proofs.YtgmpnhfnkhohiaaGreatDoor.Ev
open Go Go.Proofs Go.Proofs.Ev
set_option linter.unusedVariables false
set_option maxRecDepth 100000
noncomputable def slices_Clone_bool_bool.F (n : Nat) (xs : List AV) : Option (List AV) := bif decide (xs.length ≤ most) then Option.some xs else none
theorem slices_Clone_bool_bool.hands (n : Nat) (xs : List AV) {p : List AV} (h : slices_Clone_bool_bool.F n xs = some p) : HandsIn Tryz.prog 76 [.sl ⟨true, 4⟩ 1 xs] (.fr ⟨true, 4⟩ 1 p) := by
  unfold slices_Clone_bool_bool.F at h
  cases hc : decide (xs.length ≤ most) with
  | false => rw [hc] at h; cases h
  | true =>
    rw [hc] at h
    cases h
    exact clone_hands (G := G) Tryz.lay76 cfg (ei := ⟨.bool, 1, 1, false, [.bool], [.bool false], 4⟩) rfl (by decide) (by decide) (by rfl) (fn := Tryz.f76) Tryz.func76 (by kernel_rfl) (by kernel_rfl) xs (of_decide_eq_true hc)
noncomputable def slices_Clone_bool_bool.via {R : Type} (n : Nat) (ys : List AV) : (AV → Option R) → Option R := match ys with | [.sl ⟨true, 4⟩ 1 xs] => fun K => (slices_Clone_bool_bool.F n xs).bind fun p => K (.fr ⟨true, 4⟩ 1 p) | _ => fun _ => none
theorem slices_Clone_bool_bool.tells1 {R : Type} (n : Nat) (ys : List AV) : Tells1 (R := R) Tryz.prog 76 ys (slices_Clone_bool_bool.via n ys) := by
  unfold slices_Clone_bool_bool.via
  split
  · exact Tells1.of (fun p hp => (slices_Clone_bool_bool.hands n _ hp).hands rfl)
  · exact Tells1.none
end Go.Proofs.YtgmpnhfnkhohiaaGreatDoor.Ev

/- midrange/tagged.put, out of its evaluation. Printed by the session's own program. -/
namespace Go.Proofs.YtgmpnhfnkhohiaaGreatDoor.Ev
open Go Go.Proofs Go.Proofs.Ev
set_option linter.unusedVariables false
set_option maxRecDepth 100000
/-! midrange/tagged.put: function 47 -/
noncomputable def tagged_put.e {R : Type} (n : Nat)  (k : ByteArray × List AV → Option R) (a0 : ByteArray) (a1 : List AV) (a2 : Int) (a3 : ByteArray) : Option R :=
  bif decide ((0 : Int) ≤ a2) && decide ((a2 : Int) ≤ ((a0.size : Nat) : Int)) then (chk (decide ((a0.extract 0 (a2).toNat).size + a3.size ≤ 9223372036854775807)) (let y1 : ByteArray := (a0.extract 0 (a2).toNat) ++ a3
  let y2 : Int := IntKind.i64.wrap (a2 + ((a3.size : Nat) : Int))
  bif decide ((0 : Int) ≤ y2) && decide ((y2 : Int) ≤ ((a0.size : Nat) : Int)) then (let y3 : ByteArray := a0.extract (y2).toNat a0.size
  chk (decide (y1.size + y3.size ≤ 9223372036854775807)) ((slices_Clone_bool_bool.F n a1).bind fun p4 =>
  let y5 : Bool := !(a3.toList == (⟨#[]⟩ : ByteArray).toList)
  bif y5 then (let y6 : Int := IntKind.i64.wrap (Int.tdiv a2 16)
  let y7 : Int := IntKind.i64.wrap (a2 + ((a3.size : Nat) : Int))
  let y8 : Int := IntKind.i64.wrap (Int.tdiv (IntKind.i64.wrap (y7 - 1)) 16)
  bif decide ((0 : Int) ≤ IntKind.i64.wrap (y8 + 1)) && decide ((IntKind.i64.wrap (y8 + 1) : Int) ≤ ((p4.length : Nat) : Int)) then (bif decide ((0 : Int) ≤ y6) && decide ((y6 : Int) ≤ IntKind.i64.wrap (y8 + 1)) then (let y9 : List AV := p4.take ((y6).toNat) ++ List.replicate (((IntKind.i64.wrap (y8 + 1)) - y6).toNat) (vb false) ++ p4.drop (((IntKind.i64.wrap (y8 + 1)) - y6).toNat + ((y6).toNat))
  k (y1 ++ y3, y9)) else none) else none) else (k (y1 ++ y3, p4)))) else none)) else none
noncomputable def tagged_put.C {R : Type} (n : Nat) (f : FuncId) (xs : List AV) : (AV → Option R) → Option R :=
  bif Nat.beq f 76 then slices_Clone_bool_bool.via n xs else fun _ => none
theorem tagged_put.tells {R : Type} (n : Nat) : Tells (R := R) Tryz.prog (tagged_put.C n) := fun _ xs => tells_at (slices_Clone_bool_bool.tells1 n xs) (Tells1.none)
noncomputable def tagged_put.cut (r : Nat) : Option Keep := match r with  | _ => none
theorem tagged_put.e_eq {R : Type} (n : Nat) (rec : List Item → St → Option R) (K : AV → Option R) (a0 : ByteArray) (a1 : List AV) (a2 : Int) (a3 : ByteArray) :
    goK G (tagged_put.C n) tagged_put.cut (fun S => finK G Tryz.f47.resultTypes.toList Tryz.f47.results.toList S K) rec 1000 [.code (Tryz.f47.body.getD .skip)] (Ev.start Tryz.f47 [AV.agg [vs a0, .sl ⟨true, 4⟩ 1 a1], vi a2, vs a3]) = tagged_put.e n  (fun p => K (.agg [vs p.1, .fr ⟨true, 4⟩ 1 p.2])) a0 a1 a2 a3 := by kernel_rfl
noncomputable def tagged_put.F (n : Nat) (a0 : ByteArray) (a1 : List AV) (a2 : Int) (a3 : ByteArray) : Option (ByteArray × List AV) := tagged_put.e n  Option.some a0 a1 a2 a3
noncomputable def tagged_put.dec (x : AV) : Option (ByteArray × List AV) := match x with | .agg [.v (.string p0), .fr ⟨true, 4⟩ 1 p1] => Option.some (p0, p1) | _ => none
theorem tagged_put.dec_inv {p : ByteArray × List AV} (y : AV) (h : tagged_put.dec y = some p) : y = .agg [vs p.1, .fr ⟨true, 4⟩ 1 p.2] := by
  unfold tagged_put.dec at h
  split at h
  · cases h; rfl
  · cases h
theorem tagged_put.hands (n : Nat) (a0 : ByteArray) (a1 : List AV) (a2 : Int) (a3 : ByteArray) {p : ByteArray × List AV} (h : tagged_put.F n a0 a1 a2 a3 = some p) : HandsIn Tryz.prog 47 [AV.agg [vs a0, .sl ⟨true, 4⟩ 1 a1], vi a2, vs a3] (.agg [vs p.1, .fr ⟨true, 4⟩ 1 p.2]) := by
  refine hands_of cfg mixed (fun _ => rfl) rfl (tagged_put.tells n) (fn := Tryz.f47) Tryz.func47 (by kernel_rfl) (by kernel_rfl) (cut := tagged_put.cut) (K := tagged_put.dec) (r := p) (n := n) tagged_put.dec_inv ?_
  rw [funK_getD (by kernel_rfl)]
  have h1 := tagged_put.e_eq n (runK G (tagged_put.C n) tagged_put.cut (fun S => finK G Tryz.f47.resultTypes.toList Tryz.f47.results.toList S tagged_put.dec) n) tagged_put.dec a0 a1 a2 a3
  exact h1.trans h
noncomputable def tagged_put.via {R : Type} (n : Nat) (xs : List AV) : (AV → Option R) → Option R := match xs with | [.agg [.v (.string a0), .sl ⟨true, 4⟩ 1 a1], .v (.int .i64 a2), .v (.string a3)] => fun K => (tagged_put.F n a0 a1 a2 a3).bind fun p => K (.agg [vs p.1, .fr ⟨true, 4⟩ 1 p.2]) | _ => fun _ => none
noncomputable def tagged_put.is (xs : List AV) : Bool := match xs with | [.agg [.v (.string _), .sl ⟨true, 4⟩ 1 _], .v (.int .i64 _), .v (.string _)] => true | _ => false
theorem tagged_put.tells1 {R : Type} (n : Nat) (xs : List AV) : Tells1 (R := R) Tryz.prog 47 xs (tagged_put.via n xs) := by
  unfold tagged_put.via
  split
  · exact Tells1.of (fun p hp => (tagged_put.hands n _ _ _ _ hp).hands rfl)
  · exact Tells1.none
end Go.Proofs.YtgmpnhfnkhohiaaGreatDoor.Ev

/- midrange/tagged.StorePointer, out of its evaluation. Printed by the session's own program. -/
namespace Go.Proofs.YtgmpnhfnkhohiaaGreatDoor.Ev
open Go Go.Proofs Go.Proofs.Ev
set_option linter.unusedVariables false
set_option maxRecDepth 100000
/-! midrange/tagged.StorePointer: function 17 -/
noncomputable def tagged_StorePointer.e {R : Type} (n : Nat)  (k : ByteArray × List AV × Int → Option R) (a0 : ByteArray) (a1 : List AV) (a2 : Int) (a3 : Int) (a4 : Int) (a5 : Int) (a6 : Int) : Option R :=
  (tagged_place.F n a0 a1 a2).bind fun p1 =>
  bif p1 != 0 then (k ((⟨#[]⟩ : ByteArray), [], p1)) else ((tagged_CheckPointer.F n a3 a4 a5 a6).bind fun p2 =>
  bif p2 != 0 then (k ((⟨#[]⟩ : ByteArray), [], p2)) else ((tagged_encoded.F n a3 a4 a5 a6).bind fun p3 =>
  (tagged_put.F n a0 a1 a2 p3).bind fun p4 =>
  let y5 : Int := IntKind.i64.wrap (Int.tdiv a2 16)
  bif decide ((0 : Int) ≤ y5) && decide (y5 < ((p4.2.length : Nat) : Int)) then (let y6 : List AV := p4.2.set ((y5).toNat) (vb true)
  k (p4.1, y6, 0)) else none))
noncomputable def tagged_StorePointer.C {R : Type} (n : Nat) (f : FuncId) (xs : List AV) : (AV → Option R) → Option R :=
  bif Nat.beq f 43 then tagged_CheckPointer.via n xs else bif Nat.beq f 44 then tagged_encoded.via n xs else bif Nat.beq f 46 then tagged_place.via n xs else bif Nat.beq f 47 then tagged_put.via n xs else fun _ => none
theorem tagged_StorePointer.tells {R : Type} (n : Nat) : Tells (R := R) Tryz.prog (tagged_StorePointer.C n) := fun _ xs => tells_at (tagged_CheckPointer.tells1 n xs) (tells_at (tagged_encoded.tells1 n xs) (tells_at (tagged_place.tells1 n xs) (tells_at (tagged_put.tells1 n xs) (Tells1.none))))
noncomputable def tagged_StorePointer.cut (r : Nat) : Option Keep := match r with  | _ => none
theorem tagged_StorePointer.e_eq {R : Type} (n : Nat) (rec : List Item → St → Option R) (K : AV → Option R) (a0 : ByteArray) (a1 : List AV) (a2 : Int) (a3 : Int) (a4 : Int) (a5 : Int) (a6 : Int) :
    goK G (tagged_StorePointer.C n) tagged_StorePointer.cut (fun S => finK G Tryz.f17.resultTypes.toList Tryz.f17.results.toList S K) rec 1000 [.code (Tryz.f17.body.getD .skip)] (Ev.start Tryz.f17 [AV.agg [vs a0, .sl ⟨true, 4⟩ 1 a1], vi a2, .agg [vi a3, vi a4, vi a5, vi a6]]) = tagged_StorePointer.e n  (fun p => K (.tup [.agg [vs p.1, .fr ⟨true, 4⟩ 1 p.2.1], vi p.2.2])) a0 a1 a2 a3 a4 a5 a6 := by kernel_rfl
noncomputable def tagged_StorePointer.F (n : Nat) (a0 : ByteArray) (a1 : List AV) (a2 : Int) (a3 : Int) (a4 : Int) (a5 : Int) (a6 : Int) : Option (ByteArray × List AV × Int) := tagged_StorePointer.e n  Option.some a0 a1 a2 a3 a4 a5 a6
noncomputable def tagged_StorePointer.dec (x : AV) : Option (ByteArray × List AV × Int) := match x with | .tup [.agg [.v (.string p0), .fr ⟨true, 4⟩ 1 p1], .v (.int .i64 p2)] => Option.some (p0, p1, p2) | _ => none
theorem tagged_StorePointer.dec_inv {p : ByteArray × List AV × Int} (y : AV) (h : tagged_StorePointer.dec y = some p) : y = .tup [.agg [vs p.1, .fr ⟨true, 4⟩ 1 p.2.1], vi p.2.2] := by
  unfold tagged_StorePointer.dec at h
  split at h
  · cases h; rfl
  · cases h
theorem tagged_StorePointer.hands (n : Nat) (a0 : ByteArray) (a1 : List AV) (a2 : Int) (a3 : Int) (a4 : Int) (a5 : Int) (a6 : Int) {p : ByteArray × List AV × Int} (h : tagged_StorePointer.F n a0 a1 a2 a3 a4 a5 a6 = some p) : HandsIn Tryz.prog 17 [AV.agg [vs a0, .sl ⟨true, 4⟩ 1 a1], vi a2, .agg [vi a3, vi a4, vi a5, vi a6]] (.tup [.agg [vs p.1, .fr ⟨true, 4⟩ 1 p.2.1], vi p.2.2]) := by
  refine hands_of cfg mixed (fun _ => rfl) rfl (tagged_StorePointer.tells n) (fn := Tryz.f17) Tryz.func17 (by kernel_rfl) (by kernel_rfl) (cut := tagged_StorePointer.cut) (K := tagged_StorePointer.dec) (r := p) (n := n) tagged_StorePointer.dec_inv ?_
  rw [funK_getD (by kernel_rfl)]
  have h1 := tagged_StorePointer.e_eq n (runK G (tagged_StorePointer.C n) tagged_StorePointer.cut (fun S => finK G Tryz.f17.resultTypes.toList Tryz.f17.results.toList S tagged_StorePointer.dec) n) tagged_StorePointer.dec a0 a1 a2 a3 a4 a5 a6
  exact h1.trans h
noncomputable def tagged_StorePointer.via {R : Type} (n : Nat) (xs : List AV) : (AV → Option R) → Option R := match xs with | [.agg [.v (.string a0), .sl ⟨true, 4⟩ 1 a1], .v (.int .i64 a2), .agg [.v (.int .i64 a3), .v (.int .i64 a4), .v (.int .i64 a5), .v (.int .i64 a6)]] => fun K => (tagged_StorePointer.F n a0 a1 a2 a3 a4 a5 a6).bind fun p => K (.tup [.agg [vs p.1, .fr ⟨true, 4⟩ 1 p.2.1], vi p.2.2]) | _ => fun _ => none
noncomputable def tagged_StorePointer.is (xs : List AV) : Bool := match xs with | [.agg [.v (.string _), .sl ⟨true, 4⟩ 1 _], .v (.int .i64 _), .agg [.v (.int .i64 _), .v (.int .i64 _), .v (.int .i64 _), .v (.int .i64 _)]] => true | _ => false
theorem tagged_StorePointer.tells1 {R : Type} (n : Nat) (xs : List AV) : Tells1 (R := R) Tryz.prog 17 xs (tagged_StorePointer.via n xs) := by
  unfold tagged_StorePointer.via
  split
  · exact Tells1.of (fun p hp => (tagged_StorePointer.hands n _ _ _ _ _ _ _ hp).hands rfl)
  · exact Tells1.none
end Go.Proofs.YtgmpnhfnkhohiaaGreatDoor.Ev

/- midrange/tagged.LoadPointer, out of its evaluation. Printed by the session's own program. -/
namespace Go.Proofs.YtgmpnhfnkhohiaaGreatDoor.Ev
open Go Go.Proofs Go.Proofs.Ev
set_option linter.unusedVariables false
set_option maxRecDepth 100000
/-! midrange/tagged.LoadPointer: function 18 -/
noncomputable def tagged_LoadPointer.e {R : Type} (n : Nat)  (k : Int × Int × Int × Int × Int → Option R) (a0 : ByteArray) (a1 : List AV) (a2 : Int) : Option R :=
  (tagged_place.F n a0 a1 a2).bind fun p1 =>
  bif p1 != 0 then (k (0, 0, 0, 0, p1)) else (let y2 : Int := IntKind.i64.wrap (Int.tdiv a2 16)
  bif decide ((0 : Int) ≤ y2) && decide (y2 < ((a1.length : Nat) : Int)) then (withCons ((a1.getD ((y2).toNat) .undef).cells) fun h3 r4 =>
  withBool h3 fun b5 =>
  bif !b5 then (k (0, 0, 0, 0, 22)) else (bif decide ((0 : Int) ≤ IntKind.i64.wrap (a2 + 16)) && decide ((IntKind.i64.wrap (a2 + 16) : Int) ≤ ((a0.size : Nat) : Int)) then (bif decide ((0 : Int) ≤ a2) && decide ((a2 : Int) ≤ IntKind.i64.wrap (a2 + 16)) then (let y6 : ByteArray := a0.extract (a2).toNat (IntKind.i64.wrap (a2 + 16)).toNat
  (tagged_PointerIn.F n y6).bind fun p7 =>
  k (p7.1, p7.2.1, p7.2.2.1, p7.2.2.2.1, p7.2.2.2.2)) else none) else none)) else none)
noncomputable def tagged_LoadPointer.C {R : Type} (n : Nat) (f : FuncId) (xs : List AV) : (AV → Option R) → Option R :=
  bif Nat.beq f 16 then tagged_PointerIn.via n xs else bif Nat.beq f 46 then tagged_place.via n xs else fun _ => none
theorem tagged_LoadPointer.tells {R : Type} (n : Nat) : Tells (R := R) Tryz.prog (tagged_LoadPointer.C n) := fun _ xs => tells_at (tagged_PointerIn.tells1 n xs) (tells_at (tagged_place.tells1 n xs) (Tells1.none))
noncomputable def tagged_LoadPointer.cut (r : Nat) : Option Keep := match r with  | _ => none
theorem tagged_LoadPointer.e_eq {R : Type} (n : Nat) (rec : List Item → St → Option R) (K : AV → Option R) (a0 : ByteArray) (a1 : List AV) (a2 : Int) :
    goK G (tagged_LoadPointer.C n) tagged_LoadPointer.cut (fun S => finK G Tryz.f18.resultTypes.toList Tryz.f18.results.toList S K) rec 1000 [.code (Tryz.f18.body.getD .skip)] (Ev.start Tryz.f18 [AV.agg [vs a0, .sl ⟨true, 4⟩ 1 a1], vi a2]) = tagged_LoadPointer.e n  (fun p => K (.tup [.agg [vi p.1, vi p.2.1, vi p.2.2.1, vi p.2.2.2.1], vi p.2.2.2.2])) a0 a1 a2 := by kernel_rfl
noncomputable def tagged_LoadPointer.F (n : Nat) (a0 : ByteArray) (a1 : List AV) (a2 : Int) : Option (Int × Int × Int × Int × Int) := tagged_LoadPointer.e n  Option.some a0 a1 a2
noncomputable def tagged_LoadPointer.dec (x : AV) : Option (Int × Int × Int × Int × Int) := match x with | .tup [.agg [.v (.int .i64 p0), .v (.int .i64 p1), .v (.int .i64 p2), .v (.int .i64 p3)], .v (.int .i64 p4)] => Option.some (p0, p1, p2, p3, p4) | _ => none
theorem tagged_LoadPointer.dec_inv {p : Int × Int × Int × Int × Int} (y : AV) (h : tagged_LoadPointer.dec y = some p) : y = .tup [.agg [vi p.1, vi p.2.1, vi p.2.2.1, vi p.2.2.2.1], vi p.2.2.2.2] := by
  unfold tagged_LoadPointer.dec at h
  split at h
  · cases h; rfl
  · cases h
theorem tagged_LoadPointer.hands (n : Nat) (a0 : ByteArray) (a1 : List AV) (a2 : Int) {p : Int × Int × Int × Int × Int} (h : tagged_LoadPointer.F n a0 a1 a2 = some p) : HandsIn Tryz.prog 18 [AV.agg [vs a0, .sl ⟨true, 4⟩ 1 a1], vi a2] (.tup [.agg [vi p.1, vi p.2.1, vi p.2.2.1, vi p.2.2.2.1], vi p.2.2.2.2]) := by
  refine hands_of cfg mixed (fun _ => rfl) rfl (tagged_LoadPointer.tells n) (fn := Tryz.f18) Tryz.func18 (by kernel_rfl) (by kernel_rfl) (cut := tagged_LoadPointer.cut) (K := tagged_LoadPointer.dec) (r := p) (n := n) tagged_LoadPointer.dec_inv ?_
  rw [funK_getD (by kernel_rfl)]
  have h1 := tagged_LoadPointer.e_eq n (runK G (tagged_LoadPointer.C n) tagged_LoadPointer.cut (fun S => finK G Tryz.f18.resultTypes.toList Tryz.f18.results.toList S tagged_LoadPointer.dec) n) tagged_LoadPointer.dec a0 a1 a2
  exact h1.trans h
noncomputable def tagged_LoadPointer.via {R : Type} (n : Nat) (xs : List AV) : (AV → Option R) → Option R := match xs with | [.agg [.v (.string a0), .sl ⟨true, 4⟩ 1 a1], .v (.int .i64 a2)] => fun K => (tagged_LoadPointer.F n a0 a1 a2).bind fun p => K (.tup [.agg [vi p.1, vi p.2.1, vi p.2.2.1, vi p.2.2.2.1], vi p.2.2.2.2]) | _ => fun _ => none
noncomputable def tagged_LoadPointer.is (xs : List AV) : Bool := match xs with | [.agg [.v (.string _), .sl ⟨true, 4⟩ 1 _], .v (.int .i64 _)] => true | _ => false
theorem tagged_LoadPointer.tells1 {R : Type} (n : Nat) (xs : List AV) : Tells1 (R := R) Tryz.prog 18 xs (tagged_LoadPointer.via n xs) := by
  unfold tagged_LoadPointer.via
  split
  · exact Tells1.of (fun p hp => (tagged_LoadPointer.hands n _ _ _ hp).hands rfl)
  · exact Tells1.none
end Go.Proofs.YtgmpnhfnkhohiaaGreatDoor.Ev
