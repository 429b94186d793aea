/- midrange/midrangeref03.Load, out of its evaluation. Printed by the session's own program. -/
import Derived.Test.YtgmpnhfnkhohiaaTSa
import Derived.Shelf.Strings.Builder1
import Derived.Shelf.Strings.Builder2
import Derived.Shelf.Strings.BuilderF
import Derived.Shelf.Strings.Search1
import Derived.Shelf.Strings.Search2
import Derived.Shelf.Strings.Search3
import Derived.Shelf.LaysM
import Derived.Shelf.Strings.Shaped
import Derived.Shelf.Strings.Prefix
import Derived.Shelf.Bits.Mul64
import Derived.Shelf.Strings.Repeat
import Derived.Ground.SlgnProg
import Derived.Shelf.SlicesE.Clone
import Derived.Test.YtgmpnhfnkhohiaaProg
import Derived.Test.YtgmpnhfnkhohiaaVb
import Derived.Lib.IndexMore

namespace Go.Proofs.Ytgmpnhfnkhohiaa.Ev
open Go Go.Proofs Go.Proofs.Ev
set_option linter.unusedVariables false
set_option maxRecDepth 100000
/-! midrange/midrangeref03.Load: function 29 -/
noncomputable def midrangeref03_Load.e {R : Type} (n : Nat)  (k : Int × Int × Int × Int × Int → Option R) (a0 : ByteArray) (a1 : List AV) (a2 : Int) : Option R :=
  (midrangeref03_IsQuad.F n a0 a1 a2).bind fun p1 =>
  bif !p1 then (k (0, 0, 0, 0, 3)) else (let y2 : Int := IntKind.i64.wrap (Int.tdiv a2 16)
  bif decide ((0 : Int) ≤ y2) && decide (y2 < ((a1.length : Nat) : Int)) then (withCons ((a1.getD ((y2).toNat) .undef).cells) fun c3 r4 =>
  withBool c3 fun b5 =>
  bif !b5 then (k (0, 0, 0, 0, 22)) else (let y6 : Int := IntKind.i64.wrap (Int.tdiv a2 16)
  (midrangeref03_quad.F n a0 a1 y6).bind fun p7 =>
  (midrangeref03_In.F n p7).bind fun p8 =>
  k (p8.1, p8.2.1, p8.2.2.1, p8.2.2.2.1, 0))) else none)
noncomputable def midrangeref03_Load.C {R : Type} (n : Nat) (f : FuncId) (xs : List AV) : (AV → Option R) → Option R :=
  bif Nat.beq f 16 then midrangeref03_In.via n xs else bif Nat.beq f 28 then midrangeref03_IsQuad.via n xs else bif Nat.beq f 57 then midrangeref03_quad.via n xs else fun _ => none
theorem midrangeref03_Load.tells {R : Type} (n : Nat) : Tells (R := R) Try.prog (midrangeref03_Load.C n) := fun _ xs => tells_at (midrangeref03_In.tells1 n xs) (tells_at (midrangeref03_IsQuad.tells1 n xs) (tells_at (midrangeref03_quad.tells1 n xs) (Tells1.none)))
noncomputable def midrangeref03_Load.cut (r : Nat) : Option Keep := match r with  | _ => none
theorem midrangeref03_Load.e_eq {R : Type} (n : Nat) (rec : List Item → St → Option R) (K : AV → Option R) (a0 : ByteArray) (a1 : List AV) (a2 : Int) :
    goK G (midrangeref03_Load.C n) midrangeref03_Load.cut (fun S => finK G Try.f29.resultTypes.toList Try.f29.results.toList S K) rec 1000 [.code (Try.f29.body.getD .skip)] (Ev.start Try.f29 [AV.agg [vs a0, .sl true 1 a1], vi a2]) = midrangeref03_Load.e n  (fun p => K (.tup [.agg [vi p.1, vi p.2.1, vi p.2.2.1, vi p.2.2.2.1], vi p.2.2.2.2])) a0 a1 a2 := by kernel_rfl
noncomputable def midrangeref03_Load.F (n : Nat) (a0 : ByteArray) (a1 : List AV) (a2 : Int) : Option (Int × Int × Int × Int × Int) := midrangeref03_Load.e n  Option.some a0 a1 a2
noncomputable def midrangeref03_Load.dec (x : AV) : Option (Int × Int × Int × Int × Int) := match x with | .tup [.agg [.v (.int .i64 p0), .v (.int .i64 p1), .v (.int .i64 p2), .v (.int .i64 p3)], .v (.int .i64 p4)] => Option.some (p0, p1, p2, p3, p4) | _ => none
theorem midrangeref03_Load.dec_inv {p : Int × Int × Int × Int × Int} (y : AV) (h : midrangeref03_Load.dec y = some p) : y = .tup [.agg [vi p.1, vi p.2.1, vi p.2.2.1, vi p.2.2.2.1], vi p.2.2.2.2] := by
  unfold midrangeref03_Load.dec at h
  split at h
  · cases h; rfl
  · cases h
theorem midrangeref03_Load.hands (n : Nat) (a0 : ByteArray) (a1 : List AV) (a2 : Int) {p : Int × Int × Int × Int × Int} (h : midrangeref03_Load.F n a0 a1 a2 = some p) : HandsIn Try.prog 29 [AV.agg [vs a0, .sl true 1 a1], vi a2] (.tup [.agg [vi p.1, vi p.2.1, vi p.2.2.1, vi p.2.2.2.1], vi p.2.2.2.2]) := by
  refine hands_of cfg mixed (fun _ => rfl) (midrangeref03_Load.tells n) (fn := Try.f29) Try.func29 (by kernel_rfl) (by kernel_rfl) (cut := midrangeref03_Load.cut) (K := midrangeref03_Load.dec) (r := p) (n := n) midrangeref03_Load.dec_inv ?_
  rw [funK_getD (by kernel_rfl)]
  have h1 := midrangeref03_Load.e_eq n (runK G (midrangeref03_Load.C n) midrangeref03_Load.cut (fun S => finK G Try.f29.resultTypes.toList Try.f29.results.toList S midrangeref03_Load.dec) n) midrangeref03_Load.dec a0 a1 a2
  exact h1.trans h
noncomputable def midrangeref03_Load.via {R : Type} (n : Nat) (xs : List AV) : (AV → Option R) → Option R := match xs with | [.agg [.v (.string a0), .sl true 1 a1], .v (.int .i64 a2)] => fun K => (midrangeref03_Load.F n a0 a1 a2).bind fun p => K (.tup [.agg [vi p.1, vi p.2.1, vi p.2.2.1, vi p.2.2.2.1], vi p.2.2.2.2]) | _ => fun _ => none
theorem midrangeref03_Load.tells1 {R : Type} (n : Nat) (xs : List AV) : Tells1 (R := R) Try.prog 29 xs (midrangeref03_Load.via n xs) := by
  unfold midrangeref03_Load.via
  split
  · exact Tells1.of (fun p hp => (midrangeref03_Load.hands n _ _ _ hp).hands)
  · exact Tells1.none
end Go.Proofs.Ytgmpnhfnkhohiaa.Ev

/- midrange/midrangeref03.Store, out of its evaluation. Printed by the session's own program. -/
namespace Go.Proofs.Ytgmpnhfnkhohiaa.Ev
open Go Go.Proofs Go.Proofs.Ev
set_option linter.unusedVariables false
set_option maxRecDepth 100000
/-! midrange/midrangeref03.Store: function 30 -/
noncomputable def midrangeref03_Store.e {R : Type} (n : Nat)  (k : ByteArray × List AV → Option R) (a0 : ByteArray) (a1 : List AV) (a2 : Int) (a3 : Int) (a4 : Int) (a5 : Int) (a6 : Int) : Option R :=
  (midrangeref03_Bytes.F n a3 a4 a5 a6).bind fun p1 =>
  (midrangeref03_Write.F n a0 a1 a2 p1).bind fun p2 =>
  let y3 : Int := IntKind.i64.wrap (Int.tdiv a2 16)
  bif decide ((0 : Int) ≤ y3) && decide (y3 < ((p2.2.length : Nat) : Int)) then (let y4 : List AV := p2.2.set ((y3).toNat) (vb true)
  k (p2.1, y4)) else none
noncomputable def midrangeref03_Store.C {R : Type} (n : Nat) (f : FuncId) (xs : List AV) : (AV → Option R) → Option R :=
  bif Nat.beq f 14 then midrangeref03_Bytes.via n xs else bif Nat.beq f 25 then midrangeref03_Write.via n xs else fun _ => none
theorem midrangeref03_Store.tells {R : Type} (n : Nat) : Tells (R := R) Try.prog (midrangeref03_Store.C n) := fun _ xs => tells_at (midrangeref03_Bytes.tells1 n xs) (tells_at (midrangeref03_Write.tells1 n xs) (Tells1.none))
noncomputable def midrangeref03_Store.cut (r : Nat) : Option Keep := match r with  | _ => none
theorem midrangeref03_Store.e_eq {R : Type} (n : Nat) (rec : List Item → St → Option R) (K : AV → Option R) (a0 : ByteArray) (a1 : List AV) (a2 : Int) (a3 : Int) (a4 : Int) (a5 : Int) (a6 : Int) :
    goK G (midrangeref03_Store.C n) midrangeref03_Store.cut (fun S => finK G Try.f30.resultTypes.toList Try.f30.results.toList S K) rec 1000 [.code (Try.f30.body.getD .skip)] (Ev.start Try.f30 [AV.agg [vs a0, .sl true 1 a1], vi a2, .agg [vi a3, vi a4, vi a5, vi a6]]) = midrangeref03_Store.e n  (fun p => K (.agg [vs p.1, .fr true 1 p.2])) a0 a1 a2 a3 a4 a5 a6 := by kernel_rfl
noncomputable def midrangeref03_Store.F (n : Nat) (a0 : ByteArray) (a1 : List AV) (a2 : Int) (a3 : Int) (a4 : Int) (a5 : Int) (a6 : Int) : Option (ByteArray × List AV) := midrangeref03_Store.e n  Option.some a0 a1 a2 a3 a4 a5 a6
noncomputable def midrangeref03_Store.dec (x : AV) : Option (ByteArray × List AV) := match x with | .agg [.v (.string p0), .fr true 1 p1] => Option.some (p0, p1) | _ => none
theorem midrangeref03_Store.dec_inv {p : ByteArray × List AV} (y : AV) (h : midrangeref03_Store.dec y = some p) : y = .agg [vs p.1, .fr true 1 p.2] := by
  unfold midrangeref03_Store.dec at h
  split at h
  · cases h; rfl
  · cases h
theorem midrangeref03_Store.hands (n : Nat) (a0 : ByteArray) (a1 : List AV) (a2 : Int) (a3 : Int) (a4 : Int) (a5 : Int) (a6 : Int) {p : ByteArray × List AV} (h : midrangeref03_Store.F n a0 a1 a2 a3 a4 a5 a6 = some p) : HandsIn Try.prog 30 [AV.agg [vs a0, .sl true 1 a1], vi a2, .agg [vi a3, vi a4, vi a5, vi a6]] (.agg [vs p.1, .fr true 1 p.2]) := by
  refine hands_of cfg mixed (fun _ => rfl) (midrangeref03_Store.tells n) (fn := Try.f30) Try.func30 (by kernel_rfl) (by kernel_rfl) (cut := midrangeref03_Store.cut) (K := midrangeref03_Store.dec) (r := p) (n := n) midrangeref03_Store.dec_inv ?_
  rw [funK_getD (by kernel_rfl)]
  have h1 := midrangeref03_Store.e_eq n (runK G (midrangeref03_Store.C n) midrangeref03_Store.cut (fun S => finK G Try.f30.resultTypes.toList Try.f30.results.toList S midrangeref03_Store.dec) n) midrangeref03_Store.dec a0 a1 a2 a3 a4 a5 a6
  exact h1.trans h
noncomputable def midrangeref03_Store.via {R : Type} (n : Nat) (xs : List AV) : (AV → Option R) → Option R := match xs with | [.agg [.v (.string a0), .sl true 1 a1], .v (.int .i64 a2), .agg [.v (.int .i64 a3), .v (.int .i64 a4), .v (.int .i64 a5), .v (.int .i64 a6)]] => fun K => (midrangeref03_Store.F n a0 a1 a2 a3 a4 a5 a6).bind fun p => K (.agg [vs p.1, .fr true 1 p.2]) | _ => fun _ => none
theorem midrangeref03_Store.tells1 {R : Type} (n : Nat) (xs : List AV) : Tells1 (R := R) Try.prog 30 xs (midrangeref03_Store.via n xs) := by
  unfold midrangeref03_Store.via
  split
  · exact Tells1.of (fun p hp => (midrangeref03_Store.hands n _ _ _ _ _ _ _ hp).hands)
  · exact Tells1.none
end Go.Proofs.Ytgmpnhfnkhohiaa.Ev

/- midrange/midrangelaw03.TaggedLoads, out of its evaluation. Printed by the session's own program. -/
namespace Go.Proofs.Ytgmpnhfnkhohiaa.Ev
open Go Go.Proofs Go.Proofs.Ev
set_option linter.unusedVariables false
set_option maxRecDepth 100000
/-! midrange/midrangelaw03.TaggedLoads: function 5 -/
noncomputable def midrangelaw03_TaggedLoads.r10 {R : Type} (n : Nat) (c10 : Int → Int → Int → Int → ByteArray → List AV → Int → Int → Int → Int → Int → Int → Int → Int → ByteArray → List AV → Option R) (k : Bool → Option R) (z1 : Int) (z2 : Int) (z3 : Int) (z4 : Int) (z5 : ByteArray) (z6 : List AV) (z7 : Int) (z8 : Int) (z9 : Int) (z10 : Int) (z11 : Int) (z12 : Int) (z13 : Int) (z14 : Int) (z15 : ByteArray) (z16 : List AV) : Option R :=
  bif z4 != 0 then (bif z2 == z4 then (let y9 : Bool := ((z11 == 0) && ((z12 == 0) && ((z13 == 0) && ((z14 == 0) && true))))
  bif y9 then (bif z3 == z4 then ((midrangelaw03_none.F n z15 z16).bind fun p10 =>
  k p10) else (k false)) else (k false)) else (k false)) else ((midrangeref03_Load.F n z5 z6 z1).bind fun p11 =>
  bif z2 != p11.2.2.2.2 then (k false) else (let y12 : Bool := !((z11 == p11.1) && ((z12 == p11.2.1) && ((z13 == p11.2.2.1) && ((z14 == p11.2.2.2.1) && true))))
  bif y12 then (k false) else ((midrangeref03_PointerErr.F n z7 z8 z9 z10).bind fun p13 =>
  bif p13 != 0 then (bif z3 == p13 then ((midrangelaw03_none.F n z15 z16).bind fun p14 =>
  k p14) else (k false)) else (bif z3 == 0 then ((midrangeref03_Store.F n z5 z6 z1 z7 z8 z9 z10).bind fun p15 =>
  (midrangebase_SameStorage.F n z15 z16 p15.1 p15.2).bind fun p16 =>
  k p16) else (k false)))))
noncomputable def midrangelaw03_TaggedLoads.e {R : Type} (n : Nat) (c10 : Int → Int → Int → Int → ByteArray → List AV → Int → Int → Int → Int → Int → Int → Int → Int → ByteArray → List AV → Option R) (k : Bool → Option R) (a0 : ByteArray) (a1 : List AV) (a2 : Int) (a3 : Int) (a4 : Int) (a5 : Int) (a6 : Int) : Option R :=
  (midrangelaw03_awake.F n ).bind fun p1 =>
  bif !p1 then (k false) else ((midrangelaw03_few.F n a0 a1).bind fun p2 =>
  bif !p2 then (k true) else ((midrangebase_OwnStorage.F n a0 a1).bind fun p3 =>
  (tagged_LoadPointer.F n p3.1 p3.2 a2).bind fun p4 =>
  (midrangebase_OwnStorage.F n a0 a1).bind fun p5 =>
  (tagged_StorePointer.F n p5.1 p5.2 a2 a3 a4 a5 a6).bind fun p6 =>
  (midrangeref03_Err.F n a0 a1).bind fun p7 =>
  bif p7 == 0 then ((midrangeref03_IsQuad.F n a0 a1 a2).bind fun p8 =>
  bif !p8 then (c10 a2 p4.2.2.2.2 p6.2.2 3 a0 a1 a3 a4 a5 a6 p4.1 p4.2.1 p4.2.2.1 p4.2.2.2.1 p6.1 p6.2.1) else (c10 a2 p4.2.2.2.2 p6.2.2 p7 a0 a1 a3 a4 a5 a6 p4.1 p4.2.1 p4.2.2.1 p4.2.2.2.1 p6.1 p6.2.1)) else (c10 a2 p4.2.2.2.2 p6.2.2 p7 a0 a1 a3 a4 a5 a6 p4.1 p4.2.1 p4.2.2.1 p4.2.2.2.1 p6.1 p6.2.1)))
noncomputable def midrangelaw03_TaggedLoads.C {R : Type} (n : Nat) (f : FuncId) (xs : List AV) : (AV → Option R) → Option R :=
  bif Nat.beq f 10 then midrangelaw03_awake.via n xs else bif Nat.beq f 11 then midrangeref03_PointerErr.via n xs else bif Nat.beq f 17 then midrangelaw03_few.via n xs else bif Nat.beq f 19 then midrangebase_OwnStorage.via n xs else bif Nat.beq f 21 then midrangeref03_Err.via n xs else bif Nat.beq f 22 then midrangelaw03_none.via n xs else bif Nat.beq f 24 then midrangebase_SameStorage.via n xs else bif Nat.beq f 26 then tagged_LoadPointer.via n xs else bif Nat.beq f 27 then tagged_StorePointer.via n xs else bif Nat.beq f 28 then midrangeref03_IsQuad.via n xs else bif Nat.beq f 29 then midrangeref03_Load.via n xs else bif Nat.beq f 30 then midrangeref03_Store.via n xs else fun _ => none
theorem midrangelaw03_TaggedLoads.tells {R : Type} (n : Nat) : Tells (R := R) Try.prog (midrangelaw03_TaggedLoads.C n) := fun _ xs => tells_at (midrangelaw03_awake.tells1 n xs) (tells_at (midrangeref03_PointerErr.tells1 n xs) (tells_at (midrangelaw03_few.tells1 n xs) (tells_at (midrangebase_OwnStorage.tells1 n xs) (tells_at (midrangeref03_Err.tells1 n xs) (tells_at (midrangelaw03_none.tells1 n xs) (tells_at (midrangebase_SameStorage.tells1 n xs) (tells_at (tagged_LoadPointer.tells1 n xs) (tells_at (tagged_StorePointer.tells1 n xs) (tells_at (midrangeref03_IsQuad.tells1 n xs) (tells_at (midrangeref03_Load.tells1 n xs) (tells_at (midrangeref03_Store.tells1 n xs) (Tells1.none))))))))))))
noncomputable def midrangelaw03_TaggedLoads.cut (r : Nat) : Option Keep := match r with | 10 => Option.some ⟨[1, 3, 5, 7, 8, 9, 10, 11], []⟩ | _ => none
noncomputable def midrangelaw03_TaggedLoads.t10 : List Item := (todoOf 10 1000 [.code (Try.f5.body.getD .skip)]).getD []
noncomputable def midrangelaw03_TaggedLoads.s10 (z1 : Int) (z2 : Int) (z3 : Int) (z4 : Int) (z5 : ByteArray) (z6 : List AV) (z7 : Int) (z8 : Int) (z9 : Int) (z10 : Int) (z11 : Int) (z12 : Int) (z13 : Int) (z14 : Int) (z15 : ByteArray) (z16 : List AV) : St := ⟨[.undef, vi z1, .undef, .ptr 0 0, .undef, .ptr 1 0, .undef, .ptr 2 0, vi z2, .ptr 3 0, vi z3, vi z4, .undef, .undef, .undef, .undef, .undef, .undef, .undef, .undef, .undef, .undef, .undef, .undef, .undef, .undef, .undef, .undef, .undef, .undef, .undef, .undef, .undef, .undef, .undef, .undef, .undef, .undef, .undef, .undef, .undef, .undef, .undef, .undef, .undef, .undef, .undef, .undef, .undef, .undef, .undef, .undef, .undef, .undef, .undef, .undef, .undef, .undef, .undef, .undef, .undef, .undef, .undef, .undef, .undef, .undef, .undef, .undef, .undef, .undef, .undef, .undef, .undef, .undef, .undef, .undef, .undef, .undef, .undef, .undef, .undef, .undef, .undef, .undef, .undef, .undef, .undef, .undef, .undef, .undef, .undef, .undef, .undef, .undef, .undef, .undef, .undef, .undef], Mem.ofList [.box [vs z5, .sl true 1 z6], .box [vi z7, vi z8, vi z9, vi z10], .box [vi z11, vi z12, vi z13, vi z14], .box [vs z15, .own 4 0 none], .row true 1 z16], 5⟩
theorem midrangelaw03_TaggedLoads.e_eq {R : Type} (n : Nat) (rec : List Item → St → Option R) (K : AV → Option R) (a0 : ByteArray) (a1 : List AV) (a2 : Int) (a3 : Int) (a4 : Int) (a5 : Int) (a6 : Int) :
    goK G (midrangelaw03_TaggedLoads.C n) midrangelaw03_TaggedLoads.cut (fun S => finK G Try.f5.resultTypes.toList Try.f5.results.toList S K) rec 1000 [.code (Try.f5.body.getD .skip)] (Ev.start Try.f5 [AV.agg [vs a0, .sl true 1 a1], vi a2, .agg [vi a3, vi a4, vi a5, vi a6]]) = midrangelaw03_TaggedLoads.e n (fun z1 z2 z3 z4 z5 z6 z7 z8 z9 z10 z11 z12 z13 z14 z15 z16 => rec midrangelaw03_TaggedLoads.t10 (midrangelaw03_TaggedLoads.s10 z1 z2 z3 z4 z5 z6 z7 z8 z9 z10 z11 z12 z13 z14 z15 z16)) (fun p => K (vb p)) a0 a1 a2 a3 a4 a5 a6 := by kernel_rfl
theorem midrangelaw03_TaggedLoads.r10_eq {R : Type} (n : Nat) (rec : List Item → St → Option R) (K : AV → Option R) (z1 : Int) (z2 : Int) (z3 : Int) (z4 : Int) (z5 : ByteArray) (z6 : List AV) (z7 : Int) (z8 : Int) (z9 : Int) (z10 : Int) (z11 : Int) (z12 : Int) (z13 : Int) (z14 : Int) (z15 : ByteArray) (z16 : List AV) :
    atK G (midrangelaw03_TaggedLoads.C n) midrangelaw03_TaggedLoads.cut (fun S => finK G Try.f5.resultTypes.toList Try.f5.results.toList S K) rec midrangelaw03_TaggedLoads.t10 (midrangelaw03_TaggedLoads.s10 z1 z2 z3 z4 z5 z6 z7 z8 z9 z10 z11 z12 z13 z14 z15 z16) = midrangelaw03_TaggedLoads.r10 n (fun z1 z2 z3 z4 z5 z6 z7 z8 z9 z10 z11 z12 z13 z14 z15 z16 => rec midrangelaw03_TaggedLoads.t10 (midrangelaw03_TaggedLoads.s10 z1 z2 z3 z4 z5 z6 z7 z8 z9 z10 z11 z12 z13 z14 z15 z16)) (fun p => K (vb p)) z1 z2 z3 z4 z5 z6 z7 z8 z9 z10 z11 z12 z13 z14 z15 z16 := by kernel_rfl
noncomputable def midrangelaw03_TaggedLoads.l (n : Nat) : Nat → (Int → Int → Int → Int → ByteArray → List AV → Int → Int → Int → Int → Int → Int → Int → Int → ByteArray → List AV → Option (Bool))
  | 0 => (fun _ _ _ _ _ _ _ _ _ _ _ _ _ _ _ _ => none)
  | m + 1 => midrangelaw03_TaggedLoads.r10 n (midrangelaw03_TaggedLoads.l n m) Option.some
noncomputable def midrangelaw03_TaggedLoads.F (n : Nat) (a0 : ByteArray) (a1 : List AV) (a2 : Int) (a3 : Int) (a4 : Int) (a5 : Int) (a6 : Int) : Option (Bool) := midrangelaw03_TaggedLoads.e n (midrangelaw03_TaggedLoads.l n n) Option.some a0 a1 a2 a3 a4 a5 a6
noncomputable def midrangelaw03_TaggedLoads.dec (x : AV) : Option (Bool) := match x with | .v (.bool p0) => Option.some p0 | _ => none
theorem midrangelaw03_TaggedLoads.dec_inv {p : Bool} (y : AV) (h : midrangelaw03_TaggedLoads.dec y = some p) : y = vb p := by
  unfold midrangelaw03_TaggedLoads.dec at h
  split at h
  · cases h; rfl
  · cases h
theorem midrangelaw03_TaggedLoads.l_eq (n m : Nat) : (∀ (z1 : Int) (z2 : Int) (z3 : Int) (z4 : Int) (z5 : ByteArray) (z6 : List AV) (z7 : Int) (z8 : Int) (z9 : Int) (z10 : Int) (z11 : Int) (z12 : Int) (z13 : Int) (z14 : Int) (z15 : ByteArray) (z16 : List AV), runK G (midrangelaw03_TaggedLoads.C n) midrangelaw03_TaggedLoads.cut (fun S => finK G Try.f5.resultTypes.toList Try.f5.results.toList S midrangelaw03_TaggedLoads.dec) m midrangelaw03_TaggedLoads.t10 (midrangelaw03_TaggedLoads.s10 z1 z2 z3 z4 z5 z6 z7 z8 z9 z10 z11 z12 z13 z14 z15 z16) = (midrangelaw03_TaggedLoads.l n m) z1 z2 z3 z4 z5 z6 z7 z8 z9 z10 z11 z12 z13 z14 z15 z16) := by
  induction m with
  | zero => exact fun z1 z2 z3 z4 z5 z6 z7 z8 z9 z10 z11 z12 z13 z14 z15 z16 => rfl
  | succ m ih =>
    have h10 := ih
    have e10 : (fun (z1 : Int) (z2 : Int) (z3 : Int) (z4 : Int) (z5 : ByteArray) (z6 : List AV) (z7 : Int) (z8 : Int) (z9 : Int) (z10 : Int) (z11 : Int) (z12 : Int) (z13 : Int) (z14 : Int) (z15 : ByteArray) (z16 : List AV) => runK G (midrangelaw03_TaggedLoads.C n) midrangelaw03_TaggedLoads.cut (fun S => finK G Try.f5.resultTypes.toList Try.f5.results.toList S midrangelaw03_TaggedLoads.dec) m midrangelaw03_TaggedLoads.t10 (midrangelaw03_TaggedLoads.s10 z1 z2 z3 z4 z5 z6 z7 z8 z9 z10 z11 z12 z13 z14 z15 z16)) = (midrangelaw03_TaggedLoads.l n m) := by funext z1 z2 z3 z4 z5 z6 z7 z8 z9 z10 z11 z12 z13 z14 z15 z16; exact h10 z1 z2 z3 z4 z5 z6 z7 z8 z9 z10 z11 z12 z13 z14 z15 z16
    have q10 : ∀ (z1 : Int) (z2 : Int) (z3 : Int) (z4 : Int) (z5 : ByteArray) (z6 : List AV) (z7 : Int) (z8 : Int) (z9 : Int) (z10 : Int) (z11 : Int) (z12 : Int) (z13 : Int) (z14 : Int) (z15 : ByteArray) (z16 : List AV), runK G (midrangelaw03_TaggedLoads.C n) midrangelaw03_TaggedLoads.cut (fun S => finK G Try.f5.resultTypes.toList Try.f5.results.toList S midrangelaw03_TaggedLoads.dec) (m + 1) midrangelaw03_TaggedLoads.t10 (midrangelaw03_TaggedLoads.s10 z1 z2 z3 z4 z5 z6 z7 z8 z9 z10 z11 z12 z13 z14 z15 z16) = (midrangelaw03_TaggedLoads.l n (m + 1)) z1 z2 z3 z4 z5 z6 z7 z8 z9 z10 z11 z12 z13 z14 z15 z16 := by
      intro z1 z2 z3 z4 z5 z6 z7 z8 z9 z10 z11 z12 z13 z14 z15 z16
      rw [runK_succ]
      refine (midrangelaw03_TaggedLoads.r10_eq n _ midrangelaw03_TaggedLoads.dec z1 z2 z3 z4 z5 z6 z7 z8 z9 z10 z11 z12 z13 z14 z15 z16).trans ?_
      rw [e10]
      rfl
    exact q10
theorem midrangelaw03_TaggedLoads.hands (n : Nat) (a0 : ByteArray) (a1 : List AV) (a2 : Int) (a3 : Int) (a4 : Int) (a5 : Int) (a6 : Int) {p : Bool} (h : midrangelaw03_TaggedLoads.F n a0 a1 a2 a3 a4 a5 a6 = some p) : HandsIn Try.prog 5 [AV.agg [vs a0, .sl true 1 a1], vi a2, .agg [vi a3, vi a4, vi a5, vi a6]] (vb p) := by
  refine hands_of cfg mixed (fun _ => rfl) (midrangelaw03_TaggedLoads.tells n) (fn := Try.f5) Try.func5 (by kernel_rfl) (by kernel_rfl) (cut := midrangelaw03_TaggedLoads.cut) (K := midrangelaw03_TaggedLoads.dec) (r := p) (n := n) midrangelaw03_TaggedLoads.dec_inv ?_
  rw [funK_getD (by kernel_rfl)]
  have h1 := midrangelaw03_TaggedLoads.e_eq n (runK G (midrangelaw03_TaggedLoads.C n) midrangelaw03_TaggedLoads.cut (fun S => finK G Try.f5.resultTypes.toList Try.f5.results.toList S midrangelaw03_TaggedLoads.dec) n) midrangelaw03_TaggedLoads.dec a0 a1 a2 a3 a4 a5 a6
  have hl := midrangelaw03_TaggedLoads.l_eq n n
  simp only [hl] at h1
  exact h1.trans h
noncomputable def midrangelaw03_TaggedLoads.via {R : Type} (n : Nat) (xs : List AV) : (AV → Option R) → Option R := match xs with | [.agg [.v (.string a0), .sl true 1 a1], .v (.int .i64 a2), .agg [.v (.int .i64 a3), .v (.int .i64 a4), .v (.int .i64 a5), .v (.int .i64 a6)]] => fun K => (midrangelaw03_TaggedLoads.F n a0 a1 a2 a3 a4 a5 a6).bind fun p => K (vb p) | _ => fun _ => none
theorem midrangelaw03_TaggedLoads.tells1 {R : Type} (n : Nat) (xs : List AV) : Tells1 (R := R) Try.prog 5 xs (midrangelaw03_TaggedLoads.via n xs) := by
  unfold midrangelaw03_TaggedLoads.via
  split
  · exact Tells1.of (fun p hp => (midrangelaw03_TaggedLoads.hands n _ _ _ _ _ _ _ hp).hands)
  · exact Tells1.none
end Go.Proofs.Ytgmpnhfnkhohiaa.Ev

/- midrange/tagged.ranges, out of its evaluation. Printed by the session's own program. -/
namespace Go.Proofs.Ytgmpnhfnkhohiaa.Ev
open Go Go.Proofs Go.Proofs.Ev
set_option linter.unusedVariables false
set_option maxRecDepth 100000
/-! midrange/tagged.ranges: function 58 -/
noncomputable def tagged_ranges.e {R : Type} (n : Nat)  (k : Int → Option R) (a0 : ByteArray) (a1 : List AV) (a2 : Int) (a3 : Int) (a4 : Int) : Option R :=
  (tagged_inside.F n a0 a1 a2 a4).bind fun p1 =>
  bif p1 != 0 then (k p1) else ((tagged_inside.F n a0 a1 a3 a4).bind fun p2 =>
  k p2)
noncomputable def tagged_ranges.C {R : Type} (n : Nat) (f : FuncId) (xs : List AV) : (AV → Option R) → Option R :=
  bif Nat.beq f 51 then tagged_inside.via n xs else fun _ => none
theorem tagged_ranges.tells {R : Type} (n : Nat) : Tells (R := R) Try.prog (tagged_ranges.C n) := fun _ xs => tells_at (tagged_inside.tells1 n xs) (Tells1.none)
noncomputable def tagged_ranges.cut (r : Nat) : Option Keep := match r with  | _ => none
theorem tagged_ranges.e_eq {R : Type} (n : Nat) (rec : List Item → St → Option R) (K : AV → Option R) (a0 : ByteArray) (a1 : List AV) (a2 : Int) (a3 : Int) (a4 : Int) :
    goK G (tagged_ranges.C n) tagged_ranges.cut (fun S => finK G Try.f58.resultTypes.toList Try.f58.results.toList S K) rec 1000 [.code (Try.f58.body.getD .skip)] (Ev.start Try.f58 [AV.agg [vs a0, .sl true 1 a1], .agg [vi a2, vi a3, vi a4]]) = tagged_ranges.e n  (fun p => K (vi p)) a0 a1 a2 a3 a4 := by kernel_rfl
noncomputable def tagged_ranges.F (n : Nat) (a0 : ByteArray) (a1 : List AV) (a2 : Int) (a3 : Int) (a4 : Int) : Option (Int) := tagged_ranges.e n  Option.some a0 a1 a2 a3 a4
noncomputable def tagged_ranges.dec (x : AV) : Option (Int) := match x with | .v (.int .i64 p0) => Option.some p0 | _ => none
theorem tagged_ranges.dec_inv {p : Int} (y : AV) (h : tagged_ranges.dec y = some p) : y = vi p := by
  unfold tagged_ranges.dec at h
  split at h
  · cases h; rfl
  · cases h
theorem tagged_ranges.hands (n : Nat) (a0 : ByteArray) (a1 : List AV) (a2 : Int) (a3 : Int) (a4 : Int) {p : Int} (h : tagged_ranges.F n a0 a1 a2 a3 a4 = some p) : HandsIn Try.prog 58 [AV.agg [vs a0, .sl true 1 a1], .agg [vi a2, vi a3, vi a4]] (vi p) := by
  refine hands_of cfg mixed (fun _ => rfl) (tagged_ranges.tells n) (fn := Try.f58) Try.func58 (by kernel_rfl) (by kernel_rfl) (cut := tagged_ranges.cut) (K := tagged_ranges.dec) (r := p) (n := n) tagged_ranges.dec_inv ?_
  rw [funK_getD (by kernel_rfl)]
  have h1 := tagged_ranges.e_eq n (runK G (tagged_ranges.C n) tagged_ranges.cut (fun S => finK G Try.f58.resultTypes.toList Try.f58.results.toList S tagged_ranges.dec) n) tagged_ranges.dec a0 a1 a2 a3 a4
  exact h1.trans h
noncomputable def tagged_ranges.via {R : Type} (n : Nat) (xs : List AV) : (AV → Option R) → Option R := match xs with | [.agg [.v (.string a0), .sl true 1 a1], .agg [.v (.int .i64 a2), .v (.int .i64 a3), .v (.int .i64 a4)]] => fun K => (tagged_ranges.F n a0 a1 a2 a3 a4).bind fun p => K (vi p) | _ => fun _ => none
theorem tagged_ranges.tells1 {R : Type} (n : Nat) (xs : List AV) : Tells1 (R := R) Try.prog 58 xs (tagged_ranges.via n xs) := by
  unfold tagged_ranges.via
  split
  · exact Tells1.of (fun p hp => (tagged_ranges.hands n _ _ _ _ _ hp).hands)
  · exact Tells1.none
end Go.Proofs.Ytgmpnhfnkhohiaa.Ev

/- midrange/tagged.CopyBytes, out of its evaluation. Printed by the session's own program. -/
namespace Go.Proofs.Ytgmpnhfnkhohiaa.Ev
open Go Go.Proofs Go.Proofs.Ev
set_option linter.unusedVariables false
set_option maxRecDepth 100000
/-! midrange/tagged.CopyBytes: function 31 -/
noncomputable def tagged_CopyBytes.e {R : Type} (n : Nat)  (k : ByteArray × List AV × Int → Option R) (a0 : ByteArray) (a1 : List AV) (a2 : Int) (a3 : Int) (a4 : Int) : Option R :=
  (tagged_ranges.F n a0 a1 a2 a3 a4).bind fun p1 =>
  bif p1 != 0 then (k ((⟨#[]⟩ : ByteArray), [], p1)) else (bif decide ((0 : Int) ≤ IntKind.i64.wrap (a2 + a4)) && decide ((IntKind.i64.wrap (a2 + a4) : Int) ≤ ((a0.size : Nat) : Int)) then (bif decide ((0 : Int) ≤ a2) && decide ((a2 : Int) ≤ IntKind.i64.wrap (a2 + a4)) then (let y2 : ByteArray := a0.extract (a2).toNat (IntKind.i64.wrap (a2 + a4)).toNat
  (tagged_put.F n a0 a1 a3 y2).bind fun p3 =>
  k (p3.1, p3.2, 0)) else none) else none)
noncomputable def tagged_CopyBytes.C {R : Type} (n : Nat) (f : FuncId) (xs : List AV) : (AV → Option R) → Option R :=
  bif Nat.beq f 53 then tagged_put.via n xs else bif Nat.beq f 58 then tagged_ranges.via n xs else fun _ => none
theorem tagged_CopyBytes.tells {R : Type} (n : Nat) : Tells (R := R) Try.prog (tagged_CopyBytes.C n) := fun _ xs => tells_at (tagged_put.tells1 n xs) (tells_at (tagged_ranges.tells1 n xs) (Tells1.none))
noncomputable def tagged_CopyBytes.cut (r : Nat) : Option Keep := match r with  | _ => none
theorem tagged_CopyBytes.e_eq {R : Type} (n : Nat) (rec : List Item → St → Option R) (K : AV → Option R) (a0 : ByteArray) (a1 : List AV) (a2 : Int) (a3 : Int) (a4 : Int) :
    goK G (tagged_CopyBytes.C n) tagged_CopyBytes.cut (fun S => finK G Try.f31.resultTypes.toList Try.f31.results.toList S K) rec 1000 [.code (Try.f31.body.getD .skip)] (Ev.start Try.f31 [AV.agg [vs a0, .sl true 1 a1], .agg [vi a2, vi a3, vi a4]]) = tagged_CopyBytes.e n  (fun p => K (.tup [.agg [vs p.1, .fr true 1 p.2.1], vi p.2.2])) a0 a1 a2 a3 a4 := by kernel_rfl
noncomputable def tagged_CopyBytes.F (n : Nat) (a0 : ByteArray) (a1 : List AV) (a2 : Int) (a3 : Int) (a4 : Int) : Option (ByteArray × List AV × Int) := tagged_CopyBytes.e n  Option.some a0 a1 a2 a3 a4
noncomputable def tagged_CopyBytes.dec (x : AV) : Option (ByteArray × List AV × Int) := match x with | .tup [.agg [.v (.string p0), .fr true 1 p1], .v (.int .i64 p2)] => Option.some (p0, p1, p2) | _ => none
theorem tagged_CopyBytes.dec_inv {p : ByteArray × List AV × Int} (y : AV) (h : tagged_CopyBytes.dec y = some p) : y = .tup [.agg [vs p.1, .fr true 1 p.2.1], vi p.2.2] := by
  unfold tagged_CopyBytes.dec at h
  split at h
  · cases h; rfl
  · cases h
theorem tagged_CopyBytes.hands (n : Nat) (a0 : ByteArray) (a1 : List AV) (a2 : Int) (a3 : Int) (a4 : Int) {p : ByteArray × List AV × Int} (h : tagged_CopyBytes.F n a0 a1 a2 a3 a4 = some p) : HandsIn Try.prog 31 [AV.agg [vs a0, .sl true 1 a1], .agg [vi a2, vi a3, vi a4]] (.tup [.agg [vs p.1, .fr true 1 p.2.1], vi p.2.2]) := by
  refine hands_of cfg mixed (fun _ => rfl) (tagged_CopyBytes.tells n) (fn := Try.f31) Try.func31 (by kernel_rfl) (by kernel_rfl) (cut := tagged_CopyBytes.cut) (K := tagged_CopyBytes.dec) (r := p) (n := n) tagged_CopyBytes.dec_inv ?_
  rw [funK_getD (by kernel_rfl)]
  have h1 := tagged_CopyBytes.e_eq n (runK G (tagged_CopyBytes.C n) tagged_CopyBytes.cut (fun S => finK G Try.f31.resultTypes.toList Try.f31.results.toList S tagged_CopyBytes.dec) n) tagged_CopyBytes.dec a0 a1 a2 a3 a4
  exact h1.trans h
noncomputable def tagged_CopyBytes.via {R : Type} (n : Nat) (xs : List AV) : (AV → Option R) → Option R := match xs with | [.agg [.v (.string a0), .sl true 1 a1], .agg [.v (.int .i64 a2), .v (.int .i64 a3), .v (.int .i64 a4)]] => fun K => (tagged_CopyBytes.F n a0 a1 a2 a3 a4).bind fun p => K (.tup [.agg [vs p.1, .fr true 1 p.2.1], vi p.2.2]) | _ => fun _ => none
theorem tagged_CopyBytes.tells1 {R : Type} (n : Nat) (xs : List AV) : Tells1 (R := R) Try.prog 31 xs (tagged_CopyBytes.via n xs) := by
  unfold tagged_CopyBytes.via
  split
  · exact Tells1.of (fun p hp => (tagged_CopyBytes.hands n _ _ _ _ _ hp).hands)
  · exact Tells1.none
end Go.Proofs.Ytgmpnhfnkhohiaa.Ev

/- midrange/tagged.CopyWithTags, out of its evaluation. Printed by the session's own program. -/
namespace Go.Proofs.Ytgmpnhfnkhohiaa.Ev
open Go Go.Proofs Go.Proofs.Ev
set_option linter.unusedVariables false
set_option maxRecDepth 100000
/-! midrange/tagged.CopyWithTags: function 32 -/
noncomputable def tagged_CopyWithTags.r8 {R : Type} (n : Nat) (c8 : Int → ByteArray → List AV → Int → Int → Int → ByteArray → ByteArray → List AV → Option R) (k : ByteArray × List AV × Int → Option R) (z1 : Int) (z2 : ByteArray) (z3 : List AV) (z4 : Int) (z5 : Int) (z6 : Int) (z7 : ByteArray) (z8 : ByteArray) (z9 : List AV) : Option R :=
  let y7 : Int := IntKind.i64.wrap ((IntKind.i64.wrap (z1 + 1)) * 16)
  let y8 : Bool := decide (y7 ≤ (IntKind.i64.wrap (z5 + z6)))
  bif y8 then (let y9 : Int := IntKind.i64.wrap (Int.tdiv (IntKind.i64.wrap (z4 - z5)) 16)
  bif decide ((0 : Int) ≤ IntKind.i64.wrap (z1 + y9)) && decide (IntKind.i64.wrap (z1 + y9) < ((z3.length : Nat) : Int)) then (withCons ((z3.getD ((IntKind.i64.wrap (z1 + y9)).toNat) .undef).cells) fun c10 r11 =>
  withBool c10 fun b12 =>
  bif decide ((0 : Int) ≤ z1) && decide (z1 < ((z9.length : Nat) : Int)) then (c8 (IntKind.i64.wrap (z1 + 1)) z2 z3 z4 z5 z6 z7 z8 (z9.set ((z1).toNat) (vb b12))) else none) else none) else (k (z8, z9, 0))
noncomputable def tagged_CopyWithTags.e {R : Type} (n : Nat) (c8 : Int → ByteArray → List AV → Int → Int → Int → ByteArray → ByteArray → List AV → Option R) (k : ByteArray × List AV × Int → Option R) (a0 : ByteArray) (a1 : List AV) (a2 : Int) (a3 : Int) (a4 : Int) : Option R :=
  (tagged_ranges.F n a0 a1 a2 a3 a4).bind fun p1 =>
  bif p1 != 0 then (k ((⟨#[]⟩ : ByteArray), [], p1)) else (let y2 : Bool := (Int.tmod a2 16) != (Int.tmod a3 16)
  bif y2 then (k ((⟨#[]⟩ : ByteArray), [], 15)) else (bif decide ((0 : Int) ≤ IntKind.i64.wrap (a2 + a4)) && decide ((IntKind.i64.wrap (a2 + a4) : Int) ≤ ((a0.size : Nat) : Int)) then (bif decide ((0 : Int) ≤ a2) && decide ((a2 : Int) ≤ IntKind.i64.wrap (a2 + a4)) then (let y3 : ByteArray := a0.extract (a2).toNat (IntKind.i64.wrap (a2 + a4)).toNat
  (tagged_put.F n a0 a1 a3 y3).bind fun p4 =>
  let y5 : Int := IntKind.i64.wrap ((IntKind.i64.wrap (a3 + 16)) - 1)
  let y6 : Int := IntKind.i64.wrap (Int.tdiv y5 16)
  c8 y6 a0 a1 a2 a3 a4 (⟨#[]⟩ : ByteArray) p4.1 p4.2) else none) else none))
noncomputable def tagged_CopyWithTags.C {R : Type} (n : Nat) (f : FuncId) (xs : List AV) : (AV → Option R) → Option R :=
  bif Nat.beq f 53 then tagged_put.via n xs else bif Nat.beq f 58 then tagged_ranges.via n xs else fun _ => none
theorem tagged_CopyWithTags.tells {R : Type} (n : Nat) : Tells (R := R) Try.prog (tagged_CopyWithTags.C n) := fun _ xs => tells_at (tagged_put.tells1 n xs) (tells_at (tagged_ranges.tells1 n xs) (Tells1.none))
noncomputable def tagged_CopyWithTags.cut (r : Nat) : Option Keep := match r with | 8 => Option.some ⟨[2, 3, 4, 7, 8], []⟩ | _ => none
noncomputable def tagged_CopyWithTags.t8 : List Item := (todoOf 8 1000 [.code (Try.f32.body.getD .skip)]).getD []
noncomputable def tagged_CopyWithTags.s8 (z1 : Int) (z2 : ByteArray) (z3 : List AV) (z4 : Int) (z5 : Int) (z6 : Int) (z7 : ByteArray) (z8 : ByteArray) (z9 : List AV) : St := ⟨[.undef, .undef, .ptr 0 0, .ptr 1 0, .ptr 2 0, .undef, .undef, .ptr 3 0, vi z1, .undef, .undef, .undef, .undef, .undef, .undef, .undef, .undef, .undef, .undef, .undef, .undef, .undef, .undef, .undef, .undef, .undef, .undef, .undef, .undef, .undef, .undef, .undef, .undef, .undef, .undef, .undef, .undef, .undef, .undef, .undef, .undef, .undef, .undef, .undef, .undef, .undef, .undef, .undef, .undef, .undef, .undef, .undef, .undef, .undef, .undef, .undef, .undef, .undef, .undef, .undef, .undef, .undef, .undef, .undef, .undef, .undef, .undef, .undef, .undef, .undef, .undef], Mem.ofList [.box [vs z2, .sl true 1 z3], .box [vi z4, vi z5, vi z6], .box [vs z7, .v (.slice none 0 0)], .box [vs z8, .own 4 0 none], .row true 1 z9], 5⟩
theorem tagged_CopyWithTags.e_eq {R : Type} (n : Nat) (rec : List Item → St → Option R) (K : AV → Option R) (a0 : ByteArray) (a1 : List AV) (a2 : Int) (a3 : Int) (a4 : Int) :
    goK G (tagged_CopyWithTags.C n) tagged_CopyWithTags.cut (fun S => finK G Try.f32.resultTypes.toList Try.f32.results.toList S K) rec 1000 [.code (Try.f32.body.getD .skip)] (Ev.start Try.f32 [AV.agg [vs a0, .sl true 1 a1], .agg [vi a2, vi a3, vi a4]]) = tagged_CopyWithTags.e n (fun z1 z2 z3 z4 z5 z6 z7 z8 z9 => rec tagged_CopyWithTags.t8 (tagged_CopyWithTags.s8 z1 z2 z3 z4 z5 z6 z7 z8 z9)) (fun p => K (.tup [.agg [vs p.1, .fr true 1 p.2.1], vi p.2.2])) a0 a1 a2 a3 a4 := by kernel_rfl
theorem tagged_CopyWithTags.r8_eq {R : Type} (n : Nat) (rec : List Item → St → Option R) (K : AV → Option R) (z1 : Int) (z2 : ByteArray) (z3 : List AV) (z4 : Int) (z5 : Int) (z6 : Int) (z7 : ByteArray) (z8 : ByteArray) (z9 : List AV) :
    atK G (tagged_CopyWithTags.C n) tagged_CopyWithTags.cut (fun S => finK G Try.f32.resultTypes.toList Try.f32.results.toList S K) rec tagged_CopyWithTags.t8 (tagged_CopyWithTags.s8 z1 z2 z3 z4 z5 z6 z7 z8 z9) = tagged_CopyWithTags.r8 n (fun z1 z2 z3 z4 z5 z6 z7 z8 z9 => rec tagged_CopyWithTags.t8 (tagged_CopyWithTags.s8 z1 z2 z3 z4 z5 z6 z7 z8 z9)) (fun p => K (.tup [.agg [vs p.1, .fr true 1 p.2.1], vi p.2.2])) z1 z2 z3 z4 z5 z6 z7 z8 z9 := by kernel_rfl
noncomputable def tagged_CopyWithTags.l (n : Nat) : Nat → (Int → ByteArray → List AV → Int → Int → Int → ByteArray → ByteArray → List AV → Option (ByteArray × List AV × Int))
  | 0 => (fun _ _ _ _ _ _ _ _ _ => none)
  | m + 1 => tagged_CopyWithTags.r8 n (tagged_CopyWithTags.l n m) Option.some
noncomputable def tagged_CopyWithTags.F (n : Nat) (a0 : ByteArray) (a1 : List AV) (a2 : Int) (a3 : Int) (a4 : Int) : Option (ByteArray × List AV × Int) := tagged_CopyWithTags.e n (tagged_CopyWithTags.l n n) Option.some a0 a1 a2 a3 a4
noncomputable def tagged_CopyWithTags.dec (x : AV) : Option (ByteArray × List AV × Int) := match x with | .tup [.agg [.v (.string p0), .fr true 1 p1], .v (.int .i64 p2)] => Option.some (p0, p1, p2) | _ => none
theorem tagged_CopyWithTags.dec_inv {p : ByteArray × List AV × Int} (y : AV) (h : tagged_CopyWithTags.dec y = some p) : y = .tup [.agg [vs p.1, .fr true 1 p.2.1], vi p.2.2] := by
  unfold tagged_CopyWithTags.dec at h
  split at h
  · cases h; rfl
  · cases h
theorem tagged_CopyWithTags.l_eq (n m : Nat) : (∀ (z1 : Int) (z2 : ByteArray) (z3 : List AV) (z4 : Int) (z5 : Int) (z6 : Int) (z7 : ByteArray) (z8 : ByteArray) (z9 : List AV), runK G (tagged_CopyWithTags.C n) tagged_CopyWithTags.cut (fun S => finK G Try.f32.resultTypes.toList Try.f32.results.toList S tagged_CopyWithTags.dec) m tagged_CopyWithTags.t8 (tagged_CopyWithTags.s8 z1 z2 z3 z4 z5 z6 z7 z8 z9) = (tagged_CopyWithTags.l n m) z1 z2 z3 z4 z5 z6 z7 z8 z9) := by
  induction m with
  | zero => exact fun z1 z2 z3 z4 z5 z6 z7 z8 z9 => rfl
  | succ m ih =>
    have h8 := ih
    have e8 : (fun (z1 : Int) (z2 : ByteArray) (z3 : List AV) (z4 : Int) (z5 : Int) (z6 : Int) (z7 : ByteArray) (z8 : ByteArray) (z9 : List AV) => runK G (tagged_CopyWithTags.C n) tagged_CopyWithTags.cut (fun S => finK G Try.f32.resultTypes.toList Try.f32.results.toList S tagged_CopyWithTags.dec) m tagged_CopyWithTags.t8 (tagged_CopyWithTags.s8 z1 z2 z3 z4 z5 z6 z7 z8 z9)) = (tagged_CopyWithTags.l n m) := by funext z1 z2 z3 z4 z5 z6 z7 z8 z9; exact h8 z1 z2 z3 z4 z5 z6 z7 z8 z9
    have q8 : ∀ (z1 : Int) (z2 : ByteArray) (z3 : List AV) (z4 : Int) (z5 : Int) (z6 : Int) (z7 : ByteArray) (z8 : ByteArray) (z9 : List AV), runK G (tagged_CopyWithTags.C n) tagged_CopyWithTags.cut (fun S => finK G Try.f32.resultTypes.toList Try.f32.results.toList S tagged_CopyWithTags.dec) (m + 1) tagged_CopyWithTags.t8 (tagged_CopyWithTags.s8 z1 z2 z3 z4 z5 z6 z7 z8 z9) = (tagged_CopyWithTags.l n (m + 1)) z1 z2 z3 z4 z5 z6 z7 z8 z9 := by
      intro z1 z2 z3 z4 z5 z6 z7 z8 z9
      rw [runK_succ]
      refine (tagged_CopyWithTags.r8_eq n _ tagged_CopyWithTags.dec z1 z2 z3 z4 z5 z6 z7 z8 z9).trans ?_
      rw [e8]
      rfl
    exact q8
theorem tagged_CopyWithTags.hands (n : Nat) (a0 : ByteArray) (a1 : List AV) (a2 : Int) (a3 : Int) (a4 : Int) {p : ByteArray × List AV × Int} (h : tagged_CopyWithTags.F n a0 a1 a2 a3 a4 = some p) : HandsIn Try.prog 32 [AV.agg [vs a0, .sl true 1 a1], .agg [vi a2, vi a3, vi a4]] (.tup [.agg [vs p.1, .fr true 1 p.2.1], vi p.2.2]) := by
  refine hands_of cfg mixed (fun _ => rfl) (tagged_CopyWithTags.tells n) (fn := Try.f32) Try.func32 (by kernel_rfl) (by kernel_rfl) (cut := tagged_CopyWithTags.cut) (K := tagged_CopyWithTags.dec) (r := p) (n := n) tagged_CopyWithTags.dec_inv ?_
  rw [funK_getD (by kernel_rfl)]
  have h1 := tagged_CopyWithTags.e_eq n (runK G (tagged_CopyWithTags.C n) tagged_CopyWithTags.cut (fun S => finK G Try.f32.resultTypes.toList Try.f32.results.toList S tagged_CopyWithTags.dec) n) tagged_CopyWithTags.dec a0 a1 a2 a3 a4
  have hl := tagged_CopyWithTags.l_eq n n
  simp only [hl] at h1
  exact h1.trans h
noncomputable def tagged_CopyWithTags.via {R : Type} (n : Nat) (xs : List AV) : (AV → Option R) → Option R := match xs with | [.agg [.v (.string a0), .sl true 1 a1], .agg [.v (.int .i64 a2), .v (.int .i64 a3), .v (.int .i64 a4)]] => fun K => (tagged_CopyWithTags.F n a0 a1 a2 a3 a4).bind fun p => K (.tup [.agg [vs p.1, .fr true 1 p.2.1], vi p.2.2]) | _ => fun _ => none
theorem tagged_CopyWithTags.tells1 {R : Type} (n : Nat) (xs : List AV) : Tells1 (R := R) Try.prog 32 xs (tagged_CopyWithTags.via n xs) := by
  unfold tagged_CopyWithTags.via
  split
  · exact Tells1.of (fun p hp => (tagged_CopyWithTags.hands n _ _ _ _ _ hp).hands)
  · exact Tells1.none
end Go.Proofs.Ytgmpnhfnkhohiaa.Ev

/- midrange/midrangeref03.CopyErr, out of its evaluation. Printed by the session's own program. -/
namespace Go.Proofs.Ytgmpnhfnkhohiaa.Ev
open Go Go.Proofs Go.Proofs.Ev
set_option linter.unusedVariables false
set_option maxRecDepth 100000
/-! midrange/midrangeref03.CopyErr: function 33 -/
noncomputable def midrangeref03_CopyErr.e {R : Type} (n : Nat)  (k : Int → Option R) (a0 : ByteArray) (a1 : List AV) (a2 : Int) (a3 : Int) (a4 : Int) (a5 : Bool) : Option R :=
  (midrangeref03_IsRange.F n a0 a1 a2 a4).bind fun p1 =>
  bif !p1 then (k 3) else ((midrangeref03_IsRange.F n a0 a1 a3 a4).bind fun p2 =>
  bif !p2 then (k 3) else (bif a5 then (let y3 : Bool := (Int.tmod a2 16) != (Int.tmod a3 16)
  bif y3 then (k 15) else (k 0)) else (k 0)))
noncomputable def midrangeref03_CopyErr.C {R : Type} (n : Nat) (f : FuncId) (xs : List AV) : (AV → Option R) → Option R :=
  bif Nat.beq f 23 then midrangeref03_IsRange.via n xs else fun _ => none
theorem midrangeref03_CopyErr.tells {R : Type} (n : Nat) : Tells (R := R) Try.prog (midrangeref03_CopyErr.C n) := fun _ xs => tells_at (midrangeref03_IsRange.tells1 n xs) (Tells1.none)
noncomputable def midrangeref03_CopyErr.cut (r : Nat) : Option Keep := match r with  | _ => none
theorem midrangeref03_CopyErr.e_eq {R : Type} (n : Nat) (rec : List Item → St → Option R) (K : AV → Option R) (a0 : ByteArray) (a1 : List AV) (a2 : Int) (a3 : Int) (a4 : Int) (a5 : Bool) :
    goK G (midrangeref03_CopyErr.C n) midrangeref03_CopyErr.cut (fun S => finK G Try.f33.resultTypes.toList Try.f33.results.toList S K) rec 1000 [.code (Try.f33.body.getD .skip)] (Ev.start Try.f33 [AV.agg [vs a0, .sl true 1 a1], .agg [vi a2, vi a3, vi a4], vb a5]) = midrangeref03_CopyErr.e n  (fun p => K (vi p)) a0 a1 a2 a3 a4 a5 := by kernel_rfl
noncomputable def midrangeref03_CopyErr.F (n : Nat) (a0 : ByteArray) (a1 : List AV) (a2 : Int) (a3 : Int) (a4 : Int) (a5 : Bool) : Option (Int) := midrangeref03_CopyErr.e n  Option.some a0 a1 a2 a3 a4 a5
noncomputable def midrangeref03_CopyErr.dec (x : AV) : Option (Int) := match x with | .v (.int .i64 p0) => Option.some p0 | _ => none
theorem midrangeref03_CopyErr.dec_inv {p : Int} (y : AV) (h : midrangeref03_CopyErr.dec y = some p) : y = vi p := by
  unfold midrangeref03_CopyErr.dec at h
  split at h
  · cases h; rfl
  · cases h
theorem midrangeref03_CopyErr.hands (n : Nat) (a0 : ByteArray) (a1 : List AV) (a2 : Int) (a3 : Int) (a4 : Int) (a5 : Bool) {p : Int} (h : midrangeref03_CopyErr.F n a0 a1 a2 a3 a4 a5 = some p) : HandsIn Try.prog 33 [AV.agg [vs a0, .sl true 1 a1], .agg [vi a2, vi a3, vi a4], vb a5] (vi p) := by
  refine hands_of cfg mixed (fun _ => rfl) (midrangeref03_CopyErr.tells n) (fn := Try.f33) Try.func33 (by kernel_rfl) (by kernel_rfl) (cut := midrangeref03_CopyErr.cut) (K := midrangeref03_CopyErr.dec) (r := p) (n := n) midrangeref03_CopyErr.dec_inv ?_
  rw [funK_getD (by kernel_rfl)]
  have h1 := midrangeref03_CopyErr.e_eq n (runK G (midrangeref03_CopyErr.C n) midrangeref03_CopyErr.cut (fun S => finK G Try.f33.resultTypes.toList Try.f33.results.toList S midrangeref03_CopyErr.dec) n) midrangeref03_CopyErr.dec a0 a1 a2 a3 a4 a5
  exact h1.trans h
noncomputable def midrangeref03_CopyErr.via {R : Type} (n : Nat) (xs : List AV) : (AV → Option R) → Option R := match xs with | [.agg [.v (.string a0), .sl true 1 a1], .agg [.v (.int .i64 a2), .v (.int .i64 a3), .v (.int .i64 a4)], .v (.bool a5)] => fun K => (midrangeref03_CopyErr.F n a0 a1 a2 a3 a4 a5).bind fun p => K (vi p) | _ => fun _ => none
theorem midrangeref03_CopyErr.tells1 {R : Type} (n : Nat) (xs : List AV) : Tells1 (R := R) Try.prog 33 xs (midrangeref03_CopyErr.via n xs) := by
  unfold midrangeref03_CopyErr.via
  split
  · exact Tells1.of (fun p hp => (midrangeref03_CopyErr.hands n _ _ _ _ _ _ hp).hands)
  · exact Tells1.none
end Go.Proofs.Ytgmpnhfnkhohiaa.Ev

/- midrange/midrangeref03.Copy, out of its evaluation. Printed by the session's own program. -/
namespace Go.Proofs.Ytgmpnhfnkhohiaa.Ev
open Go Go.Proofs Go.Proofs.Ev
set_option linter.unusedVariables false
set_option maxRecDepth 100000
/-! midrange/midrangeref03.Copy: function 34 -/
noncomputable def midrangeref03_Copy.r3 {R : Type} (n : Nat) (c3 : Bool → Int → ByteArray → List AV → Int → Int → Int → ByteArray → ByteArray → List AV → Option R) (c4 : Bool → Int → ByteArray → List AV → Int → Int → Int → ByteArray → ByteArray → List AV → Option R) (k : ByteArray × List AV → Option R) (z1 : Bool) (z2 : Int) (z3 : ByteArray) (z4 : List AV) (z5 : Int) (z6 : Int) (z7 : Int) (z8 : ByteArray) (z9 : ByteArray) (z10 : List AV) : Option R :=
  let y3 : Bool := decide (z2 < ((z4.length : Nat) : Int))
  bif y3 then (bif z1 then (let y4 : Bool := decide (z6 ≤ (IntKind.i64.wrap (z2 * 16)))
  bif y4 then (let y5 : Int := IntKind.i64.wrap ((IntKind.i64.wrap (z2 * 16)) + 16)
  let y6 : Bool := decide (y5 ≤ (IntKind.i64.wrap (z6 + z7)))
  bif y6 then (let y7 : Int := IntKind.i64.wrap ((IntKind.i64.wrap (z2 * 16)) - z6)
  let y8 : Int := IntKind.i64.wrap (Int.tdiv (IntKind.i64.wrap (y7 + z5)) 16)
  bif decide ((0 : Int) ≤ y8) && decide (y8 < ((z4.length : Nat) : Int)) then (withCons ((z4.getD ((y8).toNat) .undef).cells) fun c9 r10 =>
  withBool c9 fun b11 =>
  bif decide ((0 : Int) ≤ z2) && decide (z2 < ((z10.length : Nat) : Int)) then (let y12 : List AV := z10.set ((z2).toNat) (vb b11)
  c4 z1 z2 z3 z4 z5 z6 z7 z8 z9 y12) else none) else none) else (c4 z1 z2 z3 z4 z5 z6 z7 z8 z9 z10)) else (c4 z1 z2 z3 z4 z5 z6 z7 z8 z9 z10)) else (k (z9, z10))) else (k (z9, z10))
noncomputable def midrangeref03_Copy.r4 {R : Type} (n : Nat) (c3 : Bool → Int → ByteArray → List AV → Int → Int → Int → ByteArray → ByteArray → List AV → Option R) (c4 : Bool → Int → ByteArray → List AV → Int → Int → Int → ByteArray → ByteArray → List AV → Option R) (k : ByteArray × List AV → Option R) (z1 : Bool) (z2 : Int) (z3 : ByteArray) (z4 : List AV) (z5 : Int) (z6 : Int) (z7 : Int) (z8 : ByteArray) (z9 : ByteArray) (z10 : List AV) : Option R :=
  c3 z1 (IntKind.i64.wrap (z2 + 1)) z3 z4 z5 z6 z7 z8 z9 z10
noncomputable def midrangeref03_Copy.e {R : Type} (n : Nat) (c3 : Bool → Int → ByteArray → List AV → Int → Int → Int → ByteArray → ByteArray → List AV → Option R) (c4 : Bool → Int → ByteArray → List AV → Int → Int → Int → ByteArray → ByteArray → List AV → Option R) (k : ByteArray × List AV → Option R) (a0 : ByteArray) (a1 : List AV) (a2 : Int) (a3 : Int) (a4 : Int) (a5 : Bool) : Option R :=
  bif decide ((0 : Int) ≤ IntKind.i64.wrap (a2 + a4)) && decide ((IntKind.i64.wrap (a2 + a4) : Int) ≤ ((a0.size : Nat) : Int)) then (bif decide ((0 : Int) ≤ a2) && decide ((a2 : Int) ≤ IntKind.i64.wrap (a2 + a4)) then (let y1 : ByteArray := a0.extract (a2).toNat (IntKind.i64.wrap (a2 + a4)).toNat
  (midrangeref03_Write.F n a0 a1 a3 y1).bind fun p2 =>
  c3 a5 0 a0 a1 a2 a3 a4 (⟨#[]⟩ : ByteArray) p2.1 p2.2) else none) else none
noncomputable def midrangeref03_Copy.C {R : Type} (n : Nat) (f : FuncId) (xs : List AV) : (AV → Option R) → Option R :=
  bif Nat.beq f 25 then midrangeref03_Write.via n xs else fun _ => none
theorem midrangeref03_Copy.tells {R : Type} (n : Nat) : Tells (R := R) Try.prog (midrangeref03_Copy.C n) := fun _ xs => tells_at (midrangeref03_Write.tells1 n xs) (Tells1.none)
noncomputable def midrangeref03_Copy.cut (r : Nat) : Option Keep := match r with | 3 => Option.some ⟨[2, 3, 4, 6, 7, 8], []⟩ | 4 => Option.some ⟨[2, 3, 4, 6, 7, 8], []⟩ | _ => none
noncomputable def midrangeref03_Copy.t3 : List Item := (todoOf 3 1000 [.code (Try.f34.body.getD .skip)]).getD []
noncomputable def midrangeref03_Copy.s3 (z1 : Bool) (z2 : Int) (z3 : ByteArray) (z4 : List AV) (z5 : Int) (z6 : Int) (z7 : Int) (z8 : ByteArray) (z9 : ByteArray) (z10 : List AV) : St := ⟨[.undef, .undef, vb z1, .ptr 0 0, .ptr 1 0, .undef, .ptr 2 0, .ptr 3 0, vi z2, .undef, .undef, .undef, .undef, .undef, .undef, .undef, .undef, .undef, .undef, .undef, .undef, .undef, .undef, .undef, .undef, .undef, .undef, .undef, .undef, .undef, .undef, .undef, .undef, .undef, .undef, .undef, .undef, .undef, .undef, .undef, .undef, .undef, .undef, .undef, .undef, .undef, .undef, .undef, .undef, .undef, .undef, .undef, .undef, .undef, .undef, .undef, .undef, .undef, .undef, .undef, .undef, .undef, .undef, .undef, .undef, .undef, .undef], Mem.ofList [.box [vs z3, .sl true 1 z4], .box [vi z5, vi z6, vi z7], .box [vs z8, .v (.slice none 0 0)], .box [vs z9, .own 4 0 none], .row true 1 z10], 5⟩
noncomputable def midrangeref03_Copy.t4 : List Item := (todoOf 4 1000 [.code (Try.f34.body.getD .skip)]).getD []
noncomputable def midrangeref03_Copy.s4 (z1 : Bool) (z2 : Int) (z3 : ByteArray) (z4 : List AV) (z5 : Int) (z6 : Int) (z7 : Int) (z8 : ByteArray) (z9 : ByteArray) (z10 : List AV) : St := ⟨[.undef, .undef, vb z1, .ptr 0 0, .ptr 1 0, .undef, .ptr 2 0, .ptr 3 0, vi z2, .undef, .undef, .undef, .undef, .undef, .undef, .undef, .undef, .undef, .undef, .undef, .undef, .undef, .undef, .undef, .undef, .undef, .undef, .undef, .undef, .undef, .undef, .undef, .undef, .undef, .undef, .undef, .undef, .undef, .undef, .undef, .undef, .undef, .undef, .undef, .undef, .undef, .undef, .undef, .undef, .undef, .undef, .undef, .undef, .undef, .undef, .undef, .undef, .undef, .undef, .undef, .undef, .undef, .undef, .undef, .undef, .undef, .undef], Mem.ofList [.box [vs z3, .sl true 1 z4], .box [vi z5, vi z6, vi z7], .box [vs z8, .v (.slice none 0 0)], .box [vs z9, .own 4 0 none], .row true 1 z10], 5⟩
theorem midrangeref03_Copy.e_eq {R : Type} (n : Nat) (rec : List Item → St → Option R) (K : AV → Option R) (a0 : ByteArray) (a1 : List AV) (a2 : Int) (a3 : Int) (a4 : Int) (a5 : Bool) :
    goK G (midrangeref03_Copy.C n) midrangeref03_Copy.cut (fun S => finK G Try.f34.resultTypes.toList Try.f34.results.toList S K) rec 1000 [.code (Try.f34.body.getD .skip)] (Ev.start Try.f34 [AV.agg [vs a0, .sl true 1 a1], .agg [vi a2, vi a3, vi a4], vb a5]) = midrangeref03_Copy.e n (fun z1 z2 z3 z4 z5 z6 z7 z8 z9 z10 => rec midrangeref03_Copy.t3 (midrangeref03_Copy.s3 z1 z2 z3 z4 z5 z6 z7 z8 z9 z10)) (fun z1 z2 z3 z4 z5 z6 z7 z8 z9 z10 => rec midrangeref03_Copy.t4 (midrangeref03_Copy.s4 z1 z2 z3 z4 z5 z6 z7 z8 z9 z10)) (fun p => K (.agg [vs p.1, .fr true 1 p.2])) a0 a1 a2 a3 a4 a5 := by kernel_rfl
theorem midrangeref03_Copy.r3_eq {R : Type} (n : Nat) (rec : List Item → St → Option R) (K : AV → Option R) (z1 : Bool) (z2 : Int) (z3 : ByteArray) (z4 : List AV) (z5 : Int) (z6 : Int) (z7 : Int) (z8 : ByteArray) (z9 : ByteArray) (z10 : List AV) :
    atK G (midrangeref03_Copy.C n) midrangeref03_Copy.cut (fun S => finK G Try.f34.resultTypes.toList Try.f34.results.toList S K) rec midrangeref03_Copy.t3 (midrangeref03_Copy.s3 z1 z2 z3 z4 z5 z6 z7 z8 z9 z10) = midrangeref03_Copy.r3 n (fun z1 z2 z3 z4 z5 z6 z7 z8 z9 z10 => rec midrangeref03_Copy.t3 (midrangeref03_Copy.s3 z1 z2 z3 z4 z5 z6 z7 z8 z9 z10)) (fun z1 z2 z3 z4 z5 z6 z7 z8 z9 z10 => rec midrangeref03_Copy.t4 (midrangeref03_Copy.s4 z1 z2 z3 z4 z5 z6 z7 z8 z9 z10)) (fun p => K (.agg [vs p.1, .fr true 1 p.2])) z1 z2 z3 z4 z5 z6 z7 z8 z9 z10 := by kernel_rfl
theorem midrangeref03_Copy.r4_eq {R : Type} (n : Nat) (rec : List Item → St → Option R) (K : AV → Option R) (z1 : Bool) (z2 : Int) (z3 : ByteArray) (z4 : List AV) (z5 : Int) (z6 : Int) (z7 : Int) (z8 : ByteArray) (z9 : ByteArray) (z10 : List AV) :
    atK G (midrangeref03_Copy.C n) midrangeref03_Copy.cut (fun S => finK G Try.f34.resultTypes.toList Try.f34.results.toList S K) rec midrangeref03_Copy.t4 (midrangeref03_Copy.s4 z1 z2 z3 z4 z5 z6 z7 z8 z9 z10) = midrangeref03_Copy.r4 n (fun z1 z2 z3 z4 z5 z6 z7 z8 z9 z10 => rec midrangeref03_Copy.t3 (midrangeref03_Copy.s3 z1 z2 z3 z4 z5 z6 z7 z8 z9 z10)) (fun z1 z2 z3 z4 z5 z6 z7 z8 z9 z10 => rec midrangeref03_Copy.t4 (midrangeref03_Copy.s4 z1 z2 z3 z4 z5 z6 z7 z8 z9 z10)) (fun p => K (.agg [vs p.1, .fr true 1 p.2])) z1 z2 z3 z4 z5 z6 z7 z8 z9 z10 := by kernel_rfl
noncomputable def midrangeref03_Copy.l (n : Nat) : Nat → (Bool → Int → ByteArray → List AV → Int → Int → Int → ByteArray → ByteArray → List AV → Option (ByteArray × List AV)) × (Bool → Int → ByteArray → List AV → Int → Int → Int → ByteArray → ByteArray → List AV → Option (ByteArray × List AV))
  | 0 => ((fun _ _ _ _ _ _ _ _ _ _ => none), (fun _ _ _ _ _ _ _ _ _ _ => none))
  | m + 1 => (midrangeref03_Copy.r3 n ((midrangeref03_Copy.l n m).1) ((midrangeref03_Copy.l n m).2) Option.some, midrangeref03_Copy.r4 n ((midrangeref03_Copy.l n m).1) ((midrangeref03_Copy.l n m).2) Option.some)
noncomputable def midrangeref03_Copy.F (n : Nat) (a0 : ByteArray) (a1 : List AV) (a2 : Int) (a3 : Int) (a4 : Int) (a5 : Bool) : Option (ByteArray × List AV) := midrangeref03_Copy.e n ((midrangeref03_Copy.l n n).1) ((midrangeref03_Copy.l n n).2) Option.some a0 a1 a2 a3 a4 a5
noncomputable def midrangeref03_Copy.dec (x : AV) : Option (ByteArray × List AV) := match x with | .agg [.v (.string p0), .fr true 1 p1] => Option.some (p0, p1) | _ => none
theorem midrangeref03_Copy.dec_inv {p : ByteArray × List AV} (y : AV) (h : midrangeref03_Copy.dec y = some p) : y = .agg [vs p.1, .fr true 1 p.2] := by
  unfold midrangeref03_Copy.dec at h
  split at h
  · cases h; rfl
  · cases h
theorem midrangeref03_Copy.l_eq (n m : Nat) : (∀ (z1 : Bool) (z2 : Int) (z3 : ByteArray) (z4 : List AV) (z5 : Int) (z6 : Int) (z7 : Int) (z8 : ByteArray) (z9 : ByteArray) (z10 : List AV), runK G (midrangeref03_Copy.C n) midrangeref03_Copy.cut (fun S => finK G Try.f34.resultTypes.toList Try.f34.results.toList S midrangeref03_Copy.dec) m midrangeref03_Copy.t3 (midrangeref03_Copy.s3 z1 z2 z3 z4 z5 z6 z7 z8 z9 z10) = ((midrangeref03_Copy.l n m).1) z1 z2 z3 z4 z5 z6 z7 z8 z9 z10) ∧ (∀ (z1 : Bool) (z2 : Int) (z3 : ByteArray) (z4 : List AV) (z5 : Int) (z6 : Int) (z7 : Int) (z8 : ByteArray) (z9 : ByteArray) (z10 : List AV), runK G (midrangeref03_Copy.C n) midrangeref03_Copy.cut (fun S => finK G Try.f34.resultTypes.toList Try.f34.results.toList S midrangeref03_Copy.dec) m midrangeref03_Copy.t4 (midrangeref03_Copy.s4 z1 z2 z3 z4 z5 z6 z7 z8 z9 z10) = ((midrangeref03_Copy.l n m).2) z1 z2 z3 z4 z5 z6 z7 z8 z9 z10) := by
  induction m with
  | zero => exact ⟨fun z1 z2 z3 z4 z5 z6 z7 z8 z9 z10 => rfl, fun z1 z2 z3 z4 z5 z6 z7 z8 z9 z10 => rfl⟩
  | succ m ih =>
    obtain ⟨h3, h4⟩ := ih
    have e3 : (fun (z1 : Bool) (z2 : Int) (z3 : ByteArray) (z4 : List AV) (z5 : Int) (z6 : Int) (z7 : Int) (z8 : ByteArray) (z9 : ByteArray) (z10 : List AV) => runK G (midrangeref03_Copy.C n) midrangeref03_Copy.cut (fun S => finK G Try.f34.resultTypes.toList Try.f34.results.toList S midrangeref03_Copy.dec) m midrangeref03_Copy.t3 (midrangeref03_Copy.s3 z1 z2 z3 z4 z5 z6 z7 z8 z9 z10)) = (midrangeref03_Copy.l n m).1 := by funext z1 z2 z3 z4 z5 z6 z7 z8 z9 z10; exact h3 z1 z2 z3 z4 z5 z6 z7 z8 z9 z10
    have e4 : (fun (z1 : Bool) (z2 : Int) (z3 : ByteArray) (z4 : List AV) (z5 : Int) (z6 : Int) (z7 : Int) (z8 : ByteArray) (z9 : ByteArray) (z10 : List AV) => runK G (midrangeref03_Copy.C n) midrangeref03_Copy.cut (fun S => finK G Try.f34.resultTypes.toList Try.f34.results.toList S midrangeref03_Copy.dec) m midrangeref03_Copy.t4 (midrangeref03_Copy.s4 z1 z2 z3 z4 z5 z6 z7 z8 z9 z10)) = (midrangeref03_Copy.l n m).2 := by funext z1 z2 z3 z4 z5 z6 z7 z8 z9 z10; exact h4 z1 z2 z3 z4 z5 z6 z7 z8 z9 z10
    have q3 : ∀ (z1 : Bool) (z2 : Int) (z3 : ByteArray) (z4 : List AV) (z5 : Int) (z6 : Int) (z7 : Int) (z8 : ByteArray) (z9 : ByteArray) (z10 : List AV), runK G (midrangeref03_Copy.C n) midrangeref03_Copy.cut (fun S => finK G Try.f34.resultTypes.toList Try.f34.results.toList S midrangeref03_Copy.dec) (m + 1) midrangeref03_Copy.t3 (midrangeref03_Copy.s3 z1 z2 z3 z4 z5 z6 z7 z8 z9 z10) = ((midrangeref03_Copy.l n (m + 1)).1) z1 z2 z3 z4 z5 z6 z7 z8 z9 z10 := by
      intro z1 z2 z3 z4 z5 z6 z7 z8 z9 z10
      rw [runK_succ]
      refine (midrangeref03_Copy.r3_eq n _ midrangeref03_Copy.dec z1 z2 z3 z4 z5 z6 z7 z8 z9 z10).trans ?_
      rw [e3, e4]
      rfl
    have q4 : ∀ (z1 : Bool) (z2 : Int) (z3 : ByteArray) (z4 : List AV) (z5 : Int) (z6 : Int) (z7 : Int) (z8 : ByteArray) (z9 : ByteArray) (z10 : List AV), runK G (midrangeref03_Copy.C n) midrangeref03_Copy.cut (fun S => finK G Try.f34.resultTypes.toList Try.f34.results.toList S midrangeref03_Copy.dec) (m + 1) midrangeref03_Copy.t4 (midrangeref03_Copy.s4 z1 z2 z3 z4 z5 z6 z7 z8 z9 z10) = ((midrangeref03_Copy.l n (m + 1)).2) z1 z2 z3 z4 z5 z6 z7 z8 z9 z10 := by
      intro z1 z2 z3 z4 z5 z6 z7 z8 z9 z10
      rw [runK_succ]
      refine (midrangeref03_Copy.r4_eq n _ midrangeref03_Copy.dec z1 z2 z3 z4 z5 z6 z7 z8 z9 z10).trans ?_
      rw [e3, e4]
      rfl
    exact ⟨q3, q4⟩
theorem midrangeref03_Copy.hands (n : Nat) (a0 : ByteArray) (a1 : List AV) (a2 : Int) (a3 : Int) (a4 : Int) (a5 : Bool) {p : ByteArray × List AV} (h : midrangeref03_Copy.F n a0 a1 a2 a3 a4 a5 = some p) : HandsIn Try.prog 34 [AV.agg [vs a0, .sl true 1 a1], .agg [vi a2, vi a3, vi a4], vb a5] (.agg [vs p.1, .fr true 1 p.2]) := by
  refine hands_of cfg mixed (fun _ => rfl) (midrangeref03_Copy.tells n) (fn := Try.f34) Try.func34 (by kernel_rfl) (by kernel_rfl) (cut := midrangeref03_Copy.cut) (K := midrangeref03_Copy.dec) (r := p) (n := n) midrangeref03_Copy.dec_inv ?_
  rw [funK_getD (by kernel_rfl)]
  have h1 := midrangeref03_Copy.e_eq n (runK G (midrangeref03_Copy.C n) midrangeref03_Copy.cut (fun S => finK G Try.f34.resultTypes.toList Try.f34.results.toList S midrangeref03_Copy.dec) n) midrangeref03_Copy.dec a0 a1 a2 a3 a4 a5
  have hl := midrangeref03_Copy.l_eq n n
  simp only [hl.1, hl.2] at h1
  exact h1.trans h
noncomputable def midrangeref03_Copy.via {R : Type} (n : Nat) (xs : List AV) : (AV → Option R) → Option R := match xs with | [.agg [.v (.string a0), .sl true 1 a1], .agg [.v (.int .i64 a2), .v (.int .i64 a3), .v (.int .i64 a4)], .v (.bool a5)] => fun K => (midrangeref03_Copy.F n a0 a1 a2 a3 a4 a5).bind fun p => K (.agg [vs p.1, .fr true 1 p.2]) | _ => fun _ => none
theorem midrangeref03_Copy.tells1 {R : Type} (n : Nat) (xs : List AV) : Tells1 (R := R) Try.prog 34 xs (midrangeref03_Copy.via n xs) := by
  unfold midrangeref03_Copy.via
  split
  · exact Tells1.of (fun p hp => (midrangeref03_Copy.hands n _ _ _ _ _ _ hp).hands)
  · exact Tells1.none
end Go.Proofs.Ytgmpnhfnkhohiaa.Ev

/- midrange/midrangelaw03.TaggedCopies, out of its evaluation. Printed by the session's own program. -/
namespace Go.Proofs.Ytgmpnhfnkhohiaa.Ev
open Go Go.Proofs Go.Proofs.Ev
set_option linter.unusedVariables false
set_option maxRecDepth 100000
/-! midrange/midrangelaw03.TaggedCopies: function 6 -/
noncomputable def midrangelaw03_TaggedCopies.e {R : Type} (n : Nat)  (k : Bool → Option R) (a0 : ByteArray) (a1 : List AV) (a2 : Int) (a3 : Int) (a4 : Int) : Option R :=
  (midrangelaw03_awake.F n ).bind fun p1 =>
  bif !p1 then (k false) else ((midrangelaw03_few.F n a0 a1).bind fun p2 =>
  bif !p2 then (k true) else ((midrangebase_OwnStorage.F n a0 a1).bind fun p3 =>
  (tagged_CopyBytes.F n p3.1 p3.2 a2 a3 a4).bind fun p4 =>
  (midrangebase_OwnStorage.F n a0 a1).bind fun p5 =>
  (tagged_CopyWithTags.F n p5.1 p5.2 a2 a3 a4).bind fun p6 =>
  (midrangeref03_Err.F n a0 a1).bind fun p7 =>
  bif p7 != 0 then (bif p4.2.2 == p7 then ((midrangelaw03_none.F n p4.1 p4.2.1).bind fun p8 =>
  bif p8 then (bif p6.2.2 == p7 then ((midrangelaw03_none.F n p6.1 p6.2.1).bind fun p9 =>
  k p9) else (k false)) else (k false)) else (k false)) else ((midrangeref03_CopyErr.F n a0 a1 a2 a3 a4 false).bind fun p10 =>
  bif p10 != 0 then (bif p4.2.2 == p10 then ((midrangelaw03_none.F n p4.1 p4.2.1).bind fun p11 =>
  bif p11 then (bif p6.2.2 == p10 then ((midrangelaw03_none.F n p6.1 p6.2.1).bind fun p12 =>
  k p12) else (k false)) else (k false)) else (k false)) else (bif p4.2.2 != 0 then (k false) else ((midrangeref03_Copy.F n a0 a1 a2 a3 a4 false).bind fun p13 =>
  (midrangebase_SameStorage.F n p4.1 p4.2.1 p13.1 p13.2).bind fun p14 =>
  bif !p14 then (k false) else ((midrangeref03_CopyErr.F n a0 a1 a2 a3 a4 true).bind fun p15 =>
  bif p15 != 0 then (bif p6.2.2 == p15 then ((midrangelaw03_none.F n p6.1 p6.2.1).bind fun p16 =>
  k p16) else (k false)) else (bif p6.2.2 == 0 then ((midrangeref03_Copy.F n a0 a1 a2 a3 a4 true).bind fun p17 =>
  (midrangebase_SameStorage.F n p6.1 p6.2.1 p17.1 p17.2).bind fun p18 =>
  k p18) else (k false))))))))
noncomputable def midrangelaw03_TaggedCopies.C {R : Type} (n : Nat) (f : FuncId) (xs : List AV) : (AV → Option R) → Option R :=
  bif Nat.beq f 10 then midrangelaw03_awake.via n xs else bif Nat.beq f 17 then midrangelaw03_few.via n xs else bif Nat.beq f 19 then midrangebase_OwnStorage.via n xs else bif Nat.beq f 21 then midrangeref03_Err.via n xs else bif Nat.beq f 22 then midrangelaw03_none.via n xs else bif Nat.beq f 24 then midrangebase_SameStorage.via n xs else bif Nat.beq f 31 then tagged_CopyBytes.via n xs else bif Nat.beq f 32 then tagged_CopyWithTags.via n xs else bif Nat.beq f 33 then midrangeref03_CopyErr.via n xs else bif Nat.beq f 34 then midrangeref03_Copy.via n xs else fun _ => none
theorem midrangelaw03_TaggedCopies.tells {R : Type} (n : Nat) : Tells (R := R) Try.prog (midrangelaw03_TaggedCopies.C n) := fun _ xs => tells_at (midrangelaw03_awake.tells1 n xs) (tells_at (midrangelaw03_few.tells1 n xs) (tells_at (midrangebase_OwnStorage.tells1 n xs) (tells_at (midrangeref03_Err.tells1 n xs) (tells_at (midrangelaw03_none.tells1 n xs) (tells_at (midrangebase_SameStorage.tells1 n xs) (tells_at (tagged_CopyBytes.tells1 n xs) (tells_at (tagged_CopyWithTags.tells1 n xs) (tells_at (midrangeref03_CopyErr.tells1 n xs) (tells_at (midrangeref03_Copy.tells1 n xs) (Tells1.none))))))))))
noncomputable def midrangelaw03_TaggedCopies.cut (r : Nat) : Option Keep := match r with  | _ => none
theorem midrangelaw03_TaggedCopies.e_eq {R : Type} (n : Nat) (rec : List Item → St → Option R) (K : AV → Option R) (a0 : ByteArray) (a1 : List AV) (a2 : Int) (a3 : Int) (a4 : Int) :
    goK G (midrangelaw03_TaggedCopies.C n) midrangelaw03_TaggedCopies.cut (fun S => finK G Try.f6.resultTypes.toList Try.f6.results.toList S K) rec 1000 [.code (Try.f6.body.getD .skip)] (Ev.start Try.f6 [AV.agg [vs a0, .sl true 1 a1], .agg [vi a2, vi a3, vi a4]]) = midrangelaw03_TaggedCopies.e n  (fun p => K (vb p)) a0 a1 a2 a3 a4 := by kernel_rfl
noncomputable def midrangelaw03_TaggedCopies.F (n : Nat) (a0 : ByteArray) (a1 : List AV) (a2 : Int) (a3 : Int) (a4 : Int) : Option (Bool) := midrangelaw03_TaggedCopies.e n  Option.some a0 a1 a2 a3 a4
noncomputable def midrangelaw03_TaggedCopies.dec (x : AV) : Option (Bool) := match x with | .v (.bool p0) => Option.some p0 | _ => none
theorem midrangelaw03_TaggedCopies.dec_inv {p : Bool} (y : AV) (h : midrangelaw03_TaggedCopies.dec y = some p) : y = vb p := by
  unfold midrangelaw03_TaggedCopies.dec at h
  split at h
  · cases h; rfl
  · cases h
theorem midrangelaw03_TaggedCopies.hands (n : Nat) (a0 : ByteArray) (a1 : List AV) (a2 : Int) (a3 : Int) (a4 : Int) {p : Bool} (h : midrangelaw03_TaggedCopies.F n a0 a1 a2 a3 a4 = some p) : HandsIn Try.prog 6 [AV.agg [vs a0, .sl true 1 a1], .agg [vi a2, vi a3, vi a4]] (vb p) := by
  refine hands_of cfg mixed (fun _ => rfl) (midrangelaw03_TaggedCopies.tells n) (fn := Try.f6) Try.func6 (by kernel_rfl) (by kernel_rfl) (cut := midrangelaw03_TaggedCopies.cut) (K := midrangelaw03_TaggedCopies.dec) (r := p) (n := n) midrangelaw03_TaggedCopies.dec_inv ?_
  rw [funK_getD (by kernel_rfl)]
  have h1 := midrangelaw03_TaggedCopies.e_eq n (runK G (midrangelaw03_TaggedCopies.C n) midrangelaw03_TaggedCopies.cut (fun S => finK G Try.f6.resultTypes.toList Try.f6.results.toList S midrangelaw03_TaggedCopies.dec) n) midrangelaw03_TaggedCopies.dec a0 a1 a2 a3 a4
  exact h1.trans h
noncomputable def midrangelaw03_TaggedCopies.via {R : Type} (n : Nat) (xs : List AV) : (AV → Option R) → Option R := match xs with | [.agg [.v (.string a0), .sl true 1 a1], .agg [.v (.int .i64 a2), .v (.int .i64 a3), .v (.int .i64 a4)]] => fun K => (midrangelaw03_TaggedCopies.F n a0 a1 a2 a3 a4).bind fun p => K (vb p) | _ => fun _ => none
theorem midrangelaw03_TaggedCopies.tells1 {R : Type} (n : Nat) (xs : List AV) : Tells1 (R := R) Try.prog 6 xs (midrangelaw03_TaggedCopies.via n xs) := by
  unfold midrangelaw03_TaggedCopies.via
  split
  · exact Tells1.of (fun p hp => (midrangelaw03_TaggedCopies.hands n _ _ _ _ _ hp).hands)
  · exact Tells1.none
end Go.Proofs.Ytgmpnhfnkhohiaa.Ev

/- Loads and stores of pointers, copies: what chapter 3's program and its reference compute is the same. -/
namespace Go.Proofs.Ytgmpnhfnkhohiaa.Ev
open Go Go.Proofs Go.Proofs.Ev
set_option linter.unusedVariables false

/-- Whether an offset is that of a quadword. -/
def isQ (s : ByteArray) (a : Int) : Bool := (decide (0 ≤ a) && decide (a ≤ (s.size : Int) - 16)) && decide (a % 16 = 0)
theorem isQ_of {s : ByteArray} {a : Int} (h : isQ s a = true) : ∃ q : Nat, a = ((16 * q : Nat) : Int) ∧ 16 * q + 16 ≤ s.size := by
  simp only [isQ, Bool.and_eq_true, decide_eq_true_eq] at h
  exact ⟨(a / 16).toNat, by omega, by omega⟩
theorem tmod16 {a : Int} (h : 0 ≤ a) : Int.tmod a 16 = a % 16 := Int.tmod_eq_emod_of_nonneg h

theorem isQuad_eq (n : Nat) (s : ByteArray) (t : List AV) (a : Int) (hs : s.size ≤ 1000000) : midrangeref03_IsQuad.F n s t a = some (isQ s a) := by
  unfold midrangeref03_IsQuad.F midrangeref03_IsQuad.e
  rw [w64 (by omega) (by omega)]
  simp only [bwithin_eq, Option.bind_some, isQ]
  cases h : (decide (0 ≤ a) && decide (a ≤ (s.size : Int) - 16)) with
  | false => rfl
  | true =>
    simp only [Bool.and_eq_true, decide_eq_true_eq] at h
    simp only [cond_true, Bool.true_and, tmod16 h.1]
    rfl

theorem place_eq {n : Nat} (hn : 1 ≤ n) (s : ByteArray) (ts : List Bool) {r : Int × Int} (hr : tagged_CheckStorage.F n s (Bl ts) = some r) (h0 : r.2 = 0 → s.size = 16 * ts.length ∧ ts.length ≤ 64) (a : Int) :
    tagged_place.F n s (Bl ts) a = some (bif r.2 != 0 then r.2 else bif isQ s a then 0 else 3) := by
  obtain ⟨m, rfl⟩ : ∃ m, n = m + 1 := ⟨n - 1, by omega⟩
  unfold tagged_place.F tagged_place.e
  rw [hr]
  simp only [Option.bind_some, tagged_place.l, tagged_place.r5]
  cases hc : r.2 != 0 with
  | true => rfl
  | false =>
    obtain ⟨g1, g2⟩ := h0 (by simpa using hc)
    simp only [cond_false, isQ]
    by_cases h1 : a < 0
    · have : ¬ (0 ≤ a) := by omega
      simp [h1, this]
    · have g0 : 0 ≤ a := by omega
      rw [tmod16 g0]
      by_cases h2 : a ≥ (s.size : Int)
      · have : ¬ (a ≤ (s.size : Int) - 16) := by omega
        simp [h1, h2, this]
      · by_cases h3 : a % 16 = 0
        · have : a ≤ (s.size : Int) - 16 := by omega
          simp [h1, h2, h3, this, g0]
        · have : (a % 16 != 0) = true := by simpa using h3
          simp [h1, h2, h3, this]

theorem div16 (q : Nat) (h : q ≤ 1000000) : IntKind.i64.wrap (Int.tdiv ((16 * q : Nat) : Int) 16) = (q : Int) := by rw [Int.tdiv_eq_ediv_of_nonneg (by omega), w64] <;> omega

theorem load_eq {n : Nat} (hn : 7 ≤ n) (s : ByteArray) (ts : List Bool) (hs : s.size ≤ 1072) {r : Int × Int} (hr : tagged_CheckStorage.F n s (Bl ts) = some r)
    (h0 : r.2 = 0 → s.size = 16 * ts.length ∧ ts.length ≤ 64 ∧ ∀ j, (hj : j < ts.length) → ts[j] = true → ∃ p, midrangeref03_In.F n (s.extract (16 * j) (16 * j + 16)) = some p ∧ p.2.2.2.2 = 0) (a : Int) :
    ∃ p, tagged_LoadPointer.F n s (Bl ts) a = some (bif r.2 != 0 then (0, 0, 0, 0, r.2) else bif isQ s a then p else (0, 0, 0, 0, 3)) ∧ (r.2 = 0 → isQ s a = true → midrangeref03_Load.F n s (Bl ts) a = some p) := by
  unfold tagged_LoadPointer.F tagged_LoadPointer.e
  rw [place_eq (by omega) s ts hr (fun h => ⟨(h0 h).1, (h0 h).2.1⟩)]
  simp only [Option.bind_some]
  cases hc : r.2 != 0 with
  | true =>
    have hne : r.2 ≠ 0 := by simpa using hc
    exact ⟨(0, 0, 0, 0, 0), by simp only [cond_true, hc], fun h => absurd h hne⟩
  | false =>
    obtain ⟨g1, g2, g3⟩ := h0 (by simpa using hc)
    cases hq : isQ s a with
    | false => exact ⟨(0, 0, 0, 0, 0), rfl, fun _ h => by cases h⟩
    | true =>
      obtain ⟨q, rfl, hq2⟩ := isQ_of hq
      have hql : q < ts.length := by omega
      have e1 : IntKind.i64.wrap (((16 * q : Nat) : Int) + 16) = ((16 * q + 16 : Nat) : Int) := by rw [w64] <;> omega
      unfold midrangeref03_Load.F midrangeref03_Load.e
      rw [isQuad_eq n s _ _ (by omega), hq]
      simp only [cond_false, cond_true, bne_self_eq_false, div16 q (by omega), Option.bind_some, Bool.not_true, e1, bl_length]
      rw [within_t hql, cond_true, Int.toNat_natCast, bl_get hql]
      simp only [AV.cells, withCons, withBool]
      cases hb : ts[q] with
      | false => exact ⟨(0, 0, 0, 0, 22), rfl, fun _ _ => rfl⟩
      | true =>
        rw [upto_t (by omega), upto_t2 (by omega), quad_eq n s _ q hq2 (by omega)]
        obtain ⟨p, p1, p2⟩ := g3 q hql hb
        obtain ⟨p', p1', p2'⟩ := pointerIn_eq hn (s.extract (16 * q) (16 * q + 16))
        rw [p1] at p2'
        cases p2'
        simp only [Bool.not_true, cond_false, cond_true, Int.toNat_natCast, Option.bind_some, p1, p1']
        exact ⟨_, rfl, fun _ _ => by rw [p2]⟩

theorem store_eq {n : Nat} (hn : 1000002 ≤ n) (s : ByteArray) (ts : List Bool) (hs : s.size ≤ 1072) {r : Int × Int} (hr : tagged_CheckStorage.F n s (Bl ts) = some r)
    (h0 : r.2 = 0 → s.size = 16 * ts.length ∧ ts.length ≤ 64) (a a0 a1 a2 a3 : Int) :
    ∃ c p us, midrangeref03_PointerErr.F n a0 a1 a2 a3 = some c ∧ us.length ≤ 64 ∧
      tagged_StorePointer.F n s (Bl ts) a a0 a1 a2 a3 = some (bif r.2 != 0 then (⟨#[]⟩, [], r.2) else bif isQ s a then (bif c != 0 then (⟨#[]⟩, [], c) else (p, Bl us, 0)) else (⟨#[]⟩, [], 3)) ∧
      (r.2 = 0 → isQ s a = true → c = 0 → midrangeref03_Store.F n s (Bl ts) a a0 a1 a2 a3 = some (p, Bl us) ∧
        p = patch s ⟨(bytesOf a0 a1 a2 a3).toArray⟩ a.toNat ∧ us = (clr ts a.toNat 16).set (a.toNat / 16) true) := by
  unfold tagged_StorePointer.F tagged_StorePointer.e
  obtain ⟨c, c1, c2, _, c4⟩ := pointerBytes_eq hn a0 a1 a2 a3
  rw [place_eq (by omega) s ts hr h0, c1, encoded_eq hn]
  simp only [Option.bind_some]
  cases hc : r.2 != 0 with
  | true =>
    have hne : r.2 ≠ 0 := by simpa using hc
    exact ⟨c, ⟨#[]⟩, [], c2, by simp, by simp only [cond_true, hc], fun h => absurd h hne⟩
  | false =>
    obtain ⟨g1, g2⟩ := h0 (by simpa using hc)
    cases hq : isQ s a with
    | false => exact ⟨c, ⟨#[]⟩, [], c2, by simp, rfl, fun _ h => by cases h⟩
    | true =>
      obtain ⟨q, rfl, hq2⟩ := isQ_of hq
      have hql : q < ts.length := by omega
      cases hcc : c != 0 with
      | true =>
        have hne : c ≠ 0 := by simpa using hcc
        exact ⟨c, ⟨#[]⟩, [], c2, by simp, by simp only [cond_true, cond_false, bne_self_eq_false, hcc], fun _ _ h => absurd h hne⟩
      | false =>
        have hc0 : c = 0 := by simpa using hcc
        have hsz : (⟨(bytesOf a0 a1 a2 a3).toArray⟩ : ByteArray).size = 16 := by rw [bytes_size, bytesOf_length]
        have hp := put_eq n s ⟨(bytesOf a0 a1 a2 a3).toArray⟩ ts (16 * q) (by rw [hsz]; omega) g1 (by omega)
        have hw := write_eq (n := n) s ⟨(bytesOf a0 a1 a2 a3).toArray⟩ ts (16 * q) (by rw [hsz]; omega) g1 (by omega) (by rw [hsz]; omega)
        rw [hsz] at hp hw
        have hql2 : q < (clr ts (16 * q) 16).length := by rw [clr_length]; exact hql
        refine ⟨c, patch s ⟨(bytesOf a0 a1 a2 a3).toArray⟩ (16 * q), (clr ts (16 * q) 16).set q true, c2, by rw [List.length_set, clr_length]; exact g2, ?_, fun _ _ _ => ⟨?_, by rw [Int.toNat_natCast], by rw [Int.toNat_natCast, Nat.mul_div_cancel_left _ (by omega)]⟩⟩
        · simp only [cond_true, cond_false, bne_self_eq_false, hcc]
          rw [hp]
          simp only [Option.bind_some, div16 q (by omega), bl_length]
          rw [within_t hql2, cond_true, Int.toNat_natCast, bl_set]
        · unfold midrangeref03_Store.F midrangeref03_Store.e
          rw [c4 hc0]
          simp only [Option.bind_some]
          rw [hw]
          simp only [Option.bind_some, div16 q (by omega), bl_length]
          rw [within_t hql2, cond_true, Int.toNat_natCast, bl_set]

/-- P3.4. -/
theorem loads_law {n : Nat} (hn : 1000002 ≤ n) (s : ByteArray) (ts : List Bool) (a a0 a1 a2 a3 : Int) : midrangelaw03_TaggedLoads.F n s (Bl ts) a a0 a1 a2 a3 = some true := by
  unfold midrangelaw03_TaggedLoads.F midrangelaw03_TaggedLoads.e
  rw [awake_eq hn, few_eq]
  simp only [Option.bind_some, Bool.not_true, cond_false]
  cases hf : (decide (s.size ≤ 1072) && decide (ts.length ≤ 67)) with
  | false => rfl
  | true =>
    simp only [Bool.and_eq_true, decide_eq_true_eq] at hf
    obtain ⟨hs, hl⟩ := hf
    obtain ⟨r, r1, r2, r3⟩ := checkS_eq (n := n) (by omega) s ts hs
    obtain ⟨p, p1, p2⟩ := load_eq (n := n) (by omega) s ts hs r1 (fun h => ⟨(r3 h).1, (r3 h).2.1, (r3 h).2.2.2⟩) a
    obtain ⟨c, b, us, c1, c2, c3, c4⟩ := store_eq hn s ts hs r1 (fun h => ⟨(r3 h).1, (r3 h).2.1⟩) a a0 a1 a2 a3
    rw [own_eq n s ts (by omega)]
    simp only [Option.bind_some, Bool.not_true, cond_false]
    rw [p1, c3, err_eq r2, isQuad_eq n s _ a (by omega)]
    simp only [Option.bind_some]
    obtain ⟨m, hm⟩ : ∃ m, n = m + 1 := ⟨n - 1, by omega⟩
    have hl1 : ∀ z1 z2 z3 z4 z5 z6 z7 z8 z9 z10 z11 z12 z13 z14 z15 z16, midrangelaw03_TaggedLoads.l n n z1 z2 z3 z4 z5 z6 z7 z8 z9 z10 z11 z12 z13 z14 z15 z16 = midrangelaw03_TaggedLoads.r10 n (midrangelaw03_TaggedLoads.l n m) Option.some z1 z2 z3 z4 z5 z6 z7 z8 z9 z10 z11 z12 z13 z14 z15 z16 := by
      intros
      conv => lhs; arg 2; rw [hm]
      rfl
    simp only [hl1]
    cases hc : r.2 != 0 with
    | true =>
      have hne : (r.2 == 0) = false := by simpa using hc
      unfold midrangelaw03_TaggedLoads.r10
      simp only [hne, cond_false, cond_true, hc, BEq.rfl, Bool.true_and, none_eq, Option.bind_some]
    | false =>
      have h0 : r.2 = 0 := by simpa using hc
      have heq : (r.2 == 0) = true := by simpa using h0
      simp only [heq, cond_true, cond_false]
      cases hq : isQ s a with
      | false =>
        unfold midrangelaw03_TaggedLoads.r10
        simp only [Bool.not_false, cond_true, cond_false, BEq.rfl, Bool.true_and, none_eq, Option.bind_some, show ((3 : Int) != 0) = true from rfl]
      | true =>
        unfold midrangelaw03_TaggedLoads.r10
        simp only [Bool.not_true, cond_false, cond_true]
        rw [hc, p2 h0 hq, c1]
        simp only [cond_false, Option.bind_some, bne_self_eq_false, BEq.rfl, Bool.true_and, Bool.not_true]
        cases hcc : c != 0 with
        | true => simp only [cond_true, BEq.rfl, none_eq, Option.bind_some]
        | false =>
          rw [(c4 h0 hq (by simpa using hcc)).1]
          simp only [cond_false, cond_true, BEq.rfl, Option.bind_some]
          rw [same_eq _ _ (by omega) (by omega)]
          rfl
end Go.Proofs.Ytgmpnhfnkhohiaa.Ev

/- Copies: what chapter 3's program and its reference compute is the same. -/
namespace Go.Proofs.Ytgmpnhfnkhohiaa.Ev
open Go Go.Proofs Go.Proofs.Ev
set_option linter.unusedVariables false

/-- Tags after a copy with tags, as far as the quadword 'i'. -/
def mix (ts : List Bool) (f t k i : Nat) : List Bool := (List.range ts.length).map fun j => if t ≤ 16 * j ∧ 16 * j + 16 ≤ t + k ∧ j < i then ts.getD ((16 * j - t + f) / 16) false else (clr ts t k).getD j false
theorem mix_length (ts : List Bool) (f t k i : Nat) : (mix ts f t k i).length = ts.length := by simp [mix]
theorem mix_first (ts : List Bool) (f t k i : Nat) (h : ∀ j, t ≤ 16 * j → 16 * j + 16 ≤ t + k → i ≤ j) : mix ts f t k i = clr ts t k := by
  apply List.ext_getElem
  · simp [mix, clr]
  · intro j h1 h2
    rw [mix_length] at h1
    simp only [mix, List.getElem_map, List.getElem_range]
    rw [if_neg (by intro ⟨c1, c2, c3⟩; have := h j c1 c2; omega), List.getD_eq_getElem?_getD, List.getElem?_eq_getElem h2]
    rfl
theorem mix_set {ts : List Bool} {f t k i : Nat} (hi : i < ts.length) (h1 : t ≤ 16 * i) (h2 : 16 * i + 16 ≤ t + k) : (mix ts f t k i).set i (ts.getD ((16 * i - t + f) / 16) false) = mix ts f t k (i + 1) := by
  apply List.ext_getElem
  · simp [mix]
  · intro j h3 h4
    rw [List.getElem_set]
    simp only [mix, List.getElem_map, List.getElem_range]
    by_cases e : i = j
    · subst e; rw [if_pos rfl, if_pos (by omega)]
    · rw [if_neg e]
      by_cases c : t ≤ 16 * j ∧ 16 * j + 16 ≤ t + k ∧ j < i
      · rw [if_pos c, if_pos (by omega)]
      · rw [if_neg c, if_neg (by omega)]
theorem mix_skip {ts : List Bool} {f t k i i' : Nat} (h : ∀ j, j < ts.length → t ≤ 16 * j → 16 * j + 16 ≤ t + k → (j < i ↔ j < i')) : mix ts f t k i = mix ts f t k i' := by
  refine List.map_congr_left fun j hj => ?_
  have hj := List.mem_range.1 hj
  by_cases c : t ≤ 16 * j ∧ 16 * j + 16 ≤ t + k
  · have := h j hj c.1 c.2
    by_cases c2 : j < i
    · rw [if_pos ⟨c.1, c.2, c2⟩, if_pos ⟨c.1, c.2, this.1 c2⟩]
    · rw [if_neg (fun x => c2 x.2.2), if_neg (fun x => c2 (this.2 x.2.2))]
  · rw [if_neg (fun x => c ⟨x.1, x.2.1⟩), if_neg (fun x => c ⟨x.1, x.2.1⟩)]

theorem ranges_eq {n : Nat} (hn : 1 ≤ n) (s : ByteArray) (t : List AV) (hs : s.size ≤ 1000000) {r : Int × Int} (hr : tagged_CheckStorage.F n s t = some r) (a b k : Int) :
    tagged_ranges.F n s t a b k = some (bif r.2 != 0 then r.2 else bif inR s a k then bif inR s b k then 0 else 3 else 3) := by
  unfold tagged_ranges.F tagged_ranges.e
  rw [inside_eq hn s t hs hr, inside_eq hn s t hs hr]
  simp only [Option.bind_some]
  cases hc : r.2 != 0 with
  | true => simp only [cond_true, hc]
  | false =>
    cases inR s a k with
    | false => rfl
    | true => rfl

theorem copyErr_eq (n : Nat) (s : ByteArray) (t : List AV) (hs : s.size ≤ 1000000) (a b k : Int) (g : Bool) :
    midrangeref03_CopyErr.F n s t a b k g = some (bif inR s a k then bif inR s b k then bif g then bif Int.tmod a 16 != Int.tmod b 16 then 15 else 0 else 0 else 3 else 3) := by
  unfold midrangeref03_CopyErr.F midrangeref03_CopyErr.e
  rw [isRange_eq n s t a k hs, isRange_eq n s t b k hs]
  simp only [Option.bind_some]
  cases inR s a k <;> cases inR s b k <;> cases g <;> cases Int.tmod a 16 != Int.tmod b 16 <;> rfl

theorem cut_size {s : ByteArray} {f k : Nat} (h : f + k ≤ s.size) : (s.extract f (f + k)).size = k := by rw [extract_size _ _ _ h]; omega

theorem copyBytes_eq {n : Nat} (hn : 1 ≤ n) (s : ByteArray) (ts : List Bool) (hs : s.size ≤ 1072) {r : Int × Int} (hr : tagged_CheckStorage.F n s (Bl ts) = some r)
    (h0 : r.2 = 0 → s.size = 16 * ts.length ∧ ts.length ≤ 64) (a b k : Int) :
    tagged_CopyBytes.F n s (Bl ts) a b k = some (bif r.2 != 0 then (⟨#[]⟩, [], r.2) else bif inR s a k then bif inR s b k then (patch s (s.extract a.toNat (a.toNat + k.toNat)) b.toNat, Bl (clr ts b.toNat k.toNat), 0) else (⟨#[]⟩, [], 3) else (⟨#[]⟩, [], 3)) := by
  unfold tagged_CopyBytes.F tagged_CopyBytes.e
  rw [ranges_eq hn s _ (by omega) hr]
  simp only [Option.bind_some]
  cases hc : r.2 != 0 with
  | true => simp only [cond_true, hc]
  | false =>
    obtain ⟨g1, g2⟩ := h0 (by simpa using hc)
    cases ha : inR s a k with
    | false => rfl
    | true =>
      cases hb : inR s b k with
      | false => rfl
      | true =>
        obtain ⟨f, c, rfl, rfl, hfc⟩ := inR_of ha
        obtain ⟨t, c', rfl, hcc, htc⟩ := inR_of hb
        have hcc : c = c' := by omega
        subst hcc
        have e : IntKind.i64.wrap ((f : Int) + (c : Int)) = ((f + c : Nat) : Int) := by rw [w64] <;> omega
        simp only [cond_true, cond_false, bne_self_eq_false, e]
        rw [upto_t hfc, upto_t2 (by omega)]
        simp only [cond_true, Int.toNat_natCast]
        rw [put_eq n s _ ts t (by rw [cut_size hfc]; exact htc) g1 (by omega), cut_size hfc]
        rfl

theorem cwt_l (n : Nat) (s p q : ByteArray) (ts : List Bool) (f t k : Nat) (hl : ts.length ≤ 64) (hfk : f + k ≤ 16 * ts.length) (htk : t + k ≤ 16 * ts.length) (hft : f % 16 = t % 16) : ∀ (d i m : Nat), i + d = ts.length + 1 → d < m → t ≤ 16 * i →
    tagged_CopyWithTags.l n m i s (Bl ts) f t k q p (Bl (mix ts f t k i)) = some (p, Bl (mix ts f t k ts.length), 0)
  | _, _, 0, _, h, _ => absurd h (by omega)
  | d, i, m + 1, h, hm, hti => by
    unfold tagged_CopyWithTags.l tagged_CopyWithTags.r8
    have e1 : IntKind.i64.wrap ((IntKind.i64.wrap ((i : Int) + 1)) * 16) = ((16 * i + 16 : Nat) : Int) := by rw [wsucc (by omega), w64] <;> omega
    have e2 : IntKind.i64.wrap ((t : Int) + (k : Int)) = ((t + k : Nat) : Int) := by rw [w64] <;> omega
    simp only [e1, e2]
    by_cases hc : 16 * i + 16 ≤ t + k
    · obtain ⟨d', rfl⟩ : ∃ d', d = d' + 1 := ⟨d - 1, by omega⟩
      have hil : i < ts.length := by omega
      have e3 : IntKind.i64.wrap ((f : Int) - (t : Int)) = (f : Int) - t := by rw [w64] <;> omega
      obtain ⟨z, hz⟩ : ∃ z : Int, (f : Int) - t = 16 * z := ⟨((f : Int) - t) / 16, by omega⟩
      have e4 : IntKind.i64.wrap (Int.tdiv ((f : Int) - t) 16) = z := by
        rw [hz, Int.mul_tdiv_cancel_left _ (by omega), w64] <;> omega
      have hj : (16 * i - t + f) / 16 < ts.length := by omega
      have e5 : IntKind.i64.wrap ((i : Int) + z) = (((16 * i - t + f) / 16 : Nat) : Int) := by rw [w64] <;> omega
      have e6 : ts.getD ((16 * i - t + f) / 16) false = ts[(16 * i - t + f) / 16] := by simp [List.getD_eq_getElem?_getD, hj]
      rw [cond_t (by omega), e3, e4, e5, bl_length, bl_length, within_t hj, mix_length, within_t hil]
      simp only [cond_true, Int.toNat_natCast]
      rw [bl_get hj]
      simp only [AV.cells, withCons, withBool]
      rw [bl_set, ← e6, mix_set hil hti hc, wsucc (by omega)]
      exact cwt_l n s p q ts f t k hl hfk htk hft d' (i + 1) m (by omega) (by omega) (by omega)
    · rw [cond_f (by omega), mix_skip (i' := ts.length) (fun j hj c1 c2 => by omega)]

theorem copyWithTags_eq {n : Nat} (hn : 100 ≤ n) (s : ByteArray) (ts : List Bool) (hs : s.size ≤ 1072) {r : Int × Int} (hr : tagged_CheckStorage.F n s (Bl ts) = some r)
    (h0 : r.2 = 0 → s.size = 16 * ts.length ∧ ts.length ≤ 64) (a b k : Int) :
    tagged_CopyWithTags.F n s (Bl ts) a b k = some (bif r.2 != 0 then (⟨#[]⟩, [], r.2) else bif inR s a k then bif inR s b k then bif Int.tmod a 16 != Int.tmod b 16 then (⟨#[]⟩, [], 15) else
      (patch s (s.extract a.toNat (a.toNat + k.toNat)) b.toNat, Bl (mix ts a.toNat b.toNat k.toNat ts.length), 0) else (⟨#[]⟩, [], 3) else (⟨#[]⟩, [], 3)) := by
  unfold tagged_CopyWithTags.F tagged_CopyWithTags.e
  rw [ranges_eq (by omega) s _ (by omega) hr]
  simp only [Option.bind_some]
  cases hc : r.2 != 0 with
  | true => simp only [cond_true, hc]
  | false =>
    obtain ⟨g1, g2⟩ := h0 (by simpa using hc)
    cases ha : inR s a k with
    | false => rfl
    | true =>
      cases hb : inR s b k with
      | false => rfl
      | true =>
        obtain ⟨f, c, rfl, rfl, hfc⟩ := inR_of ha
        obtain ⟨t, c', rfl, hcc, htc⟩ := inR_of hb
        have hcc : c = c' := by omega
        subst hcc
        cases hg : Int.tmod (f : Int) 16 != Int.tmod (t : Int) 16 with
        | true => rfl
        | false =>
          have hft : f % 16 = t % 16 := by
            have : Int.tmod (f : Int) 16 = Int.tmod (t : Int) 16 := by simpa using hg
            rw [tmod16 (by omega), tmod16 (by omega)] at this
            omega
          have e : IntKind.i64.wrap ((f : Int) + (c : Int)) = ((f + c : Nat) : Int) := by rw [w64] <;> omega
          have e2 : IntKind.i64.wrap ((IntKind.i64.wrap ((t : Int) + 16)) - 1) = ((t + 15 : Nat) : Int) := by rw [w64 (x := (t : Int) + 16) (by omega) (by omega), w64] <;> omega
          have e3 : IntKind.i64.wrap (Int.tdiv ((t + 15 : Nat) : Int) 16) = (((t + 15) / 16 : Nat) : Int) := by rw [Int.tdiv_eq_ediv_of_nonneg (by omega), w64] <;> omega
          simp only [cond_true, cond_false, bne_self_eq_false, e, e2, e3]
          rw [upto_t hfc, upto_t2 (by omega)]
          simp only [cond_true, Int.toNat_natCast]
          rw [put_eq n s _ ts t (by rw [cut_size hfc]; exact htc) g1 (by omega), cut_size hfc]
          simp only [Option.bind_some]
          rw [← mix_first ts f t c ((t + 15) / 16) (fun j c1 c2 => by omega)]
          by_cases hle : (t + 15) / 16 ≤ ts.length + 1
          · exact cwt_l n s _ _ ts f t c g2 (by omega) (by omega) hft (ts.length + 1 - (t + 15) / 16) _ n (by omega) (by omega) (by omega)
          · omega

theorem copyF_eq {n : Nat} (hn : 2000 ≤ n) (s : ByteArray) (ts : List Bool) (g1 : s.size = 16 * ts.length) (g2 : ts.length ≤ 64) (f t k : Nat) (hf : f + k ≤ s.size) (ht : t + k ≤ s.size) :
    midrangeref03_Copy.F n s (Bl ts) f t k false = some (patch s (s.extract f (f + k)) t, Bl (clr ts t k)) := by
  unfold midrangeref03_Copy.F midrangeref03_Copy.e
  have e : IntKind.i64.wrap ((f : Int) + (k : Int)) = ((f + k : Nat) : Int) := by rw [w64] <;> omega
  simp only [e]
  rw [upto_t hf, upto_t2 (by omega)]
  simp only [cond_true, Int.toNat_natCast]
  rw [write_eq (n := n) s _ ts t (by rw [cut_size hf]; exact ht) g1 (by omega) (by rw [cut_size hf]; omega), cut_size hf]
  simp only [Option.bind_some]
  obtain ⟨m, rfl⟩ : ∃ m, n = m + 1 := ⟨n - 1, by omega⟩
  simp only [midrangeref03_Copy.l, midrangeref03_Copy.r3, cond_false]
  cases decide ((0 : Int) < (((Bl ts).length : Nat) : Int)) <;> rfl

theorem copyT_l (n : Nat) (s p q : ByteArray) (ts : List Bool) (f t k : Nat) (hl : ts.length ≤ 64) (hfk : f + k ≤ 16 * ts.length) (htk : t + k ≤ 16 * ts.length) : ∀ (d i m : Nat), i + d = ts.length → 2 * d < m →
    (midrangeref03_Copy.l n m).1 true i s (Bl ts) f t k q p (Bl (mix ts f t k i)) = some (p, Bl (mix ts f t k ts.length))
  | _, _, 0, _, h => absurd h (by omega)
  | 0, i, m + 1, h, _ => by
    have : i = ts.length := by omega
    subst this
    simp only [midrangeref03_Copy.l, midrangeref03_Copy.r3, bl_length]
    rw [cond_f (by omega)]
  | d + 1, i, 1, h, hm => absurd hm (by omega)
  | d + 1, i, m + 2, h, hm => by
    have hil : i < ts.length := by omega
    have ih := copyT_l n s p q ts f t k hl hfk htk d (i + 1) m (by omega) (by omega)
    have skip : ∀ z, (midrangeref03_Copy.l n (m + 1)).2 true i s (Bl ts) f t k q p z = (midrangeref03_Copy.l n m).1 true ((i + 1 : Nat) : Int) s (Bl ts) f t k q p z := by
      intro z
      simp only [midrangeref03_Copy.l, midrangeref03_Copy.r4]
      rw [wsucc (by omega)]
    rw [show (midrangeref03_Copy.l n (m + 2)).1 = midrangeref03_Copy.r3 n (midrangeref03_Copy.l n (m + 1)).1 (midrangeref03_Copy.l n (m + 1)).2 Option.some from rfl]
    unfold midrangeref03_Copy.r3
    simp only [skip, bl_length, cond_true]
    have e1 : IntKind.i64.wrap ((i : Int) * 16) = ((16 * i : Nat) : Int) := by rw [w64] <;> omega
    have e2 : IntKind.i64.wrap (((16 * i : Nat) : Int) + 16) = ((16 * i + 16 : Nat) : Int) := by rw [w64] <;> omega
    have e3 : IntKind.i64.wrap ((t : Int) + (k : Int)) = ((t + k : Nat) : Int) := by rw [w64] <;> omega
    rw [cond_t (by omega)]
    simp only [e1, e2, e3]
    by_cases c1 : t ≤ 16 * i
    · rw [cond_t (by omega)]
      by_cases c2 : 16 * i + 16 ≤ t + k
      · have hj : (16 * i - t + f) / 16 < ts.length := by omega
        have e4 : IntKind.i64.wrap (((16 * i : Nat) : Int) - (t : Int)) = ((16 * i - t : Nat) : Int) := by rw [w64] <;> omega
        have e5 : IntKind.i64.wrap (((16 * i - t : Nat) : Int) + (f : Int)) = ((16 * i - t + f : Nat) : Int) := by rw [w64] <;> omega
        have e6 : IntKind.i64.wrap (Int.tdiv ((16 * i - t + f : Nat) : Int) 16) = (((16 * i - t + f) / 16 : Nat) : Int) := by rw [Int.tdiv_eq_ediv_of_nonneg (by omega), w64] <;> omega
        have e7 : ts.getD ((16 * i - t + f) / 16) false = ts[(16 * i - t + f) / 16] := by simp [List.getD_eq_getElem?_getD, hj]
        rw [cond_t (by omega)]
        simp only [e4, e5, e6]
        rw [within_t hj, mix_length, within_t hil]
        simp only [cond_true, Int.toNat_natCast]
        rw [bl_get hj]
        simp only [AV.cells, withCons, withBool]
        rw [bl_set, ← e7, mix_set hil c1 c2]
        exact ih
      · rw [cond_f (by omega), mix_skip (i' := i + 1) (fun j hj d1 d2 => by omega)]
        exact ih
    · rw [cond_f (by omega), mix_skip (i' := i + 1) (fun j hj d1 d2 => by omega)]
      exact ih

theorem copyT_eq {n : Nat} (hn : 2000 ≤ n) (s : ByteArray) (ts : List Bool) (g1 : s.size = 16 * ts.length) (g2 : ts.length ≤ 64) (f t k : Nat) (hf : f + k ≤ s.size) (ht : t + k ≤ s.size) :
    midrangeref03_Copy.F n s (Bl ts) f t k true = some (patch s (s.extract f (f + k)) t, Bl (mix ts f t k ts.length)) := by
  unfold midrangeref03_Copy.F midrangeref03_Copy.e
  have e : IntKind.i64.wrap ((f : Int) + (k : Int)) = ((f + k : Nat) : Int) := by rw [w64] <;> omega
  simp only [e]
  rw [upto_t hf, upto_t2 (by omega)]
  simp only [cond_true, Int.toNat_natCast]
  rw [write_eq (n := n) s _ ts t (by rw [cut_size hf]; exact ht) g1 (by omega) (by rw [cut_size hf]; omega), cut_size hf]
  simp only [Option.bind_some]
  rw [← mix_first ts f t k 0 (fun j _ _ => by omega)]
  exact copyT_l n s _ _ ts f t k g2 (by omega) (by omega) ts.length 0 n (by omega) (by omega)

/-- P3.5. -/
theorem copies_law {n : Nat} (hn : 1000002 ≤ n) (s : ByteArray) (ts : List Bool) (a b k : Int) : midrangelaw03_TaggedCopies.F n s (Bl ts) a b k = some true := by
  unfold midrangelaw03_TaggedCopies.F midrangelaw03_TaggedCopies.e
  rw [awake_eq hn, few_eq]
  simp only [Option.bind_some, Bool.not_true, cond_false]
  cases hf : (decide (s.size ≤ 1072) && decide (ts.length ≤ 67)) with
  | false => rfl
  | true =>
    simp only [Bool.and_eq_true, decide_eq_true_eq] at hf
    obtain ⟨hs, hl⟩ := hf
    obtain ⟨r, r1, r2, r3⟩ := checkS_eq (n := n) (by omega) s ts hs
    have r4 : r.2 = 0 → s.size = 16 * ts.length ∧ ts.length ≤ 64 := fun h => ⟨(r3 h).1, (r3 h).2.1⟩
    rw [own_eq n s ts (by omega)]
    simp only [Option.bind_some, Bool.not_true, cond_false]
    rw [copyBytes_eq (by omega) s ts hs r1 r4, copyWithTags_eq (by omega) s ts hs r1 r4, err_eq r2, copyErr_eq n s _ (by omega), copyErr_eq n s _ (by omega)]
    simp only [Option.bind_some]
    cases hc : r.2 != 0 with
    | true => simp only [cond_true, BEq.rfl, none_eq, Option.bind_some]
    | false =>
      obtain ⟨g1, g2⟩ := r4 (by simpa using hc)
      have t3 : ((3 : Int) != 0) = true := rfl
      cases ha : inR s a k with
      | false => simp only [cond_true, cond_false, t3, BEq.rfl, none_eq, Option.bind_some]
      | true =>
        cases hb : inR s b k with
        | false => simp only [cond_true, cond_false, t3, BEq.rfl, none_eq, Option.bind_some]
        | true =>
          obtain ⟨f, c, rfl, rfl, hfc⟩ := inR_of ha
          obtain ⟨t, c', rfl, hcc, htc⟩ := inR_of hb
          have hcc : c = c' := by omega
          subst hcc
          simp only [cond_true, cond_false, bne_self_eq_false, Int.toNat_natCast]
          rw [copyF_eq (by omega) s ts g1 g2 f t c hfc htc, copyT_eq (by omega) s ts g1 g2 f t c hfc htc]
          simp only [Option.bind_some]
          rw [same_eq _ _ (by rw [clr_length]; omega) (by rw [clr_length]; omega)]
          simp only [Option.bind_some, Bool.not_true, cond_false]
          cases Int.tmod (f : Int) 16 != Int.tmod (t : Int) 16 with
          | true => rfl
          | false =>
            simp only [cond_false, bne_self_eq_false, BEq.rfl, cond_true]
            rw [same_eq _ _ (by rw [mix_length]; omega) (by rw [mix_length]; omega)]
            rfl
end Go.Proofs.Ytgmpnhfnkhohiaa.Ev

/- midrange/midrangelaw03.kept, out of its evaluation. Printed by the session's own program. -/
namespace Go.Proofs.Ytgmpnhfnkhohiaa.Ev
open Go Go.Proofs Go.Proofs.Ev
set_option linter.unusedVariables false
set_option maxRecDepth 100000
/-! midrange/midrangelaw03.kept: function 35 -/
noncomputable def midrangelaw03_kept.r2 {R : Type} (n : Nat) (c2 : Unit → Option R) (c4 : Int → ByteArray → List AV → ByteArray → List AV → Option R) (k : Bool → Option R) (_ : Unit) : Option R :=
  k false
noncomputable def midrangelaw03_kept.r4 {R : Type} (n : Nat) (c2 : Unit → Option R) (c4 : Int → ByteArray → List AV → ByteArray → List AV → Option R) (k : Bool → Option R) (z1 : Int) (z2 : ByteArray) (z3 : List AV) (z4 : ByteArray) (z5 : List AV) : Option R :=
  let y5 : Bool := decide (z1 < ((z3.length : Nat) : Int))
  bif y5 then (bif decide ((0 : Int) ≤ z1) && decide (z1 < ((z3.length : Nat) : Int)) then (withCons ((z3.getD ((z1).toNat) .undef).cells) fun c6 r7 =>
  withBool c6 fun b8 =>
  bif b8 then (bif decide ((0 : Int) ≤ z1) && decide (z1 < ((z5.length : Nat) : Int)) then (withCons ((z5.getD ((z1).toNat) .undef).cells) fun c9 r10 =>
  withBool c9 fun b11 =>
  bif !b11 then (k false) else (let y12 : Int := IntKind.i64.wrap ((IntKind.i64.wrap (z1 * 16)) + 16)
  bif decide ((0 : Int) ≤ y12) && decide ((y12 : Int) ≤ ((z2.size : Nat) : Int)) then (bif decide ((0 : Int) ≤ IntKind.i64.wrap (z1 * 16)) && decide ((IntKind.i64.wrap (z1 * 16) : Int) ≤ y12) then (let y13 : ByteArray := z2.extract (IntKind.i64.wrap (z1 * 16)).toNat (y12).toNat
  let y14 : Int := IntKind.i64.wrap ((IntKind.i64.wrap (z1 * 16)) + 16)
  bif decide ((0 : Int) ≤ y14) && decide ((y14 : Int) ≤ ((z4.size : Nat) : Int)) then (bif decide ((0 : Int) ≤ IntKind.i64.wrap (z1 * 16)) && decide ((IntKind.i64.wrap (z1 * 16) : Int) ≤ y14) then (let y15 : ByteArray := z4.extract (IntKind.i64.wrap (z1 * 16)).toNat (y14).toNat
  bif !(y13.toList == y15.toList) then (k false) else (c4 (IntKind.i64.wrap (z1 + 1)) z2 z3 z4 z5)) else none) else none) else none) else none)) else none) else (c4 (IntKind.i64.wrap (z1 + 1)) z2 z3 z4 z5)) else none) else (k true)
noncomputable def midrangelaw03_kept.e {R : Type} (n : Nat) (c2 : Unit → Option R) (c4 : Int → ByteArray → List AV → ByteArray → List AV → Option R) (k : Bool → Option R) (a0 : ByteArray) (a1 : List AV) (a2 : ByteArray) (a3 : List AV) : Option R :=
  let y1 : Bool := ((a0.size : Nat) : Int) != ((a2.size : Nat) : Int)
  bif y1 then (c2 ()) else (let y2 : Bool := ((a1.length : Nat) : Int) != ((a3.length : Nat) : Int)
  bif y2 then (c2 ()) else (let y3 : Int := IntKind.i64.wrap (((a1.length : Nat) : Int) * 16)
  let y4 : Bool := ((a0.size : Nat) : Int) != y3
  bif y4 then (c2 ()) else (c4 0 a0 a1 a2 a3)))
noncomputable def midrangelaw03_kept.C {R : Type} (n : Nat) (f : FuncId) (xs : List AV) : (AV → Option R) → Option R :=
  fun _ => none
theorem midrangelaw03_kept.tells {R : Type} (n : Nat) : Tells (R := R) Try.prog (midrangelaw03_kept.C n) := fun _ xs => Tells1.none
noncomputable def midrangelaw03_kept.cut (r : Nat) : Option Keep := match r with | 2 => Option.some ⟨[], []⟩ | 4 => Option.some ⟨[2, 3, 5], []⟩ | _ => none
noncomputable def midrangelaw03_kept.t2 : List Item := (todoOf 2 1000 [.code (Try.f35.body.getD .skip)]).getD []
noncomputable def midrangelaw03_kept.s2 (_ : Unit) : St := ⟨[.undef, .undef, .undef, .undef, .undef, .undef, .undef, .undef, .undef, .undef, .undef, .undef, .undef, .undef, .undef, .undef, .undef, .undef, .undef, .undef, .undef, .undef, .undef, .undef, .undef, .undef, .undef, .undef, .undef, .undef, .undef, .undef, .undef, .undef, .undef, .undef, .undef, .undef, .undef, .undef, .undef, .undef, .undef, .undef, .undef, .undef, .undef, .undef, .undef, .undef, .undef, .undef, .undef, .undef, .undef, .undef, .undef, .undef, .undef, .undef, .undef, .undef, .undef, .undef, .undef, .undef, .undef, .undef, .undef, .undef], Mem.ofList [], 0⟩
noncomputable def midrangelaw03_kept.t4 : List Item := (todoOf 4 1000 [.code (Try.f35.body.getD .skip)]).getD []
noncomputable def midrangelaw03_kept.s4 (z1 : Int) (z2 : ByteArray) (z3 : List AV) (z4 : ByteArray) (z5 : List AV) : St := ⟨[.undef, .undef, .ptr 0 0, .ptr 1 0, .undef, vi z1, .undef, .undef, .undef, .undef, .undef, .undef, .undef, .undef, .undef, .undef, .undef, .undef, .undef, .undef, .undef, .undef, .undef, .undef, .undef, .undef, .undef, .undef, .undef, .undef, .undef, .undef, .undef, .undef, .undef, .undef, .undef, .undef, .undef, .undef, .undef, .undef, .undef, .undef, .undef, .undef, .undef, .undef, .undef, .undef, .undef, .undef, .undef, .undef, .undef, .undef, .undef, .undef, .undef, .undef, .undef, .undef, .undef, .undef, .undef, .undef, .undef, .undef, .undef, .undef], Mem.ofList [.box [vs z2, .sl true 1 z3], .box [vs z4, .sl true 1 z5]], 2⟩
theorem midrangelaw03_kept.e_eq {R : Type} (n : Nat) (rec : List Item → St → Option R) (K : AV → Option R) (a0 : ByteArray) (a1 : List AV) (a2 : ByteArray) (a3 : List AV) :
    goK G (midrangelaw03_kept.C n) midrangelaw03_kept.cut (fun S => finK G Try.f35.resultTypes.toList Try.f35.results.toList S K) rec 1000 [.code (Try.f35.body.getD .skip)] (Ev.start Try.f35 [AV.agg [vs a0, .sl true 1 a1], .agg [vs a2, .sl true 1 a3]]) = midrangelaw03_kept.e n (fun _ => rec midrangelaw03_kept.t2 (midrangelaw03_kept.s2 ())) (fun z1 z2 z3 z4 z5 => rec midrangelaw03_kept.t4 (midrangelaw03_kept.s4 z1 z2 z3 z4 z5)) (fun p => K (vb p)) a0 a1 a2 a3 := by kernel_rfl
theorem midrangelaw03_kept.r2_eq {R : Type} (n : Nat) (rec : List Item → St → Option R) (K : AV → Option R) (_ : Unit) :
    atK G (midrangelaw03_kept.C n) midrangelaw03_kept.cut (fun S => finK G Try.f35.resultTypes.toList Try.f35.results.toList S K) rec midrangelaw03_kept.t2 (midrangelaw03_kept.s2 ()) = midrangelaw03_kept.r2 n (fun _ => rec midrangelaw03_kept.t2 (midrangelaw03_kept.s2 ())) (fun z1 z2 z3 z4 z5 => rec midrangelaw03_kept.t4 (midrangelaw03_kept.s4 z1 z2 z3 z4 z5)) (fun p => K (vb p)) () := by kernel_rfl
theorem midrangelaw03_kept.r4_eq {R : Type} (n : Nat) (rec : List Item → St → Option R) (K : AV → Option R) (z1 : Int) (z2 : ByteArray) (z3 : List AV) (z4 : ByteArray) (z5 : List AV) :
    atK G (midrangelaw03_kept.C n) midrangelaw03_kept.cut (fun S => finK G Try.f35.resultTypes.toList Try.f35.results.toList S K) rec midrangelaw03_kept.t4 (midrangelaw03_kept.s4 z1 z2 z3 z4 z5) = midrangelaw03_kept.r4 n (fun _ => rec midrangelaw03_kept.t2 (midrangelaw03_kept.s2 ())) (fun z1 z2 z3 z4 z5 => rec midrangelaw03_kept.t4 (midrangelaw03_kept.s4 z1 z2 z3 z4 z5)) (fun p => K (vb p)) z1 z2 z3 z4 z5 := by kernel_rfl
noncomputable def midrangelaw03_kept.l (n : Nat) : Nat → (Unit → Option (Bool)) × (Int → ByteArray → List AV → ByteArray → List AV → Option (Bool))
  | 0 => ((fun _ => none), (fun _ _ _ _ _ => none))
  | m + 1 => (midrangelaw03_kept.r2 n ((midrangelaw03_kept.l n m).1) ((midrangelaw03_kept.l n m).2) Option.some, midrangelaw03_kept.r4 n ((midrangelaw03_kept.l n m).1) ((midrangelaw03_kept.l n m).2) Option.some)
noncomputable def midrangelaw03_kept.F (n : Nat) (a0 : ByteArray) (a1 : List AV) (a2 : ByteArray) (a3 : List AV) : Option (Bool) := midrangelaw03_kept.e n ((midrangelaw03_kept.l n n).1) ((midrangelaw03_kept.l n n).2) Option.some a0 a1 a2 a3
noncomputable def midrangelaw03_kept.dec (x : AV) : Option (Bool) := match x with | .v (.bool p0) => Option.some p0 | _ => none
theorem midrangelaw03_kept.dec_inv {p : Bool} (y : AV) (h : midrangelaw03_kept.dec y = some p) : y = vb p := by
  unfold midrangelaw03_kept.dec at h
  split at h
  · cases h; rfl
  · cases h
theorem midrangelaw03_kept.l_eq (n m : Nat) : (∀ z : Unit, runK G (midrangelaw03_kept.C n) midrangelaw03_kept.cut (fun S => finK G Try.f35.resultTypes.toList Try.f35.results.toList S midrangelaw03_kept.dec) m midrangelaw03_kept.t2 (midrangelaw03_kept.s2 z) = ((midrangelaw03_kept.l n m).1) z) ∧ (∀ (z1 : Int) (z2 : ByteArray) (z3 : List AV) (z4 : ByteArray) (z5 : List AV), runK G (midrangelaw03_kept.C n) midrangelaw03_kept.cut (fun S => finK G Try.f35.resultTypes.toList Try.f35.results.toList S midrangelaw03_kept.dec) m midrangelaw03_kept.t4 (midrangelaw03_kept.s4 z1 z2 z3 z4 z5) = ((midrangelaw03_kept.l n m).2) z1 z2 z3 z4 z5) := by
  induction m with
  | zero => exact ⟨fun _ => rfl, fun z1 z2 z3 z4 z5 => rfl⟩
  | succ m ih =>
    obtain ⟨h2, h4⟩ := ih
    have e2 : (fun (_ : Unit) => runK G (midrangelaw03_kept.C n) midrangelaw03_kept.cut (fun S => finK G Try.f35.resultTypes.toList Try.f35.results.toList S midrangelaw03_kept.dec) m midrangelaw03_kept.t2 (midrangelaw03_kept.s2 ())) = (midrangelaw03_kept.l n m).1 := by funext z; exact h2 z
    have e4 : (fun (z1 : Int) (z2 : ByteArray) (z3 : List AV) (z4 : ByteArray) (z5 : List AV) => runK G (midrangelaw03_kept.C n) midrangelaw03_kept.cut (fun S => finK G Try.f35.resultTypes.toList Try.f35.results.toList S midrangelaw03_kept.dec) m midrangelaw03_kept.t4 (midrangelaw03_kept.s4 z1 z2 z3 z4 z5)) = (midrangelaw03_kept.l n m).2 := by funext z1 z2 z3 z4 z5; exact h4 z1 z2 z3 z4 z5
    have q2 : ∀ z : Unit, runK G (midrangelaw03_kept.C n) midrangelaw03_kept.cut (fun S => finK G Try.f35.resultTypes.toList Try.f35.results.toList S midrangelaw03_kept.dec) (m + 1) midrangelaw03_kept.t2 (midrangelaw03_kept.s2 z) = ((midrangelaw03_kept.l n (m + 1)).1) z := by
      intro z
      rw [runK_succ]
      refine (midrangelaw03_kept.r2_eq n _ midrangelaw03_kept.dec ()).trans ?_
      rw [e2, e4]
      rfl
    have q4 : ∀ (z1 : Int) (z2 : ByteArray) (z3 : List AV) (z4 : ByteArray) (z5 : List AV), runK G (midrangelaw03_kept.C n) midrangelaw03_kept.cut (fun S => finK G Try.f35.resultTypes.toList Try.f35.results.toList S midrangelaw03_kept.dec) (m + 1) midrangelaw03_kept.t4 (midrangelaw03_kept.s4 z1 z2 z3 z4 z5) = ((midrangelaw03_kept.l n (m + 1)).2) z1 z2 z3 z4 z5 := by
      intro z1 z2 z3 z4 z5
      rw [runK_succ]
      refine (midrangelaw03_kept.r4_eq n _ midrangelaw03_kept.dec z1 z2 z3 z4 z5).trans ?_
      rw [e2, e4]
      rfl
    exact ⟨q2, q4⟩
theorem midrangelaw03_kept.hands (n : Nat) (a0 : ByteArray) (a1 : List AV) (a2 : ByteArray) (a3 : List AV) {p : Bool} (h : midrangelaw03_kept.F n a0 a1 a2 a3 = some p) : HandsIn Try.prog 35 [AV.agg [vs a0, .sl true 1 a1], .agg [vs a2, .sl true 1 a3]] (vb p) := by
  refine hands_of cfg mixed (fun _ => rfl) (midrangelaw03_kept.tells n) (fn := Try.f35) Try.func35 (by kernel_rfl) (by kernel_rfl) (cut := midrangelaw03_kept.cut) (K := midrangelaw03_kept.dec) (r := p) (n := n) midrangelaw03_kept.dec_inv ?_
  rw [funK_getD (by kernel_rfl)]
  have h1 := midrangelaw03_kept.e_eq n (runK G (midrangelaw03_kept.C n) midrangelaw03_kept.cut (fun S => finK G Try.f35.resultTypes.toList Try.f35.results.toList S midrangelaw03_kept.dec) n) midrangelaw03_kept.dec a0 a1 a2 a3
  have hl := midrangelaw03_kept.l_eq n n
  simp only [hl.1, hl.2] at h1
  exact h1.trans h
noncomputable def midrangelaw03_kept.via {R : Type} (n : Nat) (xs : List AV) : (AV → Option R) → Option R := match xs with | [.agg [.v (.string a0), .sl true 1 a1], .agg [.v (.string a2), .sl true 1 a3]] => fun K => (midrangelaw03_kept.F n a0 a1 a2 a3).bind fun p => K (vb p) | _ => fun _ => none
theorem midrangelaw03_kept.tells1 {R : Type} (n : Nat) (xs : List AV) : Tells1 (R := R) Try.prog 35 xs (midrangelaw03_kept.via n xs) := by
  unfold midrangelaw03_kept.via
  split
  · exact Tells1.of (fun p hp => (midrangelaw03_kept.hands n _ _ _ _ hp).hands)
  · exact Tells1.none
end Go.Proofs.Ytgmpnhfnkhohiaa.Ev

/- midrange/midrangelaw03.TaggedUnforged, out of its evaluation. Printed by the session's own program. -/
namespace Go.Proofs.Ytgmpnhfnkhohiaa.Ev
open Go Go.Proofs Go.Proofs.Ev
set_option linter.unusedVariables false
set_option maxRecDepth 100000
/-! midrange/midrangelaw03.TaggedUnforged: function 7 -/
noncomputable def midrangelaw03_TaggedUnforged.r4 {R : Type} (n : Nat) (c4 : Unit → Option R) (c9 : Unit → Option R) (c10 : Int → ByteArray → List AV → ByteArray → List AV → Option R) (c15 : Int → ByteArray → List AV → ByteArray → List AV → Option R) (c19 : Int → Bool → Int → ByteArray → List AV → ByteArray → List AV → Option R) (k : Bool → Option R) (_ : Unit) : Option R :=
  k true
noncomputable def midrangelaw03_TaggedUnforged.r9 {R : Type} (n : Nat) (c4 : Unit → Option R) (c9 : Unit → Option R) (c10 : Int → ByteArray → List AV → ByteArray → List AV → Option R) (c15 : Int → ByteArray → List AV → ByteArray → List AV → Option R) (c19 : Int → Bool → Int → ByteArray → List AV → ByteArray → List AV → Option R) (k : Bool → Option R) (_ : Unit) : Option R :=
  k false
noncomputable def midrangelaw03_TaggedUnforged.r10 {R : Type} (n : Nat) (c4 : Unit → Option R) (c9 : Unit → Option R) (c10 : Int → ByteArray → List AV → ByteArray → List AV → Option R) (c15 : Int → ByteArray → List AV → ByteArray → List AV → Option R) (c19 : Int → Bool → Int → ByteArray → List AV → ByteArray → List AV → Option R) (k : Bool → Option R) (z1 : Int) (z2 : ByteArray) (z3 : List AV) (z4 : ByteArray) (z5 : List AV) : Option R :=
  bif z1 != 0 then (k true) else (let y14 : Bool := ((z4.size : Nat) : Int) != ((z2.size : Nat) : Int)
  bif y14 then (k false) else (let y15 : Bool := ((z5.length : Nat) : Int) != ((z3.length : Nat) : Int)
  bif y15 then (k false) else (c15 0 z2 z3 z4 z5)))
noncomputable def midrangelaw03_TaggedUnforged.r15 {R : Type} (n : Nat) (c4 : Unit → Option R) (c9 : Unit → Option R) (c10 : Int → ByteArray → List AV → ByteArray → List AV → Option R) (c15 : Int → ByteArray → List AV → ByteArray → List AV → Option R) (c19 : Int → Bool → Int → ByteArray → List AV → ByteArray → List AV → Option R) (k : Bool → Option R) (z1 : Int) (z2 : ByteArray) (z3 : List AV) (z4 : ByteArray) (z5 : List AV) : Option R :=
  let y16 : Bool := decide (z1 < ((z5.length : Nat) : Int))
  bif y16 then (bif decide ((0 : Int) ≤ z1) && decide (z1 < ((z5.length : Nat) : Int)) then (withCons ((z5.getD ((z1).toNat) .undef).cells) fun c17 r18 =>
  withBool c17 fun b19 =>
  c19 z1 (!b19) 0 z2 z3 z4 z5) else none) else (k true)
noncomputable def midrangelaw03_TaggedUnforged.r19 {R : Type} (n : Nat) (c4 : Unit → Option R) (c9 : Unit → Option R) (c10 : Int → ByteArray → List AV → ByteArray → List AV → Option R) (c15 : Int → ByteArray → List AV → ByteArray → List AV → Option R) (c19 : Int → Bool → Int → ByteArray → List AV → ByteArray → List AV → Option R) (k : Bool → Option R) (z1 : Int) (z2 : Bool) (z3 : Int) (z4 : ByteArray) (z5 : List AV) (z6 : ByteArray) (z7 : List AV) : Option R :=
  let y20 : Bool := decide (z3 < ((z5.length : Nat) : Int))
  bif y20 then (bif !z2 then (bif decide ((0 : Int) ≤ z3) && decide (z3 < ((z5.length : Nat) : Int)) then (withCons ((z5.getD ((z3).toNat) .undef).cells) fun c21 r22 =>
  withBool c21 fun b23 =>
  bif b23 then (let y24 : Int := IntKind.i64.wrap ((IntKind.i64.wrap (z1 * 16)) + 16)
  bif decide ((0 : Int) ≤ y24) && decide ((y24 : Int) ≤ ((z6.size : Nat) : Int)) then (bif decide ((0 : Int) ≤ IntKind.i64.wrap (z1 * 16)) && decide ((IntKind.i64.wrap (z1 * 16) : Int) ≤ y24) then (let y25 : ByteArray := z6.extract (IntKind.i64.wrap (z1 * 16)).toNat (y24).toNat
  let y26 : Int := IntKind.i64.wrap ((IntKind.i64.wrap (z3 * 16)) + 16)
  bif decide ((0 : Int) ≤ y26) && decide ((y26 : Int) ≤ ((z4.size : Nat) : Int)) then (bif decide ((0 : Int) ≤ IntKind.i64.wrap (z3 * 16)) && decide ((IntKind.i64.wrap (z3 * 16) : Int) ≤ y26) then (let y27 : ByteArray := z4.extract (IntKind.i64.wrap (z3 * 16)).toNat (y26).toNat
  c19 z1 (y25.toList == y27.toList) (IntKind.i64.wrap (z3 + 1)) z4 z5 z6 z7) else none) else none) else none) else none) else (c19 z1 false (IntKind.i64.wrap (z3 + 1)) z4 z5 z6 z7)) else none) else (bif !z2 then (k false) else (c15 (IntKind.i64.wrap (z1 + 1)) z4 z5 z6 z7))) else (bif !z2 then (k false) else (c15 (IntKind.i64.wrap (z1 + 1)) z4 z5 z6 z7))
noncomputable def midrangelaw03_TaggedUnforged.e {R : Type} (n : Nat) (c4 : Unit → Option R) (c9 : Unit → Option R) (c10 : Int → ByteArray → List AV → ByteArray → List AV → Option R) (c15 : Int → ByteArray → List AV → ByteArray → List AV → Option R) (c19 : Int → Bool → Int → ByteArray → List AV → ByteArray → List AV → Option R) (k : Bool → Option R) (a0 : ByteArray) (a1 : List AV) (a2 : Int) (a3 : Int) (a4 : ByteArray) (a5 : Int) (a6 : Int) (a7 : Int) : Option R :=
  (midrangelaw03_awake.F n ).bind fun p1 =>
  bif !p1 then (k false) else ((midrangelaw03_few.F n a0 a1).bind fun p2 =>
  bif !p2 then (c4 ()) else (let y3 : Bool := decide (((a4.size : Nat) : Int) > 1200)
  bif y3 then (c4 ()) else ((midrangeref03_Err.F n a0 a1).bind fun p4 =>
  bif p4 != 0 then (c4 ()) else ((midrangebase_OwnStorage.F n a0 a1).bind fun p5 =>
  (tagged_WriteBytes.F n p5.1 p5.2 a2 a4).bind fun p6 =>
  (midrangebase_OwnStorage.F n a0 a1).bind fun p7 =>
  (tagged_CopyBytes.F n p7.1 p7.2 a5 a6 a7).bind fun p8 =>
  (midrangebase_OwnStorage.F n a0 a1).bind fun p9 =>
  (tagged_CopyWithTags.F n p9.1 p9.2 a5 a6 a7).bind fun p10 =>
  bif p6.2.2 == 0 then ((midrangelaw03_kept.F n p6.1 p6.2.1 a0 a1).bind fun p11 =>
  bif !p11 then (c9 ()) else (bif p8.2.2 == 0 then ((midrangelaw03_kept.F n p8.1 p8.2.1 a0 a1).bind fun p12 =>
  bif !p12 then (c9 ()) else (c10 p10.2.2 a0 a1 p10.1 p10.2.1)) else (c10 p10.2.2 a0 a1 p10.1 p10.2.1))) else (bif p8.2.2 == 0 then ((midrangelaw03_kept.F n p8.1 p8.2.1 a0 a1).bind fun p13 =>
  bif !p13 then (c9 ()) else (c10 p10.2.2 a0 a1 p10.1 p10.2.1)) else (c10 p10.2.2 a0 a1 p10.1 p10.2.1))))))
noncomputable def midrangelaw03_TaggedUnforged.C {R : Type} (n : Nat) (f : FuncId) (xs : List AV) : (AV → Option R) → Option R :=
  bif Nat.beq f 10 then midrangelaw03_awake.via n xs else bif Nat.beq f 17 then midrangelaw03_few.via n xs else bif Nat.beq f 19 then midrangebase_OwnStorage.via n xs else bif Nat.beq f 20 then tagged_WriteBytes.via n xs else bif Nat.beq f 21 then midrangeref03_Err.via n xs else bif Nat.beq f 31 then tagged_CopyBytes.via n xs else bif Nat.beq f 32 then tagged_CopyWithTags.via n xs else bif Nat.beq f 35 then midrangelaw03_kept.via n xs else fun _ => none
theorem midrangelaw03_TaggedUnforged.tells {R : Type} (n : Nat) : Tells (R := R) Try.prog (midrangelaw03_TaggedUnforged.C n) := fun _ xs => tells_at (midrangelaw03_awake.tells1 n xs) (tells_at (midrangelaw03_few.tells1 n xs) (tells_at (midrangebase_OwnStorage.tells1 n xs) (tells_at (tagged_WriteBytes.tells1 n xs) (tells_at (midrangeref03_Err.tells1 n xs) (tells_at (tagged_CopyBytes.tells1 n xs) (tells_at (tagged_CopyWithTags.tells1 n xs) (tells_at (midrangelaw03_kept.tells1 n xs) (Tells1.none))))))))
noncomputable def midrangelaw03_TaggedUnforged.cut (r : Nat) : Option Keep := match r with | 4 => Option.some ⟨[], []⟩ | 9 => Option.some ⟨[], []⟩ | 10 => Option.some ⟨[3, 11, 12], []⟩ | 15 => Option.some ⟨[3, 11, 13], []⟩ | 19 => Option.some ⟨[3, 11, 13, 14, 15], []⟩ | _ => none
noncomputable def midrangelaw03_TaggedUnforged.t4 : List Item := (todoOf 4 1000 [.code (Try.f7.body.getD .skip)]).getD []
noncomputable def midrangelaw03_TaggedUnforged.s4 (_ : Unit) : St := ⟨[.undef, .undef, .undef, .undef, .undef, .undef, .undef, .undef, .undef, .undef, .undef, .undef, .undef, .undef, .undef, .undef, .undef, .undef, .undef, .undef, .undef, .undef, .undef, .undef, .undef, .undef, .undef, .undef, .undef, .undef, .undef, .undef, .undef, .undef, .undef, .undef, .undef, .undef, .undef, .undef, .undef, .undef, .undef, .undef, .undef, .undef, .undef, .undef, .undef, .undef, .undef, .undef, .undef, .undef, .undef, .undef, .undef, .undef, .undef, .undef, .undef, .undef, .undef, .undef, .undef, .undef, .undef, .undef, .undef, .undef, .undef, .undef, .undef, .undef, .undef, .undef, .undef, .undef, .undef, .undef, .undef, .undef, .undef, .undef, .undef, .undef, .undef, .undef, .undef, .undef, .undef, .undef, .undef, .undef, .undef, .undef, .undef, .undef, .undef, .undef, .undef, .undef, .undef, .undef, .undef, .undef, .undef, .undef, .undef, .undef, .undef, .undef, .undef, .undef, .undef, .undef, .undef, .undef, .undef, .undef, .undef, .undef, .undef, .undef, .undef, .undef, .undef, .undef, .undef, .undef, .undef, .undef, .undef, .undef, .undef, .undef, .undef, .undef, .undef, .undef, .undef, .undef], Mem.ofList [], 0⟩
noncomputable def midrangelaw03_TaggedUnforged.t9 : List Item := (todoOf 9 1000 [.code (Try.f7.body.getD .skip)]).getD []
noncomputable def midrangelaw03_TaggedUnforged.s9 (_ : Unit) : St := ⟨[.undef, .undef, .undef, .undef, .undef, .undef, .undef, .undef, .undef, .undef, .undef, .undef, .undef, .undef, .undef, .undef, .undef, .undef, .undef, .undef, .undef, .undef, .undef, .undef, .undef, .undef, .undef, .undef, .undef, .undef, .undef, .undef, .undef, .undef, .undef, .undef, .undef, .undef, .undef, .undef, .undef, .undef, .undef, .undef, .undef, .undef, .undef, .undef, .undef, .undef, .undef, .undef, .undef, .undef, .undef, .undef, .undef, .undef, .undef, .undef, .undef, .undef, .undef, .undef, .undef, .undef, .undef, .undef, .undef, .undef, .undef, .undef, .undef, .undef, .undef, .undef, .undef, .undef, .undef, .undef, .undef, .undef, .undef, .undef, .undef, .undef, .undef, .undef, .undef, .undef, .undef, .undef, .undef, .undef, .undef, .undef, .undef, .undef, .undef, .undef, .undef, .undef, .undef, .undef, .undef, .undef, .undef, .undef, .undef, .undef, .undef, .undef, .undef, .undef, .undef, .undef, .undef, .undef, .undef, .undef, .undef, .undef, .undef, .undef, .undef, .undef, .undef, .undef, .undef, .undef, .undef, .undef, .undef, .undef, .undef, .undef, .undef, .undef, .undef, .undef, .undef, .undef], Mem.ofList [], 0⟩
noncomputable def midrangelaw03_TaggedUnforged.t10 : List Item := (todoOf 10 1000 [.code (Try.f7.body.getD .skip)]).getD []
noncomputable def midrangelaw03_TaggedUnforged.s10 (z1 : Int) (z2 : ByteArray) (z3 : List AV) (z4 : ByteArray) (z5 : List AV) : St := ⟨[.undef, .undef, .undef, .ptr 0 0, .undef, .undef, .undef, .undef, .undef, .undef, .undef, .ptr 1 0, vi z1, .undef, .undef, .undef, .undef, .undef, .undef, .undef, .undef, .undef, .undef, .undef, .undef, .undef, .undef, .undef, .undef, .undef, .undef, .undef, .undef, .undef, .undef, .undef, .undef, .undef, .undef, .undef, .undef, .undef, .undef, .undef, .undef, .undef, .undef, .undef, .undef, .undef, .undef, .undef, .undef, .undef, .undef, .undef, .undef, .undef, .undef, .undef, .undef, .undef, .undef, .undef, .undef, .undef, .undef, .undef, .undef, .undef, .undef, .undef, .undef, .undef, .undef, .undef, .undef, .undef, .undef, .undef, .undef, .undef, .undef, .undef, .undef, .undef, .undef, .undef, .undef, .undef, .undef, .undef, .undef, .undef, .undef, .undef, .undef, .undef, .undef, .undef, .undef, .undef, .undef, .undef, .undef, .undef, .undef, .undef, .undef, .undef, .undef, .undef, .undef, .undef, .undef, .undef, .undef, .undef, .undef, .undef, .undef, .undef, .undef, .undef, .undef, .undef, .undef, .undef, .undef, .undef, .undef, .undef, .undef, .undef, .undef, .undef, .undef, .undef, .undef, .undef, .undef, .undef], Mem.ofList [.box [vs z2, .sl true 1 z3], .box [vs z4, .own 2 0 none], .row true 1 z5], 3⟩
noncomputable def midrangelaw03_TaggedUnforged.t15 : List Item := (todoOf 15 1000 [.code (Try.f7.body.getD .skip)]).getD []
noncomputable def midrangelaw03_TaggedUnforged.s15 (z1 : Int) (z2 : ByteArray) (z3 : List AV) (z4 : ByteArray) (z5 : List AV) : St := ⟨[.undef, .undef, .undef, .ptr 0 0, .undef, .undef, .undef, .undef, .undef, .undef, .undef, .ptr 1 0, .undef, vi z1, .undef, .undef, .undef, .undef, .undef, .undef, .undef, .undef, .undef, .undef, .undef, .undef, .undef, .undef, .undef, .undef, .undef, .undef, .undef, .undef, .undef, .undef, .undef, .undef, .undef, .undef, .undef, .undef, .undef, .undef, .undef, .undef, .undef, .undef, .undef, .undef, .undef, .undef, .undef, .undef, .undef, .undef, .undef, .undef, .undef, .undef, .undef, .undef, .undef, .undef, .undef, .undef, .undef, .undef, .undef, .undef, .undef, .undef, .undef, .undef, .undef, .undef, .undef, .undef, .undef, .undef, .undef, .undef, .undef, .undef, .undef, .undef, .undef, .undef, .undef, .undef, .undef, .undef, .undef, .undef, .undef, .undef, .undef, .undef, .undef, .undef, .undef, .undef, .undef, .undef, .undef, .undef, .undef, .undef, .undef, .undef, .undef, .undef, .undef, .undef, .undef, .undef, .undef, .undef, .undef, .undef, .undef, .undef, .undef, .undef, .undef, .undef, .undef, .undef, .undef, .undef, .undef, .undef, .undef, .undef, .undef, .undef, .undef, .undef, .undef, .undef, .undef, .undef], Mem.ofList [.box [vs z2, .sl true 1 z3], .box [vs z4, .own 2 0 none], .row true 1 z5], 3⟩
noncomputable def midrangelaw03_TaggedUnforged.t19 : List Item := (todoOf 19 1000 [.code (Try.f7.body.getD .skip)]).getD []
noncomputable def midrangelaw03_TaggedUnforged.s19 (z1 : Int) (z2 : Bool) (z3 : Int) (z4 : ByteArray) (z5 : List AV) (z6 : ByteArray) (z7 : List AV) : St := ⟨[.undef, .undef, .undef, .ptr 0 0, .undef, .undef, .undef, .undef, .undef, .undef, .undef, .ptr 1 0, .undef, vi z1, vb z2, vi z3, .undef, .undef, .undef, .undef, .undef, .undef, .undef, .undef, .undef, .undef, .undef, .undef, .undef, .undef, .undef, .undef, .undef, .undef, .undef, .undef, .undef, .undef, .undef, .undef, .undef, .undef, .undef, .undef, .undef, .undef, .undef, .undef, .undef, .undef, .undef, .undef, .undef, .undef, .undef, .undef, .undef, .undef, .undef, .undef, .undef, .undef, .undef, .undef, .undef, .undef, .undef, .undef, .undef, .undef, .undef, .undef, .undef, .undef, .undef, .undef, .undef, .undef, .undef, .undef, .undef, .undef, .undef, .undef, .undef, .undef, .undef, .undef, .undef, .undef, .undef, .undef, .undef, .undef, .undef, .undef, .undef, .undef, .undef, .undef, .undef, .undef, .undef, .undef, .undef, .undef, .undef, .undef, .undef, .undef, .undef, .undef, .undef, .undef, .undef, .undef, .undef, .undef, .undef, .undef, .undef, .undef, .undef, .undef, .undef, .undef, .undef, .undef, .undef, .undef, .undef, .undef, .undef, .undef, .undef, .undef, .undef, .undef, .undef, .undef, .undef, .undef], Mem.ofList [.box [vs z4, .sl true 1 z5], .box [vs z6, .own 2 0 none], .row true 1 z7], 3⟩
theorem midrangelaw03_TaggedUnforged.e_eq {R : Type} (n : Nat) (rec : List Item → St → Option R) (K : AV → Option R) (a0 : ByteArray) (a1 : List AV) (a2 : Int) (a3 : Int) (a4 : ByteArray) (a5 : Int) (a6 : Int) (a7 : Int) :
    goK G (midrangelaw03_TaggedUnforged.C n) midrangelaw03_TaggedUnforged.cut (fun S => finK G Try.f7.resultTypes.toList Try.f7.results.toList S K) rec 1000 [.code (Try.f7.body.getD .skip)] (Ev.start Try.f7 [AV.agg [vs a0, .sl true 1 a1], .agg [vi a2, vi a3, vs a4], .agg [vi a5, vi a6, vi a7]]) = midrangelaw03_TaggedUnforged.e n (fun _ => rec midrangelaw03_TaggedUnforged.t4 (midrangelaw03_TaggedUnforged.s4 ())) (fun _ => rec midrangelaw03_TaggedUnforged.t9 (midrangelaw03_TaggedUnforged.s9 ())) (fun z1 z2 z3 z4 z5 => rec midrangelaw03_TaggedUnforged.t10 (midrangelaw03_TaggedUnforged.s10 z1 z2 z3 z4 z5)) (fun z1 z2 z3 z4 z5 => rec midrangelaw03_TaggedUnforged.t15 (midrangelaw03_TaggedUnforged.s15 z1 z2 z3 z4 z5)) (fun z1 z2 z3 z4 z5 z6 z7 => rec midrangelaw03_TaggedUnforged.t19 (midrangelaw03_TaggedUnforged.s19 z1 z2 z3 z4 z5 z6 z7)) (fun p => K (vb p)) a0 a1 a2 a3 a4 a5 a6 a7 := by kernel_rfl
theorem midrangelaw03_TaggedUnforged.r4_eq {R : Type} (n : Nat) (rec : List Item → St → Option R) (K : AV → Option R) (_ : Unit) :
    atK G (midrangelaw03_TaggedUnforged.C n) midrangelaw03_TaggedUnforged.cut (fun S => finK G Try.f7.resultTypes.toList Try.f7.results.toList S K) rec midrangelaw03_TaggedUnforged.t4 (midrangelaw03_TaggedUnforged.s4 ()) = midrangelaw03_TaggedUnforged.r4 n (fun _ => rec midrangelaw03_TaggedUnforged.t4 (midrangelaw03_TaggedUnforged.s4 ())) (fun _ => rec midrangelaw03_TaggedUnforged.t9 (midrangelaw03_TaggedUnforged.s9 ())) (fun z1 z2 z3 z4 z5 => rec midrangelaw03_TaggedUnforged.t10 (midrangelaw03_TaggedUnforged.s10 z1 z2 z3 z4 z5)) (fun z1 z2 z3 z4 z5 => rec midrangelaw03_TaggedUnforged.t15 (midrangelaw03_TaggedUnforged.s15 z1 z2 z3 z4 z5)) (fun z1 z2 z3 z4 z5 z6 z7 => rec midrangelaw03_TaggedUnforged.t19 (midrangelaw03_TaggedUnforged.s19 z1 z2 z3 z4 z5 z6 z7)) (fun p => K (vb p)) () := by kernel_rfl
theorem midrangelaw03_TaggedUnforged.r9_eq {R : Type} (n : Nat) (rec : List Item → St → Option R) (K : AV → Option R) (_ : Unit) :
    atK G (midrangelaw03_TaggedUnforged.C n) midrangelaw03_TaggedUnforged.cut (fun S => finK G Try.f7.resultTypes.toList Try.f7.results.toList S K) rec midrangelaw03_TaggedUnforged.t9 (midrangelaw03_TaggedUnforged.s9 ()) = midrangelaw03_TaggedUnforged.r9 n (fun _ => rec midrangelaw03_TaggedUnforged.t4 (midrangelaw03_TaggedUnforged.s4 ())) (fun _ => rec midrangelaw03_TaggedUnforged.t9 (midrangelaw03_TaggedUnforged.s9 ())) (fun z1 z2 z3 z4 z5 => rec midrangelaw03_TaggedUnforged.t10 (midrangelaw03_TaggedUnforged.s10 z1 z2 z3 z4 z5)) (fun z1 z2 z3 z4 z5 => rec midrangelaw03_TaggedUnforged.t15 (midrangelaw03_TaggedUnforged.s15 z1 z2 z3 z4 z5)) (fun z1 z2 z3 z4 z5 z6 z7 => rec midrangelaw03_TaggedUnforged.t19 (midrangelaw03_TaggedUnforged.s19 z1 z2 z3 z4 z5 z6 z7)) (fun p => K (vb p)) () := by kernel_rfl
theorem midrangelaw03_TaggedUnforged.r10_eq {R : Type} (n : Nat) (rec : List Item → St → Option R) (K : AV → Option R) (z1 : Int) (z2 : ByteArray) (z3 : List AV) (z4 : ByteArray) (z5 : List AV) :
    atK G (midrangelaw03_TaggedUnforged.C n) midrangelaw03_TaggedUnforged.cut (fun S => finK G Try.f7.resultTypes.toList Try.f7.results.toList S K) rec midrangelaw03_TaggedUnforged.t10 (midrangelaw03_TaggedUnforged.s10 z1 z2 z3 z4 z5) = midrangelaw03_TaggedUnforged.r10 n (fun _ => rec midrangelaw03_TaggedUnforged.t4 (midrangelaw03_TaggedUnforged.s4 ())) (fun _ => rec midrangelaw03_TaggedUnforged.t9 (midrangelaw03_TaggedUnforged.s9 ())) (fun z1 z2 z3 z4 z5 => rec midrangelaw03_TaggedUnforged.t10 (midrangelaw03_TaggedUnforged.s10 z1 z2 z3 z4 z5)) (fun z1 z2 z3 z4 z5 => rec midrangelaw03_TaggedUnforged.t15 (midrangelaw03_TaggedUnforged.s15 z1 z2 z3 z4 z5)) (fun z1 z2 z3 z4 z5 z6 z7 => rec midrangelaw03_TaggedUnforged.t19 (midrangelaw03_TaggedUnforged.s19 z1 z2 z3 z4 z5 z6 z7)) (fun p => K (vb p)) z1 z2 z3 z4 z5 := by kernel_rfl
theorem midrangelaw03_TaggedUnforged.r15_eq {R : Type} (n : Nat) (rec : List Item → St → Option R) (K : AV → Option R) (z1 : Int) (z2 : ByteArray) (z3 : List AV) (z4 : ByteArray) (z5 : List AV) :
    atK G (midrangelaw03_TaggedUnforged.C n) midrangelaw03_TaggedUnforged.cut (fun S => finK G Try.f7.resultTypes.toList Try.f7.results.toList S K) rec midrangelaw03_TaggedUnforged.t15 (midrangelaw03_TaggedUnforged.s15 z1 z2 z3 z4 z5) = midrangelaw03_TaggedUnforged.r15 n (fun _ => rec midrangelaw03_TaggedUnforged.t4 (midrangelaw03_TaggedUnforged.s4 ())) (fun _ => rec midrangelaw03_TaggedUnforged.t9 (midrangelaw03_TaggedUnforged.s9 ())) (fun z1 z2 z3 z4 z5 => rec midrangelaw03_TaggedUnforged.t10 (midrangelaw03_TaggedUnforged.s10 z1 z2 z3 z4 z5)) (fun z1 z2 z3 z4 z5 => rec midrangelaw03_TaggedUnforged.t15 (midrangelaw03_TaggedUnforged.s15 z1 z2 z3 z4 z5)) (fun z1 z2 z3 z4 z5 z6 z7 => rec midrangelaw03_TaggedUnforged.t19 (midrangelaw03_TaggedUnforged.s19 z1 z2 z3 z4 z5 z6 z7)) (fun p => K (vb p)) z1 z2 z3 z4 z5 := by kernel_rfl
theorem midrangelaw03_TaggedUnforged.r19_eq {R : Type} (n : Nat) (rec : List Item → St → Option R) (K : AV → Option R) (z1 : Int) (z2 : Bool) (z3 : Int) (z4 : ByteArray) (z5 : List AV) (z6 : ByteArray) (z7 : List AV) :
    atK G (midrangelaw03_TaggedUnforged.C n) midrangelaw03_TaggedUnforged.cut (fun S => finK G Try.f7.resultTypes.toList Try.f7.results.toList S K) rec midrangelaw03_TaggedUnforged.t19 (midrangelaw03_TaggedUnforged.s19 z1 z2 z3 z4 z5 z6 z7) = midrangelaw03_TaggedUnforged.r19 n (fun _ => rec midrangelaw03_TaggedUnforged.t4 (midrangelaw03_TaggedUnforged.s4 ())) (fun _ => rec midrangelaw03_TaggedUnforged.t9 (midrangelaw03_TaggedUnforged.s9 ())) (fun z1 z2 z3 z4 z5 => rec midrangelaw03_TaggedUnforged.t10 (midrangelaw03_TaggedUnforged.s10 z1 z2 z3 z4 z5)) (fun z1 z2 z3 z4 z5 => rec midrangelaw03_TaggedUnforged.t15 (midrangelaw03_TaggedUnforged.s15 z1 z2 z3 z4 z5)) (fun z1 z2 z3 z4 z5 z6 z7 => rec midrangelaw03_TaggedUnforged.t19 (midrangelaw03_TaggedUnforged.s19 z1 z2 z3 z4 z5 z6 z7)) (fun p => K (vb p)) z1 z2 z3 z4 z5 z6 z7 := by kernel_rfl
noncomputable def midrangelaw03_TaggedUnforged.l (n : Nat) : Nat → (Unit → Option (Bool)) × (Unit → Option (Bool)) × (Int → ByteArray → List AV → ByteArray → List AV → Option (Bool)) × (Int → ByteArray → List AV → ByteArray → List AV → Option (Bool)) × (Int → Bool → Int → ByteArray → List AV → ByteArray → List AV → Option (Bool))
  | 0 => ((fun _ => none), (fun _ => none), (fun _ _ _ _ _ => none), (fun _ _ _ _ _ => none), (fun _ _ _ _ _ _ _ => none))
  | m + 1 => (midrangelaw03_TaggedUnforged.r4 n ((midrangelaw03_TaggedUnforged.l n m).1) ((midrangelaw03_TaggedUnforged.l n m).2.1) ((midrangelaw03_TaggedUnforged.l n m).2.2.1) ((midrangelaw03_TaggedUnforged.l n m).2.2.2.1) ((midrangelaw03_TaggedUnforged.l n m).2.2.2.2) Option.some, midrangelaw03_TaggedUnforged.r9 n ((midrangelaw03_TaggedUnforged.l n m).1) ((midrangelaw03_TaggedUnforged.l n m).2.1) ((midrangelaw03_TaggedUnforged.l n m).2.2.1) ((midrangelaw03_TaggedUnforged.l n m).2.2.2.1) ((midrangelaw03_TaggedUnforged.l n m).2.2.2.2) Option.some, midrangelaw03_TaggedUnforged.r10 n ((midrangelaw03_TaggedUnforged.l n m).1) ((midrangelaw03_TaggedUnforged.l n m).2.1) ((midrangelaw03_TaggedUnforged.l n m).2.2.1) ((midrangelaw03_TaggedUnforged.l n m).2.2.2.1) ((midrangelaw03_TaggedUnforged.l n m).2.2.2.2) Option.some, midrangelaw03_TaggedUnforged.r15 n ((midrangelaw03_TaggedUnforged.l n m).1) ((midrangelaw03_TaggedUnforged.l n m).2.1) ((midrangelaw03_TaggedUnforged.l n m).2.2.1) ((midrangelaw03_TaggedUnforged.l n m).2.2.2.1) ((midrangelaw03_TaggedUnforged.l n m).2.2.2.2) Option.some, midrangelaw03_TaggedUnforged.r19 n ((midrangelaw03_TaggedUnforged.l n m).1) ((midrangelaw03_TaggedUnforged.l n m).2.1) ((midrangelaw03_TaggedUnforged.l n m).2.2.1) ((midrangelaw03_TaggedUnforged.l n m).2.2.2.1) ((midrangelaw03_TaggedUnforged.l n m).2.2.2.2) Option.some)
noncomputable def midrangelaw03_TaggedUnforged.F (n : Nat) (a0 : ByteArray) (a1 : List AV) (a2 : Int) (a3 : Int) (a4 : ByteArray) (a5 : Int) (a6 : Int) (a7 : Int) : Option (Bool) := midrangelaw03_TaggedUnforged.e n ((midrangelaw03_TaggedUnforged.l n n).1) ((midrangelaw03_TaggedUnforged.l n n).2.1) ((midrangelaw03_TaggedUnforged.l n n).2.2.1) ((midrangelaw03_TaggedUnforged.l n n).2.2.2.1) ((midrangelaw03_TaggedUnforged.l n n).2.2.2.2) Option.some a0 a1 a2 a3 a4 a5 a6 a7
noncomputable def midrangelaw03_TaggedUnforged.dec (x : AV) : Option (Bool) := match x with | .v (.bool p0) => Option.some p0 | _ => none
theorem midrangelaw03_TaggedUnforged.dec_inv {p : Bool} (y : AV) (h : midrangelaw03_TaggedUnforged.dec y = some p) : y = vb p := by
  unfold midrangelaw03_TaggedUnforged.dec at h
  split at h
  · cases h; rfl
  · cases h
theorem midrangelaw03_TaggedUnforged.l_eq (n m : Nat) : (∀ z : Unit, runK G (midrangelaw03_TaggedUnforged.C n) midrangelaw03_TaggedUnforged.cut (fun S => finK G Try.f7.resultTypes.toList Try.f7.results.toList S midrangelaw03_TaggedUnforged.dec) m midrangelaw03_TaggedUnforged.t4 (midrangelaw03_TaggedUnforged.s4 z) = ((midrangelaw03_TaggedUnforged.l n m).1) z) ∧ (∀ z : Unit, runK G (midrangelaw03_TaggedUnforged.C n) midrangelaw03_TaggedUnforged.cut (fun S => finK G Try.f7.resultTypes.toList Try.f7.results.toList S midrangelaw03_TaggedUnforged.dec) m midrangelaw03_TaggedUnforged.t9 (midrangelaw03_TaggedUnforged.s9 z) = ((midrangelaw03_TaggedUnforged.l n m).2.1) z) ∧ (∀ (z1 : Int) (z2 : ByteArray) (z3 : List AV) (z4 : ByteArray) (z5 : List AV), runK G (midrangelaw03_TaggedUnforged.C n) midrangelaw03_TaggedUnforged.cut (fun S => finK G Try.f7.resultTypes.toList Try.f7.results.toList S midrangelaw03_TaggedUnforged.dec) m midrangelaw03_TaggedUnforged.t10 (midrangelaw03_TaggedUnforged.s10 z1 z2 z3 z4 z5) = ((midrangelaw03_TaggedUnforged.l n m).2.2.1) z1 z2 z3 z4 z5) ∧ (∀ (z1 : Int) (z2 : ByteArray) (z3 : List AV) (z4 : ByteArray) (z5 : List AV), runK G (midrangelaw03_TaggedUnforged.C n) midrangelaw03_TaggedUnforged.cut (fun S => finK G Try.f7.resultTypes.toList Try.f7.results.toList S midrangelaw03_TaggedUnforged.dec) m midrangelaw03_TaggedUnforged.t15 (midrangelaw03_TaggedUnforged.s15 z1 z2 z3 z4 z5) = ((midrangelaw03_TaggedUnforged.l n m).2.2.2.1) z1 z2 z3 z4 z5) ∧ (∀ (z1 : Int) (z2 : Bool) (z3 : Int) (z4 : ByteArray) (z5 : List AV) (z6 : ByteArray) (z7 : List AV), runK G (midrangelaw03_TaggedUnforged.C n) midrangelaw03_TaggedUnforged.cut (fun S => finK G Try.f7.resultTypes.toList Try.f7.results.toList S midrangelaw03_TaggedUnforged.dec) m midrangelaw03_TaggedUnforged.t19 (midrangelaw03_TaggedUnforged.s19 z1 z2 z3 z4 z5 z6 z7) = ((midrangelaw03_TaggedUnforged.l n m).2.2.2.2) z1 z2 z3 z4 z5 z6 z7) := by
  induction m with
  | zero => exact ⟨fun _ => rfl, fun _ => rfl, fun z1 z2 z3 z4 z5 => rfl, fun z1 z2 z3 z4 z5 => rfl, fun z1 z2 z3 z4 z5 z6 z7 => rfl⟩
  | succ m ih =>
    obtain ⟨h4, h9, h10, h15, h19⟩ := ih
    have e4 : (fun (_ : Unit) => runK G (midrangelaw03_TaggedUnforged.C n) midrangelaw03_TaggedUnforged.cut (fun S => finK G Try.f7.resultTypes.toList Try.f7.results.toList S midrangelaw03_TaggedUnforged.dec) m midrangelaw03_TaggedUnforged.t4 (midrangelaw03_TaggedUnforged.s4 ())) = (midrangelaw03_TaggedUnforged.l n m).1 := by funext z; exact h4 z
    have e9 : (fun (_ : Unit) => runK G (midrangelaw03_TaggedUnforged.C n) midrangelaw03_TaggedUnforged.cut (fun S => finK G Try.f7.resultTypes.toList Try.f7.results.toList S midrangelaw03_TaggedUnforged.dec) m midrangelaw03_TaggedUnforged.t9 (midrangelaw03_TaggedUnforged.s9 ())) = (midrangelaw03_TaggedUnforged.l n m).2.1 := by funext z; exact h9 z
    have e10 : (fun (z1 : Int) (z2 : ByteArray) (z3 : List AV) (z4 : ByteArray) (z5 : List AV) => runK G (midrangelaw03_TaggedUnforged.C n) midrangelaw03_TaggedUnforged.cut (fun S => finK G Try.f7.resultTypes.toList Try.f7.results.toList S midrangelaw03_TaggedUnforged.dec) m midrangelaw03_TaggedUnforged.t10 (midrangelaw03_TaggedUnforged.s10 z1 z2 z3 z4 z5)) = (midrangelaw03_TaggedUnforged.l n m).2.2.1 := by funext z1 z2 z3 z4 z5; exact h10 z1 z2 z3 z4 z5
    have e15 : (fun (z1 : Int) (z2 : ByteArray) (z3 : List AV) (z4 : ByteArray) (z5 : List AV) => runK G (midrangelaw03_TaggedUnforged.C n) midrangelaw03_TaggedUnforged.cut (fun S => finK G Try.f7.resultTypes.toList Try.f7.results.toList S midrangelaw03_TaggedUnforged.dec) m midrangelaw03_TaggedUnforged.t15 (midrangelaw03_TaggedUnforged.s15 z1 z2 z3 z4 z5)) = (midrangelaw03_TaggedUnforged.l n m).2.2.2.1 := by funext z1 z2 z3 z4 z5; exact h15 z1 z2 z3 z4 z5
    have e19 : (fun (z1 : Int) (z2 : Bool) (z3 : Int) (z4 : ByteArray) (z5 : List AV) (z6 : ByteArray) (z7 : List AV) => runK G (midrangelaw03_TaggedUnforged.C n) midrangelaw03_TaggedUnforged.cut (fun S => finK G Try.f7.resultTypes.toList Try.f7.results.toList S midrangelaw03_TaggedUnforged.dec) m midrangelaw03_TaggedUnforged.t19 (midrangelaw03_TaggedUnforged.s19 z1 z2 z3 z4 z5 z6 z7)) = (midrangelaw03_TaggedUnforged.l n m).2.2.2.2 := by funext z1 z2 z3 z4 z5 z6 z7; exact h19 z1 z2 z3 z4 z5 z6 z7
    have q4 : ∀ z : Unit, runK G (midrangelaw03_TaggedUnforged.C n) midrangelaw03_TaggedUnforged.cut (fun S => finK G Try.f7.resultTypes.toList Try.f7.results.toList S midrangelaw03_TaggedUnforged.dec) (m + 1) midrangelaw03_TaggedUnforged.t4 (midrangelaw03_TaggedUnforged.s4 z) = ((midrangelaw03_TaggedUnforged.l n (m + 1)).1) z := by
      intro z
      rw [runK_succ]
      refine (midrangelaw03_TaggedUnforged.r4_eq n _ midrangelaw03_TaggedUnforged.dec ()).trans ?_
      rw [e4, e9, e10, e15, e19]
      rfl
    have q9 : ∀ z : Unit, runK G (midrangelaw03_TaggedUnforged.C n) midrangelaw03_TaggedUnforged.cut (fun S => finK G Try.f7.resultTypes.toList Try.f7.results.toList S midrangelaw03_TaggedUnforged.dec) (m + 1) midrangelaw03_TaggedUnforged.t9 (midrangelaw03_TaggedUnforged.s9 z) = ((midrangelaw03_TaggedUnforged.l n (m + 1)).2.1) z := by
      intro z
      rw [runK_succ]
      refine (midrangelaw03_TaggedUnforged.r9_eq n _ midrangelaw03_TaggedUnforged.dec ()).trans ?_
      rw [e4, e9, e10, e15, e19]
      rfl
    have q10 : ∀ (z1 : Int) (z2 : ByteArray) (z3 : List AV) (z4 : ByteArray) (z5 : List AV), runK G (midrangelaw03_TaggedUnforged.C n) midrangelaw03_TaggedUnforged.cut (fun S => finK G Try.f7.resultTypes.toList Try.f7.results.toList S midrangelaw03_TaggedUnforged.dec) (m + 1) midrangelaw03_TaggedUnforged.t10 (midrangelaw03_TaggedUnforged.s10 z1 z2 z3 z4 z5) = ((midrangelaw03_TaggedUnforged.l n (m + 1)).2.2.1) z1 z2 z3 z4 z5 := by
      intro z1 z2 z3 z4 z5
      rw [runK_succ]
      refine (midrangelaw03_TaggedUnforged.r10_eq n _ midrangelaw03_TaggedUnforged.dec z1 z2 z3 z4 z5).trans ?_
      rw [e4, e9, e10, e15, e19]
      rfl
    have q15 : ∀ (z1 : Int) (z2 : ByteArray) (z3 : List AV) (z4 : ByteArray) (z5 : List AV), runK G (midrangelaw03_TaggedUnforged.C n) midrangelaw03_TaggedUnforged.cut (fun S => finK G Try.f7.resultTypes.toList Try.f7.results.toList S midrangelaw03_TaggedUnforged.dec) (m + 1) midrangelaw03_TaggedUnforged.t15 (midrangelaw03_TaggedUnforged.s15 z1 z2 z3 z4 z5) = ((midrangelaw03_TaggedUnforged.l n (m + 1)).2.2.2.1) z1 z2 z3 z4 z5 := by
      intro z1 z2 z3 z4 z5
      rw [runK_succ]
      refine (midrangelaw03_TaggedUnforged.r15_eq n _ midrangelaw03_TaggedUnforged.dec z1 z2 z3 z4 z5).trans ?_
      rw [e4, e9, e10, e15, e19]
      rfl
    have q19 : ∀ (z1 : Int) (z2 : Bool) (z3 : Int) (z4 : ByteArray) (z5 : List AV) (z6 : ByteArray) (z7 : List AV), runK G (midrangelaw03_TaggedUnforged.C n) midrangelaw03_TaggedUnforged.cut (fun S => finK G Try.f7.resultTypes.toList Try.f7.results.toList S midrangelaw03_TaggedUnforged.dec) (m + 1) midrangelaw03_TaggedUnforged.t19 (midrangelaw03_TaggedUnforged.s19 z1 z2 z3 z4 z5 z6 z7) = ((midrangelaw03_TaggedUnforged.l n (m + 1)).2.2.2.2) z1 z2 z3 z4 z5 z6 z7 := by
      intro z1 z2 z3 z4 z5 z6 z7
      rw [runK_succ]
      refine (midrangelaw03_TaggedUnforged.r19_eq n _ midrangelaw03_TaggedUnforged.dec z1 z2 z3 z4 z5 z6 z7).trans ?_
      rw [e4, e9, e10, e15, e19]
      rfl
    exact ⟨q4, q9, q10, q15, q19⟩
theorem midrangelaw03_TaggedUnforged.hands (n : Nat) (a0 : ByteArray) (a1 : List AV) (a2 : Int) (a3 : Int) (a4 : ByteArray) (a5 : Int) (a6 : Int) (a7 : Int) {p : Bool} (h : midrangelaw03_TaggedUnforged.F n a0 a1 a2 a3 a4 a5 a6 a7 = some p) : HandsIn Try.prog 7 [AV.agg [vs a0, .sl true 1 a1], .agg [vi a2, vi a3, vs a4], .agg [vi a5, vi a6, vi a7]] (vb p) := by
  refine hands_of cfg mixed (fun _ => rfl) (midrangelaw03_TaggedUnforged.tells n) (fn := Try.f7) Try.func7 (by kernel_rfl) (by kernel_rfl) (cut := midrangelaw03_TaggedUnforged.cut) (K := midrangelaw03_TaggedUnforged.dec) (r := p) (n := n) midrangelaw03_TaggedUnforged.dec_inv ?_
  rw [funK_getD (by kernel_rfl)]
  have h1 := midrangelaw03_TaggedUnforged.e_eq n (runK G (midrangelaw03_TaggedUnforged.C n) midrangelaw03_TaggedUnforged.cut (fun S => finK G Try.f7.resultTypes.toList Try.f7.results.toList S midrangelaw03_TaggedUnforged.dec) n) midrangelaw03_TaggedUnforged.dec a0 a1 a2 a3 a4 a5 a6 a7
  have hl := midrangelaw03_TaggedUnforged.l_eq n n
  simp only [hl.1, hl.2.1, hl.2.2.1, hl.2.2.2.1, hl.2.2.2.2] at h1
  exact h1.trans h
noncomputable def midrangelaw03_TaggedUnforged.via {R : Type} (n : Nat) (xs : List AV) : (AV → Option R) → Option R := match xs with | [.agg [.v (.string a0), .sl true 1 a1], .agg [.v (.int .i64 a2), .v (.int .i64 a3), .v (.string a4)], .agg [.v (.int .i64 a5), .v (.int .i64 a6), .v (.int .i64 a7)]] => fun K => (midrangelaw03_TaggedUnforged.F n a0 a1 a2 a3 a4 a5 a6 a7).bind fun p => K (vb p) | _ => fun _ => none
theorem midrangelaw03_TaggedUnforged.tells1 {R : Type} (n : Nat) (xs : List AV) : Tells1 (R := R) Try.prog 7 xs (midrangelaw03_TaggedUnforged.via n xs) := by
  unfold midrangelaw03_TaggedUnforged.via
  split
  · exact Tells1.of (fun p hp => (midrangelaw03_TaggedUnforged.hands n _ _ _ _ _ _ _ _ hp).hands)
  · exact Tells1.none
end Go.Proofs.Ytgmpnhfnkhohiaa.Ev

/- Bytes make no pointers: chapter 3's theorem P3.8, in plain words. -/
namespace Go.Proofs.Ytgmpnhfnkhohiaa.Ev
open Go Go.Proofs Go.Proofs.Ev
set_option linter.unusedVariables false

theorem ba_ext {a b : ByteArray} (h : a.data.toList = b.data.toList) : a = b := by
  apply ByteArray.ext
  exact Array.toList_inj.1 h

/-- The bytes of a patched string. -/
theorem patch_list (s d : ByteArray) (a : Nat) : (patch s d a).data.toList = s.data.toList.take a ++ d.data.toList ++ s.data.toList.drop (a + d.size) := by
  unfold patch
  rw [ByteArray.data_append, ByteArray.data_append, Array.toList_append, Array.toList_append, extract_list, extract_list, List.drop_zero, Nat.sub_zero]
  congr 1
  apply List.take_of_length_le
  rw [List.length_drop, Array.length_toList]
  exact Nat.le_refl _
theorem patch_size {s d : ByteArray} {a : Nat} (h : a + d.size ≤ s.size) : (patch s d a).size = s.size := by
  unfold patch
  rw [ByteArray.size_append, ByteArray.size_append, extract_size _ _ _ (by omega), extract_size _ _ _ (by omega)]
  omega
theorem patch_empty {s d : ByteArray} {a : Nat} (h : d.size = 0) : patch s d a = s := by
  apply ba_ext
  rw [patch_list, h]
  have : d.data.toList = [] := List.length_eq_zero_iff.1 (by rw [Array.length_toList]; exact h)
  rw [this, List.append_nil, Nat.add_zero, List.take_append_drop]
theorem patch_outside {s d : ByteArray} {a i : Nat} (h : a + d.size ≤ s.size) (hi : i + 16 ≤ a ∨ a + d.size ≤ i) : (patch s d a).extract i (i + 16) = s.extract i (i + 16) := by
  apply ba_ext
  rw [extract_list, extract_list, patch_list]
  have hs : s.data.toList.length = s.size := Array.length_toList
  have hd : d.data.toList.length = d.size := Array.length_toList
  apply List.ext_getElem?
  intro j
  have hta : (s.data.toList.take a).length = a := by rw [List.length_take]; omega
  simp only [List.getElem?_take, List.getElem?_drop, List.getElem?_append, List.length_append, hta, hd]
  split
  · rcases hi with hi | hi
    · rw [if_pos (by omega), if_pos (by omega), if_pos (by omega)]
    · rw [if_neg (by omega)]
      congr 1
      omega
  · rfl
theorem patch_inside {s d : ByteArray} {a i : Nat} (h : a + d.size ≤ s.size) (hi : a ≤ i) (hi2 : i + 16 ≤ a + d.size) : (patch s d a).extract i (i + 16) = d.extract (i - a) (i - a + 16) := by
  apply ba_ext
  rw [extract_list, extract_list, patch_list]
  have hs : s.data.toList.length = s.size := Array.length_toList
  have hd : d.data.toList.length = d.size := Array.length_toList
  apply List.ext_getElem?
  intro j
  have hta : (s.data.toList.take a).length = a := by rw [List.length_take]; omega
  simp only [List.getElem?_take, List.getElem?_drop, List.getElem?_append, List.length_append, hta, hd]
  by_cases hj : j < 16
  · have c2 : i + j < a + d.size := by omega
    have c3 : ¬ (i + j < a) := by omega
    have c4 : j < i - a + 16 - (i - a) := by omega
    have c5 : j < i + 16 - i := by omega
    rw [if_pos c5, if_pos c2, if_neg c3, if_pos c4]
    congr 1
    omega
  · have c4 : ¬ (j < i - a + 16 - (i - a)) := by omega
    have c5 : ¬ (j < i + 16 - i) := by omega
    rw [if_neg c5, if_neg c4]
theorem extract_extract (s : ByteArray) (f k i : Nat) (h : f + k ≤ s.size) (hi : i + 16 ≤ k) : (s.extract f (f + k)).extract i (i + 16) = s.extract (f + i) (f + i + 16) := by
  apply ba_ext
  rw [extract_list, extract_list, extract_list]
  apply List.ext_getElem?
  intro j
  simp only [List.getElem?_take, List.getElem?_drop]
  by_cases hj : j < 16
  · rw [if_pos (by omega), if_pos (by omega), if_pos (by omega)]
    congr 1
    omega
  · rw [if_neg (by omega), if_neg (by omega)]

theorem kept_l (n : Nat) (s t : ByteArray) (ts us : List Bool) (h1 : t.size = s.size) (h2 : us.length = ts.length) (h3 : s.size = 16 * ts.length) (hl : ts.length ≤ 1000)
    (h : ∀ j, (hj : j < us.length) → us[j] = true → ts[j]'(h2 ▸ hj) = true ∧ t.extract (16 * j) (16 * j + 16) = s.extract (16 * j) (16 * j + 16)) : ∀ (d i m : Nat), i + d = us.length → d < m →
    (midrangelaw03_kept.l n m).2 i t (Bl us) s (Bl ts) = some true
  | _, _, 0, _, h => absurd h (by omega)
  | 0, i, m + 1, hi, _ => by
    simp only [midrangelaw03_kept.l, midrangelaw03_kept.r4, bl_length]
    rw [cond_f (by omega)]
  | d + 1, i, m + 1, hi, hm => by
    have hil : i < us.length := by omega
    have hil2 : i < ts.length := by omega
    have e1 : IntKind.i64.wrap ((i : Int) * 16) = ((16 * i : Nat) : Int) := by rw [w64] <;> omega
    have e2 : IntKind.i64.wrap (((16 * i : Nat) : Int) + 16) = ((16 * i + 16 : Nat) : Int) := by rw [w64] <;> omega
    have ih := kept_l n s t ts us h1 h2 h3 hl h d (i + 1) m (by omega) (by omega)
    simp only [midrangelaw03_kept.l, midrangelaw03_kept.r4, bl_length]
    rw [cond_t (by omega), within_t hil, within_t hil2, cond_true, Int.toNat_natCast, bl_get hil, bl_get hil2, wsucc (by omega), ih]
    simp only [AV.cells, withCons, withBool, e1, e2]
    cases hb : us[i] with
    | false => rfl
    | true =>
      obtain ⟨g1, g2⟩ := h i hil hb
      rw [upto_t (by omega), upto_t (by omega), upto_t2 (by omega)]
      simp only [cond_true, Int.toNat_natCast, g1, g2, Bool.not_true, cond_false, BEq.rfl]

theorem kept_eq {n : Nat} (hn : 1002 ≤ n) (s t : ByteArray) (ts us : List Bool) (h1 : t.size = s.size) (h2 : us.length = ts.length) (h3 : s.size = 16 * ts.length) (hl : ts.length ≤ 64)
    (h : ∀ j, (hj : j < us.length) → us[j] = true → ts[j]'(h2 ▸ hj) = true ∧ t.extract (16 * j) (16 * j + 16) = s.extract (16 * j) (16 * j + 16)) : midrangelaw03_kept.F n t (Bl us) s (Bl ts) = some true := by
  unfold midrangelaw03_kept.F midrangelaw03_kept.e
  have e1 : (((t.size : Nat) : Int) != ((s.size : Nat) : Int)) = false := by simp [h1]
  have e2 : (((us.length : Nat) : Int) != ((ts.length : Nat) : Int)) = false := by simp [h2]
  have e3 : (((t.size : Nat) : Int) != IntKind.i64.wrap (((us.length : Nat) : Int) * 16)) = false := by
    rw [w64 (by omega) (by omega)]
    simp only [bne_eq_false_iff_eq]
    omega
  simp only [bl_length, e1, e2, e3, cond_false]
  exact kept_l n s t ts us h1 h2 h3 (by omega) h us.length 0 n (by omega) (by omega)

theorem clr_true {ts : List Bool} {a k j : Nat} (hj : j < (clr ts a k).length) (h : (clr ts a k)[j] = true) : ts[j]'(by rw [clr_length] at hj; exact hj) = true ∧ ¬ (0 < k ∧ a / 16 ≤ j ∧ j ≤ (a + k - 1) / 16) := by
  have hj2 : j < ts.length := by rw [clr_length] at hj; exact hj
  simp only [clr, List.getElem_map, List.getElem_range] at h
  by_cases c : 0 < k ∧ a / 16 ≤ j ∧ j ≤ (a + k - 1) / 16
  · rw [if_pos c] at h; cases h
  · rw [if_neg c, List.getD_eq_getElem?_getD, List.getElem?_eq_getElem hj2] at h
    exact ⟨h, c⟩
theorem clr_kept {s d : ByteArray} {ts : List Bool} {a j : Nat} (h : a + d.size ≤ s.size) (hj : j < (clr ts a d.size).length) (hb : (clr ts a d.size)[j] = true) :
    (patch s d a).extract (16 * j) (16 * j + 16) = s.extract (16 * j) (16 * j + 16) := by
  obtain ⟨_, h2⟩ := clr_true hj hb
  by_cases hk : 0 < d.size
  · exact patch_outside h (by omega)
  · rw [patch_empty (by omega)]

/-- Each quadword of the second storage that has a tag stood in the first. -/
abbrev Came16 (s t : ByteArray) (ts us : List Bool) : Prop := ∀ i, (hi : i < us.length) → us[i] = true → ∃ j, ∃ hj : j < ts.length, ts[j] = true ∧ t.extract (16 * i) (16 * i + 16) = s.extract (16 * j) (16 * j + 16)

theorem unf_l (n : Nat) (s t : ByteArray) (ts us : List Bool) (h1 : t.size = s.size) (h2 : us.length = ts.length) (h3 : s.size = 16 * ts.length) (hl : ts.length ≤ 64) (h : Came16 s t ts us) : ∀ (e : Nat),
    (∀ (i m : Nat), i + e = us.length → e * (ts.length + 3) < m → (midrangelaw03_TaggedUnforged.l n m).2.2.2.1 i s (Bl ts) t (Bl us) = some true) := by
  intro e
  induction e with
  | zero =>
    intro i m hi hm
    obtain ⟨m, rfl⟩ : ∃ m', m = m' + 1 := ⟨m - 1, by omega⟩
    simp only [midrangelaw03_TaggedUnforged.l, midrangelaw03_TaggedUnforged.r15, bl_length]
    rw [cond_f (by omega)]
  | succ e ih =>
    intro i m hi hm
    obtain ⟨m, rfl⟩ : ∃ m', m = m' + 1 := ⟨m - 1, by omega⟩
    have hil : i < us.length := by omega
    simp only [midrangelaw03_TaggedUnforged.l, midrangelaw03_TaggedUnforged.r15, bl_length]
    rw [cond_t (by omega), within_t hil, cond_true, Int.toNat_natCast, bl_get hil]
    simp only [AV.cells, withCons, withBool]
    rw [Nat.succ_mul] at hm
    have e1 : IntKind.i64.wrap ((i : Int) * 16) = ((16 * i : Nat) : Int) := by rw [w64] <;> omega
    have e2 : IntKind.i64.wrap (((16 * i : Nat) : Int) + 16) = ((16 * i + 16 : Nat) : Int) := by rw [w64] <;> omega
    have inner : ∀ (d k m : Nat) (found : Bool), k + d = ts.length → e * (ts.length + 3) + d + 1 < m → (found = true ∨ ∃ j, ∃ hj : j < ts.length, k ≤ j ∧ ts[j] = true ∧ t.extract (16 * i) (16 * i + 16) = s.extract (16 * j) (16 * j + 16)) →
        (midrangelaw03_TaggedUnforged.l n m).2.2.2.2 i found k s (Bl ts) t (Bl us) = some true := by
      intro d
      induction d with
      | zero =>
        intro k m found hk hm hf
        obtain ⟨m, rfl⟩ : ∃ m', m = m' + 1 := ⟨m - 1, by omega⟩
        have : found = true := by
          rcases hf with hf | ⟨j, hj, hkj, _⟩
          · exact hf
          · omega
        subst this
        simp only [midrangelaw03_TaggedUnforged.l, midrangelaw03_TaggedUnforged.r19, bl_length]
        rw [cond_f (by omega)]
        simp only [Bool.not_true, cond_false]
        rw [wsucc (by omega)]
        exact ih (i + 1) m (by omega) (by omega)
      | succ d ihd =>
        intro k m found hk hm hf
        obtain ⟨m, rfl⟩ : ∃ m', m = m' + 1 := ⟨m - 1, by omega⟩
        have hkl : k < ts.length := by omega
        have e3 : IntKind.i64.wrap ((k : Int) * 16) = ((16 * k : Nat) : Int) := by rw [w64] <;> omega
        have e4 : IntKind.i64.wrap (((16 * k : Nat) : Int) + 16) = ((16 * k + 16 : Nat) : Int) := by rw [w64] <;> omega
        simp only [midrangelaw03_TaggedUnforged.l, midrangelaw03_TaggedUnforged.r19, bl_length]
        rw [cond_t (by omega)]
        cases found with
        | true =>
          simp only [Bool.not_true, cond_false]
          rw [wsucc (by omega)]
          exact ih (i + 1) m (by omega) (by omega)
        | false =>
          simp only [Bool.not_false, cond_true]
          rw [within_t hkl, cond_true, Int.toNat_natCast, bl_get hkl]
          simp only [AV.cells, withCons, withBool, e1, e2, e3, e4]
          rw [wsucc (by omega)]
          rcases hf with hf | ⟨j, hj, hkj, hb, hq⟩
          · cases hf
          · cases hbk : ts[k] with
            | false =>
              simp only [cond_false]
              refine ihd (k + 1) m false (by omega) (by omega) (.inr ⟨j, hj, ?_, hb, hq⟩)
              by_cases ejk : j = k
              · subst ejk; rw [hb] at hbk; cases hbk
              · omega
            | true =>
              rw [upto_t (by omega), upto_t2 (by omega), upto_t (by omega), upto_t2 (by omega)]
              simp only [cond_true, Int.toNat_natCast]
              refine ihd (k + 1) m _ (by omega) (by omega) ?_
              by_cases ejk : j = k
              · subst ejk; exact .inl (by rw [hq]; exact BEq.rfl)
              · exact .inr ⟨j, hj, by omega, hb, hq⟩
    refine inner ts.length 0 m (!us[i]) (by omega) (by omega) ?_
    cases hb : us[i] with
    | false => exact .inl rfl
    | true =>
      obtain ⟨j, hj, g1, g2⟩ := h i hil hb
      exact .inr ⟨j, hj, by omega, g1, g2⟩

theorem mix_came {s : ByteArray} {ts : List Bool} {f t k : Nat} (h3 : s.size = 16 * ts.length) (hf : f + k ≤ s.size) (ht : t + k ≤ s.size) (hft : f % 16 = t % 16) :
    Came16 s (patch s (s.extract f (f + k)) t) ts (mix ts f t k ts.length) := by
  intro i hi hb
  have hi2 : i < ts.length := by rw [mix_length] at hi; exact hi
  simp only [mix, List.getElem_map, List.getElem_range] at hb
  by_cases c : t ≤ 16 * i ∧ 16 * i + 16 ≤ t + k ∧ i < ts.length
  · rw [if_pos c] at hb
    have hj : (16 * i - t + f) / 16 < ts.length := by omega
    rw [List.getD_eq_getElem?_getD, List.getElem?_eq_getElem hj] at hb
    refine ⟨(16 * i - t + f) / 16, hj, hb, ?_⟩
    rw [patch_inside (by rw [cut_size hf]; exact ht) c.1 (by rw [cut_size hf]; exact c.2.1), extract_extract s f k (16 * i - t) hf (by omega)]
    rw [show f + (16 * i - t) = 16 * ((16 * i - t + f) / 16) by omega]
  · rw [if_neg c] at hb
    have hic : i < (clr ts t k).length := by rw [clr_length]; exact hi2
    rw [List.getD_eq_getElem?_getD, List.getElem?_eq_getElem hic] at hb
    have hb' : (clr ts t k)[i] = true := hb
    refine ⟨i, hi2, (clr_true hic hb').1, ?_⟩
    have hcs := cut_size hf
    have key : ∀ (k' : Nat) (hk : k' = k) (hic : i < (clr ts t k').length), (clr ts t k')[i] = true → (s.extract f (f + k)).size = k' → (patch s (s.extract f (f + k)) t).extract (16 * i) (16 * i + 16) = s.extract (16 * i) (16 * i + 16) := by
      intro k' hk hic hb hcs
      subst hcs
      exact clr_kept (by rw [cut_size hf]; exact ht) hic hb
    exact key k rfl hic hb' hcs

/-- P3.8. -/
theorem unforged_law {n : Nat} (hn : 1000002 ≤ n) (s : ByteArray) (ts : List Bool) (a k : Int) (d : ByteArray) (b c e : Int) : midrangelaw03_TaggedUnforged.F n s (Bl ts) a k d b c e = some true := by
  unfold midrangelaw03_TaggedUnforged.F midrangelaw03_TaggedUnforged.e
  obtain ⟨m, hm⟩ : ∃ m, n = m + 1 := ⟨n - 1, by omega⟩
  have c4 : (midrangelaw03_TaggedUnforged.l n n).1 () = some true := by
    rw [congrArg (midrangelaw03_TaggedUnforged.l n) hm]
    rfl
  have c10 : ∀ z1 z2 z3 z4 z5, (midrangelaw03_TaggedUnforged.l n n).2.2.1 z1 z2 z3 z4 z5 = midrangelaw03_TaggedUnforged.r10 n (midrangelaw03_TaggedUnforged.l n m).1 (midrangelaw03_TaggedUnforged.l n m).2.1 (midrangelaw03_TaggedUnforged.l n m).2.2.1 (midrangelaw03_TaggedUnforged.l n m).2.2.2.1 (midrangelaw03_TaggedUnforged.l n m).2.2.2.2 Option.some z1 z2 z3 z4 z5 := by
    intros
    rw [congrArg (midrangelaw03_TaggedUnforged.l n) hm]
    rfl
  rw [awake_eq hn, few_eq, c4]
  simp only [Option.bind_some, Bool.not_true, cond_false]
  cases hf : (decide (s.size ≤ 1072) && decide (ts.length ≤ 67)) with
  | false => rfl
  | true =>
    simp only [Bool.and_eq_true, decide_eq_true_eq] at hf
    obtain ⟨hs, hl⟩ := hf
    obtain ⟨r, r1, r2, r3⟩ := checkS_eq (n := n) (by omega) s ts hs
    have r4 : r.2 = 0 → s.size = 16 * ts.length ∧ ts.length ≤ 64 := fun h => ⟨(r3 h).1, (r3 h).2.1⟩
    by_cases hd : ((d.size : Nat) : Int) > 1200
    · simp only [hd, decide_true, cond_true, Bool.not_true, cond_false]
    · simp only [hd, decide_false, cond_false, Bool.not_true]
      rw [err_eq r2]
      simp only [Option.bind_some]
      cases hc : r.2 != 0 with
      | true => rfl
      | false =>
        obtain ⟨g1, g2⟩ := r4 (by simpa using hc)
        rw [own_eq n s ts (by omega)]
        simp only [Option.bind_some, cond_false]
        rw [writeBytes_eq (by omega) s d ts hs r1 r4, copyBytes_eq (by omega) s ts hs r1 r4, copyWithTags_eq (by omega) s ts hs r1 r4, hc]
        simp only [Option.bind_some, cond_false]
        have fin : (midrangelaw03_TaggedUnforged.l n n).2.2.1 (bif inR s b e then bif inR s c e then bif Int.tmod b 16 != Int.tmod c 16 then ((⟨#[]⟩ : ByteArray), ([] : List AV), (15 : Int)) else (patch s (s.extract b.toNat (b.toNat + e.toNat)) c.toNat, Bl (mix ts b.toNat c.toNat e.toNat ts.length), 0) else (⟨#[]⟩, [], 3) else (⟨#[]⟩, [], 3)).2.2 s (Bl ts)
            (bif inR s b e then bif inR s c e then bif Int.tmod b 16 != Int.tmod c 16 then ((⟨#[]⟩ : ByteArray), ([] : List AV), (15 : Int)) else (patch s (s.extract b.toNat (b.toNat + e.toNat)) c.toNat, Bl (mix ts b.toNat c.toNat e.toNat ts.length), 0) else (⟨#[]⟩, [], 3) else (⟨#[]⟩, [], 3)).1
            (bif inR s b e then bif inR s c e then bif Int.tmod b 16 != Int.tmod c 16 then ((⟨#[]⟩ : ByteArray), ([] : List AV), (15 : Int)) else (patch s (s.extract b.toNat (b.toNat + e.toNat)) c.toNat, Bl (mix ts b.toNat c.toNat e.toNat ts.length), 0) else (⟨#[]⟩, [], 3) else (⟨#[]⟩, [], 3)).2.1 = some true := by
          rw [c10]
          unfold midrangelaw03_TaggedUnforged.r10
          cases hb : inR s b e with
          | false => rfl
          | true =>
            cases hcc : inR s c e with
            | false => rfl
            | true =>
              obtain ⟨f, q, rfl, rfl, hfq⟩ := inR_of hb
              obtain ⟨t, q', rfl, hqq, htq⟩ := inR_of hcc
              have hqq : q = q' := by omega
              subst hqq
              cases hg : Int.tmod (f : Int) 16 != Int.tmod (t : Int) 16 with
              | true => rfl
              | false =>
                have hft : f % 16 = t % 16 := by
                  have : Int.tmod (f : Int) 16 = Int.tmod (t : Int) 16 := by simpa using hg
                  rw [tmod16 (by omega), tmod16 (by omega)] at this
                  omega
                have hps : (patch s (s.extract f (f + q)) t).size = s.size := patch_size (by rw [cut_size hfq]; exact htq)
                simp only [cond_true, cond_false, bne_self_eq_false, Int.toNat_natCast, bl_length, mix_length, hps]
                have hmul : ts.length * (ts.length + 3) ≤ 64 * 67 := Nat.mul_le_mul (by omega) (by omega)
                exact unf_l n s _ ts _ hps (mix_length _ _ _ _ _) g1 g2 (mix_came g1 hfq htq hft) ts.length 0 m (by rw [mix_length]; omega) (by omega)
        have kw : ∀ (x : ByteArray) (z : Int), inR s z x.size = true → midrangelaw03_kept.F n (patch s x z.toNat) (Bl (clr ts z.toNat x.size)) s (Bl ts) = some true := by
          intro x z hz
          obtain ⟨f, q, rfl, hq, hfq⟩ := inR_of hz
          have hfq : f + x.size ≤ s.size := by omega
          rw [Int.toNat_natCast]
          exact kept_eq (by omega) s _ ts _ (patch_size hfq) (clr_length _ _ _) g1 g2 (fun j hj hb => ⟨(clr_true hj hb).1, clr_kept hfq hj hb⟩)
        have second : (bif (bif inR s b e then bif inR s c e then (patch s (s.extract b.toNat (b.toNat + e.toNat)) c.toNat, Bl (clr ts c.toNat e.toNat), (0 : Int)) else (⟨#[]⟩, [], 3) else (⟨#[]⟩, [], 3)).2.2 == 0 then
            ((midrangelaw03_kept.F n (bif inR s b e then bif inR s c e then (patch s (s.extract b.toNat (b.toNat + e.toNat)) c.toNat, Bl (clr ts c.toNat e.toNat), (0 : Int)) else (⟨#[]⟩, [], 3) else (⟨#[]⟩, [], 3)).1 (bif inR s b e then bif inR s c e then (patch s (s.extract b.toNat (b.toNat + e.toNat)) c.toNat, Bl (clr ts c.toNat e.toNat), (0 : Int)) else (⟨#[]⟩, [], 3) else (⟨#[]⟩, [], 3)).2.1 s (Bl ts)).bind fun p => bif !p then ((midrangelaw03_TaggedUnforged.l n n).2.1 ()) else some true) else some true) = some true := by
          cases hb : inR s b e with
          | false => rfl
          | true =>
            cases hcc : inR s c e with
            | false => rfl
            | true =>
              obtain ⟨f, q, rfl, rfl, hfq⟩ := inR_of hb
              obtain ⟨t, q', rfl, hqq, htq⟩ := inR_of hcc
              have hqq : q = q' := by omega
              subst hqq
              have hk := kw (s.extract f (f + q)) (t : Int) (by rw [cut_size hfq]; exact hcc)
              rw [cut_size hfq] at hk
              simp only [cond_true, Int.toNat_natCast, BEq.rfl] at hk ⊢
              rw [hk]
              rfl
        rw [fin]
        cases ha : inR s a d.size with
        | false =>
          simp only [cond_false, show ((3 : Int) == 0) = false from rfl]
          exact second
        | true =>
          simp only [cond_true, BEq.rfl]
          rw [kw d a ha]
          simp only [Option.bind_some, Bool.not_true, cond_false]
          exact second
end Go.Proofs.Ytgmpnhfnkhohiaa.Ev

/- Contracts of Go's library, laid at this program by the kit's shelf. -/
namespace Go.Proofs
open Go.Shelf
def Try.laysM143_ren : Go.Shelf.Ren := ⟨fun | 143 => 59 | 219 => 65 | 217 => 73 | 225 => 74 | 224 => 75 | 267 => 76 | 266 => 82 | 314 => 83 | n => n, fun | 9 => 9 | 3 => 3 | 4 => 4 | 5 => 5 | 46 => 97 | 146 => 116 | 51 => 115 | n => n, fun | 1 => 0 | n => n⟩
theorem Try.laysM143 : Go.Proofs.LaysM.n143 Try.prog Try.laysM143_ren := {
  mixed := by kernel_rfl
  f143 := Try.func59.trans (congrArg some (by kernel_rfl))
  f217 := Try.func73.trans (congrArg some (by kernel_rfl))
  f219 := Try.func65.trans (congrArg some (by kernel_rfl))
  f224 := Try.func75.trans (congrArg some (by kernel_rfl))
  f225 := Try.func74.trans (congrArg some (by kernel_rfl))
  f266 := Try.func82.trans (congrArg some (by kernel_rfl))
  f267 := Try.func76.trans (congrArg some (by kernel_rfl))
  f314 := Try.func83.trans (congrArg some (by kernel_rfl))
  t3 := Try.underlying3
  a3 := Try.isAgg3
  z3 := Try.sizeOf3
  v3 := Try.zeroValue3
  t4 := Try.underlying4
  a4 := Try.isAgg4
  z4 := Try.sizeOf4
  v4 := Try.zeroValue4
  t5 := Try.underlying5
  a5 := Try.isAgg5
  z5 := Try.sizeOf5
  v5 := Try.zeroValue5
  t9 := Try.underlying9
  a9 := Try.isAgg9
  z9 := Try.sizeOf9
  v9 := Try.zeroValue9
  t46 := Try.underlying97
  a46 := Try.isAgg97
  z46 := Try.sizeOf97
  v46 := Try.zeroValue97
  t51 := Try.underlying115
  a51 := Try.isAgg115
  z51 := Try.sizeOf115
  v51 := Try.zeroValue115
  t146 := Try.underlying116
  a146 := Try.isAgg116
  z146 := Try.sizeOf116
  v146 := Try.zeroValue116
  g1 := by kernel_rfl
  i3 := by kernel_rfl
  i4 := by kernel_rfl
  i5 := by kernel_rfl
  i9 := by kernel_rfl
  i46 := by kernel_rfl
  i51 := by kernel_rfl
  i146 := by kernel_rfl
  m1 := by kernel_rfl
  s1_3 := fun w h => Go.Proofs.cell_of_shapedOpen_int (zero := #[.int .i64 0]) (t := 3) h (of_decide_eq_true (by kernel_rfl)) (by kernel_rfl) rfl (by kernel_rfl) (by kernel_rfl) Try.underlying3 }
open Go.RowKit Go.Lib in
theorem Try.strings_Index_shaped (s sub : ByteArray) (w : World) (h : w.ShapedOpen Try.prog) (hs : s.size < 4294967281) :
    Calls Try.prog 59 #[.string s, .string sub] w fun e w' => e = .returned (.int .i64 (Lib.index s.data.toList sub.data.toList)) ∧ w' = w := Any.strings_Index_shaped Try.laysM143 s sub w h hs
def Try.lays105_ren : Go.Shelf.Ren := ⟨fun | 105 => 60 | 212 => 66 | 99 => 67 | 165 => 68 | 166 => 69 | 170 => 70 | 169 => 71 | 263 => 77 | 264 => 78 | 206 => 79 | 240 => 80 | 241 => 81 | 276 => 84 | 277 => 85 | n => n, fun | 9 => 9 | 3 => 3 | 4 => 4 | 20 => 20 | 0 => 0 | 46 => 97 | 109 => 98 | 5 => 5 | 72 => 103 | 76 => 107 | 51 => 115 | 146 => 116 | 53 => 118 | 148 => 119 | 70 => 101 | 37 => 94 | 75 => 106 | 127 => 121 | 164 => 123 | 80 => 110 | n => n, fun | n => n⟩
theorem Try.lays105 : Go.Proofs.Lays.n105 Try.prog Try.lays105_ren := {
  mixed := by kernel_rfl
  f99 := Try.func67.trans (congrArg some (by kernel_rfl))
  f105 := Try.func60.trans (congrArg some (by kernel_rfl))
  f165 := Try.func68.trans (congrArg some (by kernel_rfl))
  f166 := Try.func69.trans (congrArg some (by kernel_rfl))
  f169 := Try.func71.trans (congrArg some (by kernel_rfl))
  f170 := Try.func70.trans (congrArg some (by kernel_rfl))
  f206 := Try.func79.trans (congrArg some (by kernel_rfl))
  f212 := Try.func66.trans (congrArg some (by kernel_rfl))
  f240 := Try.func80.trans (congrArg some (by kernel_rfl))
  f241 := Try.func81.trans (congrArg some (by kernel_rfl))
  f263 := Try.func77.trans (congrArg some (by kernel_rfl))
  f264 := Try.func78.trans (congrArg some (by kernel_rfl))
  f276 := Try.func84.trans (congrArg some (by kernel_rfl))
  f277 := Try.func85.trans (congrArg some (by kernel_rfl))
  t0 := Try.underlying0
  a0 := Try.isAgg0
  z0 := Try.sizeOf0
  v0 := Try.zeroValue0
  t3 := Try.underlying3
  a3 := Try.isAgg3
  z3 := Try.sizeOf3
  v3 := Try.zeroValue3
  t4 := Try.underlying4
  a4 := Try.isAgg4
  z4 := Try.sizeOf4
  v4 := Try.zeroValue4
  t5 := Try.underlying5
  a5 := Try.isAgg5
  z5 := Try.sizeOf5
  v5 := Try.zeroValue5
  t9 := Try.underlying9
  a9 := Try.isAgg9
  z9 := Try.sizeOf9
  v9 := Try.zeroValue9
  t20 := Try.underlying20
  a20 := Try.isAgg20
  z20 := Try.sizeOf20
  v20 := Try.zeroValue20
  t37 := Try.underlying94
  a37 := Try.isAgg94
  z37 := Try.sizeOf94
  v37 := Try.zeroValue94
  t46 := Try.underlying97
  a46 := Try.isAgg97
  z46 := Try.sizeOf97
  v46 := Try.zeroValue97
  t51 := Try.underlying115
  a51 := Try.isAgg115
  z51 := Try.sizeOf115
  v51 := Try.zeroValue115
  t53 := Try.underlying118
  a53 := Try.isAgg118
  z53 := Try.sizeOf118
  v53 := Try.zeroValue118
  t70 := Try.underlying101
  a70 := Try.isAgg101
  z70 := Try.sizeOf101
  v70 := Try.zeroValue101
  t72 := Try.underlying103
  a72 := Try.isAgg103
  z72 := Try.sizeOf103
  v72 := Try.zeroValue103
  t75 := Try.underlying106
  a75 := Try.isAgg106
  z75 := Try.sizeOf106
  v75 := Try.zeroValue106
  t76 := Try.underlying107
  a76 := Try.isAgg107
  z76 := Try.sizeOf107
  v76 := Try.zeroValue107
  t109 := Try.underlying98
  a109 := Try.isAgg98
  z109 := Try.sizeOf98
  v109 := Try.zeroValue98
  t127 := Try.underlying121
  a127 := Try.isAgg121
  z127 := Try.sizeOf121
  v127 := Try.zeroValue121
  t146 := Try.underlying116
  a146 := Try.isAgg116
  z146 := Try.sizeOf116
  v146 := Try.zeroValue116
  t148 := Try.underlying119
  a148 := Try.isAgg119
  z148 := Try.sizeOf119
  v148 := Try.zeroValue119
  t164 := Try.underlying123
  a164 := Try.isAgg123
  z164 := Try.sizeOf123
  v164 := Try.zeroValue123 }
theorem Try.Builder_Extra_105 : Builder.Extra Try.prog Try.lays105_ren := {
  sizeBuilder := by kernel_rfl
  liesBuilder := by kernel_rfl
  t5 := Try.underlying5
  a5 := Try.isAgg5
  z5 := Try.sizeOf5
  v5 := Try.zeroValue5
  infoByte := by kernel_rfl
  cellsByte := by kernel_rfl
  sizeByte := by kernel_rfl
  neB5 := by decide }
open Go.RowKit Go.Lib in
theorem Try.strings_Repeat (s : ByteArray) (c : Nat) (w : World) (hc : c ≤ 9223372036854775807) (hlen : s.size * c ≤ 140737488355328) :
    Calls Try.prog 60 #[.string s, .int .i64 c] w fun e w' => e = .returned (.string ⟨(Lib.repeatL s.data.toList c).toArray⟩) ∧ Below w.heap.size w w' := Any.strings_Repeat Try.lays105 Try.Builder_Extra_105 s c w hc hlen
end Go.Proofs

/- strings.Index, out of the library's contract. Printed by the session's own program. -/
namespace Go.Proofs.Ytgmpnhfnkhohiaa.Ev
open Go Go.Proofs Go.Proofs.Ev
set_option linter.unusedVariables false
set_option maxRecDepth 100000
noncomputable def strings_Index.F (n : Nat) (s : ByteArray) (t : ByteArray) : Option (Int) := bif decide (s.size < 4294967281) then Option.some (Lib.index s.data.toList t.data.toList) else none
theorem strings_Index.hands (n : Nat) (s : ByteArray) (t : ByteArray) {p : Int} (h : strings_Index.F n s t = some p) : HandsIn Try.prog 59 [vs s, vs t] (.v (.int .i64 p)) := by
  unfold strings_Index.F at h
  cases hc : (decide (s.size < 4294967281)) with
  | false => rw [hc] at h; cases h
  | true =>
    rw [hc] at h
    cases h
    refine hands_calls (fn := Try.f59) Try.func59 (by kernel_rfl) (by kernel_rfl) fun w F vals hQ hF hl hr => ?_
    obtain ⟨u, v, rfl, hu, hv⟩ := vals2 hl hr
    obtain rfl := rel_v hu
    obtain rfl := rel_v hv
    refine (Try.strings_Index_shaped s t w hQ (of_decide_eq_true hc)).mono ?_
    rintro e w' ⟨rfl, rfl⟩
    exact ⟨F, fun _ => none, Came.same hF, .v _ rfl⟩
noncomputable def strings_Index.via {R : Type} (n : Nat) (ys : List AV) : (AV → Option R) → Option R := match ys with | [.v (.string s), .v (.string t)] => fun K => (strings_Index.F n s t).bind fun p => K (.v (.int .i64 p)) | _ => fun _ => none
theorem strings_Index.tells1 {R : Type} (n : Nat) (ys : List AV) : Tells1 (R := R) Try.prog 59 ys (strings_Index.via n ys) := by
  unfold strings_Index.via
  split
  · exact Tells1.of (fun p hp => (strings_Index.hands n _ _ hp).hands)
  · exact Tells1.none
end Go.Proofs.Ytgmpnhfnkhohiaa.Ev

/- midrange/tagged.FindBytes, out of its evaluation. Printed by the session's own program. -/
namespace Go.Proofs.Ytgmpnhfnkhohiaa.Ev
open Go Go.Proofs Go.Proofs.Ev
set_option linter.unusedVariables false
set_option maxRecDepth 100000
/-! midrange/tagged.FindBytes: function 36 -/
noncomputable def tagged_FindBytes.e {R : Type} (n : Nat)  (k : Int × Int → Option R) (a0 : ByteArray) (a1 : List AV) (a2 : Int) (a3 : ByteArray) : Option R :=
  (tagged_inside.F n a0 a1 a2 0).bind fun p1 =>
  bif p1 != 0 then (k (0, p1)) else (let y2 : Bool := a3.toList == (⟨#[]⟩ : ByteArray).toList
  bif y2 then (k (0, 1)) else (let y3 : Bool := decide (((a3.size : Nat) : Int) > ((a0.size : Nat) : Int))
  bif y3 then (k (0, 40)) else (bif decide ((0 : Int) ≤ a2) && decide ((a2 : Int) ≤ ((a0.size : Nat) : Int)) then (let y4 : ByteArray := a0.extract (a2).toNat a0.size
  (strings_Index.F n y4 a3).bind fun p5 =>
  bif decide (p5 < 0) then (k (0, 40)) else (k (IntKind.i64.wrap (a2 + p5), 0))) else none)))
noncomputable def tagged_FindBytes.C {R : Type} (n : Nat) (f : FuncId) (xs : List AV) : (AV → Option R) → Option R :=
  bif Nat.beq f 51 then tagged_inside.via n xs else bif Nat.beq f 59 then strings_Index.via n xs else fun _ => none
theorem tagged_FindBytes.tells {R : Type} (n : Nat) : Tells (R := R) Try.prog (tagged_FindBytes.C n) := fun _ xs => tells_at (tagged_inside.tells1 n xs) (tells_at (strings_Index.tells1 n xs) (Tells1.none))
noncomputable def tagged_FindBytes.cut (r : Nat) : Option Keep := match r with  | _ => none
theorem tagged_FindBytes.e_eq {R : Type} (n : Nat) (rec : List Item → St → Option R) (K : AV → Option R) (a0 : ByteArray) (a1 : List AV) (a2 : Int) (a3 : ByteArray) :
    goK G (tagged_FindBytes.C n) tagged_FindBytes.cut (fun S => finK G Try.f36.resultTypes.toList Try.f36.results.toList S K) rec 1000 [.code (Try.f36.body.getD .skip)] (Ev.start Try.f36 [AV.agg [vs a0, .sl true 1 a1], vi a2, vs a3]) = tagged_FindBytes.e n  (fun p => K (.tup [vi p.1, vi p.2])) a0 a1 a2 a3 := by kernel_rfl
noncomputable def tagged_FindBytes.F (n : Nat) (a0 : ByteArray) (a1 : List AV) (a2 : Int) (a3 : ByteArray) : Option (Int × Int) := tagged_FindBytes.e n  Option.some a0 a1 a2 a3
noncomputable def tagged_FindBytes.dec (x : AV) : Option (Int × Int) := match x with | .tup [.v (.int .i64 p0), .v (.int .i64 p1)] => Option.some (p0, p1) | _ => none
theorem tagged_FindBytes.dec_inv {p : Int × Int} (y : AV) (h : tagged_FindBytes.dec y = some p) : y = .tup [vi p.1, vi p.2] := by
  unfold tagged_FindBytes.dec at h
  split at h
  · cases h; rfl
  · cases h
theorem tagged_FindBytes.hands (n : Nat) (a0 : ByteArray) (a1 : List AV) (a2 : Int) (a3 : ByteArray) {p : Int × Int} (h : tagged_FindBytes.F n a0 a1 a2 a3 = some p) : HandsIn Try.prog 36 [AV.agg [vs a0, .sl true 1 a1], vi a2, vs a3] (.tup [vi p.1, vi p.2]) := by
  refine hands_of cfg mixed (fun _ => rfl) (tagged_FindBytes.tells n) (fn := Try.f36) Try.func36 (by kernel_rfl) (by kernel_rfl) (cut := tagged_FindBytes.cut) (K := tagged_FindBytes.dec) (r := p) (n := n) tagged_FindBytes.dec_inv ?_
  rw [funK_getD (by kernel_rfl)]
  have h1 := tagged_FindBytes.e_eq n (runK G (tagged_FindBytes.C n) tagged_FindBytes.cut (fun S => finK G Try.f36.resultTypes.toList Try.f36.results.toList S tagged_FindBytes.dec) n) tagged_FindBytes.dec a0 a1 a2 a3
  exact h1.trans h
noncomputable def tagged_FindBytes.via {R : Type} (n : Nat) (xs : List AV) : (AV → Option R) → Option R := match xs with | [.agg [.v (.string a0), .sl true 1 a1], .v (.int .i64 a2), .v (.string a3)] => fun K => (tagged_FindBytes.F n a0 a1 a2 a3).bind fun p => K (.tup [vi p.1, vi p.2]) | _ => fun _ => none
theorem tagged_FindBytes.tells1 {R : Type} (n : Nat) (xs : List AV) : Tells1 (R := R) Try.prog 36 xs (tagged_FindBytes.via n xs) := by
  unfold tagged_FindBytes.via
  split
  · exact Tells1.of (fun p hp => (tagged_FindBytes.hands n _ _ _ _ hp).hands)
  · exact Tells1.none
end Go.Proofs.Ytgmpnhfnkhohiaa.Ev

/- midrange/tagged.PointersIn, out of its evaluation. Printed by the session's own program. -/
namespace Go.Proofs.Ytgmpnhfnkhohiaa.Ev
open Go Go.Proofs Go.Proofs.Ev
set_option linter.unusedVariables false
set_option maxRecDepth 100000
/-! midrange/tagged.PointersIn: function 37 -/
noncomputable def tagged_PointersIn.r6 {R : Type} (n : Nat) (c6 : List AV → Int → Int → List AV → Option R) (k : List AV × Int → Option R) (z1 : List AV) (z2 : Int) (z3 : Int) (z4 : List AV) : Option R :=
  bif decide (z3 < z2) then (bif decide ((0 : Int) ≤ z3) && decide (z3 < ((z1.length : Nat) : Int)) then (withCons ((z1.getD ((z3).toNat) .undef).cells) fun c2 r3 =>
  withBool c2 fun b4 =>
  bif b4 then (let y5 : List AV := [vi (IntKind.i64.wrap (z3 * 16))]
  bif decide (z4.length + y5.length ≤ most) then (c6 z1 z2 (IntKind.i64.wrap (z3 + 1)) (z4 ++ y5)) else none) else (c6 z1 z2 (IntKind.i64.wrap (z3 + 1)) z4)) else none) else (k (z4, 0))
noncomputable def tagged_PointersIn.e {R : Type} (n : Nat) (c6 : List AV → Int → Int → List AV → Option R) (k : List AV × Int → Option R) (a0 : ByteArray) (a1 : List AV) : Option R :=
  (tagged_CheckStorage.F n a0 a1).bind fun p1 =>
  bif p1.2 != 0 then (k ([], p1.2)) else (c6 a1 ((a1.length : Nat) : Int) 0 [])
noncomputable def tagged_PointersIn.C {R : Type} (n : Nat) (f : FuncId) (xs : List AV) : (AV → Option R) → Option R :=
  bif Nat.beq f 42 then tagged_CheckStorage.via n xs else fun _ => none
theorem tagged_PointersIn.tells {R : Type} (n : Nat) : Tells (R := R) Try.prog (tagged_PointersIn.C n) := fun _ xs => tells_at (tagged_CheckStorage.tells1 n xs) (Tells1.none)
noncomputable def tagged_PointersIn.cut (r : Nat) : Option Keep := match r with | 6 => Option.some ⟨[6, 18, 19, 20], [(6, none, true, 1)]⟩ | _ => none
noncomputable def tagged_PointersIn.t6 : List Item := (todoOf 6 1000 [.code (Try.f37.body.getD .skip)]).getD []
noncomputable def tagged_PointersIn.s6 (z1 : List AV) (z2 : Int) (z3 : Int) (z4 : List AV) : St := ⟨[.undef, .undef, .undef, .undef, .undef, .undef, .own 0 0 none, .undef, .undef, .undef, .undef, .undef, .undef, .undef, .undef, .undef, .undef, .undef, .sl true 1 z1, vi z2, vi z3, .undef, .undef, .undef, .undef, .undef, .undef, .undef, .undef, .undef, .undef, .undef, .undef], Mem.ofList [.row true 1 z4], 1⟩
theorem tagged_PointersIn.e_eq {R : Type} (n : Nat) (rec : List Item → St → Option R) (K : AV → Option R) (a0 : ByteArray) (a1 : List AV) :
    goK G (tagged_PointersIn.C n) tagged_PointersIn.cut (fun S => finK G Try.f37.resultTypes.toList Try.f37.results.toList S K) rec 1000 [.code (Try.f37.body.getD .skip)] (Ev.start Try.f37 [AV.agg [vs a0, .sl true 1 a1]]) = tagged_PointersIn.e n (fun z1 z2 z3 z4 => rec tagged_PointersIn.t6 (tagged_PointersIn.s6 z1 z2 z3 z4)) (fun p => K (.tup [.fr true 1 p.1, vi p.2])) a0 a1 := by kernel_rfl
theorem tagged_PointersIn.r6_eq {R : Type} (n : Nat) (rec : List Item → St → Option R) (K : AV → Option R) (z1 : List AV) (z2 : Int) (z3 : Int) (z4 : List AV) :
    atK G (tagged_PointersIn.C n) tagged_PointersIn.cut (fun S => finK G Try.f37.resultTypes.toList Try.f37.results.toList S K) rec tagged_PointersIn.t6 (tagged_PointersIn.s6 z1 z2 z3 z4) = tagged_PointersIn.r6 n (fun z1 z2 z3 z4 => rec tagged_PointersIn.t6 (tagged_PointersIn.s6 z1 z2 z3 z4)) (fun p => K (.tup [.fr true 1 p.1, vi p.2])) z1 z2 z3 z4 := by kernel_rfl
noncomputable def tagged_PointersIn.l (n : Nat) : Nat → (List AV → Int → Int → List AV → Option (List AV × Int))
  | 0 => (fun _ _ _ _ => none)
  | m + 1 => tagged_PointersIn.r6 n (tagged_PointersIn.l n m) Option.some
noncomputable def tagged_PointersIn.F (n : Nat) (a0 : ByteArray) (a1 : List AV) : Option (List AV × Int) := tagged_PointersIn.e n (tagged_PointersIn.l n n) Option.some a0 a1
noncomputable def tagged_PointersIn.dec (x : AV) : Option (List AV × Int) := match x with | .tup [.fr true 1 p0, .v (.int .i64 p1)] => Option.some (p0, p1) | _ => none
theorem tagged_PointersIn.dec_inv {p : List AV × Int} (y : AV) (h : tagged_PointersIn.dec y = some p) : y = .tup [.fr true 1 p.1, vi p.2] := by
  unfold tagged_PointersIn.dec at h
  split at h
  · cases h; rfl
  · cases h
theorem tagged_PointersIn.l_eq (n m : Nat) : (∀ (z1 : List AV) (z2 : Int) (z3 : Int) (z4 : List AV), runK G (tagged_PointersIn.C n) tagged_PointersIn.cut (fun S => finK G Try.f37.resultTypes.toList Try.f37.results.toList S tagged_PointersIn.dec) m tagged_PointersIn.t6 (tagged_PointersIn.s6 z1 z2 z3 z4) = (tagged_PointersIn.l n m) z1 z2 z3 z4) := by
  induction m with
  | zero => exact fun z1 z2 z3 z4 => rfl
  | succ m ih =>
    have h6 := ih
    have e6 : (fun (z1 : List AV) (z2 : Int) (z3 : Int) (z4 : List AV) => runK G (tagged_PointersIn.C n) tagged_PointersIn.cut (fun S => finK G Try.f37.resultTypes.toList Try.f37.results.toList S tagged_PointersIn.dec) m tagged_PointersIn.t6 (tagged_PointersIn.s6 z1 z2 z3 z4)) = (tagged_PointersIn.l n m) := by funext z1 z2 z3 z4; exact h6 z1 z2 z3 z4
    have q6 : ∀ (z1 : List AV) (z2 : Int) (z3 : Int) (z4 : List AV), runK G (tagged_PointersIn.C n) tagged_PointersIn.cut (fun S => finK G Try.f37.resultTypes.toList Try.f37.results.toList S tagged_PointersIn.dec) (m + 1) tagged_PointersIn.t6 (tagged_PointersIn.s6 z1 z2 z3 z4) = (tagged_PointersIn.l n (m + 1)) z1 z2 z3 z4 := by
      intro z1 z2 z3 z4
      rw [runK_succ]
      refine (tagged_PointersIn.r6_eq n _ tagged_PointersIn.dec z1 z2 z3 z4).trans ?_
      rw [e6]
      rfl
    exact q6
theorem tagged_PointersIn.hands (n : Nat) (a0 : ByteArray) (a1 : List AV) {p : List AV × Int} (h : tagged_PointersIn.F n a0 a1 = some p) : HandsIn Try.prog 37 [AV.agg [vs a0, .sl true 1 a1]] (.tup [.fr true 1 p.1, vi p.2]) := by
  refine hands_of cfg mixed (fun _ => rfl) (tagged_PointersIn.tells n) (fn := Try.f37) Try.func37 (by kernel_rfl) (by kernel_rfl) (cut := tagged_PointersIn.cut) (K := tagged_PointersIn.dec) (r := p) (n := n) tagged_PointersIn.dec_inv ?_
  rw [funK_getD (by kernel_rfl)]
  have h1 := tagged_PointersIn.e_eq n (runK G (tagged_PointersIn.C n) tagged_PointersIn.cut (fun S => finK G Try.f37.resultTypes.toList Try.f37.results.toList S tagged_PointersIn.dec) n) tagged_PointersIn.dec a0 a1
  have hl := tagged_PointersIn.l_eq n n
  simp only [hl] at h1
  exact h1.trans h
noncomputable def tagged_PointersIn.via {R : Type} (n : Nat) (xs : List AV) : (AV → Option R) → Option R := match xs with | [.agg [.v (.string a0), .sl true 1 a1]] => fun K => (tagged_PointersIn.F n a0 a1).bind fun p => K (.tup [.fr true 1 p.1, vi p.2]) | _ => fun _ => none
theorem tagged_PointersIn.tells1 {R : Type} (n : Nat) (xs : List AV) : Tells1 (R := R) Try.prog 37 xs (tagged_PointersIn.via n xs) := by
  unfold tagged_PointersIn.via
  split
  · exact Tells1.of (fun p hp => (tagged_PointersIn.hands n _ _ hp).hands)
  · exact Tells1.none
end Go.Proofs.Ytgmpnhfnkhohiaa.Ev

/- midrange/midrangebase.Ints, out of its evaluation. Printed by the session's own program. -/
namespace Go.Proofs.Ytgmpnhfnkhohiaa.Ev
open Go Go.Proofs Go.Proofs.Ev
set_option linter.unusedVariables false
set_option maxRecDepth 100000
/-! midrange/midrangebase.Ints: function 38 -/
noncomputable def midrangebase_Ints.r4 {R : Type} (n : Nat) (c4 : List AV → List AV → Int → Option R) (k : Bool → Option R) (z1 : List AV) (z2 : List AV) (z3 : Int) : Option R :=
  let y2 : Bool := decide (z3 < ((z1.length : Nat) : Int))
  bif y2 then (bif decide ((0 : Int) ≤ z3) && decide (z3 < ((z1.length : Nat) : Int)) then (withCons ((z1.getD ((z3).toNat) .undef).cells) fun c3 r4 =>
  withInt .i64 c3 fun x5 =>
  bif decide ((0 : Int) ≤ z3) && decide (z3 < ((z2.length : Nat) : Int)) then (withCons ((z2.getD ((z3).toNat) .undef).cells) fun c6 r7 =>
  withInt .i64 c6 fun x8 =>
  bif x5 != x8 then (k false) else (c4 z1 z2 (IntKind.i64.wrap (z3 + 1)))) else none) else none) else (k true)
noncomputable def midrangebase_Ints.e {R : Type} (n : Nat) (c4 : List AV → List AV → Int → Option R) (k : Bool → Option R) (a0 : List AV) (a1 : List AV) : Option R :=
  let y1 : Bool := ((a0.length : Nat) : Int) != ((a1.length : Nat) : Int)
  bif y1 then (k false) else (c4 a0 a1 0)
noncomputable def midrangebase_Ints.C {R : Type} (n : Nat) (f : FuncId) (xs : List AV) : (AV → Option R) → Option R :=
  fun _ => none
theorem midrangebase_Ints.tells {R : Type} (n : Nat) : Tells (R := R) Try.prog (midrangebase_Ints.C n) := fun _ xs => Tells1.none
noncomputable def midrangebase_Ints.cut (r : Nat) : Option Keep := match r with | 4 => Option.some ⟨[0, 1, 5], []⟩ | _ => none
noncomputable def midrangebase_Ints.t4 : List Item := (todoOf 4 1000 [.code (Try.f38.body.getD .skip)]).getD []
noncomputable def midrangebase_Ints.s4 (z1 : List AV) (z2 : List AV) (z3 : Int) : St := ⟨[.sl true 1 z1, .sl true 1 z2, .undef, .undef, .undef, vi z3, .undef, .undef, .undef, .undef, .undef, .undef, .undef, .undef, .undef, .undef, .undef, .undef, .undef, .undef, .undef, .undef, .undef, .undef, .undef, .undef], Mem.ofList [], 0⟩
theorem midrangebase_Ints.e_eq {R : Type} (n : Nat) (rec : List Item → St → Option R) (K : AV → Option R) (a0 : List AV) (a1 : List AV) :
    goK G (midrangebase_Ints.C n) midrangebase_Ints.cut (fun S => finK G Try.f38.resultTypes.toList Try.f38.results.toList S K) rec 1000 [.code (Try.f38.body.getD .skip)] (Ev.start Try.f38 [.sl true 1 a0, .sl true 1 a1]) = midrangebase_Ints.e n (fun z1 z2 z3 => rec midrangebase_Ints.t4 (midrangebase_Ints.s4 z1 z2 z3)) (fun p => K (vb p)) a0 a1 := by kernel_rfl
theorem midrangebase_Ints.r4_eq {R : Type} (n : Nat) (rec : List Item → St → Option R) (K : AV → Option R) (z1 : List AV) (z2 : List AV) (z3 : Int) :
    atK G (midrangebase_Ints.C n) midrangebase_Ints.cut (fun S => finK G Try.f38.resultTypes.toList Try.f38.results.toList S K) rec midrangebase_Ints.t4 (midrangebase_Ints.s4 z1 z2 z3) = midrangebase_Ints.r4 n (fun z1 z2 z3 => rec midrangebase_Ints.t4 (midrangebase_Ints.s4 z1 z2 z3)) (fun p => K (vb p)) z1 z2 z3 := by kernel_rfl
noncomputable def midrangebase_Ints.l (n : Nat) : Nat → (List AV → List AV → Int → Option (Bool))
  | 0 => (fun _ _ _ => none)
  | m + 1 => midrangebase_Ints.r4 n (midrangebase_Ints.l n m) Option.some
noncomputable def midrangebase_Ints.F (n : Nat) (a0 : List AV) (a1 : List AV) : Option (Bool) := midrangebase_Ints.e n (midrangebase_Ints.l n n) Option.some a0 a1
noncomputable def midrangebase_Ints.dec (x : AV) : Option (Bool) := match x with | .v (.bool p0) => Option.some p0 | _ => none
theorem midrangebase_Ints.dec_inv {p : Bool} (y : AV) (h : midrangebase_Ints.dec y = some p) : y = vb p := by
  unfold midrangebase_Ints.dec at h
  split at h
  · cases h; rfl
  · cases h
theorem midrangebase_Ints.l_eq (n m : Nat) : (∀ (z1 : List AV) (z2 : List AV) (z3 : Int), runK G (midrangebase_Ints.C n) midrangebase_Ints.cut (fun S => finK G Try.f38.resultTypes.toList Try.f38.results.toList S midrangebase_Ints.dec) m midrangebase_Ints.t4 (midrangebase_Ints.s4 z1 z2 z3) = (midrangebase_Ints.l n m) z1 z2 z3) := by
  induction m with
  | zero => exact fun z1 z2 z3 => rfl
  | succ m ih =>
    have h4 := ih
    have e4 : (fun (z1 : List AV) (z2 : List AV) (z3 : Int) => runK G (midrangebase_Ints.C n) midrangebase_Ints.cut (fun S => finK G Try.f38.resultTypes.toList Try.f38.results.toList S midrangebase_Ints.dec) m midrangebase_Ints.t4 (midrangebase_Ints.s4 z1 z2 z3)) = (midrangebase_Ints.l n m) := by funext z1 z2 z3; exact h4 z1 z2 z3
    have q4 : ∀ (z1 : List AV) (z2 : List AV) (z3 : Int), runK G (midrangebase_Ints.C n) midrangebase_Ints.cut (fun S => finK G Try.f38.resultTypes.toList Try.f38.results.toList S midrangebase_Ints.dec) (m + 1) midrangebase_Ints.t4 (midrangebase_Ints.s4 z1 z2 z3) = (midrangebase_Ints.l n (m + 1)) z1 z2 z3 := by
      intro z1 z2 z3
      rw [runK_succ]
      refine (midrangebase_Ints.r4_eq n _ midrangebase_Ints.dec z1 z2 z3).trans ?_
      rw [e4]
      rfl
    exact q4
theorem midrangebase_Ints.hands (n : Nat) (a0 : List AV) (a1 : List AV) {p : Bool} (h : midrangebase_Ints.F n a0 a1 = some p) : HandsIn Try.prog 38 [.sl true 1 a0, .sl true 1 a1] (vb p) := by
  refine hands_of cfg mixed (fun _ => rfl) (midrangebase_Ints.tells n) (fn := Try.f38) Try.func38 (by kernel_rfl) (by kernel_rfl) (cut := midrangebase_Ints.cut) (K := midrangebase_Ints.dec) (r := p) (n := n) midrangebase_Ints.dec_inv ?_
  rw [funK_getD (by kernel_rfl)]
  have h1 := midrangebase_Ints.e_eq n (runK G (midrangebase_Ints.C n) midrangebase_Ints.cut (fun S => finK G Try.f38.resultTypes.toList Try.f38.results.toList S midrangebase_Ints.dec) n) midrangebase_Ints.dec a0 a1
  have hl := midrangebase_Ints.l_eq n n
  simp only [hl] at h1
  exact h1.trans h
noncomputable def midrangebase_Ints.via {R : Type} (n : Nat) (xs : List AV) : (AV → Option R) → Option R := match xs with | [.sl true 1 a0, .sl true 1 a1] => fun K => (midrangebase_Ints.F n a0 a1).bind fun p => K (vb p) | _ => fun _ => none
theorem midrangebase_Ints.tells1 {R : Type} (n : Nat) (xs : List AV) : Tells1 (R := R) Try.prog 38 xs (midrangebase_Ints.via n xs) := by
  unfold midrangebase_Ints.via
  split
  · exact Tells1.of (fun p hp => (midrangebase_Ints.hands n _ _ hp).hands)
  · exact Tells1.none
end Go.Proofs.Ytgmpnhfnkhohiaa.Ev

/- midrange/midrangeref03.Pointers, out of its evaluation. Printed by the session's own program. -/
namespace Go.Proofs.Ytgmpnhfnkhohiaa.Ev
open Go Go.Proofs Go.Proofs.Ev
set_option linter.unusedVariables false
set_option maxRecDepth 100000
/-! midrange/midrangeref03.Pointers: function 39 -/
noncomputable def midrangeref03_Pointers.r3 {R : Type} (n : Nat) (c3 : Int → ByteArray → List AV → List AV → Option R) (k : List AV → Option R) (z1 : Int) (z2 : ByteArray) (z3 : List AV) (z4 : List AV) : Option R :=
  let y1 : Bool := decide (z1 < ((z3.length : Nat) : Int))
  bif y1 then (bif decide ((0 : Int) ≤ z1) && decide (z1 < ((z3.length : Nat) : Int)) then (withCons ((z3.getD ((z1).toNat) .undef).cells) fun c2 r3 =>
  withBool c2 fun b4 =>
  bif b4 then (let y5 : List AV := [vi (IntKind.i64.wrap (z1 * 16))]
  bif decide (z4.length + y5.length ≤ most) then (c3 (IntKind.i64.wrap (z1 + 1)) z2 z3 (z4 ++ y5)) else none) else (c3 (IntKind.i64.wrap (z1 + 1)) z2 z3 z4)) else none) else (k z4)
noncomputable def midrangeref03_Pointers.e {R : Type} (n : Nat) (c3 : Int → ByteArray → List AV → List AV → Option R) (k : List AV → Option R) (a0 : ByteArray) (a1 : List AV) : Option R :=
  c3 0 a0 a1 []
noncomputable def midrangeref03_Pointers.C {R : Type} (n : Nat) (f : FuncId) (xs : List AV) : (AV → Option R) → Option R :=
  fun _ => none
theorem midrangeref03_Pointers.tells {R : Type} (n : Nat) : Tells (R := R) Try.prog (midrangeref03_Pointers.C n) := fun _ xs => Tells1.none
noncomputable def midrangeref03_Pointers.cut (r : Nat) : Option Keep := match r with | 3 => Option.some ⟨[1, 3, 4], [(3, none, true, 1)]⟩ | _ => none
noncomputable def midrangeref03_Pointers.t3 : List Item := (todoOf 3 1000 [.code (Try.f39.body.getD .skip)]).getD []
noncomputable def midrangeref03_Pointers.s3 (z1 : Int) (z2 : ByteArray) (z3 : List AV) (z4 : List AV) : St := ⟨[.undef, .ptr 0 0, .undef, .own 1 0 none, vi z1, .undef, .undef, .undef, .undef, .undef, .undef, .undef, .undef, .undef, .undef, .undef, .undef, .undef, .undef, .undef, .undef, .undef, .undef], Mem.ofList [.box [vs z2, .sl true 1 z3], .row true 1 z4], 2⟩
theorem midrangeref03_Pointers.e_eq {R : Type} (n : Nat) (rec : List Item → St → Option R) (K : AV → Option R) (a0 : ByteArray) (a1 : List AV) :
    goK G (midrangeref03_Pointers.C n) midrangeref03_Pointers.cut (fun S => finK G Try.f39.resultTypes.toList Try.f39.results.toList S K) rec 1000 [.code (Try.f39.body.getD .skip)] (Ev.start Try.f39 [AV.agg [vs a0, .sl true 1 a1]]) = midrangeref03_Pointers.e n (fun z1 z2 z3 z4 => rec midrangeref03_Pointers.t3 (midrangeref03_Pointers.s3 z1 z2 z3 z4)) (fun p => K (.fr true 1 p)) a0 a1 := by kernel_rfl
theorem midrangeref03_Pointers.r3_eq {R : Type} (n : Nat) (rec : List Item → St → Option R) (K : AV → Option R) (z1 : Int) (z2 : ByteArray) (z3 : List AV) (z4 : List AV) :
    atK G (midrangeref03_Pointers.C n) midrangeref03_Pointers.cut (fun S => finK G Try.f39.resultTypes.toList Try.f39.results.toList S K) rec midrangeref03_Pointers.t3 (midrangeref03_Pointers.s3 z1 z2 z3 z4) = midrangeref03_Pointers.r3 n (fun z1 z2 z3 z4 => rec midrangeref03_Pointers.t3 (midrangeref03_Pointers.s3 z1 z2 z3 z4)) (fun p => K (.fr true 1 p)) z1 z2 z3 z4 := by kernel_rfl
noncomputable def midrangeref03_Pointers.l (n : Nat) : Nat → (Int → ByteArray → List AV → List AV → Option (List AV))
  | 0 => (fun _ _ _ _ => none)
  | m + 1 => midrangeref03_Pointers.r3 n (midrangeref03_Pointers.l n m) Option.some
noncomputable def midrangeref03_Pointers.F (n : Nat) (a0 : ByteArray) (a1 : List AV) : Option (List AV) := midrangeref03_Pointers.e n (midrangeref03_Pointers.l n n) Option.some a0 a1
noncomputable def midrangeref03_Pointers.dec (x : AV) : Option (List AV) := match x with | .fr true 1 p0 => Option.some p0 | _ => none
theorem midrangeref03_Pointers.dec_inv {p : List AV} (y : AV) (h : midrangeref03_Pointers.dec y = some p) : y = .fr true 1 p := by
  unfold midrangeref03_Pointers.dec at h
  split at h
  · cases h; rfl
  · cases h
theorem midrangeref03_Pointers.l_eq (n m : Nat) : (∀ (z1 : Int) (z2 : ByteArray) (z3 : List AV) (z4 : List AV), runK G (midrangeref03_Pointers.C n) midrangeref03_Pointers.cut (fun S => finK G Try.f39.resultTypes.toList Try.f39.results.toList S midrangeref03_Pointers.dec) m midrangeref03_Pointers.t3 (midrangeref03_Pointers.s3 z1 z2 z3 z4) = (midrangeref03_Pointers.l n m) z1 z2 z3 z4) := by
  induction m with
  | zero => exact fun z1 z2 z3 z4 => rfl
  | succ m ih =>
    have h3 := ih
    have e3 : (fun (z1 : Int) (z2 : ByteArray) (z3 : List AV) (z4 : List AV) => runK G (midrangeref03_Pointers.C n) midrangeref03_Pointers.cut (fun S => finK G Try.f39.resultTypes.toList Try.f39.results.toList S midrangeref03_Pointers.dec) m midrangeref03_Pointers.t3 (midrangeref03_Pointers.s3 z1 z2 z3 z4)) = (midrangeref03_Pointers.l n m) := by funext z1 z2 z3 z4; exact h3 z1 z2 z3 z4
    have q3 : ∀ (z1 : Int) (z2 : ByteArray) (z3 : List AV) (z4 : List AV), runK G (midrangeref03_Pointers.C n) midrangeref03_Pointers.cut (fun S => finK G Try.f39.resultTypes.toList Try.f39.results.toList S midrangeref03_Pointers.dec) (m + 1) midrangeref03_Pointers.t3 (midrangeref03_Pointers.s3 z1 z2 z3 z4) = (midrangeref03_Pointers.l n (m + 1)) z1 z2 z3 z4 := by
      intro z1 z2 z3 z4
      rw [runK_succ]
      refine (midrangeref03_Pointers.r3_eq n _ midrangeref03_Pointers.dec z1 z2 z3 z4).trans ?_
      rw [e3]
      rfl
    exact q3
theorem midrangeref03_Pointers.hands (n : Nat) (a0 : ByteArray) (a1 : List AV) {p : List AV} (h : midrangeref03_Pointers.F n a0 a1 = some p) : HandsIn Try.prog 39 [AV.agg [vs a0, .sl true 1 a1]] (.fr true 1 p) := by
  refine hands_of cfg mixed (fun _ => rfl) (midrangeref03_Pointers.tells n) (fn := Try.f39) Try.func39 (by kernel_rfl) (by kernel_rfl) (cut := midrangeref03_Pointers.cut) (K := midrangeref03_Pointers.dec) (r := p) (n := n) midrangeref03_Pointers.dec_inv ?_
  rw [funK_getD (by kernel_rfl)]
  have h1 := midrangeref03_Pointers.e_eq n (runK G (midrangeref03_Pointers.C n) midrangeref03_Pointers.cut (fun S => finK G Try.f39.resultTypes.toList Try.f39.results.toList S midrangeref03_Pointers.dec) n) midrangeref03_Pointers.dec a0 a1
  have hl := midrangeref03_Pointers.l_eq n n
  simp only [hl] at h1
  exact h1.trans h
noncomputable def midrangeref03_Pointers.via {R : Type} (n : Nat) (xs : List AV) : (AV → Option R) → Option R := match xs with | [.agg [.v (.string a0), .sl true 1 a1]] => fun K => (midrangeref03_Pointers.F n a0 a1).bind fun p => K (.fr true 1 p) | _ => fun _ => none
theorem midrangeref03_Pointers.tells1 {R : Type} (n : Nat) (xs : List AV) : Tells1 (R := R) Try.prog 39 xs (midrangeref03_Pointers.via n xs) := by
  unfold midrangeref03_Pointers.via
  split
  · exact Tells1.of (fun p hp => (midrangeref03_Pointers.hands n _ _ hp).hands)
  · exact Tells1.none
end Go.Proofs.Ytgmpnhfnkhohiaa.Ev

/- midrange/midrangeref03.Find, out of its evaluation. Printed by the session's own program. -/
namespace Go.Proofs.Ytgmpnhfnkhohiaa.Ev
open Go Go.Proofs Go.Proofs.Ev
set_option linter.unusedVariables false
set_option maxRecDepth 100000
/-! midrange/midrangeref03.Find: function 41 -/
noncomputable def midrangeref03_Find.r2 {R : Type} (n : Nat) (c2 : ByteArray → Int → ByteArray → List AV → Option R) (k : Int → Option R) (z1 : ByteArray) (z2 : Int) (z3 : ByteArray) (z4 : List AV) : Option R :=
  let y1 : Int := IntKind.i64.wrap (z2 + ((z1.size : Nat) : Int))
  let y2 : Bool := decide (y1 ≤ ((z3.size : Nat) : Int))
  bif y2 then (let y3 : Int := IntKind.i64.wrap (z2 + ((z1.size : Nat) : Int))
  bif decide ((0 : Int) ≤ y3) && decide ((y3 : Int) ≤ ((z3.size : Nat) : Int)) then (bif decide ((0 : Int) ≤ z2) && decide ((z2 : Int) ≤ y3) then (let y4 : ByteArray := z3.extract (z2).toNat (y3).toNat
  bif y4.toList == z1.toList then (k z2) else (c2 z1 (IntKind.i64.wrap (z2 + 1)) z3 z4)) else none) else none) else (k (-1))
noncomputable def midrangeref03_Find.e {R : Type} (n : Nat) (c2 : ByteArray → Int → ByteArray → List AV → Option R) (k : Int → Option R) (a0 : ByteArray) (a1 : List AV) (a2 : Int) (a3 : ByteArray) : Option R :=
  c2 a3 a2 a0 a1
noncomputable def midrangeref03_Find.C {R : Type} (n : Nat) (f : FuncId) (xs : List AV) : (AV → Option R) → Option R :=
  fun _ => none
theorem midrangeref03_Find.tells {R : Type} (n : Nat) : Tells (R := R) Try.prog (midrangeref03_Find.C n) := fun _ xs => Tells1.none
noncomputable def midrangeref03_Find.cut (r : Nat) : Option Keep := match r with | 2 => Option.some ⟨[2, 3, 7], []⟩ | _ => none
noncomputable def midrangeref03_Find.t2 : List Item := (todoOf 2 1000 [.code (Try.f41.body.getD .skip)]).getD []
noncomputable def midrangeref03_Find.s2 (z1 : ByteArray) (z2 : Int) (z3 : ByteArray) (z4 : List AV) : St := ⟨[.undef, .undef, vs z1, .ptr 0 0, .undef, .undef, .undef, vi z2, .undef, .undef, .undef, .undef, .undef, .undef, .undef, .undef, .undef, .undef, .undef, .undef, .undef, .undef, .undef, .undef, .undef, .undef, .undef, .undef, .undef, .undef], Mem.ofList [.box [vs z3, .sl true 1 z4]], 1⟩
theorem midrangeref03_Find.e_eq {R : Type} (n : Nat) (rec : List Item → St → Option R) (K : AV → Option R) (a0 : ByteArray) (a1 : List AV) (a2 : Int) (a3 : ByteArray) :
    goK G (midrangeref03_Find.C n) midrangeref03_Find.cut (fun S => finK G Try.f41.resultTypes.toList Try.f41.results.toList S K) rec 1000 [.code (Try.f41.body.getD .skip)] (Ev.start Try.f41 [AV.agg [vs a0, .sl true 1 a1], vi a2, vs a3]) = midrangeref03_Find.e n (fun z1 z2 z3 z4 => rec midrangeref03_Find.t2 (midrangeref03_Find.s2 z1 z2 z3 z4)) (fun p => K (vi p)) a0 a1 a2 a3 := by kernel_rfl
theorem midrangeref03_Find.r2_eq {R : Type} (n : Nat) (rec : List Item → St → Option R) (K : AV → Option R) (z1 : ByteArray) (z2 : Int) (z3 : ByteArray) (z4 : List AV) :
    atK G (midrangeref03_Find.C n) midrangeref03_Find.cut (fun S => finK G Try.f41.resultTypes.toList Try.f41.results.toList S K) rec midrangeref03_Find.t2 (midrangeref03_Find.s2 z1 z2 z3 z4) = midrangeref03_Find.r2 n (fun z1 z2 z3 z4 => rec midrangeref03_Find.t2 (midrangeref03_Find.s2 z1 z2 z3 z4)) (fun p => K (vi p)) z1 z2 z3 z4 := by kernel_rfl
noncomputable def midrangeref03_Find.l (n : Nat) : Nat → (ByteArray → Int → ByteArray → List AV → Option (Int))
  | 0 => (fun _ _ _ _ => none)
  | m + 1 => midrangeref03_Find.r2 n (midrangeref03_Find.l n m) Option.some
noncomputable def midrangeref03_Find.F (n : Nat) (a0 : ByteArray) (a1 : List AV) (a2 : Int) (a3 : ByteArray) : Option (Int) := midrangeref03_Find.e n (midrangeref03_Find.l n n) Option.some a0 a1 a2 a3
noncomputable def midrangeref03_Find.dec (x : AV) : Option (Int) := match x with | .v (.int .i64 p0) => Option.some p0 | _ => none
theorem midrangeref03_Find.dec_inv {p : Int} (y : AV) (h : midrangeref03_Find.dec y = some p) : y = vi p := by
  unfold midrangeref03_Find.dec at h
  split at h
  · cases h; rfl
  · cases h
theorem midrangeref03_Find.l_eq (n m : Nat) : (∀ (z1 : ByteArray) (z2 : Int) (z3 : ByteArray) (z4 : List AV), runK G (midrangeref03_Find.C n) midrangeref03_Find.cut (fun S => finK G Try.f41.resultTypes.toList Try.f41.results.toList S midrangeref03_Find.dec) m midrangeref03_Find.t2 (midrangeref03_Find.s2 z1 z2 z3 z4) = (midrangeref03_Find.l n m) z1 z2 z3 z4) := by
  induction m with
  | zero => exact fun z1 z2 z3 z4 => rfl
  | succ m ih =>
    have h2 := ih
    have e2 : (fun (z1 : ByteArray) (z2 : Int) (z3 : ByteArray) (z4 : List AV) => runK G (midrangeref03_Find.C n) midrangeref03_Find.cut (fun S => finK G Try.f41.resultTypes.toList Try.f41.results.toList S midrangeref03_Find.dec) m midrangeref03_Find.t2 (midrangeref03_Find.s2 z1 z2 z3 z4)) = (midrangeref03_Find.l n m) := by funext z1 z2 z3 z4; exact h2 z1 z2 z3 z4
    have q2 : ∀ (z1 : ByteArray) (z2 : Int) (z3 : ByteArray) (z4 : List AV), runK G (midrangeref03_Find.C n) midrangeref03_Find.cut (fun S => finK G Try.f41.resultTypes.toList Try.f41.results.toList S midrangeref03_Find.dec) (m + 1) midrangeref03_Find.t2 (midrangeref03_Find.s2 z1 z2 z3 z4) = (midrangeref03_Find.l n (m + 1)) z1 z2 z3 z4 := by
      intro z1 z2 z3 z4
      rw [runK_succ]
      refine (midrangeref03_Find.r2_eq n _ midrangeref03_Find.dec z1 z2 z3 z4).trans ?_
      rw [e2]
      rfl
    exact q2
theorem midrangeref03_Find.hands (n : Nat) (a0 : ByteArray) (a1 : List AV) (a2 : Int) (a3 : ByteArray) {p : Int} (h : midrangeref03_Find.F n a0 a1 a2 a3 = some p) : HandsIn Try.prog 41 [AV.agg [vs a0, .sl true 1 a1], vi a2, vs a3] (vi p) := by
  refine hands_of cfg mixed (fun _ => rfl) (midrangeref03_Find.tells n) (fn := Try.f41) Try.func41 (by kernel_rfl) (by kernel_rfl) (cut := midrangeref03_Find.cut) (K := midrangeref03_Find.dec) (r := p) (n := n) midrangeref03_Find.dec_inv ?_
  rw [funK_getD (by kernel_rfl)]
  have h1 := midrangeref03_Find.e_eq n (runK G (midrangeref03_Find.C n) midrangeref03_Find.cut (fun S => finK G Try.f41.resultTypes.toList Try.f41.results.toList S midrangeref03_Find.dec) n) midrangeref03_Find.dec a0 a1 a2 a3
  have hl := midrangeref03_Find.l_eq n n
  simp only [hl] at h1
  exact h1.trans h
noncomputable def midrangeref03_Find.via {R : Type} (n : Nat) (xs : List AV) : (AV → Option R) → Option R := match xs with | [.agg [.v (.string a0), .sl true 1 a1], .v (.int .i64 a2), .v (.string a3)] => fun K => (midrangeref03_Find.F n a0 a1 a2 a3).bind fun p => K (vi p) | _ => fun _ => none
theorem midrangeref03_Find.tells1 {R : Type} (n : Nat) (xs : List AV) : Tells1 (R := R) Try.prog 41 xs (midrangeref03_Find.via n xs) := by
  unfold midrangeref03_Find.via
  split
  · exact Tells1.of (fun p hp => (midrangeref03_Find.hands n _ _ _ _ hp).hands)
  · exact Tells1.none
end Go.Proofs.Ytgmpnhfnkhohiaa.Ev

/- midrange/midrangelaw03.TaggedFinds, out of its evaluation. Printed by the session's own program. -/
namespace Go.Proofs.Ytgmpnhfnkhohiaa.Ev
open Go Go.Proofs Go.Proofs.Ev
set_option linter.unusedVariables false
set_option maxRecDepth 100000
/-! midrange/midrangelaw03.TaggedFinds: function 8 -/
noncomputable def midrangelaw03_TaggedFinds.e {R : Type} (n : Nat)  (k : Bool → Option R) (a0 : ByteArray) (a1 : List AV) (a2 : Int) (a3 : ByteArray) : Option R :=
  (midrangelaw03_awake.F n ).bind fun p1 =>
  bif !p1 then (k false) else ((midrangelaw03_few.F n a0 a1).bind fun p2 =>
  bif !p2 then (k true) else (let y3 : Bool := decide (((a3.size : Nat) : Int) > 1200)
  bif y3 then (k true) else ((midrangebase_OwnStorage.F n a0 a1).bind fun p4 =>
  (tagged_FindBytes.F n p4.1 p4.2 a2 a3).bind fun p5 =>
  (midrangebase_OwnStorage.F n a0 a1).bind fun p6 =>
  (tagged_PointersIn.F n p6.1 p6.2).bind fun p7 =>
  (midrangeref03_Err.F n a0 a1).bind fun p8 =>
  bif p8 != 0 then (bif p5.2 == p8 then (bif p5.1 == 0 then (bif p7.2 == p8 then (let y9 : Bool := ((p7.1.length : Nat) : Int) == 0
  k y9) else (k false)) else (k false)) else (k false)) else (bif p7.2 != 0 then (k false) else ((midrangeref03_Pointers.F n a0 a1).bind fun p10 =>
  (midrangebase_Ints.F n p7.1 p10).bind fun p11 =>
  bif !p11 then (k false) else ((midrangebase_Within.F n a2 0 ((a0.size : Nat) : Int)).bind fun p12 =>
  bif !p12 then (bif p5.2 == 3 then (k (p5.1 == 0)) else (k false)) else (let y13 : Bool := a3.toList == (⟨#[]⟩ : ByteArray).toList
  bif y13 then (bif p5.2 == 1 then (k (p5.1 == 0)) else (k false)) else ((midrangeref03_Find.F n a0 a1 a2 a3).bind fun p14 =>
  bif p14 == (-1) then (bif p5.2 == 40 then (bif p5.1 == 0 then (k true) else (bif p14 != (-1) then (bif p5.2 == 0 then (k (p5.1 == p14)) else (k false)) else (k false))) else (bif p14 != (-1) then (bif p5.2 == 0 then (k (p5.1 == p14)) else (k false)) else (k false))) else (bif p14 != (-1) then (bif p5.2 == 0 then (k (p5.1 == p14)) else (k false)) else (k false))))))))))
noncomputable def midrangelaw03_TaggedFinds.C {R : Type} (n : Nat) (f : FuncId) (xs : List AV) : (AV → Option R) → Option R :=
  bif Nat.beq f 10 then midrangelaw03_awake.via n xs else bif Nat.beq f 17 then midrangelaw03_few.via n xs else bif Nat.beq f 19 then midrangebase_OwnStorage.via n xs else bif Nat.beq f 21 then midrangeref03_Err.via n xs else bif Nat.beq f 36 then tagged_FindBytes.via n xs else bif Nat.beq f 37 then tagged_PointersIn.via n xs else bif Nat.beq f 38 then midrangebase_Ints.via n xs else bif Nat.beq f 39 then midrangeref03_Pointers.via n xs else bif Nat.beq f 40 then midrangebase_Within.via n xs else bif Nat.beq f 41 then midrangeref03_Find.via n xs else fun _ => none
theorem midrangelaw03_TaggedFinds.tells {R : Type} (n : Nat) : Tells (R := R) Try.prog (midrangelaw03_TaggedFinds.C n) := fun _ xs => tells_at (midrangelaw03_awake.tells1 n xs) (tells_at (midrangelaw03_few.tells1 n xs) (tells_at (midrangebase_OwnStorage.tells1 n xs) (tells_at (midrangeref03_Err.tells1 n xs) (tells_at (tagged_FindBytes.tells1 n xs) (tells_at (tagged_PointersIn.tells1 n xs) (tells_at (midrangebase_Ints.tells1 n xs) (tells_at (midrangeref03_Pointers.tells1 n xs) (tells_at (midrangebase_Within.tells1 n xs) (tells_at (midrangeref03_Find.tells1 n xs) (Tells1.none))))))))))
noncomputable def midrangelaw03_TaggedFinds.cut (r : Nat) : Option Keep := match r with  | _ => none
theorem midrangelaw03_TaggedFinds.e_eq {R : Type} (n : Nat) (rec : List Item → St → Option R) (K : AV → Option R) (a0 : ByteArray) (a1 : List AV) (a2 : Int) (a3 : ByteArray) :
    goK G (midrangelaw03_TaggedFinds.C n) midrangelaw03_TaggedFinds.cut (fun S => finK G Try.f8.resultTypes.toList Try.f8.results.toList S K) rec 1000 [.code (Try.f8.body.getD .skip)] (Ev.start Try.f8 [AV.agg [vs a0, .sl true 1 a1], vi a2, vs a3]) = midrangelaw03_TaggedFinds.e n  (fun p => K (vb p)) a0 a1 a2 a3 := by kernel_rfl
noncomputable def midrangelaw03_TaggedFinds.F (n : Nat) (a0 : ByteArray) (a1 : List AV) (a2 : Int) (a3 : ByteArray) : Option (Bool) := midrangelaw03_TaggedFinds.e n  Option.some a0 a1 a2 a3
noncomputable def midrangelaw03_TaggedFinds.dec (x : AV) : Option (Bool) := match x with | .v (.bool p0) => Option.some p0 | _ => none
theorem midrangelaw03_TaggedFinds.dec_inv {p : Bool} (y : AV) (h : midrangelaw03_TaggedFinds.dec y = some p) : y = vb p := by
  unfold midrangelaw03_TaggedFinds.dec at h
  split at h
  · cases h; rfl
  · cases h
theorem midrangelaw03_TaggedFinds.hands (n : Nat) (a0 : ByteArray) (a1 : List AV) (a2 : Int) (a3 : ByteArray) {p : Bool} (h : midrangelaw03_TaggedFinds.F n a0 a1 a2 a3 = some p) : HandsIn Try.prog 8 [AV.agg [vs a0, .sl true 1 a1], vi a2, vs a3] (vb p) := by
  refine hands_of cfg mixed (fun _ => rfl) (midrangelaw03_TaggedFinds.tells n) (fn := Try.f8) Try.func8 (by kernel_rfl) (by kernel_rfl) (cut := midrangelaw03_TaggedFinds.cut) (K := midrangelaw03_TaggedFinds.dec) (r := p) (n := n) midrangelaw03_TaggedFinds.dec_inv ?_
  rw [funK_getD (by kernel_rfl)]
  have h1 := midrangelaw03_TaggedFinds.e_eq n (runK G (midrangelaw03_TaggedFinds.C n) midrangelaw03_TaggedFinds.cut (fun S => finK G Try.f8.resultTypes.toList Try.f8.results.toList S midrangelaw03_TaggedFinds.dec) n) midrangelaw03_TaggedFinds.dec a0 a1 a2 a3
  exact h1.trans h
noncomputable def midrangelaw03_TaggedFinds.via {R : Type} (n : Nat) (xs : List AV) : (AV → Option R) → Option R := match xs with | [.agg [.v (.string a0), .sl true 1 a1], .v (.int .i64 a2), .v (.string a3)] => fun K => (midrangelaw03_TaggedFinds.F n a0 a1 a2 a3).bind fun p => K (vb p) | _ => fun _ => none
theorem midrangelaw03_TaggedFinds.tells1 {R : Type} (n : Nat) (xs : List AV) : Tells1 (R := R) Try.prog 8 xs (midrangelaw03_TaggedFinds.via n xs) := by
  unfold midrangelaw03_TaggedFinds.via
  split
  · exact Tells1.of (fun p hp => (midrangelaw03_TaggedFinds.hands n _ _ _ _ hp).hands)
  · exact Tells1.none
end Go.Proofs.Ytgmpnhfnkhohiaa.Ev

/- strings.Repeat, out of the library's contract. Printed by the session's own program. -/
namespace Go.Proofs.Ytgmpnhfnkhohiaa.Ev
open Go Go.Proofs Go.Proofs.Ev
set_option linter.unusedVariables false
set_option maxRecDepth 100000
noncomputable def strings_Repeat.F (n : Nat) (s : ByteArray) (c : Int) : Option (ByteArray) := bif decide (0 ≤ c) && decide ((s.size : Int) * c ≤ 140737488355328) && decide (c ≤ 9223372036854775807) then Option.some (⟨(Lib.repeatL s.data.toList c.toNat).toArray⟩) else none
theorem strings_Repeat.hands (n : Nat) (s : ByteArray) (c : Int) {p : ByteArray} (h : strings_Repeat.F n s c = some p) : HandsIn Try.prog 60 [vs s, vi c] (vs p) := by
  unfold strings_Repeat.F at h
  cases hc : (decide (0 ≤ c) && decide ((s.size : Int) * c ≤ 140737488355328) && decide (c ≤ 9223372036854775807)) with
  | false => rw [hc] at h; cases h
  | true =>
    rw [hc] at h
    cases h
    refine hands_calls (fn := Try.f60) Try.func60 (by kernel_rfl) (by kernel_rfl) fun w F vals hQ hF hl hr => ?_
    obtain ⟨u, v, rfl, hu, hv⟩ := vals2 hl hr
    obtain rfl := rel_v hu
    obtain rfl := rel_v hv
    rw [Bool.and_eq_true, Bool.and_eq_true] at hc
    have h0 := of_decide_eq_true hc.1.1
    have h1 := of_decide_eq_true hc.1.2
    have h2 := of_decide_eq_true hc.2
    obtain ⟨m, rfl⟩ := Int.eq_ofNat_of_zero_le h0
    refine (Try.strings_Repeat s m w (by omega) (by have := Int.natCast_mul s.size m; omega)).mono ?_
    rintro e w' ⟨rfl, hB⟩
    exact ⟨F, fun _ => none, Came.of_below hF hB, .v _ rfl⟩
noncomputable def strings_Repeat.via {R : Type} (n : Nat) (ys : List AV) : (AV → Option R) → Option R := match ys with | [.v (.string s), .v (.int .i64 c)] => fun K => (strings_Repeat.F n s c).bind fun p => K (vs p) | _ => fun _ => none
theorem strings_Repeat.tells1 {R : Type} (n : Nat) (ys : List AV) : Tells1 (R := R) Try.prog 60 ys (strings_Repeat.via n ys) := by
  unfold strings_Repeat.via
  split
  · exact Tells1.of (fun p hp => (strings_Repeat.hands n _ _ hp).hands)
  · exact Tells1.none
end Go.Proofs.Ytgmpnhfnkhohiaa.Ev

/- midrange/tagged.NewStorage, out of its evaluation. Printed by the session's own program. -/
namespace Go.Proofs.Ytgmpnhfnkhohiaa.Ev
open Go Go.Proofs Go.Proofs.Ev
set_option linter.unusedVariables false
set_option maxRecDepth 100000
/-! midrange/tagged.NewStorage: function 44 -/
noncomputable def tagged_NewStorage.e {R : Type} (n : Nat)  (k : ByteArray × List AV × Int → Option R) (a0 : Int) : Option R :=
  (tagged_within.F n a0 0 64).bind fun p1 =>
  bif !p1 then (k ((⟨#[]⟩ : ByteArray), [], 3)) else ((strings_Repeat.F n (⟨#[0]⟩ : ByteArray) (IntKind.i64.wrap (a0 * 16))).bind fun p2 =>
  bif (decide ((0 : Int) ≤ a0) && decide ((a0 : Int) ≤ most)) && decide ((a0 : Int) = a0) && true && true then (let y3 : List AV := List.replicate (a0).toNat (vb false)
  k (p2, y3, 0)) else none)
noncomputable def tagged_NewStorage.C {R : Type} (n : Nat) (f : FuncId) (xs : List AV) : (AV → Option R) → Option R :=
  bif Nat.beq f 48 then tagged_within.via n xs else bif Nat.beq f 60 then strings_Repeat.via n xs else fun _ => none
theorem tagged_NewStorage.tells {R : Type} (n : Nat) : Tells (R := R) Try.prog (tagged_NewStorage.C n) := fun _ xs => tells_at (tagged_within.tells1 n xs) (tells_at (strings_Repeat.tells1 n xs) (Tells1.none))
noncomputable def tagged_NewStorage.cut (r : Nat) : Option Keep := match r with  | _ => none
theorem tagged_NewStorage.e_eq {R : Type} (n : Nat) (rec : List Item → St → Option R) (K : AV → Option R) (a0 : Int) :
    goK G (tagged_NewStorage.C n) tagged_NewStorage.cut (fun S => finK G Try.f44.resultTypes.toList Try.f44.results.toList S K) rec 1000 [.code (Try.f44.body.getD .skip)] (Ev.start Try.f44 [vi a0]) = tagged_NewStorage.e n  (fun p => K (.tup [.agg [vs p.1, .fr true 1 p.2.1], vi p.2.2])) a0 := by kernel_rfl
noncomputable def tagged_NewStorage.F (n : Nat) (a0 : Int) : Option (ByteArray × List AV × Int) := tagged_NewStorage.e n  Option.some a0
noncomputable def tagged_NewStorage.dec (x : AV) : Option (ByteArray × List AV × Int) := match x with | .tup [.agg [.v (.string p0), .fr true 1 p1], .v (.int .i64 p2)] => Option.some (p0, p1, p2) | _ => none
theorem tagged_NewStorage.dec_inv {p : ByteArray × List AV × Int} (y : AV) (h : tagged_NewStorage.dec y = some p) : y = .tup [.agg [vs p.1, .fr true 1 p.2.1], vi p.2.2] := by
  unfold tagged_NewStorage.dec at h
  split at h
  · cases h; rfl
  · cases h
theorem tagged_NewStorage.hands (n : Nat) (a0 : Int) {p : ByteArray × List AV × Int} (h : tagged_NewStorage.F n a0 = some p) : HandsIn Try.prog 44 [vi a0] (.tup [.agg [vs p.1, .fr true 1 p.2.1], vi p.2.2]) := by
  refine hands_of cfg mixed (fun _ => rfl) (tagged_NewStorage.tells n) (fn := Try.f44) Try.func44 (by kernel_rfl) (by kernel_rfl) (cut := tagged_NewStorage.cut) (K := tagged_NewStorage.dec) (r := p) (n := n) tagged_NewStorage.dec_inv ?_
  rw [funK_getD (by kernel_rfl)]
  have h1 := tagged_NewStorage.e_eq n (runK G (tagged_NewStorage.C n) tagged_NewStorage.cut (fun S => finK G Try.f44.resultTypes.toList Try.f44.results.toList S tagged_NewStorage.dec) n) tagged_NewStorage.dec a0
  exact h1.trans h
noncomputable def tagged_NewStorage.via {R : Type} (n : Nat) (xs : List AV) : (AV → Option R) → Option R := match xs with | [.v (.int .i64 a0)] => fun K => (tagged_NewStorage.F n a0).bind fun p => K (.tup [.agg [vs p.1, .fr true 1 p.2.1], vi p.2.2]) | _ => fun _ => none
theorem tagged_NewStorage.tells1 {R : Type} (n : Nat) (xs : List AV) : Tells1 (R := R) Try.prog 44 xs (tagged_NewStorage.via n xs) := by
  unfold tagged_NewStorage.via
  split
  · exact Tells1.of (fun p hp => (tagged_NewStorage.hands n _ hp).hands)
  · exact Tells1.none
end Go.Proofs.Ytgmpnhfnkhohiaa.Ev

/- midrange/midrangebase.Repeat, out of its evaluation. Printed by the session's own program. -/
namespace Go.Proofs.Ytgmpnhfnkhohiaa.Ev
open Go Go.Proofs Go.Proofs.Ev
set_option linter.unusedVariables false
set_option maxRecDepth 100000
/-! midrange/midrangebase.Repeat: function 61 -/
noncomputable def midrangebase_Repeat.r3 {R : Type} (n : Nat) (c3 : Int → Int → Int → List AV → Option R) (k : ByteArray → Option R) (z1 : Int) (z2 : Int) (z3 : Int) (z4 : List AV) : Option R :=
  bif decide (z3 < z2) then (bif decide (z4.length + [vu z1].length ≤ most) then (c3 z1 z2 (IntKind.i64.wrap (z3 + 1)) (z4 ++ [vu z1])) else none) else (withSome (strOf z4) fun bs1 =>
  k (⟨bs1.toArray⟩))
noncomputable def midrangebase_Repeat.e {R : Type} (n : Nat) (c3 : Int → Int → Int → List AV → Option R) (k : ByteArray → Option R) (a0 : Int) (a1 : Int) : Option R :=
  c3 a0 a1 0 []
noncomputable def midrangebase_Repeat.C {R : Type} (n : Nat) (f : FuncId) (xs : List AV) : (AV → Option R) → Option R :=
  fun _ => none
theorem midrangebase_Repeat.tells {R : Type} (n : Nat) : Tells (R := R) Try.prog (midrangebase_Repeat.C n) := fun _ xs => Tells1.none
noncomputable def midrangebase_Repeat.cut (r : Nat) : Option Keep := match r with | 3 => Option.some ⟨[0, 1, 5, 6], [(5, none, true, 1)]⟩ | _ => none
noncomputable def midrangebase_Repeat.t3 : List Item := (todoOf 3 1000 [.code (Try.f61.body.getD .skip)]).getD []
noncomputable def midrangebase_Repeat.s3 (z1 : Int) (z2 : Int) (z3 : Int) (z4 : List AV) : St := ⟨[vu z1, vi z2, .undef, .undef, .undef, .own 0 0 none, vi z3, .undef, .undef, .undef, .undef, .undef, .undef, .undef, .undef, .undef, .undef, .undef], Mem.ofList [.row true 1 z4], 1⟩
theorem midrangebase_Repeat.e_eq {R : Type} (n : Nat) (rec : List Item → St → Option R) (K : AV → Option R) (a0 : Int) (a1 : Int) :
    goK G (midrangebase_Repeat.C n) midrangebase_Repeat.cut (fun S => finK G Try.f61.resultTypes.toList Try.f61.results.toList S K) rec 1000 [.code (Try.f61.body.getD .skip)] (Ev.start Try.f61 [vu a0, vi a1]) = midrangebase_Repeat.e n (fun z1 z2 z3 z4 => rec midrangebase_Repeat.t3 (midrangebase_Repeat.s3 z1 z2 z3 z4)) (fun p => K (vs p)) a0 a1 := by kernel_rfl
theorem midrangebase_Repeat.r3_eq {R : Type} (n : Nat) (rec : List Item → St → Option R) (K : AV → Option R) (z1 : Int) (z2 : Int) (z3 : Int) (z4 : List AV) :
    atK G (midrangebase_Repeat.C n) midrangebase_Repeat.cut (fun S => finK G Try.f61.resultTypes.toList Try.f61.results.toList S K) rec midrangebase_Repeat.t3 (midrangebase_Repeat.s3 z1 z2 z3 z4) = midrangebase_Repeat.r3 n (fun z1 z2 z3 z4 => rec midrangebase_Repeat.t3 (midrangebase_Repeat.s3 z1 z2 z3 z4)) (fun p => K (vs p)) z1 z2 z3 z4 := by kernel_rfl
noncomputable def midrangebase_Repeat.l (n : Nat) : Nat → (Int → Int → Int → List AV → Option (ByteArray))
  | 0 => (fun _ _ _ _ => none)
  | m + 1 => midrangebase_Repeat.r3 n (midrangebase_Repeat.l n m) Option.some
noncomputable def midrangebase_Repeat.F (n : Nat) (a0 : Int) (a1 : Int) : Option (ByteArray) := midrangebase_Repeat.e n (midrangebase_Repeat.l n n) Option.some a0 a1
noncomputable def midrangebase_Repeat.dec (x : AV) : Option (ByteArray) := match x with | .v (.string p0) => Option.some p0 | _ => none
theorem midrangebase_Repeat.dec_inv {p : ByteArray} (y : AV) (h : midrangebase_Repeat.dec y = some p) : y = vs p := by
  unfold midrangebase_Repeat.dec at h
  split at h
  · cases h; rfl
  · cases h
theorem midrangebase_Repeat.l_eq (n m : Nat) : (∀ (z1 : Int) (z2 : Int) (z3 : Int) (z4 : List AV), runK G (midrangebase_Repeat.C n) midrangebase_Repeat.cut (fun S => finK G Try.f61.resultTypes.toList Try.f61.results.toList S midrangebase_Repeat.dec) m midrangebase_Repeat.t3 (midrangebase_Repeat.s3 z1 z2 z3 z4) = (midrangebase_Repeat.l n m) z1 z2 z3 z4) := by
  induction m with
  | zero => exact fun z1 z2 z3 z4 => rfl
  | succ m ih =>
    have h3 := ih
    have e3 : (fun (z1 : Int) (z2 : Int) (z3 : Int) (z4 : List AV) => runK G (midrangebase_Repeat.C n) midrangebase_Repeat.cut (fun S => finK G Try.f61.resultTypes.toList Try.f61.results.toList S midrangebase_Repeat.dec) m midrangebase_Repeat.t3 (midrangebase_Repeat.s3 z1 z2 z3 z4)) = (midrangebase_Repeat.l n m) := by funext z1 z2 z3 z4; exact h3 z1 z2 z3 z4
    have q3 : ∀ (z1 : Int) (z2 : Int) (z3 : Int) (z4 : List AV), runK G (midrangebase_Repeat.C n) midrangebase_Repeat.cut (fun S => finK G Try.f61.resultTypes.toList Try.f61.results.toList S midrangebase_Repeat.dec) (m + 1) midrangebase_Repeat.t3 (midrangebase_Repeat.s3 z1 z2 z3 z4) = (midrangebase_Repeat.l n (m + 1)) z1 z2 z3 z4 := by
      intro z1 z2 z3 z4
      rw [runK_succ]
      refine (midrangebase_Repeat.r3_eq n _ midrangebase_Repeat.dec z1 z2 z3 z4).trans ?_
      rw [e3]
      rfl
    exact q3
theorem midrangebase_Repeat.hands (n : Nat) (a0 : Int) (a1 : Int) {p : ByteArray} (h : midrangebase_Repeat.F n a0 a1 = some p) : HandsIn Try.prog 61 [vu a0, vi a1] (vs p) := by
  refine hands_of cfg mixed (fun _ => rfl) (midrangebase_Repeat.tells n) (fn := Try.f61) Try.func61 (by kernel_rfl) (by kernel_rfl) (cut := midrangebase_Repeat.cut) (K := midrangebase_Repeat.dec) (r := p) (n := n) midrangebase_Repeat.dec_inv ?_
  rw [funK_getD (by kernel_rfl)]
  have h1 := midrangebase_Repeat.e_eq n (runK G (midrangebase_Repeat.C n) midrangebase_Repeat.cut (fun S => finK G Try.f61.resultTypes.toList Try.f61.results.toList S midrangebase_Repeat.dec) n) midrangebase_Repeat.dec a0 a1
  have hl := midrangebase_Repeat.l_eq n n
  simp only [hl] at h1
  exact h1.trans h
noncomputable def midrangebase_Repeat.via {R : Type} (n : Nat) (xs : List AV) : (AV → Option R) → Option R := match xs with | [.v (.int .u8 a0), .v (.int .i64 a1)] => fun K => (midrangebase_Repeat.F n a0 a1).bind fun p => K (vs p) | _ => fun _ => none
theorem midrangebase_Repeat.tells1 {R : Type} (n : Nat) (xs : List AV) : Tells1 (R := R) Try.prog 61 xs (midrangebase_Repeat.via n xs) := by
  unfold midrangebase_Repeat.via
  split
  · exact Tells1.of (fun p hp => (midrangebase_Repeat.hands n _ _ hp).hands)
  · exact Tells1.none
end Go.Proofs.Ytgmpnhfnkhohiaa.Ev

/- midrange/midrangeref03.New, out of its evaluation. Printed by the session's own program. -/
namespace Go.Proofs.Ytgmpnhfnkhohiaa.Ev
open Go Go.Proofs Go.Proofs.Ev
set_option linter.unusedVariables false
set_option maxRecDepth 100000
/-! midrange/midrangeref03.New: function 45 -/
noncomputable def midrangeref03_New.e {R : Type} (n : Nat)  (k : ByteArray × List AV → Option R) (a0 : Int) : Option R :=
  (midrangebase_Repeat.F n 0 (IntKind.i64.wrap (a0 * 16))).bind fun p1 =>
  bif (decide ((0 : Int) ≤ a0) && decide ((a0 : Int) ≤ most)) && decide ((a0 : Int) = a0) && true && true then (let y2 : List AV := List.replicate (a0).toNat (vb false)
  k (p1, y2)) else none
noncomputable def midrangeref03_New.C {R : Type} (n : Nat) (f : FuncId) (xs : List AV) : (AV → Option R) → Option R :=
  bif Nat.beq f 61 then midrangebase_Repeat.via n xs else fun _ => none
theorem midrangeref03_New.tells {R : Type} (n : Nat) : Tells (R := R) Try.prog (midrangeref03_New.C n) := fun _ xs => tells_at (midrangebase_Repeat.tells1 n xs) (Tells1.none)
noncomputable def midrangeref03_New.cut (r : Nat) : Option Keep := match r with  | _ => none
theorem midrangeref03_New.e_eq {R : Type} (n : Nat) (rec : List Item → St → Option R) (K : AV → Option R) (a0 : Int) :
    goK G (midrangeref03_New.C n) midrangeref03_New.cut (fun S => finK G Try.f45.resultTypes.toList Try.f45.results.toList S K) rec 1000 [.code (Try.f45.body.getD .skip)] (Ev.start Try.f45 [vi a0]) = midrangeref03_New.e n  (fun p => K (.agg [vs p.1, .fr true 1 p.2])) a0 := by kernel_rfl
noncomputable def midrangeref03_New.F (n : Nat) (a0 : Int) : Option (ByteArray × List AV) := midrangeref03_New.e n  Option.some a0
noncomputable def midrangeref03_New.dec (x : AV) : Option (ByteArray × List AV) := match x with | .agg [.v (.string p0), .fr true 1 p1] => Option.some (p0, p1) | _ => none
theorem midrangeref03_New.dec_inv {p : ByteArray × List AV} (y : AV) (h : midrangeref03_New.dec y = some p) : y = .agg [vs p.1, .fr true 1 p.2] := by
  unfold midrangeref03_New.dec at h
  split at h
  · cases h; rfl
  · cases h
theorem midrangeref03_New.hands (n : Nat) (a0 : Int) {p : ByteArray × List AV} (h : midrangeref03_New.F n a0 = some p) : HandsIn Try.prog 45 [vi a0] (.agg [vs p.1, .fr true 1 p.2]) := by
  refine hands_of cfg mixed (fun _ => rfl) (midrangeref03_New.tells n) (fn := Try.f45) Try.func45 (by kernel_rfl) (by kernel_rfl) (cut := midrangeref03_New.cut) (K := midrangeref03_New.dec) (r := p) (n := n) midrangeref03_New.dec_inv ?_
  rw [funK_getD (by kernel_rfl)]
  have h1 := midrangeref03_New.e_eq n (runK G (midrangeref03_New.C n) midrangeref03_New.cut (fun S => finK G Try.f45.resultTypes.toList Try.f45.results.toList S midrangeref03_New.dec) n) midrangeref03_New.dec a0
  exact h1.trans h
noncomputable def midrangeref03_New.via {R : Type} (n : Nat) (xs : List AV) : (AV → Option R) → Option R := match xs with | [.v (.int .i64 a0)] => fun K => (midrangeref03_New.F n a0).bind fun p => K (.agg [vs p.1, .fr true 1 p.2]) | _ => fun _ => none
theorem midrangeref03_New.tells1 {R : Type} (n : Nat) (xs : List AV) : Tells1 (R := R) Try.prog 45 xs (midrangeref03_New.via n xs) := by
  unfold midrangeref03_New.via
  split
  · exact Tells1.of (fun p hp => (midrangeref03_New.hands n _ hp).hands)
  · exact Tells1.none
end Go.Proofs.Ytgmpnhfnkhohiaa.Ev

/- midrange/midrangelaw03.TaggedStorages, out of its evaluation. Printed by the session's own program. -/
namespace Go.Proofs.Ytgmpnhfnkhohiaa.Ev
open Go Go.Proofs Go.Proofs.Ev
set_option linter.unusedVariables false
set_option maxRecDepth 100000
/-! midrange/midrangelaw03.TaggedStorages: function 9 -/
noncomputable def midrangelaw03_TaggedStorages.e {R : Type} (n : Nat)  (k : Bool → Option R) (a0 : ByteArray) (a1 : List AV) (a2 : Int) : Option R :=
  (midrangelaw03_awake.F n ).bind fun p1 =>
  bif !p1 then (k false) else ((midrangelaw03_few.F n a0 a1).bind fun p2 =>
  bif !p2 then (k true) else ((midrangebase_OwnStorage.F n a0 a1).bind fun p3 =>
  (tagged_CheckStorage.F n p3.1 p3.2).bind fun p4 =>
  (midrangeref03_Check.F n a0 a1).bind fun p5 =>
  bif p4.2 != p5.2 then (k false) else (bif p4.1 != p5.1 then (k false) else ((tagged_NewStorage.F n a2).bind fun p6 =>
  (midrangebase_Within.F n a2 0 64).bind fun p7 =>
  bif !p7 then (bif p6.2.2 == 3 then ((midrangelaw03_none.F n p6.1 p6.2.1).bind fun p8 =>
  k p8) else (k false)) else (bif p6.2.2 == 0 then ((midrangeref03_New.F n a2).bind fun p9 =>
  (midrangebase_SameStorage.F n p6.1 p6.2.1 p9.1 p9.2).bind fun p10 =>
  k p10) else (k false))))))
noncomputable def midrangelaw03_TaggedStorages.C {R : Type} (n : Nat) (f : FuncId) (xs : List AV) : (AV → Option R) → Option R :=
  bif Nat.beq f 10 then midrangelaw03_awake.via n xs else bif Nat.beq f 17 then midrangelaw03_few.via n xs else bif Nat.beq f 19 then midrangebase_OwnStorage.via n xs else bif Nat.beq f 22 then midrangelaw03_none.via n xs else bif Nat.beq f 24 then midrangebase_SameStorage.via n xs else bif Nat.beq f 40 then midrangebase_Within.via n xs else bif Nat.beq f 42 then tagged_CheckStorage.via n xs else bif Nat.beq f 43 then midrangeref03_Check.via n xs else bif Nat.beq f 44 then tagged_NewStorage.via n xs else bif Nat.beq f 45 then midrangeref03_New.via n xs else fun _ => none
theorem midrangelaw03_TaggedStorages.tells {R : Type} (n : Nat) : Tells (R := R) Try.prog (midrangelaw03_TaggedStorages.C n) := fun _ xs => tells_at (midrangelaw03_awake.tells1 n xs) (tells_at (midrangelaw03_few.tells1 n xs) (tells_at (midrangebase_OwnStorage.tells1 n xs) (tells_at (midrangelaw03_none.tells1 n xs) (tells_at (midrangebase_SameStorage.tells1 n xs) (tells_at (midrangebase_Within.tells1 n xs) (tells_at (tagged_CheckStorage.tells1 n xs) (tells_at (midrangeref03_Check.tells1 n xs) (tells_at (tagged_NewStorage.tells1 n xs) (tells_at (midrangeref03_New.tells1 n xs) (Tells1.none))))))))))
noncomputable def midrangelaw03_TaggedStorages.cut (r : Nat) : Option Keep := match r with  | _ => none
theorem midrangelaw03_TaggedStorages.e_eq {R : Type} (n : Nat) (rec : List Item → St → Option R) (K : AV → Option R) (a0 : ByteArray) (a1 : List AV) (a2 : Int) :
    goK G (midrangelaw03_TaggedStorages.C n) midrangelaw03_TaggedStorages.cut (fun S => finK G Try.f9.resultTypes.toList Try.f9.results.toList S K) rec 1000 [.code (Try.f9.body.getD .skip)] (Ev.start Try.f9 [AV.agg [vs a0, .sl true 1 a1], vi a2]) = midrangelaw03_TaggedStorages.e n  (fun p => K (vb p)) a0 a1 a2 := by kernel_rfl
noncomputable def midrangelaw03_TaggedStorages.F (n : Nat) (a0 : ByteArray) (a1 : List AV) (a2 : Int) : Option (Bool) := midrangelaw03_TaggedStorages.e n  Option.some a0 a1 a2
noncomputable def midrangelaw03_TaggedStorages.dec (x : AV) : Option (Bool) := match x with | .v (.bool p0) => Option.some p0 | _ => none
theorem midrangelaw03_TaggedStorages.dec_inv {p : Bool} (y : AV) (h : midrangelaw03_TaggedStorages.dec y = some p) : y = vb p := by
  unfold midrangelaw03_TaggedStorages.dec at h
  split at h
  · cases h; rfl
  · cases h
theorem midrangelaw03_TaggedStorages.hands (n : Nat) (a0 : ByteArray) (a1 : List AV) (a2 : Int) {p : Bool} (h : midrangelaw03_TaggedStorages.F n a0 a1 a2 = some p) : HandsIn Try.prog 9 [AV.agg [vs a0, .sl true 1 a1], vi a2] (vb p) := by
  refine hands_of cfg mixed (fun _ => rfl) (midrangelaw03_TaggedStorages.tells n) (fn := Try.f9) Try.func9 (by kernel_rfl) (by kernel_rfl) (cut := midrangelaw03_TaggedStorages.cut) (K := midrangelaw03_TaggedStorages.dec) (r := p) (n := n) midrangelaw03_TaggedStorages.dec_inv ?_
  rw [funK_getD (by kernel_rfl)]
  have h1 := midrangelaw03_TaggedStorages.e_eq n (runK G (midrangelaw03_TaggedStorages.C n) midrangelaw03_TaggedStorages.cut (fun S => finK G Try.f9.resultTypes.toList Try.f9.results.toList S midrangelaw03_TaggedStorages.dec) n) midrangelaw03_TaggedStorages.dec a0 a1 a2
  exact h1.trans h
noncomputable def midrangelaw03_TaggedStorages.via {R : Type} (n : Nat) (xs : List AV) : (AV → Option R) → Option R := match xs with | [.agg [.v (.string a0), .sl true 1 a1], .v (.int .i64 a2)] => fun K => (midrangelaw03_TaggedStorages.F n a0 a1 a2).bind fun p => K (vb p) | _ => fun _ => none
theorem midrangelaw03_TaggedStorages.tells1 {R : Type} (n : Nat) (xs : List AV) : Tells1 (R := R) Try.prog 9 xs (midrangelaw03_TaggedStorages.via n xs) := by
  unfold midrangelaw03_TaggedStorages.via
  split
  · exact Tells1.of (fun p hp => (midrangelaw03_TaggedStorages.hands n _ _ _ hp).hands)
  · exact Tells1.none
end Go.Proofs.Ytgmpnhfnkhohiaa.Ev

/- New storages; where a pattern stands, which quadwords have a tag: chapter 3's program and its reference, in plain words. -/
namespace Go.Proofs.Ytgmpnhfnkhohiaa.Ev
open Go Go.Proofs Go.Proofs.Ev
set_option linter.unusedVariables false

theorem repeatL_zero : ∀ k, Lib.repeatL [0] k = List.replicate k 0
  | 0 => rfl
  | k + 1 => by simp [Lib.repeatL, repeatL_zero k, List.replicate_succ]
theorem strOf_zeros : ∀ k, strOf (List.replicate k (vu 0)) = some (List.replicate k 0)
  | 0 => rfl
  | k + 1 => by
    rw [List.replicate_succ, List.replicate_succ]
    simp only [strOf, strOf_zeros k, Option.map_some]
    rfl

theorem baseRepeat_l (n N : Nat) (hN : N ≤ 1000000) : ∀ (d i m : Nat), i + d = N → d < m → midrangebase_Repeat.l n m 0 N i (List.replicate i (vu 0)) = some ⟨(List.replicate N 0).toArray⟩
  | _, _, 0, _, h => absurd h (by omega)
  | 0, i, m + 1, h, _ => by
    have : i = N := by omega
    subst this
    unfold midrangebase_Repeat.l midrangebase_Repeat.r3
    rw [cond_f (by omega), strOf_zeros]
    rfl
  | d + 1, i, m + 1, h, hm => by
    unfold midrangebase_Repeat.l midrangebase_Repeat.r3
    have hmost : most = 1000000000 := rfl
    have e : List.replicate i (vu 0) ++ [vu 0] = List.replicate (i + 1) (vu 0) := by rw [List.replicate_succ']
    rw [cond_t (by omega), cond_t (by simp; omega), e, wsucc (by omega)]
    exact baseRepeat_l n N hN d (i + 1) m (by omega) (by omega)

theorem new_eq {n : Nat} (hn : 2000 ≤ n) (a : Int) (h : 0 ≤ a ∧ a ≤ 64) : ∃ b ts, ts.length ≤ 64 ∧ tagged_NewStorage.F n a = some (b, Bl ts, 0) ∧ midrangeref03_New.F n a = some (b, Bl ts) := by
  obtain ⟨q, rfl⟩ := Int.eq_ofNat_of_zero_le h.1
  have e1 : IntKind.i64.wrap ((q : Int) * 16) = ((16 * q : Nat) : Int) := by rw [w64] <;> omega
  have hmost : most = 1000000000 := rfl
  have e2 : ((decide ((0 : Int) ≤ (q : Int)) && decide ((q : Int) ≤ (most : Int))) && decide True && true && true) = true := by
    simp [hmost]
    omega
  refine ⟨⟨(List.replicate (16 * q) 0).toArray⟩, List.replicate q false, by simp; omega, ?_, ?_⟩
  · unfold tagged_NewStorage.F tagged_NewStorage.e
    have e3 : (decide ((0 : Int) ≤ (q : Int)) && decide ((q : Int) ≤ 64)) = true := by rw [Bool.and_eq_true, decide_eq_true_eq, decide_eq_true_eq]; omega
    have e4 : (decide (0 ≤ ((16 * q : Nat) : Int)) && decide ((((⟨#[0]⟩ : ByteArray).size : Nat) : Int) * ((16 * q : Nat) : Int) ≤ 140737488355328) && decide (((16 * q : Nat) : Int) ≤ 9223372036854775807)) = true := by
      have : (⟨#[0]⟩ : ByteArray).size = 1 := rfl
      rw [Bool.and_eq_true, Bool.and_eq_true, decide_eq_true_eq, decide_eq_true_eq, decide_eq_true_eq, this]
      omega
    simp only [within_eq, e3, Option.bind_some, Bool.not_true, cond_false, e1, strings_Repeat.F, e4, cond_true, e2, Int.toNat_natCast]
    rw [repeatL_zero, bl_replicate]
  · unfold midrangeref03_New.F midrangeref03_New.e midrangebase_Repeat.F midrangebase_Repeat.e
    rw [e1]
    have := baseRepeat_l n (16 * q) (by omega) (16 * q) 0 n (by omega) (by omega)
    rw [List.replicate_zero] at this
    rw [show (0 : Int) = ((0 : Nat) : Int) from rfl] at this ⊢
    rw [this]
    simp only [Option.bind_some]
    rw [show ((0 : Nat) : Int) = 0 from rfl, e2, cond_true, Int.toNat_natCast, bl_replicate]

/-- P3.2. -/
theorem storages_law {n : Nat} (hn : 1000002 ≤ n) (s : ByteArray) (ts : List Bool) (a : Int) : midrangelaw03_TaggedStorages.F n s (Bl ts) a = some true := by
  unfold midrangelaw03_TaggedStorages.F midrangelaw03_TaggedStorages.e
  rw [awake_eq hn, few_eq]
  simp only [Option.bind_some, Bool.not_true, cond_false]
  cases hf : (decide (s.size ≤ 1072) && decide (ts.length ≤ 67)) with
  | false => rfl
  | true =>
    simp only [Bool.and_eq_true, decide_eq_true_eq] at hf
    obtain ⟨hs, hl⟩ := hf
    obtain ⟨r, r1, r2, _⟩ := checkS_eq (n := n) (by omega) s ts hs
    rw [own_eq n s ts (by omega)]
    simp only [Option.bind_some, Bool.not_true, cond_false]
    rw [r1, r2]
    simp only [Option.bind_some, bne_self_eq_false, cond_false, bwithin_eq]
    cases hw : (decide ((0 : Int) ≤ a) && decide (a ≤ 64)) with
    | false =>
      have : tagged_NewStorage.F n a = some (⟨#[]⟩, [], 3) := by
        unfold tagged_NewStorage.F tagged_NewStorage.e
        rw [within_eq, hw]
        rfl
      rw [this]
      simp only [Option.bind_some, Bool.not_false, cond_true, BEq.rfl, none_eq]
    | true =>
      rw [Bool.and_eq_true, decide_eq_true_eq, decide_eq_true_eq] at hw
      obtain ⟨b, us, h1, h2, h3⟩ := new_eq (n := n) (by omega) a hw
      rw [h2, h3]
      simp only [Option.bind_some, Bool.not_true, cond_false, cond_true, BEq.rfl]
      rw [same_eq b us (by omega) (by omega)]
      rfl

/-- The offsets of the quadwords below 'i' that have a tag. -/
def pts (ts : List Bool) (i : Nat) : List AV := ((List.range i).filter fun j => ts.getD j false).map fun j => vi ((16 * j : Nat) : Int)
theorem pts_length (ts : List Bool) (i : Nat) : (pts ts i).length ≤ i := by
  unfold pts
  rw [List.length_map]
  have := List.length_filter_le (fun j => ts.getD j false) (List.range i)
  simpa using this
theorem pts_succ_t {ts : List Bool} {i : Nat} (h : ts.getD i false = true) : pts ts i ++ [vi ((16 * i : Nat) : Int)] = pts ts (i + 1) := by
  unfold pts
  rw [List.range_succ, List.filter_append, List.map_append, List.filter_cons_of_pos (p := fun j => ts.getD j false) (a := i) (l := []) h]
  rfl
theorem pts_succ_f {ts : List Bool} {i : Nat} (h : ts.getD i false = false) : pts ts i = pts ts (i + 1) := by
  unfold pts
  rw [List.range_succ, List.filter_append, List.map_append, List.filter_cons_of_neg (by rw [h]; simp)]
  simp

theorem pointersIn_l (n : Nat) (ts : List Bool) (hl : ts.length ≤ 1000) : ∀ (d i m : Nat), i + d = ts.length → d < m → tagged_PointersIn.l n m (Bl ts) ts.length i (pts ts i) = some (pts ts ts.length, 0)
  | _, _, 0, _, h => absurd h (by omega)
  | 0, i, m + 1, h, _ => by
    have : i = ts.length := by omega
    subst this
    unfold tagged_PointersIn.l tagged_PointersIn.r6
    rw [cond_f (by omega)]
  | d + 1, i, m + 1, h, hm => by
    have hi : i < ts.length := by omega
    have hg : ts.getD i false = ts[i] := by simp [List.getD_eq_getElem?_getD, hi]
    have hmost : most = 1000000000 := rfl
    have ih := pointersIn_l n ts hl d (i + 1) m (by omega) (by omega)
    have e1 : IntKind.i64.wrap ((i : Int) * 16) = ((16 * i : Nat) : Int) := by rw [w64] <;> omega
    unfold tagged_PointersIn.l tagged_PointersIn.r6
    rw [cond_t (by omega), bl_length, within_t hi, cond_true, Int.toNat_natCast, bl_get hi]
    simp only [AV.cells, withCons, withBool, e1]
    rw [wsucc (by omega)]
    cases hb : ts[i] with
    | true =>
      have := pts_length ts i
      rw [cond_true, cond_t (by simp; omega), pts_succ_t (hg.trans hb)]
      exact ih
    | false =>
      rw [cond_false, pts_succ_f (hg.trans hb)]
      exact ih

theorem pointers_l (n : Nat) (s : ByteArray) (ts : List Bool) (hl : ts.length ≤ 1000) : ∀ (d i m : Nat), i + d = ts.length → d < m → midrangeref03_Pointers.l n m i s (Bl ts) (pts ts i) = some (pts ts ts.length)
  | _, _, 0, _, h => absurd h (by omega)
  | 0, i, m + 1, h, _ => by
    have : i = ts.length := by omega
    subst this
    unfold midrangeref03_Pointers.l midrangeref03_Pointers.r3
    rw [bl_length, cond_f (by omega)]
  | d + 1, i, m + 1, h, hm => by
    have hi : i < ts.length := by omega
    have hg : ts.getD i false = ts[i] := by simp [List.getD_eq_getElem?_getD, hi]
    have hmost : most = 1000000000 := rfl
    have ih := pointers_l n s ts hl d (i + 1) m (by omega) (by omega)
    have e1 : IntKind.i64.wrap ((i : Int) * 16) = ((16 * i : Nat) : Int) := by rw [w64] <;> omega
    unfold midrangeref03_Pointers.l midrangeref03_Pointers.r3
    rw [bl_length, cond_t (by omega), within_t hi, cond_true, Int.toNat_natCast, bl_get hi]
    simp only [AV.cells, withCons, withBool, e1]
    rw [wsucc (by omega)]
    cases hb : ts[i] with
    | true =>
      have := pts_length ts i
      rw [cond_true, cond_t (by simp; omega), pts_succ_t (hg.trans hb)]
      exact ih
    | false =>
      rw [cond_false, pts_succ_f (hg.trans hb)]
      exact ih

theorem ints_l (n : Nat) (xs : List Int) (hl : xs.length ≤ 1000000) : ∀ (e i m : Nat), i + e = xs.length → e < m → midrangebase_Ints.l n m (xs.map vi) (xs.map vi) i = some true
  | _, _, 0, _, h => absurd h (by omega)
  | 0, i, m + 1, h, _ => by
    have : i = xs.length := by omega
    subst this
    unfold midrangebase_Ints.l midrangebase_Ints.r4
    rw [List.length_map, cond_f (by omega)]
  | e + 1, i, m + 1, h, hm => by
    have hi : i < xs.length := by omega
    have hg : (xs.map vi).getD i .undef = vi xs[i] := by simp [List.getD_eq_getElem?_getD, hi]
    unfold midrangebase_Ints.l midrangebase_Ints.r4
    rw [List.length_map, cond_t (by omega), within_t hi, cond_true, Int.toNat_natCast, hg]
    simp only [AV.cells, withCons, withInt, decide_true, bne_self_eq_false, cond_false, cond_true]
    rw [wsucc (by omega)]
    exact ints_l n xs hl e (i + 1) m (by omega) (by omega)
theorem ints_eq {n : Nat} (xs : List Int) (hl : xs.length ≤ 1000000) (hn : xs.length < n) : midrangebase_Ints.F n (xs.map vi) (xs.map vi) = some true := by
  unfold midrangebase_Ints.F midrangebase_Ints.e
  simp only [bne_self_eq_false, cond_false]
  exact ints_l n xs hl xs.length 0 n (by omega) hn

/-- Whether a pattern stands at an offset. -/
def stands (s p : ByteArray) (j : Nat) : Prop := s.extract j (j + p.size) = p
def posOf : Option Nat → Int
  | some k => k
  | none => -1
theorem find_l (n : Nat) (s p : ByteArray) (t : List AV) (hs : s.size ≤ 100000) (hp : p.size ≤ 100000) (q : Option Nat) (hq : ∀ k, q = some k → k + p.size ≤ s.size ∧ stands s p k) : ∀ (d i m : Nat), i + d = s.size + 1 → d < m →
    (∀ k, q = some k → i ≤ k) → (∀ j, i ≤ j → j + p.size ≤ s.size → stands s p j → ∃ k, q = some k ∧ k ≤ j) → midrangeref03_Find.l n m p i s t = some (posOf q)
  | _, _, 0, _, h, _, _ => absurd h (by omega)
  | d, i, m + 1, h, hm, h1, h2 => by
    unfold midrangeref03_Find.l midrangeref03_Find.r2
    have e1 : IntKind.i64.wrap ((i : Int) + ((p.size : Nat) : Int)) = ((i + p.size : Nat) : Int) := by rw [w64] <;> omega
    simp only [e1]
    by_cases c : i + p.size ≤ s.size
    · obtain ⟨d, rfl⟩ : ∃ d', d = d' + 1 := ⟨d - 1, by omega⟩
      rw [cond_t (by omega), upto_t c, upto_t2 (by omega), wsucc (by omega)]
      simp only [cond_true, Int.toNat_natCast]
      by_cases hst : stands s p i
      · obtain ⟨k, hk, hki⟩ := h2 i (Nat.le_refl _) c hst
        have : k = i := Nat.le_antisymm hki (h1 k hk)
        subst this
        rw [hst, hk]
        simp [posOf]
      · have e2 : ((s.extract i (i + p.size)).toList == p.toList) = false := by
          rw [ByteArray.toList_eq, ByteArray.toList_eq, beq_eq_false_iff_ne]
          exact fun e => hst (ba_ext e)
        rw [e2, cond_false]
        refine find_l n s p t hs hp q hq d (i + 1) m (by omega) (by omega) (fun k hk => ?_) (fun j hj c2 hs2 => h2 j (by omega) c2 hs2)
        have := h1 k hk
        by_cases e : k = i
        · subst e; exact absurd (hq k hk).2 hst
        · omega
    · rw [cond_f (by omega)]
      cases hqq : q with
      | none => rfl
      | some k => have := h1 k hqq; have := (hq k hqq).1; omega

theorem occ_stands {s p : ByteArray} {a j : Nat} (hj : a + j + p.size ≤ s.size) : Lib.occAt (s.data.toList.drop a) p.data.toList j = true ↔ stands s p (a + j) := by
  unfold Lib.occAt stands
  rw [List.isPrefixOf_iff_prefix, List.prefix_iff_eq_take, List.drop_drop]
  have hs : s.data.toList.length = s.size := Array.length_toList
  have hp : p.data.toList.length = p.size := Array.length_toList
  constructor
  · intro h
    apply ba_ext
    rw [extract_list, show a + j + p.size - (a + j) = p.size by omega, ← hp]
    exact h.symm
  · intro h
    have := congrArg (fun b : ByteArray => b.data.toList) h
    simp only [extract_list] at this
    rw [show a + j + p.size - (a + j) = p.size by omega] at this
    rw [hp]
    exact this.symm
theorem occ_room {l q : List UInt8} {j : Nat} (h : Lib.occAt l q j = true) (hq : q ≠ []) : j + q.length ≤ l.length := by
  unfold Lib.occAt at h
  rw [List.isPrefixOf_iff_prefix] at h
  have := h.length_le
  rw [List.length_drop] at this
  have : 0 < q.length := List.length_pos_iff.2 hq
  omega

theorem find_eq {n : Nat} (s p : ByteArray) (t : List AV) (a : Nat) (ha : a ≤ s.size) (hs : s.size ≤ 100000) (hp : p.size ≤ 100000) (hp0 : p.size ≠ 0) (hn : s.size + 2 < n) :
    midrangeref03_Find.F n s t a p = some (if Lib.index (s.data.toList.drop a) p.data.toList = -1 then -1 else Lib.index (s.data.toList.drop a) p.data.toList + a) := by
  unfold midrangeref03_Find.F midrangeref03_Find.e
  have hsl : s.data.toList.length = s.size := Array.length_toList
  have hpl : p.data.toList.length = p.size := Array.length_toList
  have hne : p.data.toList ≠ [] := by intro e; rw [e] at hpl; simp at hpl; omega
  rcases Lib.index_spec (s.data.toList.drop a) p.data.toList with ⟨h1, h2⟩ | ⟨i, h1, h2, h3, h4⟩
  · rw [h1, if_pos rfl]
    refine find_l n s p t hs hp none (by simp) (s.size + 1 - a) a n (by omega) (by omega) (by simp) (fun j hj c hst => ?_)
    exfalso
    have e : a + (j - a) = j := by omega
    have := (occ_stands (s := s) (p := p) (a := a) (j := j - a) (by omega)).2 (by rw [e]; exact hst)
    rw [h2 (j - a) (by rw [List.length_drop]; omega)] at this
    cases this
  · have hroom := occ_room h3 hne
    rw [List.length_drop] at hroom
    rw [h1, if_neg (by omega)]
    have hst := (occ_stands (s := s) (p := p) (a := a) (j := i) (by omega)).1 h3
    have := find_l n s p t hs hp (some (a + i)) (fun k hk => by cases hk; exact ⟨by omega, hst⟩) (s.size + 1 - a) a n (by omega) (by omega) (fun k hk => by cases hk; omega) (fun j hj c hst2 => by
      refine ⟨a + i, rfl, ?_⟩
      by_cases hlt : j < a + i
      · exfalso
        have e : a + (j - a) = j := by omega
        have := (occ_stands (s := s) (p := p) (a := a) (j := j - a) (by omega)).2 (by rw [e]; exact hst2)
        rw [h4 (j - a) (by omega)] at this
        cases this
      · omega)
    rw [this]
    simp only [posOf, Option.some.injEq]
    omega

/-- P3.6. -/
theorem finds_law {n : Nat} (hn : 1000002 ≤ n) (s : ByteArray) (ts : List Bool) (a : Int) (p : ByteArray) : midrangelaw03_TaggedFinds.F n s (Bl ts) a p = some true := by
  unfold midrangelaw03_TaggedFinds.F midrangelaw03_TaggedFinds.e
  rw [awake_eq hn, few_eq]
  simp only [Option.bind_some, Bool.not_true, cond_false]
  cases hf : (decide (s.size ≤ 1072) && decide (ts.length ≤ 67)) with
  | false => rfl
  | true =>
    simp only [Bool.and_eq_true, decide_eq_true_eq] at hf
    obtain ⟨hs, hl⟩ := hf
    obtain ⟨r, r1, r2, r3⟩ := checkS_eq (n := n) (by omega) s ts hs
    by_cases hd : ((p.size : Nat) : Int) > 1200
    · simp only [hd, decide_true, cond_true, Bool.not_true, cond_false]
    · simp only [hd, decide_false, cond_false, Bool.not_true]
      rw [own_eq n s ts (by omega)]
      simp only [Option.bind_some]
      rw [err_eq r2]
      have hpi : tagged_PointersIn.F n s (Bl ts) = some (bif r.2 != 0 then ([], r.2) else (pts ts ts.length, 0)) := by
        unfold tagged_PointersIn.F tagged_PointersIn.e
        rw [r1, bl_length]
        simp only [Option.bind_some]
        have := pointersIn_l n ts (by omega) ts.length 0 n (by omega) (by omega)
        rw [show pts ts 0 = [] from rfl, show ((0 : Nat) : Int) = 0 from rfl] at this
        rw [this]
        cases r.2 != 0 <;> rfl
      have hpr : midrangeref03_Pointers.F n s (Bl ts) = some (pts ts ts.length) := by
        unfold midrangeref03_Pointers.F midrangeref03_Pointers.e
        exact pointers_l n s ts (by omega) ts.length 0 n (by omega) (by omega)
      have hin : midrangebase_Ints.F n (pts ts ts.length) (pts ts ts.length) = some true := by
        have hlen := pts_length ts ts.length
        unfold pts at hlen ⊢
        have e : ((List.range ts.length).filter fun j => ts.getD j false).map (fun j => vi ((16 * j : Nat) : Int)) = (((List.range ts.length).filter fun j => ts.getD j false).map fun j => ((16 * j : Nat) : Int)).map vi := by rw [List.map_map]; rfl
        rw [List.length_map] at hlen
        rw [e]
        exact ints_eq _ (by rw [List.length_map]; omega) (by rw [List.length_map]; omega)
      rw [hpi]
      unfold tagged_FindBytes.F tagged_FindBytes.e
      rw [inside_eq (by omega) s _ (by omega) r1]
      simp only [Option.bind_some]
      cases hc : r.2 != 0 with
      | true =>
        simp only [cond_true, hc, Option.bind_some, BEq.rfl, List.length_nil]
        rfl
      | false =>
        have h3 : ((3 : Int) != 0) = true := rfl
        simp only [cond_false, bne_self_eq_false, hpr, hin, Option.bind_some, Bool.not_true, bwithin_eq]
        have hir : inR s a 0 = (decide ((0 : Int) ≤ a) && decide (a ≤ ((s.size : Nat) : Int))) := by
          unfold inR
          cases hw : (decide ((0 : Int) ≤ a) && decide (a ≤ ((s.size : Nat) : Int))) with
          | false => rfl
          | true =>
            rw [Bool.and_eq_true, decide_eq_true_eq, decide_eq_true_eq] at hw
            rw [Bool.true_and, Bool.and_eq_true, decide_eq_true_eq, decide_eq_true_eq]
            omega
        rw [hir]
        cases hw : (decide ((0 : Int) ≤ a) && decide (a ≤ ((s.size : Nat) : Int))) with
        | false => simp only [cond_false, h3, cond_true, Option.bind_some, Bool.not_false, BEq.rfl]
        | true =>
          have hw' := hw
          rw [Bool.and_eq_true, decide_eq_true_eq, decide_eq_true_eq] at hw
          obtain ⟨b, rfl⟩ := Int.eq_ofNat_of_zero_le hw.1
          simp only [cond_true, bne_self_eq_false, cond_false, Bool.not_true, toList_empty]
          by_cases hp0 : p.size = 0
          · simp only [hp0, decide_true, cond_true, Option.bind_some, BEq.rfl]
          · simp only [hp0, decide_false, cond_false]
            rw [find_eq s p _ b (by omega) (by omega) (by omega) hp0 (by omega)]
            have hlist : (s.extract b s.size).data.toList = s.data.toList.drop b := by
              rw [extract_list]
              apply List.take_of_length_le
              rw [List.length_drop, Array.length_toList]
              exact Nat.le_refl _
            have hpl : p.data.toList.length = p.size := Array.length_toList
            have hsl : s.data.toList.length = s.size := Array.length_toList
            have hne : p.data.toList ≠ [] := by intro e; rw [e] at hpl; simp at hpl; omega
            have hge := Lib.index_ge (s.data.toList.drop b) p.data.toList
            by_cases hbig : ((p.size : Nat) : Int) > ((s.size : Nat) : Int)
            · have hm1 : Lib.index (s.data.toList.drop b) p.data.toList = -1 := by
                rcases Lib.index_spec (s.data.toList.drop b) p.data.toList with ⟨h1, _⟩ | ⟨i, h1, h2, h3, _⟩
                · exact h1
                · have := occ_room h3 hne
                  rw [List.length_drop] at this
                  omega
              simp only [hbig, decide_true, cond_true, Option.bind_some, hm1, if_true]
              rfl
            · simp only [hbig, decide_false, cond_false, strings_Index.F, Int.toNat_natCast]
              rw [cond_t (by rw [extract_size _ _ _ (Nat.le_refl _)]; omega), hlist]
              simp only [Option.bind_some]
              by_cases hm1 : Lib.index (s.data.toList.drop b) p.data.toList = -1
              · simp only [hm1, if_true]
                rfl
              · rw [if_neg hm1]
                have hnn : 0 ≤ Lib.index (s.data.toList.drop b) p.data.toList := by omega
                have hroom := Lib.index_room _ _ hnn
                rw [List.length_drop] at hroom
                have e1 : IntKind.i64.wrap ((b : Int) + Lib.index (s.data.toList.drop b) p.data.toList) = Lib.index (s.data.toList.drop b) p.data.toList + b := by rw [w64] <;> omega
                have e2 : (Lib.index (s.data.toList.drop b) p.data.toList + (b : Int) == -1) = false := by rw [beq_eq_false_iff_ne]; omega
                have e3 : (Lib.index (s.data.toList.drop b) p.data.toList + (b : Int) != -1) = true := by rw [bne_iff_ne]; omega
                rw [cond_f (by omega), e1]
                simp only [Option.bind_some, e2, e3, cond_false, cond_true, BEq.rfl]
end Go.Proofs.Ytgmpnhfnkhohiaa.Ev
