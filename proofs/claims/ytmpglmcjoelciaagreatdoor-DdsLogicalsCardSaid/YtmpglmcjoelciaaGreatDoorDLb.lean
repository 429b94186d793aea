/- midrange/dds.CheckLogical, out of its evaluation. Printed by the session's own program. -/
import Derived.Test.YtmpglmcjoelciaaGreatDoorDLa
import Derived.PlainAid
import Derived.IntWalk
import Derived.Laws.Strings
import Derived.Lib.AtoiTie
import Derived.Lib.IndexBytes

namespace Go.Proofs.YtmpglmcjoelciaaGreatDoor.Ev
open Go Go.Proofs Go.Proofs.Ev
set_option linter.unusedVariables false
set_option maxRecDepth 100000
/-! midrange/dds.CheckLogical: function 17 -/
noncomputable def dds_CheckLogical.r4 {R : Type} (n : Nat) (c4 : Int → Int → ByteArray → ByteArray → List AV → List AV → List AV → List AV → Bool → List AV → Option R) (c6 : Int → Int → ByteArray → ByteArray → List AV → List AV → List AV → List AV → Bool → List AV → Option R) (c6x1 : Int → Int → ByteArray → ByteArray → List AV → List AV → List AV → List AV → Bool → List AV → Option R) (c6x2 : Int → Int → ByteArray → ByteArray → List AV → List AV → List AV → List AV → Bool → List AV → Option R) (c6x3 : Int → Int → ByteArray → ByteArray → List AV → List AV → List AV → List AV → Bool → List AV → Option R) (c6x4 : Int → Int → ByteArray → ByteArray → List AV → List AV → List AV → List AV → Bool → List AV → Option R) (c7 : Int → Int → Int → Int → ByteArray → ByteArray → List AV → List AV → List AV → List AV → Bool → List AV → Option R) (k : Int × Int → Option R) (z1 : Int) (z2 : Int) (z3 : ByteArray) (z4 : ByteArray) (z5 : List AV) (z6 : List AV) (z7 : List AV) (z8 : List AV) (z9 : Bool) (z10 : List AV) : Option R :=
  bif decide (z2 < z1) then (bif decide (z2 = ((4 : Nat) : Int)) then (c6 z1 z2 z3 z4 z5 z6 z7 z8 z9 z10) else (bif decide (z2 = ((3 : Nat) : Int)) then (c6x1 z1 z2 z3 z4 z5 z6 z7 z8 z9 z10) else (bif decide (z2 = ((2 : Nat) : Int)) then (c6x2 z1 z2 z3 z4 z5 z6 z7 z8 z9 z10) else (bif decide (z2 = ((1 : Nat) : Int)) then (c6x3 z1 z2 z3 z4 z5 z6 z7 z8 z9 z10) else (bif decide (z2 = ((0 : Nat) : Int)) then (c6x4 z1 z2 z3 z4 z5 z6 z7 z8 z9 z10) else (none)))))) else (let y3 : Bool := decide (((z5.length : Nat) : Int) > 1)
  bif y3 then (let y4 : Bool := decide (((z10.length : Nat) : Int) > 0)
  bif y4 then ((dds_cond.F n true 15).bind fun p5 =>
  k (0, p5)) else ((dds_cond.F n z9 15).bind fun p6 =>
  k (0, p6))) else ((dds_cond.F n false 15).bind fun p7 =>
  k (0, p7)))
noncomputable def dds_CheckLogical.r6 {R : Type} (n : Nat) (c4 : Int → Int → ByteArray → ByteArray → List AV → List AV → List AV → List AV → Bool → List AV → Option R) (c6 : Int → Int → ByteArray → ByteArray → List AV → List AV → List AV → List AV → Bool → List AV → Option R) (c6x1 : Int → Int → ByteArray → ByteArray → List AV → List AV → List AV → List AV → Bool → List AV → Option R) (c6x2 : Int → Int → ByteArray → ByteArray → List AV → List AV → List AV → List AV → Bool → List AV → Option R) (c6x3 : Int → Int → ByteArray → ByteArray → List AV → List AV → List AV → List AV → Bool → List AV → Option R) (c6x4 : Int → Int → ByteArray → ByteArray → List AV → List AV → List AV → List AV → Bool → List AV → Option R) (c7 : Int → Int → Int → Int → ByteArray → ByteArray → List AV → List AV → List AV → List AV → Bool → List AV → Option R) (k : Int × Int → Option R) (z1 : Int) (z2 : Int) (z3 : ByteArray) (z4 : ByteArray) (z5 : List AV) (z6 : List AV) (z7 : List AV) (z8 : List AV) (z9 : Bool) (z10 : List AV) : Option R :=
  (dds_rulesErr.F n z3 z4 z5 z6 z7 z8 z9 z10).bind fun p8 =>
  c7 p8.1 p8.2 z1 z2 z3 z4 z5 z6 z7 z8 z9 z10
noncomputable def dds_CheckLogical.r6x1 {R : Type} (n : Nat) (c4 : Int → Int → ByteArray → ByteArray → List AV → List AV → List AV → List AV → Bool → List AV → Option R) (c6 : Int → Int → ByteArray → ByteArray → List AV → List AV → List AV → List AV → Bool → List AV → Option R) (c6x1 : Int → Int → ByteArray → ByteArray → List AV → List AV → List AV → List AV → Bool → List AV → Option R) (c6x2 : Int → Int → ByteArray → ByteArray → List AV → List AV → List AV → List AV → Bool → List AV → Option R) (c6x3 : Int → Int → ByteArray → ByteArray → List AV → List AV → List AV → List AV → Bool → List AV → Option R) (c6x4 : Int → Int → ByteArray → ByteArray → List AV → List AV → List AV → List AV → Bool → List AV → Option R) (c7 : Int → Int → Int → Int → ByteArray → ByteArray → List AV → List AV → List AV → List AV → Bool → List AV → Option R) (k : Int × Int → Option R) (z1 : Int) (z2 : Int) (z3 : ByteArray) (z4 : ByteArray) (z5 : List AV) (z6 : List AV) (z7 : List AV) (z8 : List AV) (z9 : Bool) (z10 : List AV) : Option R :=
  (dds_CheckLogical_1.F n z3 z4 z5 z6 z7 z8 z9 z10).bind fun p9 =>
  c7 p9.1 p9.2 z1 z2 z3 z4 z5 z6 z7 z8 z9 z10
noncomputable def dds_CheckLogical.r6x2 {R : Type} (n : Nat) (c4 : Int → Int → ByteArray → ByteArray → List AV → List AV → List AV → List AV → Bool → List AV → Option R) (c6 : Int → Int → ByteArray → ByteArray → List AV → List AV → List AV → List AV → Bool → List AV → Option R) (c6x1 : Int → Int → ByteArray → ByteArray → List AV → List AV → List AV → List AV → Bool → List AV → Option R) (c6x2 : Int → Int → ByteArray → ByteArray → List AV → List AV → List AV → List AV → Bool → List AV → Option R) (c6x3 : Int → Int → ByteArray → ByteArray → List AV → List AV → List AV → List AV → Bool → List AV → Option R) (c6x4 : Int → Int → ByteArray → ByteArray → List AV → List AV → List AV → List AV → Bool → List AV → Option R) (c7 : Int → Int → Int → Int → ByteArray → ByteArray → List AV → List AV → List AV → List AV → Bool → List AV → Option R) (k : Int × Int → Option R) (z1 : Int) (z2 : Int) (z3 : ByteArray) (z4 : ByteArray) (z5 : List AV) (z6 : List AV) (z7 : List AV) (z8 : List AV) (z9 : Bool) (z10 : List AV) : Option R :=
  (dds_joinsErr.F n z3 z4 z5 z6 z7 z8 z9 z10).bind fun p10 =>
  c7 p10.1 p10.2 z1 z2 z3 z4 z5 z6 z7 z8 z9 z10
noncomputable def dds_CheckLogical.r6x3 {R : Type} (n : Nat) (c4 : Int → Int → ByteArray → ByteArray → List AV → List AV → List AV → List AV → Bool → List AV → Option R) (c6 : Int → Int → ByteArray → ByteArray → List AV → List AV → List AV → List AV → Bool → List AV → Option R) (c6x1 : Int → Int → ByteArray → ByteArray → List AV → List AV → List AV → List AV → Bool → List AV → Option R) (c6x2 : Int → Int → ByteArray → ByteArray → List AV → List AV → List AV → List AV → Bool → List AV → Option R) (c6x3 : Int → Int → ByteArray → ByteArray → List AV → List AV → List AV → List AV → Bool → List AV → Option R) (c6x4 : Int → Int → ByteArray → ByteArray → List AV → List AV → List AV → List AV → Bool → List AV → Option R) (c7 : Int → Int → Int → Int → ByteArray → ByteArray → List AV → List AV → List AV → List AV → Bool → List AV → Option R) (k : Int × Int → Option R) (z1 : Int) (z2 : Int) (z3 : ByteArray) (z4 : ByteArray) (z5 : List AV) (z6 : List AV) (z7 : List AV) (z8 : List AV) (z9 : Bool) (z10 : List AV) : Option R :=
  (dds_fieldsErr.F n z3 z4 z5 z6 z7 z8 z9 z10).bind fun p11 =>
  c7 p11.1 p11.2 z1 z2 z3 z4 z5 z6 z7 z8 z9 z10
noncomputable def dds_CheckLogical.r6x4 {R : Type} (n : Nat) (c4 : Int → Int → ByteArray → ByteArray → List AV → List AV → List AV → List AV → Bool → List AV → Option R) (c6 : Int → Int → ByteArray → ByteArray → List AV → List AV → List AV → List AV → Bool → List AV → Option R) (c6x1 : Int → Int → ByteArray → ByteArray → List AV → List AV → List AV → List AV → Bool → List AV → Option R) (c6x2 : Int → Int → ByteArray → ByteArray → List AV → List AV → List AV → List AV → Bool → List AV → Option R) (c6x3 : Int → Int → ByteArray → ByteArray → List AV → List AV → List AV → List AV → Bool → List AV → Option R) (c6x4 : Int → Int → ByteArray → ByteArray → List AV → List AV → List AV → List AV → Bool → List AV → Option R) (c7 : Int → Int → Int → Int → ByteArray → ByteArray → List AV → List AV → List AV → List AV → Bool → List AV → Option R) (k : Int × Int → Option R) (z1 : Int) (z2 : Int) (z3 : ByteArray) (z4 : ByteArray) (z5 : List AV) (z6 : List AV) (z7 : List AV) (z8 : List AV) (z9 : Bool) (z10 : List AV) : Option R :=
  (dds_basesErr.F n z3 z4 z5 z6 z7 z8 z9 z10).bind fun p12 =>
  c7 p12.1 p12.2 z1 z2 z3 z4 z5 z6 z7 z8 z9 z10
noncomputable def dds_CheckLogical.r7 {R : Type} (n : Nat) (c4 : Int → Int → ByteArray → ByteArray → List AV → List AV → List AV → List AV → Bool → List AV → Option R) (c6 : Int → Int → ByteArray → ByteArray → List AV → List AV → List AV → List AV → Bool → List AV → Option R) (c6x1 : Int → Int → ByteArray → ByteArray → List AV → List AV → List AV → List AV → Bool → List AV → Option R) (c6x2 : Int → Int → ByteArray → ByteArray → List AV → List AV → List AV → List AV → Bool → List AV → Option R) (c6x3 : Int → Int → ByteArray → ByteArray → List AV → List AV → List AV → List AV → Bool → List AV → Option R) (c6x4 : Int → Int → ByteArray → ByteArray → List AV → List AV → List AV → List AV → Bool → List AV → Option R) (c7 : Int → Int → Int → Int → ByteArray → ByteArray → List AV → List AV → List AV → List AV → Bool → List AV → Option R) (k : Int × Int → Option R) (z1 : Int) (z2 : Int) (z3 : Int) (z4 : Int) (z5 : ByteArray) (z6 : ByteArray) (z7 : List AV) (z8 : List AV) (z9 : List AV) (z10 : List AV) (z11 : Bool) (z12 : List AV) : Option R :=
  bif z2 != 0 then (k (z1, z2)) else (c4 z3 (IntKind.i64.wrap (z4 + 1)) z5 z6 z7 z8 z9 z10 z11 z12)
noncomputable def dds_CheckLogical.e {R : Type} (n : Nat) (c4 : Int → Int → ByteArray → ByteArray → List AV → List AV → List AV → List AV → Bool → List AV → Option R) (c6 : Int → Int → ByteArray → ByteArray → List AV → List AV → List AV → List AV → Bool → List AV → Option R) (c6x1 : Int → Int → ByteArray → ByteArray → List AV → List AV → List AV → List AV → Bool → List AV → Option R) (c6x2 : Int → Int → ByteArray → ByteArray → List AV → List AV → List AV → List AV → Bool → List AV → Option R) (c6x3 : Int → Int → ByteArray → ByteArray → List AV → List AV → List AV → List AV → Bool → List AV → Option R) (c6x4 : Int → Int → ByteArray → ByteArray → List AV → List AV → List AV → List AV → Bool → List AV → Option R) (c7 : Int → Int → Int → Int → ByteArray → ByteArray → List AV → List AV → List AV → List AV → Bool → List AV → Option R) (k : Int × Int → Option R) (a0 : ByteArray) (a1 : ByteArray) (a2 : List AV) (a3 : List AV) (a4 : List AV) (a5 : List AV) (a6 : Bool) (a7 : List AV) : Option R :=
  (dds_isName.F n a0).bind fun p1 =>
  bif !p1 then (k (0, 7)) else ((dds_isName.F n a1).bind fun p2 =>
  bif !p2 then (k (0, 7)) else (c4 5 0 a0 a1 a2 a3 a4 a5 a6 a7))
noncomputable def dds_CheckLogical.C {R : Type} (n : Nat) (f : FuncId) (xs : List AV) : (AV → Option R) → Option R :=
  bif Nat.beq f 45 then dds_cond.via n xs else bif Nat.beq f 51 then dds_isName.via n xs else bif Nat.beq f 52 then dds_basesErr.via n xs else bif Nat.beq f 53 then dds_fieldsErr.via n xs else bif Nat.beq f 54 then dds_joinsErr.via n xs else bif Nat.beq f 55 then dds_CheckLogical_1.via n xs else bif Nat.beq f 58 then dds_rulesErr.via n xs else fun _ => none
theorem dds_CheckLogical.tells {R : Type} (n : Nat) : Tells (R := R) Tryz.prog (dds_CheckLogical.C n) := fun _ xs => tells_at (dds_cond.tells1 n xs) (tells_at (dds_isName.tells1 n xs) (tells_at (dds_basesErr.tells1 n xs) (tells_at (dds_fieldsErr.tells1 n xs) (tells_at (dds_joinsErr.tells1 n xs) (tells_at (dds_CheckLogical_1.tells1 n xs) (tells_at (dds_rulesErr.tells1 n xs) (Tells1.none)))))))
noncomputable def dds_CheckLogical.cut (r : Nat) : Option Keep := match r with | 4 => Option.some ⟨[1, 18, 19, 20], []⟩ | 6 => Option.some ⟨[1, 5, 18, 19, 20], []⟩ | 7 => Option.some ⟨[1, 6, 7, 18, 19, 20], []⟩ | _ => none
noncomputable def dds_CheckLogical.t4 : List Item := (todoOf 4 1000 [.code (Tryz.f17.body.getD .skip)]).getD []
noncomputable def dds_CheckLogical.s4 (z1 : Int) (z2 : Int) (z3 : ByteArray) (z4 : ByteArray) (z5 : List AV) (z6 : List AV) (z7 : List AV) (z8 : List AV) (z9 : Bool) (z10 : List AV) : St := ⟨[.undef, .ptr 0 0, .undef, .undef, .undef, .undef, .undef, .undef, .undef, .undef, .undef, .undef, .undef, .undef, .undef, .undef, .undef, .undef, .bs 1, vi z1, vi z2, .undef, .undef, .undef, .undef, .undef, .undef, .undef, .undef, .undef, .undef, .undef, .undef, .undef, .undef, .undef, .undef, .undef, .undef, .undef, .undef, .undef, .undef, .undef, .undef, .undef, .undef, .undef, .undef, .undef], Mem.ofList [.box 36 [vs z3, vs z4, .sl ⟨true, 9⟩ 1 z5, .sl ⟨true, 95⟩ 3 z6, .sl ⟨true, 97⟩ 4 z7, .sl ⟨true, 111⟩ 2 z8, vb z9, .sl ⟨false, 100⟩ 2 z10], .box 39 [.fn 52 [], .fn 53 [], .fn 54 [], .fn 55 [], .fn 58 []]], 2⟩
noncomputable def dds_CheckLogical.t6 : List Item := (todoOf 6 1000 [.code (Tryz.f17.body.getD .skip)]).getD []
noncomputable def dds_CheckLogical.s6 (z1 : Int) (z2 : Int) (z3 : ByteArray) (z4 : ByteArray) (z5 : List AV) (z6 : List AV) (z7 : List AV) (z8 : List AV) (z9 : Bool) (z10 : List AV) : St := ⟨[.undef, .ptr 0 0, .undef, .undef, .undef, .fn 58 [], .undef, .undef, .undef, .undef, .undef, .undef, .undef, .undef, .undef, .undef, .undef, .undef, .bs 1, vi z1, vi z2, .undef, .undef, .undef, .undef, .undef, .undef, .undef, .undef, .undef, .undef, .undef, .undef, .undef, .undef, .undef, .undef, .undef, .undef, .undef, .undef, .undef, .undef, .undef, .undef, .undef, .undef, .undef, .undef, .undef], Mem.ofList [.box 36 [vs z3, vs z4, .sl ⟨true, 9⟩ 1 z5, .sl ⟨true, 95⟩ 3 z6, .sl ⟨true, 97⟩ 4 z7, .sl ⟨true, 111⟩ 2 z8, vb z9, .sl ⟨false, 100⟩ 2 z10], .box 39 [.fn 52 [], .fn 53 [], .fn 54 [], .fn 55 [], .fn 58 []]], 2⟩
noncomputable def dds_CheckLogical.t6x1 : List Item := (todoOf 6 1000 [.code (Tryz.f17.body.getD .skip)]).getD []
noncomputable def dds_CheckLogical.s6x1 (z1 : Int) (z2 : Int) (z3 : ByteArray) (z4 : ByteArray) (z5 : List AV) (z6 : List AV) (z7 : List AV) (z8 : List AV) (z9 : Bool) (z10 : List AV) : St := ⟨[.undef, .ptr 0 0, .undef, .undef, .undef, .fn 55 [], .undef, .undef, .undef, .undef, .undef, .undef, .undef, .undef, .undef, .undef, .undef, .undef, .bs 1, vi z1, vi z2, .undef, .undef, .undef, .undef, .undef, .undef, .undef, .undef, .undef, .undef, .undef, .undef, .undef, .undef, .undef, .undef, .undef, .undef, .undef, .undef, .undef, .undef, .undef, .undef, .undef, .undef, .undef, .undef, .undef], Mem.ofList [.box 36 [vs z3, vs z4, .sl ⟨true, 9⟩ 1 z5, .sl ⟨true, 95⟩ 3 z6, .sl ⟨true, 97⟩ 4 z7, .sl ⟨true, 111⟩ 2 z8, vb z9, .sl ⟨false, 100⟩ 2 z10], .box 39 [.fn 52 [], .fn 53 [], .fn 54 [], .fn 55 [], .fn 58 []]], 2⟩
noncomputable def dds_CheckLogical.t6x2 : List Item := (todoOf 6 1000 [.code (Tryz.f17.body.getD .skip)]).getD []
noncomputable def dds_CheckLogical.s6x2 (z1 : Int) (z2 : Int) (z3 : ByteArray) (z4 : ByteArray) (z5 : List AV) (z6 : List AV) (z7 : List AV) (z8 : List AV) (z9 : Bool) (z10 : List AV) : St := ⟨[.undef, .ptr 0 0, .undef, .undef, .undef, .fn 54 [], .undef, .undef, .undef, .undef, .undef, .undef, .undef, .undef, .undef, .undef, .undef, .undef, .bs 1, vi z1, vi z2, .undef, .undef, .undef, .undef, .undef, .undef, .undef, .undef, .undef, .undef, .undef, .undef, .undef, .undef, .undef, .undef, .undef, .undef, .undef, .undef, .undef, .undef, .undef, .undef, .undef, .undef, .undef, .undef, .undef], Mem.ofList [.box 36 [vs z3, vs z4, .sl ⟨true, 9⟩ 1 z5, .sl ⟨true, 95⟩ 3 z6, .sl ⟨true, 97⟩ 4 z7, .sl ⟨true, 111⟩ 2 z8, vb z9, .sl ⟨false, 100⟩ 2 z10], .box 39 [.fn 52 [], .fn 53 [], .fn 54 [], .fn 55 [], .fn 58 []]], 2⟩
noncomputable def dds_CheckLogical.t6x3 : List Item := (todoOf 6 1000 [.code (Tryz.f17.body.getD .skip)]).getD []
noncomputable def dds_CheckLogical.s6x3 (z1 : Int) (z2 : Int) (z3 : ByteArray) (z4 : ByteArray) (z5 : List AV) (z6 : List AV) (z7 : List AV) (z8 : List AV) (z9 : Bool) (z10 : List AV) : St := ⟨[.undef, .ptr 0 0, .undef, .undef, .undef, .fn 53 [], .undef, .undef, .undef, .undef, .undef, .undef, .undef, .undef, .undef, .undef, .undef, .undef, .bs 1, vi z1, vi z2, .undef, .undef, .undef, .undef, .undef, .undef, .undef, .undef, .undef, .undef, .undef, .undef, .undef, .undef, .undef, .undef, .undef, .undef, .undef, .undef, .undef, .undef, .undef, .undef, .undef, .undef, .undef, .undef, .undef], Mem.ofList [.box 36 [vs z3, vs z4, .sl ⟨true, 9⟩ 1 z5, .sl ⟨true, 95⟩ 3 z6, .sl ⟨true, 97⟩ 4 z7, .sl ⟨true, 111⟩ 2 z8, vb z9, .sl ⟨false, 100⟩ 2 z10], .box 39 [.fn 52 [], .fn 53 [], .fn 54 [], .fn 55 [], .fn 58 []]], 2⟩
noncomputable def dds_CheckLogical.t6x4 : List Item := (todoOf 6 1000 [.code (Tryz.f17.body.getD .skip)]).getD []
noncomputable def dds_CheckLogical.s6x4 (z1 : Int) (z2 : Int) (z3 : ByteArray) (z4 : ByteArray) (z5 : List AV) (z6 : List AV) (z7 : List AV) (z8 : List AV) (z9 : Bool) (z10 : List AV) : St := ⟨[.undef, .ptr 0 0, .undef, .undef, .undef, .fn 52 [], .undef, .undef, .undef, .undef, .undef, .undef, .undef, .undef, .undef, .undef, .undef, .undef, .bs 1, vi z1, vi z2, .undef, .undef, .undef, .undef, .undef, .undef, .undef, .undef, .undef, .undef, .undef, .undef, .undef, .undef, .undef, .undef, .undef, .undef, .undef, .undef, .undef, .undef, .undef, .undef, .undef, .undef, .undef, .undef, .undef], Mem.ofList [.box 36 [vs z3, vs z4, .sl ⟨true, 9⟩ 1 z5, .sl ⟨true, 95⟩ 3 z6, .sl ⟨true, 97⟩ 4 z7, .sl ⟨true, 111⟩ 2 z8, vb z9, .sl ⟨false, 100⟩ 2 z10], .box 39 [.fn 52 [], .fn 53 [], .fn 54 [], .fn 55 [], .fn 58 []]], 2⟩
noncomputable def dds_CheckLogical.t7 : List Item := (todoOf 7 1000 [.code (Tryz.f17.body.getD .skip)]).getD []
noncomputable def dds_CheckLogical.s7 (z1 : Int) (z2 : Int) (z3 : Int) (z4 : Int) (z5 : ByteArray) (z6 : ByteArray) (z7 : List AV) (z8 : List AV) (z9 : List AV) (z10 : List AV) (z11 : Bool) (z12 : List AV) : St := ⟨[.undef, .ptr 0 0, .undef, .undef, .undef, .undef, vi z1, vi z2, .undef, .undef, .undef, .undef, .undef, .undef, .undef, .undef, .undef, .undef, .bs 1, vi z3, vi z4, .undef, .undef, .undef, .undef, .undef, .undef, .undef, .undef, .undef, .undef, .undef, .undef, .undef, .undef, .undef, .undef, .undef, .undef, .undef, .undef, .undef, .undef, .undef, .undef, .undef, .undef, .undef, .undef, .undef], Mem.ofList [.box 36 [vs z5, vs z6, .sl ⟨true, 9⟩ 1 z7, .sl ⟨true, 95⟩ 3 z8, .sl ⟨true, 97⟩ 4 z9, .sl ⟨true, 111⟩ 2 z10, vb z11, .sl ⟨false, 100⟩ 2 z12], .box 39 [.fn 52 [], .fn 53 [], .fn 54 [], .fn 55 [], .fn 58 []]], 2⟩
theorem dds_CheckLogical.e_eq {R : Type} (n : Nat) (rec : List Item → St → Option R) (K : AV → Option R) (a0 : ByteArray) (a1 : ByteArray) (a2 : List AV) (a3 : List AV) (a4 : List AV) (a5 : List AV) (a6 : Bool) (a7 : List AV) :
    goK G (dds_CheckLogical.C n) dds_CheckLogical.cut (fun S => finK G Tryz.f17.resultTypes.toList Tryz.f17.results.toList S K) rec 1000 [.code (Tryz.f17.body.getD .skip)] (Ev.start Tryz.f17 [AV.agg [vs a0, vs a1, .sl ⟨true, 9⟩ 1 a2, .sl ⟨true, 95⟩ 3 a3, .sl ⟨true, 97⟩ 4 a4, .sl ⟨true, 111⟩ 2 a5, vb a6, .sl ⟨false, 100⟩ 2 a7]]) = dds_CheckLogical.e n (fun z1 z2 z3 z4 z5 z6 z7 z8 z9 z10 => rec dds_CheckLogical.t4 (dds_CheckLogical.s4 z1 z2 z3 z4 z5 z6 z7 z8 z9 z10)) (fun z1 z2 z3 z4 z5 z6 z7 z8 z9 z10 => rec dds_CheckLogical.t6 (dds_CheckLogical.s6 z1 z2 z3 z4 z5 z6 z7 z8 z9 z10)) (fun z1 z2 z3 z4 z5 z6 z7 z8 z9 z10 => rec dds_CheckLogical.t6x1 (dds_CheckLogical.s6x1 z1 z2 z3 z4 z5 z6 z7 z8 z9 z10)) (fun z1 z2 z3 z4 z5 z6 z7 z8 z9 z10 => rec dds_CheckLogical.t6x2 (dds_CheckLogical.s6x2 z1 z2 z3 z4 z5 z6 z7 z8 z9 z10)) (fun z1 z2 z3 z4 z5 z6 z7 z8 z9 z10 => rec dds_CheckLogical.t6x3 (dds_CheckLogical.s6x3 z1 z2 z3 z4 z5 z6 z7 z8 z9 z10)) (fun z1 z2 z3 z4 z5 z6 z7 z8 z9 z10 => rec dds_CheckLogical.t6x4 (dds_CheckLogical.s6x4 z1 z2 z3 z4 z5 z6 z7 z8 z9 z10)) (fun z1 z2 z3 z4 z5 z6 z7 z8 z9 z10 z11 z12 => rec dds_CheckLogical.t7 (dds_CheckLogical.s7 z1 z2 z3 z4 z5 z6 z7 z8 z9 z10 z11 z12)) (fun p => K (.tup [vi p.1, vi p.2])) a0 a1 a2 a3 a4 a5 a6 a7 := by kernel_rfl
theorem dds_CheckLogical.r4_eq {R : Type} (n : Nat) (rec : List Item → St → Option R) (K : AV → Option R) (z1 : Int) (z2 : Int) (z3 : ByteArray) (z4 : ByteArray) (z5 : List AV) (z6 : List AV) (z7 : List AV) (z8 : List AV) (z9 : Bool) (z10 : List AV) :
    atK G (dds_CheckLogical.C n) dds_CheckLogical.cut (fun S => finK G Tryz.f17.resultTypes.toList Tryz.f17.results.toList S K) rec dds_CheckLogical.t4 (dds_CheckLogical.s4 z1 z2 z3 z4 z5 z6 z7 z8 z9 z10) = dds_CheckLogical.r4 n (fun z1 z2 z3 z4 z5 z6 z7 z8 z9 z10 => rec dds_CheckLogical.t4 (dds_CheckLogical.s4 z1 z2 z3 z4 z5 z6 z7 z8 z9 z10)) (fun z1 z2 z3 z4 z5 z6 z7 z8 z9 z10 => rec dds_CheckLogical.t6 (dds_CheckLogical.s6 z1 z2 z3 z4 z5 z6 z7 z8 z9 z10)) (fun z1 z2 z3 z4 z5 z6 z7 z8 z9 z10 => rec dds_CheckLogical.t6x1 (dds_CheckLogical.s6x1 z1 z2 z3 z4 z5 z6 z7 z8 z9 z10)) (fun z1 z2 z3 z4 z5 z6 z7 z8 z9 z10 => rec dds_CheckLogical.t6x2 (dds_CheckLogical.s6x2 z1 z2 z3 z4 z5 z6 z7 z8 z9 z10)) (fun z1 z2 z3 z4 z5 z6 z7 z8 z9 z10 => rec dds_CheckLogical.t6x3 (dds_CheckLogical.s6x3 z1 z2 z3 z4 z5 z6 z7 z8 z9 z10)) (fun z1 z2 z3 z4 z5 z6 z7 z8 z9 z10 => rec dds_CheckLogical.t6x4 (dds_CheckLogical.s6x4 z1 z2 z3 z4 z5 z6 z7 z8 z9 z10)) (fun z1 z2 z3 z4 z5 z6 z7 z8 z9 z10 z11 z12 => rec dds_CheckLogical.t7 (dds_CheckLogical.s7 z1 z2 z3 z4 z5 z6 z7 z8 z9 z10 z11 z12)) (fun p => K (.tup [vi p.1, vi p.2])) z1 z2 z3 z4 z5 z6 z7 z8 z9 z10 := by kernel_rfl
theorem dds_CheckLogical.r6_eq {R : Type} (n : Nat) (rec : List Item → St → Option R) (K : AV → Option R) (z1 : Int) (z2 : Int) (z3 : ByteArray) (z4 : ByteArray) (z5 : List AV) (z6 : List AV) (z7 : List AV) (z8 : List AV) (z9 : Bool) (z10 : List AV) :
    atK G (dds_CheckLogical.C n) dds_CheckLogical.cut (fun S => finK G Tryz.f17.resultTypes.toList Tryz.f17.results.toList S K) rec dds_CheckLogical.t6 (dds_CheckLogical.s6 z1 z2 z3 z4 z5 z6 z7 z8 z9 z10) = dds_CheckLogical.r6 n (fun z1 z2 z3 z4 z5 z6 z7 z8 z9 z10 => rec dds_CheckLogical.t4 (dds_CheckLogical.s4 z1 z2 z3 z4 z5 z6 z7 z8 z9 z10)) (fun z1 z2 z3 z4 z5 z6 z7 z8 z9 z10 => rec dds_CheckLogical.t6 (dds_CheckLogical.s6 z1 z2 z3 z4 z5 z6 z7 z8 z9 z10)) (fun z1 z2 z3 z4 z5 z6 z7 z8 z9 z10 => rec dds_CheckLogical.t6x1 (dds_CheckLogical.s6x1 z1 z2 z3 z4 z5 z6 z7 z8 z9 z10)) (fun z1 z2 z3 z4 z5 z6 z7 z8 z9 z10 => rec dds_CheckLogical.t6x2 (dds_CheckLogical.s6x2 z1 z2 z3 z4 z5 z6 z7 z8 z9 z10)) (fun z1 z2 z3 z4 z5 z6 z7 z8 z9 z10 => rec dds_CheckLogical.t6x3 (dds_CheckLogical.s6x3 z1 z2 z3 z4 z5 z6 z7 z8 z9 z10)) (fun z1 z2 z3 z4 z5 z6 z7 z8 z9 z10 => rec dds_CheckLogical.t6x4 (dds_CheckLogical.s6x4 z1 z2 z3 z4 z5 z6 z7 z8 z9 z10)) (fun z1 z2 z3 z4 z5 z6 z7 z8 z9 z10 z11 z12 => rec dds_CheckLogical.t7 (dds_CheckLogical.s7 z1 z2 z3 z4 z5 z6 z7 z8 z9 z10 z11 z12)) (fun p => K (.tup [vi p.1, vi p.2])) z1 z2 z3 z4 z5 z6 z7 z8 z9 z10 := by kernel_rfl
theorem dds_CheckLogical.r6x1_eq {R : Type} (n : Nat) (rec : List Item → St → Option R) (K : AV → Option R) (z1 : Int) (z2 : Int) (z3 : ByteArray) (z4 : ByteArray) (z5 : List AV) (z6 : List AV) (z7 : List AV) (z8 : List AV) (z9 : Bool) (z10 : List AV) :
    atK G (dds_CheckLogical.C n) dds_CheckLogical.cut (fun S => finK G Tryz.f17.resultTypes.toList Tryz.f17.results.toList S K) rec dds_CheckLogical.t6x1 (dds_CheckLogical.s6x1 z1 z2 z3 z4 z5 z6 z7 z8 z9 z10) = dds_CheckLogical.r6x1 n (fun z1 z2 z3 z4 z5 z6 z7 z8 z9 z10 => rec dds_CheckLogical.t4 (dds_CheckLogical.s4 z1 z2 z3 z4 z5 z6 z7 z8 z9 z10)) (fun z1 z2 z3 z4 z5 z6 z7 z8 z9 z10 => rec dds_CheckLogical.t6 (dds_CheckLogical.s6 z1 z2 z3 z4 z5 z6 z7 z8 z9 z10)) (fun z1 z2 z3 z4 z5 z6 z7 z8 z9 z10 => rec dds_CheckLogical.t6x1 (dds_CheckLogical.s6x1 z1 z2 z3 z4 z5 z6 z7 z8 z9 z10)) (fun z1 z2 z3 z4 z5 z6 z7 z8 z9 z10 => rec dds_CheckLogical.t6x2 (dds_CheckLogical.s6x2 z1 z2 z3 z4 z5 z6 z7 z8 z9 z10)) (fun z1 z2 z3 z4 z5 z6 z7 z8 z9 z10 => rec dds_CheckLogical.t6x3 (dds_CheckLogical.s6x3 z1 z2 z3 z4 z5 z6 z7 z8 z9 z10)) (fun z1 z2 z3 z4 z5 z6 z7 z8 z9 z10 => rec dds_CheckLogical.t6x4 (dds_CheckLogical.s6x4 z1 z2 z3 z4 z5 z6 z7 z8 z9 z10)) (fun z1 z2 z3 z4 z5 z6 z7 z8 z9 z10 z11 z12 => rec dds_CheckLogical.t7 (dds_CheckLogical.s7 z1 z2 z3 z4 z5 z6 z7 z8 z9 z10 z11 z12)) (fun p => K (.tup [vi p.1, vi p.2])) z1 z2 z3 z4 z5 z6 z7 z8 z9 z10 := by kernel_rfl
theorem dds_CheckLogical.r6x2_eq {R : Type} (n : Nat) (rec : List Item → St → Option R) (K : AV → Option R) (z1 : Int) (z2 : Int) (z3 : ByteArray) (z4 : ByteArray) (z5 : List AV) (z6 : List AV) (z7 : List AV) (z8 : List AV) (z9 : Bool) (z10 : List AV) :
    atK G (dds_CheckLogical.C n) dds_CheckLogical.cut (fun S => finK G Tryz.f17.resultTypes.toList Tryz.f17.results.toList S K) rec dds_CheckLogical.t6x2 (dds_CheckLogical.s6x2 z1 z2 z3 z4 z5 z6 z7 z8 z9 z10) = dds_CheckLogical.r6x2 n (fun z1 z2 z3 z4 z5 z6 z7 z8 z9 z10 => rec dds_CheckLogical.t4 (dds_CheckLogical.s4 z1 z2 z3 z4 z5 z6 z7 z8 z9 z10)) (fun z1 z2 z3 z4 z5 z6 z7 z8 z9 z10 => rec dds_CheckLogical.t6 (dds_CheckLogical.s6 z1 z2 z3 z4 z5 z6 z7 z8 z9 z10)) (fun z1 z2 z3 z4 z5 z6 z7 z8 z9 z10 => rec dds_CheckLogical.t6x1 (dds_CheckLogical.s6x1 z1 z2 z3 z4 z5 z6 z7 z8 z9 z10)) (fun z1 z2 z3 z4 z5 z6 z7 z8 z9 z10 => rec dds_CheckLogical.t6x2 (dds_CheckLogical.s6x2 z1 z2 z3 z4 z5 z6 z7 z8 z9 z10)) (fun z1 z2 z3 z4 z5 z6 z7 z8 z9 z10 => rec dds_CheckLogical.t6x3 (dds_CheckLogical.s6x3 z1 z2 z3 z4 z5 z6 z7 z8 z9 z10)) (fun z1 z2 z3 z4 z5 z6 z7 z8 z9 z10 => rec dds_CheckLogical.t6x4 (dds_CheckLogical.s6x4 z1 z2 z3 z4 z5 z6 z7 z8 z9 z10)) (fun z1 z2 z3 z4 z5 z6 z7 z8 z9 z10 z11 z12 => rec dds_CheckLogical.t7 (dds_CheckLogical.s7 z1 z2 z3 z4 z5 z6 z7 z8 z9 z10 z11 z12)) (fun p => K (.tup [vi p.1, vi p.2])) z1 z2 z3 z4 z5 z6 z7 z8 z9 z10 := by kernel_rfl
theorem dds_CheckLogical.r6x3_eq {R : Type} (n : Nat) (rec : List Item → St → Option R) (K : AV → Option R) (z1 : Int) (z2 : Int) (z3 : ByteArray) (z4 : ByteArray) (z5 : List AV) (z6 : List AV) (z7 : List AV) (z8 : List AV) (z9 : Bool) (z10 : List AV) :
    atK G (dds_CheckLogical.C n) dds_CheckLogical.cut (fun S => finK G Tryz.f17.resultTypes.toList Tryz.f17.results.toList S K) rec dds_CheckLogical.t6x3 (dds_CheckLogical.s6x3 z1 z2 z3 z4 z5 z6 z7 z8 z9 z10) = dds_CheckLogical.r6x3 n (fun z1 z2 z3 z4 z5 z6 z7 z8 z9 z10 => rec dds_CheckLogical.t4 (dds_CheckLogical.s4 z1 z2 z3 z4 z5 z6 z7 z8 z9 z10)) (fun z1 z2 z3 z4 z5 z6 z7 z8 z9 z10 => rec dds_CheckLogical.t6 (dds_CheckLogical.s6 z1 z2 z3 z4 z5 z6 z7 z8 z9 z10)) (fun z1 z2 z3 z4 z5 z6 z7 z8 z9 z10 => rec dds_CheckLogical.t6x1 (dds_CheckLogical.s6x1 z1 z2 z3 z4 z5 z6 z7 z8 z9 z10)) (fun z1 z2 z3 z4 z5 z6 z7 z8 z9 z10 => rec dds_CheckLogical.t6x2 (dds_CheckLogical.s6x2 z1 z2 z3 z4 z5 z6 z7 z8 z9 z10)) (fun z1 z2 z3 z4 z5 z6 z7 z8 z9 z10 => rec dds_CheckLogical.t6x3 (dds_CheckLogical.s6x3 z1 z2 z3 z4 z5 z6 z7 z8 z9 z10)) (fun z1 z2 z3 z4 z5 z6 z7 z8 z9 z10 => rec dds_CheckLogical.t6x4 (dds_CheckLogical.s6x4 z1 z2 z3 z4 z5 z6 z7 z8 z9 z10)) (fun z1 z2 z3 z4 z5 z6 z7 z8 z9 z10 z11 z12 => rec dds_CheckLogical.t7 (dds_CheckLogical.s7 z1 z2 z3 z4 z5 z6 z7 z8 z9 z10 z11 z12)) (fun p => K (.tup [vi p.1, vi p.2])) z1 z2 z3 z4 z5 z6 z7 z8 z9 z10 := by kernel_rfl
theorem dds_CheckLogical.r6x4_eq {R : Type} (n : Nat) (rec : List Item → St → Option R) (K : AV → Option R) (z1 : Int) (z2 : Int) (z3 : ByteArray) (z4 : ByteArray) (z5 : List AV) (z6 : List AV) (z7 : List AV) (z8 : List AV) (z9 : Bool) (z10 : List AV) :
    atK G (dds_CheckLogical.C n) dds_CheckLogical.cut (fun S => finK G Tryz.f17.resultTypes.toList Tryz.f17.results.toList S K) rec dds_CheckLogical.t6x4 (dds_CheckLogical.s6x4 z1 z2 z3 z4 z5 z6 z7 z8 z9 z10) = dds_CheckLogical.r6x4 n (fun z1 z2 z3 z4 z5 z6 z7 z8 z9 z10 => rec dds_CheckLogical.t4 (dds_CheckLogical.s4 z1 z2 z3 z4 z5 z6 z7 z8 z9 z10)) (fun z1 z2 z3 z4 z5 z6 z7 z8 z9 z10 => rec dds_CheckLogical.t6 (dds_CheckLogical.s6 z1 z2 z3 z4 z5 z6 z7 z8 z9 z10)) (fun z1 z2 z3 z4 z5 z6 z7 z8 z9 z10 => rec dds_CheckLogical.t6x1 (dds_CheckLogical.s6x1 z1 z2 z3 z4 z5 z6 z7 z8 z9 z10)) (fun z1 z2 z3 z4 z5 z6 z7 z8 z9 z10 => rec dds_CheckLogical.t6x2 (dds_CheckLogical.s6x2 z1 z2 z3 z4 z5 z6 z7 z8 z9 z10)) (fun z1 z2 z3 z4 z5 z6 z7 z8 z9 z10 => rec dds_CheckLogical.t6x3 (dds_CheckLogical.s6x3 z1 z2 z3 z4 z5 z6 z7 z8 z9 z10)) (fun z1 z2 z3 z4 z5 z6 z7 z8 z9 z10 => rec dds_CheckLogical.t6x4 (dds_CheckLogical.s6x4 z1 z2 z3 z4 z5 z6 z7 z8 z9 z10)) (fun z1 z2 z3 z4 z5 z6 z7 z8 z9 z10 z11 z12 => rec dds_CheckLogical.t7 (dds_CheckLogical.s7 z1 z2 z3 z4 z5 z6 z7 z8 z9 z10 z11 z12)) (fun p => K (.tup [vi p.1, vi p.2])) z1 z2 z3 z4 z5 z6 z7 z8 z9 z10 := by kernel_rfl
theorem dds_CheckLogical.r7_eq {R : Type} (n : Nat) (rec : List Item → St → Option R) (K : AV → Option R) (z1 : Int) (z2 : Int) (z3 : Int) (z4 : Int) (z5 : ByteArray) (z6 : ByteArray) (z7 : List AV) (z8 : List AV) (z9 : List AV) (z10 : List AV) (z11 : Bool) (z12 : List AV) :
    atK G (dds_CheckLogical.C n) dds_CheckLogical.cut (fun S => finK G Tryz.f17.resultTypes.toList Tryz.f17.results.toList S K) rec dds_CheckLogical.t7 (dds_CheckLogical.s7 z1 z2 z3 z4 z5 z6 z7 z8 z9 z10 z11 z12) = dds_CheckLogical.r7 n (fun z1 z2 z3 z4 z5 z6 z7 z8 z9 z10 => rec dds_CheckLogical.t4 (dds_CheckLogical.s4 z1 z2 z3 z4 z5 z6 z7 z8 z9 z10)) (fun z1 z2 z3 z4 z5 z6 z7 z8 z9 z10 => rec dds_CheckLogical.t6 (dds_CheckLogical.s6 z1 z2 z3 z4 z5 z6 z7 z8 z9 z10)) (fun z1 z2 z3 z4 z5 z6 z7 z8 z9 z10 => rec dds_CheckLogical.t6x1 (dds_CheckLogical.s6x1 z1 z2 z3 z4 z5 z6 z7 z8 z9 z10)) (fun z1 z2 z3 z4 z5 z6 z7 z8 z9 z10 => rec dds_CheckLogical.t6x2 (dds_CheckLogical.s6x2 z1 z2 z3 z4 z5 z6 z7 z8 z9 z10)) (fun z1 z2 z3 z4 z5 z6 z7 z8 z9 z10 => rec dds_CheckLogical.t6x3 (dds_CheckLogical.s6x3 z1 z2 z3 z4 z5 z6 z7 z8 z9 z10)) (fun z1 z2 z3 z4 z5 z6 z7 z8 z9 z10 => rec dds_CheckLogical.t6x4 (dds_CheckLogical.s6x4 z1 z2 z3 z4 z5 z6 z7 z8 z9 z10)) (fun z1 z2 z3 z4 z5 z6 z7 z8 z9 z10 z11 z12 => rec dds_CheckLogical.t7 (dds_CheckLogical.s7 z1 z2 z3 z4 z5 z6 z7 z8 z9 z10 z11 z12)) (fun p => K (.tup [vi p.1, vi p.2])) z1 z2 z3 z4 z5 z6 z7 z8 z9 z10 z11 z12 := by kernel_rfl
noncomputable def dds_CheckLogical.l (n : Nat) : Nat → (Int → Int → ByteArray → ByteArray → List AV → List AV → List AV → List AV → Bool → List AV → Option (Int × Int)) × (Int → Int → ByteArray → ByteArray → List AV → List AV → List AV → List AV → Bool → List AV → Option (Int × Int)) × (Int → Int → ByteArray → ByteArray → List AV → List AV → List AV → List AV → Bool → List AV → Option (Int × Int)) × (Int → Int → ByteArray → ByteArray → List AV → List AV → List AV → List AV → Bool → List AV → Option (Int × Int)) × (Int → Int → ByteArray → ByteArray → List AV → List AV → List AV → List AV → Bool → List AV → Option (Int × Int)) × (Int → Int → ByteArray → ByteArray → List AV → List AV → List AV → List AV → Bool → List AV → Option (Int × Int)) × (Int → Int → Int → Int → ByteArray → ByteArray → List AV → List AV → List AV → List AV → Bool → List AV → Option (Int × Int))
  | 0 => ((fun _ _ _ _ _ _ _ _ _ _ => none), (fun _ _ _ _ _ _ _ _ _ _ => none), (fun _ _ _ _ _ _ _ _ _ _ => none), (fun _ _ _ _ _ _ _ _ _ _ => none), (fun _ _ _ _ _ _ _ _ _ _ => none), (fun _ _ _ _ _ _ _ _ _ _ => none), (fun _ _ _ _ _ _ _ _ _ _ _ _ => none))
  | m + 1 => (dds_CheckLogical.r4 n ((dds_CheckLogical.l n m).1) ((dds_CheckLogical.l n m).2.1) ((dds_CheckLogical.l n m).2.2.1) ((dds_CheckLogical.l n m).2.2.2.1) ((dds_CheckLogical.l n m).2.2.2.2.1) ((dds_CheckLogical.l n m).2.2.2.2.2.1) ((dds_CheckLogical.l n m).2.2.2.2.2.2) Option.some, dds_CheckLogical.r6 n ((dds_CheckLogical.l n m).1) ((dds_CheckLogical.l n m).2.1) ((dds_CheckLogical.l n m).2.2.1) ((dds_CheckLogical.l n m).2.2.2.1) ((dds_CheckLogical.l n m).2.2.2.2.1) ((dds_CheckLogical.l n m).2.2.2.2.2.1) ((dds_CheckLogical.l n m).2.2.2.2.2.2) Option.some, dds_CheckLogical.r6x1 n ((dds_CheckLogical.l n m).1) ((dds_CheckLogical.l n m).2.1) ((dds_CheckLogical.l n m).2.2.1) ((dds_CheckLogical.l n m).2.2.2.1) ((dds_CheckLogical.l n m).2.2.2.2.1) ((dds_CheckLogical.l n m).2.2.2.2.2.1) ((dds_CheckLogical.l n m).2.2.2.2.2.2) Option.some, dds_CheckLogical.r6x2 n ((dds_CheckLogical.l n m).1) ((dds_CheckLogical.l n m).2.1) ((dds_CheckLogical.l n m).2.2.1) ((dds_CheckLogical.l n m).2.2.2.1) ((dds_CheckLogical.l n m).2.2.2.2.1) ((dds_CheckLogical.l n m).2.2.2.2.2.1) ((dds_CheckLogical.l n m).2.2.2.2.2.2) Option.some, dds_CheckLogical.r6x3 n ((dds_CheckLogical.l n m).1) ((dds_CheckLogical.l n m).2.1) ((dds_CheckLogical.l n m).2.2.1) ((dds_CheckLogical.l n m).2.2.2.1) ((dds_CheckLogical.l n m).2.2.2.2.1) ((dds_CheckLogical.l n m).2.2.2.2.2.1) ((dds_CheckLogical.l n m).2.2.2.2.2.2) Option.some, dds_CheckLogical.r6x4 n ((dds_CheckLogical.l n m).1) ((dds_CheckLogical.l n m).2.1) ((dds_CheckLogical.l n m).2.2.1) ((dds_CheckLogical.l n m).2.2.2.1) ((dds_CheckLogical.l n m).2.2.2.2.1) ((dds_CheckLogical.l n m).2.2.2.2.2.1) ((dds_CheckLogical.l n m).2.2.2.2.2.2) Option.some, dds_CheckLogical.r7 n ((dds_CheckLogical.l n m).1) ((dds_CheckLogical.l n m).2.1) ((dds_CheckLogical.l n m).2.2.1) ((dds_CheckLogical.l n m).2.2.2.1) ((dds_CheckLogical.l n m).2.2.2.2.1) ((dds_CheckLogical.l n m).2.2.2.2.2.1) ((dds_CheckLogical.l n m).2.2.2.2.2.2) Option.some)
noncomputable def dds_CheckLogical.F (n : Nat) (a0 : ByteArray) (a1 : ByteArray) (a2 : List AV) (a3 : List AV) (a4 : List AV) (a5 : List AV) (a6 : Bool) (a7 : List AV) : Option (Int × Int) := dds_CheckLogical.e n ((dds_CheckLogical.l n n).1) ((dds_CheckLogical.l n n).2.1) ((dds_CheckLogical.l n n).2.2.1) ((dds_CheckLogical.l n n).2.2.2.1) ((dds_CheckLogical.l n n).2.2.2.2.1) ((dds_CheckLogical.l n n).2.2.2.2.2.1) ((dds_CheckLogical.l n n).2.2.2.2.2.2) Option.some a0 a1 a2 a3 a4 a5 a6 a7
noncomputable def dds_CheckLogical.dec (x : AV) : Option (Int × Int) := match x with | .tup [.v (.int .i64 p0), .v (.int .i64 p1)] => Option.some (p0, p1) | _ => none
theorem dds_CheckLogical.dec_inv {p : Int × Int} (y : AV) (h : dds_CheckLogical.dec y = some p) : y = .tup [vi p.1, vi p.2] := by
  unfold dds_CheckLogical.dec at h
  split at h
  · cases h; rfl
  · cases h
theorem dds_CheckLogical.l_eq (n m : Nat) : (∀ (z1 : Int) (z2 : Int) (z3 : ByteArray) (z4 : ByteArray) (z5 : List AV) (z6 : List AV) (z7 : List AV) (z8 : List AV) (z9 : Bool) (z10 : List AV), runK G (dds_CheckLogical.C n) dds_CheckLogical.cut (fun S => finK G Tryz.f17.resultTypes.toList Tryz.f17.results.toList S dds_CheckLogical.dec) m dds_CheckLogical.t4 (dds_CheckLogical.s4 z1 z2 z3 z4 z5 z6 z7 z8 z9 z10) = ((dds_CheckLogical.l n m).1) z1 z2 z3 z4 z5 z6 z7 z8 z9 z10) ∧ (∀ (z1 : Int) (z2 : Int) (z3 : ByteArray) (z4 : ByteArray) (z5 : List AV) (z6 : List AV) (z7 : List AV) (z8 : List AV) (z9 : Bool) (z10 : List AV), runK G (dds_CheckLogical.C n) dds_CheckLogical.cut (fun S => finK G Tryz.f17.resultTypes.toList Tryz.f17.results.toList S dds_CheckLogical.dec) m dds_CheckLogical.t6 (dds_CheckLogical.s6 z1 z2 z3 z4 z5 z6 z7 z8 z9 z10) = ((dds_CheckLogical.l n m).2.1) z1 z2 z3 z4 z5 z6 z7 z8 z9 z10) ∧ (∀ (z1 : Int) (z2 : Int) (z3 : ByteArray) (z4 : ByteArray) (z5 : List AV) (z6 : List AV) (z7 : List AV) (z8 : List AV) (z9 : Bool) (z10 : List AV), runK G (dds_CheckLogical.C n) dds_CheckLogical.cut (fun S => finK G Tryz.f17.resultTypes.toList Tryz.f17.results.toList S dds_CheckLogical.dec) m dds_CheckLogical.t6x1 (dds_CheckLogical.s6x1 z1 z2 z3 z4 z5 z6 z7 z8 z9 z10) = ((dds_CheckLogical.l n m).2.2.1) z1 z2 z3 z4 z5 z6 z7 z8 z9 z10) ∧ (∀ (z1 : Int) (z2 : Int) (z3 : ByteArray) (z4 : ByteArray) (z5 : List AV) (z6 : List AV) (z7 : List AV) (z8 : List AV) (z9 : Bool) (z10 : List AV), runK G (dds_CheckLogical.C n) dds_CheckLogical.cut (fun S => finK G Tryz.f17.resultTypes.toList Tryz.f17.results.toList S dds_CheckLogical.dec) m dds_CheckLogical.t6x2 (dds_CheckLogical.s6x2 z1 z2 z3 z4 z5 z6 z7 z8 z9 z10) = ((dds_CheckLogical.l n m).2.2.2.1) z1 z2 z3 z4 z5 z6 z7 z8 z9 z10) ∧ (∀ (z1 : Int) (z2 : Int) (z3 : ByteArray) (z4 : ByteArray) (z5 : List AV) (z6 : List AV) (z7 : List AV) (z8 : List AV) (z9 : Bool) (z10 : List AV), runK G (dds_CheckLogical.C n) dds_CheckLogical.cut (fun S => finK G Tryz.f17.resultTypes.toList Tryz.f17.results.toList S dds_CheckLogical.dec) m dds_CheckLogical.t6x3 (dds_CheckLogical.s6x3 z1 z2 z3 z4 z5 z6 z7 z8 z9 z10) = ((dds_CheckLogical.l n m).2.2.2.2.1) z1 z2 z3 z4 z5 z6 z7 z8 z9 z10) ∧ (∀ (z1 : Int) (z2 : Int) (z3 : ByteArray) (z4 : ByteArray) (z5 : List AV) (z6 : List AV) (z7 : List AV) (z8 : List AV) (z9 : Bool) (z10 : List AV), runK G (dds_CheckLogical.C n) dds_CheckLogical.cut (fun S => finK G Tryz.f17.resultTypes.toList Tryz.f17.results.toList S dds_CheckLogical.dec) m dds_CheckLogical.t6x4 (dds_CheckLogical.s6x4 z1 z2 z3 z4 z5 z6 z7 z8 z9 z10) = ((dds_CheckLogical.l n m).2.2.2.2.2.1) z1 z2 z3 z4 z5 z6 z7 z8 z9 z10) ∧ (∀ (z1 : Int) (z2 : Int) (z3 : Int) (z4 : Int) (z5 : ByteArray) (z6 : ByteArray) (z7 : List AV) (z8 : List AV) (z9 : List AV) (z10 : List AV) (z11 : Bool) (z12 : List AV), runK G (dds_CheckLogical.C n) dds_CheckLogical.cut (fun S => finK G Tryz.f17.resultTypes.toList Tryz.f17.results.toList S dds_CheckLogical.dec) m dds_CheckLogical.t7 (dds_CheckLogical.s7 z1 z2 z3 z4 z5 z6 z7 z8 z9 z10 z11 z12) = ((dds_CheckLogical.l n m).2.2.2.2.2.2) z1 z2 z3 z4 z5 z6 z7 z8 z9 z10 z11 z12) := by
  induction m with
  | zero => exact ⟨fun z1 z2 z3 z4 z5 z6 z7 z8 z9 z10 => rfl, fun z1 z2 z3 z4 z5 z6 z7 z8 z9 z10 => rfl, fun z1 z2 z3 z4 z5 z6 z7 z8 z9 z10 => rfl, fun z1 z2 z3 z4 z5 z6 z7 z8 z9 z10 => rfl, fun z1 z2 z3 z4 z5 z6 z7 z8 z9 z10 => rfl, fun z1 z2 z3 z4 z5 z6 z7 z8 z9 z10 => rfl, fun z1 z2 z3 z4 z5 z6 z7 z8 z9 z10 z11 z12 => rfl⟩
  | succ m ih =>
    obtain ⟨h4, h6, h6x1, h6x2, h6x3, h6x4, h7⟩ := ih
    have e4 : (fun (z1 : Int) (z2 : Int) (z3 : ByteArray) (z4 : ByteArray) (z5 : List AV) (z6 : List AV) (z7 : List AV) (z8 : List AV) (z9 : Bool) (z10 : List AV) => runK G (dds_CheckLogical.C n) dds_CheckLogical.cut (fun S => finK G Tryz.f17.resultTypes.toList Tryz.f17.results.toList S dds_CheckLogical.dec) m dds_CheckLogical.t4 (dds_CheckLogical.s4 z1 z2 z3 z4 z5 z6 z7 z8 z9 z10)) = (dds_CheckLogical.l n m).1 := by funext z1 z2 z3 z4 z5 z6 z7 z8 z9 z10; exact h4 z1 z2 z3 z4 z5 z6 z7 z8 z9 z10
    have e6 : (fun (z1 : Int) (z2 : Int) (z3 : ByteArray) (z4 : ByteArray) (z5 : List AV) (z6 : List AV) (z7 : List AV) (z8 : List AV) (z9 : Bool) (z10 : List AV) => runK G (dds_CheckLogical.C n) dds_CheckLogical.cut (fun S => finK G Tryz.f17.resultTypes.toList Tryz.f17.results.toList S dds_CheckLogical.dec) m dds_CheckLogical.t6 (dds_CheckLogical.s6 z1 z2 z3 z4 z5 z6 z7 z8 z9 z10)) = (dds_CheckLogical.l n m).2.1 := by funext z1 z2 z3 z4 z5 z6 z7 z8 z9 z10; exact h6 z1 z2 z3 z4 z5 z6 z7 z8 z9 z10
    have e6x1 : (fun (z1 : Int) (z2 : Int) (z3 : ByteArray) (z4 : ByteArray) (z5 : List AV) (z6 : List AV) (z7 : List AV) (z8 : List AV) (z9 : Bool) (z10 : List AV) => runK G (dds_CheckLogical.C n) dds_CheckLogical.cut (fun S => finK G Tryz.f17.resultTypes.toList Tryz.f17.results.toList S dds_CheckLogical.dec) m dds_CheckLogical.t6x1 (dds_CheckLogical.s6x1 z1 z2 z3 z4 z5 z6 z7 z8 z9 z10)) = (dds_CheckLogical.l n m).2.2.1 := by funext z1 z2 z3 z4 z5 z6 z7 z8 z9 z10; exact h6x1 z1 z2 z3 z4 z5 z6 z7 z8 z9 z10
    have e6x2 : (fun (z1 : Int) (z2 : Int) (z3 : ByteArray) (z4 : ByteArray) (z5 : List AV) (z6 : List AV) (z7 : List AV) (z8 : List AV) (z9 : Bool) (z10 : List AV) => runK G (dds_CheckLogical.C n) dds_CheckLogical.cut (fun S => finK G Tryz.f17.resultTypes.toList Tryz.f17.results.toList S dds_CheckLogical.dec) m dds_CheckLogical.t6x2 (dds_CheckLogical.s6x2 z1 z2 z3 z4 z5 z6 z7 z8 z9 z10)) = (dds_CheckLogical.l n m).2.2.2.1 := by funext z1 z2 z3 z4 z5 z6 z7 z8 z9 z10; exact h6x2 z1 z2 z3 z4 z5 z6 z7 z8 z9 z10
    have e6x3 : (fun (z1 : Int) (z2 : Int) (z3 : ByteArray) (z4 : ByteArray) (z5 : List AV) (z6 : List AV) (z7 : List AV) (z8 : List AV) (z9 : Bool) (z10 : List AV) => runK G (dds_CheckLogical.C n) dds_CheckLogical.cut (fun S => finK G Tryz.f17.resultTypes.toList Tryz.f17.results.toList S dds_CheckLogical.dec) m dds_CheckLogical.t6x3 (dds_CheckLogical.s6x3 z1 z2 z3 z4 z5 z6 z7 z8 z9 z10)) = (dds_CheckLogical.l n m).2.2.2.2.1 := by funext z1 z2 z3 z4 z5 z6 z7 z8 z9 z10; exact h6x3 z1 z2 z3 z4 z5 z6 z7 z8 z9 z10
    have e6x4 : (fun (z1 : Int) (z2 : Int) (z3 : ByteArray) (z4 : ByteArray) (z5 : List AV) (z6 : List AV) (z7 : List AV) (z8 : List AV) (z9 : Bool) (z10 : List AV) => runK G (dds_CheckLogical.C n) dds_CheckLogical.cut (fun S => finK G Tryz.f17.resultTypes.toList Tryz.f17.results.toList S dds_CheckLogical.dec) m dds_CheckLogical.t6x4 (dds_CheckLogical.s6x4 z1 z2 z3 z4 z5 z6 z7 z8 z9 z10)) = (dds_CheckLogical.l n m).2.2.2.2.2.1 := by funext z1 z2 z3 z4 z5 z6 z7 z8 z9 z10; exact h6x4 z1 z2 z3 z4 z5 z6 z7 z8 z9 z10
    have e7 : (fun (z1 : Int) (z2 : Int) (z3 : Int) (z4 : Int) (z5 : ByteArray) (z6 : ByteArray) (z7 : List AV) (z8 : List AV) (z9 : List AV) (z10 : List AV) (z11 : Bool) (z12 : List AV) => runK G (dds_CheckLogical.C n) dds_CheckLogical.cut (fun S => finK G Tryz.f17.resultTypes.toList Tryz.f17.results.toList S dds_CheckLogical.dec) m dds_CheckLogical.t7 (dds_CheckLogical.s7 z1 z2 z3 z4 z5 z6 z7 z8 z9 z10 z11 z12)) = (dds_CheckLogical.l n m).2.2.2.2.2.2 := by funext z1 z2 z3 z4 z5 z6 z7 z8 z9 z10 z11 z12; exact h7 z1 z2 z3 z4 z5 z6 z7 z8 z9 z10 z11 z12
    have q4 : ∀ (z1 : Int) (z2 : Int) (z3 : ByteArray) (z4 : ByteArray) (z5 : List AV) (z6 : List AV) (z7 : List AV) (z8 : List AV) (z9 : Bool) (z10 : List AV), runK G (dds_CheckLogical.C n) dds_CheckLogical.cut (fun S => finK G Tryz.f17.resultTypes.toList Tryz.f17.results.toList S dds_CheckLogical.dec) (m + 1) dds_CheckLogical.t4 (dds_CheckLogical.s4 z1 z2 z3 z4 z5 z6 z7 z8 z9 z10) = ((dds_CheckLogical.l n (m + 1)).1) z1 z2 z3 z4 z5 z6 z7 z8 z9 z10 := by
      intro z1 z2 z3 z4 z5 z6 z7 z8 z9 z10
      rw [runK_succ]
      refine (dds_CheckLogical.r4_eq n _ dds_CheckLogical.dec z1 z2 z3 z4 z5 z6 z7 z8 z9 z10).trans ?_
      rw [e4, e6, e6x1, e6x2, e6x3, e6x4, e7]
      rfl
    have q6 : ∀ (z1 : Int) (z2 : Int) (z3 : ByteArray) (z4 : ByteArray) (z5 : List AV) (z6 : List AV) (z7 : List AV) (z8 : List AV) (z9 : Bool) (z10 : List AV), runK G (dds_CheckLogical.C n) dds_CheckLogical.cut (fun S => finK G Tryz.f17.resultTypes.toList Tryz.f17.results.toList S dds_CheckLogical.dec) (m + 1) dds_CheckLogical.t6 (dds_CheckLogical.s6 z1 z2 z3 z4 z5 z6 z7 z8 z9 z10) = ((dds_CheckLogical.l n (m + 1)).2.1) z1 z2 z3 z4 z5 z6 z7 z8 z9 z10 := by
      intro z1 z2 z3 z4 z5 z6 z7 z8 z9 z10
      rw [runK_succ]
      refine (dds_CheckLogical.r6_eq n _ dds_CheckLogical.dec z1 z2 z3 z4 z5 z6 z7 z8 z9 z10).trans ?_
      rw [e4, e6, e6x1, e6x2, e6x3, e6x4, e7]
      rfl
    have q6x1 : ∀ (z1 : Int) (z2 : Int) (z3 : ByteArray) (z4 : ByteArray) (z5 : List AV) (z6 : List AV) (z7 : List AV) (z8 : List AV) (z9 : Bool) (z10 : List AV), runK G (dds_CheckLogical.C n) dds_CheckLogical.cut (fun S => finK G Tryz.f17.resultTypes.toList Tryz.f17.results.toList S dds_CheckLogical.dec) (m + 1) dds_CheckLogical.t6x1 (dds_CheckLogical.s6x1 z1 z2 z3 z4 z5 z6 z7 z8 z9 z10) = ((dds_CheckLogical.l n (m + 1)).2.2.1) z1 z2 z3 z4 z5 z6 z7 z8 z9 z10 := by
      intro z1 z2 z3 z4 z5 z6 z7 z8 z9 z10
      rw [runK_succ]
      refine (dds_CheckLogical.r6x1_eq n _ dds_CheckLogical.dec z1 z2 z3 z4 z5 z6 z7 z8 z9 z10).trans ?_
      rw [e4, e6, e6x1, e6x2, e6x3, e6x4, e7]
      rfl
    have q6x2 : ∀ (z1 : Int) (z2 : Int) (z3 : ByteArray) (z4 : ByteArray) (z5 : List AV) (z6 : List AV) (z7 : List AV) (z8 : List AV) (z9 : Bool) (z10 : List AV), runK G (dds_CheckLogical.C n) dds_CheckLogical.cut (fun S => finK G Tryz.f17.resultTypes.toList Tryz.f17.results.toList S dds_CheckLogical.dec) (m + 1) dds_CheckLogical.t6x2 (dds_CheckLogical.s6x2 z1 z2 z3 z4 z5 z6 z7 z8 z9 z10) = ((dds_CheckLogical.l n (m + 1)).2.2.2.1) z1 z2 z3 z4 z5 z6 z7 z8 z9 z10 := by
      intro z1 z2 z3 z4 z5 z6 z7 z8 z9 z10
      rw [runK_succ]
      refine (dds_CheckLogical.r6x2_eq n _ dds_CheckLogical.dec z1 z2 z3 z4 z5 z6 z7 z8 z9 z10).trans ?_
      rw [e4, e6, e6x1, e6x2, e6x3, e6x4, e7]
      rfl
    have q6x3 : ∀ (z1 : Int) (z2 : Int) (z3 : ByteArray) (z4 : ByteArray) (z5 : List AV) (z6 : List AV) (z7 : List AV) (z8 : List AV) (z9 : Bool) (z10 : List AV), runK G (dds_CheckLogical.C n) dds_CheckLogical.cut (fun S => finK G Tryz.f17.resultTypes.toList Tryz.f17.results.toList S dds_CheckLogical.dec) (m + 1) dds_CheckLogical.t6x3 (dds_CheckLogical.s6x3 z1 z2 z3 z4 z5 z6 z7 z8 z9 z10) = ((dds_CheckLogical.l n (m + 1)).2.2.2.2.1) z1 z2 z3 z4 z5 z6 z7 z8 z9 z10 := by
      intro z1 z2 z3 z4 z5 z6 z7 z8 z9 z10
      rw [runK_succ]
      refine (dds_CheckLogical.r6x3_eq n _ dds_CheckLogical.dec z1 z2 z3 z4 z5 z6 z7 z8 z9 z10).trans ?_
      rw [e4, e6, e6x1, e6x2, e6x3, e6x4, e7]
      rfl
    have q6x4 : ∀ (z1 : Int) (z2 : Int) (z3 : ByteArray) (z4 : ByteArray) (z5 : List AV) (z6 : List AV) (z7 : List AV) (z8 : List AV) (z9 : Bool) (z10 : List AV), runK G (dds_CheckLogical.C n) dds_CheckLogical.cut (fun S => finK G Tryz.f17.resultTypes.toList Tryz.f17.results.toList S dds_CheckLogical.dec) (m + 1) dds_CheckLogical.t6x4 (dds_CheckLogical.s6x4 z1 z2 z3 z4 z5 z6 z7 z8 z9 z10) = ((dds_CheckLogical.l n (m + 1)).2.2.2.2.2.1) z1 z2 z3 z4 z5 z6 z7 z8 z9 z10 := by
      intro z1 z2 z3 z4 z5 z6 z7 z8 z9 z10
      rw [runK_succ]
      refine (dds_CheckLogical.r6x4_eq n _ dds_CheckLogical.dec z1 z2 z3 z4 z5 z6 z7 z8 z9 z10).trans ?_
      rw [e4, e6, e6x1, e6x2, e6x3, e6x4, e7]
      rfl
    have q7 : ∀ (z1 : Int) (z2 : Int) (z3 : Int) (z4 : Int) (z5 : ByteArray) (z6 : ByteArray) (z7 : List AV) (z8 : List AV) (z9 : List AV) (z10 : List AV) (z11 : Bool) (z12 : List AV), runK G (dds_CheckLogical.C n) dds_CheckLogical.cut (fun S => finK G Tryz.f17.resultTypes.toList Tryz.f17.results.toList S dds_CheckLogical.dec) (m + 1) dds_CheckLogical.t7 (dds_CheckLogical.s7 z1 z2 z3 z4 z5 z6 z7 z8 z9 z10 z11 z12) = ((dds_CheckLogical.l n (m + 1)).2.2.2.2.2.2) z1 z2 z3 z4 z5 z6 z7 z8 z9 z10 z11 z12 := by
      intro z1 z2 z3 z4 z5 z6 z7 z8 z9 z10 z11 z12
      rw [runK_succ]
      refine (dds_CheckLogical.r7_eq n _ dds_CheckLogical.dec z1 z2 z3 z4 z5 z6 z7 z8 z9 z10 z11 z12).trans ?_
      rw [e4, e6, e6x1, e6x2, e6x3, e6x4, e7]
      rfl
    exact ⟨q4, q6, q6x1, q6x2, q6x3, q6x4, q7⟩
theorem dds_CheckLogical.hands (n : Nat) (a0 : ByteArray) (a1 : ByteArray) (a2 : List AV) (a3 : List AV) (a4 : List AV) (a5 : List AV) (a6 : Bool) (a7 : List AV) {p : Int × Int} (h : dds_CheckLogical.F n a0 a1 a2 a3 a4 a5 a6 a7 = some p) : HandsIn Tryz.prog 17 [AV.agg [vs a0, vs a1, .sl ⟨true, 9⟩ 1 a2, .sl ⟨true, 95⟩ 3 a3, .sl ⟨true, 97⟩ 4 a4, .sl ⟨true, 111⟩ 2 a5, vb a6, .sl ⟨false, 100⟩ 2 a7]] (.tup [vi p.1, vi p.2]) := by
  refine hands_of cfg mixed globs rfl (dds_CheckLogical.tells n) (fn := Tryz.f17) Tryz.func17 (by kernel_rfl) (by kernel_rfl) (cut := dds_CheckLogical.cut) (K := dds_CheckLogical.dec) (r := p) (n := n) dds_CheckLogical.dec_inv ?_
  rw [funK_getD (by kernel_rfl)]
  have h1 := dds_CheckLogical.e_eq n (runK G (dds_CheckLogical.C n) dds_CheckLogical.cut (fun S => finK G Tryz.f17.resultTypes.toList Tryz.f17.results.toList S dds_CheckLogical.dec) n) dds_CheckLogical.dec a0 a1 a2 a3 a4 a5 a6 a7
  have hl := dds_CheckLogical.l_eq n n
  simp only [hl.1, hl.2.1, hl.2.2.1, hl.2.2.2.1, hl.2.2.2.2.1, hl.2.2.2.2.2.1, hl.2.2.2.2.2.2] at h1
  exact h1.trans h
noncomputable def dds_CheckLogical.via {R : Type} (n : Nat) (xs : List AV) : (AV → Option R) → Option R := match xs with | [.agg [.v (.string a0), .v (.string a1), .sl ⟨true, 9⟩ 1 a2, .sl ⟨true, 95⟩ 3 a3, .sl ⟨true, 97⟩ 4 a4, .sl ⟨true, 111⟩ 2 a5, .v (.bool a6), .sl ⟨false, 100⟩ 2 a7]] => fun K => (dds_CheckLogical.F n a0 a1 a2 a3 a4 a5 a6 a7).bind fun p => K (.tup [vi p.1, vi p.2]) | _ => fun _ => none
theorem dds_CheckLogical.tells1 {R : Type} (n : Nat) (xs : List AV) : Tells1 (R := R) Tryz.prog 17 xs (dds_CheckLogical.via n xs) := by
  unfold dds_CheckLogical.via
  split
  · exact Tells1.of (fun p hp => (dds_CheckLogical.hands n _ _ _ _ _ _ _ _ hp).hands rfl)
  · exact Tells1.none
end Go.Proofs.YtmpglmcjoelciaaGreatDoor.Ev

/- midrange/midrangebase.CopyStrings, out of its evaluation. Printed by the session's own program. -/
namespace Go.Proofs.YtmpglmcjoelciaaGreatDoor.Ev
open Go Go.Proofs Go.Proofs.Ev
set_option linter.unusedVariables false
set_option maxRecDepth 100000
/-! midrange/midrangebase.CopyStrings: function 22 -/
noncomputable def midrangebase_CopyStrings.e {R : Type} (n : Nat)  (k : List AV → Option R) (a0 : List AV) : Option R :=
  bif decide (a0.length ≤ most) then (k a0) else none
noncomputable def midrangebase_CopyStrings.C {R : Type} (n : Nat) (f : FuncId) (xs : List AV) : (AV → Option R) → Option R :=
  fun _ => none
theorem midrangebase_CopyStrings.tells {R : Type} (n : Nat) : Tells (R := R) Tryz.prog (midrangebase_CopyStrings.C n) := fun _ xs => Tells1.none
noncomputable def midrangebase_CopyStrings.cut (r : Nat) : Option Keep := match r with  | _ => none
theorem midrangebase_CopyStrings.e_eq {R : Type} (n : Nat) (rec : List Item → St → Option R) (K : AV → Option R) (a0 : List AV) :
    goK G (midrangebase_CopyStrings.C n) midrangebase_CopyStrings.cut (fun S => finK G Tryz.f22.resultTypes.toList Tryz.f22.results.toList S K) rec 1000 [.code (Tryz.f22.body.getD .skip)] (Ev.start Tryz.f22 [.sl ⟨true, 9⟩ 1 a0]) = midrangebase_CopyStrings.e n  (fun p => K (.fr ⟨true, 9⟩ 1 p)) a0 := by kernel_rfl
noncomputable def midrangebase_CopyStrings.F (n : Nat) (a0 : List AV) : Option (List AV) := midrangebase_CopyStrings.e n  Option.some a0
noncomputable def midrangebase_CopyStrings.dec (x : AV) : Option (List AV) := match x with | .fr ⟨true, 9⟩ 1 p0 => Option.some p0 | _ => none
theorem midrangebase_CopyStrings.dec_inv {p : List AV} (y : AV) (h : midrangebase_CopyStrings.dec y = some p) : y = .fr ⟨true, 9⟩ 1 p := by
  unfold midrangebase_CopyStrings.dec at h
  split at h
  · cases h; rfl
  · cases h
theorem midrangebase_CopyStrings.hands (n : Nat) (a0 : List AV) {p : List AV} (h : midrangebase_CopyStrings.F n a0 = some p) : HandsIn Tryz.prog 22 [.sl ⟨true, 9⟩ 1 a0] (.fr ⟨true, 9⟩ 1 p) := by
  refine hands_of cfg mixed globs rfl (midrangebase_CopyStrings.tells n) (fn := Tryz.f22) Tryz.func22 (by kernel_rfl) (by kernel_rfl) (cut := midrangebase_CopyStrings.cut) (K := midrangebase_CopyStrings.dec) (r := p) (n := n) midrangebase_CopyStrings.dec_inv ?_
  rw [funK_getD (by kernel_rfl)]
  have h1 := midrangebase_CopyStrings.e_eq n (runK G (midrangebase_CopyStrings.C n) midrangebase_CopyStrings.cut (fun S => finK G Tryz.f22.resultTypes.toList Tryz.f22.results.toList S midrangebase_CopyStrings.dec) n) midrangebase_CopyStrings.dec a0
  exact h1.trans h
noncomputable def midrangebase_CopyStrings.via {R : Type} (n : Nat) (xs : List AV) : (AV → Option R) → Option R := match xs with | [.sl ⟨true, 9⟩ 1 a0] => fun K => (midrangebase_CopyStrings.F n a0).bind fun p => K (.fr ⟨true, 9⟩ 1 p) | _ => fun _ => none
theorem midrangebase_CopyStrings.tells1 {R : Type} (n : Nat) (xs : List AV) : Tells1 (R := R) Tryz.prog 22 xs (midrangebase_CopyStrings.via n xs) := by
  unfold midrangebase_CopyStrings.via
  split
  · exact Tells1.of (fun p hp => (midrangebase_CopyStrings.hands n _ hp).hands rfl)
  · exact Tells1.none
end Go.Proofs.YtmpglmcjoelciaaGreatDoor.Ev

/- midrange/midrangeref25.OwnLogical, out of its evaluation. Printed by the session's own program. -/
namespace Go.Proofs.YtmpglmcjoelciaaGreatDoor.Ev
open Go Go.Proofs Go.Proofs.Ev
set_option linter.unusedVariables false
set_option maxRecDepth 100000
/-! midrange/midrangeref25.OwnLogical: function 18 -/
noncomputable def midrangeref25_OwnLogical.r7 {R : Type} (n : Nat) (c7 : Int → ByteArray → ByteArray → Bool → List AV → List AV → List AV → List AV → List AV → ByteArray → ByteArray → Bool → List AV → Option R) (k : ByteArray × ByteArray × List AV × List AV × List AV × List AV × Bool × List AV → Option R) (z1 : Int) (z2 : ByteArray) (z3 : ByteArray) (z4 : Bool) (z5 : List AV) (z6 : List AV) (z7 : List AV) (z8 : List AV) (z9 : List AV) (z10 : ByteArray) (z11 : ByteArray) (z12 : Bool) (z13 : List AV) : Option R :=
  let y2 : Bool := decide (z1 < ((z5.length : Nat) : Int))
  bif y2 then (bif decide ((0 : Int) ≤ z1) && decide (z1 < ((z5.length : Nat) : Int)) then (withCons ((z5.getD ((z1).toNat) .undef).cells) fun h3 r4 =>
  withBool h3 fun b5 =>
  bif decide ((0 : Int) ≤ z1) && decide (z1 < ((z5.length : Nat) : Int)) then (withCons (((z5.getD ((z1).toNat) .undef).cells).drop 1) fun h6 r7 =>
  withSl ⟨true, 104⟩ 4 h6 fun xs8 =>
  bif decide (xs8.length ≤ most) then (let y9 : List AV := [AV.agg [vb b5, .sl ⟨true, 104⟩ 4 xs8]]
  bif decide (z13.length + y9.length ≤ most) then (c7 (IntKind.i64.wrap (z1 + 1)) z2 z3 z4 z5 z6 z7 z8 z9 z10 z11 z12 (z13 ++ y9)) else none) else none) else none) else none) else (k (z2, z3, z6, z7, z8, z9, z4, z13))
noncomputable def midrangeref25_OwnLogical.e {R : Type} (n : Nat) (c7 : Int → ByteArray → ByteArray → Bool → List AV → List AV → List AV → List AV → List AV → ByteArray → ByteArray → Bool → List AV → Option R) (k : ByteArray × ByteArray × List AV × List AV × List AV × List AV × Bool × List AV → Option R) (a0 : ByteArray) (a1 : ByteArray) (a2 : List AV) (a3 : List AV) (a4 : List AV) (a5 : List AV) (a6 : Bool) (a7 : List AV) : Option R :=
  (midrangebase_CopyStrings.F n a2).bind fun p1 =>
  bif decide (a3.length ≤ most) then (bif decide (a4.length ≤ most) then (bif decide (a5.length ≤ most) then (c7 0 a0 a1 a6 a7 p1 a3 a4 a5 (⟨#[]⟩ : ByteArray) (⟨#[]⟩ : ByteArray) false []) else none) else none) else none
noncomputable def midrangeref25_OwnLogical.C {R : Type} (n : Nat) (f : FuncId) (xs : List AV) : (AV → Option R) → Option R :=
  bif Nat.beq f 22 then midrangebase_CopyStrings.via n xs else fun _ => none
theorem midrangeref25_OwnLogical.tells {R : Type} (n : Nat) : Tells (R := R) Tryz.prog (midrangeref25_OwnLogical.C n) := fun _ xs => tells_at (midrangebase_CopyStrings.tells1 n xs) (Tells1.none)
noncomputable def midrangeref25_OwnLogical.cut (r : Nat) : Option Keep := match r with | 7 => Option.some ⟨[1, 2, 3, 4], [(3, none, ⟨false, 100⟩, 2)]⟩ | _ => none
noncomputable def midrangeref25_OwnLogical.t7 : List Item := (todoOf 7 1000 [.code (Tryz.f18.body.getD .skip)]).getD []
noncomputable def midrangeref25_OwnLogical.s7 (z1 : Int) (z2 : ByteArray) (z3 : ByteArray) (z4 : Bool) (z5 : List AV) (z6 : List AV) (z7 : List AV) (z8 : List AV) (z9 : List AV) (z10 : ByteArray) (z11 : ByteArray) (z12 : Bool) (z13 : List AV) : St := ⟨[.undef, .ptr 0 0, .ptr 5 0, .own 6 0 none, vi z1, .undef, .undef, .undef, .undef, .undef, .undef, .undef, .undef, .undef, .undef, .undef, .undef, .undef, .undef, .undef, .undef, .undef, .undef, .undef, .undef, .undef, .undef, .undef, .undef, .undef, .undef, .undef, .undef, .undef, .undef, .undef, .undef, .undef, .undef, .undef, .undef, .undef, .undef, .undef, .undef, .undef, .undef, .undef], Mem.ofList [.box 36 [vs z2, vs z3, .own 1 0 none, .own 2 0 none, .own 3 0 none, .own 4 0 none, vb z4, .sl ⟨false, 100⟩ 2 z5], .row ⟨true, 9⟩ 1 z6, .row ⟨true, 95⟩ 3 z7, .row ⟨true, 97⟩ 4 z8, .row ⟨true, 111⟩ 2 z9, .box 36 [vs z10, vs z11, .v (.slice none 0 0), .v (.slice none 0 0), .v (.slice none 0 0), .v (.slice none 0 0), vb z12, .v (.slice none 0 0)], .row ⟨false, 100⟩ 2 z13], 7⟩
theorem midrangeref25_OwnLogical.e_eq {R : Type} (n : Nat) (rec : List Item → St → Option R) (K : AV → Option R) (a0 : ByteArray) (a1 : ByteArray) (a2 : List AV) (a3 : List AV) (a4 : List AV) (a5 : List AV) (a6 : Bool) (a7 : List AV) :
    goK G (midrangeref25_OwnLogical.C n) midrangeref25_OwnLogical.cut (fun S => finK G Tryz.f18.resultTypes.toList Tryz.f18.results.toList S K) rec 1000 [.code (Tryz.f18.body.getD .skip)] (Ev.start Tryz.f18 [AV.agg [vs a0, vs a1, .sl ⟨true, 9⟩ 1 a2, .sl ⟨true, 95⟩ 3 a3, .sl ⟨true, 97⟩ 4 a4, .sl ⟨true, 111⟩ 2 a5, vb a6, .sl ⟨false, 100⟩ 2 a7]]) = midrangeref25_OwnLogical.e n (fun z1 z2 z3 z4 z5 z6 z7 z8 z9 z10 z11 z12 z13 => rec midrangeref25_OwnLogical.t7 (midrangeref25_OwnLogical.s7 z1 z2 z3 z4 z5 z6 z7 z8 z9 z10 z11 z12 z13)) (fun p => K (AV.agg [vs p.1, vs p.2.1, .fr ⟨true, 9⟩ 1 p.2.2.1, .fr ⟨true, 95⟩ 3 p.2.2.2.1, .fr ⟨true, 97⟩ 4 p.2.2.2.2.1, .fr ⟨true, 111⟩ 2 p.2.2.2.2.2.1, vb p.2.2.2.2.2.2.1, .fr ⟨false, 100⟩ 2 p.2.2.2.2.2.2.2])) a0 a1 a2 a3 a4 a5 a6 a7 := by kernel_rfl
theorem midrangeref25_OwnLogical.r7_eq {R : Type} (n : Nat) (rec : List Item → St → Option R) (K : AV → Option R) (z1 : Int) (z2 : ByteArray) (z3 : ByteArray) (z4 : Bool) (z5 : List AV) (z6 : List AV) (z7 : List AV) (z8 : List AV) (z9 : List AV) (z10 : ByteArray) (z11 : ByteArray) (z12 : Bool) (z13 : List AV) :
    atK G (midrangeref25_OwnLogical.C n) midrangeref25_OwnLogical.cut (fun S => finK G Tryz.f18.resultTypes.toList Tryz.f18.results.toList S K) rec midrangeref25_OwnLogical.t7 (midrangeref25_OwnLogical.s7 z1 z2 z3 z4 z5 z6 z7 z8 z9 z10 z11 z12 z13) = midrangeref25_OwnLogical.r7 n (fun z1 z2 z3 z4 z5 z6 z7 z8 z9 z10 z11 z12 z13 => rec midrangeref25_OwnLogical.t7 (midrangeref25_OwnLogical.s7 z1 z2 z3 z4 z5 z6 z7 z8 z9 z10 z11 z12 z13)) (fun p => K (AV.agg [vs p.1, vs p.2.1, .fr ⟨true, 9⟩ 1 p.2.2.1, .fr ⟨true, 95⟩ 3 p.2.2.2.1, .fr ⟨true, 97⟩ 4 p.2.2.2.2.1, .fr ⟨true, 111⟩ 2 p.2.2.2.2.2.1, vb p.2.2.2.2.2.2.1, .fr ⟨false, 100⟩ 2 p.2.2.2.2.2.2.2])) z1 z2 z3 z4 z5 z6 z7 z8 z9 z10 z11 z12 z13 := by kernel_rfl
noncomputable def midrangeref25_OwnLogical.l (n : Nat) : Nat → (Int → ByteArray → ByteArray → Bool → List AV → List AV → List AV → List AV → List AV → ByteArray → ByteArray → Bool → List AV → Option (ByteArray × ByteArray × List AV × List AV × List AV × List AV × Bool × List AV))
  | 0 => (fun _ _ _ _ _ _ _ _ _ _ _ _ _ => none)
  | m + 1 => midrangeref25_OwnLogical.r7 n (midrangeref25_OwnLogical.l n m) Option.some
noncomputable def midrangeref25_OwnLogical.F (n : Nat) (a0 : ByteArray) (a1 : ByteArray) (a2 : List AV) (a3 : List AV) (a4 : List AV) (a5 : List AV) (a6 : Bool) (a7 : List AV) : Option (ByteArray × ByteArray × List AV × List AV × List AV × List AV × Bool × List AV) := midrangeref25_OwnLogical.e n (midrangeref25_OwnLogical.l n n) Option.some a0 a1 a2 a3 a4 a5 a6 a7
noncomputable def midrangeref25_OwnLogical.dec (x : AV) : Option (ByteArray × ByteArray × List AV × List AV × List AV × List AV × Bool × List AV) := match x with | .agg [.v (.string p0), .v (.string p1), .fr ⟨true, 9⟩ 1 p2, .fr ⟨true, 95⟩ 3 p3, .fr ⟨true, 97⟩ 4 p4, .fr ⟨true, 111⟩ 2 p5, .v (.bool p6), .fr ⟨false, 100⟩ 2 p7] => Option.some (p0, p1, p2, p3, p4, p5, p6, p7) | _ => none
theorem midrangeref25_OwnLogical.dec_inv {p : ByteArray × ByteArray × List AV × List AV × List AV × List AV × Bool × List AV} (y : AV) (h : midrangeref25_OwnLogical.dec y = some p) : y = AV.agg [vs p.1, vs p.2.1, .fr ⟨true, 9⟩ 1 p.2.2.1, .fr ⟨true, 95⟩ 3 p.2.2.2.1, .fr ⟨true, 97⟩ 4 p.2.2.2.2.1, .fr ⟨true, 111⟩ 2 p.2.2.2.2.2.1, vb p.2.2.2.2.2.2.1, .fr ⟨false, 100⟩ 2 p.2.2.2.2.2.2.2] := by
  unfold midrangeref25_OwnLogical.dec at h
  split at h
  · cases h; rfl
  · cases h
theorem midrangeref25_OwnLogical.l_eq (n m : Nat) : (∀ (z1 : Int) (z2 : ByteArray) (z3 : ByteArray) (z4 : Bool) (z5 : List AV) (z6 : List AV) (z7 : List AV) (z8 : List AV) (z9 : List AV) (z10 : ByteArray) (z11 : ByteArray) (z12 : Bool) (z13 : List AV), runK G (midrangeref25_OwnLogical.C n) midrangeref25_OwnLogical.cut (fun S => finK G Tryz.f18.resultTypes.toList Tryz.f18.results.toList S midrangeref25_OwnLogical.dec) m midrangeref25_OwnLogical.t7 (midrangeref25_OwnLogical.s7 z1 z2 z3 z4 z5 z6 z7 z8 z9 z10 z11 z12 z13) = (midrangeref25_OwnLogical.l n m) z1 z2 z3 z4 z5 z6 z7 z8 z9 z10 z11 z12 z13) := by
  induction m with
  | zero => exact fun z1 z2 z3 z4 z5 z6 z7 z8 z9 z10 z11 z12 z13 => rfl
  | succ m ih =>
    have h7 := ih
    have e7 : (fun (z1 : Int) (z2 : ByteArray) (z3 : ByteArray) (z4 : Bool) (z5 : List AV) (z6 : List AV) (z7 : List AV) (z8 : List AV) (z9 : List AV) (z10 : ByteArray) (z11 : ByteArray) (z12 : Bool) (z13 : List AV) => runK G (midrangeref25_OwnLogical.C n) midrangeref25_OwnLogical.cut (fun S => finK G Tryz.f18.resultTypes.toList Tryz.f18.results.toList S midrangeref25_OwnLogical.dec) m midrangeref25_OwnLogical.t7 (midrangeref25_OwnLogical.s7 z1 z2 z3 z4 z5 z6 z7 z8 z9 z10 z11 z12 z13)) = (midrangeref25_OwnLogical.l n m) := by funext z1 z2 z3 z4 z5 z6 z7 z8 z9 z10 z11 z12 z13; exact h7 z1 z2 z3 z4 z5 z6 z7 z8 z9 z10 z11 z12 z13
    have q7 : ∀ (z1 : Int) (z2 : ByteArray) (z3 : ByteArray) (z4 : Bool) (z5 : List AV) (z6 : List AV) (z7 : List AV) (z8 : List AV) (z9 : List AV) (z10 : ByteArray) (z11 : ByteArray) (z12 : Bool) (z13 : List AV), runK G (midrangeref25_OwnLogical.C n) midrangeref25_OwnLogical.cut (fun S => finK G Tryz.f18.resultTypes.toList Tryz.f18.results.toList S midrangeref25_OwnLogical.dec) (m + 1) midrangeref25_OwnLogical.t7 (midrangeref25_OwnLogical.s7 z1 z2 z3 z4 z5 z6 z7 z8 z9 z10 z11 z12 z13) = (midrangeref25_OwnLogical.l n (m + 1)) z1 z2 z3 z4 z5 z6 z7 z8 z9 z10 z11 z12 z13 := by
      intro z1 z2 z3 z4 z5 z6 z7 z8 z9 z10 z11 z12 z13
      rw [runK_succ]
      refine (midrangeref25_OwnLogical.r7_eq n _ midrangeref25_OwnLogical.dec z1 z2 z3 z4 z5 z6 z7 z8 z9 z10 z11 z12 z13).trans ?_
      rw [e7]
      rfl
    exact q7
theorem midrangeref25_OwnLogical.hands (n : Nat) (a0 : ByteArray) (a1 : ByteArray) (a2 : List AV) (a3 : List AV) (a4 : List AV) (a5 : List AV) (a6 : Bool) (a7 : List AV) {p : ByteArray × ByteArray × List AV × List AV × List AV × List AV × Bool × List AV} (h : midrangeref25_OwnLogical.F n a0 a1 a2 a3 a4 a5 a6 a7 = some p) : HandsIn Tryz.prog 18 [AV.agg [vs a0, vs a1, .sl ⟨true, 9⟩ 1 a2, .sl ⟨true, 95⟩ 3 a3, .sl ⟨true, 97⟩ 4 a4, .sl ⟨true, 111⟩ 2 a5, vb a6, .sl ⟨false, 100⟩ 2 a7]] (AV.agg [vs p.1, vs p.2.1, .fr ⟨true, 9⟩ 1 p.2.2.1, .fr ⟨true, 95⟩ 3 p.2.2.2.1, .fr ⟨true, 97⟩ 4 p.2.2.2.2.1, .fr ⟨true, 111⟩ 2 p.2.2.2.2.2.1, vb p.2.2.2.2.2.2.1, .fr ⟨false, 100⟩ 2 p.2.2.2.2.2.2.2]) := by
  refine hands_of cfg mixed globs rfl (midrangeref25_OwnLogical.tells n) (fn := Tryz.f18) Tryz.func18 (by kernel_rfl) (by kernel_rfl) (cut := midrangeref25_OwnLogical.cut) (K := midrangeref25_OwnLogical.dec) (r := p) (n := n) midrangeref25_OwnLogical.dec_inv ?_
  rw [funK_getD (by kernel_rfl)]
  have h1 := midrangeref25_OwnLogical.e_eq n (runK G (midrangeref25_OwnLogical.C n) midrangeref25_OwnLogical.cut (fun S => finK G Tryz.f18.resultTypes.toList Tryz.f18.results.toList S midrangeref25_OwnLogical.dec) n) midrangeref25_OwnLogical.dec a0 a1 a2 a3 a4 a5 a6 a7
  have hl := midrangeref25_OwnLogical.l_eq n n
  simp only [hl] at h1
  exact h1.trans h
noncomputable def midrangeref25_OwnLogical.via {R : Type} (n : Nat) (xs : List AV) : (AV → Option R) → Option R := match xs with | [.agg [.v (.string a0), .v (.string a1), .sl ⟨true, 9⟩ 1 a2, .sl ⟨true, 95⟩ 3 a3, .sl ⟨true, 97⟩ 4 a4, .sl ⟨true, 111⟩ 2 a5, .v (.bool a6), .sl ⟨false, 100⟩ 2 a7]] => fun K => (midrangeref25_OwnLogical.F n a0 a1 a2 a3 a4 a5 a6 a7).bind fun p => K (AV.agg [vs p.1, vs p.2.1, .fr ⟨true, 9⟩ 1 p.2.2.1, .fr ⟨true, 95⟩ 3 p.2.2.2.1, .fr ⟨true, 97⟩ 4 p.2.2.2.2.1, .fr ⟨true, 111⟩ 2 p.2.2.2.2.2.1, vb p.2.2.2.2.2.2.1, .fr ⟨false, 100⟩ 2 p.2.2.2.2.2.2.2]) | _ => fun _ => none
theorem midrangeref25_OwnLogical.tells1 {R : Type} (n : Nat) (xs : List AV) : Tells1 (R := R) Tryz.prog 18 xs (midrangeref25_OwnLogical.via n xs) := by
  unfold midrangeref25_OwnLogical.via
  split
  · exact Tells1.of (fun p hp => (midrangeref25_OwnLogical.hands n _ _ _ _ _ _ _ _ hp).hands rfl)
  · exact Tells1.none
end Go.Proofs.YtmpglmcjoelciaaGreatDoor.Ev

/- midrange/midrangebase.Within, out of its evaluation. Printed by the session's own program. -/
namespace Go.Proofs.YtmpglmcjoelciaaGreatDoor.Ev
open Go Go.Proofs Go.Proofs.Ev
set_option linter.unusedVariables false
set_option maxRecDepth 100000
/-! midrange/midrangebase.Within: function 48 -/
noncomputable def midrangebase_Within.e {R : Type} (n : Nat)  (k : Bool → Option R) (a0 : Int) (a1 : Int) (a2 : Int) : Option R :=
  bif decide (a1 ≤ a0) then (k (decide (a0 ≤ a2))) else (k false)
noncomputable def midrangebase_Within.C {R : Type} (n : Nat) (f : FuncId) (xs : List AV) : (AV → Option R) → Option R :=
  fun _ => none
theorem midrangebase_Within.tells {R : Type} (n : Nat) : Tells (R := R) Tryz.prog (midrangebase_Within.C n) := fun _ xs => Tells1.none
noncomputable def midrangebase_Within.cut (r : Nat) : Option Keep := match r with  | _ => none
theorem midrangebase_Within.e_eq {R : Type} (n : Nat) (rec : List Item → St → Option R) (K : AV → Option R) (a0 : Int) (a1 : Int) (a2 : Int) :
    goK G (midrangebase_Within.C n) midrangebase_Within.cut (fun S => finK G Tryz.f48.resultTypes.toList Tryz.f48.results.toList S K) rec 1000 [.code (Tryz.f48.body.getD .skip)] (Ev.start Tryz.f48 [vi a0, vi a1, vi a2]) = midrangebase_Within.e n  (fun p => K (vb p)) a0 a1 a2 := by kernel_rfl
noncomputable def midrangebase_Within.F (n : Nat) (a0 : Int) (a1 : Int) (a2 : Int) : Option (Bool) := midrangebase_Within.e n  Option.some a0 a1 a2
noncomputable def midrangebase_Within.dec (x : AV) : Option (Bool) := match x with | .v (.bool p0) => Option.some p0 | _ => none
theorem midrangebase_Within.dec_inv {p : Bool} (y : AV) (h : midrangebase_Within.dec y = some p) : y = vb p := by
  unfold midrangebase_Within.dec at h
  split at h
  · cases h; rfl
  · cases h
theorem midrangebase_Within.hands (n : Nat) (a0 : Int) (a1 : Int) (a2 : Int) {p : Bool} (h : midrangebase_Within.F n a0 a1 a2 = some p) : HandsIn Tryz.prog 48 [vi a0, vi a1, vi a2] (vb p) := by
  refine hands_of cfg mixed globs rfl (midrangebase_Within.tells n) (fn := Tryz.f48) Tryz.func48 (by kernel_rfl) (by kernel_rfl) (cut := midrangebase_Within.cut) (K := midrangebase_Within.dec) (r := p) (n := n) midrangebase_Within.dec_inv ?_
  rw [funK_getD (by kernel_rfl)]
  have h1 := midrangebase_Within.e_eq n (runK G (midrangebase_Within.C n) midrangebase_Within.cut (fun S => finK G Tryz.f48.resultTypes.toList Tryz.f48.results.toList S midrangebase_Within.dec) n) midrangebase_Within.dec a0 a1 a2
  exact h1.trans h
noncomputable def midrangebase_Within.via {R : Type} (n : Nat) (xs : List AV) : (AV → Option R) → Option R := match xs with | [.v (.int .i64 a0), .v (.int .i64 a1), .v (.int .i64 a2)] => fun K => (midrangebase_Within.F n a0 a1 a2).bind fun p => K (vb p) | _ => fun _ => none
theorem midrangebase_Within.tells1 {R : Type} (n : Nat) (xs : List AV) : Tells1 (R := R) Tryz.prog 48 xs (midrangebase_Within.via n xs) := by
  unfold midrangebase_Within.via
  split
  · exact Tells1.of (fun p hp => (midrangebase_Within.hands n _ _ _ hp).hands rfl)
  · exact Tells1.none
end Go.Proofs.YtmpglmcjoelciaaGreatDoor.Ev

/- midrange/midrangebase.IsUpper, out of its evaluation. Printed by the session's own program. -/
namespace Go.Proofs.YtmpglmcjoelciaaGreatDoor.Ev
open Go Go.Proofs Go.Proofs.Ev
set_option linter.unusedVariables false
set_option maxRecDepth 100000
/-! midrange/midrangebase.IsUpper: function 104 -/
noncomputable def midrangebase_IsUpper.e {R : Type} (n : Nat)  (k : Bool → Option R) (a0 : Int) : Option R :=
  bif decide ((65 : Int) ≤ a0) then (k (decide (a0 ≤ 90))) else (k false)
noncomputable def midrangebase_IsUpper.C {R : Type} (n : Nat) (f : FuncId) (xs : List AV) : (AV → Option R) → Option R :=
  fun _ => none
theorem midrangebase_IsUpper.tells {R : Type} (n : Nat) : Tells (R := R) Tryz.prog (midrangebase_IsUpper.C n) := fun _ xs => Tells1.none
noncomputable def midrangebase_IsUpper.cut (r : Nat) : Option Keep := match r with  | _ => none
theorem midrangebase_IsUpper.e_eq {R : Type} (n : Nat) (rec : List Item → St → Option R) (K : AV → Option R) (a0 : Int) :
    goK G (midrangebase_IsUpper.C n) midrangebase_IsUpper.cut (fun S => finK G Tryz.f104.resultTypes.toList Tryz.f104.results.toList S K) rec 1000 [.code (Tryz.f104.body.getD .skip)] (Ev.start Tryz.f104 [vu a0]) = midrangebase_IsUpper.e n  (fun p => K (vb p)) a0 := by kernel_rfl
noncomputable def midrangebase_IsUpper.F (n : Nat) (a0 : Int) : Option (Bool) := midrangebase_IsUpper.e n  Option.some a0
noncomputable def midrangebase_IsUpper.dec (x : AV) : Option (Bool) := match x with | .v (.bool p0) => Option.some p0 | _ => none
theorem midrangebase_IsUpper.dec_inv {p : Bool} (y : AV) (h : midrangebase_IsUpper.dec y = some p) : y = vb p := by
  unfold midrangebase_IsUpper.dec at h
  split at h
  · cases h; rfl
  · cases h
theorem midrangebase_IsUpper.hands (n : Nat) (a0 : Int) {p : Bool} (h : midrangebase_IsUpper.F n a0 = some p) : HandsIn Tryz.prog 104 [vu a0] (vb p) := by
  refine hands_of cfg mixed globs rfl (midrangebase_IsUpper.tells n) (fn := Tryz.f104) Tryz.func104 (by kernel_rfl) (by kernel_rfl) (cut := midrangebase_IsUpper.cut) (K := midrangebase_IsUpper.dec) (r := p) (n := n) midrangebase_IsUpper.dec_inv ?_
  rw [funK_getD (by kernel_rfl)]
  have h1 := midrangebase_IsUpper.e_eq n (runK G (midrangebase_IsUpper.C n) midrangebase_IsUpper.cut (fun S => finK G Tryz.f104.resultTypes.toList Tryz.f104.results.toList S midrangebase_IsUpper.dec) n) midrangebase_IsUpper.dec a0
  exact h1.trans h
noncomputable def midrangebase_IsUpper.via {R : Type} (n : Nat) (xs : List AV) : (AV → Option R) → Option R := match xs with | [.v (.int .u8 a0)] => fun K => (midrangebase_IsUpper.F n a0).bind fun p => K (vb p) | _ => fun _ => none
theorem midrangebase_IsUpper.tells1 {R : Type} (n : Nat) (xs : List AV) : Tells1 (R := R) Tryz.prog 104 xs (midrangebase_IsUpper.via n xs) := by
  unfold midrangebase_IsUpper.via
  split
  · exact Tells1.of (fun p hp => (midrangebase_IsUpper.hands n _ hp).hands rfl)
  · exact Tells1.none
end Go.Proofs.YtmpglmcjoelciaaGreatDoor.Ev

/- midrange/midrangebase.IsDigit, out of its evaluation. Printed by the session's own program. -/
namespace Go.Proofs.YtmpglmcjoelciaaGreatDoor.Ev
open Go Go.Proofs Go.Proofs.Ev
set_option linter.unusedVariables false
set_option maxRecDepth 100000
/-! midrange/midrangebase.IsDigit: function 105 -/
noncomputable def midrangebase_IsDigit.e {R : Type} (n : Nat)  (k : Bool → Option R) (a0 : Int) : Option R :=
  bif decide ((48 : Int) ≤ a0) then (k (decide (a0 ≤ 57))) else (k false)
noncomputable def midrangebase_IsDigit.C {R : Type} (n : Nat) (f : FuncId) (xs : List AV) : (AV → Option R) → Option R :=
  fun _ => none
theorem midrangebase_IsDigit.tells {R : Type} (n : Nat) : Tells (R := R) Tryz.prog (midrangebase_IsDigit.C n) := fun _ xs => Tells1.none
noncomputable def midrangebase_IsDigit.cut (r : Nat) : Option Keep := match r with  | _ => none
theorem midrangebase_IsDigit.e_eq {R : Type} (n : Nat) (rec : List Item → St → Option R) (K : AV → Option R) (a0 : Int) :
    goK G (midrangebase_IsDigit.C n) midrangebase_IsDigit.cut (fun S => finK G Tryz.f105.resultTypes.toList Tryz.f105.results.toList S K) rec 1000 [.code (Tryz.f105.body.getD .skip)] (Ev.start Tryz.f105 [vu a0]) = midrangebase_IsDigit.e n  (fun p => K (vb p)) a0 := by kernel_rfl
noncomputable def midrangebase_IsDigit.F (n : Nat) (a0 : Int) : Option (Bool) := midrangebase_IsDigit.e n  Option.some a0
noncomputable def midrangebase_IsDigit.dec (x : AV) : Option (Bool) := match x with | .v (.bool p0) => Option.some p0 | _ => none
theorem midrangebase_IsDigit.dec_inv {p : Bool} (y : AV) (h : midrangebase_IsDigit.dec y = some p) : y = vb p := by
  unfold midrangebase_IsDigit.dec at h
  split at h
  · cases h; rfl
  · cases h
theorem midrangebase_IsDigit.hands (n : Nat) (a0 : Int) {p : Bool} (h : midrangebase_IsDigit.F n a0 = some p) : HandsIn Tryz.prog 105 [vu a0] (vb p) := by
  refine hands_of cfg mixed globs rfl (midrangebase_IsDigit.tells n) (fn := Tryz.f105) Tryz.func105 (by kernel_rfl) (by kernel_rfl) (cut := midrangebase_IsDigit.cut) (K := midrangebase_IsDigit.dec) (r := p) (n := n) midrangebase_IsDigit.dec_inv ?_
  rw [funK_getD (by kernel_rfl)]
  have h1 := midrangebase_IsDigit.e_eq n (runK G (midrangebase_IsDigit.C n) midrangebase_IsDigit.cut (fun S => finK G Tryz.f105.resultTypes.toList Tryz.f105.results.toList S midrangebase_IsDigit.dec) n) midrangebase_IsDigit.dec a0
  exact h1.trans h
noncomputable def midrangebase_IsDigit.via {R : Type} (n : Nat) (xs : List AV) : (AV → Option R) → Option R := match xs with | [.v (.int .u8 a0)] => fun K => (midrangebase_IsDigit.F n a0).bind fun p => K (vb p) | _ => fun _ => none
theorem midrangebase_IsDigit.tells1 {R : Type} (n : Nat) (xs : List AV) : Tells1 (R := R) Tryz.prog 105 xs (midrangebase_IsDigit.via n xs) := by
  unfold midrangebase_IsDigit.via
  split
  · exact Tells1.of (fun p hp => (midrangebase_IsDigit.hands n _ hp).hands rfl)
  · exact Tells1.none
end Go.Proofs.YtmpglmcjoelciaaGreatDoor.Ev

/- midrange/midrangebase.IsName, out of its evaluation. Printed by the session's own program. -/
namespace Go.Proofs.YtmpglmcjoelciaaGreatDoor.Ev
open Go Go.Proofs Go.Proofs.Ev
set_option linter.unusedVariables false
set_option maxRecDepth 100000
/-! midrange/midrangebase.IsName: function 59 -/
noncomputable def midrangebase_IsName.r4 {R : Type} (n : Nat) (c4 : ByteArray → Int → Option R) (c5 : ByteArray → Int → Option R) (c8 : ByteArray → Int → Int → Bool → Option R) (k : Bool → Option R) (z1 : ByteArray) (z2 : Int) : Option R :=
  let y2 : Bool := decide (z2 < ((z1.size : Nat) : Int))
  bif y2 then (bif decide ((0 : Int) ≤ z2) && decide (z2 < ((z1.size : Nat) : Int)) then (let y3 : Int := (((z1.data.getD ((z2).toNat) 0).toNat : Nat) : Int)
  (midrangebase_IsUpper.F n y3).bind fun p4 =>
  bif p4 then (c8 z1 z2 y3 true) else (bif y3 == 36 then (c8 z1 z2 y3 true) else (bif y3 == 35 then (c8 z1 z2 y3 true) else (c8 z1 z2 y3 (y3 == 64))))) else none) else (k true)
noncomputable def midrangebase_IsName.r5 {R : Type} (n : Nat) (c4 : ByteArray → Int → Option R) (c5 : ByteArray → Int → Option R) (c8 : ByteArray → Int → Int → Bool → Option R) (k : Bool → Option R) (z1 : ByteArray) (z2 : Int) : Option R :=
  c4 z1 (IntKind.i64.wrap (z2 + 1))
noncomputable def midrangebase_IsName.r8 {R : Type} (n : Nat) (c4 : ByteArray → Int → Option R) (c5 : ByteArray → Int → Option R) (c8 : ByteArray → Int → Int → Bool → Option R) (k : Bool → Option R) (z1 : ByteArray) (z2 : Int) (z3 : Int) (z4 : Bool) : Option R :=
  bif !z4 then (bif z2 == 0 then (k false) else ((midrangebase_IsDigit.F n z3).bind fun p5 =>
  bif !p5 then (bif z3 != 95 then (bif z3 != 46 then (k false) else (c5 z1 z2)) else (c5 z1 z2)) else (c5 z1 z2))) else (c5 z1 z2)
noncomputable def midrangebase_IsName.e {R : Type} (n : Nat) (c4 : ByteArray → Int → Option R) (c5 : ByteArray → Int → Option R) (c8 : ByteArray → Int → Int → Bool → Option R) (k : Bool → Option R) (a0 : ByteArray) : Option R :=
  (midrangebase_Within.F n ((a0.size : Nat) : Int) 1 10).bind fun p1 =>
  bif !p1 then (k false) else (c4 a0 0)
noncomputable def midrangebase_IsName.C {R : Type} (n : Nat) (f : FuncId) (xs : List AV) : (AV → Option R) → Option R :=
  bif Nat.beq f 48 then midrangebase_Within.via n xs else bif Nat.beq f 104 then midrangebase_IsUpper.via n xs else bif Nat.beq f 105 then midrangebase_IsDigit.via n xs else fun _ => none
theorem midrangebase_IsName.tells {R : Type} (n : Nat) : Tells (R := R) Tryz.prog (midrangebase_IsName.C n) := fun _ xs => tells_at (midrangebase_Within.tells1 n xs) (tells_at (midrangebase_IsUpper.tells1 n xs) (tells_at (midrangebase_IsDigit.tells1 n xs) (Tells1.none)))
noncomputable def midrangebase_IsName.cut (r : Nat) : Option Keep := match r with | 4 => Option.some ⟨[0, 3], []⟩ | 5 => Option.some ⟨[0, 3], []⟩ | 8 => Option.some ⟨[0, 3, 4, 5], []⟩ | _ => none
noncomputable def midrangebase_IsName.t4 : List Item := (todoOf 4 1000 [.code (Tryz.f59.body.getD .skip)]).getD []
noncomputable def midrangebase_IsName.s4 (z1 : ByteArray) (z2 : Int) : St := ⟨[vs z1, .undef, .undef, vi z2, .undef, .undef, .undef, .undef, .undef, .undef, .undef, .undef, .undef, .undef, .undef, .undef, .undef, .undef, .undef, .undef, .undef, .undef, .undef, .undef, .undef, .undef, .undef, .undef, .undef, .undef, .undef, .undef, .undef, .undef, .undef, .undef, .undef, .undef, .undef, .undef, .undef, .undef, .undef, .undef, .undef, .undef, .undef, .undef, .undef, .undef, .undef, .undef], Mem.ofList [], 0⟩
noncomputable def midrangebase_IsName.t5 : List Item := (todoOf 5 1000 [.code (Tryz.f59.body.getD .skip)]).getD []
noncomputable def midrangebase_IsName.s5 (z1 : ByteArray) (z2 : Int) : St := ⟨[vs z1, .undef, .undef, vi z2, .undef, .undef, .undef, .undef, .undef, .undef, .undef, .undef, .undef, .undef, .undef, .undef, .undef, .undef, .undef, .undef, .undef, .undef, .undef, .undef, .undef, .undef, .undef, .undef, .undef, .undef, .undef, .undef, .undef, .undef, .undef, .undef, .undef, .undef, .undef, .undef, .undef, .undef, .undef, .undef, .undef, .undef, .undef, .undef, .undef, .undef, .undef, .undef], Mem.ofList [], 0⟩
noncomputable def midrangebase_IsName.t8 : List Item := (todoOf 8 1000 [.code (Tryz.f59.body.getD .skip)]).getD []
noncomputable def midrangebase_IsName.s8 (z1 : ByteArray) (z2 : Int) (z3 : Int) (z4 : Bool) : St := ⟨[vs z1, .undef, .undef, vi z2, vu z3, vb z4, .undef, .undef, .undef, .undef, .undef, .undef, .undef, .undef, .undef, .undef, .undef, .undef, .undef, .undef, .undef, .undef, .undef, .undef, .undef, .undef, .undef, .undef, .undef, .undef, .undef, .undef, .undef, .undef, .undef, .undef, .undef, .undef, .undef, .undef, .undef, .undef, .undef, .undef, .undef, .undef, .undef, .undef, .undef, .undef, .undef, .undef], Mem.ofList [], 0⟩
theorem midrangebase_IsName.e_eq {R : Type} (n : Nat) (rec : List Item → St → Option R) (K : AV → Option R) (a0 : ByteArray) :
    goK G (midrangebase_IsName.C n) midrangebase_IsName.cut (fun S => finK G Tryz.f59.resultTypes.toList Tryz.f59.results.toList S K) rec 1000 [.code (Tryz.f59.body.getD .skip)] (Ev.start Tryz.f59 [vs a0]) = midrangebase_IsName.e n (fun z1 z2 => rec midrangebase_IsName.t4 (midrangebase_IsName.s4 z1 z2)) (fun z1 z2 => rec midrangebase_IsName.t5 (midrangebase_IsName.s5 z1 z2)) (fun z1 z2 z3 z4 => rec midrangebase_IsName.t8 (midrangebase_IsName.s8 z1 z2 z3 z4)) (fun p => K (vb p)) a0 := by kernel_rfl
theorem midrangebase_IsName.r4_eq {R : Type} (n : Nat) (rec : List Item → St → Option R) (K : AV → Option R) (z1 : ByteArray) (z2 : Int) :
    atK G (midrangebase_IsName.C n) midrangebase_IsName.cut (fun S => finK G Tryz.f59.resultTypes.toList Tryz.f59.results.toList S K) rec midrangebase_IsName.t4 (midrangebase_IsName.s4 z1 z2) = midrangebase_IsName.r4 n (fun z1 z2 => rec midrangebase_IsName.t4 (midrangebase_IsName.s4 z1 z2)) (fun z1 z2 => rec midrangebase_IsName.t5 (midrangebase_IsName.s5 z1 z2)) (fun z1 z2 z3 z4 => rec midrangebase_IsName.t8 (midrangebase_IsName.s8 z1 z2 z3 z4)) (fun p => K (vb p)) z1 z2 := by kernel_rfl
theorem midrangebase_IsName.r5_eq {R : Type} (n : Nat) (rec : List Item → St → Option R) (K : AV → Option R) (z1 : ByteArray) (z2 : Int) :
    atK G (midrangebase_IsName.C n) midrangebase_IsName.cut (fun S => finK G Tryz.f59.resultTypes.toList Tryz.f59.results.toList S K) rec midrangebase_IsName.t5 (midrangebase_IsName.s5 z1 z2) = midrangebase_IsName.r5 n (fun z1 z2 => rec midrangebase_IsName.t4 (midrangebase_IsName.s4 z1 z2)) (fun z1 z2 => rec midrangebase_IsName.t5 (midrangebase_IsName.s5 z1 z2)) (fun z1 z2 z3 z4 => rec midrangebase_IsName.t8 (midrangebase_IsName.s8 z1 z2 z3 z4)) (fun p => K (vb p)) z1 z2 := by kernel_rfl
theorem midrangebase_IsName.r8_eq {R : Type} (n : Nat) (rec : List Item → St → Option R) (K : AV → Option R) (z1 : ByteArray) (z2 : Int) (z3 : Int) (z4 : Bool) :
    atK G (midrangebase_IsName.C n) midrangebase_IsName.cut (fun S => finK G Tryz.f59.resultTypes.toList Tryz.f59.results.toList S K) rec midrangebase_IsName.t8 (midrangebase_IsName.s8 z1 z2 z3 z4) = midrangebase_IsName.r8 n (fun z1 z2 => rec midrangebase_IsName.t4 (midrangebase_IsName.s4 z1 z2)) (fun z1 z2 => rec midrangebase_IsName.t5 (midrangebase_IsName.s5 z1 z2)) (fun z1 z2 z3 z4 => rec midrangebase_IsName.t8 (midrangebase_IsName.s8 z1 z2 z3 z4)) (fun p => K (vb p)) z1 z2 z3 z4 := by kernel_rfl
noncomputable def midrangebase_IsName.l (n : Nat) : Nat → (ByteArray → Int → Option (Bool)) × (ByteArray → Int → Option (Bool)) × (ByteArray → Int → Int → Bool → Option (Bool))
  | 0 => ((fun _ _ => none), (fun _ _ => none), (fun _ _ _ _ => none))
  | m + 1 => (midrangebase_IsName.r4 n ((midrangebase_IsName.l n m).1) ((midrangebase_IsName.l n m).2.1) ((midrangebase_IsName.l n m).2.2) Option.some, midrangebase_IsName.r5 n ((midrangebase_IsName.l n m).1) ((midrangebase_IsName.l n m).2.1) ((midrangebase_IsName.l n m).2.2) Option.some, midrangebase_IsName.r8 n ((midrangebase_IsName.l n m).1) ((midrangebase_IsName.l n m).2.1) ((midrangebase_IsName.l n m).2.2) Option.some)
noncomputable def midrangebase_IsName.F (n : Nat) (a0 : ByteArray) : Option (Bool) := midrangebase_IsName.e n ((midrangebase_IsName.l n n).1) ((midrangebase_IsName.l n n).2.1) ((midrangebase_IsName.l n n).2.2) Option.some a0
noncomputable def midrangebase_IsName.dec (x : AV) : Option (Bool) := match x with | .v (.bool p0) => Option.some p0 | _ => none
theorem midrangebase_IsName.dec_inv {p : Bool} (y : AV) (h : midrangebase_IsName.dec y = some p) : y = vb p := by
  unfold midrangebase_IsName.dec at h
  split at h
  · cases h; rfl
  · cases h
theorem midrangebase_IsName.l_eq (n m : Nat) : (∀ (z1 : ByteArray) (z2 : Int), runK G (midrangebase_IsName.C n) midrangebase_IsName.cut (fun S => finK G Tryz.f59.resultTypes.toList Tryz.f59.results.toList S midrangebase_IsName.dec) m midrangebase_IsName.t4 (midrangebase_IsName.s4 z1 z2) = ((midrangebase_IsName.l n m).1) z1 z2) ∧ (∀ (z1 : ByteArray) (z2 : Int), runK G (midrangebase_IsName.C n) midrangebase_IsName.cut (fun S => finK G Tryz.f59.resultTypes.toList Tryz.f59.results.toList S midrangebase_IsName.dec) m midrangebase_IsName.t5 (midrangebase_IsName.s5 z1 z2) = ((midrangebase_IsName.l n m).2.1) z1 z2) ∧ (∀ (z1 : ByteArray) (z2 : Int) (z3 : Int) (z4 : Bool), runK G (midrangebase_IsName.C n) midrangebase_IsName.cut (fun S => finK G Tryz.f59.resultTypes.toList Tryz.f59.results.toList S midrangebase_IsName.dec) m midrangebase_IsName.t8 (midrangebase_IsName.s8 z1 z2 z3 z4) = ((midrangebase_IsName.l n m).2.2) z1 z2 z3 z4) := by
  induction m with
  | zero => exact ⟨fun z1 z2 => rfl, fun z1 z2 => rfl, fun z1 z2 z3 z4 => rfl⟩
  | succ m ih =>
    obtain ⟨h4, h5, h8⟩ := ih
    have e4 : (fun (z1 : ByteArray) (z2 : Int) => runK G (midrangebase_IsName.C n) midrangebase_IsName.cut (fun S => finK G Tryz.f59.resultTypes.toList Tryz.f59.results.toList S midrangebase_IsName.dec) m midrangebase_IsName.t4 (midrangebase_IsName.s4 z1 z2)) = (midrangebase_IsName.l n m).1 := by funext z1 z2; exact h4 z1 z2
    have e5 : (fun (z1 : ByteArray) (z2 : Int) => runK G (midrangebase_IsName.C n) midrangebase_IsName.cut (fun S => finK G Tryz.f59.resultTypes.toList Tryz.f59.results.toList S midrangebase_IsName.dec) m midrangebase_IsName.t5 (midrangebase_IsName.s5 z1 z2)) = (midrangebase_IsName.l n m).2.1 := by funext z1 z2; exact h5 z1 z2
    have e8 : (fun (z1 : ByteArray) (z2 : Int) (z3 : Int) (z4 : Bool) => runK G (midrangebase_IsName.C n) midrangebase_IsName.cut (fun S => finK G Tryz.f59.resultTypes.toList Tryz.f59.results.toList S midrangebase_IsName.dec) m midrangebase_IsName.t8 (midrangebase_IsName.s8 z1 z2 z3 z4)) = (midrangebase_IsName.l n m).2.2 := by funext z1 z2 z3 z4; exact h8 z1 z2 z3 z4
    have q4 : ∀ (z1 : ByteArray) (z2 : Int), runK G (midrangebase_IsName.C n) midrangebase_IsName.cut (fun S => finK G Tryz.f59.resultTypes.toList Tryz.f59.results.toList S midrangebase_IsName.dec) (m + 1) midrangebase_IsName.t4 (midrangebase_IsName.s4 z1 z2) = ((midrangebase_IsName.l n (m + 1)).1) z1 z2 := by
      intro z1 z2
      rw [runK_succ]
      refine (midrangebase_IsName.r4_eq n _ midrangebase_IsName.dec z1 z2).trans ?_
      rw [e4, e5, e8]
      rfl
    have q5 : ∀ (z1 : ByteArray) (z2 : Int), runK G (midrangebase_IsName.C n) midrangebase_IsName.cut (fun S => finK G Tryz.f59.resultTypes.toList Tryz.f59.results.toList S midrangebase_IsName.dec) (m + 1) midrangebase_IsName.t5 (midrangebase_IsName.s5 z1 z2) = ((midrangebase_IsName.l n (m + 1)).2.1) z1 z2 := by
      intro z1 z2
      rw [runK_succ]
      refine (midrangebase_IsName.r5_eq n _ midrangebase_IsName.dec z1 z2).trans ?_
      rw [e4, e5, e8]
      rfl
    have q8 : ∀ (z1 : ByteArray) (z2 : Int) (z3 : Int) (z4 : Bool), runK G (midrangebase_IsName.C n) midrangebase_IsName.cut (fun S => finK G Tryz.f59.resultTypes.toList Tryz.f59.results.toList S midrangebase_IsName.dec) (m + 1) midrangebase_IsName.t8 (midrangebase_IsName.s8 z1 z2 z3 z4) = ((midrangebase_IsName.l n (m + 1)).2.2) z1 z2 z3 z4 := by
      intro z1 z2 z3 z4
      rw [runK_succ]
      refine (midrangebase_IsName.r8_eq n _ midrangebase_IsName.dec z1 z2 z3 z4).trans ?_
      rw [e4, e5, e8]
      rfl
    exact ⟨q4, q5, q8⟩
theorem midrangebase_IsName.hands (n : Nat) (a0 : ByteArray) {p : Bool} (h : midrangebase_IsName.F n a0 = some p) : HandsIn Tryz.prog 59 [vs a0] (vb p) := by
  refine hands_of cfg mixed globs rfl (midrangebase_IsName.tells n) (fn := Tryz.f59) Tryz.func59 (by kernel_rfl) (by kernel_rfl) (cut := midrangebase_IsName.cut) (K := midrangebase_IsName.dec) (r := p) (n := n) midrangebase_IsName.dec_inv ?_
  rw [funK_getD (by kernel_rfl)]
  have h1 := midrangebase_IsName.e_eq n (runK G (midrangebase_IsName.C n) midrangebase_IsName.cut (fun S => finK G Tryz.f59.resultTypes.toList Tryz.f59.results.toList S midrangebase_IsName.dec) n) midrangebase_IsName.dec a0
  have hl := midrangebase_IsName.l_eq n n
  simp only [hl.1, hl.2.1, hl.2.2] at h1
  exact h1.trans h
noncomputable def midrangebase_IsName.via {R : Type} (n : Nat) (xs : List AV) : (AV → Option R) → Option R := match xs with | [.v (.string a0)] => fun K => (midrangebase_IsName.F n a0).bind fun p => K (vb p) | _ => fun _ => none
theorem midrangebase_IsName.tells1 {R : Type} (n : Nat) (xs : List AV) : Tells1 (R := R) Tryz.prog 59 xs (midrangebase_IsName.via n xs) := by
  unfold midrangebase_IsName.via
  split
  · exact Tells1.of (fun p hp => (midrangebase_IsName.hands n _ hp).hands rfl)
  · exact Tells1.none
end Go.Proofs.YtmpglmcjoelciaaGreatDoor.Ev

/- midrange/midrangebase.IndexOfString, out of its evaluation. Printed by the session's own program. -/
namespace Go.Proofs.YtmpglmcjoelciaaGreatDoor.Ev
open Go Go.Proofs Go.Proofs.Ev
set_option linter.unusedVariables false
set_option maxRecDepth 100000
/-! midrange/midrangebase.IndexOfString: function 60 -/
noncomputable def midrangebase_IndexOfString.r2 {R : Type} (n : Nat) (c2 : List AV → ByteArray → Int → Option R) (k : Int → Option R) (z1 : List AV) (z2 : ByteArray) (z3 : Int) : Option R :=
  let y1 : Bool := decide (z3 < ((z1.length : Nat) : Int))
  bif y1 then (bif decide ((0 : Int) ≤ z3) && decide (z3 < ((z1.length : Nat) : Int)) then (withCons ((z1.getD ((z3).toNat) .undef).cells) fun h2 r3 =>
  withStr h2 fun s4 =>
  bif s4.toList == z2.toList then (k z3) else (c2 z1 z2 (IntKind.i64.wrap (z3 + 1)))) else none) else (k (-1))
noncomputable def midrangebase_IndexOfString.e {R : Type} (n : Nat) (c2 : List AV → ByteArray → Int → Option R) (k : Int → Option R) (a0 : List AV) (a1 : ByteArray) : Option R :=
  c2 a0 a1 0
noncomputable def midrangebase_IndexOfString.C {R : Type} (n : Nat) (f : FuncId) (xs : List AV) : (AV → Option R) → Option R :=
  fun _ => none
theorem midrangebase_IndexOfString.tells {R : Type} (n : Nat) : Tells (R := R) Tryz.prog (midrangebase_IndexOfString.C n) := fun _ xs => Tells1.none
noncomputable def midrangebase_IndexOfString.cut (r : Nat) : Option Keep := match r with | 2 => Option.some ⟨[0, 1, 5], []⟩ | _ => none
noncomputable def midrangebase_IndexOfString.t2 : List Item := (todoOf 2 1000 [.code (Tryz.f60.body.getD .skip)]).getD []
noncomputable def midrangebase_IndexOfString.s2 (z1 : List AV) (z2 : ByteArray) (z3 : Int) : St := ⟨[.sl ⟨true, 9⟩ 1 z1, vs z2, .undef, .undef, .undef, vi z3, .undef, .undef, .undef, .undef, .undef, .undef, .undef, .undef, .undef, .undef, .undef, .undef, .undef], Mem.ofList [], 0⟩
theorem midrangebase_IndexOfString.e_eq {R : Type} (n : Nat) (rec : List Item → St → Option R) (K : AV → Option R) (a0 : List AV) (a1 : ByteArray) :
    goK G (midrangebase_IndexOfString.C n) midrangebase_IndexOfString.cut (fun S => finK G Tryz.f60.resultTypes.toList Tryz.f60.results.toList S K) rec 1000 [.code (Tryz.f60.body.getD .skip)] (Ev.start Tryz.f60 [.sl ⟨true, 9⟩ 1 a0, vs a1]) = midrangebase_IndexOfString.e n (fun z1 z2 z3 => rec midrangebase_IndexOfString.t2 (midrangebase_IndexOfString.s2 z1 z2 z3)) (fun p => K (vi p)) a0 a1 := by kernel_rfl
theorem midrangebase_IndexOfString.r2_eq {R : Type} (n : Nat) (rec : List Item → St → Option R) (K : AV → Option R) (z1 : List AV) (z2 : ByteArray) (z3 : Int) :
    atK G (midrangebase_IndexOfString.C n) midrangebase_IndexOfString.cut (fun S => finK G Tryz.f60.resultTypes.toList Tryz.f60.results.toList S K) rec midrangebase_IndexOfString.t2 (midrangebase_IndexOfString.s2 z1 z2 z3) = midrangebase_IndexOfString.r2 n (fun z1 z2 z3 => rec midrangebase_IndexOfString.t2 (midrangebase_IndexOfString.s2 z1 z2 z3)) (fun p => K (vi p)) z1 z2 z3 := by kernel_rfl
noncomputable def midrangebase_IndexOfString.l (n : Nat) : Nat → (List AV → ByteArray → Int → Option (Int))
  | 0 => (fun _ _ _ => none)
  | m + 1 => midrangebase_IndexOfString.r2 n (midrangebase_IndexOfString.l n m) Option.some
noncomputable def midrangebase_IndexOfString.F (n : Nat) (a0 : List AV) (a1 : ByteArray) : Option (Int) := midrangebase_IndexOfString.e n (midrangebase_IndexOfString.l n n) Option.some a0 a1
noncomputable def midrangebase_IndexOfString.dec (x : AV) : Option (Int) := match x with | .v (.int .i64 p0) => Option.some p0 | _ => none
theorem midrangebase_IndexOfString.dec_inv {p : Int} (y : AV) (h : midrangebase_IndexOfString.dec y = some p) : y = vi p := by
  unfold midrangebase_IndexOfString.dec at h
  split at h
  · cases h; rfl
  · cases h
theorem midrangebase_IndexOfString.l_eq (n m : Nat) : (∀ (z1 : List AV) (z2 : ByteArray) (z3 : Int), runK G (midrangebase_IndexOfString.C n) midrangebase_IndexOfString.cut (fun S => finK G Tryz.f60.resultTypes.toList Tryz.f60.results.toList S midrangebase_IndexOfString.dec) m midrangebase_IndexOfString.t2 (midrangebase_IndexOfString.s2 z1 z2 z3) = (midrangebase_IndexOfString.l n m) z1 z2 z3) := by
  induction m with
  | zero => exact fun z1 z2 z3 => rfl
  | succ m ih =>
    have h2 := ih
    have e2 : (fun (z1 : List AV) (z2 : ByteArray) (z3 : Int) => runK G (midrangebase_IndexOfString.C n) midrangebase_IndexOfString.cut (fun S => finK G Tryz.f60.resultTypes.toList Tryz.f60.results.toList S midrangebase_IndexOfString.dec) m midrangebase_IndexOfString.t2 (midrangebase_IndexOfString.s2 z1 z2 z3)) = (midrangebase_IndexOfString.l n m) := by funext z1 z2 z3; exact h2 z1 z2 z3
    have q2 : ∀ (z1 : List AV) (z2 : ByteArray) (z3 : Int), runK G (midrangebase_IndexOfString.C n) midrangebase_IndexOfString.cut (fun S => finK G Tryz.f60.resultTypes.toList Tryz.f60.results.toList S midrangebase_IndexOfString.dec) (m + 1) midrangebase_IndexOfString.t2 (midrangebase_IndexOfString.s2 z1 z2 z3) = (midrangebase_IndexOfString.l n (m + 1)) z1 z2 z3 := by
      intro z1 z2 z3
      rw [runK_succ]
      refine (midrangebase_IndexOfString.r2_eq n _ midrangebase_IndexOfString.dec z1 z2 z3).trans ?_
      rw [e2]
      rfl
    exact q2
theorem midrangebase_IndexOfString.hands (n : Nat) (a0 : List AV) (a1 : ByteArray) {p : Int} (h : midrangebase_IndexOfString.F n a0 a1 = some p) : HandsIn Tryz.prog 60 [.sl ⟨true, 9⟩ 1 a0, vs a1] (vi p) := by
  refine hands_of cfg mixed globs rfl (midrangebase_IndexOfString.tells n) (fn := Tryz.f60) Tryz.func60 (by kernel_rfl) (by kernel_rfl) (cut := midrangebase_IndexOfString.cut) (K := midrangebase_IndexOfString.dec) (r := p) (n := n) midrangebase_IndexOfString.dec_inv ?_
  rw [funK_getD (by kernel_rfl)]
  have h1 := midrangebase_IndexOfString.e_eq n (runK G (midrangebase_IndexOfString.C n) midrangebase_IndexOfString.cut (fun S => finK G Tryz.f60.resultTypes.toList Tryz.f60.results.toList S midrangebase_IndexOfString.dec) n) midrangebase_IndexOfString.dec a0 a1
  have hl := midrangebase_IndexOfString.l_eq n n
  simp only [hl] at h1
  exact h1.trans h
noncomputable def midrangebase_IndexOfString.via {R : Type} (n : Nat) (xs : List AV) : (AV → Option R) → Option R := match xs with | [.sl ⟨true, 9⟩ 1 a0, .v (.string a1)] => fun K => (midrangebase_IndexOfString.F n a0 a1).bind fun p => K (vi p) | _ => fun _ => none
theorem midrangebase_IndexOfString.tells1 {R : Type} (n : Nat) (xs : List AV) : Tells1 (R := R) Tryz.prog 60 xs (midrangebase_IndexOfString.via n xs) := by
  unfold midrangebase_IndexOfString.via
  split
  · exact Tells1.of (fun p hp => (midrangebase_IndexOfString.hands n _ _ hp).hands rfl)
  · exact Tells1.none
end Go.Proofs.YtmpglmcjoelciaaGreatDoor.Ev

/- midrange/midrangeref25.FieldOf, out of its evaluation. Printed by the session's own program. -/
namespace Go.Proofs.YtmpglmcjoelciaaGreatDoor.Ev
open Go Go.Proofs Go.Proofs.Ev
set_option linter.unusedVariables false
set_option maxRecDepth 100000
/-! midrange/midrangeref25.FieldOf: function 61 -/
noncomputable def midrangeref25_FieldOf.r2 {R : Type} (n : Nat) (c2 : ByteArray → Int → ByteArray → ByteArray → List AV → List AV → List AV → List AV → Bool → List AV → Option R) (k : Int → Option R) (z1 : ByteArray) (z2 : Int) (z3 : ByteArray) (z4 : ByteArray) (z5 : List AV) (z6 : List AV) (z7 : List AV) (z8 : List AV) (z9 : Bool) (z10 : List AV) : Option R :=
  let y1 : Bool := decide (z2 < ((z6.length : Nat) : Int))
  bif y1 then (bif decide ((0 : Int) ≤ z2) && decide (z2 < ((z6.length : Nat) : Int)) then (withCons ((z6.getD ((z2).toNat) .undef).cells) fun h2 r3 =>
  withStr h2 fun s4 =>
  bif s4.toList == z1.toList then (k z2) else (c2 z1 (IntKind.i64.wrap (z2 + 1)) z3 z4 z5 z6 z7 z8 z9 z10)) else none) else (k (-1))
noncomputable def midrangeref25_FieldOf.e {R : Type} (n : Nat) (c2 : ByteArray → Int → ByteArray → ByteArray → List AV → List AV → List AV → List AV → Bool → List AV → Option R) (k : Int → Option R) (a0 : ByteArray) (a1 : ByteArray) (a2 : List AV) (a3 : List AV) (a4 : List AV) (a5 : List AV) (a6 : Bool) (a7 : List AV) (a8 : ByteArray) : Option R :=
  c2 a8 0 a0 a1 a2 a3 a4 a5 a6 a7
noncomputable def midrangeref25_FieldOf.C {R : Type} (n : Nat) (f : FuncId) (xs : List AV) : (AV → Option R) → Option R :=
  fun _ => none
theorem midrangeref25_FieldOf.tells {R : Type} (n : Nat) : Tells (R := R) Tryz.prog (midrangeref25_FieldOf.C n) := fun _ xs => Tells1.none
noncomputable def midrangeref25_FieldOf.cut (r : Nat) : Option Keep := match r with | 2 => Option.some ⟨[1, 2, 5], []⟩ | _ => none
noncomputable def midrangeref25_FieldOf.t2 : List Item := (todoOf 2 1000 [.code (Tryz.f61.body.getD .skip)]).getD []
noncomputable def midrangeref25_FieldOf.s2 (z1 : ByteArray) (z2 : Int) (z3 : ByteArray) (z4 : ByteArray) (z5 : List AV) (z6 : List AV) (z7 : List AV) (z8 : List AV) (z9 : Bool) (z10 : List AV) : St := ⟨[.undef, vs z1, .ptr 0 0, .undef, .undef, vi z2, .undef, .undef, .undef, .undef, .undef, .undef, .undef, .undef, .undef, .undef, .undef, .undef, .undef, .undef, .undef, .undef], Mem.ofList [.box 36 [vs z3, vs z4, .sl ⟨true, 9⟩ 1 z5, .sl ⟨true, 95⟩ 3 z6, .sl ⟨true, 97⟩ 4 z7, .sl ⟨true, 111⟩ 2 z8, vb z9, .sl ⟨false, 100⟩ 2 z10]], 1⟩
theorem midrangeref25_FieldOf.e_eq {R : Type} (n : Nat) (rec : List Item → St → Option R) (K : AV → Option R) (a0 : ByteArray) (a1 : ByteArray) (a2 : List AV) (a3 : List AV) (a4 : List AV) (a5 : List AV) (a6 : Bool) (a7 : List AV) (a8 : ByteArray) :
    goK G (midrangeref25_FieldOf.C n) midrangeref25_FieldOf.cut (fun S => finK G Tryz.f61.resultTypes.toList Tryz.f61.results.toList S K) rec 1000 [.code (Tryz.f61.body.getD .skip)] (Ev.start Tryz.f61 [AV.agg [vs a0, vs a1, .sl ⟨true, 9⟩ 1 a2, .sl ⟨true, 95⟩ 3 a3, .sl ⟨true, 97⟩ 4 a4, .sl ⟨true, 111⟩ 2 a5, vb a6, .sl ⟨false, 100⟩ 2 a7], vs a8]) = midrangeref25_FieldOf.e n (fun z1 z2 z3 z4 z5 z6 z7 z8 z9 z10 => rec midrangeref25_FieldOf.t2 (midrangeref25_FieldOf.s2 z1 z2 z3 z4 z5 z6 z7 z8 z9 z10)) (fun p => K (vi p)) a0 a1 a2 a3 a4 a5 a6 a7 a8 := by kernel_rfl
theorem midrangeref25_FieldOf.r2_eq {R : Type} (n : Nat) (rec : List Item → St → Option R) (K : AV → Option R) (z1 : ByteArray) (z2 : Int) (z3 : ByteArray) (z4 : ByteArray) (z5 : List AV) (z6 : List AV) (z7 : List AV) (z8 : List AV) (z9 : Bool) (z10 : List AV) :
    atK G (midrangeref25_FieldOf.C n) midrangeref25_FieldOf.cut (fun S => finK G Tryz.f61.resultTypes.toList Tryz.f61.results.toList S K) rec midrangeref25_FieldOf.t2 (midrangeref25_FieldOf.s2 z1 z2 z3 z4 z5 z6 z7 z8 z9 z10) = midrangeref25_FieldOf.r2 n (fun z1 z2 z3 z4 z5 z6 z7 z8 z9 z10 => rec midrangeref25_FieldOf.t2 (midrangeref25_FieldOf.s2 z1 z2 z3 z4 z5 z6 z7 z8 z9 z10)) (fun p => K (vi p)) z1 z2 z3 z4 z5 z6 z7 z8 z9 z10 := by kernel_rfl
noncomputable def midrangeref25_FieldOf.l (n : Nat) : Nat → (ByteArray → Int → ByteArray → ByteArray → List AV → List AV → List AV → List AV → Bool → List AV → Option (Int))
  | 0 => (fun _ _ _ _ _ _ _ _ _ _ => none)
  | m + 1 => midrangeref25_FieldOf.r2 n (midrangeref25_FieldOf.l n m) Option.some
noncomputable def midrangeref25_FieldOf.F (n : Nat) (a0 : ByteArray) (a1 : ByteArray) (a2 : List AV) (a3 : List AV) (a4 : List AV) (a5 : List AV) (a6 : Bool) (a7 : List AV) (a8 : ByteArray) : Option (Int) := midrangeref25_FieldOf.e n (midrangeref25_FieldOf.l n n) Option.some a0 a1 a2 a3 a4 a5 a6 a7 a8
noncomputable def midrangeref25_FieldOf.dec (x : AV) : Option (Int) := match x with | .v (.int .i64 p0) => Option.some p0 | _ => none
theorem midrangeref25_FieldOf.dec_inv {p : Int} (y : AV) (h : midrangeref25_FieldOf.dec y = some p) : y = vi p := by
  unfold midrangeref25_FieldOf.dec at h
  split at h
  · cases h; rfl
  · cases h
theorem midrangeref25_FieldOf.l_eq (n m : Nat) : (∀ (z1 : ByteArray) (z2 : Int) (z3 : ByteArray) (z4 : ByteArray) (z5 : List AV) (z6 : List AV) (z7 : List AV) (z8 : List AV) (z9 : Bool) (z10 : List AV), runK G (midrangeref25_FieldOf.C n) midrangeref25_FieldOf.cut (fun S => finK G Tryz.f61.resultTypes.toList Tryz.f61.results.toList S midrangeref25_FieldOf.dec) m midrangeref25_FieldOf.t2 (midrangeref25_FieldOf.s2 z1 z2 z3 z4 z5 z6 z7 z8 z9 z10) = (midrangeref25_FieldOf.l n m) z1 z2 z3 z4 z5 z6 z7 z8 z9 z10) := by
  induction m with
  | zero => exact fun z1 z2 z3 z4 z5 z6 z7 z8 z9 z10 => rfl
  | succ m ih =>
    have h2 := ih
    have e2 : (fun (z1 : ByteArray) (z2 : Int) (z3 : ByteArray) (z4 : ByteArray) (z5 : List AV) (z6 : List AV) (z7 : List AV) (z8 : List AV) (z9 : Bool) (z10 : List AV) => runK G (midrangeref25_FieldOf.C n) midrangeref25_FieldOf.cut (fun S => finK G Tryz.f61.resultTypes.toList Tryz.f61.results.toList S midrangeref25_FieldOf.dec) m midrangeref25_FieldOf.t2 (midrangeref25_FieldOf.s2 z1 z2 z3 z4 z5 z6 z7 z8 z9 z10)) = (midrangeref25_FieldOf.l n m) := by funext z1 z2 z3 z4 z5 z6 z7 z8 z9 z10; exact h2 z1 z2 z3 z4 z5 z6 z7 z8 z9 z10
    have q2 : ∀ (z1 : ByteArray) (z2 : Int) (z3 : ByteArray) (z4 : ByteArray) (z5 : List AV) (z6 : List AV) (z7 : List AV) (z8 : List AV) (z9 : Bool) (z10 : List AV), runK G (midrangeref25_FieldOf.C n) midrangeref25_FieldOf.cut (fun S => finK G Tryz.f61.resultTypes.toList Tryz.f61.results.toList S midrangeref25_FieldOf.dec) (m + 1) midrangeref25_FieldOf.t2 (midrangeref25_FieldOf.s2 z1 z2 z3 z4 z5 z6 z7 z8 z9 z10) = (midrangeref25_FieldOf.l n (m + 1)) z1 z2 z3 z4 z5 z6 z7 z8 z9 z10 := by
      intro z1 z2 z3 z4 z5 z6 z7 z8 z9 z10
      rw [runK_succ]
      refine (midrangeref25_FieldOf.r2_eq n _ midrangeref25_FieldOf.dec z1 z2 z3 z4 z5 z6 z7 z8 z9 z10).trans ?_
      rw [e2]
      rfl
    exact q2
theorem midrangeref25_FieldOf.hands (n : Nat) (a0 : ByteArray) (a1 : ByteArray) (a2 : List AV) (a3 : List AV) (a4 : List AV) (a5 : List AV) (a6 : Bool) (a7 : List AV) (a8 : ByteArray) {p : Int} (h : midrangeref25_FieldOf.F n a0 a1 a2 a3 a4 a5 a6 a7 a8 = some p) : HandsIn Tryz.prog 61 [AV.agg [vs a0, vs a1, .sl ⟨true, 9⟩ 1 a2, .sl ⟨true, 95⟩ 3 a3, .sl ⟨true, 97⟩ 4 a4, .sl ⟨true, 111⟩ 2 a5, vb a6, .sl ⟨false, 100⟩ 2 a7], vs a8] (vi p) := by
  refine hands_of cfg mixed globs rfl (midrangeref25_FieldOf.tells n) (fn := Tryz.f61) Tryz.func61 (by kernel_rfl) (by kernel_rfl) (cut := midrangeref25_FieldOf.cut) (K := midrangeref25_FieldOf.dec) (r := p) (n := n) midrangeref25_FieldOf.dec_inv ?_
  rw [funK_getD (by kernel_rfl)]
  have h1 := midrangeref25_FieldOf.e_eq n (runK G (midrangeref25_FieldOf.C n) midrangeref25_FieldOf.cut (fun S => finK G Tryz.f61.resultTypes.toList Tryz.f61.results.toList S midrangeref25_FieldOf.dec) n) midrangeref25_FieldOf.dec a0 a1 a2 a3 a4 a5 a6 a7 a8
  have hl := midrangeref25_FieldOf.l_eq n n
  simp only [hl] at h1
  exact h1.trans h
noncomputable def midrangeref25_FieldOf.via {R : Type} (n : Nat) (xs : List AV) : (AV → Option R) → Option R := match xs with | [.agg [.v (.string a0), .v (.string a1), .sl ⟨true, 9⟩ 1 a2, .sl ⟨true, 95⟩ 3 a3, .sl ⟨true, 97⟩ 4 a4, .sl ⟨true, 111⟩ 2 a5, .v (.bool a6), .sl ⟨false, 100⟩ 2 a7], .v (.string a8)] => fun K => (midrangeref25_FieldOf.F n a0 a1 a2 a3 a4 a5 a6 a7 a8).bind fun p => K (vi p) | _ => fun _ => none
theorem midrangeref25_FieldOf.tells1 {R : Type} (n : Nat) (xs : List AV) : Tells1 (R := R) Tryz.prog 61 xs (midrangeref25_FieldOf.via n xs) := by
  unfold midrangeref25_FieldOf.via
  split
  · exact Tells1.of (fun p hp => (midrangeref25_FieldOf.hands n _ _ _ _ _ _ _ _ _ hp).hands rfl)
  · exact Tells1.none
end Go.Proofs.YtmpglmcjoelciaaGreatDoor.Ev

/- midrange/midrangeref25.joinsErr, out of its evaluation. Printed by the session's own program. -/
namespace Go.Proofs.YtmpglmcjoelciaaGreatDoor.Ev
open Go Go.Proofs Go.Proofs.Ev
set_option linter.unusedVariables false
set_option maxRecDepth 100000
/-! midrange/midrangeref25.joinsErr: function 62 -/
noncomputable def midrangeref25_joinsErr.r5 {R : Type} (n : Nat) (c5 : Int → ByteArray → ByteArray → List AV → List AV → List AV → List AV → Bool → List AV → List AV → Option R) (c18 : Int → List AV → Option R) (k : Int × Int → Option R) (z1 : Int) (z2 : ByteArray) (z3 : ByteArray) (z4 : List AV) (z5 : List AV) (z6 : List AV) (z7 : List AV) (z8 : Bool) (z9 : List AV) (z10 : List AV) : Option R :=
  let y3 : Bool := decide (z1 < ((z6.length : Nat) : Int))
  bif y3 then (bif decide ((0 : Int) ≤ z1) && decide (z1 < ((z6.length : Nat) : Int)) then (withCons ((z6.getD ((z1).toNat) .undef).cells) fun h4 r5 =>
  withInt .i64 h4 fun x6 =>
  withCons r5 fun h7 r8 =>
  withStr h7 fun s9 =>
  withCons r8 fun h10 r11 =>
  withInt .i64 h10 fun x12 =>
  withCons r11 fun h13 r14 =>
  withStr h13 fun s15 =>
  let y16 : Int := IntKind.i64.wrap (((z4.length : Nat) : Int) - 1)
  (midrangebase_Within.F n x12 1 y16).bind fun p17 =>
  bif !p17 then (k (z1, 3)) else ((midrangebase_Within.F n x6 0 (IntKind.i64.wrap (x12 - 1))).bind fun p18 =>
  bif !p18 then (k (z1, 3)) else ((midrangebase_IsName.F n s9).bind fun p19 =>
  bif !p19 then (k (z1, 7)) else ((midrangebase_IsName.F n s15).bind fun p20 =>
  bif !p20 then (k (z1, 7)) else (bif decide (z1 > 0) then (bif decide ((0 : Int) ≤ IntKind.i64.wrap (z1 - 1)) && decide (IntKind.i64.wrap (z1 - 1) < ((z6.length : Nat) : Int)) then (withCons (((z6.getD ((IntKind.i64.wrap (z1 - 1)).toNat) .undef).cells).drop 2) fun h21 r22 =>
  withInt .i64 h21 fun x23 =>
  bif decide (x12 < x23) then (k (z1, 14)) else (bif decide ((0 : Int) ≤ x12) && decide (x12 < ((z10.length : Nat) : Int)) then (let y24 : List AV := z10.set ((x12).toNat) (vb true)
  c5 (IntKind.i64.wrap (z1 + 1)) z2 z3 z4 z5 z6 z7 z8 z9 y24) else none)) else none) else (bif decide ((0 : Int) ≤ x12) && decide (x12 < ((z10.length : Nat) : Int)) then (let y25 : List AV := z10.set ((x12).toNat) (vb true)
  c5 (IntKind.i64.wrap (z1 + 1)) z2 z3 z4 z5 z6 z7 z8 z9 y25) else none)))))) else none) else (c18 1 z10)
noncomputable def midrangeref25_joinsErr.r18 {R : Type} (n : Nat) (c5 : Int → ByteArray → ByteArray → List AV → List AV → List AV → List AV → Bool → List AV → List AV → Option R) (c18 : Int → List AV → Option R) (k : Int × Int → Option R) (z1 : Int) (z2 : List AV) : Option R :=
  let y26 : Bool := decide (z1 < ((z2.length : Nat) : Int))
  bif y26 then (bif decide ((0 : Int) ≤ z1) && decide (z1 < ((z2.length : Nat) : Int)) then (withCons ((z2.getD ((z1).toNat) .undef).cells) fun h27 r28 =>
  withBool h27 fun b29 =>
  bif !b29 then (k (0, 11)) else (c18 (IntKind.i64.wrap (z1 + 1)) z2)) else none) else (k (0, 0))
noncomputable def midrangeref25_joinsErr.e {R : Type} (n : Nat) (c5 : Int → ByteArray → ByteArray → List AV → List AV → List AV → List AV → Bool → List AV → List AV → Option R) (c18 : Int → List AV → Option R) (k : Int × Int → Option R) (a0 : ByteArray) (a1 : ByteArray) (a2 : List AV) (a3 : List AV) (a4 : List AV) (a5 : List AV) (a6 : Bool) (a7 : List AV) : Option R :=
  let y1 : Bool := decide (((a4.length : Nat) : Int) > 20)
  bif y1 then (k (0, 2)) else (bif (decide ((0 : Int) ≤ ((a2.length : Nat) : Int)) && decide ((((a2.length : Nat) : Int) : Int) ≤ most)) && decide ((((a2.length : Nat) : Int) : Int) = ((a2.length : Nat) : Int)) && true && true then (let y2 : List AV := List.replicate (((a2.length : Nat) : Int)).toNat (vb false)
  c5 0 a0 a1 a2 a3 a4 a5 a6 a7 y2) else none)
noncomputable def midrangeref25_joinsErr.C {R : Type} (n : Nat) (f : FuncId) (xs : List AV) : (AV → Option R) → Option R :=
  bif Nat.beq f 48 then midrangebase_Within.via n xs else bif Nat.beq f 59 then midrangebase_IsName.via n xs else fun _ => none
theorem midrangeref25_joinsErr.tells {R : Type} (n : Nat) : Tells (R := R) Tryz.prog (midrangeref25_joinsErr.C n) := fun _ xs => tells_at (midrangebase_Within.tells1 n xs) (tells_at (midrangebase_IsName.tells1 n xs) (Tells1.none))
noncomputable def midrangeref25_joinsErr.cut (r : Nat) : Option Keep := match r with | 5 => Option.some ⟨[1, 4, 5], []⟩ | 18 => Option.some ⟨[4, 7], []⟩ | _ => none
noncomputable def midrangeref25_joinsErr.t5 : List Item := (todoOf 5 1000 [.code (Tryz.f62.body.getD .skip)]).getD []
noncomputable def midrangeref25_joinsErr.s5 (z1 : Int) (z2 : ByteArray) (z3 : ByteArray) (z4 : List AV) (z5 : List AV) (z6 : List AV) (z7 : List AV) (z8 : Bool) (z9 : List AV) (z10 : List AV) : St := ⟨[.undef, .ptr 0 0, .undef, .undef, .own 1 0 none, vi z1, .undef, .undef, .undef, .undef, .undef, .undef, .undef, .undef, .undef, .undef, .undef, .undef, .undef, .undef, .undef, .undef, .undef, .undef, .undef, .undef, .undef, .undef, .undef, .undef, .undef, .undef, .undef, .undef, .undef, .undef, .undef, .undef, .undef, .undef, .undef, .undef, .undef, .undef, .undef, .undef, .undef, .undef, .undef, .undef, .undef, .undef, .undef, .undef, .undef, .undef, .undef, .undef, .undef, .undef, .undef, .undef, .undef, .undef, .undef, .undef, .undef, .undef, .undef, .undef, .undef, .undef, .undef, .undef, .undef, .undef, .undef, .undef, .undef, .undef, .undef, .undef, .undef, .undef, .undef, .undef], Mem.ofList [.box 36 [vs z2, vs z3, .sl ⟨true, 9⟩ 1 z4, .sl ⟨true, 95⟩ 3 z5, .sl ⟨true, 97⟩ 4 z6, .sl ⟨true, 111⟩ 2 z7, vb z8, .sl ⟨false, 100⟩ 2 z9], .row ⟨true, 4⟩ 1 z10], 2⟩
noncomputable def midrangeref25_joinsErr.t18 : List Item := (todoOf 18 1000 [.code (Tryz.f62.body.getD .skip)]).getD []
noncomputable def midrangeref25_joinsErr.s18 (z1 : Int) (z2 : List AV) : St := ⟨[.undef, .undef, .undef, .undef, .own 0 0 none, .undef, .undef, vi z1, .undef, .undef, .undef, .undef, .undef, .undef, .undef, .undef, .undef, .undef, .undef, .undef, .undef, .undef, .undef, .undef, .undef, .undef, .undef, .undef, .undef, .undef, .undef, .undef, .undef, .undef, .undef, .undef, .undef, .undef, .undef, .undef, .undef, .undef, .undef, .undef, .undef, .undef, .undef, .undef, .undef, .undef, .undef, .undef, .undef, .undef, .undef, .undef, .undef, .undef, .undef, .undef, .undef, .undef, .undef, .undef, .undef, .undef, .undef, .undef, .undef, .undef, .undef, .undef, .undef, .undef, .undef, .undef, .undef, .undef, .undef, .undef, .undef, .undef, .undef, .undef, .undef, .undef], Mem.ofList [.row ⟨true, 4⟩ 1 z2], 1⟩
theorem midrangeref25_joinsErr.e_eq {R : Type} (n : Nat) (rec : List Item → St → Option R) (K : AV → Option R) (a0 : ByteArray) (a1 : ByteArray) (a2 : List AV) (a3 : List AV) (a4 : List AV) (a5 : List AV) (a6 : Bool) (a7 : List AV) :
    goK G (midrangeref25_joinsErr.C n) midrangeref25_joinsErr.cut (fun S => finK G Tryz.f62.resultTypes.toList Tryz.f62.results.toList S K) rec 1000 [.code (Tryz.f62.body.getD .skip)] (Ev.start Tryz.f62 [AV.agg [vs a0, vs a1, .sl ⟨true, 9⟩ 1 a2, .sl ⟨true, 95⟩ 3 a3, .sl ⟨true, 97⟩ 4 a4, .sl ⟨true, 111⟩ 2 a5, vb a6, .sl ⟨false, 100⟩ 2 a7]]) = midrangeref25_joinsErr.e n (fun z1 z2 z3 z4 z5 z6 z7 z8 z9 z10 => rec midrangeref25_joinsErr.t5 (midrangeref25_joinsErr.s5 z1 z2 z3 z4 z5 z6 z7 z8 z9 z10)) (fun z1 z2 => rec midrangeref25_joinsErr.t18 (midrangeref25_joinsErr.s18 z1 z2)) (fun p => K (.tup [vi p.1, vi p.2])) a0 a1 a2 a3 a4 a5 a6 a7 := by kernel_rfl
theorem midrangeref25_joinsErr.r5_eq {R : Type} (n : Nat) (rec : List Item → St → Option R) (K : AV → Option R) (z1 : Int) (z2 : ByteArray) (z3 : ByteArray) (z4 : List AV) (z5 : List AV) (z6 : List AV) (z7 : List AV) (z8 : Bool) (z9 : List AV) (z10 : List AV) :
    atK G (midrangeref25_joinsErr.C n) midrangeref25_joinsErr.cut (fun S => finK G Tryz.f62.resultTypes.toList Tryz.f62.results.toList S K) rec midrangeref25_joinsErr.t5 (midrangeref25_joinsErr.s5 z1 z2 z3 z4 z5 z6 z7 z8 z9 z10) = midrangeref25_joinsErr.r5 n (fun z1 z2 z3 z4 z5 z6 z7 z8 z9 z10 => rec midrangeref25_joinsErr.t5 (midrangeref25_joinsErr.s5 z1 z2 z3 z4 z5 z6 z7 z8 z9 z10)) (fun z1 z2 => rec midrangeref25_joinsErr.t18 (midrangeref25_joinsErr.s18 z1 z2)) (fun p => K (.tup [vi p.1, vi p.2])) z1 z2 z3 z4 z5 z6 z7 z8 z9 z10 := by kernel_rfl
theorem midrangeref25_joinsErr.r18_eq {R : Type} (n : Nat) (rec : List Item → St → Option R) (K : AV → Option R) (z1 : Int) (z2 : List AV) :
    atK G (midrangeref25_joinsErr.C n) midrangeref25_joinsErr.cut (fun S => finK G Tryz.f62.resultTypes.toList Tryz.f62.results.toList S K) rec midrangeref25_joinsErr.t18 (midrangeref25_joinsErr.s18 z1 z2) = midrangeref25_joinsErr.r18 n (fun z1 z2 z3 z4 z5 z6 z7 z8 z9 z10 => rec midrangeref25_joinsErr.t5 (midrangeref25_joinsErr.s5 z1 z2 z3 z4 z5 z6 z7 z8 z9 z10)) (fun z1 z2 => rec midrangeref25_joinsErr.t18 (midrangeref25_joinsErr.s18 z1 z2)) (fun p => K (.tup [vi p.1, vi p.2])) z1 z2 := by kernel_rfl
noncomputable def midrangeref25_joinsErr.l (n : Nat) : Nat → (Int → ByteArray → ByteArray → List AV → List AV → List AV → List AV → Bool → List AV → List AV → Option (Int × Int)) × (Int → List AV → Option (Int × Int))
  | 0 => ((fun _ _ _ _ _ _ _ _ _ _ => none), (fun _ _ => none))
  | m + 1 => (midrangeref25_joinsErr.r5 n ((midrangeref25_joinsErr.l n m).1) ((midrangeref25_joinsErr.l n m).2) Option.some, midrangeref25_joinsErr.r18 n ((midrangeref25_joinsErr.l n m).1) ((midrangeref25_joinsErr.l n m).2) Option.some)
noncomputable def midrangeref25_joinsErr.F (n : Nat) (a0 : ByteArray) (a1 : ByteArray) (a2 : List AV) (a3 : List AV) (a4 : List AV) (a5 : List AV) (a6 : Bool) (a7 : List AV) : Option (Int × Int) := midrangeref25_joinsErr.e n ((midrangeref25_joinsErr.l n n).1) ((midrangeref25_joinsErr.l n n).2) Option.some a0 a1 a2 a3 a4 a5 a6 a7
noncomputable def midrangeref25_joinsErr.dec (x : AV) : Option (Int × Int) := match x with | .tup [.v (.int .i64 p0), .v (.int .i64 p1)] => Option.some (p0, p1) | _ => none
theorem midrangeref25_joinsErr.dec_inv {p : Int × Int} (y : AV) (h : midrangeref25_joinsErr.dec y = some p) : y = .tup [vi p.1, vi p.2] := by
  unfold midrangeref25_joinsErr.dec at h
  split at h
  · cases h; rfl
  · cases h
theorem midrangeref25_joinsErr.l_eq (n m : Nat) : (∀ (z1 : Int) (z2 : ByteArray) (z3 : ByteArray) (z4 : List AV) (z5 : List AV) (z6 : List AV) (z7 : List AV) (z8 : Bool) (z9 : List AV) (z10 : List AV), runK G (midrangeref25_joinsErr.C n) midrangeref25_joinsErr.cut (fun S => finK G Tryz.f62.resultTypes.toList Tryz.f62.results.toList S midrangeref25_joinsErr.dec) m midrangeref25_joinsErr.t5 (midrangeref25_joinsErr.s5 z1 z2 z3 z4 z5 z6 z7 z8 z9 z10) = ((midrangeref25_joinsErr.l n m).1) z1 z2 z3 z4 z5 z6 z7 z8 z9 z10) ∧ (∀ (z1 : Int) (z2 : List AV), runK G (midrangeref25_joinsErr.C n) midrangeref25_joinsErr.cut (fun S => finK G Tryz.f62.resultTypes.toList Tryz.f62.results.toList S midrangeref25_joinsErr.dec) m midrangeref25_joinsErr.t18 (midrangeref25_joinsErr.s18 z1 z2) = ((midrangeref25_joinsErr.l n m).2) z1 z2) := by
  induction m with
  | zero => exact ⟨fun z1 z2 z3 z4 z5 z6 z7 z8 z9 z10 => rfl, fun z1 z2 => rfl⟩
  | succ m ih =>
    obtain ⟨h5, h18⟩ := ih
    have e5 : (fun (z1 : Int) (z2 : ByteArray) (z3 : ByteArray) (z4 : List AV) (z5 : List AV) (z6 : List AV) (z7 : List AV) (z8 : Bool) (z9 : List AV) (z10 : List AV) => runK G (midrangeref25_joinsErr.C n) midrangeref25_joinsErr.cut (fun S => finK G Tryz.f62.resultTypes.toList Tryz.f62.results.toList S midrangeref25_joinsErr.dec) m midrangeref25_joinsErr.t5 (midrangeref25_joinsErr.s5 z1 z2 z3 z4 z5 z6 z7 z8 z9 z10)) = (midrangeref25_joinsErr.l n m).1 := by funext z1 z2 z3 z4 z5 z6 z7 z8 z9 z10; exact h5 z1 z2 z3 z4 z5 z6 z7 z8 z9 z10
    have e18 : (fun (z1 : Int) (z2 : List AV) => runK G (midrangeref25_joinsErr.C n) midrangeref25_joinsErr.cut (fun S => finK G Tryz.f62.resultTypes.toList Tryz.f62.results.toList S midrangeref25_joinsErr.dec) m midrangeref25_joinsErr.t18 (midrangeref25_joinsErr.s18 z1 z2)) = (midrangeref25_joinsErr.l n m).2 := by funext z1 z2; exact h18 z1 z2
    have q5 : ∀ (z1 : Int) (z2 : ByteArray) (z3 : ByteArray) (z4 : List AV) (z5 : List AV) (z6 : List AV) (z7 : List AV) (z8 : Bool) (z9 : List AV) (z10 : List AV), runK G (midrangeref25_joinsErr.C n) midrangeref25_joinsErr.cut (fun S => finK G Tryz.f62.resultTypes.toList Tryz.f62.results.toList S midrangeref25_joinsErr.dec) (m + 1) midrangeref25_joinsErr.t5 (midrangeref25_joinsErr.s5 z1 z2 z3 z4 z5 z6 z7 z8 z9 z10) = ((midrangeref25_joinsErr.l n (m + 1)).1) z1 z2 z3 z4 z5 z6 z7 z8 z9 z10 := by
      intro z1 z2 z3 z4 z5 z6 z7 z8 z9 z10
      rw [runK_succ]
      refine (midrangeref25_joinsErr.r5_eq n _ midrangeref25_joinsErr.dec z1 z2 z3 z4 z5 z6 z7 z8 z9 z10).trans ?_
      rw [e5, e18]
      rfl
    have q18 : ∀ (z1 : Int) (z2 : List AV), runK G (midrangeref25_joinsErr.C n) midrangeref25_joinsErr.cut (fun S => finK G Tryz.f62.resultTypes.toList Tryz.f62.results.toList S midrangeref25_joinsErr.dec) (m + 1) midrangeref25_joinsErr.t18 (midrangeref25_joinsErr.s18 z1 z2) = ((midrangeref25_joinsErr.l n (m + 1)).2) z1 z2 := by
      intro z1 z2
      rw [runK_succ]
      refine (midrangeref25_joinsErr.r18_eq n _ midrangeref25_joinsErr.dec z1 z2).trans ?_
      rw [e5, e18]
      rfl
    exact ⟨q5, q18⟩
theorem midrangeref25_joinsErr.hands (n : Nat) (a0 : ByteArray) (a1 : ByteArray) (a2 : List AV) (a3 : List AV) (a4 : List AV) (a5 : List AV) (a6 : Bool) (a7 : List AV) {p : Int × Int} (h : midrangeref25_joinsErr.F n a0 a1 a2 a3 a4 a5 a6 a7 = some p) : HandsIn Tryz.prog 62 [AV.agg [vs a0, vs a1, .sl ⟨true, 9⟩ 1 a2, .sl ⟨true, 95⟩ 3 a3, .sl ⟨true, 97⟩ 4 a4, .sl ⟨true, 111⟩ 2 a5, vb a6, .sl ⟨false, 100⟩ 2 a7]] (.tup [vi p.1, vi p.2]) := by
  refine hands_of cfg mixed globs rfl (midrangeref25_joinsErr.tells n) (fn := Tryz.f62) Tryz.func62 (by kernel_rfl) (by kernel_rfl) (cut := midrangeref25_joinsErr.cut) (K := midrangeref25_joinsErr.dec) (r := p) (n := n) midrangeref25_joinsErr.dec_inv ?_
  rw [funK_getD (by kernel_rfl)]
  have h1 := midrangeref25_joinsErr.e_eq n (runK G (midrangeref25_joinsErr.C n) midrangeref25_joinsErr.cut (fun S => finK G Tryz.f62.resultTypes.toList Tryz.f62.results.toList S midrangeref25_joinsErr.dec) n) midrangeref25_joinsErr.dec a0 a1 a2 a3 a4 a5 a6 a7
  have hl := midrangeref25_joinsErr.l_eq n n
  simp only [hl.1, hl.2] at h1
  exact h1.trans h
noncomputable def midrangeref25_joinsErr.via {R : Type} (n : Nat) (xs : List AV) : (AV → Option R) → Option R := match xs with | [.agg [.v (.string a0), .v (.string a1), .sl ⟨true, 9⟩ 1 a2, .sl ⟨true, 95⟩ 3 a3, .sl ⟨true, 97⟩ 4 a4, .sl ⟨true, 111⟩ 2 a5, .v (.bool a6), .sl ⟨false, 100⟩ 2 a7]] => fun K => (midrangeref25_joinsErr.F n a0 a1 a2 a3 a4 a5 a6 a7).bind fun p => K (.tup [vi p.1, vi p.2]) | _ => fun _ => none
theorem midrangeref25_joinsErr.tells1 {R : Type} (n : Nat) (xs : List AV) : Tells1 (R := R) Tryz.prog 62 xs (midrangeref25_joinsErr.via n xs) := by
  unfold midrangeref25_joinsErr.via
  split
  · exact Tells1.of (fun p hp => (midrangeref25_joinsErr.hands n _ _ _ _ _ _ _ _ hp).hands rfl)
  · exact Tells1.none
end Go.Proofs.YtmpglmcjoelciaaGreatDoor.Ev

/- midrange/midrangeref25.ruleErr, out of its evaluation. Printed by the session's own program. -/
namespace Go.Proofs.YtmpglmcjoelciaaGreatDoor.Ev
open Go Go.Proofs Go.Proofs.Ev
set_option linter.unusedVariables false
set_option maxRecDepth 100000
/-! midrange/midrangeref25.ruleErr: function 63 -/
noncomputable def midrangeref25_ruleErr.r4 {R : Type} (n : Nat) (c4 : Int → ByteArray → ByteArray → List AV → List AV → List AV → List AV → Bool → List AV → Bool → List AV → Option R) (k : Int → Option R) (z1 : Int) (z2 : ByteArray) (z3 : ByteArray) (z4 : List AV) (z5 : List AV) (z6 : List AV) (z7 : List AV) (z8 : Bool) (z9 : List AV) (z10 : Bool) (z11 : List AV) : Option R :=
  let y2 : Bool := decide (z1 < ((z11.length : Nat) : Int))
  bif y2 then (bif decide ((0 : Int) ≤ z1) && decide (z1 < ((z11.length : Nat) : Int)) then (withCons ((z11.getD ((z1).toNat) .undef).cells) fun h3 r4 =>
  withStr h3 fun s5 =>
  withCons r4 fun h6 r7 =>
  withInt .i64 h6 fun x8 =>
  withCons r7 fun h9 r10 =>
  withInt .i64 h9 fun x11 =>
  withCons r10 fun h12 r13 =>
  withStr h12 fun s14 =>
  (midrangeref25_FieldOf.F n z2 z3 z4 z5 z6 z7 z8 z9 s5).bind fun p15 =>
  bif p15 == (-1) then (k 11) else ((midrangebase_Within.F n x8 0 5).bind fun p16 =>
  bif !p16 then (k 4) else ((midrangebase_Within.F n x11 (-999999999999999) 999999999999999).bind fun p17 =>
  bif !p17 then (k 3) else (let y18 : Bool := decide (((s14.size : Nat) : Int) > 256)
  bif y18 then (k 2) else (bif x11 != 0 then (let y19 : Bool := !(s14.toList == (⟨#[]⟩ : ByteArray).toList)
  bif y19 then (k 5) else (c4 (IntKind.i64.wrap (z1 + 1)) z2 z3 z4 z5 z6 z7 z8 z9 z10 z11)) else (c4 (IntKind.i64.wrap (z1 + 1)) z2 z3 z4 z5 z6 z7 z8 z9 z10 z11)))))) else none) else (k 0)
noncomputable def midrangeref25_ruleErr.e {R : Type} (n : Nat) (c4 : Int → ByteArray → ByteArray → List AV → List AV → List AV → List AV → Bool → List AV → Bool → List AV → Option R) (k : Int → Option R) (a0 : ByteArray) (a1 : ByteArray) (a2 : List AV) (a3 : List AV) (a4 : List AV) (a5 : List AV) (a6 : Bool) (a7 : List AV) (a8 : Bool) (a9 : List AV) : Option R :=
  let y1 : Bool := decide (((a9.length : Nat) : Int) > 4)
  bif y1 then (k 2) else (c4 0 a0 a1 a2 a3 a4 a5 a6 a7 a8 a9)
noncomputable def midrangeref25_ruleErr.C {R : Type} (n : Nat) (f : FuncId) (xs : List AV) : (AV → Option R) → Option R :=
  bif Nat.beq f 48 then midrangebase_Within.via n xs else bif Nat.beq f 61 then midrangeref25_FieldOf.via n xs else fun _ => none
theorem midrangeref25_ruleErr.tells {R : Type} (n : Nat) : Tells (R := R) Tryz.prog (midrangeref25_ruleErr.C n) := fun _ xs => tells_at (midrangebase_Within.tells1 n xs) (tells_at (midrangeref25_FieldOf.tells1 n xs) (Tells1.none))
noncomputable def midrangeref25_ruleErr.cut (r : Nat) : Option Keep := match r with | 4 => Option.some ⟨[2, 3, 5], []⟩ | _ => none
noncomputable def midrangeref25_ruleErr.t4 : List Item := (todoOf 4 1000 [.code (Tryz.f63.body.getD .skip)]).getD []
noncomputable def midrangeref25_ruleErr.s4 (z1 : Int) (z2 : ByteArray) (z3 : ByteArray) (z4 : List AV) (z5 : List AV) (z6 : List AV) (z7 : List AV) (z8 : Bool) (z9 : List AV) (z10 : Bool) (z11 : List AV) : St := ⟨[.undef, .undef, .ptr 0 0, .ptr 1 0, .undef, vi z1, .undef, .undef, .undef, .undef, .undef, .undef, .undef, .undef, .undef, .undef, .undef, .undef, .undef, .undef, .undef, .undef, .undef, .undef, .undef, .undef, .undef, .undef, .undef, .undef, .undef, .undef, .undef, .undef, .undef, .undef, .undef, .undef, .undef, .undef, .undef, .undef, .undef, .undef, .undef, .undef, .undef, .undef, .undef, .undef, .undef, .undef, .undef, .undef, .undef, .undef, .undef], Mem.ofList [.box 36 [vs z2, vs z3, .sl ⟨true, 9⟩ 1 z4, .sl ⟨true, 95⟩ 3 z5, .sl ⟨true, 97⟩ 4 z6, .sl ⟨true, 111⟩ 2 z7, vb z8, .sl ⟨false, 100⟩ 2 z9], .box 100 [vb z10, .sl ⟨true, 104⟩ 4 z11]], 2⟩
theorem midrangeref25_ruleErr.e_eq {R : Type} (n : Nat) (rec : List Item → St → Option R) (K : AV → Option R) (a0 : ByteArray) (a1 : ByteArray) (a2 : List AV) (a3 : List AV) (a4 : List AV) (a5 : List AV) (a6 : Bool) (a7 : List AV) (a8 : Bool) (a9 : List AV) :
    goK G (midrangeref25_ruleErr.C n) midrangeref25_ruleErr.cut (fun S => finK G Tryz.f63.resultTypes.toList Tryz.f63.results.toList S K) rec 1000 [.code (Tryz.f63.body.getD .skip)] (Ev.start Tryz.f63 [AV.agg [vs a0, vs a1, .sl ⟨true, 9⟩ 1 a2, .sl ⟨true, 95⟩ 3 a3, .sl ⟨true, 97⟩ 4 a4, .sl ⟨true, 111⟩ 2 a5, vb a6, .sl ⟨false, 100⟩ 2 a7], AV.agg [vb a8, .sl ⟨true, 104⟩ 4 a9]]) = midrangeref25_ruleErr.e n (fun z1 z2 z3 z4 z5 z6 z7 z8 z9 z10 z11 => rec midrangeref25_ruleErr.t4 (midrangeref25_ruleErr.s4 z1 z2 z3 z4 z5 z6 z7 z8 z9 z10 z11)) (fun p => K (vi p)) a0 a1 a2 a3 a4 a5 a6 a7 a8 a9 := by kernel_rfl
theorem midrangeref25_ruleErr.r4_eq {R : Type} (n : Nat) (rec : List Item → St → Option R) (K : AV → Option R) (z1 : Int) (z2 : ByteArray) (z3 : ByteArray) (z4 : List AV) (z5 : List AV) (z6 : List AV) (z7 : List AV) (z8 : Bool) (z9 : List AV) (z10 : Bool) (z11 : List AV) :
    atK G (midrangeref25_ruleErr.C n) midrangeref25_ruleErr.cut (fun S => finK G Tryz.f63.resultTypes.toList Tryz.f63.results.toList S K) rec midrangeref25_ruleErr.t4 (midrangeref25_ruleErr.s4 z1 z2 z3 z4 z5 z6 z7 z8 z9 z10 z11) = midrangeref25_ruleErr.r4 n (fun z1 z2 z3 z4 z5 z6 z7 z8 z9 z10 z11 => rec midrangeref25_ruleErr.t4 (midrangeref25_ruleErr.s4 z1 z2 z3 z4 z5 z6 z7 z8 z9 z10 z11)) (fun p => K (vi p)) z1 z2 z3 z4 z5 z6 z7 z8 z9 z10 z11 := by kernel_rfl
noncomputable def midrangeref25_ruleErr.l (n : Nat) : Nat → (Int → ByteArray → ByteArray → List AV → List AV → List AV → List AV → Bool → List AV → Bool → List AV → Option (Int))
  | 0 => (fun _ _ _ _ _ _ _ _ _ _ _ => none)
  | m + 1 => midrangeref25_ruleErr.r4 n (midrangeref25_ruleErr.l n m) Option.some
noncomputable def midrangeref25_ruleErr.F (n : Nat) (a0 : ByteArray) (a1 : ByteArray) (a2 : List AV) (a3 : List AV) (a4 : List AV) (a5 : List AV) (a6 : Bool) (a7 : List AV) (a8 : Bool) (a9 : List AV) : Option (Int) := midrangeref25_ruleErr.e n (midrangeref25_ruleErr.l n n) Option.some a0 a1 a2 a3 a4 a5 a6 a7 a8 a9
noncomputable def midrangeref25_ruleErr.dec (x : AV) : Option (Int) := match x with | .v (.int .i64 p0) => Option.some p0 | _ => none
theorem midrangeref25_ruleErr.dec_inv {p : Int} (y : AV) (h : midrangeref25_ruleErr.dec y = some p) : y = vi p := by
  unfold midrangeref25_ruleErr.dec at h
  split at h
  · cases h; rfl
  · cases h
theorem midrangeref25_ruleErr.l_eq (n m : Nat) : (∀ (z1 : Int) (z2 : ByteArray) (z3 : ByteArray) (z4 : List AV) (z5 : List AV) (z6 : List AV) (z7 : List AV) (z8 : Bool) (z9 : List AV) (z10 : Bool) (z11 : List AV), runK G (midrangeref25_ruleErr.C n) midrangeref25_ruleErr.cut (fun S => finK G Tryz.f63.resultTypes.toList Tryz.f63.results.toList S midrangeref25_ruleErr.dec) m midrangeref25_ruleErr.t4 (midrangeref25_ruleErr.s4 z1 z2 z3 z4 z5 z6 z7 z8 z9 z10 z11) = (midrangeref25_ruleErr.l n m) z1 z2 z3 z4 z5 z6 z7 z8 z9 z10 z11) := by
  induction m with
  | zero => exact fun z1 z2 z3 z4 z5 z6 z7 z8 z9 z10 z11 => rfl
  | succ m ih =>
    have h4 := ih
    have e4 : (fun (z1 : Int) (z2 : ByteArray) (z3 : ByteArray) (z4 : List AV) (z5 : List AV) (z6 : List AV) (z7 : List AV) (z8 : Bool) (z9 : List AV) (z10 : Bool) (z11 : List AV) => runK G (midrangeref25_ruleErr.C n) midrangeref25_ruleErr.cut (fun S => finK G Tryz.f63.resultTypes.toList Tryz.f63.results.toList S midrangeref25_ruleErr.dec) m midrangeref25_ruleErr.t4 (midrangeref25_ruleErr.s4 z1 z2 z3 z4 z5 z6 z7 z8 z9 z10 z11)) = (midrangeref25_ruleErr.l n m) := by funext z1 z2 z3 z4 z5 z6 z7 z8 z9 z10 z11; exact h4 z1 z2 z3 z4 z5 z6 z7 z8 z9 z10 z11
    have q4 : ∀ (z1 : Int) (z2 : ByteArray) (z3 : ByteArray) (z4 : List AV) (z5 : List AV) (z6 : List AV) (z7 : List AV) (z8 : Bool) (z9 : List AV) (z10 : Bool) (z11 : List AV), runK G (midrangeref25_ruleErr.C n) midrangeref25_ruleErr.cut (fun S => finK G Tryz.f63.resultTypes.toList Tryz.f63.results.toList S midrangeref25_ruleErr.dec) (m + 1) midrangeref25_ruleErr.t4 (midrangeref25_ruleErr.s4 z1 z2 z3 z4 z5 z6 z7 z8 z9 z10 z11) = (midrangeref25_ruleErr.l n (m + 1)) z1 z2 z3 z4 z5 z6 z7 z8 z9 z10 z11 := by
      intro z1 z2 z3 z4 z5 z6 z7 z8 z9 z10 z11
      rw [runK_succ]
      refine (midrangeref25_ruleErr.r4_eq n _ midrangeref25_ruleErr.dec z1 z2 z3 z4 z5 z6 z7 z8 z9 z10 z11).trans ?_
      rw [e4]
      rfl
    exact q4
theorem midrangeref25_ruleErr.hands (n : Nat) (a0 : ByteArray) (a1 : ByteArray) (a2 : List AV) (a3 : List AV) (a4 : List AV) (a5 : List AV) (a6 : Bool) (a7 : List AV) (a8 : Bool) (a9 : List AV) {p : Int} (h : midrangeref25_ruleErr.F n a0 a1 a2 a3 a4 a5 a6 a7 a8 a9 = some p) : HandsIn Tryz.prog 63 [AV.agg [vs a0, vs a1, .sl ⟨true, 9⟩ 1 a2, .sl ⟨true, 95⟩ 3 a3, .sl ⟨true, 97⟩ 4 a4, .sl ⟨true, 111⟩ 2 a5, vb a6, .sl ⟨false, 100⟩ 2 a7], AV.agg [vb a8, .sl ⟨true, 104⟩ 4 a9]] (vi p) := by
  refine hands_of cfg mixed globs rfl (midrangeref25_ruleErr.tells n) (fn := Tryz.f63) Tryz.func63 (by kernel_rfl) (by kernel_rfl) (cut := midrangeref25_ruleErr.cut) (K := midrangeref25_ruleErr.dec) (r := p) (n := n) midrangeref25_ruleErr.dec_inv ?_
  rw [funK_getD (by kernel_rfl)]
  have h1 := midrangeref25_ruleErr.e_eq n (runK G (midrangeref25_ruleErr.C n) midrangeref25_ruleErr.cut (fun S => finK G Tryz.f63.resultTypes.toList Tryz.f63.results.toList S midrangeref25_ruleErr.dec) n) midrangeref25_ruleErr.dec a0 a1 a2 a3 a4 a5 a6 a7 a8 a9
  have hl := midrangeref25_ruleErr.l_eq n n
  simp only [hl] at h1
  exact h1.trans h
noncomputable def midrangeref25_ruleErr.via {R : Type} (n : Nat) (xs : List AV) : (AV → Option R) → Option R := match xs with | [.agg [.v (.string a0), .v (.string a1), .sl ⟨true, 9⟩ 1 a2, .sl ⟨true, 95⟩ 3 a3, .sl ⟨true, 97⟩ 4 a4, .sl ⟨true, 111⟩ 2 a5, .v (.bool a6), .sl ⟨false, 100⟩ 2 a7], .agg [.v (.bool a8), .sl ⟨true, 104⟩ 4 a9]] => fun K => (midrangeref25_ruleErr.F n a0 a1 a2 a3 a4 a5 a6 a7 a8 a9).bind fun p => K (vi p) | _ => fun _ => none
theorem midrangeref25_ruleErr.tells1 {R : Type} (n : Nat) (xs : List AV) : Tells1 (R := R) Tryz.prog 63 xs (midrangeref25_ruleErr.via n xs) := by
  unfold midrangeref25_ruleErr.via
  split
  · exact Tells1.of (fun p hp => (midrangeref25_ruleErr.hands n _ _ _ _ _ _ _ _ _ _ hp).hands rfl)
  · exact Tells1.none
end Go.Proofs.YtmpglmcjoelciaaGreatDoor.Ev

/- midrange/midrangeref25.Check, out of its evaluation. Printed by the session's own program. -/
namespace Go.Proofs.YtmpglmcjoelciaaGreatDoor.Ev
open Go Go.Proofs Go.Proofs.Ev
set_option linter.unusedVariables false
set_option maxRecDepth 100000
/-! midrange/midrangeref25.Check: function 19 -/
noncomputable def midrangeref25_Check.r8 {R : Type} (n : Nat) (c8 : Int → ByteArray → ByteArray → List AV → List AV → List AV → List AV → Bool → List AV → Option R) (c19 : Int → ByteArray → ByteArray → List AV → List AV → List AV → List AV → Bool → List AV → Option R) (c36 : Int → ByteArray → ByteArray → List AV → List AV → List AV → List AV → Bool → List AV → Option R) (c41 : Int → Int → ByteArray → ByteArray → List AV → List AV → List AV → List AV → Bool → List AV → Option R) (c48 : Int → ByteArray → ByteArray → List AV → List AV → List AV → List AV → Bool → List AV → Option R) (k : Int × Int → Option R) (z1 : Int) (z2 : ByteArray) (z3 : ByteArray) (z4 : List AV) (z5 : List AV) (z6 : List AV) (z7 : List AV) (z8 : Bool) (z9 : List AV) : Option R :=
  let y5 : Bool := decide (z1 < ((z4.length : Nat) : Int))
  bif y5 then (bif decide ((0 : Int) ≤ z1) && decide (z1 < ((z4.length : Nat) : Int)) then (withCons ((z4.getD ((z1).toNat) .undef).cells) fun h6 r7 =>
  withStr h6 fun s8 =>
  (midrangebase_IsName.F n s8).bind fun p9 =>
  bif !p9 then (k (z1, 7)) else (bif decide ((0 : Int) ≤ z1) && decide (z1 < ((z4.length : Nat) : Int)) then (withCons ((z4.getD ((z1).toNat) .undef).cells) fun h10 r11 =>
  withStr h10 fun s12 =>
  (midrangebase_IndexOfString.F n z4 s12).bind fun p13 =>
  bif decide (p13 < z1) then (k (z1, 13)) else (c8 (IntKind.i64.wrap (z1 + 1)) z2 z3 z4 z5 z6 z7 z8 z9)) else none)) else none) else (let y14 : Bool := ((z5.length : Nat) : Int) == 0
  bif y14 then (k (0, 1)) else (let y15 : Bool := decide (((z5.length : Nat) : Int) > 20)
  bif y15 then (k (0, 2)) else (c19 0 z2 z3 z4 z5 z6 z7 z8 z9)))
noncomputable def midrangeref25_Check.r19 {R : Type} (n : Nat) (c8 : Int → ByteArray → ByteArray → List AV → List AV → List AV → List AV → Bool → List AV → Option R) (c19 : Int → ByteArray → ByteArray → List AV → List AV → List AV → List AV → Bool → List AV → Option R) (c36 : Int → ByteArray → ByteArray → List AV → List AV → List AV → List AV → Bool → List AV → Option R) (c41 : Int → Int → ByteArray → ByteArray → List AV → List AV → List AV → List AV → Bool → List AV → Option R) (c48 : Int → ByteArray → ByteArray → List AV → List AV → List AV → List AV → Bool → List AV → Option R) (k : Int × Int → Option R) (z1 : Int) (z2 : ByteArray) (z3 : ByteArray) (z4 : List AV) (z5 : List AV) (z6 : List AV) (z7 : List AV) (z8 : Bool) (z9 : List AV) : Option R :=
  let y16 : Bool := decide (z1 < ((z5.length : Nat) : Int))
  bif y16 then (bif decide ((0 : Int) ≤ z1) && decide (z1 < ((z5.length : Nat) : Int)) then (withCons ((z5.getD ((z1).toNat) .undef).cells) fun h17 r18 =>
  withStr h17 fun s19 =>
  withCons r18 fun h20 r21 =>
  withInt .i64 h20 fun x22 =>
  withCons r21 fun h23 r24 =>
  withStr h23 fun s25 =>
  (midrangebase_IsName.F n s19).bind fun p26 =>
  bif !p26 then (k (z1, 7)) else ((midrangeref25_FieldOf.F n z2 z3 z4 z5 z6 z7 z8 z9 s19).bind fun p27 =>
  bif decide (p27 < z1) then (k (z1, 13)) else (let y28 : Int := IntKind.i64.wrap (((z4.length : Nat) : Int) - 1)
  (midrangebase_Within.F n x22 0 y28).bind fun p29 =>
  bif !p29 then (k (z1, 3)) else ((midrangebase_IsName.F n s25).bind fun p30 =>
  bif !p30 then (k (z1, 7)) else (c19 (IntKind.i64.wrap (z1 + 1)) z2 z3 z4 z5 z6 z7 z8 z9))))) else none) else ((midrangeref25_joinsErr.F n z2 z3 z4 z5 z6 z7 z8 z9).bind fun p31 =>
  bif p31.2 != 0 then (k (p31.1, p31.2)) else (let y32 : Bool := decide (((z7.length : Nat) : Int) > 4)
  bif y32 then (k (0, 2)) else (c36 0 z2 z3 z4 z5 z6 z7 z8 z9)))
noncomputable def midrangeref25_Check.r36 {R : Type} (n : Nat) (c8 : Int → ByteArray → ByteArray → List AV → List AV → List AV → List AV → Bool → List AV → Option R) (c19 : Int → ByteArray → ByteArray → List AV → List AV → List AV → List AV → Bool → List AV → Option R) (c36 : Int → ByteArray → ByteArray → List AV → List AV → List AV → List AV → Bool → List AV → Option R) (c41 : Int → Int → ByteArray → ByteArray → List AV → List AV → List AV → List AV → Bool → List AV → Option R) (c48 : Int → ByteArray → ByteArray → List AV → List AV → List AV → List AV → Bool → List AV → Option R) (k : Int × Int → Option R) (z1 : Int) (z2 : ByteArray) (z3 : ByteArray) (z4 : List AV) (z5 : List AV) (z6 : List AV) (z7 : List AV) (z8 : Bool) (z9 : List AV) : Option R :=
  let y33 : Bool := decide (z1 < ((z7.length : Nat) : Int))
  bif y33 then (bif decide ((0 : Int) ≤ z1) && decide (z1 < ((z7.length : Nat) : Int)) then (withCons ((z7.getD ((z1).toNat) .undef).cells) fun h34 r35 =>
  withStr h34 fun s36 =>
  (midrangeref25_FieldOf.F n z2 z3 z4 z5 z6 z7 z8 z9 s36).bind fun p37 =>
  bif p37 == (-1) then (k (z1, 11)) else (c41 z1 0 z2 z3 z4 z5 z6 z7 z8 z9)) else none) else (let y38 : Bool := decide (((z9.length : Nat) : Int) > 8)
  bif y38 then (k (0, 2)) else (c48 0 z2 z3 z4 z5 z6 z7 z8 z9))
noncomputable def midrangeref25_Check.r41 {R : Type} (n : Nat) (c8 : Int → ByteArray → ByteArray → List AV → List AV → List AV → List AV → Bool → List AV → Option R) (c19 : Int → ByteArray → ByteArray → List AV → List AV → List AV → List AV → Bool → List AV → Option R) (c36 : Int → ByteArray → ByteArray → List AV → List AV → List AV → List AV → Bool → List AV → Option R) (c41 : Int → Int → ByteArray → ByteArray → List AV → List AV → List AV → List AV → Bool → List AV → Option R) (c48 : Int → ByteArray → ByteArray → List AV → List AV → List AV → List AV → Bool → List AV → Option R) (k : Int × Int → Option R) (z1 : Int) (z2 : Int) (z3 : ByteArray) (z4 : ByteArray) (z5 : List AV) (z6 : List AV) (z7 : List AV) (z8 : List AV) (z9 : Bool) (z10 : List AV) : Option R :=
  bif decide (z2 < z1) then (bif decide ((0 : Int) ≤ z2) && decide (z2 < ((z8.length : Nat) : Int)) then (withCons ((z8.getD ((z2).toNat) .undef).cells) fun h39 r40 =>
  withStr h39 fun s41 =>
  bif decide ((0 : Int) ≤ z1) && decide (z1 < ((z8.length : Nat) : Int)) then (withCons ((z8.getD ((z1).toNat) .undef).cells) fun h42 r43 =>
  withStr h42 fun s44 =>
  bif s41.toList == s44.toList then (k (z1, 13)) else (c41 z1 (IntKind.i64.wrap (z2 + 1)) z3 z4 z5 z6 z7 z8 z9 z10)) else none) else none) else (c36 (IntKind.i64.wrap (z1 + 1)) z3 z4 z5 z6 z7 z8 z9 z10)
noncomputable def midrangeref25_Check.r48 {R : Type} (n : Nat) (c8 : Int → ByteArray → ByteArray → List AV → List AV → List AV → List AV → Bool → List AV → Option R) (c19 : Int → ByteArray → ByteArray → List AV → List AV → List AV → List AV → Bool → List AV → Option R) (c36 : Int → ByteArray → ByteArray → List AV → List AV → List AV → List AV → Bool → List AV → Option R) (c41 : Int → Int → ByteArray → ByteArray → List AV → List AV → List AV → List AV → Bool → List AV → Option R) (c48 : Int → ByteArray → ByteArray → List AV → List AV → List AV → List AV → Bool → List AV → Option R) (k : Int × Int → Option R) (z1 : Int) (z2 : ByteArray) (z3 : ByteArray) (z4 : List AV) (z5 : List AV) (z6 : List AV) (z7 : List AV) (z8 : Bool) (z9 : List AV) : Option R :=
  let y45 : Bool := decide (z1 < ((z9.length : Nat) : Int))
  bif y45 then (bif decide ((0 : Int) ≤ z1) && decide (z1 < ((z9.length : Nat) : Int)) then (withCons ((z9.getD ((z1).toNat) .undef).cells) fun h46 r47 =>
  withBool h46 fun b48 =>
  withCons r47 fun h49 r50 =>
  withSl ⟨true, 104⟩ 4 h49 fun xs51 =>
  (midrangeref25_ruleErr.F n z2 z3 z4 z5 z6 z7 z8 z9 b48 xs51).bind fun p52 =>
  bif p52 != 0 then (k (z1, p52)) else (c48 (IntKind.i64.wrap (z1 + 1)) z2 z3 z4 z5 z6 z7 z8 z9)) else none) else (let y53 : Bool := decide (((z4.length : Nat) : Int) > 1)
  bif y53 then (let y54 : Bool := decide (((z9.length : Nat) : Int) > 0)
  bif y54 then (k (0, 15)) else (bif z8 then (k (0, 15)) else (k (0, 0)))) else (k (0, 0)))
noncomputable def midrangeref25_Check.e {R : Type} (n : Nat) (c8 : Int → ByteArray → ByteArray → List AV → List AV → List AV → List AV → Bool → List AV → Option R) (c19 : Int → ByteArray → ByteArray → List AV → List AV → List AV → List AV → Bool → List AV → Option R) (c36 : Int → ByteArray → ByteArray → List AV → List AV → List AV → List AV → Bool → List AV → Option R) (c41 : Int → Int → ByteArray → ByteArray → List AV → List AV → List AV → List AV → Bool → List AV → Option R) (c48 : Int → ByteArray → ByteArray → List AV → List AV → List AV → List AV → Bool → List AV → Option R) (k : Int × Int → Option R) (a0 : ByteArray) (a1 : ByteArray) (a2 : List AV) (a3 : List AV) (a4 : List AV) (a5 : List AV) (a6 : Bool) (a7 : List AV) : Option R :=
  (midrangebase_IsName.F n a0).bind fun p1 =>
  bif !p1 then (k (0, 7)) else ((midrangebase_IsName.F n a1).bind fun p2 =>
  bif !p2 then (k (0, 7)) else (let y3 : Bool := ((a2.length : Nat) : Int) == 0
  bif y3 then (k (0, 1)) else (let y4 : Bool := decide (((a2.length : Nat) : Int) > 3)
  bif y4 then (k (0, 2)) else (c8 0 a0 a1 a2 a3 a4 a5 a6 a7))))
noncomputable def midrangeref25_Check.C {R : Type} (n : Nat) (f : FuncId) (xs : List AV) : (AV → Option R) → Option R :=
  bif Nat.beq f 48 then midrangebase_Within.via n xs else bif Nat.beq f 59 then midrangebase_IsName.via n xs else bif Nat.beq f 60 then midrangebase_IndexOfString.via n xs else bif Nat.beq f 61 then midrangeref25_FieldOf.via n xs else bif Nat.beq f 62 then midrangeref25_joinsErr.via n xs else bif Nat.beq f 63 then midrangeref25_ruleErr.via n xs else fun _ => none
theorem midrangeref25_Check.tells {R : Type} (n : Nat) : Tells (R := R) Tryz.prog (midrangeref25_Check.C n) := fun _ xs => tells_at (midrangebase_Within.tells1 n xs) (tells_at (midrangebase_IsName.tells1 n xs) (tells_at (midrangebase_IndexOfString.tells1 n xs) (tells_at (midrangeref25_FieldOf.tells1 n xs) (tells_at (midrangeref25_joinsErr.tells1 n xs) (tells_at (midrangeref25_ruleErr.tells1 n xs) (Tells1.none))))))
noncomputable def midrangeref25_Check.cut (r : Nat) : Option Keep := match r with | 8 => Option.some ⟨[1, 4], []⟩ | 19 => Option.some ⟨[1, 5], []⟩ | 36 => Option.some ⟨[1, 9], []⟩ | 41 => Option.some ⟨[1, 9, 10], []⟩ | 48 => Option.some ⟨[1, 11], []⟩ | _ => none
noncomputable def midrangeref25_Check.t8 : List Item := (todoOf 8 1000 [.code (Tryz.f19.body.getD .skip)]).getD []
noncomputable def midrangeref25_Check.s8 (z1 : Int) (z2 : ByteArray) (z3 : ByteArray) (z4 : List AV) (z5 : List AV) (z6 : List AV) (z7 : List AV) (z8 : Bool) (z9 : List AV) : St := ⟨[.undef, .ptr 0 0, .undef, .undef, vi z1, .undef, .undef, .undef, .undef, .undef, .undef, .undef, .undef, .undef, .undef, .undef, .undef, .undef, .undef, .undef, .undef, .undef, .undef, .undef, .undef, .undef, .undef, .undef, .undef, .undef, .undef, .undef, .undef, .undef, .undef, .undef, .undef, .undef, .undef, .undef, .undef, .undef, .undef, .undef, .undef, .undef, .undef, .undef, .undef, .undef, .undef, .undef, .undef, .undef, .undef, .undef, .undef, .undef, .undef, .undef, .undef, .undef, .undef, .undef, .undef, .undef, .undef, .undef, .undef, .undef, .undef, .undef, .undef, .undef, .undef, .undef, .undef, .undef, .undef, .undef, .undef, .undef, .undef, .undef, .undef, .undef, .undef, .undef, .undef, .undef, .undef, .undef, .undef, .undef, .undef, .undef, .undef, .undef, .undef, .undef, .undef, .undef, .undef, .undef, .undef, .undef, .undef, .undef, .undef, .undef, .undef, .undef, .undef, .undef, .undef, .undef, .undef, .undef, .undef, .undef, .undef, .undef, .undef, .undef, .undef, .undef, .undef, .undef, .undef, .undef, .undef, .undef, .undef, .undef, .undef, .undef, .undef, .undef, .undef, .undef, .undef, .undef, .undef, .undef, .undef, .undef, .undef, .undef, .undef, .undef, .undef, .undef, .undef, .undef, .undef, .undef, .undef, .undef, .undef, .undef, .undef, .undef, .undef, .undef, .undef, .undef, .undef, .undef, .undef, .undef, .undef, .undef, .undef, .undef, .undef, .undef, .undef, .undef, .undef, .undef, .undef, .undef, .undef, .undef, .undef, .undef, .undef, .undef, .undef, .undef, .undef, .undef, .undef, .undef, .undef], Mem.ofList [.box 36 [vs z2, vs z3, .sl ⟨true, 9⟩ 1 z4, .sl ⟨true, 95⟩ 3 z5, .sl ⟨true, 97⟩ 4 z6, .sl ⟨true, 111⟩ 2 z7, vb z8, .sl ⟨false, 100⟩ 2 z9]], 1⟩
noncomputable def midrangeref25_Check.t19 : List Item := (todoOf 19 1000 [.code (Tryz.f19.body.getD .skip)]).getD []
noncomputable def midrangeref25_Check.s19 (z1 : Int) (z2 : ByteArray) (z3 : ByteArray) (z4 : List AV) (z5 : List AV) (z6 : List AV) (z7 : List AV) (z8 : Bool) (z9 : List AV) : St := ⟨[.undef, .ptr 0 0, .undef, .undef, .undef, vi z1, .undef, .undef, .undef, .undef, .undef, .undef, .undef, .undef, .undef, .undef, .undef, .undef, .undef, .undef, .undef, .undef, .undef, .undef, .undef, .undef, .undef, .undef, .undef, .undef, .undef, .undef, .undef, .undef, .undef, .undef, .undef, .undef, .undef, .undef, .undef, .undef, .undef, .undef, .undef, .undef, .undef, .undef, .undef, .undef, .undef, .undef, .undef, .undef, .undef, .undef, .undef, .undef, .undef, .undef, .undef, .undef, .undef, .undef, .undef, .undef, .undef, .undef, .undef, .undef, .undef, .undef, .undef, .undef, .undef, .undef, .undef, .undef, .undef, .undef, .undef, .undef, .undef, .undef, .undef, .undef, .undef, .undef, .undef, .undef, .undef, .undef, .undef, .undef, .undef, .undef, .undef, .undef, .undef, .undef, .undef, .undef, .undef, .undef, .undef, .undef, .undef, .undef, .undef, .undef, .undef, .undef, .undef, .undef, .undef, .undef, .undef, .undef, .undef, .undef, .undef, .undef, .undef, .undef, .undef, .undef, .undef, .undef, .undef, .undef, .undef, .undef, .undef, .undef, .undef, .undef, .undef, .undef, .undef, .undef, .undef, .undef, .undef, .undef, .undef, .undef, .undef, .undef, .undef, .undef, .undef, .undef, .undef, .undef, .undef, .undef, .undef, .undef, .undef, .undef, .undef, .undef, .undef, .undef, .undef, .undef, .undef, .undef, .undef, .undef, .undef, .undef, .undef, .undef, .undef, .undef, .undef, .undef, .undef, .undef, .undef, .undef, .undef, .undef, .undef, .undef, .undef, .undef, .undef, .undef, .undef, .undef, .undef, .undef, .undef], Mem.ofList [.box 36 [vs z2, vs z3, .sl ⟨true, 9⟩ 1 z4, .sl ⟨true, 95⟩ 3 z5, .sl ⟨true, 97⟩ 4 z6, .sl ⟨true, 111⟩ 2 z7, vb z8, .sl ⟨false, 100⟩ 2 z9]], 1⟩
noncomputable def midrangeref25_Check.t36 : List Item := (todoOf 36 1000 [.code (Tryz.f19.body.getD .skip)]).getD []
noncomputable def midrangeref25_Check.s36 (z1 : Int) (z2 : ByteArray) (z3 : ByteArray) (z4 : List AV) (z5 : List AV) (z6 : List AV) (z7 : List AV) (z8 : Bool) (z9 : List AV) : St := ⟨[.undef, .ptr 0 0, .undef, .undef, .undef, .undef, .undef, .undef, .undef, vi z1, .undef, .undef, .undef, .undef, .undef, .undef, .undef, .undef, .undef, .undef, .undef, .undef, .undef, .undef, .undef, .undef, .undef, .undef, .undef, .undef, .undef, .undef, .undef, .undef, .undef, .undef, .undef, .undef, .undef, .undef, .undef, .undef, .undef, .undef, .undef, .undef, .undef, .undef, .undef, .undef, .undef, .undef, .undef, .undef, .undef, .undef, .undef, .undef, .undef, .undef, .undef, .undef, .undef, .undef, .undef, .undef, .undef, .undef, .undef, .undef, .undef, .undef, .undef, .undef, .undef, .undef, .undef, .undef, .undef, .undef, .undef, .undef, .undef, .undef, .undef, .undef, .undef, .undef, .undef, .undef, .undef, .undef, .undef, .undef, .undef, .undef, .undef, .undef, .undef, .undef, .undef, .undef, .undef, .undef, .undef, .undef, .undef, .undef, .undef, .undef, .undef, .undef, .undef, .undef, .undef, .undef, .undef, .undef, .undef, .undef, .undef, .undef, .undef, .undef, .undef, .undef, .undef, .undef, .undef, .undef, .undef, .undef, .undef, .undef, .undef, .undef, .undef, .undef, .undef, .undef, .undef, .undef, .undef, .undef, .undef, .undef, .undef, .undef, .undef, .undef, .undef, .undef, .undef, .undef, .undef, .undef, .undef, .undef, .undef, .undef, .undef, .undef, .undef, .undef, .undef, .undef, .undef, .undef, .undef, .undef, .undef, .undef, .undef, .undef, .undef, .undef, .undef, .undef, .undef, .undef, .undef, .undef, .undef, .undef, .undef, .undef, .undef, .undef, .undef, .undef, .undef, .undef, .undef, .undef, .undef], Mem.ofList [.box 36 [vs z2, vs z3, .sl ⟨true, 9⟩ 1 z4, .sl ⟨true, 95⟩ 3 z5, .sl ⟨true, 97⟩ 4 z6, .sl ⟨true, 111⟩ 2 z7, vb z8, .sl ⟨false, 100⟩ 2 z9]], 1⟩
noncomputable def midrangeref25_Check.t41 : List Item := (todoOf 41 1000 [.code (Tryz.f19.body.getD .skip)]).getD []
noncomputable def midrangeref25_Check.s41 (z1 : Int) (z2 : Int) (z3 : ByteArray) (z4 : ByteArray) (z5 : List AV) (z6 : List AV) (z7 : List AV) (z8 : List AV) (z9 : Bool) (z10 : List AV) : St := ⟨[.undef, .ptr 0 0, .undef, .undef, .undef, .undef, .undef, .undef, .undef, vi z1, vi z2, .undef, .undef, .undef, .undef, .undef, .undef, .undef, .undef, .undef, .undef, .undef, .undef, .undef, .undef, .undef, .undef, .undef, .undef, .undef, .undef, .undef, .undef, .undef, .undef, .undef, .undef, .undef, .undef, .undef, .undef, .undef, .undef, .undef, .undef, .undef, .undef, .undef, .undef, .undef, .undef, .undef, .undef, .undef, .undef, .undef, .undef, .undef, .undef, .undef, .undef, .undef, .undef, .undef, .undef, .undef, .undef, .undef, .undef, .undef, .undef, .undef, .undef, .undef, .undef, .undef, .undef, .undef, .undef, .undef, .undef, .undef, .undef, .undef, .undef, .undef, .undef, .undef, .undef, .undef, .undef, .undef, .undef, .undef, .undef, .undef, .undef, .undef, .undef, .undef, .undef, .undef, .undef, .undef, .undef, .undef, .undef, .undef, .undef, .undef, .undef, .undef, .undef, .undef, .undef, .undef, .undef, .undef, .undef, .undef, .undef, .undef, .undef, .undef, .undef, .undef, .undef, .undef, .undef, .undef, .undef, .undef, .undef, .undef, .undef, .undef, .undef, .undef, .undef, .undef, .undef, .undef, .undef, .undef, .undef, .undef, .undef, .undef, .undef, .undef, .undef, .undef, .undef, .undef, .undef, .undef, .undef, .undef, .undef, .undef, .undef, .undef, .undef, .undef, .undef, .undef, .undef, .undef, .undef, .undef, .undef, .undef, .undef, .undef, .undef, .undef, .undef, .undef, .undef, .undef, .undef, .undef, .undef, .undef, .undef, .undef, .undef, .undef, .undef, .undef, .undef, .undef, .undef, .undef, .undef], Mem.ofList [.box 36 [vs z3, vs z4, .sl ⟨true, 9⟩ 1 z5, .sl ⟨true, 95⟩ 3 z6, .sl ⟨true, 97⟩ 4 z7, .sl ⟨true, 111⟩ 2 z8, vb z9, .sl ⟨false, 100⟩ 2 z10]], 1⟩
noncomputable def midrangeref25_Check.t48 : List Item := (todoOf 48 1000 [.code (Tryz.f19.body.getD .skip)]).getD []
noncomputable def midrangeref25_Check.s48 (z1 : Int) (z2 : ByteArray) (z3 : ByteArray) (z4 : List AV) (z5 : List AV) (z6 : List AV) (z7 : List AV) (z8 : Bool) (z9 : List AV) : St := ⟨[.undef, .ptr 0 0, .undef, .undef, .undef, .undef, .undef, .undef, .undef, .undef, .undef, vi z1, .undef, .undef, .undef, .undef, .undef, .undef, .undef, .undef, .undef, .undef, .undef, .undef, .undef, .undef, .undef, .undef, .undef, .undef, .undef, .undef, .undef, .undef, .undef, .undef, .undef, .undef, .undef, .undef, .undef, .undef, .undef, .undef, .undef, .undef, .undef, .undef, .undef, .undef, .undef, .undef, .undef, .undef, .undef, .undef, .undef, .undef, .undef, .undef, .undef, .undef, .undef, .undef, .undef, .undef, .undef, .undef, .undef, .undef, .undef, .undef, .undef, .undef, .undef, .undef, .undef, .undef, .undef, .undef, .undef, .undef, .undef, .undef, .undef, .undef, .undef, .undef, .undef, .undef, .undef, .undef, .undef, .undef, .undef, .undef, .undef, .undef, .undef, .undef, .undef, .undef, .undef, .undef, .undef, .undef, .undef, .undef, .undef, .undef, .undef, .undef, .undef, .undef, .undef, .undef, .undef, .undef, .undef, .undef, .undef, .undef, .undef, .undef, .undef, .undef, .undef, .undef, .undef, .undef, .undef, .undef, .undef, .undef, .undef, .undef, .undef, .undef, .undef, .undef, .undef, .undef, .undef, .undef, .undef, .undef, .undef, .undef, .undef, .undef, .undef, .undef, .undef, .undef, .undef, .undef, .undef, .undef, .undef, .undef, .undef, .undef, .undef, .undef, .undef, .undef, .undef, .undef, .undef, .undef, .undef, .undef, .undef, .undef, .undef, .undef, .undef, .undef, .undef, .undef, .undef, .undef, .undef, .undef, .undef, .undef, .undef, .undef, .undef, .undef, .undef, .undef, .undef, .undef, .undef], Mem.ofList [.box 36 [vs z2, vs z3, .sl ⟨true, 9⟩ 1 z4, .sl ⟨true, 95⟩ 3 z5, .sl ⟨true, 97⟩ 4 z6, .sl ⟨true, 111⟩ 2 z7, vb z8, .sl ⟨false, 100⟩ 2 z9]], 1⟩
theorem midrangeref25_Check.e_eq {R : Type} (n : Nat) (rec : List Item → St → Option R) (K : AV → Option R) (a0 : ByteArray) (a1 : ByteArray) (a2 : List AV) (a3 : List AV) (a4 : List AV) (a5 : List AV) (a6 : Bool) (a7 : List AV) :
    goK G (midrangeref25_Check.C n) midrangeref25_Check.cut (fun S => finK G Tryz.f19.resultTypes.toList Tryz.f19.results.toList S K) rec 1000 [.code (Tryz.f19.body.getD .skip)] (Ev.start Tryz.f19 [AV.agg [vs a0, vs a1, .sl ⟨true, 9⟩ 1 a2, .sl ⟨true, 95⟩ 3 a3, .sl ⟨true, 97⟩ 4 a4, .sl ⟨true, 111⟩ 2 a5, vb a6, .sl ⟨false, 100⟩ 2 a7]]) = midrangeref25_Check.e n (fun z1 z2 z3 z4 z5 z6 z7 z8 z9 => rec midrangeref25_Check.t8 (midrangeref25_Check.s8 z1 z2 z3 z4 z5 z6 z7 z8 z9)) (fun z1 z2 z3 z4 z5 z6 z7 z8 z9 => rec midrangeref25_Check.t19 (midrangeref25_Check.s19 z1 z2 z3 z4 z5 z6 z7 z8 z9)) (fun z1 z2 z3 z4 z5 z6 z7 z8 z9 => rec midrangeref25_Check.t36 (midrangeref25_Check.s36 z1 z2 z3 z4 z5 z6 z7 z8 z9)) (fun z1 z2 z3 z4 z5 z6 z7 z8 z9 z10 => rec midrangeref25_Check.t41 (midrangeref25_Check.s41 z1 z2 z3 z4 z5 z6 z7 z8 z9 z10)) (fun z1 z2 z3 z4 z5 z6 z7 z8 z9 => rec midrangeref25_Check.t48 (midrangeref25_Check.s48 z1 z2 z3 z4 z5 z6 z7 z8 z9)) (fun p => K (.tup [vi p.1, vi p.2])) a0 a1 a2 a3 a4 a5 a6 a7 := by kernel_rfl
theorem midrangeref25_Check.r8_eq {R : Type} (n : Nat) (rec : List Item → St → Option R) (K : AV → Option R) (z1 : Int) (z2 : ByteArray) (z3 : ByteArray) (z4 : List AV) (z5 : List AV) (z6 : List AV) (z7 : List AV) (z8 : Bool) (z9 : List AV) :
    atK G (midrangeref25_Check.C n) midrangeref25_Check.cut (fun S => finK G Tryz.f19.resultTypes.toList Tryz.f19.results.toList S K) rec midrangeref25_Check.t8 (midrangeref25_Check.s8 z1 z2 z3 z4 z5 z6 z7 z8 z9) = midrangeref25_Check.r8 n (fun z1 z2 z3 z4 z5 z6 z7 z8 z9 => rec midrangeref25_Check.t8 (midrangeref25_Check.s8 z1 z2 z3 z4 z5 z6 z7 z8 z9)) (fun z1 z2 z3 z4 z5 z6 z7 z8 z9 => rec midrangeref25_Check.t19 (midrangeref25_Check.s19 z1 z2 z3 z4 z5 z6 z7 z8 z9)) (fun z1 z2 z3 z4 z5 z6 z7 z8 z9 => rec midrangeref25_Check.t36 (midrangeref25_Check.s36 z1 z2 z3 z4 z5 z6 z7 z8 z9)) (fun z1 z2 z3 z4 z5 z6 z7 z8 z9 z10 => rec midrangeref25_Check.t41 (midrangeref25_Check.s41 z1 z2 z3 z4 z5 z6 z7 z8 z9 z10)) (fun z1 z2 z3 z4 z5 z6 z7 z8 z9 => rec midrangeref25_Check.t48 (midrangeref25_Check.s48 z1 z2 z3 z4 z5 z6 z7 z8 z9)) (fun p => K (.tup [vi p.1, vi p.2])) z1 z2 z3 z4 z5 z6 z7 z8 z9 := by kernel_rfl
theorem midrangeref25_Check.r19_eq {R : Type} (n : Nat) (rec : List Item → St → Option R) (K : AV → Option R) (z1 : Int) (z2 : ByteArray) (z3 : ByteArray) (z4 : List AV) (z5 : List AV) (z6 : List AV) (z7 : List AV) (z8 : Bool) (z9 : List AV) :
    atK G (midrangeref25_Check.C n) midrangeref25_Check.cut (fun S => finK G Tryz.f19.resultTypes.toList Tryz.f19.results.toList S K) rec midrangeref25_Check.t19 (midrangeref25_Check.s19 z1 z2 z3 z4 z5 z6 z7 z8 z9) = midrangeref25_Check.r19 n (fun z1 z2 z3 z4 z5 z6 z7 z8 z9 => rec midrangeref25_Check.t8 (midrangeref25_Check.s8 z1 z2 z3 z4 z5 z6 z7 z8 z9)) (fun z1 z2 z3 z4 z5 z6 z7 z8 z9 => rec midrangeref25_Check.t19 (midrangeref25_Check.s19 z1 z2 z3 z4 z5 z6 z7 z8 z9)) (fun z1 z2 z3 z4 z5 z6 z7 z8 z9 => rec midrangeref25_Check.t36 (midrangeref25_Check.s36 z1 z2 z3 z4 z5 z6 z7 z8 z9)) (fun z1 z2 z3 z4 z5 z6 z7 z8 z9 z10 => rec midrangeref25_Check.t41 (midrangeref25_Check.s41 z1 z2 z3 z4 z5 z6 z7 z8 z9 z10)) (fun z1 z2 z3 z4 z5 z6 z7 z8 z9 => rec midrangeref25_Check.t48 (midrangeref25_Check.s48 z1 z2 z3 z4 z5 z6 z7 z8 z9)) (fun p => K (.tup [vi p.1, vi p.2])) z1 z2 z3 z4 z5 z6 z7 z8 z9 := by kernel_rfl
theorem midrangeref25_Check.r36_eq {R : Type} (n : Nat) (rec : List Item → St → Option R) (K : AV → Option R) (z1 : Int) (z2 : ByteArray) (z3 : ByteArray) (z4 : List AV) (z5 : List AV) (z6 : List AV) (z7 : List AV) (z8 : Bool) (z9 : List AV) :
    atK G (midrangeref25_Check.C n) midrangeref25_Check.cut (fun S => finK G Tryz.f19.resultTypes.toList Tryz.f19.results.toList S K) rec midrangeref25_Check.t36 (midrangeref25_Check.s36 z1 z2 z3 z4 z5 z6 z7 z8 z9) = midrangeref25_Check.r36 n (fun z1 z2 z3 z4 z5 z6 z7 z8 z9 => rec midrangeref25_Check.t8 (midrangeref25_Check.s8 z1 z2 z3 z4 z5 z6 z7 z8 z9)) (fun z1 z2 z3 z4 z5 z6 z7 z8 z9 => rec midrangeref25_Check.t19 (midrangeref25_Check.s19 z1 z2 z3 z4 z5 z6 z7 z8 z9)) (fun z1 z2 z3 z4 z5 z6 z7 z8 z9 => rec midrangeref25_Check.t36 (midrangeref25_Check.s36 z1 z2 z3 z4 z5 z6 z7 z8 z9)) (fun z1 z2 z3 z4 z5 z6 z7 z8 z9 z10 => rec midrangeref25_Check.t41 (midrangeref25_Check.s41 z1 z2 z3 z4 z5 z6 z7 z8 z9 z10)) (fun z1 z2 z3 z4 z5 z6 z7 z8 z9 => rec midrangeref25_Check.t48 (midrangeref25_Check.s48 z1 z2 z3 z4 z5 z6 z7 z8 z9)) (fun p => K (.tup [vi p.1, vi p.2])) z1 z2 z3 z4 z5 z6 z7 z8 z9 := by kernel_rfl
theorem midrangeref25_Check.r41_eq {R : Type} (n : Nat) (rec : List Item → St → Option R) (K : AV → Option R) (z1 : Int) (z2 : Int) (z3 : ByteArray) (z4 : ByteArray) (z5 : List AV) (z6 : List AV) (z7 : List AV) (z8 : List AV) (z9 : Bool) (z10 : List AV) :
    atK G (midrangeref25_Check.C n) midrangeref25_Check.cut (fun S => finK G Tryz.f19.resultTypes.toList Tryz.f19.results.toList S K) rec midrangeref25_Check.t41 (midrangeref25_Check.s41 z1 z2 z3 z4 z5 z6 z7 z8 z9 z10) = midrangeref25_Check.r41 n (fun z1 z2 z3 z4 z5 z6 z7 z8 z9 => rec midrangeref25_Check.t8 (midrangeref25_Check.s8 z1 z2 z3 z4 z5 z6 z7 z8 z9)) (fun z1 z2 z3 z4 z5 z6 z7 z8 z9 => rec midrangeref25_Check.t19 (midrangeref25_Check.s19 z1 z2 z3 z4 z5 z6 z7 z8 z9)) (fun z1 z2 z3 z4 z5 z6 z7 z8 z9 => rec midrangeref25_Check.t36 (midrangeref25_Check.s36 z1 z2 z3 z4 z5 z6 z7 z8 z9)) (fun z1 z2 z3 z4 z5 z6 z7 z8 z9 z10 => rec midrangeref25_Check.t41 (midrangeref25_Check.s41 z1 z2 z3 z4 z5 z6 z7 z8 z9 z10)) (fun z1 z2 z3 z4 z5 z6 z7 z8 z9 => rec midrangeref25_Check.t48 (midrangeref25_Check.s48 z1 z2 z3 z4 z5 z6 z7 z8 z9)) (fun p => K (.tup [vi p.1, vi p.2])) z1 z2 z3 z4 z5 z6 z7 z8 z9 z10 := by kernel_rfl
theorem midrangeref25_Check.r48_eq {R : Type} (n : Nat) (rec : List Item → St → Option R) (K : AV → Option R) (z1 : Int) (z2 : ByteArray) (z3 : ByteArray) (z4 : List AV) (z5 : List AV) (z6 : List AV) (z7 : List AV) (z8 : Bool) (z9 : List AV) :
    atK G (midrangeref25_Check.C n) midrangeref25_Check.cut (fun S => finK G Tryz.f19.resultTypes.toList Tryz.f19.results.toList S K) rec midrangeref25_Check.t48 (midrangeref25_Check.s48 z1 z2 z3 z4 z5 z6 z7 z8 z9) = midrangeref25_Check.r48 n (fun z1 z2 z3 z4 z5 z6 z7 z8 z9 => rec midrangeref25_Check.t8 (midrangeref25_Check.s8 z1 z2 z3 z4 z5 z6 z7 z8 z9)) (fun z1 z2 z3 z4 z5 z6 z7 z8 z9 => rec midrangeref25_Check.t19 (midrangeref25_Check.s19 z1 z2 z3 z4 z5 z6 z7 z8 z9)) (fun z1 z2 z3 z4 z5 z6 z7 z8 z9 => rec midrangeref25_Check.t36 (midrangeref25_Check.s36 z1 z2 z3 z4 z5 z6 z7 z8 z9)) (fun z1 z2 z3 z4 z5 z6 z7 z8 z9 z10 => rec midrangeref25_Check.t41 (midrangeref25_Check.s41 z1 z2 z3 z4 z5 z6 z7 z8 z9 z10)) (fun z1 z2 z3 z4 z5 z6 z7 z8 z9 => rec midrangeref25_Check.t48 (midrangeref25_Check.s48 z1 z2 z3 z4 z5 z6 z7 z8 z9)) (fun p => K (.tup [vi p.1, vi p.2])) z1 z2 z3 z4 z5 z6 z7 z8 z9 := by kernel_rfl
noncomputable def midrangeref25_Check.l (n : Nat) : Nat → (Int → ByteArray → ByteArray → List AV → List AV → List AV → List AV → Bool → List AV → Option (Int × Int)) × (Int → ByteArray → ByteArray → List AV → List AV → List AV → List AV → Bool → List AV → Option (Int × Int)) × (Int → ByteArray → ByteArray → List AV → List AV → List AV → List AV → Bool → List AV → Option (Int × Int)) × (Int → Int → ByteArray → ByteArray → List AV → List AV → List AV → List AV → Bool → List AV → Option (Int × Int)) × (Int → ByteArray → ByteArray → List AV → List AV → List AV → List AV → Bool → List AV → Option (Int × Int))
  | 0 => ((fun _ _ _ _ _ _ _ _ _ => none), (fun _ _ _ _ _ _ _ _ _ => none), (fun _ _ _ _ _ _ _ _ _ => none), (fun _ _ _ _ _ _ _ _ _ _ => none), (fun _ _ _ _ _ _ _ _ _ => none))
  | m + 1 => (midrangeref25_Check.r8 n ((midrangeref25_Check.l n m).1) ((midrangeref25_Check.l n m).2.1) ((midrangeref25_Check.l n m).2.2.1) ((midrangeref25_Check.l n m).2.2.2.1) ((midrangeref25_Check.l n m).2.2.2.2) Option.some, midrangeref25_Check.r19 n ((midrangeref25_Check.l n m).1) ((midrangeref25_Check.l n m).2.1) ((midrangeref25_Check.l n m).2.2.1) ((midrangeref25_Check.l n m).2.2.2.1) ((midrangeref25_Check.l n m).2.2.2.2) Option.some, midrangeref25_Check.r36 n ((midrangeref25_Check.l n m).1) ((midrangeref25_Check.l n m).2.1) ((midrangeref25_Check.l n m).2.2.1) ((midrangeref25_Check.l n m).2.2.2.1) ((midrangeref25_Check.l n m).2.2.2.2) Option.some, midrangeref25_Check.r41 n ((midrangeref25_Check.l n m).1) ((midrangeref25_Check.l n m).2.1) ((midrangeref25_Check.l n m).2.2.1) ((midrangeref25_Check.l n m).2.2.2.1) ((midrangeref25_Check.l n m).2.2.2.2) Option.some, midrangeref25_Check.r48 n ((midrangeref25_Check.l n m).1) ((midrangeref25_Check.l n m).2.1) ((midrangeref25_Check.l n m).2.2.1) ((midrangeref25_Check.l n m).2.2.2.1) ((midrangeref25_Check.l n m).2.2.2.2) Option.some)
noncomputable def midrangeref25_Check.F (n : Nat) (a0 : ByteArray) (a1 : ByteArray) (a2 : List AV) (a3 : List AV) (a4 : List AV) (a5 : List AV) (a6 : Bool) (a7 : List AV) : Option (Int × Int) := midrangeref25_Check.e n ((midrangeref25_Check.l n n).1) ((midrangeref25_Check.l n n).2.1) ((midrangeref25_Check.l n n).2.2.1) ((midrangeref25_Check.l n n).2.2.2.1) ((midrangeref25_Check.l n n).2.2.2.2) Option.some a0 a1 a2 a3 a4 a5 a6 a7
noncomputable def midrangeref25_Check.dec (x : AV) : Option (Int × Int) := match x with | .tup [.v (.int .i64 p0), .v (.int .i64 p1)] => Option.some (p0, p1) | _ => none
theorem midrangeref25_Check.dec_inv {p : Int × Int} (y : AV) (h : midrangeref25_Check.dec y = some p) : y = .tup [vi p.1, vi p.2] := by
  unfold midrangeref25_Check.dec at h
  split at h
  · cases h; rfl
  · cases h
theorem midrangeref25_Check.l_eq (n m : Nat) : (∀ (z1 : Int) (z2 : ByteArray) (z3 : ByteArray) (z4 : List AV) (z5 : List AV) (z6 : List AV) (z7 : List AV) (z8 : Bool) (z9 : List AV), runK G (midrangeref25_Check.C n) midrangeref25_Check.cut (fun S => finK G Tryz.f19.resultTypes.toList Tryz.f19.results.toList S midrangeref25_Check.dec) m midrangeref25_Check.t8 (midrangeref25_Check.s8 z1 z2 z3 z4 z5 z6 z7 z8 z9) = ((midrangeref25_Check.l n m).1) z1 z2 z3 z4 z5 z6 z7 z8 z9) ∧ (∀ (z1 : Int) (z2 : ByteArray) (z3 : ByteArray) (z4 : List AV) (z5 : List AV) (z6 : List AV) (z7 : List AV) (z8 : Bool) (z9 : List AV), runK G (midrangeref25_Check.C n) midrangeref25_Check.cut (fun S => finK G Tryz.f19.resultTypes.toList Tryz.f19.results.toList S midrangeref25_Check.dec) m midrangeref25_Check.t19 (midrangeref25_Check.s19 z1 z2 z3 z4 z5 z6 z7 z8 z9) = ((midrangeref25_Check.l n m).2.1) z1 z2 z3 z4 z5 z6 z7 z8 z9) ∧ (∀ (z1 : Int) (z2 : ByteArray) (z3 : ByteArray) (z4 : List AV) (z5 : List AV) (z6 : List AV) (z7 : List AV) (z8 : Bool) (z9 : List AV), runK G (midrangeref25_Check.C n) midrangeref25_Check.cut (fun S => finK G Tryz.f19.resultTypes.toList Tryz.f19.results.toList S midrangeref25_Check.dec) m midrangeref25_Check.t36 (midrangeref25_Check.s36 z1 z2 z3 z4 z5 z6 z7 z8 z9) = ((midrangeref25_Check.l n m).2.2.1) z1 z2 z3 z4 z5 z6 z7 z8 z9) ∧ (∀ (z1 : Int) (z2 : Int) (z3 : ByteArray) (z4 : ByteArray) (z5 : List AV) (z6 : List AV) (z7 : List AV) (z8 : List AV) (z9 : Bool) (z10 : List AV), runK G (midrangeref25_Check.C n) midrangeref25_Check.cut (fun S => finK G Tryz.f19.resultTypes.toList Tryz.f19.results.toList S midrangeref25_Check.dec) m midrangeref25_Check.t41 (midrangeref25_Check.s41 z1 z2 z3 z4 z5 z6 z7 z8 z9 z10) = ((midrangeref25_Check.l n m).2.2.2.1) z1 z2 z3 z4 z5 z6 z7 z8 z9 z10) ∧ (∀ (z1 : Int) (z2 : ByteArray) (z3 : ByteArray) (z4 : List AV) (z5 : List AV) (z6 : List AV) (z7 : List AV) (z8 : Bool) (z9 : List AV), runK G (midrangeref25_Check.C n) midrangeref25_Check.cut (fun S => finK G Tryz.f19.resultTypes.toList Tryz.f19.results.toList S midrangeref25_Check.dec) m midrangeref25_Check.t48 (midrangeref25_Check.s48 z1 z2 z3 z4 z5 z6 z7 z8 z9) = ((midrangeref25_Check.l n m).2.2.2.2) z1 z2 z3 z4 z5 z6 z7 z8 z9) := by
  induction m with
  | zero => exact ⟨fun z1 z2 z3 z4 z5 z6 z7 z8 z9 => rfl, fun z1 z2 z3 z4 z5 z6 z7 z8 z9 => rfl, fun z1 z2 z3 z4 z5 z6 z7 z8 z9 => rfl, fun z1 z2 z3 z4 z5 z6 z7 z8 z9 z10 => rfl, fun z1 z2 z3 z4 z5 z6 z7 z8 z9 => rfl⟩
  | succ m ih =>
    obtain ⟨h8, h19, h36, h41, h48⟩ := ih
    have e8 : (fun (z1 : Int) (z2 : ByteArray) (z3 : ByteArray) (z4 : List AV) (z5 : List AV) (z6 : List AV) (z7 : List AV) (z8 : Bool) (z9 : List AV) => runK G (midrangeref25_Check.C n) midrangeref25_Check.cut (fun S => finK G Tryz.f19.resultTypes.toList Tryz.f19.results.toList S midrangeref25_Check.dec) m midrangeref25_Check.t8 (midrangeref25_Check.s8 z1 z2 z3 z4 z5 z6 z7 z8 z9)) = (midrangeref25_Check.l n m).1 := by funext z1 z2 z3 z4 z5 z6 z7 z8 z9; exact h8 z1 z2 z3 z4 z5 z6 z7 z8 z9
    have e19 : (fun (z1 : Int) (z2 : ByteArray) (z3 : ByteArray) (z4 : List AV) (z5 : List AV) (z6 : List AV) (z7 : List AV) (z8 : Bool) (z9 : List AV) => runK G (midrangeref25_Check.C n) midrangeref25_Check.cut (fun S => finK G Tryz.f19.resultTypes.toList Tryz.f19.results.toList S midrangeref25_Check.dec) m midrangeref25_Check.t19 (midrangeref25_Check.s19 z1 z2 z3 z4 z5 z6 z7 z8 z9)) = (midrangeref25_Check.l n m).2.1 := by funext z1 z2 z3 z4 z5 z6 z7 z8 z9; exact h19 z1 z2 z3 z4 z5 z6 z7 z8 z9
    have e36 : (fun (z1 : Int) (z2 : ByteArray) (z3 : ByteArray) (z4 : List AV) (z5 : List AV) (z6 : List AV) (z7 : List AV) (z8 : Bool) (z9 : List AV) => runK G (midrangeref25_Check.C n) midrangeref25_Check.cut (fun S => finK G Tryz.f19.resultTypes.toList Tryz.f19.results.toList S midrangeref25_Check.dec) m midrangeref25_Check.t36 (midrangeref25_Check.s36 z1 z2 z3 z4 z5 z6 z7 z8 z9)) = (midrangeref25_Check.l n m).2.2.1 := by funext z1 z2 z3 z4 z5 z6 z7 z8 z9; exact h36 z1 z2 z3 z4 z5 z6 z7 z8 z9
    have e41 : (fun (z1 : Int) (z2 : Int) (z3 : ByteArray) (z4 : ByteArray) (z5 : List AV) (z6 : List AV) (z7 : List AV) (z8 : List AV) (z9 : Bool) (z10 : List AV) => runK G (midrangeref25_Check.C n) midrangeref25_Check.cut (fun S => finK G Tryz.f19.resultTypes.toList Tryz.f19.results.toList S midrangeref25_Check.dec) m midrangeref25_Check.t41 (midrangeref25_Check.s41 z1 z2 z3 z4 z5 z6 z7 z8 z9 z10)) = (midrangeref25_Check.l n m).2.2.2.1 := by funext z1 z2 z3 z4 z5 z6 z7 z8 z9 z10; exact h41 z1 z2 z3 z4 z5 z6 z7 z8 z9 z10
    have e48 : (fun (z1 : Int) (z2 : ByteArray) (z3 : ByteArray) (z4 : List AV) (z5 : List AV) (z6 : List AV) (z7 : List AV) (z8 : Bool) (z9 : List AV) => runK G (midrangeref25_Check.C n) midrangeref25_Check.cut (fun S => finK G Tryz.f19.resultTypes.toList Tryz.f19.results.toList S midrangeref25_Check.dec) m midrangeref25_Check.t48 (midrangeref25_Check.s48 z1 z2 z3 z4 z5 z6 z7 z8 z9)) = (midrangeref25_Check.l n m).2.2.2.2 := by funext z1 z2 z3 z4 z5 z6 z7 z8 z9; exact h48 z1 z2 z3 z4 z5 z6 z7 z8 z9
    have q8 : ∀ (z1 : Int) (z2 : ByteArray) (z3 : ByteArray) (z4 : List AV) (z5 : List AV) (z6 : List AV) (z7 : List AV) (z8 : Bool) (z9 : List AV), runK G (midrangeref25_Check.C n) midrangeref25_Check.cut (fun S => finK G Tryz.f19.resultTypes.toList Tryz.f19.results.toList S midrangeref25_Check.dec) (m + 1) midrangeref25_Check.t8 (midrangeref25_Check.s8 z1 z2 z3 z4 z5 z6 z7 z8 z9) = ((midrangeref25_Check.l n (m + 1)).1) z1 z2 z3 z4 z5 z6 z7 z8 z9 := by
      intro z1 z2 z3 z4 z5 z6 z7 z8 z9
      rw [runK_succ]
      refine (midrangeref25_Check.r8_eq n _ midrangeref25_Check.dec z1 z2 z3 z4 z5 z6 z7 z8 z9).trans ?_
      rw [e8, e19, e36, e41, e48]
      rfl
    have q19 : ∀ (z1 : Int) (z2 : ByteArray) (z3 : ByteArray) (z4 : List AV) (z5 : List AV) (z6 : List AV) (z7 : List AV) (z8 : Bool) (z9 : List AV), runK G (midrangeref25_Check.C n) midrangeref25_Check.cut (fun S => finK G Tryz.f19.resultTypes.toList Tryz.f19.results.toList S midrangeref25_Check.dec) (m + 1) midrangeref25_Check.t19 (midrangeref25_Check.s19 z1 z2 z3 z4 z5 z6 z7 z8 z9) = ((midrangeref25_Check.l n (m + 1)).2.1) z1 z2 z3 z4 z5 z6 z7 z8 z9 := by
      intro z1 z2 z3 z4 z5 z6 z7 z8 z9
      rw [runK_succ]
      refine (midrangeref25_Check.r19_eq n _ midrangeref25_Check.dec z1 z2 z3 z4 z5 z6 z7 z8 z9).trans ?_
      rw [e8, e19, e36, e41, e48]
      rfl
    have q36 : ∀ (z1 : Int) (z2 : ByteArray) (z3 : ByteArray) (z4 : List AV) (z5 : List AV) (z6 : List AV) (z7 : List AV) (z8 : Bool) (z9 : List AV), runK G (midrangeref25_Check.C n) midrangeref25_Check.cut (fun S => finK G Tryz.f19.resultTypes.toList Tryz.f19.results.toList S midrangeref25_Check.dec) (m + 1) midrangeref25_Check.t36 (midrangeref25_Check.s36 z1 z2 z3 z4 z5 z6 z7 z8 z9) = ((midrangeref25_Check.l n (m + 1)).2.2.1) z1 z2 z3 z4 z5 z6 z7 z8 z9 := by
      intro z1 z2 z3 z4 z5 z6 z7 z8 z9
      rw [runK_succ]
      refine (midrangeref25_Check.r36_eq n _ midrangeref25_Check.dec z1 z2 z3 z4 z5 z6 z7 z8 z9).trans ?_
      rw [e8, e19, e36, e41, e48]
      rfl
    have q41 : ∀ (z1 : Int) (z2 : Int) (z3 : ByteArray) (z4 : ByteArray) (z5 : List AV) (z6 : List AV) (z7 : List AV) (z8 : List AV) (z9 : Bool) (z10 : List AV), runK G (midrangeref25_Check.C n) midrangeref25_Check.cut (fun S => finK G Tryz.f19.resultTypes.toList Tryz.f19.results.toList S midrangeref25_Check.dec) (m + 1) midrangeref25_Check.t41 (midrangeref25_Check.s41 z1 z2 z3 z4 z5 z6 z7 z8 z9 z10) = ((midrangeref25_Check.l n (m + 1)).2.2.2.1) z1 z2 z3 z4 z5 z6 z7 z8 z9 z10 := by
      intro z1 z2 z3 z4 z5 z6 z7 z8 z9 z10
      rw [runK_succ]
      refine (midrangeref25_Check.r41_eq n _ midrangeref25_Check.dec z1 z2 z3 z4 z5 z6 z7 z8 z9 z10).trans ?_
      rw [e8, e19, e36, e41, e48]
      rfl
    have q48 : ∀ (z1 : Int) (z2 : ByteArray) (z3 : ByteArray) (z4 : List AV) (z5 : List AV) (z6 : List AV) (z7 : List AV) (z8 : Bool) (z9 : List AV), runK G (midrangeref25_Check.C n) midrangeref25_Check.cut (fun S => finK G Tryz.f19.resultTypes.toList Tryz.f19.results.toList S midrangeref25_Check.dec) (m + 1) midrangeref25_Check.t48 (midrangeref25_Check.s48 z1 z2 z3 z4 z5 z6 z7 z8 z9) = ((midrangeref25_Check.l n (m + 1)).2.2.2.2) z1 z2 z3 z4 z5 z6 z7 z8 z9 := by
      intro z1 z2 z3 z4 z5 z6 z7 z8 z9
      rw [runK_succ]
      refine (midrangeref25_Check.r48_eq n _ midrangeref25_Check.dec z1 z2 z3 z4 z5 z6 z7 z8 z9).trans ?_
      rw [e8, e19, e36, e41, e48]
      rfl
    exact ⟨q8, q19, q36, q41, q48⟩
theorem midrangeref25_Check.hands (n : Nat) (a0 : ByteArray) (a1 : ByteArray) (a2 : List AV) (a3 : List AV) (a4 : List AV) (a5 : List AV) (a6 : Bool) (a7 : List AV) {p : Int × Int} (h : midrangeref25_Check.F n a0 a1 a2 a3 a4 a5 a6 a7 = some p) : HandsIn Tryz.prog 19 [AV.agg [vs a0, vs a1, .sl ⟨true, 9⟩ 1 a2, .sl ⟨true, 95⟩ 3 a3, .sl ⟨true, 97⟩ 4 a4, .sl ⟨true, 111⟩ 2 a5, vb a6, .sl ⟨false, 100⟩ 2 a7]] (.tup [vi p.1, vi p.2]) := by
  refine hands_of cfg mixed globs rfl (midrangeref25_Check.tells n) (fn := Tryz.f19) Tryz.func19 (by kernel_rfl) (by kernel_rfl) (cut := midrangeref25_Check.cut) (K := midrangeref25_Check.dec) (r := p) (n := n) midrangeref25_Check.dec_inv ?_
  rw [funK_getD (by kernel_rfl)]
  have h1 := midrangeref25_Check.e_eq n (runK G (midrangeref25_Check.C n) midrangeref25_Check.cut (fun S => finK G Tryz.f19.resultTypes.toList Tryz.f19.results.toList S midrangeref25_Check.dec) n) midrangeref25_Check.dec a0 a1 a2 a3 a4 a5 a6 a7
  have hl := midrangeref25_Check.l_eq n n
  simp only [hl.1, hl.2.1, hl.2.2.1, hl.2.2.2.1, hl.2.2.2.2] at h1
  exact h1.trans h
noncomputable def midrangeref25_Check.via {R : Type} (n : Nat) (xs : List AV) : (AV → Option R) → Option R := match xs with | [.agg [.v (.string a0), .v (.string a1), .sl ⟨true, 9⟩ 1 a2, .sl ⟨true, 95⟩ 3 a3, .sl ⟨true, 97⟩ 4 a4, .sl ⟨true, 111⟩ 2 a5, .v (.bool a6), .sl ⟨false, 100⟩ 2 a7]] => fun K => (midrangeref25_Check.F n a0 a1 a2 a3 a4 a5 a6 a7).bind fun p => K (.tup [vi p.1, vi p.2]) | _ => fun _ => none
theorem midrangeref25_Check.tells1 {R : Type} (n : Nat) (xs : List AV) : Tells1 (R := R) Tryz.prog 19 xs (midrangeref25_Check.via n xs) := by
  unfold midrangeref25_Check.via
  split
  · exact Tells1.of (fun p hp => (midrangeref25_Check.hands n _ _ _ _ _ _ _ _ hp).hands rfl)
  · exact Tells1.none
end Go.Proofs.YtmpglmcjoelciaaGreatDoor.Ev

/- midrange/midrangelaw25.DdsLogicals, out of its evaluation. Printed by the session's own program. -/
namespace Go.Proofs.YtmpglmcjoelciaaGreatDoor.Ev
open Go Go.Proofs Go.Proofs.Ev
set_option linter.unusedVariables false
set_option maxRecDepth 100000
/-! midrange/midrangelaw25.DdsLogicals: function 4 -/
noncomputable def midrangelaw25_DdsLogicals.e {R : Type} (n : Nat)  (k : Bool → Option R) (a0 : ByteArray) (a1 : ByteArray) (a2 : List AV) (a3 : List AV) (a4 : List AV) (a5 : List AV) (a6 : Bool) (a7 : List AV) : Option R :=
  (midrangelaw25_awake.F n ).bind fun p1 =>
  bif !p1 then (k false) else ((midrangelaw25_FewLogical.F n a0 a1 a2 a3 a4 a5 a6 a7).bind fun p2 =>
  bif !p2 then (k true) else ((midrangeref25_OwnLogical.F n a0 a1 a2 a3 a4 a5 a6 a7).bind fun p3 =>
  (dds_CheckLogical.F n p3.1 p3.2.1 p3.2.2.1 p3.2.2.2.1 p3.2.2.2.2.1 p3.2.2.2.2.2.1 p3.2.2.2.2.2.2.1 p3.2.2.2.2.2.2.2).bind fun p4 =>
  (midrangeref25_Check.F n a0 a1 a2 a3 a4 a5 a6 a7).bind fun p5 =>
  bif p4.2 == p5.2 then (k (p4.1 == p5.1)) else (k false)))
noncomputable def midrangelaw25_DdsLogicals.C {R : Type} (n : Nat) (f : FuncId) (xs : List AV) : (AV → Option R) → Option R :=
  bif Nat.beq f 12 then midrangelaw25_awake.via n xs else bif Nat.beq f 16 then midrangelaw25_FewLogical.via n xs else bif Nat.beq f 17 then dds_CheckLogical.via n xs else bif Nat.beq f 18 then midrangeref25_OwnLogical.via n xs else bif Nat.beq f 19 then midrangeref25_Check.via n xs else fun _ => none
theorem midrangelaw25_DdsLogicals.tells {R : Type} (n : Nat) : Tells (R := R) Tryz.prog (midrangelaw25_DdsLogicals.C n) := fun _ xs => tells_at (midrangelaw25_awake.tells1 n xs) (tells_at (midrangelaw25_FewLogical.tells1 n xs) (tells_at (dds_CheckLogical.tells1 n xs) (tells_at (midrangeref25_OwnLogical.tells1 n xs) (tells_at (midrangeref25_Check.tells1 n xs) (Tells1.none)))))
noncomputable def midrangelaw25_DdsLogicals.cut (r : Nat) : Option Keep := match r with  | _ => none
theorem midrangelaw25_DdsLogicals.e_eq {R : Type} (n : Nat) (rec : List Item → St → Option R) (K : AV → Option R) (a0 : ByteArray) (a1 : ByteArray) (a2 : List AV) (a3 : List AV) (a4 : List AV) (a5 : List AV) (a6 : Bool) (a7 : List AV) :
    goK G (midrangelaw25_DdsLogicals.C n) midrangelaw25_DdsLogicals.cut (fun S => finK G Tryz.f4.resultTypes.toList Tryz.f4.results.toList S K) rec 1000 [.code (Tryz.f4.body.getD .skip)] (Ev.start Tryz.f4 [AV.agg [vs a0, vs a1, .sl ⟨true, 9⟩ 1 a2, .sl ⟨true, 95⟩ 3 a3, .sl ⟨true, 97⟩ 4 a4, .sl ⟨true, 111⟩ 2 a5, vb a6, .sl ⟨false, 100⟩ 2 a7]]) = midrangelaw25_DdsLogicals.e n  (fun p => K (vb p)) a0 a1 a2 a3 a4 a5 a6 a7 := by kernel_rfl
noncomputable def midrangelaw25_DdsLogicals.F (n : Nat) (a0 : ByteArray) (a1 : ByteArray) (a2 : List AV) (a3 : List AV) (a4 : List AV) (a5 : List AV) (a6 : Bool) (a7 : List AV) : Option (Bool) := midrangelaw25_DdsLogicals.e n  Option.some a0 a1 a2 a3 a4 a5 a6 a7
noncomputable def midrangelaw25_DdsLogicals.dec (x : AV) : Option (Bool) := match x with | .v (.bool p0) => Option.some p0 | _ => none
theorem midrangelaw25_DdsLogicals.dec_inv {p : Bool} (y : AV) (h : midrangelaw25_DdsLogicals.dec y = some p) : y = vb p := by
  unfold midrangelaw25_DdsLogicals.dec at h
  split at h
  · cases h; rfl
  · cases h
theorem midrangelaw25_DdsLogicals.hands (n : Nat) (a0 : ByteArray) (a1 : ByteArray) (a2 : List AV) (a3 : List AV) (a4 : List AV) (a5 : List AV) (a6 : Bool) (a7 : List AV) {p : Bool} (h : midrangelaw25_DdsLogicals.F n a0 a1 a2 a3 a4 a5 a6 a7 = some p) : HandsIn Tryz.prog 4 [AV.agg [vs a0, vs a1, .sl ⟨true, 9⟩ 1 a2, .sl ⟨true, 95⟩ 3 a3, .sl ⟨true, 97⟩ 4 a4, .sl ⟨true, 111⟩ 2 a5, vb a6, .sl ⟨false, 100⟩ 2 a7]] (vb p) := by
  refine hands_of cfg mixed globs rfl (midrangelaw25_DdsLogicals.tells n) (fn := Tryz.f4) Tryz.func4 (by kernel_rfl) (by kernel_rfl) (cut := midrangelaw25_DdsLogicals.cut) (K := midrangelaw25_DdsLogicals.dec) (r := p) (n := n) midrangelaw25_DdsLogicals.dec_inv ?_
  rw [funK_getD (by kernel_rfl)]
  have h1 := midrangelaw25_DdsLogicals.e_eq n (runK G (midrangelaw25_DdsLogicals.C n) midrangelaw25_DdsLogicals.cut (fun S => finK G Tryz.f4.resultTypes.toList Tryz.f4.results.toList S midrangelaw25_DdsLogicals.dec) n) midrangelaw25_DdsLogicals.dec a0 a1 a2 a3 a4 a5 a6 a7
  exact h1.trans h
end Go.Proofs.YtmpglmcjoelciaaGreatDoor.Ev

/- What the rounds of chapter's functions are, one on. Printed by the session's own program. -/
namespace Go.Proofs.YtmpglmcjoelciaaGreatDoor.Ev
open Go Go.Proofs Go.Proofs.Ev
theorem midrangelaw25_fewKeys.at2 (n m : Nat) : midrangelaw25_fewKeys.l n (m + 1) = midrangelaw25_fewKeys.r2 n (midrangelaw25_fewKeys.l n m) Option.some := rfl
theorem midrangelaw25_FewLogical.at2 (n m : Nat) : (midrangelaw25_FewLogical.l n (m + 1)).1 = midrangelaw25_FewLogical.r2 n ((midrangelaw25_FewLogical.l n m).1) ((midrangelaw25_FewLogical.l n m).2.1) ((midrangelaw25_FewLogical.l n m).2.2.1) ((midrangelaw25_FewLogical.l n m).2.2.2.1) ((midrangelaw25_FewLogical.l n m).2.2.2.2.1) ((midrangelaw25_FewLogical.l n m).2.2.2.2.2) Option.some := rfl
theorem midrangelaw25_FewLogical.at4 (n m : Nat) : (midrangelaw25_FewLogical.l n (m + 1)).2.1 = midrangelaw25_FewLogical.r4 n ((midrangelaw25_FewLogical.l n m).1) ((midrangelaw25_FewLogical.l n m).2.1) ((midrangelaw25_FewLogical.l n m).2.2.1) ((midrangelaw25_FewLogical.l n m).2.2.2.1) ((midrangelaw25_FewLogical.l n m).2.2.2.2.1) ((midrangelaw25_FewLogical.l n m).2.2.2.2.2) Option.some := rfl
theorem midrangelaw25_FewLogical.at9 (n m : Nat) : (midrangelaw25_FewLogical.l n (m + 1)).2.2.1 = midrangelaw25_FewLogical.r9 n ((midrangelaw25_FewLogical.l n m).1) ((midrangelaw25_FewLogical.l n m).2.1) ((midrangelaw25_FewLogical.l n m).2.2.1) ((midrangelaw25_FewLogical.l n m).2.2.2.1) ((midrangelaw25_FewLogical.l n m).2.2.2.2.1) ((midrangelaw25_FewLogical.l n m).2.2.2.2.2) Option.some := rfl
theorem midrangelaw25_FewLogical.at14 (n m : Nat) : (midrangelaw25_FewLogical.l n (m + 1)).2.2.2.1 = midrangelaw25_FewLogical.r14 n ((midrangelaw25_FewLogical.l n m).1) ((midrangelaw25_FewLogical.l n m).2.1) ((midrangelaw25_FewLogical.l n m).2.2.1) ((midrangelaw25_FewLogical.l n m).2.2.2.1) ((midrangelaw25_FewLogical.l n m).2.2.2.2.1) ((midrangelaw25_FewLogical.l n m).2.2.2.2.2) Option.some := rfl
theorem midrangelaw25_FewLogical.at19 (n m : Nat) : (midrangelaw25_FewLogical.l n (m + 1)).2.2.2.2.1 = midrangelaw25_FewLogical.r19 n ((midrangelaw25_FewLogical.l n m).1) ((midrangelaw25_FewLogical.l n m).2.1) ((midrangelaw25_FewLogical.l n m).2.2.1) ((midrangelaw25_FewLogical.l n m).2.2.2.1) ((midrangelaw25_FewLogical.l n m).2.2.2.2.1) ((midrangelaw25_FewLogical.l n m).2.2.2.2.2) Option.some := rfl
theorem midrangelaw25_FewLogical.at24 (n m : Nat) : (midrangelaw25_FewLogical.l n (m + 1)).2.2.2.2.2 = midrangelaw25_FewLogical.r24 n ((midrangelaw25_FewLogical.l n m).1) ((midrangelaw25_FewLogical.l n m).2.1) ((midrangelaw25_FewLogical.l n m).2.2.1) ((midrangelaw25_FewLogical.l n m).2.2.2.1) ((midrangelaw25_FewLogical.l n m).2.2.2.2.1) ((midrangelaw25_FewLogical.l n m).2.2.2.2.2) Option.some := rfl
theorem dds_isName.at4 (n m : Nat) : (dds_isName.l n (m + 1)).1 = dds_isName.r4 n ((dds_isName.l n m).1) ((dds_isName.l n m).2.1) ((dds_isName.l n m).2.2) Option.some := rfl
theorem dds_isName.at7 (n m : Nat) : (dds_isName.l n (m + 1)).2.1 = dds_isName.r7 n ((dds_isName.l n m).1) ((dds_isName.l n m).2.1) ((dds_isName.l n m).2.2) Option.some := rfl
theorem dds_isName.at8 (n m : Nat) : (dds_isName.l n (m + 1)).2.2 = dds_isName.r8 n ((dds_isName.l n m).1) ((dds_isName.l n m).2.1) ((dds_isName.l n m).2.2) Option.some := rfl
theorem dds_first.at2 (n m : Nat) : dds_first.l n (m + 1) = dds_first.r2 n (dds_first.l n m) Option.some := rfl
theorem slices_Index_string_string.at2 (n m : Nat) : slices_Index_string_string.l n (m + 1) = slices_Index_string_string.r2 n (slices_Index_string_string.l n m) Option.some := rfl
theorem dds_basesErr.at5 (n m : Nat) : dds_basesErr.l n (m + 1) = dds_basesErr.r5 n (dds_basesErr.l n m) Option.some := rfl
theorem dds_namesOf.at3 (n m : Nat) : dds_namesOf.l n (m + 1) = dds_namesOf.r3 n (dds_namesOf.l n m) Option.some := rfl
theorem dds_fieldsErr.at6 (n m : Nat) : dds_fieldsErr.l n (m + 1) = dds_fieldsErr.r6 n (dds_fieldsErr.l n m) Option.some := rfl
theorem slices_Index_bool_bool.at2 (n m : Nat) : slices_Index_bool_bool.l n (m + 1) = slices_Index_bool_bool.r2 n (slices_Index_bool_bool.l n m) Option.some := rfl
theorem dds_joinsErr.at6 (n m : Nat) : dds_joinsErr.l n (m + 1) = dds_joinsErr.r6 n (dds_joinsErr.l n m) Option.some := rfl
theorem dds_keysErr.at5 (n m : Nat) : dds_keysErr.l n (m + 1) = dds_keysErr.r5 n (dds_keysErr.l n m) Option.some := rfl
theorem dds_rulesErr.at5 (n m : Nat) : (dds_rulesErr.l n (m + 1)).1 = dds_rulesErr.r5 n ((dds_rulesErr.l n m).1) ((dds_rulesErr.l n m).2) Option.some := rfl
theorem dds_rulesErr.at10 (n m : Nat) : (dds_rulesErr.l n (m + 1)).2 = dds_rulesErr.r10 n ((dds_rulesErr.l n m).1) ((dds_rulesErr.l n m).2) Option.some := rfl
theorem dds_CheckLogical.at4 (n m : Nat) : (dds_CheckLogical.l n (m + 1)).1 = dds_CheckLogical.r4 n ((dds_CheckLogical.l n m).1) ((dds_CheckLogical.l n m).2.1) ((dds_CheckLogical.l n m).2.2.1) ((dds_CheckLogical.l n m).2.2.2.1) ((dds_CheckLogical.l n m).2.2.2.2.1) ((dds_CheckLogical.l n m).2.2.2.2.2.1) ((dds_CheckLogical.l n m).2.2.2.2.2.2) Option.some := rfl
theorem dds_CheckLogical.at6 (n m : Nat) : (dds_CheckLogical.l n (m + 1)).2.1 = dds_CheckLogical.r6 n ((dds_CheckLogical.l n m).1) ((dds_CheckLogical.l n m).2.1) ((dds_CheckLogical.l n m).2.2.1) ((dds_CheckLogical.l n m).2.2.2.1) ((dds_CheckLogical.l n m).2.2.2.2.1) ((dds_CheckLogical.l n m).2.2.2.2.2.1) ((dds_CheckLogical.l n m).2.2.2.2.2.2) Option.some := rfl
theorem dds_CheckLogical.at6x1 (n m : Nat) : (dds_CheckLogical.l n (m + 1)).2.2.1 = dds_CheckLogical.r6x1 n ((dds_CheckLogical.l n m).1) ((dds_CheckLogical.l n m).2.1) ((dds_CheckLogical.l n m).2.2.1) ((dds_CheckLogical.l n m).2.2.2.1) ((dds_CheckLogical.l n m).2.2.2.2.1) ((dds_CheckLogical.l n m).2.2.2.2.2.1) ((dds_CheckLogical.l n m).2.2.2.2.2.2) Option.some := rfl
theorem dds_CheckLogical.at6x2 (n m : Nat) : (dds_CheckLogical.l n (m + 1)).2.2.2.1 = dds_CheckLogical.r6x2 n ((dds_CheckLogical.l n m).1) ((dds_CheckLogical.l n m).2.1) ((dds_CheckLogical.l n m).2.2.1) ((dds_CheckLogical.l n m).2.2.2.1) ((dds_CheckLogical.l n m).2.2.2.2.1) ((dds_CheckLogical.l n m).2.2.2.2.2.1) ((dds_CheckLogical.l n m).2.2.2.2.2.2) Option.some := rfl
theorem dds_CheckLogical.at6x3 (n m : Nat) : (dds_CheckLogical.l n (m + 1)).2.2.2.2.1 = dds_CheckLogical.r6x3 n ((dds_CheckLogical.l n m).1) ((dds_CheckLogical.l n m).2.1) ((dds_CheckLogical.l n m).2.2.1) ((dds_CheckLogical.l n m).2.2.2.1) ((dds_CheckLogical.l n m).2.2.2.2.1) ((dds_CheckLogical.l n m).2.2.2.2.2.1) ((dds_CheckLogical.l n m).2.2.2.2.2.2) Option.some := rfl
theorem dds_CheckLogical.at6x4 (n m : Nat) : (dds_CheckLogical.l n (m + 1)).2.2.2.2.2.1 = dds_CheckLogical.r6x4 n ((dds_CheckLogical.l n m).1) ((dds_CheckLogical.l n m).2.1) ((dds_CheckLogical.l n m).2.2.1) ((dds_CheckLogical.l n m).2.2.2.1) ((dds_CheckLogical.l n m).2.2.2.2.1) ((dds_CheckLogical.l n m).2.2.2.2.2.1) ((dds_CheckLogical.l n m).2.2.2.2.2.2) Option.some := rfl
theorem dds_CheckLogical.at7 (n m : Nat) : (dds_CheckLogical.l n (m + 1)).2.2.2.2.2.2 = dds_CheckLogical.r7 n ((dds_CheckLogical.l n m).1) ((dds_CheckLogical.l n m).2.1) ((dds_CheckLogical.l n m).2.2.1) ((dds_CheckLogical.l n m).2.2.2.1) ((dds_CheckLogical.l n m).2.2.2.2.1) ((dds_CheckLogical.l n m).2.2.2.2.2.1) ((dds_CheckLogical.l n m).2.2.2.2.2.2) Option.some := rfl
theorem midrangeref25_OwnLogical.at7 (n m : Nat) : midrangeref25_OwnLogical.l n (m + 1) = midrangeref25_OwnLogical.r7 n (midrangeref25_OwnLogical.l n m) Option.some := rfl
theorem midrangebase_IsName.at4 (n m : Nat) : (midrangebase_IsName.l n (m + 1)).1 = midrangebase_IsName.r4 n ((midrangebase_IsName.l n m).1) ((midrangebase_IsName.l n m).2.1) ((midrangebase_IsName.l n m).2.2) Option.some := rfl
theorem midrangebase_IsName.at5 (n m : Nat) : (midrangebase_IsName.l n (m + 1)).2.1 = midrangebase_IsName.r5 n ((midrangebase_IsName.l n m).1) ((midrangebase_IsName.l n m).2.1) ((midrangebase_IsName.l n m).2.2) Option.some := rfl
theorem midrangebase_IsName.at8 (n m : Nat) : (midrangebase_IsName.l n (m + 1)).2.2 = midrangebase_IsName.r8 n ((midrangebase_IsName.l n m).1) ((midrangebase_IsName.l n m).2.1) ((midrangebase_IsName.l n m).2.2) Option.some := rfl
theorem midrangebase_IndexOfString.at2 (n m : Nat) : midrangebase_IndexOfString.l n (m + 1) = midrangebase_IndexOfString.r2 n (midrangebase_IndexOfString.l n m) Option.some := rfl
theorem midrangeref25_FieldOf.at2 (n m : Nat) : midrangeref25_FieldOf.l n (m + 1) = midrangeref25_FieldOf.r2 n (midrangeref25_FieldOf.l n m) Option.some := rfl
theorem midrangeref25_joinsErr.at5 (n m : Nat) : (midrangeref25_joinsErr.l n (m + 1)).1 = midrangeref25_joinsErr.r5 n ((midrangeref25_joinsErr.l n m).1) ((midrangeref25_joinsErr.l n m).2) Option.some := rfl
theorem midrangeref25_joinsErr.at18 (n m : Nat) : (midrangeref25_joinsErr.l n (m + 1)).2 = midrangeref25_joinsErr.r18 n ((midrangeref25_joinsErr.l n m).1) ((midrangeref25_joinsErr.l n m).2) Option.some := rfl
theorem midrangeref25_ruleErr.at4 (n m : Nat) : midrangeref25_ruleErr.l n (m + 1) = midrangeref25_ruleErr.r4 n (midrangeref25_ruleErr.l n m) Option.some := rfl
theorem midrangeref25_Check.at8 (n m : Nat) : (midrangeref25_Check.l n (m + 1)).1 = midrangeref25_Check.r8 n ((midrangeref25_Check.l n m).1) ((midrangeref25_Check.l n m).2.1) ((midrangeref25_Check.l n m).2.2.1) ((midrangeref25_Check.l n m).2.2.2.1) ((midrangeref25_Check.l n m).2.2.2.2) Option.some := rfl
theorem midrangeref25_Check.at19 (n m : Nat) : (midrangeref25_Check.l n (m + 1)).2.1 = midrangeref25_Check.r19 n ((midrangeref25_Check.l n m).1) ((midrangeref25_Check.l n m).2.1) ((midrangeref25_Check.l n m).2.2.1) ((midrangeref25_Check.l n m).2.2.2.1) ((midrangeref25_Check.l n m).2.2.2.2) Option.some := rfl
theorem midrangeref25_Check.at36 (n m : Nat) : (midrangeref25_Check.l n (m + 1)).2.2.1 = midrangeref25_Check.r36 n ((midrangeref25_Check.l n m).1) ((midrangeref25_Check.l n m).2.1) ((midrangeref25_Check.l n m).2.2.1) ((midrangeref25_Check.l n m).2.2.2.1) ((midrangeref25_Check.l n m).2.2.2.2) Option.some := rfl
theorem midrangeref25_Check.at41 (n m : Nat) : (midrangeref25_Check.l n (m + 1)).2.2.2.1 = midrangeref25_Check.r41 n ((midrangeref25_Check.l n m).1) ((midrangeref25_Check.l n m).2.1) ((midrangeref25_Check.l n m).2.2.1) ((midrangeref25_Check.l n m).2.2.2.1) ((midrangeref25_Check.l n m).2.2.2.2) Option.some := rfl
theorem midrangeref25_Check.at48 (n m : Nat) : (midrangeref25_Check.l n (m + 1)).2.2.2.2 = midrangeref25_Check.r48 n ((midrangeref25_Check.l n m).1) ((midrangeref25_Check.l n m).2.1) ((midrangeref25_Check.l n m).2.2.1) ((midrangeref25_Check.l n m).2.2.2.1) ((midrangeref25_Check.l n m).2.2.2.2) Option.some := rfl
end Go.Proofs.YtmpglmcjoelciaaGreatDoor.Ev

/- Plain words on numbers and bytes; numbers of at most three digits, as chapter 25 and its reference read and write them. -/
namespace Go.Proofs.YtmpglmcjoelciaaGreatDoor.Ev
open Go Go.Proofs Go.Proofs.Ev
set_option linter.unusedVariables false
theorem w64 {x : Int} (h1 : -9223372036854775808 ≤ x) (h2 : x ≤ 9223372036854775807) : IntKind.i64.wrap x = x := by rw [IntKind.wrap_i64]; omega
theorem cond_t {α : Type} {p : Prop} [Decidable p] (h : p) (x y : α) : (bif decide p then x else y) = x := by simp [h]
theorem cond_f {α : Type} {p : Prop} [Decidable p] (h : ¬ p) (x y : α) : (bif decide p then x else y) = y := by simp [h]
theorem within_t {i : Nat} {len : Nat} (h : i < len) : (decide ((0 : Int) ≤ (i : Int)) && decide ((i : Int) < (len : Int))) = true := by
  rw [Bool.and_eq_true, decide_eq_true_eq, decide_eq_true_eq]; omega
theorem upto_t {i : Nat} {len : Nat} (h : i ≤ len) : (decide ((0 : Int) ≤ (i : Int)) && decide ((i : Int) ≤ (len : Int))) = true := by
  rw [Bool.and_eq_true, decide_eq_true_eq, decide_eq_true_eq]; omega
theorem wsucc {i : Nat} (h : i ≤ 1000000000) : IntKind.i64.wrap ((i : Int) + 1) = ((i + 1 : Nat) : Int) := by rw [w64] <;> omega
abbrev bs (l : List UInt8) : ByteArray := ⟨l.toArray⟩
theorem bs_size (l : List UInt8) : (bs l).size = l.length := rfl
theorem bs_getD (l : List UInt8) (i : Nat) : (bs l).data.getD i 0 = l.getD i 0 := by
  rw [Array.getD_eq_getD_getElem?, List.getD_eq_getElem?_getD]
  simp
theorem getD_at {l : List UInt8} {i : Nat} (hi : i < l.length) : (bs l).data.getD i 0 = l[i] := by
  rw [bs_getD]; simp [List.getD_eq_getElem?_getD, hi]
theorem bs_toList (l : List UInt8) : (bs l).toList = l := by rw [ByteArray.toList_eq]
def isD (c : UInt8) : Bool := decide (48 ≤ c.toNat) && decide (c.toNat ≤ 57)
def valA (a : Nat) (l : List UInt8) : Nat := l.foldl (fun a b => a * 10 + (b.toNat - 48)) a
/-- How many digits stand ahead. -/
def lead (l : List UInt8) : Nat := (l.takeWhile isD).length
end Go.Proofs.YtmpglmcjoelciaaGreatDoor.Ev

/- The types of chapter 25: what reads a text as a type, the program's way and the reference's. -/
namespace Go.Proofs.YtmpglmcjoelciaaGreatDoor.Ev
open Go Go.Proofs Go.Proofs.Ev
set_option linter.unusedVariables false
theorem cond_eq (n : Nat) (b : Bool) (e : Int) : dds_cond.F n b e = some (if b then e else 0) := by cases b <;> rfl
theorem Within_eq (n : Nat) (a b c : Int) : midrangebase_Within.F n a b c = some (decide (b ≤ a ∧ a ≤ c)) := by
  unfold midrangebase_Within.F midrangebase_Within.e
  by_cases h : b ≤ a
  · rw [cond_t h]; simp [h]
  · rw [cond_f h]; simp [h]
/-- The first that is not 0. -/
def fz : List Int → Int
  | [] => 0
  | x :: r => if x ≠ 0 then x else fz r
theorem first_l (n : Nat) (xs : List Int) (hx : xs.length ≤ 1000) : ∀ (d i m : Nat), i + d = xs.length → d < m → dds_first.l n m (xs.map vi) xs.length i = some (fz (xs.drop i))
  | _, _, 0, _, h => absurd h (by omega)
  | 0, i, m + 1, h, _ => by
    show dds_first.r2 n (dds_first.l n m) some _ _ _ = _
    unfold dds_first.r2
    rw [cond_f (by omega), List.drop_of_length_le (by omega)]
    rfl
  | d + 1, i, m + 1, h, hm => by
    have hi : i < xs.length := by omega
    have ih := first_l n xs hx d (i + 1) m (by omega) (by omega)
    show dds_first.r2 n (dds_first.l n m) some _ _ _ = _
    unfold dds_first.r2
    rw [cond_t (by omega), List.length_map, within_t hi, cond_true]
    have e : (xs.map vi).getD (((i : Nat) : Int)).toNat AV.undef = vi xs[i] := by simp [List.getD_eq_getElem?_getD, hi]
    rw [e, List.drop_eq_getElem_cons hi]
    show (bif xs[i] != 0 then some xs[i] else _) = _
    by_cases h0 : xs[i] = 0
    · have : (xs[i] != 0) = false := by simp [h0]
      rw [this, cond_false, wsucc (by omega), ih]
      simp [fz, h0]
    · have : (xs[i] != 0) = true := by simp [h0]
      rw [this, cond_true]
      simp [fz, h0]
theorem first_eq {n : Nat} (xs : List Int) (hx : xs.length ≤ 1000) (hn : 1001 ≤ n) : dds_first.F n (xs.map vi) = some (fz xs) := by
  unfold dds_first.F dds_first.e
  rw [List.length_map]
  exact first_l n xs hx xs.length 0 n (by omega) (by omega)
theorem first2 {n : Nat} (hn : 1001 ≤ n) (a b : Int) : dds_first.F n [vi a, vi b] = some (if a ≠ 0 then a else b) := by
  have := first_eq (n := n) [a, b] (by simp) hn
  rw [show ([a, b] : List Int).map vi = [vi a, vi b] from rfl] at this
  rw [this]
  by_cases h : a = 0 <;> by_cases h2 : b = 0 <;> simp [fz, h, h2]
theorem beq_int (a b : Int) : (a == b) = decide (a = b) := rfl
/-- The kind with a letter. -/
def kd (c : UInt8) : Int := Lib.indexByte [65, 80, 83, 66] c
theorem empty_eq (l : List UInt8) : ((bs l).toList == (⟨#[]⟩ : ByteArray).toList) = decide (l = []) := by
  rw [bs_toList, show (⟨#[]⟩ : ByteArray).toList = ([] : List UInt8) from bs_toList []]
  cases l <;> rfl
end Go.Proofs.YtmpglmcjoelciaaGreatDoor.Ev

/- P25.1, types: the type with a text and the text of a type are as specified. -/
namespace Go.Proofs.YtmpglmcjoelciaaGreatDoor.Ev
open Go Go.Proofs Go.Proofs.Ev
set_option linter.unusedVariables false
theorem decS {k : Nat} (h : ¬ k < 10) : Lib.decDigits k = Lib.decDigits (k / 10) ++ [UInt8.ofNat (48 + k % 10)] := by rw [Lib.decDigits, dif_neg h]
theorem awake_eq (n : Nat) : midrangelaw25_awake.F n = some true := rfl
end Go.Proofs.YtmpglmcjoelciaaGreatDoor.Ev

/- The words of a line: the program's way. -/
namespace Go.Proofs.YtmpglmcjoelciaaGreatDoor.Ev
open Go Go.Proofs Go.Proofs.Ev
set_option linter.unusedVariables false
theorem byte_ne (c u : UInt8) (k : Nat) (hu : u.toNat = k) : ((((c.toNat : Nat) : Int)) != ((k : Nat) : Int)) = decide (c ≠ u) := by
  have : (((c.toNat : Nat) : Int) = ((k : Nat) : Int)) ↔ c = u := by
    constructor
    · intro h
      apply UInt8.toNat_inj.1
      omega
    · rintro rfl
      omega
  rw [Bool.eq_iff_iff, bne_iff_ne, decide_eq_true_eq]
  exact not_congr this
theorem byte_eq (c u : UInt8) (k : Nat) (hu : u.toNat = k) : ((((c.toNat : Nat) : Int)) == ((k : Nat) : Int)) = decide (c = u) := by
  have : (((c.toNat : Nat) : Int) = ((k : Nat) : Int)) ↔ c = u := by
    constructor
    · intro h
      apply UInt8.toNat_inj.1
      omega
    · rintro rfl
      omega
  rw [Bool.eq_iff_iff, beq_iff_eq, decide_eq_true_eq]
  exact this
def Ws (ws : List (List UInt8)) : List AV := ws.map fun w => vs (bs w)
theorem Ws_snoc (a : List (List UInt8)) (w : List UInt8) : Ws a ++ [vs (bs w)] = Ws (a ++ [w]) := by simp [Ws]
theorem Ws_length (a : List (List UInt8)) : (Ws a).length = a.length := by simp [Ws]
end Go.Proofs.YtmpglmcjoelciaaGreatDoor.Ev

/- Logical files, 1: names, lists of names. -/
namespace Go.Proofs.YtmpglmcjoelciaaGreatDoor.Ev
open Go Go.Proofs Go.Proofs.Ev
set_option linter.unusedVariables false
def nmL (c : UInt8) : Bool := (decide (65 ≤ c.toNat) && decide (c.toNat ≤ 90)) || (decide (c = 35) || (decide (c = 36) || decide (c = 64)))
def nmO (c : UInt8) : Bool := isD c || (decide (c = 95) || decide (c = 46))
/-- From a place on. -/
def chkN : Nat → List UInt8 → Bool
  | _, [] => true
  | i, c :: r => (nmL c || (decide (i ≠ 0) && nmO c)) && chkN (i + 1) r
theorem chkN_cons (i : Nat) (c : UInt8) (r : List UInt8) : chkN i (c :: r) = ((nmL c || (decide (i ≠ 0) && nmO c)) && chkN (i + 1) r) := rfl
def isNm (l : List UInt8) : Bool := (decide (1 ≤ l.length) && decide (l.length ≤ 10)) && chkN 0 l
theorem let3 {α : Type} (f : Bool → α) (a b c d e : Bool) : (bif a then (bif b then f true else (bif c then f true else (bif d then f true else f e))) else (bif c then f true else (bif d then f true else f e))) = f ((a && b) || (c || (d || e))) := by
  cases a <;> cases b <;> cases c <;> cases d <;> rfl
theorem let2 {α : Type} (g : Bool → α) (a b c d : Bool) : (bif a then (bif b then g true else (bif c then g true else g d)) else (bif c then g true else g d)) = g ((a && b) || (c || d)) := by
  cases a <;> cases b <;> cases c <;> rfl
theorem le_byte (c : UInt8) (k : Nat) : decide ((k : Int) ≤ ((c.toNat : Nat) : Int)) = decide (k ≤ c.toNat) := by rw [decide_eq_decide]; omega
theorem byte_le2 (c : UInt8) (k : Nat) : decide (((c.toNat : Nat) : Int) ≤ (k : Int)) = decide (c.toNat ≤ k) := by rw [decide_eq_decide]; omega
theorem isName_l (n : Nat) (l : List UInt8) (hl : l.length ≤ 1000) : ∀ (d i m : Nat), i + d = l.length → 3 * d < m → (dds_isName.l n m).1 l.length i (l.map fun b => vu b.toNat) = some (chkN i (l.drop i))
  | _, _, 0, _, h => absurd h (by omega)
  | 0, i, m + 1, h, _ => by
    rw [dds_isName.at4]
    unfold dds_isName.r4
    rw [cond_f (by omega), List.drop_of_length_le (by omega)]
    rfl
  | d + 1, i, m + 1, h, hm => by
    have hi : i < l.length := by omega
    obtain ⟨m, rfl⟩ : ∃ q, m = q + 2 := ⟨m - 2, by omega⟩
    have ih := isName_l n l hl d (i + 1) m (by omega) (by omega)
    have e : (l.map fun b => vu b.toNat).getD (((i : Nat) : Int)).toNat AV.undef = vu l[i].toNat := by simp [List.getD_eq_getElem?_getD, hi]
    have h8 : ∀ z2 z3, (dds_isName.l n (m + 1)).2.2 i z2 z3 l.length i (l.map fun b => vu b.toNat) = some ((z2 || (decide (i ≠ 0) && z3)) && chkN (i + 1) (l.drop (i + 1))) := by
      intro z2 z3
      rw [dds_isName.at8]
      unfold dds_isName.r8
      rw [wsucc (by omega), ih, beq_int]
      cases z2 with
      | true => rfl
      | false =>
        by_cases h0 : i = 0
        · subst h0; rfl
        · rw [Bool.not_false, cond_true, cond_f (by omega)]
          cases z3 <;> simp [h0]
    have h7 : ∀ b, (dds_isName.l n (m + 2)).2.1 i ((l[i].toNat : Nat) : Int) b l.length i (l.map fun b => vu b.toNat) = some ((b || (decide (i ≠ 0) && nmO l[i])) && chkN (i + 1) (l.drop (i + 1))) := by
      intro b
      rw [dds_isName.at7]
      unfold dds_isName.r7
      rw [let2 (fun q => (dds_isName.l n (m + 1)).2.2 i b q l.length i (l.map fun b => vu b.toNat)), h8]
      unfold nmO isD
      rw [show (48 : Int) = ((48 : Nat) : Int) from rfl, le_byte, show (57 : Int) = ((57 : Nat) : Int) from rfl, byte_le2, show (95 : Int) = ((95 : Nat) : Int) from rfl, byte_eq _ 95 95 rfl, show (46 : Int) = ((46 : Nat) : Int) from rfl, byte_eq _ 46 46 rfl]
    rw [dds_isName.at4]
    unfold dds_isName.r4
    rw [cond_t (by omega), List.length_map, within_t hi, cond_true, e, List.drop_eq_getElem_cons hi]
    show (bif decide ((65 : Int) ≤ ((l[i].toNat : Nat) : Int)) then _ else _) = _
    rw [let3 (fun q => (dds_isName.l n (m + 2)).2.1 i ((l[i].toNat : Nat) : Int) q l.length i (l.map fun b => vu b.toNat)), h7]
    rw [chkN_cons]
    unfold nmL
    rw [show (65 : Int) = ((65 : Nat) : Int) from rfl, le_byte, show (90 : Int) = ((90 : Nat) : Int) from rfl, byte_le2, show (35 : Int) = ((35 : Nat) : Int) from rfl, byte_eq _ 35 35 rfl, show (36 : Int) = ((36 : Nat) : Int) from rfl, byte_eq _ 36 36 rfl,
      show (64 : Int) = ((64 : Nat) : Int) from rfl, byte_eq _ 64 64 rfl]
theorem isName_eq {n : Nat} (hn : 1001 ≤ n) (l : List UInt8) : dds_isName.F n (bs l) = some (isNm l) := by
  unfold dds_isName.F dds_isName.e isNm
  rw [empty_eq]
  simp only [bs_size, bs_toList, List.length_map]
  by_cases h0 : l = []
  · rw [cond_t h0]
    subst h0
    rfl
  · have hpos : 0 < l.length := List.length_pos_iff.2 h0
    rw [cond_f h0]
    by_cases h1 : l.length > 10
    · rw [cond_t (by omega)]
      have : decide (l.length ≤ 10) = false := by rw [decide_eq_false_iff_not]; omega
      rw [this]; simp
    · rw [cond_f (by omega)]
      have h2 : decide (l.length ≤ 10) = true := by rw [decide_eq_true_eq]; omega
      have h3 : decide (1 ≤ l.length) = true := by rw [decide_eq_true_eq]; omega
      rw [h2, h3]
      have := isName_l n l (by omega) l.length 0 n (by omega) (by omega)
      rw [List.drop_zero] at this
      exact this
theorem isUpper_eq (n : Nat) (c : UInt8) : midrangebase_IsUpper.F n ((c.toNat : Nat) : Int) = some (decide (65 ≤ c.toNat) && decide (c.toNat ≤ 90)) := by
  unfold midrangebase_IsUpper.F midrangebase_IsUpper.e
  rw [show (65 : Int) = ((65 : Nat) : Int) from rfl, le_byte, show (90 : Int) = ((90 : Nat) : Int) from rfl, byte_le2]
  cases decide (65 ≤ c.toNat) <;> rfl
theorem isDig_eq (n : Nat) (c : UInt8) : midrangebase_IsDigit.F n ((c.toNat : Nat) : Int) = some (isD c) := by
  unfold midrangebase_IsDigit.F midrangebase_IsDigit.e isD
  rw [show (48 : Int) = ((48 : Nat) : Int) from rfl, le_byte, show (57 : Int) = ((57 : Nat) : Int) from rfl, byte_le2]
  cases decide (48 ≤ c.toNat) <;> rfl
theorem let3' {α : Type} (f : Bool → α) (p c d e : Bool) : (bif p then f true else (bif c then f true else (bif d then f true else f e))) = f (p || (d || (c || e))) := by
  cases p <;> cases c <;> cases d <;> rfl
theorem isNameR_l (n : Nat) (l : List UInt8) (hl : l.length ≤ 1000) : ∀ (d i m : Nat), i + d = l.length → 3 * d < m → (midrangebase_IsName.l n m).1 (bs l) i = some (chkN i (l.drop i))
  | _, _, 0, _, h => absurd h (by omega)
  | 0, i, m + 1, h, _ => by
    rw [midrangebase_IsName.at4]
    unfold midrangebase_IsName.r4
    simp only [bs_size]
    rw [cond_f (by omega), List.drop_of_length_le (by omega)]
    rfl
  | d + 1, i, m + 1, h, hm => by
    have hi : i < l.length := by omega
    obtain ⟨m, rfl⟩ : ∃ q, m = q + 2 := ⟨m - 2, by omega⟩
    have ih := isNameR_l n l hl d (i + 1) m (by omega) (by omega)
    have h5 : (midrangebase_IsName.l n (m + 1)).2.1 (bs l) i = some (chkN (i + 1) (l.drop (i + 1))) := by
      rw [midrangebase_IsName.at5]
      unfold midrangebase_IsName.r5
      rw [wsucc (by omega), ih]
    have h8 : ∀ b, (midrangebase_IsName.l n (m + 2)).2.2 (bs l) i ((l[i].toNat : Nat) : Int) b = some ((b || (decide (i ≠ 0) && nmO l[i])) && chkN (i + 1) (l.drop (i + 1))) := by
      intro b
      rw [midrangebase_IsName.at8]
      unfold midrangebase_IsName.r8
      rw [isDig_eq, Option.bind_some, h5, beq_int, show (95 : Int) = ((95 : Nat) : Int) from rfl, byte_ne _ 95 95 rfl, show (46 : Int) = ((46 : Nat) : Int) from rfl, byte_ne _ 46 46 rfl]
      unfold nmO
      cases b with
      | true => rfl
      | false =>
        by_cases h0 : i = 0
        · subst h0; rfl
        · rw [Bool.not_false, cond_true, cond_f (by omega)]
          by_cases h1 : l[i] = 95 <;> by_cases h2 : l[i] = 46 <;> cases isD l[i] <;> simp [h0, h1, h2]
    rw [midrangebase_IsName.at4]
    unfold midrangebase_IsName.r4
    simp only [bs_size, within_t hi, Int.toNat_natCast, getD_at hi, cond_true]
    rw [cond_t (by omega), isUpper_eq, Option.bind_some, let3' (fun q => (midrangebase_IsName.l n (m + 2)).2.2 (bs l) i ((l[i].toNat : Nat) : Int) q), h8, List.drop_eq_getElem_cons hi]
    rw [chkN_cons]
    unfold nmL
    rw [show (35 : Int) = ((35 : Nat) : Int) from rfl, byte_eq _ 35 35 rfl, show (36 : Int) = ((36 : Nat) : Int) from rfl, byte_eq _ 36 36 rfl,
      show (64 : Int) = ((64 : Nat) : Int) from rfl, byte_eq _ 64 64 rfl]
theorem isNameR_eq {n : Nat} (hn : 1001 ≤ n) (l : List UInt8) : midrangebase_IsName.F n (bs l) = some (isNm l) := by
  unfold midrangebase_IsName.F midrangebase_IsName.e isNm
  rw [Within_eq, Option.bind_some, bs_size]
  have e : decide ((1 : Int) ≤ ((l.length : Nat) : Int) ∧ ((l.length : Nat) : Int) ≤ 10) = (decide (1 ≤ l.length) && decide (l.length ≤ 10)) := by
    rw [← Bool.decide_and, decide_eq_decide]; omega
  rw [e]
  cases h : (decide (1 ≤ l.length) && decide (l.length ≤ 10)) with
  | false => rfl
  | true =>
    rw [Bool.and_eq_true, decide_eq_true_eq, decide_eq_true_eq] at h
    have := isNameR_l n l (by omega) l.length 0 n (by omega) (by omega)
    rw [List.drop_zero] at this
    exact this
/-- Where a name stands, or -1. -/
def ixs : List (List UInt8) → List UInt8 → Nat → Int
  | [], _, _ => -1
  | w :: r, s, i => if w = s then (i : Int) else ixs r s (i + 1)
theorem ixs_cons (w : List UInt8) (r : List (List UInt8)) (s : List UInt8) (i : Nat) : ixs (w :: r) s i = if w = s then (i : Int) else ixs r s (i + 1) := rfl
theorem ixs_has : ∀ (ws : List (List UInt8)) (s : List UInt8) (i : Nat), decide (ixs ws s i ≥ 0) = ws.contains s
  | [], s, i => by simp [ixs]
  | w :: r, s, i => by
    unfold ixs
    rw [List.contains_cons]
    by_cases h : w = s
    · subst h; simp
    · have : (s == w) = false := by simpa using fun e => h e.symm
      rw [if_neg h, this, Bool.false_or, ixs_has r s (i + 1)]
theorem ixs_lt : ∀ (ws : List (List UInt8)) (s : List UInt8) (i k : Nat), k < ws.length → ws[k]? = some s → decide (ixs ws s i < ((i + k : Nat) : Int)) = (ws.take k).contains s
  | w :: r, s, i, 0, _, h => by
    simp at h
    subst h
    simp [ixs]
  | w :: r, s, i, k + 1, hk, h => by
    unfold ixs
    rw [List.take_succ_cons, List.contains_cons]
    by_cases e : w = s
    · subst e; simp; omega
    · have : (s == w) = false := by simpa using fun e' => e e'.symm
      rw [if_neg e, this, Bool.false_or, ← ixs_lt r s (i + 1) k (by simpa using hk) (by simpa using h), show i + (k + 1) = i + 1 + k by omega]
theorem Ws_getD {ws : List (List UInt8)} {i : Nat} (hi : i < ws.length) : (Ws ws).getD (((i : Nat) : Int)).toNat AV.undef = vs (bs ws[i]) := by simp [Ws, List.getD_eq_getElem?_getD, hi]
theorem str_eq (a b : List UInt8) : ((bs a).toList == (bs b).toList) = decide (a = b) := by
  rw [bs_toList, bs_toList]
  by_cases h : a = b <;> simp [h]
theorem index_l (n : Nat) (ws : List (List UInt8)) (hw : ws.length ≤ 1000) (s : List UInt8) : ∀ (d i m : Nat), i + d = ws.length → d < m → slices_Index_string_string.l n m (Ws ws) (bs s) ws.length i = some (ixs (ws.drop i) s i)
  | _, _, 0, _, h => absurd h (by omega)
  | 0, i, m + 1, h, _ => by
    rw [slices_Index_string_string.at2]
    unfold slices_Index_string_string.r2
    rw [cond_f (by omega), List.drop_of_length_le (by omega)]
    rfl
  | d + 1, i, m + 1, h, hm => by
    have hi : i < ws.length := by omega
    have ih := index_l n ws hw s d (i + 1) m (by omega) (by omega)
    rw [slices_Index_string_string.at2]
    unfold slices_Index_string_string.r2
    rw [cond_t (by omega), Ws_length, within_t hi, cond_true, Ws_getD hi, List.drop_eq_getElem_cons hi]
    show (bif ((bs s).toList == (bs ws[i]).toList) then _ else _) = _
    rw [str_eq, wsucc (by omega), ih, ixs_cons]
    by_cases h : s = ws[i]
    · rw [cond_t h, if_pos h.symm]
    · rw [cond_f h, if_neg (fun e => h e.symm)]
theorem contains_str {n : Nat} (hn : 1001 ≤ n) (ws : List (List UInt8)) (hw : ws.length ≤ 1000) (s : List UInt8) : slices_Contains_string_string.F n (Ws ws) (bs s) = some (ws.contains s) := by
  unfold slices_Contains_string_string.F slices_Contains_string_string.e slices_Index_string_string.F slices_Index_string_string.e
  have := index_l n ws hw s ws.length 0 n (by omega) (by omega)
  rw [List.drop_zero] at this
  rw [Ws_length, show (0 : Int) = ((0 : Nat) : Int) from rfl, this, Option.bind_some]
  show some (decide (ixs ws s 0 ≥ 0)) = _
  rw [ixs_has]
theorem indexOf_l (n : Nat) (ws : List (List UInt8)) (hw : ws.length ≤ 1000) (s : List UInt8) : ∀ (d i m : Nat), i + d = ws.length → d < m → midrangebase_IndexOfString.l n m (Ws ws) (bs s) i = some (ixs (ws.drop i) s i)
  | _, _, 0, _, h => absurd h (by omega)
  | 0, i, m + 1, h, _ => by
    rw [midrangebase_IndexOfString.at2]
    unfold midrangebase_IndexOfString.r2
    simp only [Ws_length]
    rw [cond_f (by omega), List.drop_of_length_le (by omega)]
    rfl
  | d + 1, i, m + 1, h, hm => by
    have hi : i < ws.length := by omega
    have ih := indexOf_l n ws hw s d (i + 1) m (by omega) (by omega)
    rw [midrangebase_IndexOfString.at2]
    unfold midrangebase_IndexOfString.r2
    simp only [Ws_length]
    rw [cond_t (by omega), within_t hi, cond_true, Ws_getD hi, List.drop_eq_getElem_cons hi]
    show (bif ((bs ws[i]).toList == (bs s).toList) then _ else _) = _
    rw [str_eq, wsucc (by omega), ih, ixs_cons]
    by_cases h : ws[i] = s
    · rw [cond_t h, if_pos h]
    · rw [cond_f h, if_neg h]
theorem indexOf_eq {n : Nat} (hn : 1001 ≤ n) (ws : List (List UInt8)) (hw : ws.length ≤ 1000) (s : List UInt8) : midrangebase_IndexOfString.F n (Ws ws) (bs s) = some (ixs ws s 0) := by
  unfold midrangebase_IndexOfString.F midrangebase_IndexOfString.e
  have := indexOf_l n ws hw s ws.length 0 n (by omega) (by omega)
  rw [List.drop_zero] at this
  exact this
theorem nameErr_eq {n : Nat} (hn : 1001 ≤ n) (ws : List (List UInt8)) (hw : ws.length ≤ 1000) (s : List UInt8) : dds_nameErr.F n (bs s) (Ws ws) = some (if isNm s = false then 7 else if ws.contains s then 13 else 0) := by
  unfold dds_nameErr.F dds_nameErr.e
  rw [isName_eq hn, Option.bind_some, cond_eq, Option.bind_some, contains_str hn ws hw, Option.bind_some, cond_eq, Option.bind_some, first2 hn, Option.bind_some]
  cases isNm s <;> cases ws.contains s <;> rfl
theorem Ws_take (ws : List (List UInt8)) (i : Nat) : ((Ws ws).take i).drop 0 = Ws (ws.take i) := by simp [Ws, List.map_take]
theorem Ws_take2 (ws : List (List UInt8)) (i : Nat) : ((Ws ws).drop 0).take i = Ws (ws.take i) := by simp [Ws, List.map_take]
end Go.Proofs.YtmpglmcjoelciaaGreatDoor.Ev

/- Logical files, 2: what the program checks. -/
namespace Go.Proofs.YtmpglmcjoelciaaGreatDoor.Ev
open Go Go.Proofs Go.Proofs.Ev
set_option linter.unusedVariables false
structure LF where
  nm : List UInt8
  b : Int
  fd : List UInt8
structure JP where
  fr : Int
  lf : List UInt8
  b : Int
  rt : List UInt8
structure KF where
  nm : List UInt8
  d : Bool
structure CN where
  fd : List UInt8
  op : Int
  n : Int
  s : List UInt8
structure RL where
  om : Bool
  cs : List CN
def LF.av (x : LF) : AV := .agg [vs (bs x.nm), vi x.b, vs (bs x.fd)]
def JP.av (x : JP) : AV := .agg [vi x.fr, vs (bs x.lf), vi x.b, vs (bs x.rt)]
def KF.av (x : KF) : AV := .agg [vs (bs x.nm), vb x.d]
def CN.av (x : CN) : AV := .agg [vs (bs x.fd), vi x.op, vi x.n, vs (bs x.s)]
def RL.av (x : RL) : AV := .agg [vb x.om, .sl ⟨true, 104⟩ 4 (x.cs.map CN.av)]
theorem at_map {α : Type} (f : α → AV) {l : List α} {i : Nat} (hi : i < l.length) : (l.map f).getD (((i : Nat) : Int)).toNat AV.undef = f l[i] := by simp [List.getD_eq_getElem?_getD, hi]
def names (fs : List LF) : List (List UInt8) := fs.map LF.nm
def knames (ks : List KF) : List (List UInt8) := ks.map KF.nm
def Bl (ts : List Bool) : List AV := ts.map vb
theorem Bl_length (ts : List Bool) : (Bl ts).length = ts.length := by simp [Bl]
def ne (before : List (List UInt8)) (s : List UInt8) : Int := if isNm s = false then 7 else if before.contains s then 13 else 0
def bErr (ws : List (List UInt8)) : List (List UInt8) → Nat → Int × Int
  | [], _ => (0, 0)
  | w :: r, i => if ne (ws.take i) w ≠ 0 then ((i : Int), ne (ws.take i) w) else bErr ws r (i + 1)
def fe (nb : Int) (before : List (List UInt8)) (f : LF) : Int := if ne before f.nm ≠ 0 then ne before f.nm else if ¬ (0 ≤ f.b ∧ f.b ≤ nb) then 3 else if isNm f.fd = false then 7 else 0
def fErr (nb : Int) (ns : List (List UInt8)) : List LF → Nat → Int × Int
  | [], _ => (0, 0)
  | f :: r, i => if fe nb (ns.take i) f ≠ 0 then ((i : Int), fe nb (ns.take i) f) else fErr nb ns r (i + 1)
def je (nb last : Int) (j : JP) : Int := if ¬ (1 ≤ j.b ∧ j.b ≤ nb) then 3 else if ¬ (0 ≤ j.fr ∧ j.fr ≤ j.b - 1) then 3 else if isNm j.lf = false then 7 else if isNm j.rt = false then 7 else if j.b < last then 14 else 0
def jErr (nb : Int) : List JP → Nat → Int → List Bool → Int × Int
  | [], _, _, ts => (0, if (ts.drop 1).contains false then 11 else 0)
  | j :: r, i, last, ts => if je nb last j ≠ 0 then ((i : Int), je nb last j) else jErr nb r (i + 1) j.b (ts.set j.b.toNat true)
def ke (ns before : List (List UInt8)) (k : KF) : Int := if ns.contains k.nm = false then 11 else if before.contains k.nm then 13 else 0
def kErr (ns ks : List (List UInt8)) : List KF → Nat → Int × Int
  | [], _ => (0, 0)
  | k :: r, i => if ke ns (ks.take i) k ≠ 0 then ((i : Int), ke ns (ks.take i) k) else kErr ns ks r (i + 1)
def ce (ns : List (List UInt8)) (c : CN) : Int := if ns.contains c.fd = false then 11 else if ¬ (0 ≤ c.op ∧ c.op ≤ 5) then 4 else if ¬ (-999999999999999 ≤ c.n ∧ c.n ≤ 999999999999999) then 3 else if c.s.length > 256 then 2 else if c.n ≠ 0 ∧ c.s ≠ [] then 5 else 0
def cErr (ns : List (List UInt8)) : List CN → Int
  | [] => 0
  | c :: r => if ce ns c ≠ 0 then ce ns c else cErr ns r
def re (ns : List (List UInt8)) (r : RL) : Int := if r.cs.length > 4 then 2 else cErr ns r.cs
def rErr (ns : List (List UInt8)) : List RL → Nat → Int × Int
  | [], _ => (0, 0)
  | r :: rs, i => if re ns r ≠ 0 then ((i : Int), re ns r) else rErr ns rs (i + 1)
theorem bErr_cons (ws : List (List UInt8)) (w : List UInt8) (r : List (List UInt8)) (i : Nat) : bErr ws (w :: r) i = if ne (ws.take i) w ≠ 0 then ((i : Int), ne (ws.take i) w) else bErr ws r (i + 1) := rfl
theorem fErr_cons (nb : Int) (ns : List (List UInt8)) (f : LF) (r : List LF) (i : Nat) : fErr nb ns (f :: r) i = if fe nb (ns.take i) f ≠ 0 then ((i : Int), fe nb (ns.take i) f) else fErr nb ns r (i + 1) := rfl
theorem jErr_cons (nb : Int) (j : JP) (r : List JP) (i : Nat) (last : Int) (ts : List Bool) : jErr nb (j :: r) i last ts = if je nb last j ≠ 0 then ((i : Int), je nb last j) else jErr nb r (i + 1) j.b (ts.set j.b.toNat true) := rfl
theorem kErr_cons (ns ks : List (List UInt8)) (k : KF) (r : List KF) (i : Nat) : kErr ns ks (k :: r) i = if ke ns (ks.take i) k ≠ 0 then ((i : Int), ke ns (ks.take i) k) else kErr ns ks r (i + 1) := rfl
theorem cErr_cons (ns : List (List UInt8)) (c : CN) (r : List CN) : cErr ns (c :: r) = if ce ns c ≠ 0 then ce ns c else cErr ns r := rfl
theorem rErr_cons (ns : List (List UInt8)) (r : RL) (rs : List RL) (i : Nat) : rErr ns (r :: rs) i = if re ns r ≠ 0 then ((i : Int), re ns r) else rErr ns rs (i + 1) := rfl
section
variable {n : Nat} {nm fm : ByteArray} {a2 a4 a5 a7 : List AV} {uq : Bool}
theorem namesOf_l (hn : 1001 ≤ n) (fs : List LF) (hf : fs.length ≤ 1000) : ∀ (d i m : Nat), i + d = fs.length → d < m → dds_namesOf.l n m (fs.map LF.av) fs.length i (Ws ((names fs).take i)) = some (Ws (names fs))
  | _, _, 0, _, h => absurd h (by omega)
  | 0, i, m + 1, h, _ => by
    rw [dds_namesOf.at3]
    unfold dds_namesOf.r3
    rw [cond_f (by omega), List.take_of_length_le (by simp [names]; omega)]
  | d + 1, i, m + 1, h, hm => by
    have hi : i < fs.length := by omega
    have ih := namesOf_l hn fs hf d (i + 1) m (by omega) (by omega)
    have hmost : most = 1000000000 := rfl
    have hni : i < (names fs).length := by simp [names]; omega
    have e2 : (names fs)[i] = fs[i].nm := by simp [names]
    rw [dds_namesOf.at3]
    unfold dds_namesOf.r3
    rw [cond_t (by omega), List.length_map, within_t hi, cond_true, at_map LF.av hi]
    show (bif decide ((Ws ((names fs).take i)).length + 1 ≤ most) then (dds_namesOf.l n m (fs.map LF.av) fs.length (IntKind.i64.wrap ((i : Int) + 1)) (Ws ((names fs).take i) ++ [vs (bs fs[i].nm)])) else none) = _
    rw [cond_t (by rw [Ws_length, List.length_take]; omega), wsucc (by omega), Ws_snoc, ← e2, ← List.take_succ_eq_append_getElem hni]
    exact ih
theorem namesOf_eq (hn : 1001 ≤ n) (fs : List LF) (hf : fs.length ≤ 1000) : dds_namesOf.F n nm fm a2 (fs.map LF.av) a4 a5 uq a7 = some (Ws (names fs)) := by
  unfold dds_namesOf.F dds_namesOf.e
  rw [List.length_map]
  exact namesOf_l hn fs hf fs.length 0 n (by omega) (by omega)
theorem basesErr_l (hn : 1001 ≤ n) (ws : List (List UInt8)) (hw : ws.length ≤ 1000) (a3 : List AV) : ∀ (d i m : Nat), i + d = ws.length → d < m → dds_basesErr.l n m (Ws ws) ws.length i nm fm (Ws ws) a3 a4 a5 uq a7 = some (bErr ws (ws.drop i) i)
  | _, _, 0, _, h => absurd h (by omega)
  | 0, i, m + 1, h, _ => by
    rw [dds_basesErr.at5]
    unfold dds_basesErr.r5
    rw [cond_f (by omega), List.drop_of_length_le (by omega)]
    rfl
  | d + 1, i, m + 1, h, hm => by
    have hi : i < ws.length := by omega
    have ih := basesErr_l hn ws hw a3 d (i + 1) m (by omega) (by omega)
    rw [dds_basesErr.at5]
    unfold dds_basesErr.r5
    rw [cond_t (by omega), Ws_length, within_t hi, cond_true, Ws_getD hi, upto_t (Nat.le_of_lt hi), List.drop_eq_getElem_cons hi]
    show (dds_nameErr.F n (bs ws[i]) (((Ws ws).take i).drop 0)).bind _ = _
    rw [Ws_take, nameErr_eq hn _ (by rw [List.length_take]; omega), Option.bind_some, wsucc (by omega), ih]
    rw [bErr_cons]
    show (bif ne (ws.take i) ws[i] != 0 then some ((i : Int), ne (ws.take i) ws[i]) else _) = _
    by_cases h0 : ne (ws.take i) ws[i] = 0
    · have : (ne (ws.take i) ws[i] != 0) = false := by simp [h0]
      rw [this, cond_false, if_neg (by simp [h0])]
    · have : (ne (ws.take i) ws[i] != 0) = true := by simp [h0]
      rw [this, cond_true, if_pos h0]
def bErrT (ws : List (List UInt8)) : Int × Int := if ws.length = 0 then (0, 1) else if ws.length > 3 then (0, 2) else bErr ws ws 0
theorem sizes_first {n : Nat} (hn : 1001 ≤ n) (a b : Bool) : dds_first.F n [vi (if a then 1 else 0), vi (if b then 2 else 0)] = some (if a then 1 else if b then 2 else 0) := by
  rw [first2 hn]
  cases a <;> cases b <;> rfl
theorem basesErr_eq (hn : 1001 ≤ n) (ws : List (List UInt8)) (hw : ws.length ≤ 1000) (a3 : List AV) : dds_basesErr.F n nm fm (Ws ws) a3 a4 a5 uq a7 = some (bErrT ws) := by
  unfold dds_basesErr.F dds_basesErr.e bErrT
  simp only [Ws_length]
  rw [cond_eq, Option.bind_some, cond_eq, Option.bind_some, sizes_first hn, Option.bind_some, beq_int]
  by_cases h0 : ws.length = 0
  · have : decide (((ws.length : Nat) : Int) = 0) = true := by rw [decide_eq_true_eq]; omega
    rw [this, if_pos h0]
    rfl
  · have : decide (((ws.length : Nat) : Int) = 0) = false := by rw [decide_eq_false_iff_not]; omega
    rw [this, if_neg h0]
    by_cases h3 : ws.length > 3
    · have : decide (((ws.length : Nat) : Int) > 3) = true := by rw [decide_eq_true_eq]; omega
      rw [this, if_pos h3]
      rfl
    · have : decide (((ws.length : Nat) : Int) > 3) = false := by rw [decide_eq_false_iff_not]; omega
      rw [this, if_neg h3]
      have := basesErr_l (nm := nm) (fm := fm) (a4 := a4) (a5 := a5) (uq := uq) (a7 := a7) hn ws hw a3 ws.length 0 n (by omega) (by omega)
      rw [List.drop_zero] at this
      exact this
theorem fieldsErr_l (hn : 1001 ≤ n) (ws : List (List UInt8)) (hw : ws.length ≤ 1000) (fs : List LF) (hf : fs.length ≤ 1000) : ∀ (d i m : Nat), i + d = fs.length → d < m →
    dds_fieldsErr.l n m (fs.map LF.av) fs.length i nm fm (Ws ws) (fs.map LF.av) a4 a5 uq a7 (Ws (names fs)) = some (fErr ((ws.length : Int) - 1) (names fs) (fs.drop i) i)
  | _, _, 0, _, h => absurd h (by omega)
  | 0, i, m + 1, h, _ => by
    rw [dds_fieldsErr.at6]
    unfold dds_fieldsErr.r6
    rw [cond_f (by omega), List.drop_of_length_le (by omega)]
    rfl
  | d + 1, i, m + 1, h, hm => by
    have hi : i < fs.length := by omega
    have hni : (names fs).length = fs.length := by simp [names]
    have ih := fieldsErr_l hn ws hw fs hf d (i + 1) m (by omega) (by omega)
    rw [dds_fieldsErr.at6]
    unfold dds_fieldsErr.r6
    rw [cond_t (by omega), List.length_map, within_t hi, cond_true, at_map LF.av hi, List.drop_eq_getElem_cons hi]
    show (bif decide ((0 : Int) ≤ (i : Int)) && decide ((i : Int) ≤ (((Ws (names fs)).length : Nat) : Int)) then ((dds_nameErr.F n (bs fs[i].nm) (((Ws (names fs)).drop 0).take (((i : Int) - 0).toNat))).bind _) else none) = _
    rw [Ws_length, upto_t (by omega), cond_true, show ((i : Int) - 0).toNat = i by omega, Ws_take2, nameErr_eq hn _ (by rw [List.length_take]; omega), Option.bind_some]
    show ((dds_in.F n fs[i].b 0 (IntKind.i64.wrap ((((Ws ws).length : Nat) : Int) - 1))).bind _) = _
    rw [Ws_length, w64 (by omega) (by omega)]
    have hin : dds_in.F n fs[i].b 0 ((ws.length : Int) - 1) = some (decide (0 ≤ fs[i].b ∧ fs[i].b ≤ (ws.length : Int) - 1)) := by
      unfold dds_in.F dds_in.e
      by_cases h : 0 ≤ fs[i].b
      · rw [cond_t h]; simp [h]
      · rw [cond_f h]; simp [h]
    rw [hin, Option.bind_some, cond_eq, Option.bind_some, isName_eq hn, Option.bind_some, cond_eq, Option.bind_some, wsucc (by omega), ih]
    rw [fErr_cons]
    have hfz := first_eq (n := n) [ne ((names fs).take i) fs[i].nm, (if (!decide (0 ≤ fs[i].b ∧ fs[i].b ≤ (ws.length : Int) - 1)) = true then 3 else 0), (if (!isNm fs[i].fd) = true then 7 else 0)] (by simp) hn
    show ((dds_first.F n ([ne ((names fs).take i) fs[i].nm, (if (!decide (0 ≤ fs[i].b ∧ fs[i].b ≤ (ws.length : Int) - 1)) = true then 3 else 0), (if (!isNm fs[i].fd) = true then 7 else 0)].map vi)).bind _) = _
    rw [hfz, Option.bind_some]
    have e : fz [ne ((names fs).take i) fs[i].nm, (if (!decide (0 ≤ fs[i].b ∧ fs[i].b ≤ (ws.length : Int) - 1)) = true then 3 else 0), (if (!isNm fs[i].fd) = true then 7 else 0)] = fe ((ws.length : Int) - 1) ((names fs).take i) fs[i] := by
      unfold fe
      by_cases h1 : ne ((names fs).take i) fs[i].nm = 0
      · by_cases h2 : 0 ≤ fs[i].b ∧ fs[i].b ≤ (ws.length : Int) - 1
        · cases h3 : isNm fs[i].fd <;> simp [fz, h1, h2]
        · simp [fz, h1, h2]
      · simp [fz, h1]
    rw [e]
    by_cases h0 : fe ((ws.length : Int) - 1) ((names fs).take i) fs[i] = 0
    · have : (fe ((ws.length : Int) - 1) ((names fs).take i) fs[i] != 0) = false := by simp [h0]
      rw [this, cond_false, if_neg (by simp [h0])]
    · have : (fe ((ws.length : Int) - 1) ((names fs).take i) fs[i] != 0) = true := by simp [h0]
      rw [this, cond_true, if_pos h0]
def fErrT (ws : List (List UInt8)) (fs : List LF) : Int × Int := if fs.length = 0 then (0, 1) else if fs.length > 20 then (0, 2) else fErr ((ws.length : Int) - 1) (names fs) fs 0
theorem fieldsErr_eq (hn : 1001 ≤ n) (ws : List (List UInt8)) (hw : ws.length ≤ 1000) (fs : List LF) (hf : fs.length ≤ 1000) : dds_fieldsErr.F n nm fm (Ws ws) (fs.map LF.av) a4 a5 uq a7 = some (fErrT ws fs) := by
  unfold dds_fieldsErr.F dds_fieldsErr.e fErrT
  simp only [List.length_map]
  rw [cond_eq, Option.bind_some, cond_eq, Option.bind_some, sizes_first hn, Option.bind_some, beq_int]
  by_cases h0 : fs.length = 0
  · have : decide (((fs.length : Nat) : Int) = 0) = true := by rw [decide_eq_true_eq]; omega
    rw [this, if_pos h0]
    rfl
  · have : decide (((fs.length : Nat) : Int) = 0) = false := by rw [decide_eq_false_iff_not]; omega
    rw [this, if_neg h0]
    by_cases h3 : fs.length > 20
    · have : decide (((fs.length : Nat) : Int) > 20) = true := by rw [decide_eq_true_eq]; omega
      rw [this, if_pos h3]
      rfl
    · have : decide (((fs.length : Nat) : Int) > 20) = false := by rw [decide_eq_false_iff_not]; omega
      rw [this, if_neg h3]
      show ((dds_namesOf.F n nm fm (Ws ws) (fs.map LF.av) a4 a5 uq a7).bind _) = _
      rw [namesOf_eq hn fs hf, Option.bind_some]
      have := fieldsErr_l (nm := nm) (fm := fm) (a4 := a4) (a5 := a5) (uq := uq) (a7 := a7) hn ws hw fs hf fs.length 0 n (by omega) (by omega)
      rw [List.drop_zero] at this
      exact this
end
end Go.Proofs.YtmpglmcjoelciaaGreatDoor.Ev

/- Logical files, 3: joins, keys, rules; the whole check of the program. -/
namespace Go.Proofs.YtmpglmcjoelciaaGreatDoor.Ev
open Go Go.Proofs Go.Proofs.Ev
set_option linter.unusedVariables false
section
variable {n : Nat} {nm fm : ByteArray} {a3 a4 a5 a7 : List AV} {uq : Bool}
theorem din_eq (n : Nat) (a b c : Int) : dds_in.F n a b c = some (decide (b ≤ a ∧ a ≤ c)) := by
  unfold dds_in.F dds_in.e
  by_cases h : b ≤ a
  · rw [cond_t h]; simp [h]
  · rw [cond_f h]; simp [h]
theorem bif_ne {α : Type} (e : Int) (x y : α) : (bif e != 0 then x else y) = if e ≠ 0 then x else y := by
  by_cases h : e = 0
  · have h1 : (e != 0) = false := by simp [h]
    rw [h1, if_neg (by simp [h])]; rfl
  · have h1 : (e != 0) = true := by simp [h]
    rw [h1, if_pos h]; rfl
theorem cond_yes {α : Type} {b : Bool} (h : b = true) (x y : α) : (bif b then x else y) = x := by rw [h]; rfl
theorem some_ite {α : Type} {p : Prop} [Decidable p] (x y : α) : (if p then some x else some y) = some (if p then x else y) := by split <;> rfl
theorem Bl_getD {ts : List Bool} {i : Nat} (hi : i < ts.length) : (Bl ts).getD (((i : Nat) : Int)).toNat AV.undef = vb ts[i] := by simp [Bl, List.getD_eq_getElem?_getD, hi]
theorem indexB_l (n : Nat) (ts : List Bool) (hw : ts.length ≤ 1000) : ∀ (d i m : Nat), i + d = ts.length → d < m → ∃ q, slices_Index_bool_bool.l n m (Bl ts) false ts.length i = some q ∧ decide (q ≥ 0) = (ts.drop i).contains false
  | _, _, 0, _, h => absurd h (by omega)
  | 0, i, m + 1, h, _ => by
    refine ⟨-1, ?_, by rw [List.drop_of_length_le (by omega)]; rfl⟩
    rw [slices_Index_bool_bool.at2]
    unfold slices_Index_bool_bool.r2
    rw [cond_f (by omega)]
  | d + 1, i, m + 1, h, hm => by
    have hi : i < ts.length := by omega
    obtain ⟨q, h1, h2⟩ := indexB_l n ts hw d (i + 1) m (by omega) (by omega)
    rw [slices_Index_bool_bool.at2]
    unfold slices_Index_bool_bool.r2
    rw [cond_t (by omega), Bl_length, within_t hi, cond_true, Bl_getD hi, List.drop_eq_getElem_cons hi, List.contains_cons]
    show ∃ q, (bif (false == ts[i]) then some (i : Int) else _) = some q ∧ _
    cases ts[i] with
    | false => exact ⟨i, rfl, by simp⟩
    | true =>
      refine ⟨q, ?_, by rw [h2]; rfl⟩
      show slices_Index_bool_bool.l n m (Bl ts) false ts.length (IntKind.i64.wrap ((i : Int) + 1)) = _
      rw [wsucc (by omega)]
      exact h1
theorem containsB {n : Nat} (hn : 1001 ≤ n) (ts : List Bool) (hw : ts.length ≤ 1000) : slices_Contains_bool_bool.F n (Bl ts) false = some (ts.contains false) := by
  unfold slices_Contains_bool_bool.F slices_Contains_bool_bool.e slices_Index_bool_bool.F slices_Index_bool_bool.e
  obtain ⟨q, h1, h2⟩ := indexB_l n ts hw ts.length 0 n (by omega) (by omega)
  rw [List.drop_zero] at h2
  rw [Bl_length, show (0 : Int) = ((0 : Nat) : Int) from rfl, h1, Option.bind_some]
  exact congrArg some h2
theorem Bl_drop (ts : List Bool) (k : Nat) : (Bl ts).drop k = Bl (ts.drop k) := by simp [Bl, List.map_drop]
theorem Bl_set (ts : List Bool) (k : Nat) (b : Bool) : (Bl ts).set k (vb b) = Bl (ts.set k b) := by simp [Bl, List.map_set]
theorem joins_l (hn : 1001 ≤ n) (ws : List (List UInt8)) (hw : 1 ≤ ws.length ∧ ws.length ≤ 1000) (js : List JP) (hj : js.length ≤ 1000) : ∀ (d i m : Nat) (last : Int) (ts : List Bool), i + d = js.length → d < m → ts.length = ws.length →
    dds_joinsErr.l n m last (js.map JP.av) js.length i nm fm (Ws ws) a3 (js.map JP.av) a5 uq a7 (Bl ts) = some (jErr ((ws.length : Int) - 1) (js.drop i) i last ts)
  | _, _, 0, _, _, _, h, _ => absurd h (by omega)
  | 0, i, m + 1, last, ts, h, _, ht => by
    rw [dds_joinsErr.at6]
    unfold dds_joinsErr.r6
    rw [cond_f (by omega), Bl_length, cond_yes (by rw [Bool.and_eq_true, decide_eq_true_eq, decide_eq_true_eq]; omega), Bl_drop, containsB hn _ (by rw [List.length_drop]; omega), Option.bind_some, cond_eq, Option.bind_some, List.drop_of_length_le (show js.length ≤ i by omega)]
    rfl
  | d + 1, i, m + 1, last, ts, h, hm, ht => by
    have hi : i < js.length := by omega
    rw [dds_joinsErr.at6]
    unfold dds_joinsErr.r6
    rw [cond_t (by omega), List.length_map, within_t hi, cond_true, at_map JP.av hi, List.drop_eq_getElem_cons hi]
    show ((dds_in.F n js[i].b 1 (IntKind.i64.wrap ((((Ws ws).length : Nat) : Int) - 1))).bind fun p16 => (dds_cond.F n (!p16) 3).bind fun p17 => (dds_in.F n js[i].fr 0 (IntKind.i64.wrap (js[i].b - 1))).bind fun p18 =>
      (dds_cond.F n (!p18) 3).bind fun p19 => (dds_isName.F n (bs js[i].lf)).bind fun p20 => (dds_cond.F n (!p20) 7).bind fun p21 => (dds_isName.F n (bs js[i].rt)).bind fun p22 => (dds_cond.F n (!p22) 7).bind fun p23 =>
      (dds_cond.F n (decide (js[i].b < last)) 14).bind fun p24 => (dds_first.F n ([p17, p19, p21, p23, p24].map vi)).bind fun p25 =>
      bif p25 != 0 then (some ((i : Int), p25)) else (bif decide ((0 : Int) ≤ js[i].b) && decide (js[i].b < (((Bl ts).length : Nat) : Int)) then
        (dds_joinsErr.l n m js[i].b (js.map JP.av) js.length (IntKind.i64.wrap ((i : Int) + 1)) nm fm (Ws ws) a3 (js.map JP.av) a5 uq a7 ((Bl ts).set ((js[i].b).toNat) (vb true))) else none)) = _
    simp only [Ws_length, din_eq, Option.bind_some, cond_eq, isName_eq hn, first_eq (n := n) [_, _, _, _, _] (by simp) hn]
    rw [w64 (x := (ws.length : Int) - 1) (by omega) (by omega), bif_ne]
    rw [jErr_cons]
    have e : fz [(if (!decide (1 ≤ js[i].b ∧ js[i].b ≤ (ws.length : Int) - 1)) = true then 3 else 0), (if (!decide (0 ≤ js[i].fr ∧ js[i].fr ≤ IntKind.i64.wrap (js[i].b - 1))) = true then 3 else 0), (if (!isNm js[i].lf) = true then 7 else 0), (if (!isNm js[i].rt) = true then 7 else 0), (if decide (js[i].b < last) = true then 14 else 0)] = je ((ws.length : Int) - 1) last js[i] := by
      unfold je
      by_cases h1 : 1 ≤ js[i].b ∧ js[i].b ≤ (ws.length : Int) - 1
      · rw [w64 (x := js[i].b - 1) (by omega) (by omega)]
        by_cases h2 : 0 ≤ js[i].fr ∧ js[i].fr ≤ js[i].b - 1
        · cases h3 : isNm js[i].lf
          · simp [fz, h1, h2]
          · cases h4 : isNm js[i].rt
            · simp [fz, h1, h2]
            · simp [fz, h1, h2]
        · simp [fz, h1, h2]
      · simp [fz, h1]
    rw [e]
    by_cases h0 : je ((ws.length : Int) - 1) last js[i] = 0
    · rw [if_neg (by simp [h0]), if_neg (by simp [h0])]
      have hb : 1 ≤ js[i].b ∧ js[i].b ≤ (ws.length : Int) - 1 := by
        unfold je at h0
        by_cases h1 : 1 ≤ js[i].b ∧ js[i].b ≤ (ws.length : Int) - 1
        · exact h1
        · rw [if_pos h1] at h0; omega
      have e2 : (decide ((0 : Int) ≤ js[i].b) && decide (js[i].b < (((Bl ts).length : Nat) : Int))) = true := by
        rw [Bl_length, Bool.and_eq_true, decide_eq_true_eq, decide_eq_true_eq]; omega
      rw [e2, cond_true, wsucc (by omega), Bl_set]
      exact joins_l hn ws hw js hj d (i + 1) m js[i].b (ts.set js[i].b.toNat true) (by omega) (by omega) (by simp [ht])
    · rw [if_pos h0, if_pos h0]
def jErrT (ws : List (List UInt8)) (js : List JP) : Int × Int := if js.length > 20 then (0, 2) else jErr ((ws.length : Int) - 1) js 0 0 (List.replicate ws.length false)
theorem joins_eq (hn : 1001 ≤ n) (ws : List (List UInt8)) (hw : 1 ≤ ws.length ∧ ws.length ≤ 1000) (js : List JP) (hj : js.length ≤ 1000) : dds_joinsErr.F n nm fm (Ws ws) a3 (js.map JP.av) a5 uq a7 = some (jErrT ws js) := by
  unfold dds_joinsErr.F dds_joinsErr.e jErrT
  simp only [List.length_map, Ws_length]
  by_cases h : js.length > 20
  · rw [cond_t (by omega), if_pos h]
  · rw [cond_f (by omega), if_neg h, cond_yes (by have : most = 1000000000 := rfl; simp [this]; omega), Int.toNat_natCast]
    have e : List.replicate ws.length (vb false) = Bl (List.replicate ws.length false) := by simp [Bl]
    rw [e]
    have := joins_l (nm := nm) (fm := fm) (a3 := a3) (a5 := a5) (uq := uq) (a7 := a7) hn ws hw js hj js.length 0 n 0 (List.replicate ws.length false) (by omega) (by omega) (by simp)
    rw [List.drop_zero] at this
    exact this
theorem keys_l (hn : 1001 ≤ n) (ns : List (List UInt8)) (hs : ns.length ≤ 1000) (ks : List KF) (hk : ks.length ≤ 1000) : ∀ (d i m : Nat), i + d = ks.length → d < m →
    dds_keysErr.l n m (Ws ns) (ks.map KF.av) ks.length i (Ws ((knames ks).take i)) = some (kErr ns (knames ks) (ks.drop i) i)
  | _, _, 0, _, h => absurd h (by omega)
  | 0, i, m + 1, h, _ => by
    rw [dds_keysErr.at5]
    unfold dds_keysErr.r5
    rw [cond_f (by omega), List.drop_of_length_le (by omega)]
    rfl
  | d + 1, i, m + 1, h, hm => by
    have hi : i < ks.length := by omega
    have hni : (knames ks).length = ks.length := by simp [knames]
    have hni' : i < (knames ks).length := by omega
    have hmost : most = 1000000000 := rfl
    have e2 : (knames ks)[i] = ks[i].nm := by simp [knames]
    have ih := keys_l hn ns hs ks hk d (i + 1) m (by omega) (by omega)
    rw [dds_keysErr.at5]
    unfold dds_keysErr.r5
    rw [cond_t (by omega), List.length_map, within_t hi, cond_true, at_map KF.av hi, List.drop_eq_getElem_cons hi]
    show ((slices_Contains_string_string.F n (Ws ns) (bs ks[i].nm)).bind fun p8 => (dds_cond.F n (!p8) 11).bind fun p9 => (slices_Contains_string_string.F n (Ws ((knames ks).take i)) (bs ks[i].nm)).bind fun p10 => (dds_cond.F n p10 13).bind fun p11 =>
      (dds_first.F n [vi p9, vi p11]).bind fun p12 => bif p12 != 0 then (some ((i : Int), p12)) else (bif decide ((Ws ((knames ks).take i)).length + 1 ≤ most) then
        (dds_keysErr.l n m (Ws ns) (ks.map KF.av) ks.length (IntKind.i64.wrap ((i : Int) + 1)) (Ws ((knames ks).take i) ++ [vs (bs ks[i].nm)])) else none)) = _
    rw [contains_str hn ns hs, Option.bind_some, cond_eq, Option.bind_some, contains_str hn _ (by rw [List.length_take]; omega), Option.bind_some, cond_eq, Option.bind_some, first2 hn, Option.bind_some, bif_ne,
      cond_t (by rw [Ws_length, List.length_take]; omega), wsucc (by omega), Ws_snoc, ← e2, ← List.take_succ_eq_append_getElem hni', ih]
    rw [kErr_cons]
    have e : (if (if (!ns.contains (knames ks)[i]) = true then (11 : Int) else 0) ≠ 0 then (if (!ns.contains (knames ks)[i]) = true then (11 : Int) else 0) else (if ((knames ks).take i).contains (knames ks)[i] = true then 13 else 0)) = ke ns ((knames ks).take i) ks[i] := by
      unfold ke
      rw [e2]
      cases ns.contains ks[i].nm <;> cases ((knames ks).take i).contains ks[i].nm <;> rfl
    rw [e, some_ite]
def kErrT (ns : List (List UInt8)) (ks : List KF) : Int × Int := if ks.length > 4 then (0, 2) else kErr ns (knames ks) ks 0
theorem keysErr_eq (hn : 1001 ≤ n) (ns : List (List UInt8)) (hs : ns.length ≤ 1000) (ks : List KF) (hk : ks.length ≤ 1000) : dds_keysErr.F n (ks.map KF.av) (Ws ns) = some (kErrT ns ks) := by
  unfold dds_keysErr.F dds_keysErr.e kErrT
  simp only [List.length_map]
  by_cases h : ks.length > 4
  · rw [cond_t (by omega), if_pos h]
  · rw [cond_f (by omega), if_neg h]
    have := keys_l hn ns hs ks hk ks.length 0 n (by omega) (by omega)
    rw [List.drop_zero] at this
    exact this
theorem condErr_eq (hn : 1001 ≤ n) (ns : List (List UInt8)) (hs : ns.length ≤ 1000) (c : CN) : dds_conditionErr.F n (bs c.fd) c.op c.n (bs c.s) (Ws ns) = some (ce ns c) := by
  unfold dds_conditionErr.F dds_conditionErr.e
  simp only [contains_str hn ns hs, Option.bind_some, cond_eq, din_eq, bs_size, empty_eq]
  have e5 : ∀ a b c d e : Int, dds_first.F n [vi a, vi b, vi c, vi d, vi e] = some (fz [a, b, c, d, e]) := fun a b c d e => first_eq [a, b, c, d, e] (by simp) hn
  simp only [e5, Option.bind_some]
  rw [bif_ne]
  unfold ce
  have hsz : decide (((c.s.length : Nat) : Int) > 256) = decide (c.s.length > 256) := by rw [decide_eq_decide]; omega
  rw [hsz]
  cases h1 : ns.contains c.fd
  · by_cases h0 : c.n = 0 <;> simp [fz, h0]
  · by_cases h2 : 0 ≤ c.op ∧ c.op ≤ 5
    · by_cases h3 : -999999999999999 ≤ c.n ∧ c.n ≤ 999999999999999
      · by_cases h4 : c.s.length > 256
        · by_cases h0 : c.n = 0 <;> simp [fz, h0, h2, h3, h4]
        · by_cases h0 : c.n = 0 <;> by_cases h5 : c.s = [] <;> simp [fz, h0, h2, h3, h4, h5]
      · by_cases h0 : c.n = 0 <;> simp [fz, h0, h2, h3]
    · by_cases h0 : c.n = 0 <;> simp [fz, h0, h2]
theorem rules_l (hn : 1001 ≤ n) (ns : List (List UInt8)) (hs : ns.length ≤ 1000) (rs : List RL) (hr : rs.length ≤ 1000) : ∀ (d i m : Nat), i + d = rs.length → 10 * d + 1 ≤ m →
    (dds_rulesErr.l n m).1 (rs.map RL.av) rs.length i (Ws ns) = some (rErr ns (rs.drop i) i)
  | 0, i, m, h, hm => by
    obtain ⟨m, rfl⟩ : ∃ q, m = q + 1 := ⟨m - 1, by omega⟩
    rw [dds_rulesErr.at5]
    unfold dds_rulesErr.r5
    rw [cond_f (by omega), List.drop_of_length_le (by omega)]
    rfl
  | d + 1, i, m, h, hm => by
    obtain ⟨m, rfl⟩ : ∃ q, m = q + 1 := ⟨m - 1, by omega⟩
    have hi : i < rs.length := by omega
    -- the conditions of a rule
    have inner : ∀ (e j q : Nat), rs[i].cs.length ≤ 4 → j + e = rs[i].cs.length → 10 * d + 2 + e ≤ q →
        (dds_rulesErr.l n q).2 i (rs.map RL.av) rs.length i (rs[i].cs.map CN.av) rs[i].cs.length j (Ws ns) = some (if cErr ns (rs[i].cs.drop j) ≠ 0 then ((i : Int), cErr ns (rs[i].cs.drop j)) else rErr ns (rs.drop (i + 1)) (i + 1)) := by
      intro e
      induction e with
      | zero =>
        intro j q h4 hj hq
        obtain ⟨q, rfl⟩ : ∃ r, q = r + 1 := ⟨q - 1, by omega⟩
        rw [dds_rulesErr.at10]
        unfold dds_rulesErr.r10
        rw [cond_f (by omega), wsucc (by omega), rules_l hn ns hs rs hr d (i + 1) q (by omega) (by omega), List.drop_of_length_le (show rs[i].cs.length ≤ j by omega)]
        rfl
      | succ e ih =>
        intro j q h4 hj hq
        obtain ⟨q, rfl⟩ : ∃ r, q = r + 1 := ⟨q - 1, by omega⟩
        have hjl : j < rs[i].cs.length := by omega
        have ih' := ih (j + 1) q h4 (by omega) (by omega)
        rw [dds_rulesErr.at10]
        unfold dds_rulesErr.r10
        rw [cond_t (by omega), List.length_map, within_t hjl, cond_true, at_map CN.av hjl, List.drop_eq_getElem_cons hjl]
        show ((dds_conditionErr.F n (bs rs[i].cs[j].fd) rs[i].cs[j].op rs[i].cs[j].n (bs rs[i].cs[j].s) (Ws ns)).bind fun p22 => bif p22 != 0 then (some ((i : Int), p22)) else
          (dds_rulesErr.l n q).2 i (rs.map RL.av) rs.length i (rs[i].cs.map CN.av) rs[i].cs.length (IntKind.i64.wrap ((j : Int) + 1)) (Ws ns)) = _
        rw [condErr_eq hn ns hs, Option.bind_some, bif_ne, wsucc (by omega), ih']
        rw [cErr_cons]
        by_cases h0 : ce ns rs[i].cs[j] = 0
        · simp only [h0, ne_eq, not_true_eq_false, if_false]
        · simp only [h0, ne_eq, not_false_eq_true, if_true]
    rw [dds_rulesErr.at5]
    unfold dds_rulesErr.r5
    rw [cond_t (by omega), List.length_map, within_t hi, cond_true, at_map RL.av hi, List.drop_eq_getElem_cons hi]
    show (bif decide ((((rs[i].cs.map CN.av).length : Nat) : Int) > 4) then (some ((i : Int), 2)) else (dds_rulesErr.l n m).2 i (rs.map RL.av) rs.length i (rs[i].cs.map CN.av) (((rs[i].cs.map CN.av).length : Nat) : Int) 0 (Ws ns)) = _
    rw [List.length_map]
    rw [rErr_cons]
    unfold re
    by_cases h4 : rs[i].cs.length > 4
    · rw [cond_t (by omega), if_pos h4, if_pos (by decide)]
    · rw [cond_f (by omega), if_neg h4]
      have := inner rs[i].cs.length 0 m (by omega) (by omega) (by omega)
      rw [List.drop_zero] at this
      exact this
def rErrT (ns : List (List UInt8)) (rs : List RL) : Int × Int := if rs.length > 8 then (0, 2) else rErr ns rs 0
theorem rulesErr_eq (hn : 20001 ≤ n) (fs : List LF) (hf : fs.length ≤ 1000) (rs : List RL) (hr : rs.length ≤ 1000) {a2 : List AV} : dds_rulesErr.F n nm fm a2 (fs.map LF.av) a4 a5 uq (rs.map RL.av) = some (rErrT (names fs) rs) := by
  unfold dds_rulesErr.F dds_rulesErr.e rErrT
  simp only [List.length_map]
  by_cases h : rs.length > 8
  · rw [cond_t (by omega), if_pos h]
  · rw [cond_f (by omega), if_neg h, namesOf_eq (by omega) fs hf, Option.bind_some]
    have := rules_l (n := n) (by omega) (names fs) (by simp [names]; omega) rs hr rs.length 0 n (by omega) (by omega)
    rw [List.drop_zero] at this
    exact this
/-- A logical file's check. -/
def chkL (nm fm : List UInt8) (ws : List (List UInt8)) (fs : List LF) (js : List JP) (ks : List KF) (uq : Bool) (rs : List RL) : Int × Int :=
  if isNm nm = false then (0, 7) else if isNm fm = false then (0, 7)
  else if (bErrT ws).2 ≠ 0 then bErrT ws
  else if (fErrT ws fs).2 ≠ 0 then fErrT ws fs
  else if (jErrT ws js).2 ≠ 0 then jErrT ws js
  else if (kErrT (names fs) ks).2 ≠ 0 then kErrT (names fs) ks
  else if (rErrT (names fs) rs).2 ≠ 0 then rErrT (names fs) rs
  else (0, if ws.length > 1 ∧ (rs.length > 0 ∨ uq = true) then 15 else 0)
theorem checkLogical_eq (hn : 20010 ≤ n) (nm fm : List UInt8) (ws : List (List UInt8)) (hw : ws.length ≤ 1000) (fs : List LF) (hf : fs.length ≤ 1000) (js : List JP) (hj : js.length ≤ 1000) (ks : List KF) (hk : ks.length ≤ 1000) (uq : Bool) (rs : List RL) (hr : rs.length ≤ 1000) :
    dds_CheckLogical.F n (bs nm) (bs fm) (Ws ws) (fs.map LF.av) (js.map JP.av) (ks.map KF.av) uq (rs.map RL.av) = some (chkL nm fm ws fs js ks uq rs) := by
  have hnl : (names fs).length ≤ 1000 := by simp [names]; omega
  -- behind a part
  have h7 : ∀ (m : Nat) (p : Int × Int) (i : Nat), i ≤ 5 → (dds_CheckLogical.l n (m + 1)).2.2.2.2.2.2 p.1 p.2 5 i (bs nm) (bs fm) (Ws ws) (fs.map LF.av) (js.map JP.av) (ks.map KF.av) uq (rs.map RL.av) =
      if p.2 ≠ 0 then some p else (dds_CheckLogical.l n m).1 5 ((i + 1 : Nat) : Int) (bs nm) (bs fm) (Ws ws) (fs.map LF.av) (js.map JP.av) (ks.map KF.av) uq (rs.map RL.av) := by
    intro m p i hi
    rw [dds_CheckLogical.at7]
    unfold dds_CheckLogical.r7
    rw [bif_ne, wsucc (by omega)]
  have h5 : ∀ m, (dds_CheckLogical.l n (m + 1)).1 5 ((5 : Nat) : Int) (bs nm) (bs fm) (Ws ws) (fs.map LF.av) (js.map JP.av) (ks.map KF.av) uq (rs.map RL.av) = some (0, if ws.length > 1 ∧ (rs.length > 0 ∨ uq = true) then 15 else 0) := by
    intro m
    rw [dds_CheckLogical.at4]
    unfold dds_CheckLogical.r4
    simp only [Ws_length, List.length_map, cond_eq, Option.bind_some]
    rw [cond_f (by omega)]
    by_cases h1 : ws.length > 1
    · rw [cond_t (by omega)]
      by_cases h2 : rs.length > 0
      · rw [cond_t (by omega)]; simp [h1, h2]
      · rw [cond_f (by omega)]; simp [h1, h2]
    · rw [cond_f (by omega)]; simp [h1]
  have h4 : ∀ m, (dds_CheckLogical.l n (m + 4)).1 5 ((4 : Nat) : Int) (bs nm) (bs fm) (Ws ws) (fs.map LF.av) (js.map JP.av) (ks.map KF.av) uq (rs.map RL.av) = if (rErrT (names fs) rs).2 ≠ 0 then some (rErrT (names fs) rs) else some (0, if ws.length > 1 ∧ (rs.length > 0 ∨ uq = true) then 15 else 0) := by
    intro m
    rw [dds_CheckLogical.at4]
    unfold dds_CheckLogical.r4
    rw [cond_t (by omega), cond_t (by omega), dds_CheckLogical.at6]
    unfold dds_CheckLogical.r6
    rw [rulesErr_eq (by omega) fs hf rs hr, Option.bind_some, h7 _ _ 4 (by omega), h5]
  have h3 : ∀ m, (dds_CheckLogical.l n (m + 7)).1 5 ((3 : Nat) : Int) (bs nm) (bs fm) (Ws ws) (fs.map LF.av) (js.map JP.av) (ks.map KF.av) uq (rs.map RL.av) = if (kErrT (names fs) ks).2 ≠ 0 then some (kErrT (names fs) ks) else
      if (rErrT (names fs) rs).2 ≠ 0 then some (rErrT (names fs) rs) else some (0, if ws.length > 1 ∧ (rs.length > 0 ∨ uq = true) then 15 else 0) := by
    intro m
    rw [dds_CheckLogical.at4]
    unfold dds_CheckLogical.r4
    rw [cond_t (by omega), cond_f (by omega), cond_t (by omega), dds_CheckLogical.at6x1]
    unfold dds_CheckLogical.r6x1 dds_CheckLogical_1.F dds_CheckLogical_1.e
    rw [namesOf_eq (by omega) fs hf, Option.bind_some, keysErr_eq (by omega) _ hnl ks hk, Option.bind_some, Option.bind_some, h7 _ _ 3 (by omega), h4]
  have h2 : 1 ≤ ws.length → ∀ m, (dds_CheckLogical.l n (m + 10)).1 5 ((2 : Nat) : Int) (bs nm) (bs fm) (Ws ws) (fs.map LF.av) (js.map JP.av) (ks.map KF.av) uq (rs.map RL.av) = if (jErrT ws js).2 ≠ 0 then some (jErrT ws js) else
      if (kErrT (names fs) ks).2 ≠ 0 then some (kErrT (names fs) ks) else if (rErrT (names fs) rs).2 ≠ 0 then some (rErrT (names fs) rs) else some (0, if ws.length > 1 ∧ (rs.length > 0 ∨ uq = true) then 15 else 0) := by
    intro h1 m
    rw [dds_CheckLogical.at4]
    unfold dds_CheckLogical.r4
    rw [cond_t (by omega), cond_f (by omega), cond_f (by omega), cond_t (by omega), dds_CheckLogical.at6x2]
    unfold dds_CheckLogical.r6x2
    rw [joins_eq (by omega) ws ⟨h1, hw⟩ js hj, Option.bind_some, h7 _ _ 2 (by omega), h3]
  have h1 : 1 ≤ ws.length → ∀ m, (dds_CheckLogical.l n (m + 13)).1 5 ((1 : Nat) : Int) (bs nm) (bs fm) (Ws ws) (fs.map LF.av) (js.map JP.av) (ks.map KF.av) uq (rs.map RL.av) = if (fErrT ws fs).2 ≠ 0 then some (fErrT ws fs) else if (jErrT ws js).2 ≠ 0 then some (jErrT ws js) else
      if (kErrT (names fs) ks).2 ≠ 0 then some (kErrT (names fs) ks) else if (rErrT (names fs) rs).2 ≠ 0 then some (rErrT (names fs) rs) else some (0, if ws.length > 1 ∧ (rs.length > 0 ∨ uq = true) then 15 else 0) := by
    intro h1 m
    rw [dds_CheckLogical.at4]
    unfold dds_CheckLogical.r4
    rw [cond_t (by omega), cond_f (by omega), cond_f (by omega), cond_f (by omega), cond_t (by omega), dds_CheckLogical.at6x3]
    unfold dds_CheckLogical.r6x3
    rw [fieldsErr_eq (by omega) ws hw fs hf, Option.bind_some, h7 _ _ 1 (by omega), h2 h1]
  unfold dds_CheckLogical.F dds_CheckLogical.e chkL
  rw [isName_eq (by omega), Option.bind_some, isName_eq (by omega), Option.bind_some]
  cases hnm : isNm nm with
  | false => rfl
  | true =>
    cases hfm : isNm fm with
    | false => rfl
    | true =>
      simp only [Bool.not_true, cond_false, Bool.true_eq_false, if_false]
      obtain ⟨m, rfl⟩ : ∃ m, n = m + 16 := ⟨n - 16, by omega⟩
      rw [show (0 : Int) = ((0 : Nat) : Int) from rfl, dds_CheckLogical.at4]
      unfold dds_CheckLogical.r4
      rw [cond_t (by omega), cond_f (by omega), cond_f (by omega), cond_f (by omega), cond_f (by omega), cond_t (by omega), dds_CheckLogical.at6x4]
      unfold dds_CheckLogical.r6x4
      rw [basesErr_eq (by omega) ws hw, Option.bind_some, h7 _ _ 0 (by omega)]
      by_cases hb : (bErrT ws).2 = 0
      · have hlen : 1 ≤ ws.length := by
          unfold bErrT at hb
          by_cases h0 : ws.length = 0
          · rw [if_pos h0] at hb; cases hb
          · omega
        rw [if_neg (by simp [hb]), if_neg (by simp [hb]), h1 hlen]
        simp only [some_ite, if_false]
        rfl
      · rw [if_pos hb]
        show _ = some (if (bErrT ws).2 ≠ 0 then _ else _)
        rw [if_pos hb]
end
end Go.Proofs.YtmpglmcjoelciaaGreatDoor.Ev

/- Logical files, 4: the reference's check. -/
namespace Go.Proofs.YtmpglmcjoelciaaGreatDoor.Ev
open Go Go.Proofs Go.Proofs.Ev
set_option linter.unusedVariables false
section
variable {n : Nat} {nm fm : ByteArray} {a2 a3 a4 a5 a7 : List AV} {uq : Bool}
theorem fieldOf_l (fs : List LF) (hf : fs.length ≤ 1000) (s : List UInt8) : ∀ (d i m : Nat), i + d = fs.length → d < m → midrangeref25_FieldOf.l n m (bs s) i nm fm a2 (fs.map LF.av) a4 a5 uq a7 = some (ixs ((names fs).drop i) s i)
  | _, _, 0, _, h => absurd h (by omega)
  | 0, i, m + 1, h, _ => by
    rw [midrangeref25_FieldOf.at2]
    unfold midrangeref25_FieldOf.r2
    simp only [List.length_map]
    rw [cond_f (by omega), List.drop_of_length_le (by simp [names]; omega)]
    rfl
  | d + 1, i, m + 1, h, hm => by
    have hi : i < fs.length := by omega
    have hni : i < (names fs).length := by simp [names]; omega
    have e2 : (names fs)[i] = fs[i].nm := by simp [names]
    have ih := fieldOf_l fs hf s d (i + 1) m (by omega) (by omega)
    rw [midrangeref25_FieldOf.at2]
    unfold midrangeref25_FieldOf.r2
    simp only [List.length_map]
    rw [cond_t (by omega), within_t hi, cond_true, at_map LF.av hi, List.drop_eq_getElem_cons hni]
    show (bif ((bs fs[i].nm).toList == (bs s).toList) then _ else _) = _
    rw [str_eq, wsucc (by omega), ih, ixs_cons, e2]
    by_cases h : fs[i].nm = s
    · rw [cond_t h, if_pos h]
    · rw [cond_f h, if_neg h]
theorem fieldOf_eq (hn : 1001 ≤ n) (fs : List LF) (hf : fs.length ≤ 1000) (s : List UInt8) : midrangeref25_FieldOf.F n nm fm a2 (fs.map LF.av) a4 a5 uq a7 (bs s) = some (ixs (names fs) s 0) := by
  unfold midrangeref25_FieldOf.F midrangeref25_FieldOf.e
  have := fieldOf_l (n := n) (nm := nm) (fm := fm) (a2 := a2) (a4 := a4) (a5 := a5) (uq := uq) (a7 := a7) fs hf s fs.length 0 n (by omega) (by omega)
  rw [List.drop_zero] at this
  exact this
theorem ixs_ge : ∀ (ws : List (List UInt8)) (s : List UInt8) (i : Nat), -1 ≤ ixs ws s i
  | [], _, _ => by simp [ixs]
  | w :: r, s, i => by
    unfold ixs
    split
    · omega
    · exact ixs_ge r s (i + 1)
theorem ixs_none (ws : List (List UInt8)) (s : List UInt8) : (ixs ws s 0 == -1) = !ws.contains s := by
  have h1 := ixs_has ws s 0
  have h2 := ixs_ge ws s 0
  rw [← h1, beq_int]
  by_cases h : ixs ws s 0 ≥ 0
  · have : ¬ ixs ws s 0 = -1 := by omega
    simp [h, this]
  · have : ixs ws s 0 = -1 := by omega
    simp [this]
theorem ruleErr_l (hn : 1001 ≤ n) (fs : List LF) (hf : fs.length ≤ 1000) (om : Bool) (cs : List CN) (hc : cs.length ≤ 1000) : ∀ (d i m : Nat), i + d = cs.length → d < m →
    midrangeref25_ruleErr.l n m i nm fm a2 (fs.map LF.av) a4 a5 uq a7 om (cs.map CN.av) = some (cErr (names fs) (cs.drop i))
  | _, _, 0, _, h => absurd h (by omega)
  | 0, i, m + 1, h, _ => by
    rw [midrangeref25_ruleErr.at4]
    unfold midrangeref25_ruleErr.r4
    simp only [List.length_map]
    rw [cond_f (by omega), List.drop_of_length_le (by omega)]
    rfl
  | d + 1, i, m + 1, h, hm => by
    have hi : i < cs.length := by omega
    have ih := ruleErr_l hn fs hf om cs hc d (i + 1) m (by omega) (by omega)
    rw [midrangeref25_ruleErr.at4]
    unfold midrangeref25_ruleErr.r4
    simp only [List.length_map]
    rw [cond_t (by omega), within_t hi, cond_true, at_map CN.av hi, List.drop_eq_getElem_cons hi]
    show ((midrangeref25_FieldOf.F n nm fm a2 (fs.map LF.av) a4 a5 uq a7 (bs cs[i].fd)).bind fun p15 => bif p15 == (-1) then (some 11) else ((midrangebase_Within.F n cs[i].op 0 5).bind fun p16 => bif !p16 then (some 4) else
      ((midrangebase_Within.F n cs[i].n (-999999999999999) 999999999999999).bind fun p17 => bif !p17 then (some 3) else (bif decide ((((bs cs[i].s).size : Nat) : Int) > 256) then (some 2) else
      (bif cs[i].n != 0 then (bif !((bs cs[i].s).toList == (⟨#[]⟩ : ByteArray).toList) then (some 5) else (midrangeref25_ruleErr.l n m (IntKind.i64.wrap ((i : Int) + 1)) nm fm a2 (fs.map LF.av) a4 a5 uq a7 om (cs.map CN.av))) else
        (midrangeref25_ruleErr.l n m (IntKind.i64.wrap ((i : Int) + 1)) nm fm a2 (fs.map LF.av) a4 a5 uq a7 om (cs.map CN.av))))))) = _
    rw [fieldOf_eq hn fs hf, Option.bind_some, ixs_none, Within_eq, Option.bind_some, Within_eq, Option.bind_some, bs_size, empty_eq, wsucc (by omega), ih]
    rw [cErr_cons]
    unfold ce
    cases h1 : (names fs).contains cs[i].fd
    · simp
    · by_cases h2 : 0 ≤ cs[i].op ∧ cs[i].op ≤ 5
      · by_cases h3 : -999999999999999 ≤ cs[i].n ∧ cs[i].n ≤ 999999999999999
        · by_cases h4 : cs[i].s.length > 256
          · have : decide (((cs[i].s.length : Nat) : Int) > 256) = true := by rw [decide_eq_true_eq]; omega
            simp [h2, h3, h4, this]
          · have : decide (((cs[i].s.length : Nat) : Int) > 256) = false := by rw [decide_eq_false_iff_not]; omega
            rw [this]
            rw [bif_ne]
            by_cases h0 : cs[i].n = 0 <;> by_cases h5 : cs[i].s = [] <;> simp [h0, h2, h3, h4, h5]
        · simp [h2, h3]
      · simp [h2]
theorem ruleErr_eq (hn : 1001 ≤ n) (fs : List LF) (hf : fs.length ≤ 1000) (r : RL) (hc : r.cs.length ≤ 1000) : midrangeref25_ruleErr.F n nm fm a2 (fs.map LF.av) a4 a5 uq a7 r.om (r.cs.map CN.av) = some (re (names fs) r) := by
  unfold midrangeref25_ruleErr.F midrangeref25_ruleErr.e re
  simp only [List.length_map]
  by_cases h : r.cs.length > 4
  · rw [cond_t (by omega), if_pos h]
  · rw [cond_f (by omega), if_neg h]
    have := ruleErr_l (n := n) (nm := nm) (fm := fm) (a2 := a2) (a4 := a4) (a5 := a5) (uq := uq) (a7 := a7) hn fs hf r.om r.cs hc r.cs.length 0 n (by omega) (by omega)
    rw [List.drop_zero] at this
    exact this
theorem joinsC_l (ts : List Bool) (ht : ts.length ≤ 1000) : ∀ (d i m : Nat), i + d = ts.length → d < m → (midrangeref25_joinsErr.l n m).2 i (Bl ts) = some (0, if (ts.drop i).contains false then 11 else 0)
  | _, _, 0, _, h => absurd h (by omega)
  | 0, i, m + 1, h, _ => by
    rw [midrangeref25_joinsErr.at18]
    unfold midrangeref25_joinsErr.r18
    simp only [Bl_length]
    rw [cond_f (by omega), List.drop_of_length_le (by omega)]
    rfl
  | d + 1, i, m + 1, h, hm => by
    have hi : i < ts.length := by omega
    have ih := joinsC_l ts ht d (i + 1) m (by omega) (by omega)
    rw [midrangeref25_joinsErr.at18]
    unfold midrangeref25_joinsErr.r18
    simp only [Bl_length]
    rw [cond_t (by omega), within_t hi, cond_true, Bl_getD hi, List.drop_eq_getElem_cons hi, List.contains_cons]
    show (bif !ts[i] then some (0, 11) else (midrangeref25_joinsErr.l n m).2 (IntKind.i64.wrap ((i : Int) + 1)) (Bl ts)) = _
    rw [wsucc (by omega), ih]
    cases ts[i] <;> simp
theorem joinsR_l (hn : 1001 ≤ n) (ws : List (List UInt8)) (hw : 1 ≤ ws.length ∧ ws.length ≤ 1000) (js : List JP) (hj : js.length ≤ 1000) : ∀ (d i m : Nat) (last : Int) (ts : List Bool), i + d = js.length → d + 1001 < m → ts.length = ws.length →
    ((i = 0 ∧ last = 0) ∨ ∃ h : i - 1 < js.length, 0 < i ∧ last = js[i - 1].b) →
    (midrangeref25_joinsErr.l n m).1 i nm fm (Ws ws) a3 (js.map JP.av) a5 uq a7 (Bl ts) = some (jErr ((ws.length : Int) - 1) (js.drop i) i last ts)
  | _, _, 0, _, _, _, h, _, _ => absurd h (by omega)
  | 0, i, m + 1, last, ts, h, hm, ht, hl => by
    rw [midrangeref25_joinsErr.at5]
    unfold midrangeref25_joinsErr.r5
    simp only [List.length_map]
    rw [cond_f (by omega), List.drop_of_length_le (by omega)]
    exact joinsC_l ts (by omega) (ts.length - 1) 1 m (by omega) (by omega)
  | d + 1, i, m + 1, last, ts, h, hm, ht, hl => by
    have hi : i < js.length := by omega
    rw [midrangeref25_joinsErr.at5]
    unfold midrangeref25_joinsErr.r5
    simp only [List.length_map]
    rw [cond_t (by omega), within_t hi, cond_true, at_map JP.av hi, List.drop_eq_getElem_cons hi]
    show ((midrangebase_Within.F n js[i].b 1 (IntKind.i64.wrap ((((Ws ws).length : Nat) : Int) - 1))).bind fun p17 => bif !p17 then (some ((i : Int), 3)) else ((midrangebase_Within.F n js[i].fr 0 (IntKind.i64.wrap (js[i].b - 1))).bind fun p18 =>
      bif !p18 then (some ((i : Int), 3)) else ((midrangebase_IsName.F n (bs js[i].lf)).bind fun p19 => bif !p19 then (some ((i : Int), 7)) else ((midrangebase_IsName.F n (bs js[i].rt)).bind fun p20 => bif !p20 then (some ((i : Int), 7)) else
      (bif decide ((i : Int) > 0) then (bif decide ((0 : Int) ≤ IntKind.i64.wrap ((i : Int) - 1)) && decide (IntKind.i64.wrap ((i : Int) - 1) < ((js.length : Nat) : Int)) then (withCons ((((js.map JP.av).getD ((IntKind.i64.wrap ((i : Int) - 1)).toNat) .undef).cells).drop 2) fun h21 r22 =>
        withInt .i64 h21 fun x23 => bif decide (js[i].b < x23) then (some ((i : Int), 14)) else (bif decide ((0 : Int) ≤ js[i].b) && decide (js[i].b < (((Bl ts).length : Nat) : Int)) then
          ((midrangeref25_joinsErr.l n m).1 (IntKind.i64.wrap ((i : Int) + 1)) nm fm (Ws ws) a3 (js.map JP.av) a5 uq a7 ((Bl ts).set ((js[i].b).toNat) (vb true))) else none)) else none)
      else (bif decide ((0 : Int) ≤ js[i].b) && decide (js[i].b < (((Bl ts).length : Nat) : Int)) then
          ((midrangeref25_joinsErr.l n m).1 (IntKind.i64.wrap ((i : Int) + 1)) nm fm (Ws ws) a3 (js.map JP.av) a5 uq a7 ((Bl ts).set ((js[i].b).toNat) (vb true))) else none)))))) = _
    rw [Ws_length, Within_eq, Option.bind_some, Within_eq, Option.bind_some, isNameR_eq hn, Option.bind_some, isNameR_eq hn, Option.bind_some, w64 (x := (ws.length : Int) - 1) (by omega) (by omega), wsucc (by omega), Bl_set]
    rw [jErr_cons]
    unfold je
    by_cases h1 : 1 ≤ js[i].b ∧ js[i].b ≤ (ws.length : Int) - 1
    · rw [w64 (x := js[i].b - 1) (by omega) (by omega)]
      have e2 : (decide ((0 : Int) ≤ js[i].b) && decide (js[i].b < (((Bl ts).length : Nat) : Int))) = true := by
        rw [Bl_length, Bool.and_eq_true, decide_eq_true_eq, decide_eq_true_eq]; omega
      have ih := joinsR_l hn ws hw js hj d (i + 1) m js[i].b (ts.set js[i].b.toNat true) (by omega) (by omega) (by simp [ht]) (.inr ⟨by simpa using hi, by omega, by simp⟩)
      by_cases h2 : 0 ≤ js[i].fr ∧ js[i].fr ≤ js[i].b - 1
      · cases h3 : isNm js[i].lf
        · simp [h1, h2]
        · cases h4 : isNm js[i].rt
          · simp [h1, h2]
          · rw [e2, cond_true, ih]
            rcases hl with ⟨h0, hl0⟩ | ⟨hlt, h0, hl0⟩
            · subst h0 hl0
              have : ¬ js[0].b < 0 := by omega
              simp [h1, h2, this]
            · have e3 : IntKind.i64.wrap ((i : Int) - 1) = ((i - 1 : Nat) : Int) := by rw [w64] <;> omega
              have hg : decide ((i : Int) > 0) = true := by rw [decide_eq_true_eq]; omega
              rw [e3, within_t hlt, cond_true, at_map JP.av hlt, hg, cond_true]
              simp only [h1, h2, and_self, decide_true, Bool.not_true, cond_false, not_true_eq_false, if_false, Bool.true_eq_false]
              show (bif decide (js[i].b < js[i - 1].b) then some ((i : Int), (14 : Int)) else _) = _
              rw [← hl0]
              by_cases h5 : js[i].b < last
              · rw [cond_t h5, if_pos h5]; simp
              · rw [cond_f h5, if_neg h5]; simp
      · simp [h1, h2]
    · simp [h1]
theorem joinsR_eq (hn : 3001 ≤ n) (ws : List (List UInt8)) (hw : 1 ≤ ws.length ∧ ws.length ≤ 1000) (js : List JP) (hj : js.length ≤ 1000) : midrangeref25_joinsErr.F n nm fm (Ws ws) a3 (js.map JP.av) a5 uq a7 = some (jErrT ws js) := by
  unfold midrangeref25_joinsErr.F midrangeref25_joinsErr.e jErrT
  simp only [List.length_map, Ws_length]
  by_cases h : js.length > 20
  · rw [cond_t (by omega), if_pos h]
  · rw [cond_f (by omega), if_neg h, cond_yes (by have : most = 1000000000 := rfl; simp [this]; omega), Int.toNat_natCast]
    have e : List.replicate ws.length (vb false) = Bl (List.replicate ws.length false) := by simp [Bl]
    rw [e]
    have := joinsR_l (nm := nm) (fm := fm) (a3 := a3) (a5 := a5) (uq := uq) (a7 := a7) (n := n) (by omega) ws hw js hj js.length 0 n 0 (List.replicate ws.length false) (by omega) (by omega) (by simp) (.inl ⟨rfl, rfl⟩)
    rw [List.drop_zero] at this
    exact this
end
section
variable {n : Nat} {nm fm : ByteArray} {ws : List (List UInt8)} {fs : List LF} {js : List JP} {ks : List KF} {uq : Bool} {rs : List RL}
/-- What the reference does behind the keys. -/
def tailR (ws : List (List UInt8)) (fs : List LF) (uq : Bool) (rs : List RL) (i : Nat) : Int × Int :=
  if (rErr (names fs) (rs.drop i) i).2 ≠ 0 then rErr (names fs) (rs.drop i) i else (0, if ws.length > 1 ∧ (rs.length > 0 ∨ uq = true) then 15 else 0)
theorem checkR48 (hn : 1001 ≤ n) (hf : fs.length ≤ 1000) (hr : rs.length ≤ 1000) (hc : ∀ r ∈ rs, r.cs.length ≤ 1000) : ∀ (d i m : Nat), i + d = rs.length → d < m →
    (midrangeref25_Check.l n m).2.2.2.2 i nm fm (Ws ws) (fs.map LF.av) (js.map JP.av) (ks.map KF.av) uq (rs.map RL.av) = some (tailR ws fs uq rs i)
  | _, _, 0, _, h => absurd h (by omega)
  | 0, i, m + 1, h, _ => by
    rw [midrangeref25_Check.at48]
    unfold midrangeref25_Check.r48 tailR
    simp only [List.length_map, Ws_length]
    rw [cond_f (by omega), List.drop_of_length_le (by omega)]
    show _ = some (if (0 : Int) ≠ 0 then _ else _)
    rw [if_neg (by simp)]
    by_cases h1 : ws.length > 1
    · rw [cond_t (by omega)]
      by_cases h2 : rs.length > 0
      · rw [cond_t (by omega)]; simp [h1, h2]
      · rw [cond_f (by omega)]; cases uq <;> simp [h1, h2]
    · rw [cond_f (by omega)]; simp [h1]
  | d + 1, i, m + 1, h, hm => by
    have hi : i < rs.length := by omega
    have ih := checkR48 hn hf hr hc d (i + 1) m (by omega) (by omega)
    rw [midrangeref25_Check.at48]
    unfold midrangeref25_Check.r48
    simp only [List.length_map]
    rw [cond_t (by omega), within_t hi, cond_true, at_map RL.av hi]
    show ((midrangeref25_ruleErr.F n nm fm (Ws ws) (fs.map LF.av) (js.map JP.av) (ks.map KF.av) uq (rs.map RL.av) rs[i].om (rs[i].cs.map CN.av)).bind fun p52 => bif p52 != 0 then (some ((i : Int), p52)) else
      (midrangeref25_Check.l n m).2.2.2.2 (IntKind.i64.wrap ((i : Int) + 1)) nm fm (Ws ws) (fs.map LF.av) (js.map JP.av) (ks.map KF.av) uq (rs.map RL.av)) = _
    rw [ruleErr_eq hn fs hf rs[i] (hc _ (List.getElem_mem _)), Option.bind_some, bif_ne, wsucc (by omega), ih]
    unfold tailR
    rw [List.drop_eq_getElem_cons hi]
    rw [rErr_cons]
    by_cases h0 : re (names fs) rs[i] = 0
    · simp only [h0, ne_eq, not_true_eq_false, if_false]
    · simp only [h0, ne_eq, not_false_eq_true, if_true]
def tailK (ws : List (List UInt8)) (fs : List LF) (ks : List KF) (uq : Bool) (rs : List RL) (i : Nat) : Int × Int :=
  if (kErr (names fs) (knames ks) (ks.drop i) i).2 ≠ 0 then kErr (names fs) (knames ks) (ks.drop i) i else if rs.length > 8 then (0, 2) else tailR ws fs uq rs 0
theorem checkR36 (hn : 1001 ≤ n) (hf : fs.length ≤ 1000) (hk : ks.length ≤ 1000) (hr : rs.length ≤ 1000) (hc : ∀ r ∈ rs, r.cs.length ≤ 1000) : ∀ (d i m : Nat), i + d = ks.length → 1010 * d + 1002 ≤ m →
    (midrangeref25_Check.l n m).2.2.1 i nm fm (Ws ws) (fs.map LF.av) (js.map JP.av) (ks.map KF.av) uq (rs.map RL.av) = some (tailK ws fs ks uq rs i)
  | 0, i, m, h, hm => by
    obtain ⟨m, rfl⟩ : ∃ q, m = q + 1 := ⟨m - 1, by omega⟩
    rw [midrangeref25_Check.at36]
    unfold midrangeref25_Check.r36 tailK
    simp only [List.length_map]
    rw [cond_f (by omega), List.drop_of_length_le (by omega)]
    show _ = some (if (0 : Int) ≠ 0 then _ else _)
    rw [if_neg (by simp)]
    by_cases h8 : rs.length > 8
    · rw [cond_t (by omega), if_pos h8]
    · rw [cond_f (by omega), if_neg h8]
      exact checkR48 hn hf hr hc rs.length 0 m (by omega) (by omega)
  | d + 1, i, m, h, hm => by
    obtain ⟨m, rfl⟩ : ∃ q, m = q + 1 := ⟨m - 1, by omega⟩
    have hi : i < ks.length := by omega
    have hkl : (knames ks).length = ks.length := by simp [knames]
    -- whether it stood before
    have inner : ∀ (e j q : Nat), j + e = i → 1010 * d + 1003 + e ≤ q → (midrangeref25_Check.l n q).2.2.2.1 i j nm fm (Ws ws) (fs.map LF.av) (js.map JP.av) (ks.map KF.av) uq (rs.map RL.av) =
        some (if (((knames ks).take i).drop j).contains ks[i].nm then ((i : Int), 13) else tailK ws fs ks uq rs (i + 1)) := by
      intro e
      induction e with
      | zero =>
        intro j q hj hq
        obtain ⟨q, rfl⟩ : ∃ r, q = r + 1 := ⟨q - 1, by omega⟩
        rw [midrangeref25_Check.at41]
        unfold midrangeref25_Check.r41
        rw [cond_f (by omega), wsucc (by omega), checkR36 hn hf hk hr hc d (i + 1) q (by omega) (by omega), List.drop_of_length_le (by rw [List.length_take]; omega)]
        simp
      | succ e ih =>
        intro j q hj hq
        obtain ⟨q, rfl⟩ : ∃ r, q = r + 1 := ⟨q - 1, by omega⟩
        have ih' := ih (j + 1) q (by omega) (by omega)
        have hjl : j < ks.length := by omega
        have hjt : j < ((knames ks).take i).length := by rw [List.length_take]; omega
        have e2 : ((knames ks).take i)[j] = ks[j].nm := by simp [knames]
        rw [midrangeref25_Check.at41]
        unfold midrangeref25_Check.r41
        simp only [List.length_map]
        rw [cond_t (by omega), within_t hjl, cond_true, at_map KF.av hjl, List.drop_eq_getElem_cons hjt, List.contains_cons, e2]
        show (bif decide ((0 : Int) ≤ (i : Int)) && decide ((i : Int) < ((ks.length : Nat) : Int)) then (withCons (((ks.map KF.av).getD (((i : Nat) : Int)).toNat .undef).cells) fun h42 r43 => withStr h42 fun s44 => bif (bs ks[j].nm).toList == s44.toList then (some ((i : Int), 13)) else
          (midrangeref25_Check.l n q).2.2.2.1 i (IntKind.i64.wrap ((j : Int) + 1)) nm fm (Ws ws) (fs.map LF.av) (js.map JP.av) (ks.map KF.av) uq (rs.map RL.av)) else none) = _
        rw [within_t hi, cond_true, at_map KF.av hi]
        show (bif (bs ks[j].nm).toList == (bs ks[i].nm).toList then (some ((i : Int), 13)) else
          (midrangeref25_Check.l n q).2.2.2.1 i (IntKind.i64.wrap ((j : Int) + 1)) nm fm (Ws ws) (fs.map LF.av) (js.map JP.av) (ks.map KF.av) uq (rs.map RL.av)) = _
        rw [str_eq, wsucc (by omega), ih']
        by_cases h : ks[j].nm = ks[i].nm
        · rw [cond_t h]; simp [h]
        · have : (ks[i].nm == ks[j].nm) = false := by simpa using fun e => h e.symm
          rw [cond_f h, this, Bool.false_or]
    rw [midrangeref25_Check.at36]
    unfold midrangeref25_Check.r36
    simp only [List.length_map]
    rw [cond_t (by omega), within_t hi, cond_true, at_map KF.av hi]
    show ((midrangeref25_FieldOf.F n nm fm (Ws ws) (fs.map LF.av) (js.map JP.av) (ks.map KF.av) uq (rs.map RL.av) (bs ks[i].nm)).bind fun p37 => bif p37 == (-1) then (some ((i : Int), 11)) else
      (midrangeref25_Check.l n m).2.2.2.1 i 0 nm fm (Ws ws) (fs.map LF.av) (js.map JP.av) (ks.map KF.av) uq (rs.map RL.av)) = _
    have hin := inner i 0 m (by omega) (by omega)
    rw [List.drop_zero] at hin
    rw [fieldOf_eq hn fs hf, Option.bind_some, ixs_none, show (0 : Int) = ((0 : Nat) : Int) from rfl, hin]
    unfold tailK
    rw [List.drop_eq_getElem_cons hi]
    rw [kErr_cons]
    unfold ke
    cases h1 : (names fs).contains ks[i].nm
    · simp
    · cases h2 : ((knames ks).take i).contains ks[i].nm
      · simp
      · simp
def tailF (ws : List (List UInt8)) (fs : List LF) (js : List JP) (ks : List KF) (uq : Bool) (rs : List RL) (i : Nat) : Int × Int :=
  if (fErr ((ws.length : Int) - 1) (names fs) (fs.drop i) i).2 ≠ 0 then fErr ((ws.length : Int) - 1) (names fs) (fs.drop i) i else if (jErrT ws js).2 ≠ 0 then jErrT ws js else if ks.length > 4 then (0, 2) else tailK ws fs ks uq rs 0
end
end Go.Proofs.YtmpglmcjoelciaaGreatDoor.Ev
