/- The table of the program's types, and that it is right. Printed by the session's own program. -/
import Derived.Test.YtgmpnhfnkhohiaaVb
import Derived.Test.YtgmpnhfnkhohiaaProg
import Derived.KernelRfl
import Derived.Shelf.Spec.SlicesGrow
import Derived.Shelf.SlLaysE0
import Derived.Shelf.SlGeneric
import Derived.Ground.Names8Prog
import Derived.Ground.SlgnProg
import Derived.PlainAid
import Derived.IntWalk
import Derived.Laws.Strings

namespace Go.Proofs.Ytgmpnhfnkhohiaa.Ev
open Go Go.Proofs Go.Proofs.Ev
set_option linter.unusedVariables false
set_option maxRecDepth 100000
noncomputable def tabL : List (Option TI) := [
  none,
  Option.some ⟨.other, 1, 8, false, [.any], [.nilFunc]⟩,
  Option.some ⟨.int .i64, 1, 8, false, [(.int .i64)], [.int .i64 0]⟩,
  Option.some ⟨.int .i64, 1, 8, false, [(.int .i64)], [.int .i64 0]⟩,
  Option.some ⟨.bool, 1, 1, false, [.bool], [.bool false]⟩,
  Option.some ⟨.int .u8, 1, 1, false, [(.int .u8)], [.int .u8 0]⟩,
  none,
  none,
  none,
  Option.some ⟨.string, 1, 16, false, [.str], [.string ⟨#[]⟩]⟩,
  none,
  none,
  Option.some ⟨.int .u64, 1, 8, false, [(.int .u64)], [.int .u64 0]⟩,
  none,
  none,
  Option.some ⟨.ptr 127, 1, 8, false, [.any], [.pointer none]⟩,
  Option.some ⟨.ptr 130, 1, 8, false, [.any], [.pointer none]⟩,
  Option.some ⟨.ptr 137, 1, 8, false, [.any], [.pointer none]⟩,
  none,
  none,
  Option.some ⟨.iface, 1, 16, false, [.any], [.nilIface]⟩,
  Option.some ⟨.int .i32, 1, 4, false, [(.int .i32)], [.int .i32 0]⟩,
  Option.some ⟨.struct [(3, 0), (3, 1)], 2, 16, true, [(.int .i64), (.int .i64)], [.int .i64 0, .int .i64 0]⟩,
  Option.some ⟨.struct [(3, 0), (3, 1)], 2, 16, true, [(.int .i64), (.int .i64)], [.int .i64 0, .int .i64 0]⟩,
  Option.some ⟨.struct [(3, 0), (23, 1), (3, 3)], 4, 32, true, [(.int .i64), (.int .i64), (.int .i64), (.int .i64)], [.int .i64 0, .int .i64 0, .int .i64 0, .int .i64 0]⟩,
  Option.some ⟨.struct [(3, 0), (23, 1), (3, 3)], 4, 32, true, [(.int .i64), (.int .i64), (.int .i64), (.int .i64)], [.int .i64 0, .int .i64 0, .int .i64 0, .int .i64 0]⟩,
  Option.some ⟨.other, 1, 8, false, [.any], [.nilFunc]⟩,
  Option.some ⟨.other, 1, 8, false, [.any], [.nilFunc]⟩,
  Option.some ⟨.int .i64, 1, 8, false, [(.int .i64)], [.int .i64 0]⟩,
  none,
  Option.some ⟨.other, 1, 8, false, [.any], [.nilFunc]⟩,
  Option.some ⟨.other, 1, 8, false, [.any], [.nilFunc]⟩,
  Option.some ⟨.other, 1, 8, false, [.any], [.nilFunc]⟩,
  none,
  Option.some ⟨.other, 1, 8, false, [.any], [.nilFunc]⟩,
  none,
  Option.some ⟨.other, 1, 8, false, [.any], [.nilFunc]⟩,
  Option.some ⟨.other, 1, 8, false, [.any], [.nilFunc]⟩,
  Option.some ⟨.slice 4, 1, 24, false, [(.slice true 1)], [.slice none 0 0]⟩,
  Option.some ⟨.struct [(9, 0), (38, 1)], 2, 40, true, [.str, (.slice true 1)], [.string ⟨#[]⟩, .slice none 0 0]⟩,
  Option.some ⟨.struct [(9, 0), (38, 1)], 2, 40, true, [.str, (.slice true 1)], [.string ⟨#[]⟩, .slice none 0 0]⟩,
  Option.some ⟨.struct [(3, 0), (3, 1), (9, 2)], 3, 32, true, [(.int .i64), (.int .i64), .str], [.int .i64 0, .int .i64 0, .string ⟨#[]⟩]⟩,
  Option.some ⟨.struct [(3, 0), (3, 1), (9, 2)], 3, 32, true, [(.int .i64), (.int .i64), .str], [.int .i64 0, .int .i64 0, .string ⟨#[]⟩]⟩,
  Option.some ⟨.other, 1, 8, false, [.any], [.nilFunc]⟩,
  Option.some ⟨.other, 1, 8, false, [.any], [.nilFunc]⟩,
  Option.some ⟨.other, 1, 8, false, [.any], [.nilFunc]⟩,
  none,
  Option.some ⟨.other, 1, 8, false, [.any], [.nilFunc]⟩,
  Option.some ⟨.other, 1, 8, false, [.any], [.nilFunc]⟩,
  Option.some ⟨.other, 1, 8, false, [.any], [.nilFunc]⟩,
  Option.some ⟨.other, 1, 8, false, [.any], [.nilFunc]⟩,
  Option.some ⟨.other, 1, 8, false, [.any], [.nilFunc]⟩,
  Option.some ⟨.other, 1, 8, false, [.any], [.nilFunc]⟩,
  Option.some ⟨.other, 1, 8, false, [.any], [.nilFunc]⟩,
  Option.some ⟨.other, 1, 8, false, [.any], [.nilFunc]⟩,
  Option.some ⟨.other, 1, 8, false, [.any], [.nilFunc]⟩,
  Option.some ⟨.other, 1, 8, false, [.any], [.nilFunc]⟩,
  Option.some ⟨.other, 1, 8, false, [.any], [.nilFunc]⟩,
  Option.some ⟨.other, 1, 8, false, [.any], [.nilFunc]⟩,
  Option.some ⟨.struct [(3, 0), (3, 1), (3, 2)], 3, 24, true, [(.int .i64), (.int .i64), (.int .i64)], [.int .i64 0, .int .i64 0, .int .i64 0]⟩,
  Option.some ⟨.struct [(3, 0), (3, 1), (3, 2)], 3, 24, true, [(.int .i64), (.int .i64), (.int .i64)], [.int .i64 0, .int .i64 0, .int .i64 0]⟩,
  Option.some ⟨.other, 1, 8, false, [.any], [.nilFunc]⟩,
  Option.some ⟨.other, 1, 8, false, [.any], [.nilFunc]⟩,
  Option.some ⟨.other, 1, 8, false, [.any], [.nilFunc]⟩,
  Option.some ⟨.other, 1, 8, false, [.any], [.nilFunc]⟩,
  Option.some ⟨.other, 1, 8, false, [.any], [.nilFunc]⟩,
  none,
  Option.some ⟨.other, 1, 8, false, [.any], [.nilFunc]⟩,
  Option.some ⟨.slice 3, 1, 24, false, [(.slice true 1)], [.slice none 0 0]⟩,
  none,
  Option.some ⟨.other, 1, 8, false, [.any], [.nilFunc]⟩,
  Option.some ⟨.other, 1, 8, false, [.any], [.nilFunc]⟩,
  Option.some ⟨.other, 1, 8, false, [.any], [.nilFunc]⟩,
  Option.some ⟨.other, 1, 8, false, [.any], [.nilFunc]⟩,
  Option.some ⟨.other, 1, 8, false, [.any], [.nilFunc]⟩,
  Option.some ⟨.other, 1, 8, false, [.any], [.nilFunc]⟩,
  Option.some ⟨.other, 1, 8, false, [.any], [.nilFunc]⟩,
  none,
  Option.some ⟨.other, 1, 8, false, [.any], [.nilFunc]⟩,
  Option.some ⟨.other, 1, 8, false, [.any], [.nilFunc]⟩,
  Option.some ⟨.other, 1, 8, false, [.any], [.nilFunc]⟩,
  Option.some ⟨.other, 1, 8, false, [.any], [.nilFunc]⟩,
  Option.some ⟨.other, 1, 8, false, [.any], [.nilFunc]⟩,
  Option.some ⟨.other, 1, 8, false, [.any], [.nilFunc]⟩,
  Option.some ⟨.other, 1, 8, false, [.any], [.nilFunc]⟩,
  Option.some ⟨.other, 1, 8, false, [.any], [.nilFunc]⟩,
  Option.some ⟨.other, 1, 8, false, [.any], [.nilFunc]⟩,
  Option.some ⟨.other, 1, 8, false, [.any], [.nilFunc]⟩,
  Option.some ⟨.other, 1, 8, false, [.any], [.nilFunc]⟩,
  Option.some ⟨.other, 1, 8, false, [.any], [.nilFunc]⟩,
  Option.some ⟨.other, 1, 8, false, [.any], [.nilFunc]⟩,
  Option.some ⟨.other, 1, 8, false, [.any], [.nilFunc]⟩,
  Option.some ⟨.other, 1, 8, false, [.any], [.nilFunc]⟩,
  Option.some ⟨.other, 1, 8, false, [.any], [.nilFunc]⟩,
  Option.some ⟨.slice 5, 1, 24, false, [(.slice true 1)], [.slice none 0 0]⟩,
  Option.some ⟨.other, 1, 8, false, [.any], [.nilFunc]⟩,
  Option.some ⟨.other, 1, 8, false, [.any], [.nilFunc]⟩,
  Option.some ⟨.int .u64, 1, 8, false, [(.int .u64)], [.int .u64 0]⟩,
  none,
  Option.some ⟨.other, 1, 8, false, [.any], [.nilFunc]⟩,
  Option.some ⟨.other, 1, 8, false, [.any], [.nilFunc]⟩,
  Option.some ⟨.ptr 103, 1, 8, false, [.any], [.pointer none]⟩,
  Option.some ⟨.struct [(101, 0), (94, 1)], 2, 32, true, [.any, (.slice true 1)], [.pointer none, .slice none 0 0]⟩,
  Option.some ⟨.struct [(101, 0), (94, 1)], 2, 32, true, [.any, (.slice true 1)], [.pointer none, .slice none 0 0]⟩,
  Option.some ⟨.other, 1, 8, false, [.any], [.nilFunc]⟩,
  Option.some ⟨.iface, 1, 16, false, [.any], [.nilIface]⟩,
  Option.some ⟨.iface, 1, 16, false, [.any], [.nilIface]⟩,
  none,
  Option.some ⟨.other, 1, 8, false, [.any], [.nilFunc]⟩,
  Option.some ⟨.other, 1, 8, false, [.any], [.nilFunc]⟩,
  Option.some ⟨.other, 1, 8, false, [.any], [.nilFunc]⟩,
  Option.some ⟨.slice 94, 1, 24, false, [(.slice false 1)], [.slice none 0 0]⟩,
  Option.some ⟨.other, 1, 8, false, [.any], [.nilFunc]⟩,
  Option.some ⟨.other, 1, 8, false, [.any], [.nilFunc]⟩,
  Option.some ⟨.other, 1, 8, false, [.any], [.nilFunc]⟩,
  Option.some ⟨.int .u32, 1, 4, false, [(.int .u32)], [.int .u32 0]⟩,
  none,
  Option.some ⟨.other, 1, 8, false, [.any], [.nilFunc]⟩,
  Option.some ⟨.int .u64, 1, 8, false, [(.int .u64)], [.int .u64 0]⟩,
  none,
  Option.some ⟨.other, 1, 8, false, [.any], [.nilFunc]⟩,
  Option.some ⟨.ptr 5, 1, 8, false, [.any], [.pointer none]⟩,
  Option.some ⟨.other, 1, 8, false, [.any], [.nilFunc]⟩,
  none,
  Option.some ⟨.other, 1, 8, false, [.any], [.nilFunc]⟩,
  Option.some ⟨.other, 1, 8, false, [.any], [.nilFunc]⟩,
  none,
  none,
  Option.some ⟨.arr 0 16, 0, 0, true, [], []⟩,
  none,
  none,
  none,
  none,
  Option.some ⟨.other, 1, 8, false, [.any], [.nilFunc]⟩,
  none,
  none,
  none,
  none]
noncomputable def params (f : FuncId) : List TypeId := match f with | 0 => [] | 1 => [] | 2 => [] | 3 => [25, 9] | 4 => [40, 42] | 5 => [40, 3, 25] | 6 => [40, 60] | 7 => [40, 42, 60] | 8 => [40, 3, 9] | 9 => [40, 3] | 10 => [] | 11 => [25] | 12 => [25] | 13 => [25] | 14 => [25] | 15 => [9] | 16 => [9] | 17 => [40] | 18 => [40, 3, 3] | 19 => [40] | 20 => [40, 3, 9] | 21 => [40] | 22 => [40] | 23 => [40, 3, 3] | 24 => [40, 40] | 25 => [40, 3, 9] | 26 => [40, 3] | 27 => [40, 3, 25] | 28 => [40, 3] | 29 => [40, 3] | 30 => [40, 3, 25] | 31 => [40, 60] | 32 => [40, 60] | 33 => [40, 60, 4] | 34 => [40, 60, 4] | 35 => [40, 40] | 36 => [40, 3, 9] | 37 => [40] | 38 => [68, 68] | 39 => [40] | 40 => [3, 3, 3] | 41 => [40, 3, 9] | 42 => [40] | 43 => [40] | 44 => [3] | 45 => [3] | 46 => [3, 3] | 47 => [25] | 48 => [3, 3, 3] | 49 => [9] | 50 => [9, 3, 3] | 51 => [40, 3, 3] | 52 => [38] | 53 => [40, 3, 9] | 54 => [38, 38] | 55 => [9, 3, 9] | 56 => [40, 3] | 57 => [40, 3] | 58 => [40, 60] | 59 => [9, 9] | 60 => [9, 3] | 61 => [5, 3] | 62 => [111] | 63 => [3, 3] | 64 => [38] | 65 => [9, 9] | 66 => [97, 97] | 67 => [9, 9] | 68 => [101, 3] | 69 => [101, 9] | 70 => [101] | 71 => [101] | 72 => [1, 3] | 73 => [9, 5] | 74 => [9, 9] | 75 => [3] | 76 => [9, 9] | 77 => [115, 115] | 78 => [118, 118] | 79 => [9, 9] | 80 => [101] | 81 => [101, 3] | 82 => [9, 5] | 83 => [9] | 85 => [3] | 86 => [8] | 87 => [8] | 88 => [10] | 89 => [10] | 90 => [11] | 91 => [11] | 92 => [14] | 93 => [14] | 94 => [15] | 95 => [15] | 96 => [16] | 97 => [16] | 98 => [17] | 99 => [19] | 100 => [19] | 101 => [101] | 102 => [132] | _ => []
noncomputable def G : Cfg := ⟨fun t => (tabL[t]?).join, fun _ => none, params⟩
theorem mixed : Try.prog.follows .mixedOrders = true := by kernel_rfl
theorem tabL_len : tabL.length = 138 := by kernel_rfl
theorem tabG : G.tab = fun t => (tabL[t]?).join := rfl
theorem cfg : CfgOk Try.prog G := by
  refine cfgOk_of (n := 138) (fun t ht => ?_) (by kernel_rfl)
  have h : tabL[t]? = none := List.getElem?_eq_none (by rw [tabL_len]; exact ht)
  rw [tabG]
  simp only [h]
  rfl
end Go.Proofs.Ytgmpnhfnkhohiaa.Ev

/- midrange/tagged.within, out of its evaluation. Printed by the session's own program. -/
namespace Go.Proofs.Ytgmpnhfnkhohiaa.Ev
open Go Go.Proofs Go.Proofs.Ev
set_option linter.unusedVariables false
set_option maxRecDepth 100000
/-! midrange/tagged.within: function 48 -/
noncomputable def tagged_within.e {R : Type} (n : Nat)  (k : Bool → Option R) (a0 : Int) (a1 : Int) (a2 : Int) : Option R :=
  bif decide (a1 ≤ a0) then (k (decide (a0 ≤ a2))) else (k false)
noncomputable def tagged_within.C {R : Type} (n : Nat) (f : FuncId) (xs : List AV) : (AV → Option R) → Option R :=
  fun _ => none
theorem tagged_within.tells {R : Type} (n : Nat) : Tells (R := R) Try.prog (tagged_within.C n) := fun _ xs => Tells1.none
noncomputable def tagged_within.cut (r : Nat) : Option Keep := match r with  | _ => none
theorem tagged_within.e_eq {R : Type} (n : Nat) (rec : List Item → St → Option R) (K : AV → Option R) (a0 : Int) (a1 : Int) (a2 : Int) :
    goK G (tagged_within.C n) tagged_within.cut (fun S => finK G Try.f48.resultTypes.toList Try.f48.results.toList S K) rec 1000 [.code (Try.f48.body.getD .skip)] (Ev.start Try.f48 [vi a0, vi a1, vi a2]) = tagged_within.e n  (fun p => K (vb p)) a0 a1 a2 := by kernel_rfl
noncomputable def tagged_within.F (n : Nat) (a0 : Int) (a1 : Int) (a2 : Int) : Option (Bool) := tagged_within.e n  Option.some a0 a1 a2
noncomputable def tagged_within.dec (x : AV) : Option (Bool) := match x with | .v (.bool p0) => Option.some p0 | _ => none
theorem tagged_within.dec_inv {p : Bool} (y : AV) (h : tagged_within.dec y = some p) : y = vb p := by
  unfold tagged_within.dec at h
  split at h
  · cases h; rfl
  · cases h
theorem tagged_within.hands (n : Nat) (a0 : Int) (a1 : Int) (a2 : Int) {p : Bool} (h : tagged_within.F n a0 a1 a2 = some p) : HandsIn Try.prog 48 [vi a0, vi a1, vi a2] (vb p) := by
  refine hands_of cfg mixed (fun _ => rfl) (tagged_within.tells n) (fn := Try.f48) Try.func48 (by kernel_rfl) (by kernel_rfl) (cut := tagged_within.cut) (K := tagged_within.dec) (r := p) (n := n) tagged_within.dec_inv ?_
  rw [funK_getD (by kernel_rfl)]
  have h1 := tagged_within.e_eq n (runK G (tagged_within.C n) tagged_within.cut (fun S => finK G Try.f48.resultTypes.toList Try.f48.results.toList S tagged_within.dec) n) tagged_within.dec a0 a1 a2
  exact h1.trans h
noncomputable def tagged_within.via {R : Type} (n : Nat) (xs : List AV) : (AV → Option R) → Option R := match xs with | [.v (.int .i64 a0), .v (.int .i64 a1), .v (.int .i64 a2)] => fun K => (tagged_within.F n a0 a1 a2).bind fun p => K (vb p) | _ => fun _ => none
theorem tagged_within.tells1 {R : Type} (n : Nat) (xs : List AV) : Tells1 (R := R) Try.prog 48 xs (tagged_within.via n xs) := by
  unfold tagged_within.via
  split
  · exact Tells1.of (fun p hp => (tagged_within.hands n _ _ _ hp).hands)
  · exact Tells1.none
end Go.Proofs.Ytgmpnhfnkhohiaa.Ev

/- midrange/tagged.CheckPointer, out of its evaluation. Printed by the session's own program. -/
namespace Go.Proofs.Ytgmpnhfnkhohiaa.Ev
open Go Go.Proofs Go.Proofs.Ev
set_option linter.unusedVariables false
set_option maxRecDepth 100000
/-! midrange/tagged.CheckPointer: function 13 -/
noncomputable def tagged_CheckPointer.r6 {R : Type} (n : Nat) (c6 : Unit → Option R) (k : Int → Option R) (_ : Unit) : Option R :=
  k 3
noncomputable def tagged_CheckPointer.e {R : Type} (n : Nat) (c6 : Unit → Option R) (k : Int → Option R) (a0 : Int) (a1 : Int) (a2 : Int) (a3 : Int) : Option R :=
  (tagged_within.F n a0 0 2).bind fun p1 =>
  bif !p1 then (k 4) else ((tagged_within.F n a1 0 1099511627775).bind fun p2 =>
  bif !p2 then (c6 ()) else ((tagged_within.F n a2 0 16777215).bind fun p3 =>
  bif !p3 then (c6 ()) else ((tagged_within.F n a3 0 1023).bind fun p4 =>
  bif !p4 then (c6 ()) else (bif a3 != 0 then (bif a0 != 1 then (k 5) else (k 0)) else (k 0)))))
noncomputable def tagged_CheckPointer.C {R : Type} (n : Nat) (f : FuncId) (xs : List AV) : (AV → Option R) → Option R :=
  bif Nat.beq f 48 then tagged_within.via n xs else fun _ => none
theorem tagged_CheckPointer.tells {R : Type} (n : Nat) : Tells (R := R) Try.prog (tagged_CheckPointer.C n) := fun _ xs => tells_at (tagged_within.tells1 n xs) (Tells1.none)
noncomputable def tagged_CheckPointer.cut (r : Nat) : Option Keep := match r with | 6 => Option.some ⟨[], []⟩ | _ => none
noncomputable def tagged_CheckPointer.t6 : List Item := (todoOf 6 1000 [.code (Try.f13.body.getD .skip)]).getD []
noncomputable def tagged_CheckPointer.s6 (_ : Unit) : St := ⟨[.undef, .undef, .undef, .undef, .undef, .undef, .undef, .undef, .undef, .undef, .undef, .undef, .undef, .undef, .undef, .undef, .undef, .undef, .undef, .undef, .undef, .undef, .undef, .undef, .undef, .undef, .undef, .undef, .undef, .undef, .undef, .undef], Mem.ofList [], 0⟩
theorem tagged_CheckPointer.e_eq {R : Type} (n : Nat) (rec : List Item → St → Option R) (K : AV → Option R) (a0 : Int) (a1 : Int) (a2 : Int) (a3 : Int) :
    goK G (tagged_CheckPointer.C n) tagged_CheckPointer.cut (fun S => finK G Try.f13.resultTypes.toList Try.f13.results.toList S K) rec 1000 [.code (Try.f13.body.getD .skip)] (Ev.start Try.f13 [AV.agg [vi a0, vi a1, vi a2, vi a3]]) = tagged_CheckPointer.e n (fun _ => rec tagged_CheckPointer.t6 (tagged_CheckPointer.s6 ())) (fun p => K (vi p)) a0 a1 a2 a3 := by kernel_rfl
theorem tagged_CheckPointer.r6_eq {R : Type} (n : Nat) (rec : List Item → St → Option R) (K : AV → Option R) (_ : Unit) :
    atK G (tagged_CheckPointer.C n) tagged_CheckPointer.cut (fun S => finK G Try.f13.resultTypes.toList Try.f13.results.toList S K) rec tagged_CheckPointer.t6 (tagged_CheckPointer.s6 ()) = tagged_CheckPointer.r6 n (fun _ => rec tagged_CheckPointer.t6 (tagged_CheckPointer.s6 ())) (fun p => K (vi p)) () := by kernel_rfl
noncomputable def tagged_CheckPointer.l (n : Nat) : Nat → (Unit → Option (Int))
  | 0 => (fun _ => none)
  | m + 1 => tagged_CheckPointer.r6 n (tagged_CheckPointer.l n m) Option.some
noncomputable def tagged_CheckPointer.F (n : Nat) (a0 : Int) (a1 : Int) (a2 : Int) (a3 : Int) : Option (Int) := tagged_CheckPointer.e n (tagged_CheckPointer.l n n) Option.some a0 a1 a2 a3
noncomputable def tagged_CheckPointer.dec (x : AV) : Option (Int) := match x with | .v (.int .i64 p0) => Option.some p0 | _ => none
theorem tagged_CheckPointer.dec_inv {p : Int} (y : AV) (h : tagged_CheckPointer.dec y = some p) : y = vi p := by
  unfold tagged_CheckPointer.dec at h
  split at h
  · cases h; rfl
  · cases h
theorem tagged_CheckPointer.l_eq (n m : Nat) : (∀ z : Unit, runK G (tagged_CheckPointer.C n) tagged_CheckPointer.cut (fun S => finK G Try.f13.resultTypes.toList Try.f13.results.toList S tagged_CheckPointer.dec) m tagged_CheckPointer.t6 (tagged_CheckPointer.s6 z) = (tagged_CheckPointer.l n m) z) := by
  induction m with
  | zero => exact fun _ => rfl
  | succ m ih =>
    have h6 := ih
    have e6 : (fun (_ : Unit) => runK G (tagged_CheckPointer.C n) tagged_CheckPointer.cut (fun S => finK G Try.f13.resultTypes.toList Try.f13.results.toList S tagged_CheckPointer.dec) m tagged_CheckPointer.t6 (tagged_CheckPointer.s6 ())) = (tagged_CheckPointer.l n m) := by funext z; exact h6 z
    have q6 : ∀ z : Unit, runK G (tagged_CheckPointer.C n) tagged_CheckPointer.cut (fun S => finK G Try.f13.resultTypes.toList Try.f13.results.toList S tagged_CheckPointer.dec) (m + 1) tagged_CheckPointer.t6 (tagged_CheckPointer.s6 z) = (tagged_CheckPointer.l n (m + 1)) z := by
      intro z
      rw [runK_succ]
      refine (tagged_CheckPointer.r6_eq n _ tagged_CheckPointer.dec ()).trans ?_
      rw [e6]
      rfl
    exact q6
theorem tagged_CheckPointer.hands (n : Nat) (a0 : Int) (a1 : Int) (a2 : Int) (a3 : Int) {p : Int} (h : tagged_CheckPointer.F n a0 a1 a2 a3 = some p) : HandsIn Try.prog 13 [AV.agg [vi a0, vi a1, vi a2, vi a3]] (vi p) := by
  refine hands_of cfg mixed (fun _ => rfl) (tagged_CheckPointer.tells n) (fn := Try.f13) Try.func13 (by kernel_rfl) (by kernel_rfl) (cut := tagged_CheckPointer.cut) (K := tagged_CheckPointer.dec) (r := p) (n := n) tagged_CheckPointer.dec_inv ?_
  rw [funK_getD (by kernel_rfl)]
  have h1 := tagged_CheckPointer.e_eq n (runK G (tagged_CheckPointer.C n) tagged_CheckPointer.cut (fun S => finK G Try.f13.resultTypes.toList Try.f13.results.toList S tagged_CheckPointer.dec) n) tagged_CheckPointer.dec a0 a1 a2 a3
  have hl := tagged_CheckPointer.l_eq n n
  simp only [hl] at h1
  exact h1.trans h
noncomputable def tagged_CheckPointer.via {R : Type} (n : Nat) (xs : List AV) : (AV → Option R) → Option R := match xs with | [.agg [.v (.int .i64 a0), .v (.int .i64 a1), .v (.int .i64 a2), .v (.int .i64 a3)]] => fun K => (tagged_CheckPointer.F n a0 a1 a2 a3).bind fun p => K (vi p) | _ => fun _ => none
theorem tagged_CheckPointer.tells1 {R : Type} (n : Nat) (xs : List AV) : Tells1 (R := R) Try.prog 13 xs (tagged_CheckPointer.via n xs) := by
  unfold tagged_CheckPointer.via
  split
  · exact Tells1.of (fun p hp => (tagged_CheckPointer.hands n _ _ _ _ hp).hands)
  · exact Tells1.none
end Go.Proofs.Ytgmpnhfnkhohiaa.Ev

/-
  DERIVED: THE SHELF's CONTRACTS AT THIS DUMP, IN PLAIN WORDS (tools/lay-plain.mjs out of 'YtgmpnhfnkhohiaaL.lean', which tools/lay-shelf.mjs wrote): THE SAME DECLARATIONS UNDER THE SAME NAMES: 'import', 'namespace', 'open', 'def', 'theorem' AND NOTHING ELSE: no command of the shelf's: FOR A HAND-IN. Each laying: the table of numbers ('.._ren') and one theorem, a field a fact of the dump's own or the kernel's comparison; each contract: ONE APPLICATION.
-/
namespace Go.Proofs
open Go.Shelf
def Try.lay64_ren : Go.Shelf.Ren := ⟨fun | 41 => 64 | n => n, fun | 22 => 38 | 23 => 4 | 4 => 4 | n => n, fun | n => n⟩
theorem Try.lay64 : Go.Proofs.SlLaysE0.n41 Try.prog Try.lay64_ren := {
  mixed := by kernel_rfl
  f41 := ⟨Try.f64.name, by decide, Try.func64.trans (congrArg some (by kernel_rfl))⟩
  t4 := Try.underlying4
  a4 := Try.isAgg4
  z4 := Try.sizeOf4
  v4 := Try.zeroValue4
  t22 := Try.underlying38
  a22 := Try.isAgg38
  z22 := Try.sizeOf38
  v22 := Try.zeroValue38 }
def Try.lay72_ren : Go.Shelf.Ren := ⟨fun | 4 => 72 | n => n, fun | 22 => 94 | 25 => 5 | 3 => 3 | 4 => 4 | 9 => 9 | 20 => 20 | 0 => 0 | n => n, fun | n => n⟩
theorem Try.lay72 : Go.Proofs.Lays8.n4 Try.prog Try.lay72_ren := {
  mixed := by kernel_rfl
  f4 := ⟨Try.f72.name, by decide, Try.func72.trans (congrArg some (by kernel_rfl))⟩
  t0 := Try.underlying0
  a0 := Try.isAgg0
  z0 := Try.sizeOf0
  v0 := Try.zeroValue0
  t3 := Try.underlying3
  a3 := Try.isAgg3
  z3 := Try.sizeOf3
  v3 := Try.zeroValue3
  t4 := Try.underlying4
  a4 := Try.isAgg4
  z4 := Try.sizeOf4
  v4 := Try.zeroValue4
  t9 := Try.underlying9
  a9 := Try.isAgg9
  z9 := Try.sizeOf9
  v9 := Try.zeroValue9
  t20 := Try.underlying20
  a20 := Try.isAgg20
  z20 := Try.sizeOf20
  v20 := Try.zeroValue20
  t22 := Try.underlying94
  a22 := Try.isAgg94
  z22 := Try.sizeOf94
  v22 := Try.zeroValue94 }
end Go.Proofs

/- slices.Grow[[]byte,byte], out of the library's contract. Printed by the session's own program. -/
namespace Go.Proofs.Ytgmpnhfnkhohiaa.Ev
open Go Go.Proofs Go.Proofs.Ev
set_option linter.unusedVariables false
set_option maxRecDepth 100000
noncomputable def slices_Grow_byte_byte.F (n : Nat) (k : Int) : Option (List AV) := bif decide (0 ≤ k) && decide (k ≤ most) then Option.some [] else none
theorem slices_Grow_byte_byte.hands (n : Nat) (k : Int) {p : List AV} (h : slices_Grow_byte_byte.F n k = some p) : HandsIn Try.prog 72 [.v (.slice none 0 0), .v (.int .i64 k)] (.fr true 1 p) := by
  unfold slices_Grow_byte_byte.F at h
  cases hc : (decide (0 ≤ k) && decide (k ≤ (most : Int))) with
  | false => rw [hc] at h; cases h
  | true =>
    rw [hc] at h
    cases h
    rw [Bool.and_eq_true] at hc
    have h1 := of_decide_eq_true hc.1
    have h2 := of_decide_eq_true hc.2
    obtain ⟨j, rfl⟩ := Int.eq_ofNat_of_zero_le h1
    exact grow_hands (G := G) Try.lay72 cfg (ei := ⟨.int .u8, 1, 1, false, [(.int .u8)], [.int .u8 0]⟩) rfl (by decide) (by decide) (fn := Try.f72) Try.func72 (by kernel_rfl) (by kernel_rfl) j (by omega)
noncomputable def slices_Grow_byte_byte.via {R : Type} (n : Nat) (ys : List AV) : (AV → Option R) → Option R := match ys with | [.v (.slice none 0 0), .v (.int .i64 k)] => fun K => (slices_Grow_byte_byte.F n k).bind fun p => K (.fr true 1 p) | _ => fun _ => none
theorem slices_Grow_byte_byte.tells1 {R : Type} (n : Nat) (ys : List AV) : Tells1 (R := R) Try.prog 72 ys (slices_Grow_byte_byte.via n ys) := by
  unfold slices_Grow_byte_byte.via
  split
  · exact Tells1.of (fun p hp => (slices_Grow_byte_byte.hands n _ hp).hands)
  · exact Tells1.none
end Go.Proofs.Ytgmpnhfnkhohiaa.Ev

/- slices.Concat[[]byte,byte], out of its evaluation. Printed by the session's own program. -/
namespace Go.Proofs.Ytgmpnhfnkhohiaa.Ev
open Go Go.Proofs Go.Proofs.Ev
set_option linter.unusedVariables false
set_option maxRecDepth 100000
/-! slices.Concat[[]byte,byte]: function 62 -/
noncomputable def slices_Concat_byte_byte.r3 {R : Type} (n : Nat) (c3 : List AV → Int → List AV → Int → Int → Option R) (c11 : List AV → Int → Int → List AV → Option R) (k : List AV → Option R) (z1 : List AV) (z2 : Int) (z3 : List AV) (z4 : Int) (z5 : Int) : Option R :=
  bif decide (z5 < z4) then (bif decide ((0 : Int) ≤ z5) && decide (z5 < ((z3.length : Nat) : Int)) then (withCons ((z3.getD ((z5).toNat) .undef).cells) fun c1 r2 =>
  withSl true 1 c1 fun xs3 =>
  let y4 : Int := IntKind.i64.wrap (z2 + ((xs3.length : Nat) : Int))
  bif decide (y4 < 0) then (none) else (c3 z1 y4 z3 z4 (IntKind.i64.wrap (z5 + 1)))) else none) else ((slices_Grow_byte_byte.F n z2).bind fun p5 =>
  c11 z1 ((z1.length : Nat) : Int) 0 p5)
noncomputable def slices_Concat_byte_byte.r11 {R : Type} (n : Nat) (c3 : List AV → Int → List AV → Int → Int → Option R) (c11 : List AV → Int → Int → List AV → Option R) (k : List AV → Option R) (z1 : List AV) (z2 : Int) (z3 : Int) (z4 : List AV) : Option R :=
  bif decide (z3 < z2) then (bif decide ((0 : Int) ≤ z3) && decide (z3 < ((z1.length : Nat) : Int)) then (withCons ((z1.getD ((z3).toNat) .undef).cells) fun c6 r7 =>
  withSl true 1 c6 fun xs8 =>
  bif decide (z4.length + xs8.length ≤ most) then (c11 z1 z2 (IntKind.i64.wrap (z3 + 1)) (z4 ++ xs8)) else none) else none) else (k z4)
noncomputable def slices_Concat_byte_byte.e {R : Type} (n : Nat) (c3 : List AV → Int → List AV → Int → Int → Option R) (c11 : List AV → Int → Int → List AV → Option R) (k : List AV → Option R) (a0 : List AV) : Option R :=
  c3 a0 0 a0 ((a0.length : Nat) : Int) 0
noncomputable def slices_Concat_byte_byte.C {R : Type} (n : Nat) (f : FuncId) (xs : List AV) : (AV → Option R) → Option R :=
  bif Nat.beq f 72 then slices_Grow_byte_byte.via n xs else fun _ => none
theorem slices_Concat_byte_byte.tells {R : Type} (n : Nat) : Tells (R := R) Try.prog (slices_Concat_byte_byte.C n) := fun _ xs => tells_at (slices_Grow_byte_byte.tells1 n xs) (Tells1.none)
noncomputable def slices_Concat_byte_byte.cut (r : Nat) : Option Keep := match r with | 3 => Option.some ⟨[0, 3, 9, 10, 11], []⟩ | 11 => Option.some ⟨[6, 25, 26, 27], []⟩ | _ => none
noncomputable def slices_Concat_byte_byte.t3 : List Item := (todoOf 3 1000 [.code (Try.f62.body.getD .skip)]).getD []
noncomputable def slices_Concat_byte_byte.s3 (z1 : List AV) (z2 : Int) (z3 : List AV) (z4 : Int) (z5 : Int) : St := ⟨[.sl false 1 z1, .undef, .undef, vi z2, .undef, .undef, .undef, .undef, .undef, .sl false 1 z3, vi z4, vi z5, .undef, .undef, .undef, .undef, .undef, .undef, .undef, .undef, .undef, .undef, .undef, .undef, .undef, .undef, .undef, .undef, .undef, .undef, .undef, .undef, .undef, .undef, .undef, .undef], Mem.ofList [], 0⟩
noncomputable def slices_Concat_byte_byte.t11 : List Item := (todoOf 11 1000 [.code (Try.f62.body.getD .skip)]).getD []
noncomputable def slices_Concat_byte_byte.s11 (z1 : List AV) (z2 : Int) (z3 : Int) (z4 : List AV) : St := ⟨[.undef, .undef, .undef, .undef, .undef, .undef, .own 0 0 none, .undef, .undef, .undef, .undef, .undef, .undef, .undef, .undef, .undef, .undef, .undef, .undef, .undef, .undef, .undef, .undef, .undef, .undef, .sl false 1 z1, vi z2, vi z3, .undef, .undef, .undef, .undef, .undef, .undef, .undef, .undef], Mem.ofList [.row true 1 z4], 1⟩
theorem slices_Concat_byte_byte.e_eq {R : Type} (n : Nat) (rec : List Item → St → Option R) (K : AV → Option R) (a0 : List AV) :
    goK G (slices_Concat_byte_byte.C n) slices_Concat_byte_byte.cut (fun S => finK G Try.f62.resultTypes.toList Try.f62.results.toList S K) rec 1000 [.code (Try.f62.body.getD .skip)] (Ev.start Try.f62 [.sl false 1 a0]) = slices_Concat_byte_byte.e n (fun z1 z2 z3 z4 z5 => rec slices_Concat_byte_byte.t3 (slices_Concat_byte_byte.s3 z1 z2 z3 z4 z5)) (fun z1 z2 z3 z4 => rec slices_Concat_byte_byte.t11 (slices_Concat_byte_byte.s11 z1 z2 z3 z4)) (fun p => K (.fr true 1 p)) a0 := by kernel_rfl
theorem slices_Concat_byte_byte.r3_eq {R : Type} (n : Nat) (rec : List Item → St → Option R) (K : AV → Option R) (z1 : List AV) (z2 : Int) (z3 : List AV) (z4 : Int) (z5 : Int) :
    atK G (slices_Concat_byte_byte.C n) slices_Concat_byte_byte.cut (fun S => finK G Try.f62.resultTypes.toList Try.f62.results.toList S K) rec slices_Concat_byte_byte.t3 (slices_Concat_byte_byte.s3 z1 z2 z3 z4 z5) = slices_Concat_byte_byte.r3 n (fun z1 z2 z3 z4 z5 => rec slices_Concat_byte_byte.t3 (slices_Concat_byte_byte.s3 z1 z2 z3 z4 z5)) (fun z1 z2 z3 z4 => rec slices_Concat_byte_byte.t11 (slices_Concat_byte_byte.s11 z1 z2 z3 z4)) (fun p => K (.fr true 1 p)) z1 z2 z3 z4 z5 := by kernel_rfl
theorem slices_Concat_byte_byte.r11_eq {R : Type} (n : Nat) (rec : List Item → St → Option R) (K : AV → Option R) (z1 : List AV) (z2 : Int) (z3 : Int) (z4 : List AV) :
    atK G (slices_Concat_byte_byte.C n) slices_Concat_byte_byte.cut (fun S => finK G Try.f62.resultTypes.toList Try.f62.results.toList S K) rec slices_Concat_byte_byte.t11 (slices_Concat_byte_byte.s11 z1 z2 z3 z4) = slices_Concat_byte_byte.r11 n (fun z1 z2 z3 z4 z5 => rec slices_Concat_byte_byte.t3 (slices_Concat_byte_byte.s3 z1 z2 z3 z4 z5)) (fun z1 z2 z3 z4 => rec slices_Concat_byte_byte.t11 (slices_Concat_byte_byte.s11 z1 z2 z3 z4)) (fun p => K (.fr true 1 p)) z1 z2 z3 z4 := by kernel_rfl
noncomputable def slices_Concat_byte_byte.l (n : Nat) : Nat → (List AV → Int → List AV → Int → Int → Option (List AV)) × (List AV → Int → Int → List AV → Option (List AV))
  | 0 => ((fun _ _ _ _ _ => none), (fun _ _ _ _ => none))
  | m + 1 => (slices_Concat_byte_byte.r3 n ((slices_Concat_byte_byte.l n m).1) ((slices_Concat_byte_byte.l n m).2) Option.some, slices_Concat_byte_byte.r11 n ((slices_Concat_byte_byte.l n m).1) ((slices_Concat_byte_byte.l n m).2) Option.some)
noncomputable def slices_Concat_byte_byte.F (n : Nat) (a0 : List AV) : Option (List AV) := slices_Concat_byte_byte.e n ((slices_Concat_byte_byte.l n n).1) ((slices_Concat_byte_byte.l n n).2) Option.some a0
noncomputable def slices_Concat_byte_byte.dec (x : AV) : Option (List AV) := match x with | .fr true 1 p0 => Option.some p0 | _ => none
theorem slices_Concat_byte_byte.dec_inv {p : List AV} (y : AV) (h : slices_Concat_byte_byte.dec y = some p) : y = .fr true 1 p := by
  unfold slices_Concat_byte_byte.dec at h
  split at h
  · cases h; rfl
  · cases h
theorem slices_Concat_byte_byte.l_eq (n m : Nat) : (∀ (z1 : List AV) (z2 : Int) (z3 : List AV) (z4 : Int) (z5 : Int), runK G (slices_Concat_byte_byte.C n) slices_Concat_byte_byte.cut (fun S => finK G Try.f62.resultTypes.toList Try.f62.results.toList S slices_Concat_byte_byte.dec) m slices_Concat_byte_byte.t3 (slices_Concat_byte_byte.s3 z1 z2 z3 z4 z5) = ((slices_Concat_byte_byte.l n m).1) z1 z2 z3 z4 z5) ∧ (∀ (z1 : List AV) (z2 : Int) (z3 : Int) (z4 : List AV), runK G (slices_Concat_byte_byte.C n) slices_Concat_byte_byte.cut (fun S => finK G Try.f62.resultTypes.toList Try.f62.results.toList S slices_Concat_byte_byte.dec) m slices_Concat_byte_byte.t11 (slices_Concat_byte_byte.s11 z1 z2 z3 z4) = ((slices_Concat_byte_byte.l n m).2) z1 z2 z3 z4) := by
  induction m with
  | zero => exact ⟨fun z1 z2 z3 z4 z5 => rfl, fun z1 z2 z3 z4 => rfl⟩
  | succ m ih =>
    obtain ⟨h3, h11⟩ := ih
    have e3 : (fun (z1 : List AV) (z2 : Int) (z3 : List AV) (z4 : Int) (z5 : Int) => runK G (slices_Concat_byte_byte.C n) slices_Concat_byte_byte.cut (fun S => finK G Try.f62.resultTypes.toList Try.f62.results.toList S slices_Concat_byte_byte.dec) m slices_Concat_byte_byte.t3 (slices_Concat_byte_byte.s3 z1 z2 z3 z4 z5)) = (slices_Concat_byte_byte.l n m).1 := by funext z1 z2 z3 z4 z5; exact h3 z1 z2 z3 z4 z5
    have e11 : (fun (z1 : List AV) (z2 : Int) (z3 : Int) (z4 : List AV) => runK G (slices_Concat_byte_byte.C n) slices_Concat_byte_byte.cut (fun S => finK G Try.f62.resultTypes.toList Try.f62.results.toList S slices_Concat_byte_byte.dec) m slices_Concat_byte_byte.t11 (slices_Concat_byte_byte.s11 z1 z2 z3 z4)) = (slices_Concat_byte_byte.l n m).2 := by funext z1 z2 z3 z4; exact h11 z1 z2 z3 z4
    have q3 : ∀ (z1 : List AV) (z2 : Int) (z3 : List AV) (z4 : Int) (z5 : Int), runK G (slices_Concat_byte_byte.C n) slices_Concat_byte_byte.cut (fun S => finK G Try.f62.resultTypes.toList Try.f62.results.toList S slices_Concat_byte_byte.dec) (m + 1) slices_Concat_byte_byte.t3 (slices_Concat_byte_byte.s3 z1 z2 z3 z4 z5) = ((slices_Concat_byte_byte.l n (m + 1)).1) z1 z2 z3 z4 z5 := by
      intro z1 z2 z3 z4 z5
      rw [runK_succ]
      refine (slices_Concat_byte_byte.r3_eq n _ slices_Concat_byte_byte.dec z1 z2 z3 z4 z5).trans ?_
      rw [e3, e11]
      rfl
    have q11 : ∀ (z1 : List AV) (z2 : Int) (z3 : Int) (z4 : List AV), runK G (slices_Concat_byte_byte.C n) slices_Concat_byte_byte.cut (fun S => finK G Try.f62.resultTypes.toList Try.f62.results.toList S slices_Concat_byte_byte.dec) (m + 1) slices_Concat_byte_byte.t11 (slices_Concat_byte_byte.s11 z1 z2 z3 z4) = ((slices_Concat_byte_byte.l n (m + 1)).2) z1 z2 z3 z4 := by
      intro z1 z2 z3 z4
      rw [runK_succ]
      refine (slices_Concat_byte_byte.r11_eq n _ slices_Concat_byte_byte.dec z1 z2 z3 z4).trans ?_
      rw [e3, e11]
      rfl
    exact ⟨q3, q11⟩
theorem slices_Concat_byte_byte.hands (n : Nat) (a0 : List AV) {p : List AV} (h : slices_Concat_byte_byte.F n a0 = some p) : HandsIn Try.prog 62 [.sl false 1 a0] (.fr true 1 p) := by
  refine hands_of cfg mixed (fun _ => rfl) (slices_Concat_byte_byte.tells n) (fn := Try.f62) Try.func62 (by kernel_rfl) (by kernel_rfl) (cut := slices_Concat_byte_byte.cut) (K := slices_Concat_byte_byte.dec) (r := p) (n := n) slices_Concat_byte_byte.dec_inv ?_
  rw [funK_getD (by kernel_rfl)]
  have h1 := slices_Concat_byte_byte.e_eq n (runK G (slices_Concat_byte_byte.C n) slices_Concat_byte_byte.cut (fun S => finK G Try.f62.resultTypes.toList Try.f62.results.toList S slices_Concat_byte_byte.dec) n) slices_Concat_byte_byte.dec a0
  have hl := slices_Concat_byte_byte.l_eq n n
  simp only [hl.1, hl.2] at h1
  exact h1.trans h
noncomputable def slices_Concat_byte_byte.via {R : Type} (n : Nat) (xs : List AV) : (AV → Option R) → Option R := match xs with | [.sl false 1 a0] => fun K => (slices_Concat_byte_byte.F n a0).bind fun p => K (.fr true 1 p) | _ => fun _ => none
theorem slices_Concat_byte_byte.tells1 {R : Type} (n : Nat) (xs : List AV) : Tells1 (R := R) Try.prog 62 xs (slices_Concat_byte_byte.via n xs) := by
  unfold slices_Concat_byte_byte.via
  split
  · exact Tells1.of (fun p hp => (slices_Concat_byte_byte.hands n _ hp).hands)
  · exact Tells1.none
end Go.Proofs.Ytgmpnhfnkhohiaa.Ev

/- midrange/tagged.big, out of its evaluation. Printed by the session's own program. -/
namespace Go.Proofs.Ytgmpnhfnkhohiaa.Ev
open Go Go.Proofs Go.Proofs.Ev
set_option linter.unusedVariables false
set_option maxRecDepth 100000
/-! midrange/tagged.big: function 63 -/
noncomputable def tagged_big.r3 {R : Type} (n : Nat) (c3 : Int → Int → Int → Int → List AV → Option R) (k : List AV → Option R) (z1 : Int) (z2 : Int) (z3 : Int) (z4 : Int) (z5 : List AV) : Option R :=
  bif decide (z4 < z3) then (let y2 : Int := IntKind.i64.wrap ((IntKind.i64.wrap (z2 - 1)) - z4)
  let y3 : Int := IntKind.i64.wrap ((8 : Int) * z4)
  bif decide ((0 : Int) ≤ y3) then (let y4 : Int := Int.fdiv z1 (2 ^ min (y3 : Int).toNat 64)
  bif decide ((0 : Int) ≤ y2) && decide (y2 < ((z5.length : Nat) : Int)) then (let y5 : List AV := z5.set ((y2).toNat) (vu (IntKind.u8.wrap y4))
  c3 z1 z2 z3 (IntKind.i64.wrap (z4 + 1)) y5) else none) else none) else (k z5)
noncomputable def tagged_big.e {R : Type} (n : Nat) (c3 : Int → Int → Int → Int → List AV → Option R) (k : List AV → Option R) (a0 : Int) (a1 : Int) : Option R :=
  bif (decide ((0 : Int) ≤ a1) && decide ((a1 : Int) ≤ most)) && decide ((a1 : Int) = a1) && true && true then (let y1 : List AV := List.replicate (a1).toNat (vu 0)
  c3 a0 a1 ((y1.length : Nat) : Int) 0 y1) else none
noncomputable def tagged_big.C {R : Type} (n : Nat) (f : FuncId) (xs : List AV) : (AV → Option R) → Option R :=
  fun _ => none
theorem tagged_big.tells {R : Type} (n : Nat) : Tells (R := R) Try.prog (tagged_big.C n) := fun _ xs => Tells1.none
noncomputable def tagged_big.cut (r : Nat) : Option Keep := match r with | 3 => Option.some ⟨[0, 1, 5, 10, 11], []⟩ | _ => none
noncomputable def tagged_big.t3 : List Item := (todoOf 3 1000 [.code (Try.f63.body.getD .skip)]).getD []
noncomputable def tagged_big.s3 (z1 : Int) (z2 : Int) (z3 : Int) (z4 : Int) (z5 : List AV) : St := ⟨[vi z1, vi z2, .undef, .undef, .undef, .own 0 0 none, .undef, .undef, .undef, .undef, vi z3, vi z4, .undef, .undef, .undef, .undef, .undef, .undef, .undef, .undef, .undef, .undef, .undef, .undef, .undef, .undef, .undef], Mem.ofList [.row true 1 z5], 1⟩
theorem tagged_big.e_eq {R : Type} (n : Nat) (rec : List Item → St → Option R) (K : AV → Option R) (a0 : Int) (a1 : Int) :
    goK G (tagged_big.C n) tagged_big.cut (fun S => finK G Try.f63.resultTypes.toList Try.f63.results.toList S K) rec 1000 [.code (Try.f63.body.getD .skip)] (Ev.start Try.f63 [vi a0, vi a1]) = tagged_big.e n (fun z1 z2 z3 z4 z5 => rec tagged_big.t3 (tagged_big.s3 z1 z2 z3 z4 z5)) (fun p => K (.fr true 1 p)) a0 a1 := by kernel_rfl
theorem tagged_big.r3_eq {R : Type} (n : Nat) (rec : List Item → St → Option R) (K : AV → Option R) (z1 : Int) (z2 : Int) (z3 : Int) (z4 : Int) (z5 : List AV) :
    atK G (tagged_big.C n) tagged_big.cut (fun S => finK G Try.f63.resultTypes.toList Try.f63.results.toList S K) rec tagged_big.t3 (tagged_big.s3 z1 z2 z3 z4 z5) = tagged_big.r3 n (fun z1 z2 z3 z4 z5 => rec tagged_big.t3 (tagged_big.s3 z1 z2 z3 z4 z5)) (fun p => K (.fr true 1 p)) z1 z2 z3 z4 z5 := by kernel_rfl
noncomputable def tagged_big.l (n : Nat) : Nat → (Int → Int → Int → Int → List AV → Option (List AV))
  | 0 => (fun _ _ _ _ _ => none)
  | m + 1 => tagged_big.r3 n (tagged_big.l n m) Option.some
noncomputable def tagged_big.F (n : Nat) (a0 : Int) (a1 : Int) : Option (List AV) := tagged_big.e n (tagged_big.l n n) Option.some a0 a1
noncomputable def tagged_big.dec (x : AV) : Option (List AV) := match x with | .fr true 1 p0 => Option.some p0 | _ => none
theorem tagged_big.dec_inv {p : List AV} (y : AV) (h : tagged_big.dec y = some p) : y = .fr true 1 p := by
  unfold tagged_big.dec at h
  split at h
  · cases h; rfl
  · cases h
theorem tagged_big.l_eq (n m : Nat) : (∀ (z1 : Int) (z2 : Int) (z3 : Int) (z4 : Int) (z5 : List AV), runK G (tagged_big.C n) tagged_big.cut (fun S => finK G Try.f63.resultTypes.toList Try.f63.results.toList S tagged_big.dec) m tagged_big.t3 (tagged_big.s3 z1 z2 z3 z4 z5) = (tagged_big.l n m) z1 z2 z3 z4 z5) := by
  induction m with
  | zero => exact fun z1 z2 z3 z4 z5 => rfl
  | succ m ih =>
    have h3 := ih
    have e3 : (fun (z1 : Int) (z2 : Int) (z3 : Int) (z4 : Int) (z5 : List AV) => runK G (tagged_big.C n) tagged_big.cut (fun S => finK G Try.f63.resultTypes.toList Try.f63.results.toList S tagged_big.dec) m tagged_big.t3 (tagged_big.s3 z1 z2 z3 z4 z5)) = (tagged_big.l n m) := by funext z1 z2 z3 z4 z5; exact h3 z1 z2 z3 z4 z5
    have q3 : ∀ (z1 : Int) (z2 : Int) (z3 : Int) (z4 : Int) (z5 : List AV), runK G (tagged_big.C n) tagged_big.cut (fun S => finK G Try.f63.resultTypes.toList Try.f63.results.toList S tagged_big.dec) (m + 1) tagged_big.t3 (tagged_big.s3 z1 z2 z3 z4 z5) = (tagged_big.l n (m + 1)) z1 z2 z3 z4 z5 := by
      intro z1 z2 z3 z4 z5
      rw [runK_succ]
      refine (tagged_big.r3_eq n _ tagged_big.dec z1 z2 z3 z4 z5).trans ?_
      rw [e3]
      rfl
    exact q3
theorem tagged_big.hands (n : Nat) (a0 : Int) (a1 : Int) {p : List AV} (h : tagged_big.F n a0 a1 = some p) : HandsIn Try.prog 63 [vi a0, vi a1] (.fr true 1 p) := by
  refine hands_of cfg mixed (fun _ => rfl) (tagged_big.tells n) (fn := Try.f63) Try.func63 (by kernel_rfl) (by kernel_rfl) (cut := tagged_big.cut) (K := tagged_big.dec) (r := p) (n := n) tagged_big.dec_inv ?_
  rw [funK_getD (by kernel_rfl)]
  have h1 := tagged_big.e_eq n (runK G (tagged_big.C n) tagged_big.cut (fun S => finK G Try.f63.resultTypes.toList Try.f63.results.toList S tagged_big.dec) n) tagged_big.dec a0 a1
  have hl := tagged_big.l_eq n n
  simp only [hl] at h1
  exact h1.trans h
noncomputable def tagged_big.via {R : Type} (n : Nat) (xs : List AV) : (AV → Option R) → Option R := match xs with | [.v (.int .i64 a0), .v (.int .i64 a1)] => fun K => (tagged_big.F n a0 a1).bind fun p => K (.fr true 1 p) | _ => fun _ => none
theorem tagged_big.tells1 {R : Type} (n : Nat) (xs : List AV) : Tells1 (R := R) Try.prog 63 xs (tagged_big.via n xs) := by
  unfold tagged_big.via
  split
  · exact Tells1.of (fun p hp => (tagged_big.hands n _ _ hp).hands)
  · exact Tells1.none
end Go.Proofs.Ytgmpnhfnkhohiaa.Ev

/- midrange/tagged.encoded, out of its evaluation. Printed by the session's own program. -/
namespace Go.Proofs.Ytgmpnhfnkhohiaa.Ev
open Go Go.Proofs Go.Proofs.Ev
set_option linter.unusedVariables false
set_option maxRecDepth 100000
/-! midrange/tagged.encoded: function 47 -/
noncomputable def tagged_encoded.e {R : Type} (n : Nat)  (k : ByteArray → Option R) (a0 : Int) (a1 : Int) (a2 : Int) (a3 : Int) : Option R :=
  (tagged_big.F n a0 1).bind fun p1 =>
  (tagged_big.F n 0 1).bind fun p2 =>
  (tagged_big.F n a3 2).bind fun p3 =>
  (tagged_big.F n a1 6).bind fun p4 =>
  (tagged_big.F n a2 6).bind fun p5 =>
  (slices_Concat_byte_byte.F n [.sl true 1 p1, .sl true 1 p2, .sl true 1 p3, .sl true 1 p4, .sl true 1 p5]).bind fun p6 =>
  withSome (strOf p6) fun bs7 =>
  k (⟨bs7.toArray⟩)
noncomputable def tagged_encoded.C {R : Type} (n : Nat) (f : FuncId) (xs : List AV) : (AV → Option R) → Option R :=
  bif Nat.beq f 62 then slices_Concat_byte_byte.via n xs else bif Nat.beq f 63 then tagged_big.via n xs else fun _ => none
theorem tagged_encoded.tells {R : Type} (n : Nat) : Tells (R := R) Try.prog (tagged_encoded.C n) := fun _ xs => tells_at (slices_Concat_byte_byte.tells1 n xs) (tells_at (tagged_big.tells1 n xs) (Tells1.none))
noncomputable def tagged_encoded.cut (r : Nat) : Option Keep := match r with  | _ => none
theorem tagged_encoded.e_eq {R : Type} (n : Nat) (rec : List Item → St → Option R) (K : AV → Option R) (a0 : Int) (a1 : Int) (a2 : Int) (a3 : Int) :
    goK G (tagged_encoded.C n) tagged_encoded.cut (fun S => finK G Try.f47.resultTypes.toList Try.f47.results.toList S K) rec 1000 [.code (Try.f47.body.getD .skip)] (Ev.start Try.f47 [AV.agg [vi a0, vi a1, vi a2, vi a3]]) = tagged_encoded.e n  (fun p => K (vs p)) a0 a1 a2 a3 := by kernel_rfl
noncomputable def tagged_encoded.F (n : Nat) (a0 : Int) (a1 : Int) (a2 : Int) (a3 : Int) : Option (ByteArray) := tagged_encoded.e n  Option.some a0 a1 a2 a3
noncomputable def tagged_encoded.dec (x : AV) : Option (ByteArray) := match x with | .v (.string p0) => Option.some p0 | _ => none
theorem tagged_encoded.dec_inv {p : ByteArray} (y : AV) (h : tagged_encoded.dec y = some p) : y = vs p := by
  unfold tagged_encoded.dec at h
  split at h
  · cases h; rfl
  · cases h
theorem tagged_encoded.hands (n : Nat) (a0 : Int) (a1 : Int) (a2 : Int) (a3 : Int) {p : ByteArray} (h : tagged_encoded.F n a0 a1 a2 a3 = some p) : HandsIn Try.prog 47 [AV.agg [vi a0, vi a1, vi a2, vi a3]] (vs p) := by
  refine hands_of cfg mixed (fun _ => rfl) (tagged_encoded.tells n) (fn := Try.f47) Try.func47 (by kernel_rfl) (by kernel_rfl) (cut := tagged_encoded.cut) (K := tagged_encoded.dec) (r := p) (n := n) tagged_encoded.dec_inv ?_
  rw [funK_getD (by kernel_rfl)]
  have h1 := tagged_encoded.e_eq n (runK G (tagged_encoded.C n) tagged_encoded.cut (fun S => finK G Try.f47.resultTypes.toList Try.f47.results.toList S tagged_encoded.dec) n) tagged_encoded.dec a0 a1 a2 a3
  exact h1.trans h
noncomputable def tagged_encoded.via {R : Type} (n : Nat) (xs : List AV) : (AV → Option R) → Option R := match xs with | [.agg [.v (.int .i64 a0), .v (.int .i64 a1), .v (.int .i64 a2), .v (.int .i64 a3)]] => fun K => (tagged_encoded.F n a0 a1 a2 a3).bind fun p => K (vs p) | _ => fun _ => none
theorem tagged_encoded.tells1 {R : Type} (n : Nat) (xs : List AV) : Tells1 (R := R) Try.prog 47 xs (tagged_encoded.via n xs) := by
  unfold tagged_encoded.via
  split
  · exact Tells1.of (fun p hp => (tagged_encoded.hands n _ _ _ _ hp).hands)
  · exact Tells1.none
end Go.Proofs.Ytgmpnhfnkhohiaa.Ev

/- midrange/tagged.PointerBytes, out of its evaluation. Printed by the session's own program. -/
namespace Go.Proofs.Ytgmpnhfnkhohiaa.Ev
open Go Go.Proofs Go.Proofs.Ev
set_option linter.unusedVariables false
set_option maxRecDepth 100000
/-! midrange/tagged.PointerBytes: function 12 -/
noncomputable def tagged_PointerBytes.e {R : Type} (n : Nat)  (k : ByteArray × Int → Option R) (a0 : Int) (a1 : Int) (a2 : Int) (a3 : Int) : Option R :=
  (tagged_CheckPointer.F n a0 a1 a2 a3).bind fun p1 =>
  bif p1 != 0 then (k ((⟨#[]⟩ : ByteArray), p1)) else ((tagged_encoded.F n a0 a1 a2 a3).bind fun p2 =>
  k (p2, 0))
noncomputable def tagged_PointerBytes.C {R : Type} (n : Nat) (f : FuncId) (xs : List AV) : (AV → Option R) → Option R :=
  bif Nat.beq f 13 then tagged_CheckPointer.via n xs else bif Nat.beq f 47 then tagged_encoded.via n xs else fun _ => none
theorem tagged_PointerBytes.tells {R : Type} (n : Nat) : Tells (R := R) Try.prog (tagged_PointerBytes.C n) := fun _ xs => tells_at (tagged_CheckPointer.tells1 n xs) (tells_at (tagged_encoded.tells1 n xs) (Tells1.none))
noncomputable def tagged_PointerBytes.cut (r : Nat) : Option Keep := match r with  | _ => none
theorem tagged_PointerBytes.e_eq {R : Type} (n : Nat) (rec : List Item → St → Option R) (K : AV → Option R) (a0 : Int) (a1 : Int) (a2 : Int) (a3 : Int) :
    goK G (tagged_PointerBytes.C n) tagged_PointerBytes.cut (fun S => finK G Try.f12.resultTypes.toList Try.f12.results.toList S K) rec 1000 [.code (Try.f12.body.getD .skip)] (Ev.start Try.f12 [AV.agg [vi a0, vi a1, vi a2, vi a3]]) = tagged_PointerBytes.e n  (fun p => K (.tup [vs p.1, vi p.2])) a0 a1 a2 a3 := by kernel_rfl
noncomputable def tagged_PointerBytes.F (n : Nat) (a0 : Int) (a1 : Int) (a2 : Int) (a3 : Int) : Option (ByteArray × Int) := tagged_PointerBytes.e n  Option.some a0 a1 a2 a3
noncomputable def tagged_PointerBytes.dec (x : AV) : Option (ByteArray × Int) := match x with | .tup [.v (.string p0), .v (.int .i64 p1)] => Option.some (p0, p1) | _ => none
theorem tagged_PointerBytes.dec_inv {p : ByteArray × Int} (y : AV) (h : tagged_PointerBytes.dec y = some p) : y = .tup [vs p.1, vi p.2] := by
  unfold tagged_PointerBytes.dec at h
  split at h
  · cases h; rfl
  · cases h
theorem tagged_PointerBytes.hands (n : Nat) (a0 : Int) (a1 : Int) (a2 : Int) (a3 : Int) {p : ByteArray × Int} (h : tagged_PointerBytes.F n a0 a1 a2 a3 = some p) : HandsIn Try.prog 12 [AV.agg [vi a0, vi a1, vi a2, vi a3]] (.tup [vs p.1, vi p.2]) := by
  refine hands_of cfg mixed (fun _ => rfl) (tagged_PointerBytes.tells n) (fn := Try.f12) Try.func12 (by kernel_rfl) (by kernel_rfl) (cut := tagged_PointerBytes.cut) (K := tagged_PointerBytes.dec) (r := p) (n := n) tagged_PointerBytes.dec_inv ?_
  rw [funK_getD (by kernel_rfl)]
  have h1 := tagged_PointerBytes.e_eq n (runK G (tagged_PointerBytes.C n) tagged_PointerBytes.cut (fun S => finK G Try.f12.resultTypes.toList Try.f12.results.toList S tagged_PointerBytes.dec) n) tagged_PointerBytes.dec a0 a1 a2 a3
  exact h1.trans h
noncomputable def tagged_PointerBytes.via {R : Type} (n : Nat) (xs : List AV) : (AV → Option R) → Option R := match xs with | [.agg [.v (.int .i64 a0), .v (.int .i64 a1), .v (.int .i64 a2), .v (.int .i64 a3)]] => fun K => (tagged_PointerBytes.F n a0 a1 a2 a3).bind fun p => K (.tup [vs p.1, vi p.2]) | _ => fun _ => none
theorem tagged_PointerBytes.tells1 {R : Type} (n : Nat) (xs : List AV) : Tells1 (R := R) Try.prog 12 xs (tagged_PointerBytes.via n xs) := by
  unfold tagged_PointerBytes.via
  split
  · exact Tells1.of (fun p hp => (tagged_PointerBytes.hands n _ _ _ _ hp).hands)
  · exact Tells1.none
end Go.Proofs.Ytgmpnhfnkhohiaa.Ev

/- midrange/midrangebase.BigBytes, out of its evaluation. Printed by the session's own program. -/
namespace Go.Proofs.Ytgmpnhfnkhohiaa.Ev
open Go Go.Proofs Go.Proofs.Ev
set_option linter.unusedVariables false
set_option maxRecDepth 100000
/-! midrange/midrangebase.BigBytes: function 46 -/
noncomputable def midrangebase_BigBytes.r3 {R : Type} (n : Nat) (c3 : Int → Int → Int → List AV → Option R) (k : ByteArray → Option R) (z1 : Int) (z2 : Int) (z3 : Int) (z4 : List AV) : Option R :=
  bif decide (z3 < z2) then (let y2 : Int := IntKind.i64.wrap ((IntKind.i64.wrap (z2 - 1)) - z3)
  let y3 : Int := IntKind.u8.wrap (Int.tmod z1 256)
  bif decide ((0 : Int) ≤ y2) && decide (y2 < ((z4.length : Nat) : Int)) then (let y4 : Int := IntKind.i64.wrap (Int.tdiv z1 256)
  c3 y4 z2 (IntKind.i64.wrap (z3 + 1)) (z4.set ((y2).toNat) (vu y3))) else none) else (withSome (strOf z4) fun bs5 =>
  k (⟨bs5.toArray⟩))
noncomputable def midrangebase_BigBytes.e {R : Type} (n : Nat) (c3 : Int → Int → Int → List AV → Option R) (k : ByteArray → Option R) (a0 : Int) (a1 : Int) : Option R :=
  bif (decide ((0 : Int) ≤ a1) && decide ((a1 : Int) ≤ most)) && decide ((a1 : Int) = a1) && true && true then (let y1 : List AV := List.replicate (a1).toNat (vu 0)
  c3 a0 a1 0 y1) else none
noncomputable def midrangebase_BigBytes.C {R : Type} (n : Nat) (f : FuncId) (xs : List AV) : (AV → Option R) → Option R :=
  fun _ => none
theorem midrangebase_BigBytes.tells {R : Type} (n : Nat) : Tells (R := R) Try.prog (midrangebase_BigBytes.C n) := fun _ xs => Tells1.none
noncomputable def midrangebase_BigBytes.cut (r : Nat) : Option Keep := match r with | 3 => Option.some ⟨[0, 1, 5, 6], []⟩ | _ => none
noncomputable def midrangebase_BigBytes.t3 : List Item := (todoOf 3 1000 [.code (Try.f46.body.getD .skip)]).getD []
noncomputable def midrangebase_BigBytes.s3 (z1 : Int) (z2 : Int) (z3 : Int) (z4 : List AV) : St := ⟨[vi z1, vi z2, .undef, .undef, .undef, .own 0 0 none, vi z3, .undef, .undef, .undef, .undef, .undef, .undef, .undef, .undef, .undef, .undef, .undef, .undef, .undef, .undef, .undef, .undef, .undef, .undef, .undef, .undef], Mem.ofList [.row true 1 z4], 1⟩
theorem midrangebase_BigBytes.e_eq {R : Type} (n : Nat) (rec : List Item → St → Option R) (K : AV → Option R) (a0 : Int) (a1 : Int) :
    goK G (midrangebase_BigBytes.C n) midrangebase_BigBytes.cut (fun S => finK G Try.f46.resultTypes.toList Try.f46.results.toList S K) rec 1000 [.code (Try.f46.body.getD .skip)] (Ev.start Try.f46 [vi a0, vi a1]) = midrangebase_BigBytes.e n (fun z1 z2 z3 z4 => rec midrangebase_BigBytes.t3 (midrangebase_BigBytes.s3 z1 z2 z3 z4)) (fun p => K (vs p)) a0 a1 := by kernel_rfl
theorem midrangebase_BigBytes.r3_eq {R : Type} (n : Nat) (rec : List Item → St → Option R) (K : AV → Option R) (z1 : Int) (z2 : Int) (z3 : Int) (z4 : List AV) :
    atK G (midrangebase_BigBytes.C n) midrangebase_BigBytes.cut (fun S => finK G Try.f46.resultTypes.toList Try.f46.results.toList S K) rec midrangebase_BigBytes.t3 (midrangebase_BigBytes.s3 z1 z2 z3 z4) = midrangebase_BigBytes.r3 n (fun z1 z2 z3 z4 => rec midrangebase_BigBytes.t3 (midrangebase_BigBytes.s3 z1 z2 z3 z4)) (fun p => K (vs p)) z1 z2 z3 z4 := by kernel_rfl
noncomputable def midrangebase_BigBytes.l (n : Nat) : Nat → (Int → Int → Int → List AV → Option (ByteArray))
  | 0 => (fun _ _ _ _ => none)
  | m + 1 => midrangebase_BigBytes.r3 n (midrangebase_BigBytes.l n m) Option.some
noncomputable def midrangebase_BigBytes.F (n : Nat) (a0 : Int) (a1 : Int) : Option (ByteArray) := midrangebase_BigBytes.e n (midrangebase_BigBytes.l n n) Option.some a0 a1
noncomputable def midrangebase_BigBytes.dec (x : AV) : Option (ByteArray) := match x with | .v (.string p0) => Option.some p0 | _ => none
theorem midrangebase_BigBytes.dec_inv {p : ByteArray} (y : AV) (h : midrangebase_BigBytes.dec y = some p) : y = vs p := by
  unfold midrangebase_BigBytes.dec at h
  split at h
  · cases h; rfl
  · cases h
theorem midrangebase_BigBytes.l_eq (n m : Nat) : (∀ (z1 : Int) (z2 : Int) (z3 : Int) (z4 : List AV), runK G (midrangebase_BigBytes.C n) midrangebase_BigBytes.cut (fun S => finK G Try.f46.resultTypes.toList Try.f46.results.toList S midrangebase_BigBytes.dec) m midrangebase_BigBytes.t3 (midrangebase_BigBytes.s3 z1 z2 z3 z4) = (midrangebase_BigBytes.l n m) z1 z2 z3 z4) := by
  induction m with
  | zero => exact fun z1 z2 z3 z4 => rfl
  | succ m ih =>
    have h3 := ih
    have e3 : (fun (z1 : Int) (z2 : Int) (z3 : Int) (z4 : List AV) => runK G (midrangebase_BigBytes.C n) midrangebase_BigBytes.cut (fun S => finK G Try.f46.resultTypes.toList Try.f46.results.toList S midrangebase_BigBytes.dec) m midrangebase_BigBytes.t3 (midrangebase_BigBytes.s3 z1 z2 z3 z4)) = (midrangebase_BigBytes.l n m) := by funext z1 z2 z3 z4; exact h3 z1 z2 z3 z4
    have q3 : ∀ (z1 : Int) (z2 : Int) (z3 : Int) (z4 : List AV), runK G (midrangebase_BigBytes.C n) midrangebase_BigBytes.cut (fun S => finK G Try.f46.resultTypes.toList Try.f46.results.toList S midrangebase_BigBytes.dec) (m + 1) midrangebase_BigBytes.t3 (midrangebase_BigBytes.s3 z1 z2 z3 z4) = (midrangebase_BigBytes.l n (m + 1)) z1 z2 z3 z4 := by
      intro z1 z2 z3 z4
      rw [runK_succ]
      refine (midrangebase_BigBytes.r3_eq n _ midrangebase_BigBytes.dec z1 z2 z3 z4).trans ?_
      rw [e3]
      rfl
    exact q3
theorem midrangebase_BigBytes.hands (n : Nat) (a0 : Int) (a1 : Int) {p : ByteArray} (h : midrangebase_BigBytes.F n a0 a1 = some p) : HandsIn Try.prog 46 [vi a0, vi a1] (vs p) := by
  refine hands_of cfg mixed (fun _ => rfl) (midrangebase_BigBytes.tells n) (fn := Try.f46) Try.func46 (by kernel_rfl) (by kernel_rfl) (cut := midrangebase_BigBytes.cut) (K := midrangebase_BigBytes.dec) (r := p) (n := n) midrangebase_BigBytes.dec_inv ?_
  rw [funK_getD (by kernel_rfl)]
  have h1 := midrangebase_BigBytes.e_eq n (runK G (midrangebase_BigBytes.C n) midrangebase_BigBytes.cut (fun S => finK G Try.f46.resultTypes.toList Try.f46.results.toList S midrangebase_BigBytes.dec) n) midrangebase_BigBytes.dec a0 a1
  have hl := midrangebase_BigBytes.l_eq n n
  simp only [hl] at h1
  exact h1.trans h
noncomputable def midrangebase_BigBytes.via {R : Type} (n : Nat) (xs : List AV) : (AV → Option R) → Option R := match xs with | [.v (.int .i64 a0), .v (.int .i64 a1)] => fun K => (midrangebase_BigBytes.F n a0 a1).bind fun p => K (vs p) | _ => fun _ => none
theorem midrangebase_BigBytes.tells1 {R : Type} (n : Nat) (xs : List AV) : Tells1 (R := R) Try.prog 46 xs (midrangebase_BigBytes.via n xs) := by
  unfold midrangebase_BigBytes.via
  split
  · exact Tells1.of (fun p hp => (midrangebase_BigBytes.hands n _ _ hp).hands)
  · exact Tells1.none
end Go.Proofs.Ytgmpnhfnkhohiaa.Ev

/- midrange/midrangelaw03.awake, out of its evaluation. Printed by the session's own program. -/
namespace Go.Proofs.Ytgmpnhfnkhohiaa.Ev
open Go Go.Proofs Go.Proofs.Ev
set_option linter.unusedVariables false
set_option maxRecDepth 100000
/-! midrange/midrangelaw03.awake: function 10 -/
noncomputable def midrangelaw03_awake.e {R : Type} (n : Nat)  (k : Bool → Option R)  : Option R :=
  (tagged_PointerBytes.F n 1 258 3 5).bind fun p1 =>
  bif p1.2 == 0 then ((midrangebase_BigBytes.F n 1 2).bind fun p2 =>
  bif decide ((0 : Int) ≤ 1) && decide ((1 : Int) ≤ ((p2.size : Nat) : Int)) then (chk (decide ((p2.extract 1 p2.size).size + 15 ≤ 9223372036854775807)) (let y3 : ByteArray := (p2.extract 1 p2.size) ++ (⟨#[0, 0, 5, 0, 0, 0, 0, 1, 2, 0, 0, 0, 0, 0, 3]⟩ : ByteArray)
  k (p1.1.toList == y3.toList))) else none) else (k false)
noncomputable def midrangelaw03_awake.C {R : Type} (n : Nat) (f : FuncId) (xs : List AV) : (AV → Option R) → Option R :=
  bif Nat.beq f 12 then tagged_PointerBytes.via n xs else bif Nat.beq f 46 then midrangebase_BigBytes.via n xs else fun _ => none
theorem midrangelaw03_awake.tells {R : Type} (n : Nat) : Tells (R := R) Try.prog (midrangelaw03_awake.C n) := fun _ xs => tells_at (tagged_PointerBytes.tells1 n xs) (tells_at (midrangebase_BigBytes.tells1 n xs) (Tells1.none))
noncomputable def midrangelaw03_awake.cut (r : Nat) : Option Keep := match r with  | _ => none
theorem midrangelaw03_awake.e_eq {R : Type} (n : Nat) (rec : List Item → St → Option R) (K : AV → Option R)  :
    goK G (midrangelaw03_awake.C n) midrangelaw03_awake.cut (fun S => finK G Try.f10.resultTypes.toList Try.f10.results.toList S K) rec 1000 [.code (Try.f10.body.getD .skip)] (Ev.start Try.f10 []) = midrangelaw03_awake.e n  (fun p => K (vb p))  := by kernel_rfl
noncomputable def midrangelaw03_awake.F (n : Nat)  : Option (Bool) := midrangelaw03_awake.e n  Option.some 
noncomputable def midrangelaw03_awake.dec (x : AV) : Option (Bool) := match x with | .v (.bool p0) => Option.some p0 | _ => none
theorem midrangelaw03_awake.dec_inv {p : Bool} (y : AV) (h : midrangelaw03_awake.dec y = some p) : y = vb p := by
  unfold midrangelaw03_awake.dec at h
  split at h
  · cases h; rfl
  · cases h
theorem midrangelaw03_awake.hands (n : Nat)  {p : Bool} (h : midrangelaw03_awake.F n  = some p) : HandsIn Try.prog 10 [] (vb p) := by
  refine hands_of cfg mixed (fun _ => rfl) (midrangelaw03_awake.tells n) (fn := Try.f10) Try.func10 (by kernel_rfl) (by kernel_rfl) (cut := midrangelaw03_awake.cut) (K := midrangelaw03_awake.dec) (r := p) (n := n) midrangelaw03_awake.dec_inv ?_
  rw [funK_getD (by kernel_rfl)]
  have h1 := midrangelaw03_awake.e_eq n (runK G (midrangelaw03_awake.C n) midrangelaw03_awake.cut (fun S => finK G Try.f10.resultTypes.toList Try.f10.results.toList S midrangelaw03_awake.dec) n) midrangelaw03_awake.dec 
  exact h1.trans h
noncomputable def midrangelaw03_awake.via {R : Type} (n : Nat) (xs : List AV) : (AV → Option R) → Option R := match xs with | [] => fun K => (midrangelaw03_awake.F n ).bind fun p => K (vb p) | _ => fun _ => none
theorem midrangelaw03_awake.tells1 {R : Type} (n : Nat) (xs : List AV) : Tells1 (R := R) Try.prog 10 xs (midrangelaw03_awake.via n xs) := by
  unfold midrangelaw03_awake.via
  split
  · exact Tells1.of (fun p hp => (midrangelaw03_awake.hands n  hp).hands)
  · exact Tells1.none
end Go.Proofs.Ytgmpnhfnkhohiaa.Ev

/- midrange/midrangebase.Within, out of its evaluation. Printed by the session's own program. -/
namespace Go.Proofs.Ytgmpnhfnkhohiaa.Ev
open Go Go.Proofs Go.Proofs.Ev
set_option linter.unusedVariables false
set_option maxRecDepth 100000
/-! midrange/midrangebase.Within: function 40 -/
noncomputable def midrangebase_Within.e {R : Type} (n : Nat)  (k : Bool → Option R) (a0 : Int) (a1 : Int) (a2 : Int) : Option R :=
  bif decide (a1 ≤ a0) then (k (decide (a0 ≤ a2))) else (k false)
noncomputable def midrangebase_Within.C {R : Type} (n : Nat) (f : FuncId) (xs : List AV) : (AV → Option R) → Option R :=
  fun _ => none
theorem midrangebase_Within.tells {R : Type} (n : Nat) : Tells (R := R) Try.prog (midrangebase_Within.C n) := fun _ xs => Tells1.none
noncomputable def midrangebase_Within.cut (r : Nat) : Option Keep := match r with  | _ => none
theorem midrangebase_Within.e_eq {R : Type} (n : Nat) (rec : List Item → St → Option R) (K : AV → Option R) (a0 : Int) (a1 : Int) (a2 : Int) :
    goK G (midrangebase_Within.C n) midrangebase_Within.cut (fun S => finK G Try.f40.resultTypes.toList Try.f40.results.toList S K) rec 1000 [.code (Try.f40.body.getD .skip)] (Ev.start Try.f40 [vi a0, vi a1, vi a2]) = midrangebase_Within.e n  (fun p => K (vb p)) a0 a1 a2 := by kernel_rfl
noncomputable def midrangebase_Within.F (n : Nat) (a0 : Int) (a1 : Int) (a2 : Int) : Option (Bool) := midrangebase_Within.e n  Option.some a0 a1 a2
noncomputable def midrangebase_Within.dec (x : AV) : Option (Bool) := match x with | .v (.bool p0) => Option.some p0 | _ => none
theorem midrangebase_Within.dec_inv {p : Bool} (y : AV) (h : midrangebase_Within.dec y = some p) : y = vb p := by
  unfold midrangebase_Within.dec at h
  split at h
  · cases h; rfl
  · cases h
theorem midrangebase_Within.hands (n : Nat) (a0 : Int) (a1 : Int) (a2 : Int) {p : Bool} (h : midrangebase_Within.F n a0 a1 a2 = some p) : HandsIn Try.prog 40 [vi a0, vi a1, vi a2] (vb p) := by
  refine hands_of cfg mixed (fun _ => rfl) (midrangebase_Within.tells n) (fn := Try.f40) Try.func40 (by kernel_rfl) (by kernel_rfl) (cut := midrangebase_Within.cut) (K := midrangebase_Within.dec) (r := p) (n := n) midrangebase_Within.dec_inv ?_
  rw [funK_getD (by kernel_rfl)]
  have h1 := midrangebase_Within.e_eq n (runK G (midrangebase_Within.C n) midrangebase_Within.cut (fun S => finK G Try.f40.resultTypes.toList Try.f40.results.toList S midrangebase_Within.dec) n) midrangebase_Within.dec a0 a1 a2
  exact h1.trans h
noncomputable def midrangebase_Within.via {R : Type} (n : Nat) (xs : List AV) : (AV → Option R) → Option R := match xs with | [.v (.int .i64 a0), .v (.int .i64 a1), .v (.int .i64 a2)] => fun K => (midrangebase_Within.F n a0 a1 a2).bind fun p => K (vb p) | _ => fun _ => none
theorem midrangebase_Within.tells1 {R : Type} (n : Nat) (xs : List AV) : Tells1 (R := R) Try.prog 40 xs (midrangebase_Within.via n xs) := by
  unfold midrangebase_Within.via
  split
  · exact Tells1.of (fun p hp => (midrangebase_Within.hands n _ _ _ hp).hands)
  · exact Tells1.none
end Go.Proofs.Ytgmpnhfnkhohiaa.Ev

/- midrange/midrangeref03.PointerErr, out of its evaluation. Printed by the session's own program. -/
namespace Go.Proofs.Ytgmpnhfnkhohiaa.Ev
open Go Go.Proofs Go.Proofs.Ev
set_option linter.unusedVariables false
set_option maxRecDepth 100000
/-! midrange/midrangeref03.PointerErr: function 11 -/
noncomputable def midrangeref03_PointerErr.r4 {R : Type} (n : Nat) (c4 : Unit → Option R) (k : Int → Option R) (_ : Unit) : Option R :=
  k 3
noncomputable def midrangeref03_PointerErr.e {R : Type} (n : Nat) (c4 : Unit → Option R) (k : Int → Option R) (a0 : Int) (a1 : Int) (a2 : Int) (a3 : Int) : Option R :=
  (midrangebase_Within.F n a0 0 2).bind fun p1 =>
  bif !p1 then (k 4) else ((midrangebase_Within.F n a1 0 1099511627775).bind fun p2 =>
  bif !p2 then (c4 ()) else ((midrangebase_Within.F n a2 0 16777215).bind fun p3 =>
  bif !p3 then (c4 ()) else ((midrangebase_Within.F n a3 0 1023).bind fun p4 =>
  bif !p4 then (c4 ()) else (bif a0 != 1 then (bif a3 != 0 then (k 5) else (k 0)) else (k 0)))))
noncomputable def midrangeref03_PointerErr.C {R : Type} (n : Nat) (f : FuncId) (xs : List AV) : (AV → Option R) → Option R :=
  bif Nat.beq f 40 then midrangebase_Within.via n xs else fun _ => none
theorem midrangeref03_PointerErr.tells {R : Type} (n : Nat) : Tells (R := R) Try.prog (midrangeref03_PointerErr.C n) := fun _ xs => tells_at (midrangebase_Within.tells1 n xs) (Tells1.none)
noncomputable def midrangeref03_PointerErr.cut (r : Nat) : Option Keep := match r with | 4 => Option.some ⟨[], []⟩ | _ => none
noncomputable def midrangeref03_PointerErr.t4 : List Item := (todoOf 4 1000 [.code (Try.f11.body.getD .skip)]).getD []
noncomputable def midrangeref03_PointerErr.s4 (_ : Unit) : St := ⟨[.undef, .undef, .undef, .undef, .undef, .undef, .undef, .undef, .undef, .undef, .undef, .undef, .undef, .undef, .undef, .undef, .undef, .undef, .undef, .undef, .undef, .undef, .undef, .undef, .undef, .undef, .undef, .undef, .undef, .undef, .undef, .undef, .undef, .undef, .undef, .undef], Mem.ofList [], 0⟩
theorem midrangeref03_PointerErr.e_eq {R : Type} (n : Nat) (rec : List Item → St → Option R) (K : AV → Option R) (a0 : Int) (a1 : Int) (a2 : Int) (a3 : Int) :
    goK G (midrangeref03_PointerErr.C n) midrangeref03_PointerErr.cut (fun S => finK G Try.f11.resultTypes.toList Try.f11.results.toList S K) rec 1000 [.code (Try.f11.body.getD .skip)] (Ev.start Try.f11 [AV.agg [vi a0, vi a1, vi a2, vi a3]]) = midrangeref03_PointerErr.e n (fun _ => rec midrangeref03_PointerErr.t4 (midrangeref03_PointerErr.s4 ())) (fun p => K (vi p)) a0 a1 a2 a3 := by kernel_rfl
theorem midrangeref03_PointerErr.r4_eq {R : Type} (n : Nat) (rec : List Item → St → Option R) (K : AV → Option R) (_ : Unit) :
    atK G (midrangeref03_PointerErr.C n) midrangeref03_PointerErr.cut (fun S => finK G Try.f11.resultTypes.toList Try.f11.results.toList S K) rec midrangeref03_PointerErr.t4 (midrangeref03_PointerErr.s4 ()) = midrangeref03_PointerErr.r4 n (fun _ => rec midrangeref03_PointerErr.t4 (midrangeref03_PointerErr.s4 ())) (fun p => K (vi p)) () := by kernel_rfl
noncomputable def midrangeref03_PointerErr.l (n : Nat) : Nat → (Unit → Option (Int))
  | 0 => (fun _ => none)
  | m + 1 => midrangeref03_PointerErr.r4 n (midrangeref03_PointerErr.l n m) Option.some
noncomputable def midrangeref03_PointerErr.F (n : Nat) (a0 : Int) (a1 : Int) (a2 : Int) (a3 : Int) : Option (Int) := midrangeref03_PointerErr.e n (midrangeref03_PointerErr.l n n) Option.some a0 a1 a2 a3
noncomputable def midrangeref03_PointerErr.dec (x : AV) : Option (Int) := match x with | .v (.int .i64 p0) => Option.some p0 | _ => none
theorem midrangeref03_PointerErr.dec_inv {p : Int} (y : AV) (h : midrangeref03_PointerErr.dec y = some p) : y = vi p := by
  unfold midrangeref03_PointerErr.dec at h
  split at h
  · cases h; rfl
  · cases h
theorem midrangeref03_PointerErr.l_eq (n m : Nat) : (∀ z : Unit, runK G (midrangeref03_PointerErr.C n) midrangeref03_PointerErr.cut (fun S => finK G Try.f11.resultTypes.toList Try.f11.results.toList S midrangeref03_PointerErr.dec) m midrangeref03_PointerErr.t4 (midrangeref03_PointerErr.s4 z) = (midrangeref03_PointerErr.l n m) z) := by
  induction m with
  | zero => exact fun _ => rfl
  | succ m ih =>
    have h4 := ih
    have e4 : (fun (_ : Unit) => runK G (midrangeref03_PointerErr.C n) midrangeref03_PointerErr.cut (fun S => finK G Try.f11.resultTypes.toList Try.f11.results.toList S midrangeref03_PointerErr.dec) m midrangeref03_PointerErr.t4 (midrangeref03_PointerErr.s4 ())) = (midrangeref03_PointerErr.l n m) := by funext z; exact h4 z
    have q4 : ∀ z : Unit, runK G (midrangeref03_PointerErr.C n) midrangeref03_PointerErr.cut (fun S => finK G Try.f11.resultTypes.toList Try.f11.results.toList S midrangeref03_PointerErr.dec) (m + 1) midrangeref03_PointerErr.t4 (midrangeref03_PointerErr.s4 z) = (midrangeref03_PointerErr.l n (m + 1)) z := by
      intro z
      rw [runK_succ]
      refine (midrangeref03_PointerErr.r4_eq n _ midrangeref03_PointerErr.dec ()).trans ?_
      rw [e4]
      rfl
    exact q4
theorem midrangeref03_PointerErr.hands (n : Nat) (a0 : Int) (a1 : Int) (a2 : Int) (a3 : Int) {p : Int} (h : midrangeref03_PointerErr.F n a0 a1 a2 a3 = some p) : HandsIn Try.prog 11 [AV.agg [vi a0, vi a1, vi a2, vi a3]] (vi p) := by
  refine hands_of cfg mixed (fun _ => rfl) (midrangeref03_PointerErr.tells n) (fn := Try.f11) Try.func11 (by kernel_rfl) (by kernel_rfl) (cut := midrangeref03_PointerErr.cut) (K := midrangeref03_PointerErr.dec) (r := p) (n := n) midrangeref03_PointerErr.dec_inv ?_
  rw [funK_getD (by kernel_rfl)]
  have h1 := midrangeref03_PointerErr.e_eq n (runK G (midrangeref03_PointerErr.C n) midrangeref03_PointerErr.cut (fun S => finK G Try.f11.resultTypes.toList Try.f11.results.toList S midrangeref03_PointerErr.dec) n) midrangeref03_PointerErr.dec a0 a1 a2 a3
  have hl := midrangeref03_PointerErr.l_eq n n
  simp only [hl] at h1
  exact h1.trans h
noncomputable def midrangeref03_PointerErr.via {R : Type} (n : Nat) (xs : List AV) : (AV → Option R) → Option R := match xs with | [.agg [.v (.int .i64 a0), .v (.int .i64 a1), .v (.int .i64 a2), .v (.int .i64 a3)]] => fun K => (midrangeref03_PointerErr.F n a0 a1 a2 a3).bind fun p => K (vi p) | _ => fun _ => none
theorem midrangeref03_PointerErr.tells1 {R : Type} (n : Nat) (xs : List AV) : Tells1 (R := R) Try.prog 11 xs (midrangeref03_PointerErr.via n xs) := by
  unfold midrangeref03_PointerErr.via
  split
  · exact Tells1.of (fun p hp => (midrangeref03_PointerErr.hands n _ _ _ _ hp).hands)
  · exact Tells1.none
end Go.Proofs.Ytgmpnhfnkhohiaa.Ev

/- midrange/midrangeref03.Bytes, out of its evaluation. Printed by the session's own program. -/
namespace Go.Proofs.Ytgmpnhfnkhohiaa.Ev
open Go Go.Proofs Go.Proofs.Ev
set_option linter.unusedVariables false
set_option maxRecDepth 100000
/-! midrange/midrangeref03.Bytes: function 14 -/
noncomputable def midrangeref03_Bytes.e {R : Type} (n : Nat)  (k : ByteArray → Option R) (a0 : Int) (a1 : Int) (a2 : Int) (a3 : Int) : Option R :=
  (midrangebase_BigBytes.F n a0 1).bind fun p1 =>
  chk (decide (p1.size + 1 ≤ 9223372036854775807)) ((midrangebase_BigBytes.F n a3 2).bind fun p2 =>
  chk (decide ((p1 ++ (⟨#[0]⟩ : ByteArray)).size + p2.size ≤ 9223372036854775807)) (let y3 : ByteArray := (p1 ++ (⟨#[0]⟩ : ByteArray)) ++ p2
  (midrangebase_BigBytes.F n a1 6).bind fun p4 =>
  chk (decide (y3.size + p4.size ≤ 9223372036854775807)) ((midrangebase_BigBytes.F n a2 6).bind fun p5 =>
  chk (decide ((y3 ++ p4).size + p5.size ≤ 9223372036854775807)) (k ((y3 ++ p4) ++ p5)))))
noncomputable def midrangeref03_Bytes.C {R : Type} (n : Nat) (f : FuncId) (xs : List AV) : (AV → Option R) → Option R :=
  bif Nat.beq f 46 then midrangebase_BigBytes.via n xs else fun _ => none
theorem midrangeref03_Bytes.tells {R : Type} (n : Nat) : Tells (R := R) Try.prog (midrangeref03_Bytes.C n) := fun _ xs => tells_at (midrangebase_BigBytes.tells1 n xs) (Tells1.none)
noncomputable def midrangeref03_Bytes.cut (r : Nat) : Option Keep := match r with  | _ => none
theorem midrangeref03_Bytes.e_eq {R : Type} (n : Nat) (rec : List Item → St → Option R) (K : AV → Option R) (a0 : Int) (a1 : Int) (a2 : Int) (a3 : Int) :
    goK G (midrangeref03_Bytes.C n) midrangeref03_Bytes.cut (fun S => finK G Try.f14.resultTypes.toList Try.f14.results.toList S K) rec 1000 [.code (Try.f14.body.getD .skip)] (Ev.start Try.f14 [AV.agg [vi a0, vi a1, vi a2, vi a3]]) = midrangeref03_Bytes.e n  (fun p => K (vs p)) a0 a1 a2 a3 := by kernel_rfl
noncomputable def midrangeref03_Bytes.F (n : Nat) (a0 : Int) (a1 : Int) (a2 : Int) (a3 : Int) : Option (ByteArray) := midrangeref03_Bytes.e n  Option.some a0 a1 a2 a3
noncomputable def midrangeref03_Bytes.dec (x : AV) : Option (ByteArray) := match x with | .v (.string p0) => Option.some p0 | _ => none
theorem midrangeref03_Bytes.dec_inv {p : ByteArray} (y : AV) (h : midrangeref03_Bytes.dec y = some p) : y = vs p := by
  unfold midrangeref03_Bytes.dec at h
  split at h
  · cases h; rfl
  · cases h
theorem midrangeref03_Bytes.hands (n : Nat) (a0 : Int) (a1 : Int) (a2 : Int) (a3 : Int) {p : ByteArray} (h : midrangeref03_Bytes.F n a0 a1 a2 a3 = some p) : HandsIn Try.prog 14 [AV.agg [vi a0, vi a1, vi a2, vi a3]] (vs p) := by
  refine hands_of cfg mixed (fun _ => rfl) (midrangeref03_Bytes.tells n) (fn := Try.f14) Try.func14 (by kernel_rfl) (by kernel_rfl) (cut := midrangeref03_Bytes.cut) (K := midrangeref03_Bytes.dec) (r := p) (n := n) midrangeref03_Bytes.dec_inv ?_
  rw [funK_getD (by kernel_rfl)]
  have h1 := midrangeref03_Bytes.e_eq n (runK G (midrangeref03_Bytes.C n) midrangeref03_Bytes.cut (fun S => finK G Try.f14.resultTypes.toList Try.f14.results.toList S midrangeref03_Bytes.dec) n) midrangeref03_Bytes.dec a0 a1 a2 a3
  exact h1.trans h
noncomputable def midrangeref03_Bytes.via {R : Type} (n : Nat) (xs : List AV) : (AV → Option R) → Option R := match xs with | [.agg [.v (.int .i64 a0), .v (.int .i64 a1), .v (.int .i64 a2), .v (.int .i64 a3)]] => fun K => (midrangeref03_Bytes.F n a0 a1 a2 a3).bind fun p => K (vs p) | _ => fun _ => none
theorem midrangeref03_Bytes.tells1 {R : Type} (n : Nat) (xs : List AV) : Tells1 (R := R) Try.prog 14 xs (midrangeref03_Bytes.via n xs) := by
  unfold midrangeref03_Bytes.via
  split
  · exact Tells1.of (fun p hp => (midrangeref03_Bytes.hands n _ _ _ _ hp).hands)
  · exact Tells1.none
end Go.Proofs.Ytgmpnhfnkhohiaa.Ev

/- midrange/tagged.number, out of its evaluation. Printed by the session's own program. -/
namespace Go.Proofs.Ytgmpnhfnkhohiaa.Ev
open Go Go.Proofs Go.Proofs.Ev
set_option linter.unusedVariables false
set_option maxRecDepth 100000
/-! midrange/tagged.number: function 49 -/
noncomputable def tagged_number.r3 {R : Type} (n : Nat) (c3 : ByteArray → Int → Int → Int → Option R) (k : Int → Option R) (z1 : ByteArray) (z2 : Int) (z3 : Int) (z4 : Int) : Option R :=
  bif decide (z4 < z3) then (let y1 : Int := IntKind.i64.wrap (z2 * 2 ^ min (8 : Int).toNat 64)
  bif decide ((0 : Int) ≤ z4) && decide (z4 < ((z1.size : Nat) : Int)) then (let y2 : Int := (((z1.data.getD ((z4).toNat) 0).toNat : Nat) : Int)
  let y3 : Int := IntKind.i64.wrap (BitVec.ofInt 64 y1 ||| BitVec.ofInt 64 (IntKind.i64.wrap y2)).toNat
  c3 z1 y3 z3 (IntKind.i64.wrap (z4 + 1))) else none) else (k z2)
noncomputable def tagged_number.e {R : Type} (n : Nat) (c3 : ByteArray → Int → Int → Int → Option R) (k : Int → Option R) (a0 : ByteArray) : Option R :=
  c3 a0 0 ((a0.size : Nat) : Int) 0
noncomputable def tagged_number.C {R : Type} (n : Nat) (f : FuncId) (xs : List AV) : (AV → Option R) → Option R :=
  fun _ => none
theorem tagged_number.tells {R : Type} (n : Nat) : Tells (R := R) Try.prog (tagged_number.C n) := fun _ xs => Tells1.none
noncomputable def tagged_number.cut (r : Nat) : Option Keep := match r with | 3 => Option.some ⟨[0, 3, 6, 7], []⟩ | _ => none
noncomputable def tagged_number.t3 : List Item := (todoOf 3 1000 [.code (Try.f49.body.getD .skip)]).getD []
noncomputable def tagged_number.s3 (z1 : ByteArray) (z2 : Int) (z3 : Int) (z4 : Int) : St := ⟨[vs z1, .undef, .undef, vi z2, .undef, .undef, vi z3, vi z4, .undef, .undef, .undef, .undef, .undef, .undef, .undef, .undef, .undef, .undef, .undef], Mem.ofList [], 0⟩
theorem tagged_number.e_eq {R : Type} (n : Nat) (rec : List Item → St → Option R) (K : AV → Option R) (a0 : ByteArray) :
    goK G (tagged_number.C n) tagged_number.cut (fun S => finK G Try.f49.resultTypes.toList Try.f49.results.toList S K) rec 1000 [.code (Try.f49.body.getD .skip)] (Ev.start Try.f49 [vs a0]) = tagged_number.e n (fun z1 z2 z3 z4 => rec tagged_number.t3 (tagged_number.s3 z1 z2 z3 z4)) (fun p => K (vi p)) a0 := by kernel_rfl
theorem tagged_number.r3_eq {R : Type} (n : Nat) (rec : List Item → St → Option R) (K : AV → Option R) (z1 : ByteArray) (z2 : Int) (z3 : Int) (z4 : Int) :
    atK G (tagged_number.C n) tagged_number.cut (fun S => finK G Try.f49.resultTypes.toList Try.f49.results.toList S K) rec tagged_number.t3 (tagged_number.s3 z1 z2 z3 z4) = tagged_number.r3 n (fun z1 z2 z3 z4 => rec tagged_number.t3 (tagged_number.s3 z1 z2 z3 z4)) (fun p => K (vi p)) z1 z2 z3 z4 := by kernel_rfl
noncomputable def tagged_number.l (n : Nat) : Nat → (ByteArray → Int → Int → Int → Option (Int))
  | 0 => (fun _ _ _ _ => none)
  | m + 1 => tagged_number.r3 n (tagged_number.l n m) Option.some
noncomputable def tagged_number.F (n : Nat) (a0 : ByteArray) : Option (Int) := tagged_number.e n (tagged_number.l n n) Option.some a0
noncomputable def tagged_number.dec (x : AV) : Option (Int) := match x with | .v (.int .i64 p0) => Option.some p0 | _ => none
theorem tagged_number.dec_inv {p : Int} (y : AV) (h : tagged_number.dec y = some p) : y = vi p := by
  unfold tagged_number.dec at h
  split at h
  · cases h; rfl
  · cases h
theorem tagged_number.l_eq (n m : Nat) : (∀ (z1 : ByteArray) (z2 : Int) (z3 : Int) (z4 : Int), runK G (tagged_number.C n) tagged_number.cut (fun S => finK G Try.f49.resultTypes.toList Try.f49.results.toList S tagged_number.dec) m tagged_number.t3 (tagged_number.s3 z1 z2 z3 z4) = (tagged_number.l n m) z1 z2 z3 z4) := by
  induction m with
  | zero => exact fun z1 z2 z3 z4 => rfl
  | succ m ih =>
    have h3 := ih
    have e3 : (fun (z1 : ByteArray) (z2 : Int) (z3 : Int) (z4 : Int) => runK G (tagged_number.C n) tagged_number.cut (fun S => finK G Try.f49.resultTypes.toList Try.f49.results.toList S tagged_number.dec) m tagged_number.t3 (tagged_number.s3 z1 z2 z3 z4)) = (tagged_number.l n m) := by funext z1 z2 z3 z4; exact h3 z1 z2 z3 z4
    have q3 : ∀ (z1 : ByteArray) (z2 : Int) (z3 : Int) (z4 : Int), runK G (tagged_number.C n) tagged_number.cut (fun S => finK G Try.f49.resultTypes.toList Try.f49.results.toList S tagged_number.dec) (m + 1) tagged_number.t3 (tagged_number.s3 z1 z2 z3 z4) = (tagged_number.l n (m + 1)) z1 z2 z3 z4 := by
      intro z1 z2 z3 z4
      rw [runK_succ]
      refine (tagged_number.r3_eq n _ tagged_number.dec z1 z2 z3 z4).trans ?_
      rw [e3]
      rfl
    exact q3
theorem tagged_number.hands (n : Nat) (a0 : ByteArray) {p : Int} (h : tagged_number.F n a0 = some p) : HandsIn Try.prog 49 [vs a0] (vi p) := by
  refine hands_of cfg mixed (fun _ => rfl) (tagged_number.tells n) (fn := Try.f49) Try.func49 (by kernel_rfl) (by kernel_rfl) (cut := tagged_number.cut) (K := tagged_number.dec) (r := p) (n := n) tagged_number.dec_inv ?_
  rw [funK_getD (by kernel_rfl)]
  have h1 := tagged_number.e_eq n (runK G (tagged_number.C n) tagged_number.cut (fun S => finK G Try.f49.resultTypes.toList Try.f49.results.toList S tagged_number.dec) n) tagged_number.dec a0
  have hl := tagged_number.l_eq n n
  simp only [hl] at h1
  exact h1.trans h
noncomputable def tagged_number.via {R : Type} (n : Nat) (xs : List AV) : (AV → Option R) → Option R := match xs with | [.v (.string a0)] => fun K => (tagged_number.F n a0).bind fun p => K (vi p) | _ => fun _ => none
theorem tagged_number.tells1 {R : Type} (n : Nat) (xs : List AV) : Tells1 (R := R) Try.prog 49 xs (tagged_number.via n xs) := by
  unfold tagged_number.via
  split
  · exact Tells1.of (fun p hp => (tagged_number.hands n _ hp).hands)
  · exact Tells1.none
end Go.Proofs.Ytgmpnhfnkhohiaa.Ev

/- midrange/tagged.PointerIn, out of its evaluation. Printed by the session's own program. -/
namespace Go.Proofs.Ytgmpnhfnkhohiaa.Ev
open Go Go.Proofs Go.Proofs.Ev
set_option linter.unusedVariables false
set_option maxRecDepth 100000
/-! midrange/tagged.PointerIn: function 15 -/
noncomputable def tagged_PointerIn.e {R : Type} (n : Nat)  (k : Int × Int × Int × Int × Int → Option R) (a0 : ByteArray) : Option R :=
  let y1 : Bool := ((a0.size : Nat) : Int) != 16
  bif y1 then (k (0, 0, 0, 0, 18)) else (bif decide ((1 : Int) < (a0.size : Nat)) then (let y2 : Int := (((a0.data.getD 1 0).toNat : Nat) : Int)
  bif y2 != 0 then (k (0, 0, 0, 0, 5)) else (bif decide ((0 : Int) < (a0.size : Nat)) then (let y3 : Int := (((a0.data.getD 0 0).toNat : Nat) : Int)
  bif decide ((0 : Int) ≤ 4) && decide ((4 : Int) ≤ ((a0.size : Nat) : Int)) then (bif decide ((0 : Int) ≤ 2) && decide ((2 : Int) ≤ 4) then ((tagged_number.F n (a0.extract 2 4)).bind fun p4 =>
  bif decide ((0 : Int) ≤ 10) && decide ((10 : Int) ≤ ((a0.size : Nat) : Int)) then (bif decide ((0 : Int) ≤ 4) && decide ((4 : Int) ≤ 10) then ((tagged_number.F n (a0.extract 4 10)).bind fun p5 =>
  bif decide ((0 : Int) ≤ 10) && decide ((10 : Int) ≤ ((a0.size : Nat) : Int)) then ((tagged_number.F n (a0.extract 10 a0.size)).bind fun p6 =>
  (tagged_CheckPointer.F n (IntKind.i64.wrap y3) p5 p6 p4).bind fun p7 =>
  bif p7 != 0 then (k (0, 0, 0, 0, p7)) else (k (IntKind.i64.wrap y3, p5, p6, p4, 0))) else none) else none) else none) else none) else none) else none)) else none)
noncomputable def tagged_PointerIn.C {R : Type} (n : Nat) (f : FuncId) (xs : List AV) : (AV → Option R) → Option R :=
  bif Nat.beq f 13 then tagged_CheckPointer.via n xs else bif Nat.beq f 49 then tagged_number.via n xs else fun _ => none
theorem tagged_PointerIn.tells {R : Type} (n : Nat) : Tells (R := R) Try.prog (tagged_PointerIn.C n) := fun _ xs => tells_at (tagged_CheckPointer.tells1 n xs) (tells_at (tagged_number.tells1 n xs) (Tells1.none))
noncomputable def tagged_PointerIn.cut (r : Nat) : Option Keep := match r with  | _ => none
theorem tagged_PointerIn.e_eq {R : Type} (n : Nat) (rec : List Item → St → Option R) (K : AV → Option R) (a0 : ByteArray) :
    goK G (tagged_PointerIn.C n) tagged_PointerIn.cut (fun S => finK G Try.f15.resultTypes.toList Try.f15.results.toList S K) rec 1000 [.code (Try.f15.body.getD .skip)] (Ev.start Try.f15 [vs a0]) = tagged_PointerIn.e n  (fun p => K (.tup [.agg [vi p.1, vi p.2.1, vi p.2.2.1, vi p.2.2.2.1], vi p.2.2.2.2])) a0 := by kernel_rfl
noncomputable def tagged_PointerIn.F (n : Nat) (a0 : ByteArray) : Option (Int × Int × Int × Int × Int) := tagged_PointerIn.e n  Option.some a0
noncomputable def tagged_PointerIn.dec (x : AV) : Option (Int × Int × Int × Int × Int) := match x with | .tup [.agg [.v (.int .i64 p0), .v (.int .i64 p1), .v (.int .i64 p2), .v (.int .i64 p3)], .v (.int .i64 p4)] => Option.some (p0, p1, p2, p3, p4) | _ => none
theorem tagged_PointerIn.dec_inv {p : Int × Int × Int × Int × Int} (y : AV) (h : tagged_PointerIn.dec y = some p) : y = .tup [.agg [vi p.1, vi p.2.1, vi p.2.2.1, vi p.2.2.2.1], vi p.2.2.2.2] := by
  unfold tagged_PointerIn.dec at h
  split at h
  · cases h; rfl
  · cases h
theorem tagged_PointerIn.hands (n : Nat) (a0 : ByteArray) {p : Int × Int × Int × Int × Int} (h : tagged_PointerIn.F n a0 = some p) : HandsIn Try.prog 15 [vs a0] (.tup [.agg [vi p.1, vi p.2.1, vi p.2.2.1, vi p.2.2.2.1], vi p.2.2.2.2]) := by
  refine hands_of cfg mixed (fun _ => rfl) (tagged_PointerIn.tells n) (fn := Try.f15) Try.func15 (by kernel_rfl) (by kernel_rfl) (cut := tagged_PointerIn.cut) (K := tagged_PointerIn.dec) (r := p) (n := n) tagged_PointerIn.dec_inv ?_
  rw [funK_getD (by kernel_rfl)]
  have h1 := tagged_PointerIn.e_eq n (runK G (tagged_PointerIn.C n) tagged_PointerIn.cut (fun S => finK G Try.f15.resultTypes.toList Try.f15.results.toList S tagged_PointerIn.dec) n) tagged_PointerIn.dec a0
  exact h1.trans h
noncomputable def tagged_PointerIn.via {R : Type} (n : Nat) (xs : List AV) : (AV → Option R) → Option R := match xs with | [.v (.string a0)] => fun K => (tagged_PointerIn.F n a0).bind fun p => K (.tup [.agg [vi p.1, vi p.2.1, vi p.2.2.1, vi p.2.2.2.1], vi p.2.2.2.2]) | _ => fun _ => none
theorem tagged_PointerIn.tells1 {R : Type} (n : Nat) (xs : List AV) : Tells1 (R := R) Try.prog 15 xs (tagged_PointerIn.via n xs) := by
  unfold tagged_PointerIn.via
  split
  · exact Tells1.of (fun p hp => (tagged_PointerIn.hands n _ hp).hands)
  · exact Tells1.none
end Go.Proofs.Ytgmpnhfnkhohiaa.Ev

/- midrange/midrangebase.Big, out of its evaluation. Printed by the session's own program. -/
namespace Go.Proofs.Ytgmpnhfnkhohiaa.Ev
open Go Go.Proofs Go.Proofs.Ev
set_option linter.unusedVariables false
set_option maxRecDepth 100000
/-! midrange/midrangebase.Big: function 50 -/
noncomputable def midrangebase_Big.r3 {R : Type} (n : Nat) (c3 : ByteArray → Int → Int → Int → Int → Option R) (k : Int → Option R) (z1 : ByteArray) (z2 : Int) (z3 : Int) (z4 : Int) (z5 : Int) : Option R :=
  bif decide (z5 < z3) then (bif decide ((0 : Int) ≤ IntKind.i64.wrap (z2 + z5)) && decide (IntKind.i64.wrap (z2 + z5) < ((z1.size : Nat) : Int)) then (let y1 : Int := (((z1.data.getD ((IntKind.i64.wrap (z2 + z5)).toNat) 0).toNat : Nat) : Int)
  let y2 : Int := IntKind.i64.wrap ((IntKind.i64.wrap (z4 * 256)) + (IntKind.i64.wrap y1))
  c3 z1 z2 z3 y2 (IntKind.i64.wrap (z5 + 1))) else none) else (k z4)
noncomputable def midrangebase_Big.e {R : Type} (n : Nat) (c3 : ByteArray → Int → Int → Int → Int → Option R) (k : Int → Option R) (a0 : ByteArray) (a1 : Int) (a2 : Int) : Option R :=
  c3 a0 a1 a2 0 0
noncomputable def midrangebase_Big.C {R : Type} (n : Nat) (f : FuncId) (xs : List AV) : (AV → Option R) → Option R :=
  fun _ => none
theorem midrangebase_Big.tells {R : Type} (n : Nat) : Tells (R := R) Try.prog (midrangebase_Big.C n) := fun _ xs => Tells1.none
noncomputable def midrangebase_Big.cut (r : Nat) : Option Keep := match r with | 3 => Option.some ⟨[0, 1, 2, 7, 8], []⟩ | _ => none
noncomputable def midrangebase_Big.t3 : List Item := (todoOf 3 1000 [.code (Try.f50.body.getD .skip)]).getD []
noncomputable def midrangebase_Big.s3 (z1 : ByteArray) (z2 : Int) (z3 : Int) (z4 : Int) (z5 : Int) : St := ⟨[vs z1, vi z2, vi z3, .undef, .undef, .undef, .undef, vi z4, vi z5, .undef, .undef, .undef, .undef, .undef, .undef, .undef, .undef, .undef, .undef, .undef, .undef, .undef, .undef, .undef], Mem.ofList [], 0⟩
theorem midrangebase_Big.e_eq {R : Type} (n : Nat) (rec : List Item → St → Option R) (K : AV → Option R) (a0 : ByteArray) (a1 : Int) (a2 : Int) :
    goK G (midrangebase_Big.C n) midrangebase_Big.cut (fun S => finK G Try.f50.resultTypes.toList Try.f50.results.toList S K) rec 1000 [.code (Try.f50.body.getD .skip)] (Ev.start Try.f50 [vs a0, vi a1, vi a2]) = midrangebase_Big.e n (fun z1 z2 z3 z4 z5 => rec midrangebase_Big.t3 (midrangebase_Big.s3 z1 z2 z3 z4 z5)) (fun p => K (vi p)) a0 a1 a2 := by kernel_rfl
theorem midrangebase_Big.r3_eq {R : Type} (n : Nat) (rec : List Item → St → Option R) (K : AV → Option R) (z1 : ByteArray) (z2 : Int) (z3 : Int) (z4 : Int) (z5 : Int) :
    atK G (midrangebase_Big.C n) midrangebase_Big.cut (fun S => finK G Try.f50.resultTypes.toList Try.f50.results.toList S K) rec midrangebase_Big.t3 (midrangebase_Big.s3 z1 z2 z3 z4 z5) = midrangebase_Big.r3 n (fun z1 z2 z3 z4 z5 => rec midrangebase_Big.t3 (midrangebase_Big.s3 z1 z2 z3 z4 z5)) (fun p => K (vi p)) z1 z2 z3 z4 z5 := by kernel_rfl
noncomputable def midrangebase_Big.l (n : Nat) : Nat → (ByteArray → Int → Int → Int → Int → Option (Int))
  | 0 => (fun _ _ _ _ _ => none)
  | m + 1 => midrangebase_Big.r3 n (midrangebase_Big.l n m) Option.some
noncomputable def midrangebase_Big.F (n : Nat) (a0 : ByteArray) (a1 : Int) (a2 : Int) : Option (Int) := midrangebase_Big.e n (midrangebase_Big.l n n) Option.some a0 a1 a2
noncomputable def midrangebase_Big.dec (x : AV) : Option (Int) := match x with | .v (.int .i64 p0) => Option.some p0 | _ => none
theorem midrangebase_Big.dec_inv {p : Int} (y : AV) (h : midrangebase_Big.dec y = some p) : y = vi p := by
  unfold midrangebase_Big.dec at h
  split at h
  · cases h; rfl
  · cases h
theorem midrangebase_Big.l_eq (n m : Nat) : (∀ (z1 : ByteArray) (z2 : Int) (z3 : Int) (z4 : Int) (z5 : Int), runK G (midrangebase_Big.C n) midrangebase_Big.cut (fun S => finK G Try.f50.resultTypes.toList Try.f50.results.toList S midrangebase_Big.dec) m midrangebase_Big.t3 (midrangebase_Big.s3 z1 z2 z3 z4 z5) = (midrangebase_Big.l n m) z1 z2 z3 z4 z5) := by
  induction m with
  | zero => exact fun z1 z2 z3 z4 z5 => rfl
  | succ m ih =>
    have h3 := ih
    have e3 : (fun (z1 : ByteArray) (z2 : Int) (z3 : Int) (z4 : Int) (z5 : Int) => runK G (midrangebase_Big.C n) midrangebase_Big.cut (fun S => finK G Try.f50.resultTypes.toList Try.f50.results.toList S midrangebase_Big.dec) m midrangebase_Big.t3 (midrangebase_Big.s3 z1 z2 z3 z4 z5)) = (midrangebase_Big.l n m) := by funext z1 z2 z3 z4 z5; exact h3 z1 z2 z3 z4 z5
    have q3 : ∀ (z1 : ByteArray) (z2 : Int) (z3 : Int) (z4 : Int) (z5 : Int), runK G (midrangebase_Big.C n) midrangebase_Big.cut (fun S => finK G Try.f50.resultTypes.toList Try.f50.results.toList S midrangebase_Big.dec) (m + 1) midrangebase_Big.t3 (midrangebase_Big.s3 z1 z2 z3 z4 z5) = (midrangebase_Big.l n (m + 1)) z1 z2 z3 z4 z5 := by
      intro z1 z2 z3 z4 z5
      rw [runK_succ]
      refine (midrangebase_Big.r3_eq n _ midrangebase_Big.dec z1 z2 z3 z4 z5).trans ?_
      rw [e3]
      rfl
    exact q3
theorem midrangebase_Big.hands (n : Nat) (a0 : ByteArray) (a1 : Int) (a2 : Int) {p : Int} (h : midrangebase_Big.F n a0 a1 a2 = some p) : HandsIn Try.prog 50 [vs a0, vi a1, vi a2] (vi p) := by
  refine hands_of cfg mixed (fun _ => rfl) (midrangebase_Big.tells n) (fn := Try.f50) Try.func50 (by kernel_rfl) (by kernel_rfl) (cut := midrangebase_Big.cut) (K := midrangebase_Big.dec) (r := p) (n := n) midrangebase_Big.dec_inv ?_
  rw [funK_getD (by kernel_rfl)]
  have h1 := midrangebase_Big.e_eq n (runK G (midrangebase_Big.C n) midrangebase_Big.cut (fun S => finK G Try.f50.resultTypes.toList Try.f50.results.toList S midrangebase_Big.dec) n) midrangebase_Big.dec a0 a1 a2
  have hl := midrangebase_Big.l_eq n n
  simp only [hl] at h1
  exact h1.trans h
noncomputable def midrangebase_Big.via {R : Type} (n : Nat) (xs : List AV) : (AV → Option R) → Option R := match xs with | [.v (.string a0), .v (.int .i64 a1), .v (.int .i64 a2)] => fun K => (midrangebase_Big.F n a0 a1 a2).bind fun p => K (vi p) | _ => fun _ => none
theorem midrangebase_Big.tells1 {R : Type} (n : Nat) (xs : List AV) : Tells1 (R := R) Try.prog 50 xs (midrangebase_Big.via n xs) := by
  unfold midrangebase_Big.via
  split
  · exact Tells1.of (fun p hp => (midrangebase_Big.hands n _ _ _ hp).hands)
  · exact Tells1.none
end Go.Proofs.Ytgmpnhfnkhohiaa.Ev

/- midrange/midrangeref03.In, out of its evaluation. Printed by the session's own program. -/
namespace Go.Proofs.Ytgmpnhfnkhohiaa.Ev
open Go Go.Proofs Go.Proofs.Ev
set_option linter.unusedVariables false
set_option maxRecDepth 100000
/-! midrange/midrangeref03.In: function 16 -/
noncomputable def midrangeref03_In.e {R : Type} (n : Nat)  (k : Int × Int × Int × Int × Int → Option R) (a0 : ByteArray) : Option R :=
  let y1 : Bool := ((a0.size : Nat) : Int) != 16
  bif y1 then (k (0, 0, 0, 0, 18)) else (bif decide ((1 : Int) < (a0.size : Nat)) then (let y2 : Int := (((a0.data.getD 1 0).toNat : Nat) : Int)
  bif y2 != 0 then (k (0, 0, 0, 0, 5)) else (bif decide ((0 : Int) < (a0.size : Nat)) then (let y3 : Int := (((a0.data.getD 0 0).toNat : Nat) : Int)
  (midrangebase_Big.F n a0 2 2).bind fun p4 =>
  (midrangebase_Big.F n a0 4 6).bind fun p5 =>
  (midrangebase_Big.F n a0 10 6).bind fun p6 =>
  (midrangeref03_PointerErr.F n (IntKind.i64.wrap y3) p5 p6 p4).bind fun p7 =>
  bif p7 != 0 then (k (0, 0, 0, 0, p7)) else (k (IntKind.i64.wrap y3, p5, p6, p4, 0))) else none)) else none)
noncomputable def midrangeref03_In.C {R : Type} (n : Nat) (f : FuncId) (xs : List AV) : (AV → Option R) → Option R :=
  bif Nat.beq f 11 then midrangeref03_PointerErr.via n xs else bif Nat.beq f 50 then midrangebase_Big.via n xs else fun _ => none
theorem midrangeref03_In.tells {R : Type} (n : Nat) : Tells (R := R) Try.prog (midrangeref03_In.C n) := fun _ xs => tells_at (midrangeref03_PointerErr.tells1 n xs) (tells_at (midrangebase_Big.tells1 n xs) (Tells1.none))
noncomputable def midrangeref03_In.cut (r : Nat) : Option Keep := match r with  | _ => none
theorem midrangeref03_In.e_eq {R : Type} (n : Nat) (rec : List Item → St → Option R) (K : AV → Option R) (a0 : ByteArray) :
    goK G (midrangeref03_In.C n) midrangeref03_In.cut (fun S => finK G Try.f16.resultTypes.toList Try.f16.results.toList S K) rec 1000 [.code (Try.f16.body.getD .skip)] (Ev.start Try.f16 [vs a0]) = midrangeref03_In.e n  (fun p => K (.tup [.agg [vi p.1, vi p.2.1, vi p.2.2.1, vi p.2.2.2.1], vi p.2.2.2.2])) a0 := by kernel_rfl
noncomputable def midrangeref03_In.F (n : Nat) (a0 : ByteArray) : Option (Int × Int × Int × Int × Int) := midrangeref03_In.e n  Option.some a0
noncomputable def midrangeref03_In.dec (x : AV) : Option (Int × Int × Int × Int × Int) := match x with | .tup [.agg [.v (.int .i64 p0), .v (.int .i64 p1), .v (.int .i64 p2), .v (.int .i64 p3)], .v (.int .i64 p4)] => Option.some (p0, p1, p2, p3, p4) | _ => none
theorem midrangeref03_In.dec_inv {p : Int × Int × Int × Int × Int} (y : AV) (h : midrangeref03_In.dec y = some p) : y = .tup [.agg [vi p.1, vi p.2.1, vi p.2.2.1, vi p.2.2.2.1], vi p.2.2.2.2] := by
  unfold midrangeref03_In.dec at h
  split at h
  · cases h; rfl
  · cases h
theorem midrangeref03_In.hands (n : Nat) (a0 : ByteArray) {p : Int × Int × Int × Int × Int} (h : midrangeref03_In.F n a0 = some p) : HandsIn Try.prog 16 [vs a0] (.tup [.agg [vi p.1, vi p.2.1, vi p.2.2.1, vi p.2.2.2.1], vi p.2.2.2.2]) := by
  refine hands_of cfg mixed (fun _ => rfl) (midrangeref03_In.tells n) (fn := Try.f16) Try.func16 (by kernel_rfl) (by kernel_rfl) (cut := midrangeref03_In.cut) (K := midrangeref03_In.dec) (r := p) (n := n) midrangeref03_In.dec_inv ?_
  rw [funK_getD (by kernel_rfl)]
  have h1 := midrangeref03_In.e_eq n (runK G (midrangeref03_In.C n) midrangeref03_In.cut (fun S => finK G Try.f16.resultTypes.toList Try.f16.results.toList S midrangeref03_In.dec) n) midrangeref03_In.dec a0
  exact h1.trans h
noncomputable def midrangeref03_In.via {R : Type} (n : Nat) (xs : List AV) : (AV → Option R) → Option R := match xs with | [.v (.string a0)] => fun K => (midrangeref03_In.F n a0).bind fun p => K (.tup [.agg [vi p.1, vi p.2.1, vi p.2.2.1, vi p.2.2.2.1], vi p.2.2.2.2]) | _ => fun _ => none
theorem midrangeref03_In.tells1 {R : Type} (n : Nat) (xs : List AV) : Tells1 (R := R) Try.prog 16 xs (midrangeref03_In.via n xs) := by
  unfold midrangeref03_In.via
  split
  · exact Tells1.of (fun p hp => (midrangeref03_In.hands n _ hp).hands)
  · exact Tells1.none
end Go.Proofs.Ytgmpnhfnkhohiaa.Ev

/- midrange/midrangelaw03.TaggedPointers, out of its evaluation. Printed by the session's own program. -/
namespace Go.Proofs.Ytgmpnhfnkhohiaa.Ev
open Go Go.Proofs Go.Proofs.Ev
set_option linter.unusedVariables false
set_option maxRecDepth 100000
/-! midrange/midrangelaw03.TaggedPointers: function 3 -/
noncomputable def midrangelaw03_TaggedPointers.r8 {R : Type} (n : Nat) (c8 : Unit → Option R) (c9 : ByteArray → Option R) (k : Bool → Option R) (_ : Unit) : Option R :=
  k false
noncomputable def midrangelaw03_TaggedPointers.r9 {R : Type} (n : Nat) (c8 : Unit → Option R) (c9 : ByteArray → Option R) (k : Bool → Option R) (z1 : ByteArray) : Option R :=
  (tagged_PointerIn.F n z1).bind fun p9 =>
  (midrangeref03_In.F n z1).bind fun p10 =>
  bif p9.2.2.2.2 == p10.2.2.2.2 then (let y11 : Bool := ((p9.1 == p10.1) && ((p9.2.1 == p10.2.1) && ((p9.2.2.1 == p10.2.2.1) && ((p9.2.2.2.1 == p10.2.2.2.1) && true))))
  k y11) else (k false)
noncomputable def midrangelaw03_TaggedPointers.e {R : Type} (n : Nat) (c8 : Unit → Option R) (c9 : ByteArray → Option R) (k : Bool → Option R) (a0 : Int) (a1 : Int) (a2 : Int) (a3 : Int) (a4 : ByteArray) : Option R :=
  (midrangelaw03_awake.F n ).bind fun p1 =>
  bif !p1 then (k false) else (let y2 : Bool := decide (((a4.size : Nat) : Int) > 40)
  bif y2 then (k true) else ((midrangeref03_PointerErr.F n a0 a1 a2 a3).bind fun p3 =>
  (tagged_PointerBytes.F n a0 a1 a2 a3).bind fun p4 =>
  (tagged_CheckPointer.F n a0 a1 a2 a3).bind fun p5 =>
  bif p5 != p3 then (c8 ()) else (bif p4.2 != p3 then (c8 ()) else (bif p3 == 0 then ((midrangeref03_Bytes.F n a0 a1 a2 a3).bind fun p6 =>
  bif !(p4.1.toList == p6.toList) then (c8 ()) else (bif p3 != 0 then (let y7 : Bool := !(p4.1.toList == (⟨#[]⟩ : ByteArray).toList)
  bif y7 then (c8 ()) else (c9 a4)) else (c9 a4))) else (bif p3 != 0 then (let y8 : Bool := !(p4.1.toList == (⟨#[]⟩ : ByteArray).toList)
  bif y8 then (c8 ()) else (c9 a4)) else (c9 a4))))))
noncomputable def midrangelaw03_TaggedPointers.C {R : Type} (n : Nat) (f : FuncId) (xs : List AV) : (AV → Option R) → Option R :=
  bif Nat.beq f 10 then midrangelaw03_awake.via n xs else bif Nat.beq f 11 then midrangeref03_PointerErr.via n xs else bif Nat.beq f 12 then tagged_PointerBytes.via n xs else bif Nat.beq f 13 then tagged_CheckPointer.via n xs else bif Nat.beq f 14 then midrangeref03_Bytes.via n xs else bif Nat.beq f 15 then tagged_PointerIn.via n xs else bif Nat.beq f 16 then midrangeref03_In.via n xs else fun _ => none
theorem midrangelaw03_TaggedPointers.tells {R : Type} (n : Nat) : Tells (R := R) Try.prog (midrangelaw03_TaggedPointers.C n) := fun _ xs => tells_at (midrangelaw03_awake.tells1 n xs) (tells_at (midrangeref03_PointerErr.tells1 n xs) (tells_at (tagged_PointerBytes.tells1 n xs) (tells_at (tagged_CheckPointer.tells1 n xs) (tells_at (midrangeref03_Bytes.tells1 n xs) (tells_at (tagged_PointerIn.tells1 n xs) (tells_at (midrangeref03_In.tells1 n xs) (Tells1.none)))))))
noncomputable def midrangelaw03_TaggedPointers.cut (r : Nat) : Option Keep := match r with | 8 => Option.some ⟨[], []⟩ | 9 => Option.some ⟨[1], []⟩ | _ => none
noncomputable def midrangelaw03_TaggedPointers.t8 : List Item := (todoOf 8 1000 [.code (Try.f3.body.getD .skip)]).getD []
noncomputable def midrangelaw03_TaggedPointers.s8 (_ : Unit) : St := ⟨[.undef, .undef, .undef, .undef, .undef, .undef, .undef, .undef, .undef, .undef, .undef, .undef, .undef, .undef, .undef, .undef, .undef, .undef, .undef, .undef, .undef, .undef, .undef, .undef, .undef, .undef, .undef, .undef, .undef, .undef, .undef, .undef, .undef, .undef, .undef, .undef, .undef, .undef, .undef, .undef, .undef, .undef, .undef, .undef, .undef, .undef, .undef, .undef, .undef, .undef, .undef, .undef, .undef, .undef, .undef, .undef, .undef, .undef, .undef, .undef, .undef, .undef, .undef, .undef, .undef, .undef, .undef, .undef, .undef], Mem.ofList [], 0⟩
noncomputable def midrangelaw03_TaggedPointers.t9 : List Item := (todoOf 9 1000 [.code (Try.f3.body.getD .skip)]).getD []
noncomputable def midrangelaw03_TaggedPointers.s9 (z1 : ByteArray) : St := ⟨[.undef, vs z1, .undef, .undef, .undef, .undef, .undef, .undef, .undef, .undef, .undef, .undef, .undef, .undef, .undef, .undef, .undef, .undef, .undef, .undef, .undef, .undef, .undef, .undef, .undef, .undef, .undef, .undef, .undef, .undef, .undef, .undef, .undef, .undef, .undef, .undef, .undef, .undef, .undef, .undef, .undef, .undef, .undef, .undef, .undef, .undef, .undef, .undef, .undef, .undef, .undef, .undef, .undef, .undef, .undef, .undef, .undef, .undef, .undef, .undef, .undef, .undef, .undef, .undef, .undef, .undef, .undef, .undef, .undef], Mem.ofList [], 0⟩
theorem midrangelaw03_TaggedPointers.e_eq {R : Type} (n : Nat) (rec : List Item → St → Option R) (K : AV → Option R) (a0 : Int) (a1 : Int) (a2 : Int) (a3 : Int) (a4 : ByteArray) :
    goK G (midrangelaw03_TaggedPointers.C n) midrangelaw03_TaggedPointers.cut (fun S => finK G Try.f3.resultTypes.toList Try.f3.results.toList S K) rec 1000 [.code (Try.f3.body.getD .skip)] (Ev.start Try.f3 [AV.agg [vi a0, vi a1, vi a2, vi a3], vs a4]) = midrangelaw03_TaggedPointers.e n (fun _ => rec midrangelaw03_TaggedPointers.t8 (midrangelaw03_TaggedPointers.s8 ())) (fun z1 => rec midrangelaw03_TaggedPointers.t9 (midrangelaw03_TaggedPointers.s9 z1)) (fun p => K (vb p)) a0 a1 a2 a3 a4 := by kernel_rfl
theorem midrangelaw03_TaggedPointers.r8_eq {R : Type} (n : Nat) (rec : List Item → St → Option R) (K : AV → Option R) (_ : Unit) :
    atK G (midrangelaw03_TaggedPointers.C n) midrangelaw03_TaggedPointers.cut (fun S => finK G Try.f3.resultTypes.toList Try.f3.results.toList S K) rec midrangelaw03_TaggedPointers.t8 (midrangelaw03_TaggedPointers.s8 ()) = midrangelaw03_TaggedPointers.r8 n (fun _ => rec midrangelaw03_TaggedPointers.t8 (midrangelaw03_TaggedPointers.s8 ())) (fun z1 => rec midrangelaw03_TaggedPointers.t9 (midrangelaw03_TaggedPointers.s9 z1)) (fun p => K (vb p)) () := by kernel_rfl
theorem midrangelaw03_TaggedPointers.r9_eq {R : Type} (n : Nat) (rec : List Item → St → Option R) (K : AV → Option R) (z1 : ByteArray) :
    atK G (midrangelaw03_TaggedPointers.C n) midrangelaw03_TaggedPointers.cut (fun S => finK G Try.f3.resultTypes.toList Try.f3.results.toList S K) rec midrangelaw03_TaggedPointers.t9 (midrangelaw03_TaggedPointers.s9 z1) = midrangelaw03_TaggedPointers.r9 n (fun _ => rec midrangelaw03_TaggedPointers.t8 (midrangelaw03_TaggedPointers.s8 ())) (fun z1 => rec midrangelaw03_TaggedPointers.t9 (midrangelaw03_TaggedPointers.s9 z1)) (fun p => K (vb p)) z1 := by kernel_rfl
noncomputable def midrangelaw03_TaggedPointers.l (n : Nat) : Nat → (Unit → Option (Bool)) × (ByteArray → Option (Bool))
  | 0 => ((fun _ => none), (fun _ => none))
  | m + 1 => (midrangelaw03_TaggedPointers.r8 n ((midrangelaw03_TaggedPointers.l n m).1) ((midrangelaw03_TaggedPointers.l n m).2) Option.some, midrangelaw03_TaggedPointers.r9 n ((midrangelaw03_TaggedPointers.l n m).1) ((midrangelaw03_TaggedPointers.l n m).2) Option.some)
noncomputable def midrangelaw03_TaggedPointers.F (n : Nat) (a0 : Int) (a1 : Int) (a2 : Int) (a3 : Int) (a4 : ByteArray) : Option (Bool) := midrangelaw03_TaggedPointers.e n ((midrangelaw03_TaggedPointers.l n n).1) ((midrangelaw03_TaggedPointers.l n n).2) Option.some a0 a1 a2 a3 a4
noncomputable def midrangelaw03_TaggedPointers.dec (x : AV) : Option (Bool) := match x with | .v (.bool p0) => Option.some p0 | _ => none
theorem midrangelaw03_TaggedPointers.dec_inv {p : Bool} (y : AV) (h : midrangelaw03_TaggedPointers.dec y = some p) : y = vb p := by
  unfold midrangelaw03_TaggedPointers.dec at h
  split at h
  · cases h; rfl
  · cases h
theorem midrangelaw03_TaggedPointers.l_eq (n m : Nat) : (∀ z : Unit, runK G (midrangelaw03_TaggedPointers.C n) midrangelaw03_TaggedPointers.cut (fun S => finK G Try.f3.resultTypes.toList Try.f3.results.toList S midrangelaw03_TaggedPointers.dec) m midrangelaw03_TaggedPointers.t8 (midrangelaw03_TaggedPointers.s8 z) = ((midrangelaw03_TaggedPointers.l n m).1) z) ∧ (∀ (z1 : ByteArray), runK G (midrangelaw03_TaggedPointers.C n) midrangelaw03_TaggedPointers.cut (fun S => finK G Try.f3.resultTypes.toList Try.f3.results.toList S midrangelaw03_TaggedPointers.dec) m midrangelaw03_TaggedPointers.t9 (midrangelaw03_TaggedPointers.s9 z1) = ((midrangelaw03_TaggedPointers.l n m).2) z1) := by
  induction m with
  | zero => exact ⟨fun _ => rfl, fun z1 => rfl⟩
  | succ m ih =>
    obtain ⟨h8, h9⟩ := ih
    have e8 : (fun (_ : Unit) => runK G (midrangelaw03_TaggedPointers.C n) midrangelaw03_TaggedPointers.cut (fun S => finK G Try.f3.resultTypes.toList Try.f3.results.toList S midrangelaw03_TaggedPointers.dec) m midrangelaw03_TaggedPointers.t8 (midrangelaw03_TaggedPointers.s8 ())) = (midrangelaw03_TaggedPointers.l n m).1 := by funext z; exact h8 z
    have e9 : (fun (z1 : ByteArray) => runK G (midrangelaw03_TaggedPointers.C n) midrangelaw03_TaggedPointers.cut (fun S => finK G Try.f3.resultTypes.toList Try.f3.results.toList S midrangelaw03_TaggedPointers.dec) m midrangelaw03_TaggedPointers.t9 (midrangelaw03_TaggedPointers.s9 z1)) = (midrangelaw03_TaggedPointers.l n m).2 := by funext z1; exact h9 z1
    have q8 : ∀ z : Unit, runK G (midrangelaw03_TaggedPointers.C n) midrangelaw03_TaggedPointers.cut (fun S => finK G Try.f3.resultTypes.toList Try.f3.results.toList S midrangelaw03_TaggedPointers.dec) (m + 1) midrangelaw03_TaggedPointers.t8 (midrangelaw03_TaggedPointers.s8 z) = ((midrangelaw03_TaggedPointers.l n (m + 1)).1) z := by
      intro z
      rw [runK_succ]
      refine (midrangelaw03_TaggedPointers.r8_eq n _ midrangelaw03_TaggedPointers.dec ()).trans ?_
      rw [e8, e9]
      rfl
    have q9 : ∀ (z1 : ByteArray), runK G (midrangelaw03_TaggedPointers.C n) midrangelaw03_TaggedPointers.cut (fun S => finK G Try.f3.resultTypes.toList Try.f3.results.toList S midrangelaw03_TaggedPointers.dec) (m + 1) midrangelaw03_TaggedPointers.t9 (midrangelaw03_TaggedPointers.s9 z1) = ((midrangelaw03_TaggedPointers.l n (m + 1)).2) z1 := by
      intro z1
      rw [runK_succ]
      refine (midrangelaw03_TaggedPointers.r9_eq n _ midrangelaw03_TaggedPointers.dec z1).trans ?_
      rw [e8, e9]
      rfl
    exact ⟨q8, q9⟩
theorem midrangelaw03_TaggedPointers.hands (n : Nat) (a0 : Int) (a1 : Int) (a2 : Int) (a3 : Int) (a4 : ByteArray) {p : Bool} (h : midrangelaw03_TaggedPointers.F n a0 a1 a2 a3 a4 = some p) : HandsIn Try.prog 3 [AV.agg [vi a0, vi a1, vi a2, vi a3], vs a4] (vb p) := by
  refine hands_of cfg mixed (fun _ => rfl) (midrangelaw03_TaggedPointers.tells n) (fn := Try.f3) Try.func3 (by kernel_rfl) (by kernel_rfl) (cut := midrangelaw03_TaggedPointers.cut) (K := midrangelaw03_TaggedPointers.dec) (r := p) (n := n) midrangelaw03_TaggedPointers.dec_inv ?_
  rw [funK_getD (by kernel_rfl)]
  have h1 := midrangelaw03_TaggedPointers.e_eq n (runK G (midrangelaw03_TaggedPointers.C n) midrangelaw03_TaggedPointers.cut (fun S => finK G Try.f3.resultTypes.toList Try.f3.results.toList S midrangelaw03_TaggedPointers.dec) n) midrangelaw03_TaggedPointers.dec a0 a1 a2 a3 a4
  have hl := midrangelaw03_TaggedPointers.l_eq n n
  simp only [hl.1, hl.2] at h1
  exact h1.trans h
noncomputable def midrangelaw03_TaggedPointers.via {R : Type} (n : Nat) (xs : List AV) : (AV → Option R) → Option R := match xs with | [.agg [.v (.int .i64 a0), .v (.int .i64 a1), .v (.int .i64 a2), .v (.int .i64 a3)], .v (.string a4)] => fun K => (midrangelaw03_TaggedPointers.F n a0 a1 a2 a3 a4).bind fun p => K (vb p) | _ => fun _ => none
theorem midrangelaw03_TaggedPointers.tells1 {R : Type} (n : Nat) (xs : List AV) : Tells1 (R := R) Try.prog 3 xs (midrangelaw03_TaggedPointers.via n xs) := by
  unfold midrangelaw03_TaggedPointers.via
  split
  · exact Tells1.of (fun p hp => (midrangelaw03_TaggedPointers.hands n _ _ _ _ _ hp).hands)
  · exact Tells1.none
end Go.Proofs.Ytgmpnhfnkhohiaa.Ev

/- Plain words on numbers, bytes, rows; what the helpers of chapter 3 compute. -/
namespace Go.Proofs.Ytgmpnhfnkhohiaa.Ev
open Go Go.Proofs Go.Proofs.Ev
set_option linter.unusedVariables false

theorem w64 {x : Int} (h1 : -9223372036854775808 ≤ x) (h2 : x ≤ 9223372036854775807) : IntKind.i64.wrap x = x := by rw [IntKind.wrap_i64]; omega
theorem w8 (x : Int) : IntKind.u8.wrap x = x % 256 := by rw [IntKind.wrap_u8]
theorem cond_t {α : Type} {p : Prop} [Decidable p] (h : p) (x y : α) : (bif decide p then x else y) = x := by simp [h]
theorem cond_f {α : Type} {p : Prop} [Decidable p] (h : ¬ p) (x y : α) : (bif decide p then x else y) = y := by simp [h]

/-- The lowest 's' bytes of a number, the highest one first. -/
def be (s : Nat) (x : Int) : List UInt8 := (List.range s).map fun j => UInt8.ofNat (x / 256 ^ (s - 1 - j) % 256).toNat
def brow (a : Int) (s i : Nat) : List AV := (List.range s).map fun j => if s - 1 - j < i then vu (a / 256 ^ (s - 1 - j) % 256) else vu 0

theorem strOf_map {α : Type} (f : α → Int) : ∀ l : List α, strOf (l.map fun j => vu (f j)) = some (l.map fun j => UInt8.ofNat (f j).toNat)
  | [] => rfl
  | x :: l => by simp only [List.map_cons, strOf, strOf_map f l, Option.map_some]

theorem brow_full (a : Int) (s : Nat) : brow a s s = (List.range s).map fun j => vu (a / 256 ^ (s - 1 - j) % 256) := by
  unfold brow
  refine List.map_congr_left fun j hj => ?_
  have := List.mem_range.1 hj
  rw [if_pos (by omega)]
theorem strOf_brow (a : Int) (s : Nat) : strOf (brow a s s) = some (be s a) := by rw [brow_full, strOf_map]; rfl
theorem brow_length (a : Int) (s i : Nat) : (brow a s i).length = s := by simp [brow]
theorem be_length (s : Nat) (a : Int) : (be s a).length = s := by simp [be]
theorem brow_set {a : Int} {s i : Nat} (hi : i < s) : (brow a s i).set (s - 1 - i) (vu (a / 256 ^ i % 256)) = brow a s (i + 1) := by
  apply List.ext_getElem
  · simp [brow]
  · intro j h1 h2
    simp only [List.length_set, brow_length] at h1
    rw [List.getElem_set]
    simp only [brow, List.getElem_map, List.getElem_range]
    by_cases hj : s - 1 - i = j
    · rw [if_pos hj, if_pos (by omega), show s - 1 - j = i by omega]
    · rw [if_neg hj]
      by_cases h3 : s - 1 - j < i
      · rw [if_pos h3, if_pos (by omega)]
      · rw [if_neg h3, if_neg (by omega)]
theorem brow_zero (a : Int) (s : Nat) : brow a s 0 = List.replicate s (vu 0) := by
  apply List.ext_getElem
  · simp [brow]
  · intro j h1 h2
    simp [brow]

theorem two_pow8 (i : Nat) : (2 : Int) ^ (8 * i) = 256 ^ i := by rw [Int.pow_mul]; rfl

theorem big_l (n : Nat) (a : Int) (s : Nat) (hs : s ≤ 8) : ∀ (d i m : Nat), i + d = s → d < m → tagged_big.l n m a s s i (brow a s i) = some (brow a s s)
  | _, _, 0, _, h => absurd h (by omega)
  | 0, i, m + 1, h, _ => by
    have : i = s := by omega
    subst this
    unfold tagged_big.l tagged_big.r3
    rw [cond_f (by omega)]
  | d + 1, i, m + 1, h, hm => by
    unfold tagged_big.l tagged_big.r3
    rw [cond_t (by omega)]
    simp only
    have e1 : IntKind.i64.wrap ((s : Int) - 1) = ((s - 1 : Nat) : Int) := by rw [w64] <;> omega
    have e2 : IntKind.i64.wrap (((s - 1 : Nat) : Int) - i) = ((s - 1 - i : Nat) : Int) := by rw [w64] <;> omega
    have e3 : IntKind.i64.wrap (8 * (i : Int)) = ((8 * i : Nat) : Int) := by rw [w64] <;> omega
    have e4 : IntKind.i64.wrap ((i : Int) + 1) = ((i + 1 : Nat) : Int) := by rw [w64] <;> omega
    rw [e1, e2, e3, e4, cond_t (by omega)]
    have e5 : min ((8 * i : Nat) : Int).toNat 64 = 8 * i := by omega
    rw [e5, two_pow8, brow_length, Int.toNat_natCast]
    have e6 : (decide ((0 : Int) ≤ ((s - 1 - i : Nat) : Int)) && decide (((s - 1 - i : Nat) : Int) < (s : Int))) = true := by
      rw [Bool.and_eq_true, decide_eq_true_eq, decide_eq_true_eq]; omega
    rw [e6, cond_true, w8, Int.fdiv_eq_ediv_of_nonneg _ (by exact Int.le_of_lt (Int.pow_pos (by omega))), brow_set (by omega)]
    exact big_l n a s hs d (i + 1) m (by omega) (by omega)

theorem big_eq {n : Nat} (a : Int) (s : Nat) (hs : s ≤ 8) (hn : s < n) : tagged_big.F n a s = some (brow a s s) := by
  unfold tagged_big.F tagged_big.e
  have e : ((decide ((0 : Int) ≤ (s : Int)) && decide ((s : Int) ≤ (most : Int))) && decide ((s : Int) = s) && true && true) = true := by
    have : most = 1000000000 := rfl
    simp [this]
    omega
  rw [e, cond_true]
  simp only [List.length_replicate, Int.toNat_natCast]
  have := big_l n a s hs s 0 n (by omega) hn
  rw [brow_zero] at this
  exact this

theorem bigBytes_l (n : Nat) (a : Int) (ha : 0 ≤ a) (ha2 : a ≤ 9223372036854775807) (s : Nat) (hs : s ≤ 1000) : ∀ (d i m : Nat), i + d = s → d < m → midrangebase_BigBytes.l n m (a / 256 ^ i) s i (brow a s i) = some ⟨(be s a).toArray⟩
  | _, _, 0, _, h => absurd h (by omega)
  | 0, i, m + 1, h, _ => by
    have : i = s := by omega
    subst this
    unfold midrangebase_BigBytes.l midrangebase_BigBytes.r3
    rw [cond_f (by omega), strOf_brow]
    rfl
  | d + 1, i, m + 1, h, hm => by
    unfold midrangebase_BigBytes.l midrangebase_BigBytes.r3
    rw [cond_t (by omega)]
    simp only
    have hpos : (0 : Int) < 256 ^ i := Int.pow_pos (by omega)
    have hq : 0 ≤ a / 256 ^ i := Int.ediv_nonneg ha (Int.le_of_lt hpos)
    have hq2 : a / 256 ^ i ≤ a := Int.ediv_le_self _ ha
    have e1 : IntKind.i64.wrap ((s : Int) - 1) = ((s - 1 : Nat) : Int) := by rw [w64] <;> omega
    have e2 : IntKind.i64.wrap (((s - 1 : Nat) : Int) - i) = ((s - 1 - i : Nat) : Int) := by rw [w64] <;> omega
    have e4 : IntKind.i64.wrap ((i : Int) + 1) = ((i + 1 : Nat) : Int) := by rw [w64] <;> omega
    have e6 : (decide ((0 : Int) ≤ ((s - 1 - i : Nat) : Int)) && decide (((s - 1 - i : Nat) : Int) < (s : Int))) = true := by
      rw [Bool.and_eq_true, decide_eq_true_eq, decide_eq_true_eq]; omega
    have e7 : Int.tmod (a / 256 ^ i) 256 = a / 256 ^ i % 256 := Int.tmod_eq_emod_of_nonneg hq
    have e8 : IntKind.i64.wrap (Int.tdiv (a / 256 ^ i) 256) = a / 256 ^ (i + 1) := by
      rw [Int.tdiv_eq_ediv_of_nonneg hq, Int.ediv_ediv_of_nonneg (Int.le_of_lt hpos), ← Int.pow_succ]
      have h1 : 0 ≤ a / 256 ^ (i + 1) := Int.ediv_nonneg ha (Int.le_of_lt (Int.pow_pos (by omega)))
      have h2 : a / 256 ^ (i + 1) ≤ a := Int.ediv_le_self _ ha
      show IntKind.i64.wrap (a / 256 ^ (i + 1)) = _
      exact w64 (by omega) (by omega)
    rw [e1, e2, e4, brow_length, Int.toNat_natCast, e6, cond_true, w8, e7, e8, show a / 256 ^ i % 256 % 256 = a / 256 ^ i % 256 by omega, brow_set (by omega)]
    exact bigBytes_l n a ha ha2 s hs d (i + 1) m (by omega) (by omega)

theorem bigBytes_eq {n : Nat} {a : Int} (ha : 0 ≤ a) (ha2 : a ≤ 9223372036854775807) (s : Nat) (hs : s ≤ 1000) (hn : s < n) : midrangebase_BigBytes.F n a s = some ⟨(be s a).toArray⟩ := by
  unfold midrangebase_BigBytes.F midrangebase_BigBytes.e
  have e : ((decide ((0 : Int) ≤ (s : Int)) && decide ((s : Int) ≤ (most : Int))) && decide ((s : Int) = s) && true && true) = true := by
    have : most = 1000000000 := rfl
    simp [this]
    omega
  rw [e, cond_true]
  simp only [Int.toNat_natCast]
  have := bigBytes_l n a ha ha2 s hs s 0 n (by omega) hn
  rw [brow_zero, Int.pow_zero, Int.ediv_one] at this
  exact this

theorem flatten_take {α : Type} {xs : List (List α)} {i : Nat} (hi : i < xs.length) : (xs.take i).flatten ++ xs[i] = (xs.take (i + 1)).flatten := by
  rw [List.take_succ_eq_append_getElem hi, List.flatten_append, List.flatten_singleton]
/-- slices.Concat of rows of bytes. -/
theorem concat_l2 (n : Nat) (xs : List (List AV)) (ht : xs.flatten.length ≤ most) (hl : xs.length ≤ 1000000) : ∀ (d i m : Nat), i + d = xs.length → d < m →
    (slices_Concat_byte_byte.l n m).2 (xs.map (AV.sl true 1)) xs.length i (xs.take i).flatten = some xs.flatten
  | _, _, 0, _, h => absurd h (by omega)
  | 0, i, m + 1, h, _ => by
    have : i = xs.length := by omega
    subst this
    simp only [slices_Concat_byte_byte.l, slices_Concat_byte_byte.r11]
    rw [cond_f (by omega), List.take_length]
  | d + 1, i, m + 1, h, hm => by
    simp only [slices_Concat_byte_byte.l, slices_Concat_byte_byte.r11]
    have e4 : IntKind.i64.wrap ((i : Int) + 1) = ((i + 1 : Nat) : Int) := by rw [w64] <;> omega
    have e6 : (decide ((0 : Int) ≤ (i : Int)) && decide ((i : Int) < (((xs.map (AV.sl true 1)).length : Nat) : Int))) = true := by
      rw [Bool.and_eq_true, decide_eq_true_eq, decide_eq_true_eq, List.length_map]; omega
    have hi : i < xs.length := by omega
    have e7 : (xs.map (AV.sl true 1)).getD i .undef = AV.sl true 1 xs[i] := by simp [List.getD_eq_getElem?_getD, hi]
    have e8 := flatten_take hi
    have e9 : (xs.take (i + 1)).flatten.length ≤ xs.flatten.length := by
      have : xs.flatten = (xs.take (i + 1)).flatten ++ (xs.drop (i + 1)).flatten := by rw [← List.flatten_append, List.take_append_drop]
      rw [this, List.length_append]; omega
    rw [cond_t (by omega), e6, cond_true, Int.toNat_natCast, e7, e4]
    simp only [AV.cells, withCons, withSl, BEq.rfl, Bool.true_and, Nat.beq_refl, cond_true]
    rw [e8, cond_t (by rw [← List.length_append, e8]; omega)]
    exact concat_l2 n xs ht hl d (i + 1) m (by omega) (by omega)

theorem concat_l1 (n : Nat) (hn : 1000002 ≤ n) (xs : List (List AV)) (ht : xs.flatten.length ≤ most) (hl : xs.length ≤ 1000000) : ∀ (d i m : Nat), i + d = xs.length → d + xs.length + 2 < m →
    (slices_Concat_byte_byte.l n m).1 (xs.map (AV.sl true 1)) (((xs.take i).flatten.length : Nat) : Int) (xs.map (AV.sl true 1)) xs.length i = some xs.flatten
  | _, _, 0, _, h => absurd h (by omega)
  | 0, i, m + 1, h, hm => by
    have : i = xs.length := by omega
    subst this
    simp only [slices_Concat_byte_byte.l, slices_Concat_byte_byte.r3]
    have hmost : most = 1000000000 := rfl
    have e : (decide ((0 : Int) ≤ (((xs.take xs.length).flatten.length : Nat) : Int)) && decide ((((xs.take xs.length).flatten.length : Nat) : Int) ≤ (most : Int))) = true := by
      rw [Bool.and_eq_true, decide_eq_true_eq, decide_eq_true_eq, List.take_length]; omega
    rw [cond_f (by omega), slices_Grow_byte_byte.F, e]
    simp only [cond_true, Option.bind_some, List.length_map]
    exact concat_l2 n xs ht hl xs.length 0 m (by omega) (by omega)
  | d + 1, i, m + 1, h, hm => by
    simp only [slices_Concat_byte_byte.l, slices_Concat_byte_byte.r3]
    have e4 : IntKind.i64.wrap ((i : Int) + 1) = ((i + 1 : Nat) : Int) := by rw [w64] <;> omega
    have e6 : (decide ((0 : Int) ≤ (i : Int)) && decide ((i : Int) < (((xs.map (AV.sl true 1)).length : Nat) : Int))) = true := by
      rw [Bool.and_eq_true, decide_eq_true_eq, decide_eq_true_eq, List.length_map]; omega
    have hi : i < xs.length := by omega
    have e7 : (xs.map (AV.sl true 1)).getD i .undef = AV.sl true 1 xs[i] := by simp [List.getD_eq_getElem?_getD, hi]
    have e8 : (xs.take i).flatten.length + xs[i].length = (xs.take (i + 1)).flatten.length := by rw [← flatten_take hi, List.length_append]
    have e9 : (xs.take (i + 1)).flatten.length ≤ xs.flatten.length := by
      have : xs.flatten = (xs.take (i + 1)).flatten ++ (xs.drop (i + 1)).flatten := by rw [← List.flatten_append, List.take_append_drop]
      rw [this, List.length_append]; omega
    have hmost : most = 1000000000 := rfl
    have e10 : IntKind.i64.wrap ((((xs.take i).flatten.length : Nat) : Int) + ((xs[i].length : Nat) : Int)) = (((xs.take (i + 1)).flatten.length : Nat) : Int) := by
      rw [w64] <;> omega
    rw [cond_t (by omega), e6, cond_true, Int.toNat_natCast, e7, e4]
    simp only [AV.cells, withCons, withSl, BEq.rfl, Bool.true_and, Nat.beq_refl, cond_true]
    rw [e10, cond_f (by omega)]
    exact concat_l1 n hn xs ht hl d (i + 1) m (by omega) (by omega)

theorem concat_eq {n : Nat} (hn : 1000002 ≤ n) (xs : List (List AV)) (ht : xs.flatten.length ≤ most) (hl : xs.length ≤ 1000) : slices_Concat_byte_byte.F n (xs.map (AV.sl true 1)) = some xs.flatten := by
  unfold slices_Concat_byte_byte.F slices_Concat_byte_byte.e
  rw [List.length_map]
  exact concat_l1 n hn xs ht (by omega) xs.length 0 n (by omega) (by omega)

theorem within_eq (n : Nat) (a b c : Int) : tagged_within.F n a b c = some (decide (b ≤ a) && decide (a ≤ c)) := by
  unfold tagged_within.F tagged_within.e
  cases decide (b ≤ a) <;> rfl
theorem bwithin_eq (n : Nat) (a b c : Int) : midrangebase_Within.F n a b c = some (decide (b ≤ a) && decide (a ≤ c)) := by
  unfold midrangebase_Within.F midrangebase_Within.e
  cases decide (b ≤ a) <;> rfl
end Go.Proofs.Ytgmpnhfnkhohiaa.Ev

/- Pointers and their bytes: what chapter 3's program and its reference compute is the same. -/
namespace Go.Proofs.Ytgmpnhfnkhohiaa.Ev
open Go Go.Proofs Go.Proofs.Ev
set_option linter.unusedVariables false

def bytesOf (a0 a1 a2 a3 : Int) : List UInt8 := be 1 a0 ++ be 1 0 ++ be 2 a3 ++ be 6 a1 ++ be 6 a2
theorem bytesOf_length (a0 a1 a2 a3 : Int) : (bytesOf a0 a1 a2 a3).length = 16 := by simp [bytesOf, be_length]

theorem encoded_eq {n : Nat} (hn : 1000002 ≤ n) (a0 a1 a2 a3 : Int) : tagged_encoded.F n a0 a1 a2 a3 = some ⟨(bytesOf a0 a1 a2 a3).toArray⟩ := by
  unfold tagged_encoded.F tagged_encoded.e
  have h1 := big_eq (n := n) a0 1 (by omega) (by omega)
  have h2 := big_eq (n := n) 0 1 (by omega) (by omega)
  have h3 := big_eq (n := n) a3 2 (by omega) (by omega)
  have h4 := big_eq (n := n) a1 6 (by omega) (by omega)
  have h5 := big_eq (n := n) a2 6 (by omega) (by omega)
  have hc := concat_eq (n := n) hn [brow a0 1 1, brow 0 1 1, brow a3 2 2, brow a1 6 6, brow a2 6 6] (by simp [brow_length, most]) (by simp)
  simp only [List.map_cons, List.map_nil] at hc
  rw [show ((1 : Nat) : Int) = 1 from rfl] at h1 h2
  rw [show ((2 : Nat) : Int) = 2 from rfl] at h3
  rw [show ((6 : Nat) : Int) = 6 from rfl] at h4 h5
  rw [h1, h2, h3, h4, h5]
  simp only [Option.bind_some, hc]
  have hs : ∀ l1 l2 : List AV, ∀ b1 b2, strOf l1 = some b1 → strOf l2 = some b2 → strOf (l1 ++ l2) = some (b1 ++ b2) := by
    intro l1
    induction l1 with
    | nil => intro l2 b1 b2 h1 h2; cases h1; exact h2
    | cons x l1 ih =>
      intro l2 b1 b2 h1 h2
      cases x with
      | v y =>
        cases y with
        | int k i =>
          cases k with
          | u8 =>
            simp only [strOf, List.cons_append] at h1 ⊢
            cases hs : strOf l1 with
            | none => rw [hs] at h1; cases h1
            | some b => rw [hs] at h1; cases h1; rw [ih l2 b b2 hs h2]; rfl
          | _ => cases h1
        | _ => cases h1
      | _ => cases h1
  have e : strOf [brow a0 1 1, brow 0 1 1, brow a3 2 2, brow a1 6 6, brow a2 6 6].flatten = some (bytesOf a0 a1 a2 a3) := by
    simp only [List.flatten_cons, List.flatten_nil, List.append_nil, bytesOf, List.append_assoc]
    exact hs _ _ _ _ (strOf_brow _ _) (hs _ _ _ _ (strOf_brow _ _) (hs _ _ _ _ (strOf_brow _ _) (hs _ _ _ _ (strOf_brow _ _) (strOf_brow _ _))))
  rw [e]
  rfl

theorem bytes_append (a b : List UInt8) : (⟨a.toArray⟩ : ByteArray) ++ (⟨b.toArray⟩ : ByteArray) = ⟨(a ++ b).toArray⟩ := by
  apply ByteArray.ext
  rw [ByteArray.data_append]
  simp
theorem bytes_size (a : List UInt8) : (⟨a.toArray⟩ : ByteArray).size = a.length := rfl

theorem refBytes_eq {n : Nat} (hn : 100 ≤ n) {a0 a1 a2 a3 : Int} (h0 : 0 ≤ a0 ∧ a0 ≤ 2) (h1 : 0 ≤ a1 ∧ a1 ≤ 1099511627775) (h2 : 0 ≤ a2 ∧ a2 ≤ 16777215) (h3 : 0 ≤ a3 ∧ a3 ≤ 1023) :
    midrangeref03_Bytes.F n a0 a1 a2 a3 = some ⟨(bytesOf a0 a1 a2 a3).toArray⟩ := by
  unfold midrangeref03_Bytes.F midrangeref03_Bytes.e
  have e1 := bigBytes_eq (n := n) h0.1 (by omega) 1 (by omega) (by omega)
  have e2 := bigBytes_eq (n := n) h3.1 (by omega) 2 (by omega) (by omega)
  have e3 := bigBytes_eq (n := n) h1.1 (by omega) 6 (by omega) (by omega)
  have e4 := bigBytes_eq (n := n) h2.1 (by omega) 6 (by omega) (by omega)
  rw [show ((1 : Nat) : Int) = 1 from rfl] at e1
  rw [show ((2 : Nat) : Int) = 2 from rfl] at e2
  rw [show ((6 : Nat) : Int) = 6 from rfl] at e3 e4
  have z : (⟨#[0]⟩ : ByteArray) = ⟨(be 1 0).toArray⟩ := by decide +kernel
  rw [e1, e2, e3, e4, z]
  simp only [Option.bind_some, bytes_append, bytes_size, List.length_append, be_length, chk]
  rfl

theorem check_eq {n : Nat} (hn : 1 ≤ n) (a0 a1 a2 a3 : Int) : ∃ c, tagged_CheckPointer.F n a0 a1 a2 a3 = some c ∧ midrangeref03_PointerErr.F n a0 a1 a2 a3 = some c ∧
    (c = 0 → (0 ≤ a0 ∧ a0 ≤ 2) ∧ (0 ≤ a1 ∧ a1 ≤ 1099511627775) ∧ (0 ≤ a2 ∧ a2 ≤ 16777215) ∧ (0 ≤ a3 ∧ a3 ≤ 1023)) := by
  obtain ⟨m, rfl⟩ : ∃ m, n = m + 1 := ⟨n - 1, by omega⟩
  unfold tagged_CheckPointer.F tagged_CheckPointer.e midrangeref03_PointerErr.F midrangeref03_PointerErr.e
  simp only [within_eq, bwithin_eq, Option.bind_some, tagged_CheckPointer.l, tagged_CheckPointer.r6, midrangeref03_PointerErr.l, midrangeref03_PointerErr.r4]
  cases h0 : (decide (0 ≤ a0) && decide (a0 ≤ 2)) with
  | false => exact ⟨4, rfl, rfl, by omega⟩
  | true =>
    cases h1 : (decide (0 ≤ a1) && decide (a1 ≤ 1099511627775)) with
    | false => exact ⟨3, rfl, rfl, by omega⟩
    | true =>
      cases h2 : (decide (0 ≤ a2) && decide (a2 ≤ 16777215)) with
      | false => exact ⟨3, rfl, rfl, by omega⟩
      | true =>
        cases h3 : (decide (0 ≤ a3) && decide (a3 ≤ 1023)) with
        | false => exact ⟨3, rfl, rfl, by omega⟩
        | true =>
          simp only [Bool.and_eq_true, decide_eq_true_eq] at h0 h1 h2 h3
          cases ha : (a3 != 0) <;> cases hb : (a0 != 1)
          · exact ⟨0, rfl, rfl, fun _ => ⟨h0, h1, h2, h3⟩⟩
          · exact ⟨0, rfl, rfl, fun _ => ⟨h0, h1, h2, h3⟩⟩
          · exact ⟨0, rfl, rfl, fun _ => ⟨h0, h1, h2, h3⟩⟩
          · exact ⟨5, rfl, rfl, by omega⟩

theorem pointerBytes_eq {n : Nat} (hn : 1000002 ≤ n) (a0 a1 a2 a3 : Int) : ∃ c, tagged_CheckPointer.F n a0 a1 a2 a3 = some c ∧ midrangeref03_PointerErr.F n a0 a1 a2 a3 = some c ∧
    tagged_PointerBytes.F n a0 a1 a2 a3 = some (bif c != 0 then (⟨#[]⟩, c) else (⟨(bytesOf a0 a1 a2 a3).toArray⟩, 0)) ∧ (c = 0 → midrangeref03_Bytes.F n a0 a1 a2 a3 = some ⟨(bytesOf a0 a1 a2 a3).toArray⟩) := by
  obtain ⟨c, h1, h2, h3⟩ := check_eq (n := n) (by omega) a0 a1 a2 a3
  refine ⟨c, h1, h2, ?_, fun hc => ?_⟩
  · unfold tagged_PointerBytes.F tagged_PointerBytes.e
    rw [h1, encoded_eq hn]
    simp only [Option.bind_some]
    cases c != 0 <;> rfl
  · obtain ⟨g0, g1, g2, g3⟩ := h3 hc
    exact refBytes_eq (by omega) g0 g1 g2 g3

/-- A number out of its bytes. -/
def val (l : List UInt8) : Nat := l.foldl (fun a b => a * 256 + b.toNat) 0
theorem val_snoc (l : List UInt8) (b : UInt8) : val (l ++ [b]) = val l * 256 + b.toNat := by simp [val]
theorem val_lt : ∀ (k : Nat) (l : List UInt8), l.length = k → val l < 256 ^ k
  | 0, l, h => by have := List.length_eq_zero_iff.1 h; subst this; decide
  | k + 1, l, h => by
    have hne : l ≠ [] := by rintro rfl; simp at h
    have e := List.dropLast_concat_getLast hne
    rw [← e, val_snoc]
    have h1 := val_lt k l.dropLast (by simp [h])
    have h2 := (l.getLast hne).toNat_lt
    rw [Nat.pow_succ]
    omega

theorem take_snoc {l : List UInt8} {i : Nat} (hi : i < l.length) : l.take (i + 1) = l.take i ++ [l[i]] := List.take_succ_eq_append_getElem hi

theorem or_low (a b : Nat) (ha : a < 2 ^ 48) (hb : b < 256) : IntKind.i64.wrap ((BitVec.ofInt 64 ((a : Int) * 256) ||| BitVec.ofInt 64 (b : Int)).toNat : Int) = ((a * 256 + b : Nat) : Int) := by
  have e1 : BitVec.ofInt 64 ((a : Int) * 256) = BitVec.ofNat 64 (a * 256) := by
    rw [show (a : Int) * 256 = ((a * 256 : Nat) : Int) by omega, BitVec.ofInt_natCast]
  have e2 : BitVec.ofInt 64 (b : Int) = BitVec.ofNat 64 b := BitVec.ofInt_natCast ..
  rw [e1, e2, BitVec.toNat_or, BitVec.toNat_ofNat, BitVec.toNat_ofNat, Nat.mod_eq_of_lt (by omega), Nat.mod_eq_of_lt (by omega)]
  have : a * 256 ||| b = a * 256 + b := by
    have := Nat.shiftLeft_add_eq_or_of_lt (i := 8) (b := b) (by omega) a
    rw [Nat.shiftLeft_eq, show (2 : Nat) ^ 8 = 256 from rfl] at this
    omega
  rw [this]
  exact w64 (by omega) (by omega)

theorem number_l (n : Nat) (s : ByteArray) (hs : s.size ≤ 6) : ∀ (d i m : Nat), i + d = s.size → d < m → tagged_number.l n m s (val (s.data.toList.take i) : Int) s.size i = some (val s.data.toList : Int)
  | _, _, 0, _, h => absurd h (by omega)
  | 0, i, m + 1, h, _ => by
    have : i = s.size := by omega
    subst this
    unfold tagged_number.l tagged_number.r3
    rw [cond_f (by omega), List.take_of_length_le (by rw [Array.length_toList]; exact Nat.le_refl _)]
  | d + 1, i, m + 1, h, hm => by
    unfold tagged_number.l tagged_number.r3
    have hi : i < s.size := by omega
    have hl : i < s.data.toList.length := by rw [Array.length_toList]; exact hi
    have hv := val_lt i (s.data.toList.take i) (by rw [List.length_take]; omega)
    have hp : 256 ^ i ≤ 256 ^ 5 := Nat.pow_le_pow_right (by omega) (by omega)
    have e1 : IntKind.i64.wrap ((val (s.data.toList.take i) : Int) * 2 ^ min (8 : Int).toNat 64) = (val (s.data.toList.take i) : Int) * 256 := by
      have : (2 : Int) ^ min (8 : Int).toNat 64 = 256 := by decide
      rw [this]
      exact w64 (by omega) (by omega)
    have e2 : (decide ((0 : Int) ≤ (i : Int)) && decide ((i : Int) < ((s.size : Nat) : Int))) = true := by
      rw [Bool.and_eq_true, decide_eq_true_eq, decide_eq_true_eq]; omega
    have e3 : s.data.getD i 0 = s.data.toList[i] := by
      have : i < s.data.size := hi
      rw [Array.getD_eq_getD_getElem?, Array.getElem?_eq_getElem this]
      rfl
    have e4 : IntKind.i64.wrap ((i : Int) + 1) = ((i + 1 : Nat) : Int) := by rw [w64] <;> omega
    have hb := (s.data.toList[i]).toNat_lt
    rw [cond_t (by omega)]
    simp only
    rw [e1, e2, cond_true, Int.toNat_natCast, e3, w64 (x := (((s.data.toList[i]).toNat : Nat) : Int)) (by omega) (by omega), or_low _ _ (by omega) (by omega), e4, ← val_snoc, ← take_snoc hl]
    exact number_l n s hs d (i + 1) m (by omega) (by omega)

theorem number_eq {n : Nat} (s : ByteArray) (hs : s.size ≤ 6) (hn : 7 ≤ n) : tagged_number.F n s = some (val s.data.toList : Int) := by
  unfold tagged_number.F tagged_number.e
  exact number_l n s hs s.size 0 n (by omega) (by omega)

theorem bigAt_l (n : Nat) (s : ByteArray) (at_ len : Nat) (hl : len ≤ 6) (hs : at_ + len ≤ s.size) (hz : s.size ≤ 1000000) : ∀ (d i m : Nat), i + d = len → d < m →
    midrangebase_Big.l n m s at_ len (val ((s.data.toList.drop at_).take i) : Int) i = some (val ((s.data.toList.drop at_).take len) : Int)
  | _, _, 0, _, h => absurd h (by omega)
  | 0, i, m + 1, h, _ => by
    have : i = len := by omega
    subst this
    unfold midrangebase_Big.l midrangebase_Big.r3
    rw [cond_f (by omega)]
  | d + 1, i, m + 1, h, hm => by
    unfold midrangebase_Big.l midrangebase_Big.r3
    have hi : at_ + i < s.size := by omega
    have hll : i < (s.data.toList.drop at_).length := by
      rw [List.length_drop, Array.length_toList]
      have : at_ + i < s.data.size := hi
      omega
    have hv := val_lt i ((s.data.toList.drop at_).take i) (by rw [List.length_take]; omega)
    have hp : 256 ^ i ≤ 256 ^ 5 := Nat.pow_le_pow_right (by omega) (by omega)
    have e0 : IntKind.i64.wrap ((at_ : Int) + (i : Int)) = ((at_ + i : Nat) : Int) := by rw [w64] <;> omega
    have e2 : (decide ((0 : Int) ≤ ((at_ + i : Nat) : Int)) && decide (((at_ + i : Nat) : Int) < ((s.size : Nat) : Int))) = true := by
      rw [Bool.and_eq_true, decide_eq_true_eq, decide_eq_true_eq]; omega
    have e3 : s.data.getD (at_ + i) 0 = (s.data.toList.drop at_)[i] := by
      have : at_ + i < s.data.size := hi
      rw [Array.getD_eq_getD_getElem?, Array.getElem?_eq_getElem this, List.getElem_drop]
      rfl
    have e4 : IntKind.i64.wrap ((i : Int) + 1) = ((i + 1 : Nat) : Int) := by rw [w64] <;> omega
    have hb := ((s.data.toList.drop at_)[i]).toNat_lt
    have e5 : IntKind.i64.wrap ((IntKind.i64.wrap ((val ((s.data.toList.drop at_).take i) : Int) * 256)) + (IntKind.i64.wrap ((((s.data.toList.drop at_)[i]).toNat : Nat) : Int))) = ((val ((s.data.toList.drop at_).take (i + 1)) : Nat) : Int) := by
      rw [take_snoc hll, val_snoc, w64 (x := (val ((s.data.toList.drop at_).take i) : Int) * 256) (by omega) (by omega), w64 (x := ((((s.data.toList.drop at_)[i]).toNat : Nat) : Int)) (by omega) (by omega), w64 (by omega) (by omega)]
      omega
    rw [cond_t (by omega), e0, e2, cond_true]
    simp only [Int.toNat_natCast]
    rw [e3, e5, e4]
    exact bigAt_l n s at_ len hl hs hz d (i + 1) m (by omega) (by omega)

theorem bigAt_eq {n : Nat} (s : ByteArray) (at_ len : Nat) (hl : len ≤ 6) (hs : at_ + len ≤ s.size) (hz : s.size ≤ 1000000) (hn : 7 ≤ n) : midrangebase_Big.F n s at_ len = some (val ((s.data.toList.drop at_).take len) : Int) := by
  unfold midrangebase_Big.F midrangebase_Big.e
  exact bigAt_l n s at_ len hl hs hz len 0 n (by omega) (by omega)

theorem extract_list (s : ByteArray) (a b : Nat) : (s.extract a b).data.toList = (s.data.toList.drop a).take (b - a) := by
  rw [ByteArray.data_extract, Array.toList_extract, List.extract_eq_take_drop]
theorem extract_size (s : ByteArray) (a b : Nat) (h : b ≤ s.size) : (s.extract a b).size = b - a := by
  rw [ByteArray.size_extract]; omega

/-- What a pointer's bytes stand for. -/
theorem pointerIn_eq {n : Nat} (hn : 7 ≤ n) (s : ByteArray) : ∃ p, tagged_PointerIn.F n s = some p ∧ midrangeref03_In.F n s = some p := by
  unfold tagged_PointerIn.F tagged_PointerIn.e midrangeref03_In.F midrangeref03_In.e
  by_cases hs : s.size = 16
  · have e16 : (((s.size : Nat) : Int) != 16) = false := by rw [hs]; rfl
    have g1 : decide ((1 : Int) < ((s.size : Nat) : Int)) = true := by rw [hs]; rfl
    have g0 : decide ((0 : Int) < ((s.size : Nat) : Int)) = true := by rw [hs]; rfl
    simp only [e16, cond_false, g1, g0, cond_true]
    cases h1 : ((((s.data.getD 1 0).toNat : Nat) : Int) != 0) with
    | true => exact ⟨_, rfl, rfl⟩
    | false =>
      simp only [cond_false]
      have g4 : (decide ((0 : Int) ≤ 4) && decide ((4 : Int) ≤ ((s.size : Nat) : Int))) = true := by rw [hs]; rfl
      have g10 : (decide ((0 : Int) ≤ 10) && decide ((10 : Int) ≤ ((s.size : Nat) : Int))) = true := by rw [hs]; rfl
      have g2 : (decide ((0 : Int) ≤ 2) && decide ((2 : Int) ≤ 4)) = true := rfl
      have g3 : (decide ((0 : Int) ≤ 4) && decide ((4 : Int) ≤ 10)) = true := rfl
      rw [g4, g10, g2, g3]
      simp only [cond_true]
      have n1 := number_eq (n := n) (s.extract 2 4) (by rw [extract_size _ _ _ (by omega)]; omega) hn
      have n2 := number_eq (n := n) (s.extract 4 10) (by rw [extract_size _ _ _ (by omega)]; omega) hn
      have n3 := number_eq (n := n) (s.extract 10 s.size) (by rw [extract_size _ _ _ (by omega)]; omega) hn
      have b1 := bigAt_eq (n := n) s 2 2 (by omega) (by omega) (by omega) hn
      have b2 := bigAt_eq (n := n) s 4 6 (by omega) (by omega) (by omega) hn
      have b3 := bigAt_eq (n := n) s 10 6 (by omega) (by omega) (by omega) hn
      rw [extract_list] at n1 n2 n3
      rw [hs] at n3
      have k1 : midrangebase_Big.F n s 2 2 = some (val ((s.data.toList.drop 2).take 2) : Int) := b1
      have k2 : midrangebase_Big.F n s 4 6 = some (val ((s.data.toList.drop 4).take 6) : Int) := b2
      have k3 : midrangebase_Big.F n s 10 6 = some (val ((s.data.toList.drop 10).take 6) : Int) := b3
      rw [hs, n1, n2, n3, k1, k2, k3]
      simp only [Option.bind_some]
      obtain ⟨c, c1, c2, _⟩ := check_eq (n := n) (by omega) (IntKind.i64.wrap (((s.data.getD 0 0).toNat : Nat) : Int)) (val ((s.data.toList.drop 4).take 6) : Int) (val ((s.data.toList.drop 10).take 6) : Int) (val ((s.data.toList.drop 2).take 2) : Int)
      have d1 : tagged_CheckPointer.F n (IntKind.i64.wrap (((s.data.getD 0 0).toNat : Nat) : Int)) (val ((s.data.toList.drop 4).take (10 - 4)) : Int) (val ((s.data.toList.drop 10).take (16 - 10)) : Int) (val ((s.data.toList.drop 2).take (4 - 2)) : Int) = some c := c1
      rw [c2, d1]
      simp only [Option.bind_some]
      cases c != 0 <;> exact ⟨_, rfl, rfl⟩
  · have e16 : (((s.size : Nat) : Int) != 16) = true := by simp; omega
    simp only [e16, cond_true]
    exact ⟨_, rfl, rfl⟩

theorem awake_eq {n : Nat} (hn : 1000002 ≤ n) : midrangelaw03_awake.F n = some true := by
  unfold midrangelaw03_awake.F midrangelaw03_awake.e
  obtain ⟨c, h1, _, h3, _⟩ := pointerBytes_eq hn 1 258 3 5
  have hc : c = 0 := by
    obtain ⟨m, rfl⟩ : ∃ m, n = m + 1 := ⟨n - 1, by omega⟩
    have : tagged_CheckPointer.F (m + 1) 1 258 3 5 = some 0 := by
      unfold tagged_CheckPointer.F tagged_CheckPointer.e
      simp only [within_eq, Option.bind_some]
      rfl
    rw [this] at h1
    cases h1
    rfl
  subst hc
  rw [h3]
  have b := bigBytes_eq (n := n) (a := 1) (by omega) (by omega) 2 (by omega) (by omega)
  rw [show ((2 : Nat) : Int) = 2 from rfl] at b
  simp only [Option.bind_some, b]
  decide +kernel

theorem pointers_law {n : Nat} (hn : 1000002 ≤ n) (a0 a1 a2 a3 : Int) (a4 : ByteArray) : midrangelaw03_TaggedPointers.F n a0 a1 a2 a3 a4 = some true := by
  unfold midrangelaw03_TaggedPointers.F midrangelaw03_TaggedPointers.e
  obtain ⟨c, h1, h2, h3, h4⟩ := pointerBytes_eq hn a0 a1 a2 a3
  have c9 : (midrangelaw03_TaggedPointers.l n n).2 a4 = some true := by
    obtain ⟨m, rfl⟩ : ∃ m, n = m + 1 := ⟨n - 1, by omega⟩
    simp only [midrangelaw03_TaggedPointers.l, midrangelaw03_TaggedPointers.r9]
    obtain ⟨p, p1, p2⟩ := pointerIn_eq (n := m + 1) (by omega) a4
    rw [p1, p2]
    simp
  rw [awake_eq hn, h1, h2, h3, c9]
  simp only [Option.bind_some]
  cases decide (((a4.size : Nat) : Int) > 40) with
  | true => rfl
  | false =>
    by_cases hc : c = 0
    · subst hc
      rw [h4 rfl]
      simp
    · have e1 : (c != 0) = true := by simpa using hc
      have e2 : (c == 0) = false := by simpa using hc
      simp [e1, e2]
end Go.Proofs.Ytgmpnhfnkhohiaa.Ev

/- midrange/midrangelaw03.few, out of its evaluation. Printed by the session's own program. -/
namespace Go.Proofs.Ytgmpnhfnkhohiaa.Ev
open Go Go.Proofs Go.Proofs.Ev
set_option linter.unusedVariables false
set_option maxRecDepth 100000
/-! midrange/midrangelaw03.few: function 17 -/
noncomputable def midrangelaw03_few.e {R : Type} (n : Nat)  (k : Bool → Option R) (a0 : ByteArray) (a1 : List AV) : Option R :=
  let y1 : Bool := decide (((a0.size : Nat) : Int) ≤ 1072)
  bif y1 then (let y2 : Bool := decide (((a1.length : Nat) : Int) ≤ 67)
  k y2) else (k false)
noncomputable def midrangelaw03_few.C {R : Type} (n : Nat) (f : FuncId) (xs : List AV) : (AV → Option R) → Option R :=
  fun _ => none
theorem midrangelaw03_few.tells {R : Type} (n : Nat) : Tells (R := R) Try.prog (midrangelaw03_few.C n) := fun _ xs => Tells1.none
noncomputable def midrangelaw03_few.cut (r : Nat) : Option Keep := match r with  | _ => none
theorem midrangelaw03_few.e_eq {R : Type} (n : Nat) (rec : List Item → St → Option R) (K : AV → Option R) (a0 : ByteArray) (a1 : List AV) :
    goK G (midrangelaw03_few.C n) midrangelaw03_few.cut (fun S => finK G Try.f17.resultTypes.toList Try.f17.results.toList S K) rec 1000 [.code (Try.f17.body.getD .skip)] (Ev.start Try.f17 [AV.agg [vs a0, .sl true 1 a1]]) = midrangelaw03_few.e n  (fun p => K (vb p)) a0 a1 := by kernel_rfl
noncomputable def midrangelaw03_few.F (n : Nat) (a0 : ByteArray) (a1 : List AV) : Option (Bool) := midrangelaw03_few.e n  Option.some a0 a1
noncomputable def midrangelaw03_few.dec (x : AV) : Option (Bool) := match x with | .v (.bool p0) => Option.some p0 | _ => none
theorem midrangelaw03_few.dec_inv {p : Bool} (y : AV) (h : midrangelaw03_few.dec y = some p) : y = vb p := by
  unfold midrangelaw03_few.dec at h
  split at h
  · cases h; rfl
  · cases h
theorem midrangelaw03_few.hands (n : Nat) (a0 : ByteArray) (a1 : List AV) {p : Bool} (h : midrangelaw03_few.F n a0 a1 = some p) : HandsIn Try.prog 17 [AV.agg [vs a0, .sl true 1 a1]] (vb p) := by
  refine hands_of cfg mixed (fun _ => rfl) (midrangelaw03_few.tells n) (fn := Try.f17) Try.func17 (by kernel_rfl) (by kernel_rfl) (cut := midrangelaw03_few.cut) (K := midrangelaw03_few.dec) (r := p) (n := n) midrangelaw03_few.dec_inv ?_
  rw [funK_getD (by kernel_rfl)]
  have h1 := midrangelaw03_few.e_eq n (runK G (midrangelaw03_few.C n) midrangelaw03_few.cut (fun S => finK G Try.f17.resultTypes.toList Try.f17.results.toList S midrangelaw03_few.dec) n) midrangelaw03_few.dec a0 a1
  exact h1.trans h
noncomputable def midrangelaw03_few.via {R : Type} (n : Nat) (xs : List AV) : (AV → Option R) → Option R := match xs with | [.agg [.v (.string a0), .sl true 1 a1]] => fun K => (midrangelaw03_few.F n a0 a1).bind fun p => K (vb p) | _ => fun _ => none
theorem midrangelaw03_few.tells1 {R : Type} (n : Nat) (xs : List AV) : Tells1 (R := R) Try.prog 17 xs (midrangelaw03_few.via n xs) := by
  unfold midrangelaw03_few.via
  split
  · exact Tells1.of (fun p hp => (midrangelaw03_few.hands n _ _ hp).hands)
  · exact Tells1.none
end Go.Proofs.Ytgmpnhfnkhohiaa.Ev

/- midrange/tagged.CheckStorage, out of its evaluation. Printed by the session's own program. -/
namespace Go.Proofs.Ytgmpnhfnkhohiaa.Ev
open Go Go.Proofs Go.Proofs.Ev
set_option linter.unusedVariables false
set_option maxRecDepth 100000
/-! midrange/tagged.CheckStorage: function 42 -/
noncomputable def tagged_CheckStorage.r9 {R : Type} (n : Nat) (c9 : List AV → Int → Int → ByteArray → List AV → Option R) (k : Int × Int → Option R) (z1 : List AV) (z2 : Int) (z3 : Int) (z4 : ByteArray) (z5 : List AV) : Option R :=
  bif decide (z3 < z2) then (bif decide ((0 : Int) ≤ z3) && decide (z3 < ((z1.length : Nat) : Int)) then (withCons ((z1.getD ((z3).toNat) .undef).cells) fun c5 r6 =>
  withBool c5 fun b7 =>
  bif !b7 then (c9 z1 z2 (IntKind.i64.wrap (z3 + 1)) z4 z5) else (let y8 : Int := IntKind.i64.wrap ((IntKind.i64.wrap (z3 * 16)) + 16)
  bif decide ((0 : Int) ≤ y8) && decide ((y8 : Int) ≤ ((z4.size : Nat) : Int)) then (bif decide ((0 : Int) ≤ IntKind.i64.wrap (z3 * 16)) && decide ((IntKind.i64.wrap (z3 * 16) : Int) ≤ y8) then (let y9 : ByteArray := z4.extract (IntKind.i64.wrap (z3 * 16)).toNat (y8).toNat
  (tagged_PointerIn.F n y9).bind fun p10 =>
  bif p10.2.2.2.2 != 0 then (k (z3, 22)) else (c9 z1 z2 (IntKind.i64.wrap (z3 + 1)) z4 z5)) else none) else none)) else none) else (k (((z5.length : Nat) : Int), 0))
noncomputable def tagged_CheckStorage.e {R : Type} (n : Nat) (c9 : List AV → Int → Int → ByteArray → List AV → Option R) (k : Int × Int → Option R) (a0 : ByteArray) (a1 : List AV) : Option R :=
  let y1 : Bool := decide (((a0.size : Nat) : Int) > 1024)
  bif y1 then (k (0, 2)) else (let y2 : Int := Int.tmod ((a0.size : Nat) : Int) 16
  bif y2 != 0 then (k (0, 18)) else (let y3 : Int := IntKind.i64.wrap (Int.tdiv ((a0.size : Nat) : Int) 16)
  let y4 : Bool := ((a1.length : Nat) : Int) != y3
  bif y4 then (k (0, 6)) else (c9 a1 ((a1.length : Nat) : Int) 0 a0 a1)))
noncomputable def tagged_CheckStorage.C {R : Type} (n : Nat) (f : FuncId) (xs : List AV) : (AV → Option R) → Option R :=
  bif Nat.beq f 15 then tagged_PointerIn.via n xs else fun _ => none
theorem tagged_CheckStorage.tells {R : Type} (n : Nat) : Tells (R := R) Try.prog (tagged_CheckStorage.C n) := fun _ xs => tells_at (tagged_PointerIn.tells1 n xs) (Tells1.none)
noncomputable def tagged_CheckStorage.cut (r : Nat) : Option Keep := match r with | 9 => Option.some ⟨[1, 27, 28, 29], []⟩ | _ => none
noncomputable def tagged_CheckStorage.t9 : List Item := (todoOf 9 1000 [.code (Try.f42.body.getD .skip)]).getD []
noncomputable def tagged_CheckStorage.s9 (z1 : List AV) (z2 : Int) (z3 : Int) (z4 : ByteArray) (z5 : List AV) : St := ⟨[.undef, .ptr 0 0, .undef, .undef, .undef, .undef, .undef, .undef, .undef, .undef, .undef, .undef, .undef, .undef, .undef, .undef, .undef, .undef, .undef, .undef, .undef, .undef, .undef, .undef, .undef, .undef, .undef, .sl true 1 z1, vi z2, vi z3, .undef, .undef, .undef, .undef, .undef, .undef, .undef, .undef, .undef, .undef, .undef, .undef, .undef, .undef, .undef, .undef, .undef, .undef, .undef, .undef, .undef, .undef, .undef, .undef, .undef], Mem.ofList [.box [vs z4, .sl true 1 z5]], 1⟩
theorem tagged_CheckStorage.e_eq {R : Type} (n : Nat) (rec : List Item → St → Option R) (K : AV → Option R) (a0 : ByteArray) (a1 : List AV) :
    goK G (tagged_CheckStorage.C n) tagged_CheckStorage.cut (fun S => finK G Try.f42.resultTypes.toList Try.f42.results.toList S K) rec 1000 [.code (Try.f42.body.getD .skip)] (Ev.start Try.f42 [AV.agg [vs a0, .sl true 1 a1]]) = tagged_CheckStorage.e n (fun z1 z2 z3 z4 z5 => rec tagged_CheckStorage.t9 (tagged_CheckStorage.s9 z1 z2 z3 z4 z5)) (fun p => K (.tup [vi p.1, vi p.2])) a0 a1 := by kernel_rfl
theorem tagged_CheckStorage.r9_eq {R : Type} (n : Nat) (rec : List Item → St → Option R) (K : AV → Option R) (z1 : List AV) (z2 : Int) (z3 : Int) (z4 : ByteArray) (z5 : List AV) :
    atK G (tagged_CheckStorage.C n) tagged_CheckStorage.cut (fun S => finK G Try.f42.resultTypes.toList Try.f42.results.toList S K) rec tagged_CheckStorage.t9 (tagged_CheckStorage.s9 z1 z2 z3 z4 z5) = tagged_CheckStorage.r9 n (fun z1 z2 z3 z4 z5 => rec tagged_CheckStorage.t9 (tagged_CheckStorage.s9 z1 z2 z3 z4 z5)) (fun p => K (.tup [vi p.1, vi p.2])) z1 z2 z3 z4 z5 := by kernel_rfl
noncomputable def tagged_CheckStorage.l (n : Nat) : Nat → (List AV → Int → Int → ByteArray → List AV → Option (Int × Int))
  | 0 => (fun _ _ _ _ _ => none)
  | m + 1 => tagged_CheckStorage.r9 n (tagged_CheckStorage.l n m) Option.some
noncomputable def tagged_CheckStorage.F (n : Nat) (a0 : ByteArray) (a1 : List AV) : Option (Int × Int) := tagged_CheckStorage.e n (tagged_CheckStorage.l n n) Option.some a0 a1
noncomputable def tagged_CheckStorage.dec (x : AV) : Option (Int × Int) := match x with | .tup [.v (.int .i64 p0), .v (.int .i64 p1)] => Option.some (p0, p1) | _ => none
theorem tagged_CheckStorage.dec_inv {p : Int × Int} (y : AV) (h : tagged_CheckStorage.dec y = some p) : y = .tup [vi p.1, vi p.2] := by
  unfold tagged_CheckStorage.dec at h
  split at h
  · cases h; rfl
  · cases h
theorem tagged_CheckStorage.l_eq (n m : Nat) : (∀ (z1 : List AV) (z2 : Int) (z3 : Int) (z4 : ByteArray) (z5 : List AV), runK G (tagged_CheckStorage.C n) tagged_CheckStorage.cut (fun S => finK G Try.f42.resultTypes.toList Try.f42.results.toList S tagged_CheckStorage.dec) m tagged_CheckStorage.t9 (tagged_CheckStorage.s9 z1 z2 z3 z4 z5) = (tagged_CheckStorage.l n m) z1 z2 z3 z4 z5) := by
  induction m with
  | zero => exact fun z1 z2 z3 z4 z5 => rfl
  | succ m ih =>
    have h9 := ih
    have e9 : (fun (z1 : List AV) (z2 : Int) (z3 : Int) (z4 : ByteArray) (z5 : List AV) => runK G (tagged_CheckStorage.C n) tagged_CheckStorage.cut (fun S => finK G Try.f42.resultTypes.toList Try.f42.results.toList S tagged_CheckStorage.dec) m tagged_CheckStorage.t9 (tagged_CheckStorage.s9 z1 z2 z3 z4 z5)) = (tagged_CheckStorage.l n m) := by funext z1 z2 z3 z4 z5; exact h9 z1 z2 z3 z4 z5
    have q9 : ∀ (z1 : List AV) (z2 : Int) (z3 : Int) (z4 : ByteArray) (z5 : List AV), runK G (tagged_CheckStorage.C n) tagged_CheckStorage.cut (fun S => finK G Try.f42.resultTypes.toList Try.f42.results.toList S tagged_CheckStorage.dec) (m + 1) tagged_CheckStorage.t9 (tagged_CheckStorage.s9 z1 z2 z3 z4 z5) = (tagged_CheckStorage.l n (m + 1)) z1 z2 z3 z4 z5 := by
      intro z1 z2 z3 z4 z5
      rw [runK_succ]
      refine (tagged_CheckStorage.r9_eq n _ tagged_CheckStorage.dec z1 z2 z3 z4 z5).trans ?_
      rw [e9]
      rfl
    exact q9
theorem tagged_CheckStorage.hands (n : Nat) (a0 : ByteArray) (a1 : List AV) {p : Int × Int} (h : tagged_CheckStorage.F n a0 a1 = some p) : HandsIn Try.prog 42 [AV.agg [vs a0, .sl true 1 a1]] (.tup [vi p.1, vi p.2]) := by
  refine hands_of cfg mixed (fun _ => rfl) (tagged_CheckStorage.tells n) (fn := Try.f42) Try.func42 (by kernel_rfl) (by kernel_rfl) (cut := tagged_CheckStorage.cut) (K := tagged_CheckStorage.dec) (r := p) (n := n) tagged_CheckStorage.dec_inv ?_
  rw [funK_getD (by kernel_rfl)]
  have h1 := tagged_CheckStorage.e_eq n (runK G (tagged_CheckStorage.C n) tagged_CheckStorage.cut (fun S => finK G Try.f42.resultTypes.toList Try.f42.results.toList S tagged_CheckStorage.dec) n) tagged_CheckStorage.dec a0 a1
  have hl := tagged_CheckStorage.l_eq n n
  simp only [hl] at h1
  exact h1.trans h
noncomputable def tagged_CheckStorage.via {R : Type} (n : Nat) (xs : List AV) : (AV → Option R) → Option R := match xs with | [.agg [.v (.string a0), .sl true 1 a1]] => fun K => (tagged_CheckStorage.F n a0 a1).bind fun p => K (.tup [vi p.1, vi p.2]) | _ => fun _ => none
theorem tagged_CheckStorage.tells1 {R : Type} (n : Nat) (xs : List AV) : Tells1 (R := R) Try.prog 42 xs (tagged_CheckStorage.via n xs) := by
  unfold tagged_CheckStorage.via
  split
  · exact Tells1.of (fun p hp => (tagged_CheckStorage.hands n _ _ hp).hands)
  · exact Tells1.none
end Go.Proofs.Ytgmpnhfnkhohiaa.Ev

/- midrange/tagged.inside, out of its evaluation. Printed by the session's own program. -/
namespace Go.Proofs.Ytgmpnhfnkhohiaa.Ev
open Go Go.Proofs Go.Proofs.Ev
set_option linter.unusedVariables false
set_option maxRecDepth 100000
/-! midrange/tagged.inside: function 51 -/
noncomputable def tagged_inside.r5 {R : Type} (n : Nat) (c5 : Unit → Option R) (k : Int → Option R) (_ : Unit) : Option R :=
  k 3
noncomputable def tagged_inside.e {R : Type} (n : Nat) (c5 : Unit → Option R) (k : Int → Option R) (a0 : ByteArray) (a1 : List AV) (a2 : Int) (a3 : Int) : Option R :=
  (tagged_CheckStorage.F n a0 a1).bind fun p1 =>
  bif p1.2 != 0 then (k p1.2) else (bif decide (a2 < 0) then (c5 ()) else (bif decide (a3 < 0) then (c5 ()) else (let y2 : Bool := decide (a2 > ((a0.size : Nat) : Int))
  bif y2 then (c5 ()) else (let y3 : Int := IntKind.i64.wrap (((a0.size : Nat) : Int) - a2)
  bif decide (a3 > y3) then (c5 ()) else (k 0)))))
noncomputable def tagged_inside.C {R : Type} (n : Nat) (f : FuncId) (xs : List AV) : (AV → Option R) → Option R :=
  bif Nat.beq f 42 then tagged_CheckStorage.via n xs else fun _ => none
theorem tagged_inside.tells {R : Type} (n : Nat) : Tells (R := R) Try.prog (tagged_inside.C n) := fun _ xs => tells_at (tagged_CheckStorage.tells1 n xs) (Tells1.none)
noncomputable def tagged_inside.cut (r : Nat) : Option Keep := match r with | 5 => Option.some ⟨[], []⟩ | _ => none
noncomputable def tagged_inside.t5 : List Item := (todoOf 5 1000 [.code (Try.f51.body.getD .skip)]).getD []
noncomputable def tagged_inside.s5 (_ : Unit) : St := ⟨[.undef, .undef, .undef, .undef, .undef, .undef, .undef, .undef, .undef, .undef, .undef, .undef, .undef, .undef, .undef, .undef, .undef, .undef, .undef, .undef, .undef, .undef, .undef, .undef, .undef, .undef, .undef, .undef, .undef, .undef, .undef, .undef, .undef, .undef, .undef, .undef, .undef, .undef, .undef], Mem.ofList [], 0⟩
theorem tagged_inside.e_eq {R : Type} (n : Nat) (rec : List Item → St → Option R) (K : AV → Option R) (a0 : ByteArray) (a1 : List AV) (a2 : Int) (a3 : Int) :
    goK G (tagged_inside.C n) tagged_inside.cut (fun S => finK G Try.f51.resultTypes.toList Try.f51.results.toList S K) rec 1000 [.code (Try.f51.body.getD .skip)] (Ev.start Try.f51 [AV.agg [vs a0, .sl true 1 a1], vi a2, vi a3]) = tagged_inside.e n (fun _ => rec tagged_inside.t5 (tagged_inside.s5 ())) (fun p => K (vi p)) a0 a1 a2 a3 := by kernel_rfl
theorem tagged_inside.r5_eq {R : Type} (n : Nat) (rec : List Item → St → Option R) (K : AV → Option R) (_ : Unit) :
    atK G (tagged_inside.C n) tagged_inside.cut (fun S => finK G Try.f51.resultTypes.toList Try.f51.results.toList S K) rec tagged_inside.t5 (tagged_inside.s5 ()) = tagged_inside.r5 n (fun _ => rec tagged_inside.t5 (tagged_inside.s5 ())) (fun p => K (vi p)) () := by kernel_rfl
noncomputable def tagged_inside.l (n : Nat) : Nat → (Unit → Option (Int))
  | 0 => (fun _ => none)
  | m + 1 => tagged_inside.r5 n (tagged_inside.l n m) Option.some
noncomputable def tagged_inside.F (n : Nat) (a0 : ByteArray) (a1 : List AV) (a2 : Int) (a3 : Int) : Option (Int) := tagged_inside.e n (tagged_inside.l n n) Option.some a0 a1 a2 a3
noncomputable def tagged_inside.dec (x : AV) : Option (Int) := match x with | .v (.int .i64 p0) => Option.some p0 | _ => none
theorem tagged_inside.dec_inv {p : Int} (y : AV) (h : tagged_inside.dec y = some p) : y = vi p := by
  unfold tagged_inside.dec at h
  split at h
  · cases h; rfl
  · cases h
theorem tagged_inside.l_eq (n m : Nat) : (∀ z : Unit, runK G (tagged_inside.C n) tagged_inside.cut (fun S => finK G Try.f51.resultTypes.toList Try.f51.results.toList S tagged_inside.dec) m tagged_inside.t5 (tagged_inside.s5 z) = (tagged_inside.l n m) z) := by
  induction m with
  | zero => exact fun _ => rfl
  | succ m ih =>
    have h5 := ih
    have e5 : (fun (_ : Unit) => runK G (tagged_inside.C n) tagged_inside.cut (fun S => finK G Try.f51.resultTypes.toList Try.f51.results.toList S tagged_inside.dec) m tagged_inside.t5 (tagged_inside.s5 ())) = (tagged_inside.l n m) := by funext z; exact h5 z
    have q5 : ∀ z : Unit, runK G (tagged_inside.C n) tagged_inside.cut (fun S => finK G Try.f51.resultTypes.toList Try.f51.results.toList S tagged_inside.dec) (m + 1) tagged_inside.t5 (tagged_inside.s5 z) = (tagged_inside.l n (m + 1)) z := by
      intro z
      rw [runK_succ]
      refine (tagged_inside.r5_eq n _ tagged_inside.dec ()).trans ?_
      rw [e5]
      rfl
    exact q5
theorem tagged_inside.hands (n : Nat) (a0 : ByteArray) (a1 : List AV) (a2 : Int) (a3 : Int) {p : Int} (h : tagged_inside.F n a0 a1 a2 a3 = some p) : HandsIn Try.prog 51 [AV.agg [vs a0, .sl true 1 a1], vi a2, vi a3] (vi p) := by
  refine hands_of cfg mixed (fun _ => rfl) (tagged_inside.tells n) (fn := Try.f51) Try.func51 (by kernel_rfl) (by kernel_rfl) (cut := tagged_inside.cut) (K := tagged_inside.dec) (r := p) (n := n) tagged_inside.dec_inv ?_
  rw [funK_getD (by kernel_rfl)]
  have h1 := tagged_inside.e_eq n (runK G (tagged_inside.C n) tagged_inside.cut (fun S => finK G Try.f51.resultTypes.toList Try.f51.results.toList S tagged_inside.dec) n) tagged_inside.dec a0 a1 a2 a3
  have hl := tagged_inside.l_eq n n
  simp only [hl] at h1
  exact h1.trans h
noncomputable def tagged_inside.via {R : Type} (n : Nat) (xs : List AV) : (AV → Option R) → Option R := match xs with | [.agg [.v (.string a0), .sl true 1 a1], .v (.int .i64 a2), .v (.int .i64 a3)] => fun K => (tagged_inside.F n a0 a1 a2 a3).bind fun p => K (vi p) | _ => fun _ => none
theorem tagged_inside.tells1 {R : Type} (n : Nat) (xs : List AV) : Tells1 (R := R) Try.prog 51 xs (tagged_inside.via n xs) := by
  unfold tagged_inside.via
  split
  · exact Tells1.of (fun p hp => (tagged_inside.hands n _ _ _ _ hp).hands)
  · exact Tells1.none
end Go.Proofs.Ytgmpnhfnkhohiaa.Ev

/- midrange/tagged.ReadBytes, out of its evaluation. Printed by the session's own program. -/
namespace Go.Proofs.Ytgmpnhfnkhohiaa.Ev
open Go Go.Proofs Go.Proofs.Ev
set_option linter.unusedVariables false
set_option maxRecDepth 100000
/-! midrange/tagged.ReadBytes: function 18 -/
noncomputable def tagged_ReadBytes.e {R : Type} (n : Nat)  (k : ByteArray × Int → Option R) (a0 : ByteArray) (a1 : List AV) (a2 : Int) (a3 : Int) : Option R :=
  (tagged_inside.F n a0 a1 a2 a3).bind fun p1 =>
  bif p1 != 0 then (k ((⟨#[]⟩ : ByteArray), p1)) else (bif decide ((0 : Int) ≤ IntKind.i64.wrap (a2 + a3)) && decide ((IntKind.i64.wrap (a2 + a3) : Int) ≤ ((a0.size : Nat) : Int)) then (bif decide ((0 : Int) ≤ a2) && decide ((a2 : Int) ≤ IntKind.i64.wrap (a2 + a3)) then (let y2 : ByteArray := a0.extract (a2).toNat (IntKind.i64.wrap (a2 + a3)).toNat
  k (y2, 0)) else none) else none)
noncomputable def tagged_ReadBytes.C {R : Type} (n : Nat) (f : FuncId) (xs : List AV) : (AV → Option R) → Option R :=
  bif Nat.beq f 51 then tagged_inside.via n xs else fun _ => none
theorem tagged_ReadBytes.tells {R : Type} (n : Nat) : Tells (R := R) Try.prog (tagged_ReadBytes.C n) := fun _ xs => tells_at (tagged_inside.tells1 n xs) (Tells1.none)
noncomputable def tagged_ReadBytes.cut (r : Nat) : Option Keep := match r with  | _ => none
theorem tagged_ReadBytes.e_eq {R : Type} (n : Nat) (rec : List Item → St → Option R) (K : AV → Option R) (a0 : ByteArray) (a1 : List AV) (a2 : Int) (a3 : Int) :
    goK G (tagged_ReadBytes.C n) tagged_ReadBytes.cut (fun S => finK G Try.f18.resultTypes.toList Try.f18.results.toList S K) rec 1000 [.code (Try.f18.body.getD .skip)] (Ev.start Try.f18 [AV.agg [vs a0, .sl true 1 a1], vi a2, vi a3]) = tagged_ReadBytes.e n  (fun p => K (.tup [vs p.1, vi p.2])) a0 a1 a2 a3 := by kernel_rfl
noncomputable def tagged_ReadBytes.F (n : Nat) (a0 : ByteArray) (a1 : List AV) (a2 : Int) (a3 : Int) : Option (ByteArray × Int) := tagged_ReadBytes.e n  Option.some a0 a1 a2 a3
noncomputable def tagged_ReadBytes.dec (x : AV) : Option (ByteArray × Int) := match x with | .tup [.v (.string p0), .v (.int .i64 p1)] => Option.some (p0, p1) | _ => none
theorem tagged_ReadBytes.dec_inv {p : ByteArray × Int} (y : AV) (h : tagged_ReadBytes.dec y = some p) : y = .tup [vs p.1, vi p.2] := by
  unfold tagged_ReadBytes.dec at h
  split at h
  · cases h; rfl
  · cases h
theorem tagged_ReadBytes.hands (n : Nat) (a0 : ByteArray) (a1 : List AV) (a2 : Int) (a3 : Int) {p : ByteArray × Int} (h : tagged_ReadBytes.F n a0 a1 a2 a3 = some p) : HandsIn Try.prog 18 [AV.agg [vs a0, .sl true 1 a1], vi a2, vi a3] (.tup [vs p.1, vi p.2]) := by
  refine hands_of cfg mixed (fun _ => rfl) (tagged_ReadBytes.tells n) (fn := Try.f18) Try.func18 (by kernel_rfl) (by kernel_rfl) (cut := tagged_ReadBytes.cut) (K := tagged_ReadBytes.dec) (r := p) (n := n) tagged_ReadBytes.dec_inv ?_
  rw [funK_getD (by kernel_rfl)]
  have h1 := tagged_ReadBytes.e_eq n (runK G (tagged_ReadBytes.C n) tagged_ReadBytes.cut (fun S => finK G Try.f18.resultTypes.toList Try.f18.results.toList S tagged_ReadBytes.dec) n) tagged_ReadBytes.dec a0 a1 a2 a3
  exact h1.trans h
noncomputable def tagged_ReadBytes.via {R : Type} (n : Nat) (xs : List AV) : (AV → Option R) → Option R := match xs with | [.agg [.v (.string a0), .sl true 1 a1], .v (.int .i64 a2), .v (.int .i64 a3)] => fun K => (tagged_ReadBytes.F n a0 a1 a2 a3).bind fun p => K (.tup [vs p.1, vi p.2]) | _ => fun _ => none
theorem tagged_ReadBytes.tells1 {R : Type} (n : Nat) (xs : List AV) : Tells1 (R := R) Try.prog 18 xs (tagged_ReadBytes.via n xs) := by
  unfold tagged_ReadBytes.via
  split
  · exact Tells1.of (fun p hp => (tagged_ReadBytes.hands n _ _ _ _ hp).hands)
  · exact Tells1.none
end Go.Proofs.Ytgmpnhfnkhohiaa.Ev

/- midrange/midrangebase.CopyBools, out of its evaluation. Printed by the session's own program. -/
namespace Go.Proofs.Ytgmpnhfnkhohiaa.Ev
open Go Go.Proofs Go.Proofs.Ev
set_option linter.unusedVariables false
set_option maxRecDepth 100000
/-! midrange/midrangebase.CopyBools: function 52 -/
noncomputable def midrangebase_CopyBools.e {R : Type} (n : Nat)  (k : List AV → Option R) (a0 : List AV) : Option R :=
  bif decide (a0.length ≤ most) then (k a0) else none
noncomputable def midrangebase_CopyBools.C {R : Type} (n : Nat) (f : FuncId) (xs : List AV) : (AV → Option R) → Option R :=
  fun _ => none
theorem midrangebase_CopyBools.tells {R : Type} (n : Nat) : Tells (R := R) Try.prog (midrangebase_CopyBools.C n) := fun _ xs => Tells1.none
noncomputable def midrangebase_CopyBools.cut (r : Nat) : Option Keep := match r with  | _ => none
theorem midrangebase_CopyBools.e_eq {R : Type} (n : Nat) (rec : List Item → St → Option R) (K : AV → Option R) (a0 : List AV) :
    goK G (midrangebase_CopyBools.C n) midrangebase_CopyBools.cut (fun S => finK G Try.f52.resultTypes.toList Try.f52.results.toList S K) rec 1000 [.code (Try.f52.body.getD .skip)] (Ev.start Try.f52 [.sl true 1 a0]) = midrangebase_CopyBools.e n  (fun p => K (.fr true 1 p)) a0 := by kernel_rfl
noncomputable def midrangebase_CopyBools.F (n : Nat) (a0 : List AV) : Option (List AV) := midrangebase_CopyBools.e n  Option.some a0
noncomputable def midrangebase_CopyBools.dec (x : AV) : Option (List AV) := match x with | .fr true 1 p0 => Option.some p0 | _ => none
theorem midrangebase_CopyBools.dec_inv {p : List AV} (y : AV) (h : midrangebase_CopyBools.dec y = some p) : y = .fr true 1 p := by
  unfold midrangebase_CopyBools.dec at h
  split at h
  · cases h; rfl
  · cases h
theorem midrangebase_CopyBools.hands (n : Nat) (a0 : List AV) {p : List AV} (h : midrangebase_CopyBools.F n a0 = some p) : HandsIn Try.prog 52 [.sl true 1 a0] (.fr true 1 p) := by
  refine hands_of cfg mixed (fun _ => rfl) (midrangebase_CopyBools.tells n) (fn := Try.f52) Try.func52 (by kernel_rfl) (by kernel_rfl) (cut := midrangebase_CopyBools.cut) (K := midrangebase_CopyBools.dec) (r := p) (n := n) midrangebase_CopyBools.dec_inv ?_
  rw [funK_getD (by kernel_rfl)]
  have h1 := midrangebase_CopyBools.e_eq n (runK G (midrangebase_CopyBools.C n) midrangebase_CopyBools.cut (fun S => finK G Try.f52.resultTypes.toList Try.f52.results.toList S midrangebase_CopyBools.dec) n) midrangebase_CopyBools.dec a0
  exact h1.trans h
noncomputable def midrangebase_CopyBools.via {R : Type} (n : Nat) (xs : List AV) : (AV → Option R) → Option R := match xs with | [.sl true 1 a0] => fun K => (midrangebase_CopyBools.F n a0).bind fun p => K (.fr true 1 p) | _ => fun _ => none
theorem midrangebase_CopyBools.tells1 {R : Type} (n : Nat) (xs : List AV) : Tells1 (R := R) Try.prog 52 xs (midrangebase_CopyBools.via n xs) := by
  unfold midrangebase_CopyBools.via
  split
  · exact Tells1.of (fun p hp => (midrangebase_CopyBools.hands n _ hp).hands)
  · exact Tells1.none
end Go.Proofs.Ytgmpnhfnkhohiaa.Ev

/- midrange/midrangebase.OwnStorage, out of its evaluation. Printed by the session's own program. -/
namespace Go.Proofs.Ytgmpnhfnkhohiaa.Ev
open Go Go.Proofs Go.Proofs.Ev
set_option linter.unusedVariables false
set_option maxRecDepth 100000
/-! midrange/midrangebase.OwnStorage: function 19 -/
noncomputable def midrangebase_OwnStorage.e {R : Type} (n : Nat)  (k : ByteArray × List AV → Option R) (a0 : ByteArray) (a1 : List AV) : Option R :=
  (midrangebase_CopyBools.F n a1).bind fun p1 =>
  k (a0, p1)
noncomputable def midrangebase_OwnStorage.C {R : Type} (n : Nat) (f : FuncId) (xs : List AV) : (AV → Option R) → Option R :=
  bif Nat.beq f 52 then midrangebase_CopyBools.via n xs else fun _ => none
theorem midrangebase_OwnStorage.tells {R : Type} (n : Nat) : Tells (R := R) Try.prog (midrangebase_OwnStorage.C n) := fun _ xs => tells_at (midrangebase_CopyBools.tells1 n xs) (Tells1.none)
noncomputable def midrangebase_OwnStorage.cut (r : Nat) : Option Keep := match r with  | _ => none
theorem midrangebase_OwnStorage.e_eq {R : Type} (n : Nat) (rec : List Item → St → Option R) (K : AV → Option R) (a0 : ByteArray) (a1 : List AV) :
    goK G (midrangebase_OwnStorage.C n) midrangebase_OwnStorage.cut (fun S => finK G Try.f19.resultTypes.toList Try.f19.results.toList S K) rec 1000 [.code (Try.f19.body.getD .skip)] (Ev.start Try.f19 [AV.agg [vs a0, .sl true 1 a1]]) = midrangebase_OwnStorage.e n  (fun p => K (.agg [vs p.1, .fr true 1 p.2])) a0 a1 := by kernel_rfl
noncomputable def midrangebase_OwnStorage.F (n : Nat) (a0 : ByteArray) (a1 : List AV) : Option (ByteArray × List AV) := midrangebase_OwnStorage.e n  Option.some a0 a1
noncomputable def midrangebase_OwnStorage.dec (x : AV) : Option (ByteArray × List AV) := match x with | .agg [.v (.string p0), .fr true 1 p1] => Option.some (p0, p1) | _ => none
theorem midrangebase_OwnStorage.dec_inv {p : ByteArray × List AV} (y : AV) (h : midrangebase_OwnStorage.dec y = some p) : y = .agg [vs p.1, .fr true 1 p.2] := by
  unfold midrangebase_OwnStorage.dec at h
  split at h
  · cases h; rfl
  · cases h
theorem midrangebase_OwnStorage.hands (n : Nat) (a0 : ByteArray) (a1 : List AV) {p : ByteArray × List AV} (h : midrangebase_OwnStorage.F n a0 a1 = some p) : HandsIn Try.prog 19 [AV.agg [vs a0, .sl true 1 a1]] (.agg [vs p.1, .fr true 1 p.2]) := by
  refine hands_of cfg mixed (fun _ => rfl) (midrangebase_OwnStorage.tells n) (fn := Try.f19) Try.func19 (by kernel_rfl) (by kernel_rfl) (cut := midrangebase_OwnStorage.cut) (K := midrangebase_OwnStorage.dec) (r := p) (n := n) midrangebase_OwnStorage.dec_inv ?_
  rw [funK_getD (by kernel_rfl)]
  have h1 := midrangebase_OwnStorage.e_eq n (runK G (midrangebase_OwnStorage.C n) midrangebase_OwnStorage.cut (fun S => finK G Try.f19.resultTypes.toList Try.f19.results.toList S midrangebase_OwnStorage.dec) n) midrangebase_OwnStorage.dec a0 a1
  exact h1.trans h
noncomputable def midrangebase_OwnStorage.via {R : Type} (n : Nat) (xs : List AV) : (AV → Option R) → Option R := match xs with | [.agg [.v (.string a0), .sl true 1 a1]] => fun K => (midrangebase_OwnStorage.F n a0 a1).bind fun p => K (.agg [vs p.1, .fr true 1 p.2]) | _ => fun _ => none
theorem midrangebase_OwnStorage.tells1 {R : Type} (n : Nat) (xs : List AV) : Tells1 (R := R) Try.prog 19 xs (midrangebase_OwnStorage.via n xs) := by
  unfold midrangebase_OwnStorage.via
  split
  · exact Tells1.of (fun p hp => (midrangebase_OwnStorage.hands n _ _ hp).hands)
  · exact Tells1.none
end Go.Proofs.Ytgmpnhfnkhohiaa.Ev

/- slices.Clone[[]bool,bool], out of the library's contract. Printed by the session's own program. -/
namespace Go.Proofs.Ytgmpnhfnkhohiaa.Ev
open Go Go.Proofs Go.Proofs.Ev
set_option linter.unusedVariables false
set_option maxRecDepth 100000
noncomputable def slices_Clone_bool_bool.F (n : Nat) (xs : List AV) : Option (List AV) := bif decide (xs.length ≤ most) then Option.some xs else none
theorem slices_Clone_bool_bool.hands (n : Nat) (xs : List AV) {p : List AV} (h : slices_Clone_bool_bool.F n xs = some p) : HandsIn Try.prog 64 [.sl true 1 xs] (.fr true 1 p) := by
  unfold slices_Clone_bool_bool.F at h
  cases hc : decide (xs.length ≤ most) with
  | false => rw [hc] at h; cases h
  | true =>
    rw [hc] at h
    cases h
    exact clone_hands (G := G) Try.lay64 cfg (ei := ⟨.bool, 1, 1, false, [.bool], [.bool false]⟩) rfl (by decide) (by decide) (fn := Try.f64) Try.func64 (by kernel_rfl) (by kernel_rfl) xs (of_decide_eq_true hc)
noncomputable def slices_Clone_bool_bool.via {R : Type} (n : Nat) (ys : List AV) : (AV → Option R) → Option R := match ys with | [.sl true 1 xs] => fun K => (slices_Clone_bool_bool.F n xs).bind fun p => K (.fr true 1 p) | _ => fun _ => none
theorem slices_Clone_bool_bool.tells1 {R : Type} (n : Nat) (ys : List AV) : Tells1 (R := R) Try.prog 64 ys (slices_Clone_bool_bool.via n ys) := by
  unfold slices_Clone_bool_bool.via
  split
  · exact Tells1.of (fun p hp => (slices_Clone_bool_bool.hands n _ hp).hands)
  · exact Tells1.none
end Go.Proofs.Ytgmpnhfnkhohiaa.Ev

/- midrange/tagged.put, out of its evaluation. Printed by the session's own program. -/
namespace Go.Proofs.Ytgmpnhfnkhohiaa.Ev
open Go Go.Proofs Go.Proofs.Ev
set_option linter.unusedVariables false
set_option maxRecDepth 100000
/-! midrange/tagged.put: function 53 -/
noncomputable def tagged_put.e {R : Type} (n : Nat)  (k : ByteArray × List AV → Option R) (a0 : ByteArray) (a1 : List AV) (a2 : Int) (a3 : ByteArray) : Option R :=
  bif decide ((0 : Int) ≤ a2) && decide ((a2 : Int) ≤ ((a0.size : Nat) : Int)) then (chk (decide ((a0.extract 0 (a2).toNat).size + a3.size ≤ 9223372036854775807)) (let y1 : ByteArray := (a0.extract 0 (a2).toNat) ++ a3
  let y2 : Int := IntKind.i64.wrap (a2 + ((a3.size : Nat) : Int))
  bif decide ((0 : Int) ≤ y2) && decide ((y2 : Int) ≤ ((a0.size : Nat) : Int)) then (let y3 : ByteArray := a0.extract (y2).toNat a0.size
  chk (decide (y1.size + y3.size ≤ 9223372036854775807)) ((slices_Clone_bool_bool.F n a1).bind fun p4 =>
  let y5 : Bool := !(a3.toList == (⟨#[]⟩ : ByteArray).toList)
  bif y5 then (let y6 : Int := IntKind.i64.wrap (Int.tdiv a2 16)
  let y7 : Int := IntKind.i64.wrap (a2 + ((a3.size : Nat) : Int))
  let y8 : Int := IntKind.i64.wrap (Int.tdiv (IntKind.i64.wrap (y7 - 1)) 16)
  bif decide ((0 : Int) ≤ IntKind.i64.wrap (y8 + 1)) && decide ((IntKind.i64.wrap (y8 + 1) : Int) ≤ ((p4.length : Nat) : Int)) then (bif decide ((0 : Int) ≤ y6) && decide ((y6 : Int) ≤ IntKind.i64.wrap (y8 + 1)) then (let y9 : List AV := p4.take ((y6).toNat) ++ List.replicate (((IntKind.i64.wrap (y8 + 1)) - y6).toNat) (vb false) ++ p4.drop (((IntKind.i64.wrap (y8 + 1)) - y6).toNat + ((y6).toNat))
  k (y1 ++ y3, y9)) else none) else none) else (k (y1 ++ y3, p4)))) else none)) else none
noncomputable def tagged_put.C {R : Type} (n : Nat) (f : FuncId) (xs : List AV) : (AV → Option R) → Option R :=
  bif Nat.beq f 64 then slices_Clone_bool_bool.via n xs else fun _ => none
theorem tagged_put.tells {R : Type} (n : Nat) : Tells (R := R) Try.prog (tagged_put.C n) := fun _ xs => tells_at (slices_Clone_bool_bool.tells1 n xs) (Tells1.none)
noncomputable def tagged_put.cut (r : Nat) : Option Keep := match r with  | _ => none
theorem tagged_put.e_eq {R : Type} (n : Nat) (rec : List Item → St → Option R) (K : AV → Option R) (a0 : ByteArray) (a1 : List AV) (a2 : Int) (a3 : ByteArray) :
    goK G (tagged_put.C n) tagged_put.cut (fun S => finK G Try.f53.resultTypes.toList Try.f53.results.toList S K) rec 1000 [.code (Try.f53.body.getD .skip)] (Ev.start Try.f53 [AV.agg [vs a0, .sl true 1 a1], vi a2, vs a3]) = tagged_put.e n  (fun p => K (.agg [vs p.1, .fr true 1 p.2])) a0 a1 a2 a3 := by kernel_rfl
noncomputable def tagged_put.F (n : Nat) (a0 : ByteArray) (a1 : List AV) (a2 : Int) (a3 : ByteArray) : Option (ByteArray × List AV) := tagged_put.e n  Option.some a0 a1 a2 a3
noncomputable def tagged_put.dec (x : AV) : Option (ByteArray × List AV) := match x with | .agg [.v (.string p0), .fr true 1 p1] => Option.some (p0, p1) | _ => none
theorem tagged_put.dec_inv {p : ByteArray × List AV} (y : AV) (h : tagged_put.dec y = some p) : y = .agg [vs p.1, .fr true 1 p.2] := by
  unfold tagged_put.dec at h
  split at h
  · cases h; rfl
  · cases h
theorem tagged_put.hands (n : Nat) (a0 : ByteArray) (a1 : List AV) (a2 : Int) (a3 : ByteArray) {p : ByteArray × List AV} (h : tagged_put.F n a0 a1 a2 a3 = some p) : HandsIn Try.prog 53 [AV.agg [vs a0, .sl true 1 a1], vi a2, vs a3] (.agg [vs p.1, .fr true 1 p.2]) := by
  refine hands_of cfg mixed (fun _ => rfl) (tagged_put.tells n) (fn := Try.f53) Try.func53 (by kernel_rfl) (by kernel_rfl) (cut := tagged_put.cut) (K := tagged_put.dec) (r := p) (n := n) tagged_put.dec_inv ?_
  rw [funK_getD (by kernel_rfl)]
  have h1 := tagged_put.e_eq n (runK G (tagged_put.C n) tagged_put.cut (fun S => finK G Try.f53.resultTypes.toList Try.f53.results.toList S tagged_put.dec) n) tagged_put.dec a0 a1 a2 a3
  exact h1.trans h
noncomputable def tagged_put.via {R : Type} (n : Nat) (xs : List AV) : (AV → Option R) → Option R := match xs with | [.agg [.v (.string a0), .sl true 1 a1], .v (.int .i64 a2), .v (.string a3)] => fun K => (tagged_put.F n a0 a1 a2 a3).bind fun p => K (.agg [vs p.1, .fr true 1 p.2]) | _ => fun _ => none
theorem tagged_put.tells1 {R : Type} (n : Nat) (xs : List AV) : Tells1 (R := R) Try.prog 53 xs (tagged_put.via n xs) := by
  unfold tagged_put.via
  split
  · exact Tells1.of (fun p hp => (tagged_put.hands n _ _ _ _ hp).hands)
  · exact Tells1.none
end Go.Proofs.Ytgmpnhfnkhohiaa.Ev

/- midrange/tagged.WriteBytes, out of its evaluation. Printed by the session's own program. -/
namespace Go.Proofs.Ytgmpnhfnkhohiaa.Ev
open Go Go.Proofs Go.Proofs.Ev
set_option linter.unusedVariables false
set_option maxRecDepth 100000
/-! midrange/tagged.WriteBytes: function 20 -/
noncomputable def tagged_WriteBytes.e {R : Type} (n : Nat)  (k : ByteArray × List AV × Int → Option R) (a0 : ByteArray) (a1 : List AV) (a2 : Int) (a3 : ByteArray) : Option R :=
  (tagged_inside.F n a0 a1 a2 ((a3.size : Nat) : Int)).bind fun p1 =>
  bif p1 != 0 then (k ((⟨#[]⟩ : ByteArray), [], p1)) else ((tagged_put.F n a0 a1 a2 a3).bind fun p2 =>
  k (p2.1, p2.2, 0))
noncomputable def tagged_WriteBytes.C {R : Type} (n : Nat) (f : FuncId) (xs : List AV) : (AV → Option R) → Option R :=
  bif Nat.beq f 51 then tagged_inside.via n xs else bif Nat.beq f 53 then tagged_put.via n xs else fun _ => none
theorem tagged_WriteBytes.tells {R : Type} (n : Nat) : Tells (R := R) Try.prog (tagged_WriteBytes.C n) := fun _ xs => tells_at (tagged_inside.tells1 n xs) (tells_at (tagged_put.tells1 n xs) (Tells1.none))
noncomputable def tagged_WriteBytes.cut (r : Nat) : Option Keep := match r with  | _ => none
theorem tagged_WriteBytes.e_eq {R : Type} (n : Nat) (rec : List Item → St → Option R) (K : AV → Option R) (a0 : ByteArray) (a1 : List AV) (a2 : Int) (a3 : ByteArray) :
    goK G (tagged_WriteBytes.C n) tagged_WriteBytes.cut (fun S => finK G Try.f20.resultTypes.toList Try.f20.results.toList S K) rec 1000 [.code (Try.f20.body.getD .skip)] (Ev.start Try.f20 [AV.agg [vs a0, .sl true 1 a1], vi a2, vs a3]) = tagged_WriteBytes.e n  (fun p => K (.tup [.agg [vs p.1, .fr true 1 p.2.1], vi p.2.2])) a0 a1 a2 a3 := by kernel_rfl
noncomputable def tagged_WriteBytes.F (n : Nat) (a0 : ByteArray) (a1 : List AV) (a2 : Int) (a3 : ByteArray) : Option (ByteArray × List AV × Int) := tagged_WriteBytes.e n  Option.some a0 a1 a2 a3
noncomputable def tagged_WriteBytes.dec (x : AV) : Option (ByteArray × List AV × Int) := match x with | .tup [.agg [.v (.string p0), .fr true 1 p1], .v (.int .i64 p2)] => Option.some (p0, p1, p2) | _ => none
theorem tagged_WriteBytes.dec_inv {p : ByteArray × List AV × Int} (y : AV) (h : tagged_WriteBytes.dec y = some p) : y = .tup [.agg [vs p.1, .fr true 1 p.2.1], vi p.2.2] := by
  unfold tagged_WriteBytes.dec at h
  split at h
  · cases h; rfl
  · cases h
theorem tagged_WriteBytes.hands (n : Nat) (a0 : ByteArray) (a1 : List AV) (a2 : Int) (a3 : ByteArray) {p : ByteArray × List AV × Int} (h : tagged_WriteBytes.F n a0 a1 a2 a3 = some p) : HandsIn Try.prog 20 [AV.agg [vs a0, .sl true 1 a1], vi a2, vs a3] (.tup [.agg [vs p.1, .fr true 1 p.2.1], vi p.2.2]) := by
  refine hands_of cfg mixed (fun _ => rfl) (tagged_WriteBytes.tells n) (fn := Try.f20) Try.func20 (by kernel_rfl) (by kernel_rfl) (cut := tagged_WriteBytes.cut) (K := tagged_WriteBytes.dec) (r := p) (n := n) tagged_WriteBytes.dec_inv ?_
  rw [funK_getD (by kernel_rfl)]
  have h1 := tagged_WriteBytes.e_eq n (runK G (tagged_WriteBytes.C n) tagged_WriteBytes.cut (fun S => finK G Try.f20.resultTypes.toList Try.f20.results.toList S tagged_WriteBytes.dec) n) tagged_WriteBytes.dec a0 a1 a2 a3
  exact h1.trans h
noncomputable def tagged_WriteBytes.via {R : Type} (n : Nat) (xs : List AV) : (AV → Option R) → Option R := match xs with | [.agg [.v (.string a0), .sl true 1 a1], .v (.int .i64 a2), .v (.string a3)] => fun K => (tagged_WriteBytes.F n a0 a1 a2 a3).bind fun p => K (.tup [.agg [vs p.1, .fr true 1 p.2.1], vi p.2.2]) | _ => fun _ => none
theorem tagged_WriteBytes.tells1 {R : Type} (n : Nat) (xs : List AV) : Tells1 (R := R) Try.prog 20 xs (tagged_WriteBytes.via n xs) := by
  unfold tagged_WriteBytes.via
  split
  · exact Tells1.of (fun p hp => (tagged_WriteBytes.hands n _ _ _ _ hp).hands)
  · exact Tells1.none
end Go.Proofs.Ytgmpnhfnkhohiaa.Ev

/- midrange/midrangeref03.quad, out of its evaluation. Printed by the session's own program. -/
namespace Go.Proofs.Ytgmpnhfnkhohiaa.Ev
open Go Go.Proofs Go.Proofs.Ev
set_option linter.unusedVariables false
set_option maxRecDepth 100000
/-! midrange/midrangeref03.quad: function 57 -/
noncomputable def midrangeref03_quad.e {R : Type} (n : Nat)  (k : ByteArray → Option R) (a0 : ByteArray) (a1 : List AV) (a2 : Int) : Option R :=
  let y1 : Int := IntKind.i64.wrap ((IntKind.i64.wrap (a2 * 16)) + 16)
  bif decide ((0 : Int) ≤ y1) && decide ((y1 : Int) ≤ ((a0.size : Nat) : Int)) then (bif decide ((0 : Int) ≤ IntKind.i64.wrap (a2 * 16)) && decide ((IntKind.i64.wrap (a2 * 16) : Int) ≤ y1) then (let y2 : ByteArray := a0.extract (IntKind.i64.wrap (a2 * 16)).toNat (y1).toNat
  k y2) else none) else none
noncomputable def midrangeref03_quad.C {R : Type} (n : Nat) (f : FuncId) (xs : List AV) : (AV → Option R) → Option R :=
  fun _ => none
theorem midrangeref03_quad.tells {R : Type} (n : Nat) : Tells (R := R) Try.prog (midrangeref03_quad.C n) := fun _ xs => Tells1.none
noncomputable def midrangeref03_quad.cut (r : Nat) : Option Keep := match r with  | _ => none
theorem midrangeref03_quad.e_eq {R : Type} (n : Nat) (rec : List Item → St → Option R) (K : AV → Option R) (a0 : ByteArray) (a1 : List AV) (a2 : Int) :
    goK G (midrangeref03_quad.C n) midrangeref03_quad.cut (fun S => finK G Try.f57.resultTypes.toList Try.f57.results.toList S K) rec 1000 [.code (Try.f57.body.getD .skip)] (Ev.start Try.f57 [AV.agg [vs a0, .sl true 1 a1], vi a2]) = midrangeref03_quad.e n  (fun p => K (vs p)) a0 a1 a2 := by kernel_rfl
noncomputable def midrangeref03_quad.F (n : Nat) (a0 : ByteArray) (a1 : List AV) (a2 : Int) : Option (ByteArray) := midrangeref03_quad.e n  Option.some a0 a1 a2
noncomputable def midrangeref03_quad.dec (x : AV) : Option (ByteArray) := match x with | .v (.string p0) => Option.some p0 | _ => none
theorem midrangeref03_quad.dec_inv {p : ByteArray} (y : AV) (h : midrangeref03_quad.dec y = some p) : y = vs p := by
  unfold midrangeref03_quad.dec at h
  split at h
  · cases h; rfl
  · cases h
theorem midrangeref03_quad.hands (n : Nat) (a0 : ByteArray) (a1 : List AV) (a2 : Int) {p : ByteArray} (h : midrangeref03_quad.F n a0 a1 a2 = some p) : HandsIn Try.prog 57 [AV.agg [vs a0, .sl true 1 a1], vi a2] (vs p) := by
  refine hands_of cfg mixed (fun _ => rfl) (midrangeref03_quad.tells n) (fn := Try.f57) Try.func57 (by kernel_rfl) (by kernel_rfl) (cut := midrangeref03_quad.cut) (K := midrangeref03_quad.dec) (r := p) (n := n) midrangeref03_quad.dec_inv ?_
  rw [funK_getD (by kernel_rfl)]
  have h1 := midrangeref03_quad.e_eq n (runK G (midrangeref03_quad.C n) midrangeref03_quad.cut (fun S => finK G Try.f57.resultTypes.toList Try.f57.results.toList S midrangeref03_quad.dec) n) midrangeref03_quad.dec a0 a1 a2
  exact h1.trans h
noncomputable def midrangeref03_quad.via {R : Type} (n : Nat) (xs : List AV) : (AV → Option R) → Option R := match xs with | [.agg [.v (.string a0), .sl true 1 a1], .v (.int .i64 a2)] => fun K => (midrangeref03_quad.F n a0 a1 a2).bind fun p => K (vs p) | _ => fun _ => none
theorem midrangeref03_quad.tells1 {R : Type} (n : Nat) (xs : List AV) : Tells1 (R := R) Try.prog 57 xs (midrangeref03_quad.via n xs) := by
  unfold midrangeref03_quad.via
  split
  · exact Tells1.of (fun p hp => (midrangeref03_quad.hands n _ _ _ hp).hands)
  · exact Tells1.none
end Go.Proofs.Ytgmpnhfnkhohiaa.Ev

/- midrange/midrangeref03.Check, out of its evaluation. Printed by the session's own program. -/
namespace Go.Proofs.Ytgmpnhfnkhohiaa.Ev
open Go Go.Proofs Go.Proofs.Ev
set_option linter.unusedVariables false
set_option maxRecDepth 100000
/-! midrange/midrangeref03.Check: function 43 -/
noncomputable def midrangeref03_Check.r9 {R : Type} (n : Nat) (c9 : Int → Int → ByteArray → List AV → Option R) (k : Int × Int → Option R) (z1 : Int) (z2 : Int) (z3 : ByteArray) (z4 : List AV) : Option R :=
  bif decide (z2 < z1) then (bif decide ((0 : Int) ≤ z2) && decide (z2 < ((z4.length : Nat) : Int)) then (withCons ((z4.getD ((z2).toNat) .undef).cells) fun c5 r6 =>
  withBool c5 fun b7 =>
  bif b7 then ((midrangeref03_quad.F n z3 z4 z2).bind fun p8 =>
  (midrangeref03_In.F n p8).bind fun p9 =>
  bif p9.2.2.2.2 != 0 then (k (z2, 22)) else (c9 z1 (IntKind.i64.wrap (z2 + 1)) z3 z4)) else (c9 z1 (IntKind.i64.wrap (z2 + 1)) z3 z4)) else none) else (k (z1, 0))
noncomputable def midrangeref03_Check.e {R : Type} (n : Nat) (c9 : Int → Int → ByteArray → List AV → Option R) (k : Int × Int → Option R) (a0 : ByteArray) (a1 : List AV) : Option R :=
  let y1 : Bool := decide (((a0.size : Nat) : Int) > 1024)
  bif y1 then (k (0, 2)) else (let y2 : Int := Int.tmod ((a0.size : Nat) : Int) 16
  bif y2 != 0 then (k (0, 18)) else (let y3 : Int := IntKind.i64.wrap (Int.tdiv ((a0.size : Nat) : Int) 16)
  let y4 : Bool := ((a1.length : Nat) : Int) != y3
  bif y4 then (k (0, 6)) else (c9 y3 0 a0 a1)))
noncomputable def midrangeref03_Check.C {R : Type} (n : Nat) (f : FuncId) (xs : List AV) : (AV → Option R) → Option R :=
  bif Nat.beq f 16 then midrangeref03_In.via n xs else bif Nat.beq f 57 then midrangeref03_quad.via n xs else fun _ => none
theorem midrangeref03_Check.tells {R : Type} (n : Nat) : Tells (R := R) Try.prog (midrangeref03_Check.C n) := fun _ xs => tells_at (midrangeref03_In.tells1 n xs) (tells_at (midrangeref03_quad.tells1 n xs) (Tells1.none))
noncomputable def midrangeref03_Check.cut (r : Nat) : Option Keep := match r with | 9 => Option.some ⟨[1, 4, 5], []⟩ | _ => none
noncomputable def midrangeref03_Check.t9 : List Item := (todoOf 9 1000 [.code (Try.f43.body.getD .skip)]).getD []
noncomputable def midrangeref03_Check.s9 (z1 : Int) (z2 : Int) (z3 : ByteArray) (z4 : List AV) : St := ⟨[.undef, .ptr 0 0, .undef, .undef, vi z1, vi z2, .undef, .undef, .undef, .undef, .undef, .undef, .undef, .undef, .undef, .undef, .undef, .undef, .undef, .undef, .undef, .undef, .undef, .undef, .undef, .undef, .undef, .undef, .undef, .undef, .undef, .undef, .undef, .undef, .undef, .undef, .undef, .undef, .undef, .undef, .undef, .undef, .undef, .undef, .undef, .undef, .undef], Mem.ofList [.box [vs z3, .sl true 1 z4]], 1⟩
theorem midrangeref03_Check.e_eq {R : Type} (n : Nat) (rec : List Item → St → Option R) (K : AV → Option R) (a0 : ByteArray) (a1 : List AV) :
    goK G (midrangeref03_Check.C n) midrangeref03_Check.cut (fun S => finK G Try.f43.resultTypes.toList Try.f43.results.toList S K) rec 1000 [.code (Try.f43.body.getD .skip)] (Ev.start Try.f43 [AV.agg [vs a0, .sl true 1 a1]]) = midrangeref03_Check.e n (fun z1 z2 z3 z4 => rec midrangeref03_Check.t9 (midrangeref03_Check.s9 z1 z2 z3 z4)) (fun p => K (.tup [vi p.1, vi p.2])) a0 a1 := by kernel_rfl
theorem midrangeref03_Check.r9_eq {R : Type} (n : Nat) (rec : List Item → St → Option R) (K : AV → Option R) (z1 : Int) (z2 : Int) (z3 : ByteArray) (z4 : List AV) :
    atK G (midrangeref03_Check.C n) midrangeref03_Check.cut (fun S => finK G Try.f43.resultTypes.toList Try.f43.results.toList S K) rec midrangeref03_Check.t9 (midrangeref03_Check.s9 z1 z2 z3 z4) = midrangeref03_Check.r9 n (fun z1 z2 z3 z4 => rec midrangeref03_Check.t9 (midrangeref03_Check.s9 z1 z2 z3 z4)) (fun p => K (.tup [vi p.1, vi p.2])) z1 z2 z3 z4 := by kernel_rfl
noncomputable def midrangeref03_Check.l (n : Nat) : Nat → (Int → Int → ByteArray → List AV → Option (Int × Int))
  | 0 => (fun _ _ _ _ => none)
  | m + 1 => midrangeref03_Check.r9 n (midrangeref03_Check.l n m) Option.some
noncomputable def midrangeref03_Check.F (n : Nat) (a0 : ByteArray) (a1 : List AV) : Option (Int × Int) := midrangeref03_Check.e n (midrangeref03_Check.l n n) Option.some a0 a1
noncomputable def midrangeref03_Check.dec (x : AV) : Option (Int × Int) := match x with | .tup [.v (.int .i64 p0), .v (.int .i64 p1)] => Option.some (p0, p1) | _ => none
theorem midrangeref03_Check.dec_inv {p : Int × Int} (y : AV) (h : midrangeref03_Check.dec y = some p) : y = .tup [vi p.1, vi p.2] := by
  unfold midrangeref03_Check.dec at h
  split at h
  · cases h; rfl
  · cases h
theorem midrangeref03_Check.l_eq (n m : Nat) : (∀ (z1 : Int) (z2 : Int) (z3 : ByteArray) (z4 : List AV), runK G (midrangeref03_Check.C n) midrangeref03_Check.cut (fun S => finK G Try.f43.resultTypes.toList Try.f43.results.toList S midrangeref03_Check.dec) m midrangeref03_Check.t9 (midrangeref03_Check.s9 z1 z2 z3 z4) = (midrangeref03_Check.l n m) z1 z2 z3 z4) := by
  induction m with
  | zero => exact fun z1 z2 z3 z4 => rfl
  | succ m ih =>
    have h9 := ih
    have e9 : (fun (z1 : Int) (z2 : Int) (z3 : ByteArray) (z4 : List AV) => runK G (midrangeref03_Check.C n) midrangeref03_Check.cut (fun S => finK G Try.f43.resultTypes.toList Try.f43.results.toList S midrangeref03_Check.dec) m midrangeref03_Check.t9 (midrangeref03_Check.s9 z1 z2 z3 z4)) = (midrangeref03_Check.l n m) := by funext z1 z2 z3 z4; exact h9 z1 z2 z3 z4
    have q9 : ∀ (z1 : Int) (z2 : Int) (z3 : ByteArray) (z4 : List AV), runK G (midrangeref03_Check.C n) midrangeref03_Check.cut (fun S => finK G Try.f43.resultTypes.toList Try.f43.results.toList S midrangeref03_Check.dec) (m + 1) midrangeref03_Check.t9 (midrangeref03_Check.s9 z1 z2 z3 z4) = (midrangeref03_Check.l n (m + 1)) z1 z2 z3 z4 := by
      intro z1 z2 z3 z4
      rw [runK_succ]
      refine (midrangeref03_Check.r9_eq n _ midrangeref03_Check.dec z1 z2 z3 z4).trans ?_
      rw [e9]
      rfl
    exact q9
theorem midrangeref03_Check.hands (n : Nat) (a0 : ByteArray) (a1 : List AV) {p : Int × Int} (h : midrangeref03_Check.F n a0 a1 = some p) : HandsIn Try.prog 43 [AV.agg [vs a0, .sl true 1 a1]] (.tup [vi p.1, vi p.2]) := by
  refine hands_of cfg mixed (fun _ => rfl) (midrangeref03_Check.tells n) (fn := Try.f43) Try.func43 (by kernel_rfl) (by kernel_rfl) (cut := midrangeref03_Check.cut) (K := midrangeref03_Check.dec) (r := p) (n := n) midrangeref03_Check.dec_inv ?_
  rw [funK_getD (by kernel_rfl)]
  have h1 := midrangeref03_Check.e_eq n (runK G (midrangeref03_Check.C n) midrangeref03_Check.cut (fun S => finK G Try.f43.resultTypes.toList Try.f43.results.toList S midrangeref03_Check.dec) n) midrangeref03_Check.dec a0 a1
  have hl := midrangeref03_Check.l_eq n n
  simp only [hl] at h1
  exact h1.trans h
noncomputable def midrangeref03_Check.via {R : Type} (n : Nat) (xs : List AV) : (AV → Option R) → Option R := match xs with | [.agg [.v (.string a0), .sl true 1 a1]] => fun K => (midrangeref03_Check.F n a0 a1).bind fun p => K (.tup [vi p.1, vi p.2]) | _ => fun _ => none
theorem midrangeref03_Check.tells1 {R : Type} (n : Nat) (xs : List AV) : Tells1 (R := R) Try.prog 43 xs (midrangeref03_Check.via n xs) := by
  unfold midrangeref03_Check.via
  split
  · exact Tells1.of (fun p hp => (midrangeref03_Check.hands n _ _ hp).hands)
  · exact Tells1.none
end Go.Proofs.Ytgmpnhfnkhohiaa.Ev

/- midrange/midrangeref03.Err, out of its evaluation. Printed by the session's own program. -/
namespace Go.Proofs.Ytgmpnhfnkhohiaa.Ev
open Go Go.Proofs Go.Proofs.Ev
set_option linter.unusedVariables false
set_option maxRecDepth 100000
/-! midrange/midrangeref03.Err: function 21 -/
noncomputable def midrangeref03_Err.e {R : Type} (n : Nat)  (k : Int → Option R) (a0 : ByteArray) (a1 : List AV) : Option R :=
  (midrangeref03_Check.F n a0 a1).bind fun p1 =>
  k p1.2
noncomputable def midrangeref03_Err.C {R : Type} (n : Nat) (f : FuncId) (xs : List AV) : (AV → Option R) → Option R :=
  bif Nat.beq f 43 then midrangeref03_Check.via n xs else fun _ => none
theorem midrangeref03_Err.tells {R : Type} (n : Nat) : Tells (R := R) Try.prog (midrangeref03_Err.C n) := fun _ xs => tells_at (midrangeref03_Check.tells1 n xs) (Tells1.none)
noncomputable def midrangeref03_Err.cut (r : Nat) : Option Keep := match r with  | _ => none
theorem midrangeref03_Err.e_eq {R : Type} (n : Nat) (rec : List Item → St → Option R) (K : AV → Option R) (a0 : ByteArray) (a1 : List AV) :
    goK G (midrangeref03_Err.C n) midrangeref03_Err.cut (fun S => finK G Try.f21.resultTypes.toList Try.f21.results.toList S K) rec 1000 [.code (Try.f21.body.getD .skip)] (Ev.start Try.f21 [AV.agg [vs a0, .sl true 1 a1]]) = midrangeref03_Err.e n  (fun p => K (vi p)) a0 a1 := by kernel_rfl
noncomputable def midrangeref03_Err.F (n : Nat) (a0 : ByteArray) (a1 : List AV) : Option (Int) := midrangeref03_Err.e n  Option.some a0 a1
noncomputable def midrangeref03_Err.dec (x : AV) : Option (Int) := match x with | .v (.int .i64 p0) => Option.some p0 | _ => none
theorem midrangeref03_Err.dec_inv {p : Int} (y : AV) (h : midrangeref03_Err.dec y = some p) : y = vi p := by
  unfold midrangeref03_Err.dec at h
  split at h
  · cases h; rfl
  · cases h
theorem midrangeref03_Err.hands (n : Nat) (a0 : ByteArray) (a1 : List AV) {p : Int} (h : midrangeref03_Err.F n a0 a1 = some p) : HandsIn Try.prog 21 [AV.agg [vs a0, .sl true 1 a1]] (vi p) := by
  refine hands_of cfg mixed (fun _ => rfl) (midrangeref03_Err.tells n) (fn := Try.f21) Try.func21 (by kernel_rfl) (by kernel_rfl) (cut := midrangeref03_Err.cut) (K := midrangeref03_Err.dec) (r := p) (n := n) midrangeref03_Err.dec_inv ?_
  rw [funK_getD (by kernel_rfl)]
  have h1 := midrangeref03_Err.e_eq n (runK G (midrangeref03_Err.C n) midrangeref03_Err.cut (fun S => finK G Try.f21.resultTypes.toList Try.f21.results.toList S midrangeref03_Err.dec) n) midrangeref03_Err.dec a0 a1
  exact h1.trans h
noncomputable def midrangeref03_Err.via {R : Type} (n : Nat) (xs : List AV) : (AV → Option R) → Option R := match xs with | [.agg [.v (.string a0), .sl true 1 a1]] => fun K => (midrangeref03_Err.F n a0 a1).bind fun p => K (vi p) | _ => fun _ => none
theorem midrangeref03_Err.tells1 {R : Type} (n : Nat) (xs : List AV) : Tells1 (R := R) Try.prog 21 xs (midrangeref03_Err.via n xs) := by
  unfold midrangeref03_Err.via
  split
  · exact Tells1.of (fun p hp => (midrangeref03_Err.hands n _ _ hp).hands)
  · exact Tells1.none
end Go.Proofs.Ytgmpnhfnkhohiaa.Ev

/- midrange/midrangelaw03.none, out of its evaluation. Printed by the session's own program. -/
namespace Go.Proofs.Ytgmpnhfnkhohiaa.Ev
open Go Go.Proofs Go.Proofs.Ev
set_option linter.unusedVariables false
set_option maxRecDepth 100000
/-! midrange/midrangelaw03.none: function 22 -/
noncomputable def midrangelaw03_none.e {R : Type} (n : Nat)  (k : Bool → Option R) (a0 : ByteArray) (a1 : List AV) : Option R :=
  bif ((a0.size : Nat) : Int) == 0 then (let y1 : Bool := ((a1.length : Nat) : Int) == 0
  k y1) else (k false)
noncomputable def midrangelaw03_none.C {R : Type} (n : Nat) (f : FuncId) (xs : List AV) : (AV → Option R) → Option R :=
  fun _ => none
theorem midrangelaw03_none.tells {R : Type} (n : Nat) : Tells (R := R) Try.prog (midrangelaw03_none.C n) := fun _ xs => Tells1.none
noncomputable def midrangelaw03_none.cut (r : Nat) : Option Keep := match r with  | _ => none
theorem midrangelaw03_none.e_eq {R : Type} (n : Nat) (rec : List Item → St → Option R) (K : AV → Option R) (a0 : ByteArray) (a1 : List AV) :
    goK G (midrangelaw03_none.C n) midrangelaw03_none.cut (fun S => finK G Try.f22.resultTypes.toList Try.f22.results.toList S K) rec 1000 [.code (Try.f22.body.getD .skip)] (Ev.start Try.f22 [AV.agg [vs a0, .sl true 1 a1]]) = midrangelaw03_none.e n  (fun p => K (vb p)) a0 a1 := by kernel_rfl
noncomputable def midrangelaw03_none.F (n : Nat) (a0 : ByteArray) (a1 : List AV) : Option (Bool) := midrangelaw03_none.e n  Option.some a0 a1
noncomputable def midrangelaw03_none.dec (x : AV) : Option (Bool) := match x with | .v (.bool p0) => Option.some p0 | _ => none
theorem midrangelaw03_none.dec_inv {p : Bool} (y : AV) (h : midrangelaw03_none.dec y = some p) : y = vb p := by
  unfold midrangelaw03_none.dec at h
  split at h
  · cases h; rfl
  · cases h
theorem midrangelaw03_none.hands (n : Nat) (a0 : ByteArray) (a1 : List AV) {p : Bool} (h : midrangelaw03_none.F n a0 a1 = some p) : HandsIn Try.prog 22 [AV.agg [vs a0, .sl true 1 a1]] (vb p) := by
  refine hands_of cfg mixed (fun _ => rfl) (midrangelaw03_none.tells n) (fn := Try.f22) Try.func22 (by kernel_rfl) (by kernel_rfl) (cut := midrangelaw03_none.cut) (K := midrangelaw03_none.dec) (r := p) (n := n) midrangelaw03_none.dec_inv ?_
  rw [funK_getD (by kernel_rfl)]
  have h1 := midrangelaw03_none.e_eq n (runK G (midrangelaw03_none.C n) midrangelaw03_none.cut (fun S => finK G Try.f22.resultTypes.toList Try.f22.results.toList S midrangelaw03_none.dec) n) midrangelaw03_none.dec a0 a1
  exact h1.trans h
noncomputable def midrangelaw03_none.via {R : Type} (n : Nat) (xs : List AV) : (AV → Option R) → Option R := match xs with | [.agg [.v (.string a0), .sl true 1 a1]] => fun K => (midrangelaw03_none.F n a0 a1).bind fun p => K (vb p) | _ => fun _ => none
theorem midrangelaw03_none.tells1 {R : Type} (n : Nat) (xs : List AV) : Tells1 (R := R) Try.prog 22 xs (midrangelaw03_none.via n xs) := by
  unfold midrangelaw03_none.via
  split
  · exact Tells1.of (fun p hp => (midrangelaw03_none.hands n _ _ hp).hands)
  · exact Tells1.none
end Go.Proofs.Ytgmpnhfnkhohiaa.Ev

/- midrange/midrangeref03.IsRange, out of its evaluation. Printed by the session's own program. -/
namespace Go.Proofs.Ytgmpnhfnkhohiaa.Ev
open Go Go.Proofs Go.Proofs.Ev
set_option linter.unusedVariables false
set_option maxRecDepth 100000
/-! midrange/midrangeref03.IsRange: function 23 -/
noncomputable def midrangeref03_IsRange.e {R : Type} (n : Nat)  (k : Bool → Option R) (a0 : ByteArray) (a1 : List AV) (a2 : Int) (a3 : Int) : Option R :=
  (midrangebase_Within.F n a2 0 ((a0.size : Nat) : Int)).bind fun p1 =>
  bif p1 then (let y2 : Int := IntKind.i64.wrap (((a0.size : Nat) : Int) - a2)
  (midrangebase_Within.F n a3 0 y2).bind fun p3 =>
  k p3) else (k false)
noncomputable def midrangeref03_IsRange.C {R : Type} (n : Nat) (f : FuncId) (xs : List AV) : (AV → Option R) → Option R :=
  bif Nat.beq f 40 then midrangebase_Within.via n xs else fun _ => none
theorem midrangeref03_IsRange.tells {R : Type} (n : Nat) : Tells (R := R) Try.prog (midrangeref03_IsRange.C n) := fun _ xs => tells_at (midrangebase_Within.tells1 n xs) (Tells1.none)
noncomputable def midrangeref03_IsRange.cut (r : Nat) : Option Keep := match r with  | _ => none
theorem midrangeref03_IsRange.e_eq {R : Type} (n : Nat) (rec : List Item → St → Option R) (K : AV → Option R) (a0 : ByteArray) (a1 : List AV) (a2 : Int) (a3 : Int) :
    goK G (midrangeref03_IsRange.C n) midrangeref03_IsRange.cut (fun S => finK G Try.f23.resultTypes.toList Try.f23.results.toList S K) rec 1000 [.code (Try.f23.body.getD .skip)] (Ev.start Try.f23 [AV.agg [vs a0, .sl true 1 a1], vi a2, vi a3]) = midrangeref03_IsRange.e n  (fun p => K (vb p)) a0 a1 a2 a3 := by kernel_rfl
noncomputable def midrangeref03_IsRange.F (n : Nat) (a0 : ByteArray) (a1 : List AV) (a2 : Int) (a3 : Int) : Option (Bool) := midrangeref03_IsRange.e n  Option.some a0 a1 a2 a3
noncomputable def midrangeref03_IsRange.dec (x : AV) : Option (Bool) := match x with | .v (.bool p0) => Option.some p0 | _ => none
theorem midrangeref03_IsRange.dec_inv {p : Bool} (y : AV) (h : midrangeref03_IsRange.dec y = some p) : y = vb p := by
  unfold midrangeref03_IsRange.dec at h
  split at h
  · cases h; rfl
  · cases h
theorem midrangeref03_IsRange.hands (n : Nat) (a0 : ByteArray) (a1 : List AV) (a2 : Int) (a3 : Int) {p : Bool} (h : midrangeref03_IsRange.F n a0 a1 a2 a3 = some p) : HandsIn Try.prog 23 [AV.agg [vs a0, .sl true 1 a1], vi a2, vi a3] (vb p) := by
  refine hands_of cfg mixed (fun _ => rfl) (midrangeref03_IsRange.tells n) (fn := Try.f23) Try.func23 (by kernel_rfl) (by kernel_rfl) (cut := midrangeref03_IsRange.cut) (K := midrangeref03_IsRange.dec) (r := p) (n := n) midrangeref03_IsRange.dec_inv ?_
  rw [funK_getD (by kernel_rfl)]
  have h1 := midrangeref03_IsRange.e_eq n (runK G (midrangeref03_IsRange.C n) midrangeref03_IsRange.cut (fun S => finK G Try.f23.resultTypes.toList Try.f23.results.toList S midrangeref03_IsRange.dec) n) midrangeref03_IsRange.dec a0 a1 a2 a3
  exact h1.trans h
noncomputable def midrangeref03_IsRange.via {R : Type} (n : Nat) (xs : List AV) : (AV → Option R) → Option R := match xs with | [.agg [.v (.string a0), .sl true 1 a1], .v (.int .i64 a2), .v (.int .i64 a3)] => fun K => (midrangeref03_IsRange.F n a0 a1 a2 a3).bind fun p => K (vb p) | _ => fun _ => none
theorem midrangeref03_IsRange.tells1 {R : Type} (n : Nat) (xs : List AV) : Tells1 (R := R) Try.prog 23 xs (midrangeref03_IsRange.via n xs) := by
  unfold midrangeref03_IsRange.via
  split
  · exact Tells1.of (fun p hp => (midrangeref03_IsRange.hands n _ _ _ _ hp).hands)
  · exact Tells1.none
end Go.Proofs.Ytgmpnhfnkhohiaa.Ev

/- midrange/midrangebase.Bools, out of its evaluation. Printed by the session's own program. -/
namespace Go.Proofs.Ytgmpnhfnkhohiaa.Ev
open Go Go.Proofs Go.Proofs.Ev
set_option linter.unusedVariables false
set_option maxRecDepth 100000
/-! midrange/midrangebase.Bools: function 54 -/
noncomputable def midrangebase_Bools.r4 {R : Type} (n : Nat) (c4 : List AV → List AV → Int → Option R) (k : Bool → Option R) (z1 : List AV) (z2 : List AV) (z3 : Int) : Option R :=
  let y2 : Bool := decide (z3 < ((z1.length : Nat) : Int))
  bif y2 then (bif decide ((0 : Int) ≤ z3) && decide (z3 < ((z1.length : Nat) : Int)) then (withCons ((z1.getD ((z3).toNat) .undef).cells) fun c3 r4 =>
  withBool c3 fun b5 =>
  bif decide ((0 : Int) ≤ z3) && decide (z3 < ((z2.length : Nat) : Int)) then (withCons ((z2.getD ((z3).toNat) .undef).cells) fun c6 r7 =>
  withBool c6 fun b8 =>
  bif !(b5 == b8) then (k false) else (c4 z1 z2 (IntKind.i64.wrap (z3 + 1)))) else none) else none) else (k true)
noncomputable def midrangebase_Bools.e {R : Type} (n : Nat) (c4 : List AV → List AV → Int → Option R) (k : Bool → Option R) (a0 : List AV) (a1 : List AV) : Option R :=
  let y1 : Bool := ((a0.length : Nat) : Int) != ((a1.length : Nat) : Int)
  bif y1 then (k false) else (c4 a0 a1 0)
noncomputable def midrangebase_Bools.C {R : Type} (n : Nat) (f : FuncId) (xs : List AV) : (AV → Option R) → Option R :=
  fun _ => none
theorem midrangebase_Bools.tells {R : Type} (n : Nat) : Tells (R := R) Try.prog (midrangebase_Bools.C n) := fun _ xs => Tells1.none
noncomputable def midrangebase_Bools.cut (r : Nat) : Option Keep := match r with | 4 => Option.some ⟨[0, 1, 5], []⟩ | _ => none
noncomputable def midrangebase_Bools.t4 : List Item := (todoOf 4 1000 [.code (Try.f54.body.getD .skip)]).getD []
noncomputable def midrangebase_Bools.s4 (z1 : List AV) (z2 : List AV) (z3 : Int) : St := ⟨[.sl true 1 z1, .sl true 1 z2, .undef, .undef, .undef, vi z3, .undef, .undef, .undef, .undef, .undef, .undef, .undef, .undef, .undef, .undef, .undef, .undef, .undef, .undef, .undef, .undef, .undef, .undef, .undef, .undef], Mem.ofList [], 0⟩
theorem midrangebase_Bools.e_eq {R : Type} (n : Nat) (rec : List Item → St → Option R) (K : AV → Option R) (a0 : List AV) (a1 : List AV) :
    goK G (midrangebase_Bools.C n) midrangebase_Bools.cut (fun S => finK G Try.f54.resultTypes.toList Try.f54.results.toList S K) rec 1000 [.code (Try.f54.body.getD .skip)] (Ev.start Try.f54 [.sl true 1 a0, .sl true 1 a1]) = midrangebase_Bools.e n (fun z1 z2 z3 => rec midrangebase_Bools.t4 (midrangebase_Bools.s4 z1 z2 z3)) (fun p => K (vb p)) a0 a1 := by kernel_rfl
theorem midrangebase_Bools.r4_eq {R : Type} (n : Nat) (rec : List Item → St → Option R) (K : AV → Option R) (z1 : List AV) (z2 : List AV) (z3 : Int) :
    atK G (midrangebase_Bools.C n) midrangebase_Bools.cut (fun S => finK G Try.f54.resultTypes.toList Try.f54.results.toList S K) rec midrangebase_Bools.t4 (midrangebase_Bools.s4 z1 z2 z3) = midrangebase_Bools.r4 n (fun z1 z2 z3 => rec midrangebase_Bools.t4 (midrangebase_Bools.s4 z1 z2 z3)) (fun p => K (vb p)) z1 z2 z3 := by kernel_rfl
noncomputable def midrangebase_Bools.l (n : Nat) : Nat → (List AV → List AV → Int → Option (Bool))
  | 0 => (fun _ _ _ => none)
  | m + 1 => midrangebase_Bools.r4 n (midrangebase_Bools.l n m) Option.some
noncomputable def midrangebase_Bools.F (n : Nat) (a0 : List AV) (a1 : List AV) : Option (Bool) := midrangebase_Bools.e n (midrangebase_Bools.l n n) Option.some a0 a1
noncomputable def midrangebase_Bools.dec (x : AV) : Option (Bool) := match x with | .v (.bool p0) => Option.some p0 | _ => none
theorem midrangebase_Bools.dec_inv {p : Bool} (y : AV) (h : midrangebase_Bools.dec y = some p) : y = vb p := by
  unfold midrangebase_Bools.dec at h
  split at h
  · cases h; rfl
  · cases h
theorem midrangebase_Bools.l_eq (n m : Nat) : (∀ (z1 : List AV) (z2 : List AV) (z3 : Int), runK G (midrangebase_Bools.C n) midrangebase_Bools.cut (fun S => finK G Try.f54.resultTypes.toList Try.f54.results.toList S midrangebase_Bools.dec) m midrangebase_Bools.t4 (midrangebase_Bools.s4 z1 z2 z3) = (midrangebase_Bools.l n m) z1 z2 z3) := by
  induction m with
  | zero => exact fun z1 z2 z3 => rfl
  | succ m ih =>
    have h4 := ih
    have e4 : (fun (z1 : List AV) (z2 : List AV) (z3 : Int) => runK G (midrangebase_Bools.C n) midrangebase_Bools.cut (fun S => finK G Try.f54.resultTypes.toList Try.f54.results.toList S midrangebase_Bools.dec) m midrangebase_Bools.t4 (midrangebase_Bools.s4 z1 z2 z3)) = (midrangebase_Bools.l n m) := by funext z1 z2 z3; exact h4 z1 z2 z3
    have q4 : ∀ (z1 : List AV) (z2 : List AV) (z3 : Int), runK G (midrangebase_Bools.C n) midrangebase_Bools.cut (fun S => finK G Try.f54.resultTypes.toList Try.f54.results.toList S midrangebase_Bools.dec) (m + 1) midrangebase_Bools.t4 (midrangebase_Bools.s4 z1 z2 z3) = (midrangebase_Bools.l n (m + 1)) z1 z2 z3 := by
      intro z1 z2 z3
      rw [runK_succ]
      refine (midrangebase_Bools.r4_eq n _ midrangebase_Bools.dec z1 z2 z3).trans ?_
      rw [e4]
      rfl
    exact q4
theorem midrangebase_Bools.hands (n : Nat) (a0 : List AV) (a1 : List AV) {p : Bool} (h : midrangebase_Bools.F n a0 a1 = some p) : HandsIn Try.prog 54 [.sl true 1 a0, .sl true 1 a1] (vb p) := by
  refine hands_of cfg mixed (fun _ => rfl) (midrangebase_Bools.tells n) (fn := Try.f54) Try.func54 (by kernel_rfl) (by kernel_rfl) (cut := midrangebase_Bools.cut) (K := midrangebase_Bools.dec) (r := p) (n := n) midrangebase_Bools.dec_inv ?_
  rw [funK_getD (by kernel_rfl)]
  have h1 := midrangebase_Bools.e_eq n (runK G (midrangebase_Bools.C n) midrangebase_Bools.cut (fun S => finK G Try.f54.resultTypes.toList Try.f54.results.toList S midrangebase_Bools.dec) n) midrangebase_Bools.dec a0 a1
  have hl := midrangebase_Bools.l_eq n n
  simp only [hl] at h1
  exact h1.trans h
noncomputable def midrangebase_Bools.via {R : Type} (n : Nat) (xs : List AV) : (AV → Option R) → Option R := match xs with | [.sl true 1 a0, .sl true 1 a1] => fun K => (midrangebase_Bools.F n a0 a1).bind fun p => K (vb p) | _ => fun _ => none
theorem midrangebase_Bools.tells1 {R : Type} (n : Nat) (xs : List AV) : Tells1 (R := R) Try.prog 54 xs (midrangebase_Bools.via n xs) := by
  unfold midrangebase_Bools.via
  split
  · exact Tells1.of (fun p hp => (midrangebase_Bools.hands n _ _ hp).hands)
  · exact Tells1.none
end Go.Proofs.Ytgmpnhfnkhohiaa.Ev

/- midrange/midrangebase.SameStorage, out of its evaluation. Printed by the session's own program. -/
namespace Go.Proofs.Ytgmpnhfnkhohiaa.Ev
open Go Go.Proofs Go.Proofs.Ev
set_option linter.unusedVariables false
set_option maxRecDepth 100000
/-! midrange/midrangebase.SameStorage: function 24 -/
noncomputable def midrangebase_SameStorage.e {R : Type} (n : Nat)  (k : Bool → Option R) (a0 : ByteArray) (a1 : List AV) (a2 : ByteArray) (a3 : List AV) : Option R :=
  bif a0.toList == a2.toList then ((midrangebase_Bools.F n a1 a3).bind fun p1 =>
  k p1) else (k false)
noncomputable def midrangebase_SameStorage.C {R : Type} (n : Nat) (f : FuncId) (xs : List AV) : (AV → Option R) → Option R :=
  bif Nat.beq f 54 then midrangebase_Bools.via n xs else fun _ => none
theorem midrangebase_SameStorage.tells {R : Type} (n : Nat) : Tells (R := R) Try.prog (midrangebase_SameStorage.C n) := fun _ xs => tells_at (midrangebase_Bools.tells1 n xs) (Tells1.none)
noncomputable def midrangebase_SameStorage.cut (r : Nat) : Option Keep := match r with  | _ => none
theorem midrangebase_SameStorage.e_eq {R : Type} (n : Nat) (rec : List Item → St → Option R) (K : AV → Option R) (a0 : ByteArray) (a1 : List AV) (a2 : ByteArray) (a3 : List AV) :
    goK G (midrangebase_SameStorage.C n) midrangebase_SameStorage.cut (fun S => finK G Try.f24.resultTypes.toList Try.f24.results.toList S K) rec 1000 [.code (Try.f24.body.getD .skip)] (Ev.start Try.f24 [AV.agg [vs a0, .sl true 1 a1], .agg [vs a2, .sl true 1 a3]]) = midrangebase_SameStorage.e n  (fun p => K (vb p)) a0 a1 a2 a3 := by kernel_rfl
noncomputable def midrangebase_SameStorage.F (n : Nat) (a0 : ByteArray) (a1 : List AV) (a2 : ByteArray) (a3 : List AV) : Option (Bool) := midrangebase_SameStorage.e n  Option.some a0 a1 a2 a3
noncomputable def midrangebase_SameStorage.dec (x : AV) : Option (Bool) := match x with | .v (.bool p0) => Option.some p0 | _ => none
theorem midrangebase_SameStorage.dec_inv {p : Bool} (y : AV) (h : midrangebase_SameStorage.dec y = some p) : y = vb p := by
  unfold midrangebase_SameStorage.dec at h
  split at h
  · cases h; rfl
  · cases h
theorem midrangebase_SameStorage.hands (n : Nat) (a0 : ByteArray) (a1 : List AV) (a2 : ByteArray) (a3 : List AV) {p : Bool} (h : midrangebase_SameStorage.F n a0 a1 a2 a3 = some p) : HandsIn Try.prog 24 [AV.agg [vs a0, .sl true 1 a1], .agg [vs a2, .sl true 1 a3]] (vb p) := by
  refine hands_of cfg mixed (fun _ => rfl) (midrangebase_SameStorage.tells n) (fn := Try.f24) Try.func24 (by kernel_rfl) (by kernel_rfl) (cut := midrangebase_SameStorage.cut) (K := midrangebase_SameStorage.dec) (r := p) (n := n) midrangebase_SameStorage.dec_inv ?_
  rw [funK_getD (by kernel_rfl)]
  have h1 := midrangebase_SameStorage.e_eq n (runK G (midrangebase_SameStorage.C n) midrangebase_SameStorage.cut (fun S => finK G Try.f24.resultTypes.toList Try.f24.results.toList S midrangebase_SameStorage.dec) n) midrangebase_SameStorage.dec a0 a1 a2 a3
  exact h1.trans h
noncomputable def midrangebase_SameStorage.via {R : Type} (n : Nat) (xs : List AV) : (AV → Option R) → Option R := match xs with | [.agg [.v (.string a0), .sl true 1 a1], .agg [.v (.string a2), .sl true 1 a3]] => fun K => (midrangebase_SameStorage.F n a0 a1 a2 a3).bind fun p => K (vb p) | _ => fun _ => none
theorem midrangebase_SameStorage.tells1 {R : Type} (n : Nat) (xs : List AV) : Tells1 (R := R) Try.prog 24 xs (midrangebase_SameStorage.via n xs) := by
  unfold midrangebase_SameStorage.via
  split
  · exact Tells1.of (fun p hp => (midrangebase_SameStorage.hands n _ _ _ _ hp).hands)
  · exact Tells1.none
end Go.Proofs.Ytgmpnhfnkhohiaa.Ev

/- midrange/midrangebase.Patched, out of its evaluation. Printed by the session's own program. -/
namespace Go.Proofs.Ytgmpnhfnkhohiaa.Ev
open Go Go.Proofs Go.Proofs.Ev
set_option linter.unusedVariables false
set_option maxRecDepth 100000
/-! midrange/midrangebase.Patched: function 55 -/
noncomputable def midrangebase_Patched.e {R : Type} (n : Nat)  (k : ByteArray → Option R) (a0 : ByteArray) (a1 : Int) (a2 : ByteArray) : Option R :=
  bif decide ((0 : Int) ≤ a1) && decide ((a1 : Int) ≤ ((a0.size : Nat) : Int)) then (chk (decide ((a0.extract 0 (a1).toNat).size + a2.size ≤ 9223372036854775807)) (let y1 : ByteArray := (a0.extract 0 (a1).toNat) ++ a2
  let y2 : Int := IntKind.i64.wrap (a1 + ((a2.size : Nat) : Int))
  bif decide ((0 : Int) ≤ y2) && decide ((y2 : Int) ≤ ((a0.size : Nat) : Int)) then (let y3 : ByteArray := a0.extract (y2).toNat a0.size
  chk (decide (y1.size + y3.size ≤ 9223372036854775807)) (k (y1 ++ y3))) else none)) else none
noncomputable def midrangebase_Patched.C {R : Type} (n : Nat) (f : FuncId) (xs : List AV) : (AV → Option R) → Option R :=
  fun _ => none
theorem midrangebase_Patched.tells {R : Type} (n : Nat) : Tells (R := R) Try.prog (midrangebase_Patched.C n) := fun _ xs => Tells1.none
noncomputable def midrangebase_Patched.cut (r : Nat) : Option Keep := match r with  | _ => none
theorem midrangebase_Patched.e_eq {R : Type} (n : Nat) (rec : List Item → St → Option R) (K : AV → Option R) (a0 : ByteArray) (a1 : Int) (a2 : ByteArray) :
    goK G (midrangebase_Patched.C n) midrangebase_Patched.cut (fun S => finK G Try.f55.resultTypes.toList Try.f55.results.toList S K) rec 1000 [.code (Try.f55.body.getD .skip)] (Ev.start Try.f55 [vs a0, vi a1, vs a2]) = midrangebase_Patched.e n  (fun p => K (vs p)) a0 a1 a2 := by kernel_rfl
noncomputable def midrangebase_Patched.F (n : Nat) (a0 : ByteArray) (a1 : Int) (a2 : ByteArray) : Option (ByteArray) := midrangebase_Patched.e n  Option.some a0 a1 a2
noncomputable def midrangebase_Patched.dec (x : AV) : Option (ByteArray) := match x with | .v (.string p0) => Option.some p0 | _ => none
theorem midrangebase_Patched.dec_inv {p : ByteArray} (y : AV) (h : midrangebase_Patched.dec y = some p) : y = vs p := by
  unfold midrangebase_Patched.dec at h
  split at h
  · cases h; rfl
  · cases h
theorem midrangebase_Patched.hands (n : Nat) (a0 : ByteArray) (a1 : Int) (a2 : ByteArray) {p : ByteArray} (h : midrangebase_Patched.F n a0 a1 a2 = some p) : HandsIn Try.prog 55 [vs a0, vi a1, vs a2] (vs p) := by
  refine hands_of cfg mixed (fun _ => rfl) (midrangebase_Patched.tells n) (fn := Try.f55) Try.func55 (by kernel_rfl) (by kernel_rfl) (cut := midrangebase_Patched.cut) (K := midrangebase_Patched.dec) (r := p) (n := n) midrangebase_Patched.dec_inv ?_
  rw [funK_getD (by kernel_rfl)]
  have h1 := midrangebase_Patched.e_eq n (runK G (midrangebase_Patched.C n) midrangebase_Patched.cut (fun S => finK G Try.f55.resultTypes.toList Try.f55.results.toList S midrangebase_Patched.dec) n) midrangebase_Patched.dec a0 a1 a2
  exact h1.trans h
noncomputable def midrangebase_Patched.via {R : Type} (n : Nat) (xs : List AV) : (AV → Option R) → Option R := match xs with | [.v (.string a0), .v (.int .i64 a1), .v (.string a2)] => fun K => (midrangebase_Patched.F n a0 a1 a2).bind fun p => K (vs p) | _ => fun _ => none
theorem midrangebase_Patched.tells1 {R : Type} (n : Nat) (xs : List AV) : Tells1 (R := R) Try.prog 55 xs (midrangebase_Patched.via n xs) := by
  unfold midrangebase_Patched.via
  split
  · exact Tells1.of (fun p hp => (midrangebase_Patched.hands n _ _ _ hp).hands)
  · exact Tells1.none
end Go.Proofs.Ytgmpnhfnkhohiaa.Ev

/- midrange/midrangeref03.Write, out of its evaluation. Printed by the session's own program. -/
namespace Go.Proofs.Ytgmpnhfnkhohiaa.Ev
open Go Go.Proofs Go.Proofs.Ev
set_option linter.unusedVariables false
set_option maxRecDepth 100000
/-! midrange/midrangeref03.Write: function 25 -/
noncomputable def midrangeref03_Write.r4 {R : Type} (n : Nat) (c4 : Int → ByteArray → Int → ByteArray → ByteArray → List AV → Option R) (k : ByteArray × List AV → Option R) (z1 : Int) (z2 : ByteArray) (z3 : Int) (z4 : ByteArray) (z5 : ByteArray) (z6 : List AV) : Option R :=
  let y3 : Bool := decide (z3 < ((z2.size : Nat) : Int))
  bif y3 then (let y4 : Int := IntKind.i64.wrap (Int.tdiv (IntKind.i64.wrap (z1 + z3)) 16)
  bif decide ((0 : Int) ≤ y4) && decide (y4 < ((z6.length : Nat) : Int)) then (let y5 : List AV := z6.set ((y4).toNat) (vb false)
  c4 z1 z2 (IntKind.i64.wrap (z3 + 1)) z4 z5 y5) else none) else (k (z5, z6))
noncomputable def midrangeref03_Write.e {R : Type} (n : Nat) (c4 : Int → ByteArray → Int → ByteArray → ByteArray → List AV → Option R) (k : ByteArray × List AV → Option R) (a0 : ByteArray) (a1 : List AV) (a2 : Int) (a3 : ByteArray) : Option R :=
  (midrangebase_OwnStorage.F n a0 a1).bind fun p1 =>
  (midrangebase_Patched.F n a0 a2 a3).bind fun p2 =>
  c4 a2 a3 0 (⟨#[]⟩ : ByteArray) p2 p1.2
noncomputable def midrangeref03_Write.C {R : Type} (n : Nat) (f : FuncId) (xs : List AV) : (AV → Option R) → Option R :=
  bif Nat.beq f 19 then midrangebase_OwnStorage.via n xs else bif Nat.beq f 55 then midrangebase_Patched.via n xs else fun _ => none
theorem midrangeref03_Write.tells {R : Type} (n : Nat) : Tells (R := R) Try.prog (midrangeref03_Write.C n) := fun _ xs => tells_at (midrangebase_OwnStorage.tells1 n xs) (tells_at (midrangebase_Patched.tells1 n xs) (Tells1.none))
noncomputable def midrangeref03_Write.cut (r : Nat) : Option Keep := match r with | 4 => Option.some ⟨[1, 2, 6, 7, 8], []⟩ | _ => none
noncomputable def midrangeref03_Write.t4 : List Item := (todoOf 4 1000 [.code (Try.f25.body.getD .skip)]).getD []
noncomputable def midrangeref03_Write.s4 (z1 : Int) (z2 : ByteArray) (z3 : Int) (z4 : ByteArray) (z5 : ByteArray) (z6 : List AV) : St := ⟨[.undef, vi z1, vs z2, .undef, .undef, .undef, .ptr 0 0, .ptr 1 0, vi z3, .undef, .undef, .undef, .undef, .undef, .undef, .undef, .undef, .undef, .undef, .undef, .undef, .undef, .undef, .undef, .undef, .undef, .undef, .undef, .undef, .undef, .undef], Mem.ofList [.box [vs z4, .v (.slice none 0 0)], .box [vs z5, .own 2 0 none], .row true 1 z6], 3⟩
theorem midrangeref03_Write.e_eq {R : Type} (n : Nat) (rec : List Item → St → Option R) (K : AV → Option R) (a0 : ByteArray) (a1 : List AV) (a2 : Int) (a3 : ByteArray) :
    goK G (midrangeref03_Write.C n) midrangeref03_Write.cut (fun S => finK G Try.f25.resultTypes.toList Try.f25.results.toList S K) rec 1000 [.code (Try.f25.body.getD .skip)] (Ev.start Try.f25 [AV.agg [vs a0, .sl true 1 a1], vi a2, vs a3]) = midrangeref03_Write.e n (fun z1 z2 z3 z4 z5 z6 => rec midrangeref03_Write.t4 (midrangeref03_Write.s4 z1 z2 z3 z4 z5 z6)) (fun p => K (.agg [vs p.1, .fr true 1 p.2])) a0 a1 a2 a3 := by kernel_rfl
theorem midrangeref03_Write.r4_eq {R : Type} (n : Nat) (rec : List Item → St → Option R) (K : AV → Option R) (z1 : Int) (z2 : ByteArray) (z3 : Int) (z4 : ByteArray) (z5 : ByteArray) (z6 : List AV) :
    atK G (midrangeref03_Write.C n) midrangeref03_Write.cut (fun S => finK G Try.f25.resultTypes.toList Try.f25.results.toList S K) rec midrangeref03_Write.t4 (midrangeref03_Write.s4 z1 z2 z3 z4 z5 z6) = midrangeref03_Write.r4 n (fun z1 z2 z3 z4 z5 z6 => rec midrangeref03_Write.t4 (midrangeref03_Write.s4 z1 z2 z3 z4 z5 z6)) (fun p => K (.agg [vs p.1, .fr true 1 p.2])) z1 z2 z3 z4 z5 z6 := by kernel_rfl
noncomputable def midrangeref03_Write.l (n : Nat) : Nat → (Int → ByteArray → Int → ByteArray → ByteArray → List AV → Option (ByteArray × List AV))
  | 0 => (fun _ _ _ _ _ _ => none)
  | m + 1 => midrangeref03_Write.r4 n (midrangeref03_Write.l n m) Option.some
noncomputable def midrangeref03_Write.F (n : Nat) (a0 : ByteArray) (a1 : List AV) (a2 : Int) (a3 : ByteArray) : Option (ByteArray × List AV) := midrangeref03_Write.e n (midrangeref03_Write.l n n) Option.some a0 a1 a2 a3
noncomputable def midrangeref03_Write.dec (x : AV) : Option (ByteArray × List AV) := match x with | .agg [.v (.string p0), .fr true 1 p1] => Option.some (p0, p1) | _ => none
theorem midrangeref03_Write.dec_inv {p : ByteArray × List AV} (y : AV) (h : midrangeref03_Write.dec y = some p) : y = .agg [vs p.1, .fr true 1 p.2] := by
  unfold midrangeref03_Write.dec at h
  split at h
  · cases h; rfl
  · cases h
theorem midrangeref03_Write.l_eq (n m : Nat) : (∀ (z1 : Int) (z2 : ByteArray) (z3 : Int) (z4 : ByteArray) (z5 : ByteArray) (z6 : List AV), runK G (midrangeref03_Write.C n) midrangeref03_Write.cut (fun S => finK G Try.f25.resultTypes.toList Try.f25.results.toList S midrangeref03_Write.dec) m midrangeref03_Write.t4 (midrangeref03_Write.s4 z1 z2 z3 z4 z5 z6) = (midrangeref03_Write.l n m) z1 z2 z3 z4 z5 z6) := by
  induction m with
  | zero => exact fun z1 z2 z3 z4 z5 z6 => rfl
  | succ m ih =>
    have h4 := ih
    have e4 : (fun (z1 : Int) (z2 : ByteArray) (z3 : Int) (z4 : ByteArray) (z5 : ByteArray) (z6 : List AV) => runK G (midrangeref03_Write.C n) midrangeref03_Write.cut (fun S => finK G Try.f25.resultTypes.toList Try.f25.results.toList S midrangeref03_Write.dec) m midrangeref03_Write.t4 (midrangeref03_Write.s4 z1 z2 z3 z4 z5 z6)) = (midrangeref03_Write.l n m) := by funext z1 z2 z3 z4 z5 z6; exact h4 z1 z2 z3 z4 z5 z6
    have q4 : ∀ (z1 : Int) (z2 : ByteArray) (z3 : Int) (z4 : ByteArray) (z5 : ByteArray) (z6 : List AV), runK G (midrangeref03_Write.C n) midrangeref03_Write.cut (fun S => finK G Try.f25.resultTypes.toList Try.f25.results.toList S midrangeref03_Write.dec) (m + 1) midrangeref03_Write.t4 (midrangeref03_Write.s4 z1 z2 z3 z4 z5 z6) = (midrangeref03_Write.l n (m + 1)) z1 z2 z3 z4 z5 z6 := by
      intro z1 z2 z3 z4 z5 z6
      rw [runK_succ]
      refine (midrangeref03_Write.r4_eq n _ midrangeref03_Write.dec z1 z2 z3 z4 z5 z6).trans ?_
      rw [e4]
      rfl
    exact q4
theorem midrangeref03_Write.hands (n : Nat) (a0 : ByteArray) (a1 : List AV) (a2 : Int) (a3 : ByteArray) {p : ByteArray × List AV} (h : midrangeref03_Write.F n a0 a1 a2 a3 = some p) : HandsIn Try.prog 25 [AV.agg [vs a0, .sl true 1 a1], vi a2, vs a3] (.agg [vs p.1, .fr true 1 p.2]) := by
  refine hands_of cfg mixed (fun _ => rfl) (midrangeref03_Write.tells n) (fn := Try.f25) Try.func25 (by kernel_rfl) (by kernel_rfl) (cut := midrangeref03_Write.cut) (K := midrangeref03_Write.dec) (r := p) (n := n) midrangeref03_Write.dec_inv ?_
  rw [funK_getD (by kernel_rfl)]
  have h1 := midrangeref03_Write.e_eq n (runK G (midrangeref03_Write.C n) midrangeref03_Write.cut (fun S => finK G Try.f25.resultTypes.toList Try.f25.results.toList S midrangeref03_Write.dec) n) midrangeref03_Write.dec a0 a1 a2 a3
  have hl := midrangeref03_Write.l_eq n n
  simp only [hl] at h1
  exact h1.trans h
noncomputable def midrangeref03_Write.via {R : Type} (n : Nat) (xs : List AV) : (AV → Option R) → Option R := match xs with | [.agg [.v (.string a0), .sl true 1 a1], .v (.int .i64 a2), .v (.string a3)] => fun K => (midrangeref03_Write.F n a0 a1 a2 a3).bind fun p => K (.agg [vs p.1, .fr true 1 p.2]) | _ => fun _ => none
theorem midrangeref03_Write.tells1 {R : Type} (n : Nat) (xs : List AV) : Tells1 (R := R) Try.prog 25 xs (midrangeref03_Write.via n xs) := by
  unfold midrangeref03_Write.via
  split
  · exact Tells1.of (fun p hp => (midrangeref03_Write.hands n _ _ _ _ hp).hands)
  · exact Tells1.none
end Go.Proofs.Ytgmpnhfnkhohiaa.Ev

/- midrange/midrangelaw03.TaggedBytes, out of its evaluation. Printed by the session's own program. -/
namespace Go.Proofs.Ytgmpnhfnkhohiaa.Ev
open Go Go.Proofs Go.Proofs.Ev
set_option linter.unusedVariables false
set_option maxRecDepth 100000
/-! midrange/midrangelaw03.TaggedBytes: function 4 -/
noncomputable def midrangelaw03_TaggedBytes.e {R : Type} (n : Nat)  (k : Bool → Option R) (a0 : ByteArray) (a1 : List AV) (a2 : Int) (a3 : Int) (a4 : ByteArray) : Option R :=
  (midrangelaw03_awake.F n ).bind fun p1 =>
  bif !p1 then (k false) else ((midrangelaw03_few.F n a0 a1).bind fun p2 =>
  bif !p2 then (k true) else (let y3 : Bool := decide (((a4.size : Nat) : Int) > 1200)
  bif y3 then (k true) else ((midrangebase_OwnStorage.F n a0 a1).bind fun p4 =>
  (tagged_ReadBytes.F n p4.1 p4.2 a2 a3).bind fun p5 =>
  (midrangebase_OwnStorage.F n a0 a1).bind fun p6 =>
  (tagged_WriteBytes.F n p6.1 p6.2 a2 a4).bind fun p7 =>
  (midrangeref03_Err.F n a0 a1).bind fun p8 =>
  bif p8 != 0 then (bif p5.2 == p8 then (let y9 : Bool := p5.1.toList == (⟨#[]⟩ : ByteArray).toList
  bif y9 then (bif p7.2.2 == p8 then ((midrangelaw03_none.F n p7.1 p7.2.1).bind fun p10 =>
  k p10) else (k false)) else (k false)) else (k false)) else ((midrangeref03_IsRange.F n a0 a1 a2 a3).bind fun p11 =>
  bif !p11 then (bif p5.2 != 3 then (k false) else (let y12 : Bool := !(p5.1.toList == (⟨#[]⟩ : ByteArray).toList)
  bif y12 then (k false) else ((midrangeref03_IsRange.F n a0 a1 a2 ((a4.size : Nat) : Int)).bind fun p13 =>
  bif !p13 then (bif p7.2.2 == 3 then ((midrangelaw03_none.F n p7.1 p7.2.1).bind fun p14 =>
  k p14) else (k false)) else (bif p7.2.2 == 0 then ((midrangeref03_Write.F n a0 a1 a2 a4).bind fun p15 =>
  (midrangebase_SameStorage.F n p7.1 p7.2.1 p15.1 p15.2).bind fun p16 =>
  k p16) else (k false))))) else (bif p5.2 != 0 then (k false) else (bif decide ((0 : Int) ≤ IntKind.i64.wrap (a2 + a3)) && decide ((IntKind.i64.wrap (a2 + a3) : Int) ≤ ((a0.size : Nat) : Int)) then (bif decide ((0 : Int) ≤ a2) && decide ((a2 : Int) ≤ IntKind.i64.wrap (a2 + a3)) then (let y17 : ByteArray := a0.extract (a2).toNat (IntKind.i64.wrap (a2 + a3)).toNat
  bif !(p5.1.toList == y17.toList) then (k false) else ((midrangeref03_IsRange.F n a0 a1 a2 ((a4.size : Nat) : Int)).bind fun p18 =>
  bif !p18 then (bif p7.2.2 == 3 then ((midrangelaw03_none.F n p7.1 p7.2.1).bind fun p19 =>
  k p19) else (k false)) else (bif p7.2.2 == 0 then ((midrangeref03_Write.F n a0 a1 a2 a4).bind fun p20 =>
  (midrangebase_SameStorage.F n p7.1 p7.2.1 p20.1 p20.2).bind fun p21 =>
  k p21) else (k false)))) else none) else none))))))
noncomputable def midrangelaw03_TaggedBytes.C {R : Type} (n : Nat) (f : FuncId) (xs : List AV) : (AV → Option R) → Option R :=
  bif Nat.beq f 10 then midrangelaw03_awake.via n xs else bif Nat.beq f 17 then midrangelaw03_few.via n xs else bif Nat.beq f 18 then tagged_ReadBytes.via n xs else bif Nat.beq f 19 then midrangebase_OwnStorage.via n xs else bif Nat.beq f 20 then tagged_WriteBytes.via n xs else bif Nat.beq f 21 then midrangeref03_Err.via n xs else bif Nat.beq f 22 then midrangelaw03_none.via n xs else bif Nat.beq f 23 then midrangeref03_IsRange.via n xs else bif Nat.beq f 24 then midrangebase_SameStorage.via n xs else bif Nat.beq f 25 then midrangeref03_Write.via n xs else fun _ => none
theorem midrangelaw03_TaggedBytes.tells {R : Type} (n : Nat) : Tells (R := R) Try.prog (midrangelaw03_TaggedBytes.C n) := fun _ xs => tells_at (midrangelaw03_awake.tells1 n xs) (tells_at (midrangelaw03_few.tells1 n xs) (tells_at (tagged_ReadBytes.tells1 n xs) (tells_at (midrangebase_OwnStorage.tells1 n xs) (tells_at (tagged_WriteBytes.tells1 n xs) (tells_at (midrangeref03_Err.tells1 n xs) (tells_at (midrangelaw03_none.tells1 n xs) (tells_at (midrangeref03_IsRange.tells1 n xs) (tells_at (midrangebase_SameStorage.tells1 n xs) (tells_at (midrangeref03_Write.tells1 n xs) (Tells1.none))))))))))
noncomputable def midrangelaw03_TaggedBytes.cut (r : Nat) : Option Keep := match r with  | _ => none
theorem midrangelaw03_TaggedBytes.e_eq {R : Type} (n : Nat) (rec : List Item → St → Option R) (K : AV → Option R) (a0 : ByteArray) (a1 : List AV) (a2 : Int) (a3 : Int) (a4 : ByteArray) :
    goK G (midrangelaw03_TaggedBytes.C n) midrangelaw03_TaggedBytes.cut (fun S => finK G Try.f4.resultTypes.toList Try.f4.results.toList S K) rec 1000 [.code (Try.f4.body.getD .skip)] (Ev.start Try.f4 [AV.agg [vs a0, .sl true 1 a1], .agg [vi a2, vi a3, vs a4]]) = midrangelaw03_TaggedBytes.e n  (fun p => K (vb p)) a0 a1 a2 a3 a4 := by kernel_rfl
noncomputable def midrangelaw03_TaggedBytes.F (n : Nat) (a0 : ByteArray) (a1 : List AV) (a2 : Int) (a3 : Int) (a4 : ByteArray) : Option (Bool) := midrangelaw03_TaggedBytes.e n  Option.some a0 a1 a2 a3 a4
noncomputable def midrangelaw03_TaggedBytes.dec (x : AV) : Option (Bool) := match x with | .v (.bool p0) => Option.some p0 | _ => none
theorem midrangelaw03_TaggedBytes.dec_inv {p : Bool} (y : AV) (h : midrangelaw03_TaggedBytes.dec y = some p) : y = vb p := by
  unfold midrangelaw03_TaggedBytes.dec at h
  split at h
  · cases h; rfl
  · cases h
theorem midrangelaw03_TaggedBytes.hands (n : Nat) (a0 : ByteArray) (a1 : List AV) (a2 : Int) (a3 : Int) (a4 : ByteArray) {p : Bool} (h : midrangelaw03_TaggedBytes.F n a0 a1 a2 a3 a4 = some p) : HandsIn Try.prog 4 [AV.agg [vs a0, .sl true 1 a1], .agg [vi a2, vi a3, vs a4]] (vb p) := by
  refine hands_of cfg mixed (fun _ => rfl) (midrangelaw03_TaggedBytes.tells n) (fn := Try.f4) Try.func4 (by kernel_rfl) (by kernel_rfl) (cut := midrangelaw03_TaggedBytes.cut) (K := midrangelaw03_TaggedBytes.dec) (r := p) (n := n) midrangelaw03_TaggedBytes.dec_inv ?_
  rw [funK_getD (by kernel_rfl)]
  have h1 := midrangelaw03_TaggedBytes.e_eq n (runK G (midrangelaw03_TaggedBytes.C n) midrangelaw03_TaggedBytes.cut (fun S => finK G Try.f4.resultTypes.toList Try.f4.results.toList S midrangelaw03_TaggedBytes.dec) n) midrangelaw03_TaggedBytes.dec a0 a1 a2 a3 a4
  exact h1.trans h
noncomputable def midrangelaw03_TaggedBytes.via {R : Type} (n : Nat) (xs : List AV) : (AV → Option R) → Option R := match xs with | [.agg [.v (.string a0), .sl true 1 a1], .agg [.v (.int .i64 a2), .v (.int .i64 a3), .v (.string a4)]] => fun K => (midrangelaw03_TaggedBytes.F n a0 a1 a2 a3 a4).bind fun p => K (vb p) | _ => fun _ => none
theorem midrangelaw03_TaggedBytes.tells1 {R : Type} (n : Nat) (xs : List AV) : Tells1 (R := R) Try.prog 4 xs (midrangelaw03_TaggedBytes.via n xs) := by
  unfold midrangelaw03_TaggedBytes.via
  split
  · exact Tells1.of (fun p hp => (midrangelaw03_TaggedBytes.hands n _ _ _ _ _ hp).hands)
  · exact Tells1.none
end Go.Proofs.Ytgmpnhfnkhohiaa.Ev

/- Storages: checks, ranges, reads and writes: what chapter 3's program and its reference compute is the same. -/
namespace Go.Proofs.Ytgmpnhfnkhohiaa.Ev
open Go Go.Proofs Go.Proofs.Ev
set_option linter.unusedVariables false

def Bl (ts : List Bool) : List AV := ts.map vb
theorem bools_of : ∀ {xs : List AV}, (∀ y ∈ xs, ∃ b, [y] = [vb b]) → ∃ ts, xs = Bl ts
  | [], _ => ⟨[], rfl⟩
  | x :: xs, h => by
    obtain ⟨b, hb⟩ := h x (by simp)
    obtain ⟨ts, hts⟩ := bools_of (xs := xs) (fun y hy => h y (by simp [hy]))
    cases hb
    exact ⟨b :: ts, by rw [hts]; rfl⟩
theorem bl_length (ts : List Bool) : (Bl ts).length = ts.length := by simp [Bl]
theorem bl_get {ts : List Bool} {i : Nat} (h : i < ts.length) : (Bl ts).getD i .undef = vb ts[i] := by simp [Bl, List.getD_eq_getElem?_getD, h]
theorem within_t {i : Nat} {len : Nat} (h : i < len) : (decide ((0 : Int) ≤ (i : Int)) && decide ((i : Int) < (len : Int))) = true := by
  rw [Bool.and_eq_true, decide_eq_true_eq, decide_eq_true_eq]; omega
theorem upto_t {i : Nat} {len : Nat} (h : i ≤ len) : (decide ((0 : Int) ≤ (i : Int)) && decide ((i : Int) ≤ (len : Int))) = true := by
  rw [Bool.and_eq_true, decide_eq_true_eq, decide_eq_true_eq]; omega
theorem upto_t2 {i j : Nat} (h : i ≤ j) : (decide ((0 : Int) ≤ (i : Int)) && decide ((i : Int) ≤ (j : Int))) = true := upto_t h
theorem wsucc {i : Nat} (h : i ≤ 1000000000) : IntKind.i64.wrap ((i : Int) + 1) = ((i + 1 : Nat) : Int) := by rw [w64] <;> omega
theorem wnat {i : Nat} (h : i ≤ 1000000000000000) : IntKind.i64.wrap (i : Int) = (i : Int) := by rw [w64] <;> omega

/-- Whether bytes lie within a storage. -/
def inR (s : ByteArray) (a k : Int) : Bool := (decide (0 ≤ a) && decide (a ≤ (s.size : Int))) && (decide (0 ≤ k) && decide (k ≤ (s.size : Int) - a))
theorem inR_of {s : ByteArray} {a k : Int} (h : inR s a k = true) : ∃ b c : Nat, a = b ∧ k = c ∧ b + c ≤ s.size := by
  simp only [inR, Bool.and_eq_true, decide_eq_true_eq] at h
  exact ⟨a.toNat, k.toNat, by omega, by omega, by omega⟩

theorem isRange_eq (n : Nat) (s : ByteArray) (t : List AV) (a k : Int) (hs : s.size ≤ 1000000) : midrangeref03_IsRange.F n s t a k = some (inR s a k) := by
  unfold midrangeref03_IsRange.F midrangeref03_IsRange.e
  simp only [bwithin_eq, Option.bind_some, inR]
  cases h : (decide (0 ≤ a) && decide (a ≤ (s.size : Int))) with
  | false => simp
  | true =>
    simp only [Bool.and_eq_true, decide_eq_true_eq] at h
    rw [w64 (by omega) (by omega)]
    simp

theorem quad_eq (n : Nat) (s : ByteArray) (t : List AV) (i : Nat) (h : 16 * i + 16 ≤ s.size) (hs : s.size ≤ 1000000) : midrangeref03_quad.F n s t i = some (s.extract (16 * i) (16 * i + 16)) := by
  unfold midrangeref03_quad.F midrangeref03_quad.e
  have e1 : IntKind.i64.wrap ((i : Int) * 16) = ((16 * i : Nat) : Int) := by rw [w64] <;> omega
  have e2 : IntKind.i64.wrap (((16 * i : Nat) : Int) + 16) = ((16 * i + 16 : Nat) : Int) := by rw [w64] <;> omega
  simp only [e1, e2]
  rw [upto_t h, upto_t2 (by omega)]
  simp only [cond_true, Int.toNat_natCast]

theorem check_l (n : Nat) (hn : 7 ≤ n) (s : ByteArray) (ts : List Bool) (hs : s.size = 16 * ts.length) (hl : ts.length ≤ 1000) : ∀ (d i m m' : Nat), i + d = ts.length → d < m → d < m' →
    ∃ r, tagged_CheckStorage.l n m (Bl ts) ts.length i s (Bl ts) = some r ∧ midrangeref03_Check.l n m' ts.length i s (Bl ts) = some r ∧ (r.2 = 0 → r.1 = ts.length ∧ ∀ j, i ≤ j → (hj : j < ts.length) → ts[j] = true → ∃ p, midrangeref03_In.F n (s.extract (16 * j) (16 * j + 16)) = some p ∧ p.2.2.2.2 = 0)
  | _, _, 0, _, _, h, _ => absurd h (by omega)
  | _, _, _, 0, _, _, h => absurd h (by omega)
  | 0, i, m + 1, m' + 1, h, _, _ => by
    have : i = ts.length := by omega
    subst this
    unfold tagged_CheckStorage.l tagged_CheckStorage.r9 midrangeref03_Check.l midrangeref03_Check.r9
    rw [cond_f (by omega), cond_f (by omega), bl_length]
    exact ⟨_, rfl, rfl, fun _ => ⟨rfl, fun j h1 h2 => absurd h2 (by omega)⟩⟩
  | d + 1, i, m + 1, m' + 1, h, h1, h2 => by
    have hi : i < ts.length := by omega
    unfold tagged_CheckStorage.l tagged_CheckStorage.r9 midrangeref03_Check.l midrangeref03_Check.r9
    rw [cond_t (by omega), cond_t (by omega), bl_length, within_t hi, cond_true, cond_true, Int.toNat_natCast, bl_get hi]
    simp only [AV.cells, withCons, withBool]
    obtain ⟨r, r1, r2, r3⟩ := check_l n hn s ts hs hl d (i + 1) m m' (by omega) (by omega) (by omega)
    rw [wsucc (by omega), r1, r2]
    cases hb : ts[i] with
    | false =>
      refine ⟨r, rfl, rfl, fun h0 => ⟨(r3 h0).1, fun j hj hj2 hj3 => ?_⟩⟩
      by_cases e : j = i
      · subst e; rw [hb] at hj3; cases hj3
      · exact (r3 h0).2 j (by omega) hj2 hj3
    | true =>
      have e1 : IntKind.i64.wrap ((i : Int) * 16) = ((16 * i : Nat) : Int) := by rw [w64] <;> omega
      have e2 : IntKind.i64.wrap (((16 * i : Nat) : Int) + 16) = ((16 * i + 16 : Nat) : Int) := by rw [w64] <;> omega
      obtain ⟨p, p1, p2⟩ := pointerIn_eq hn (s.extract (16 * i) (16 * i + 16))
      simp only [Bool.not_true, cond_false, cond_true, e1, e2]
      rw [upto_t (by omega), upto_t2 (by omega), quad_eq n s _ i (by omega) (by omega)]
      simp only [cond_true, Int.toNat_natCast, Option.bind_some, p1, p2]
      cases hp : (p.2.2.2.2 != 0) with
      | true => exact ⟨_, rfl, rfl, fun h0 => by cases h0⟩
      | false =>
        refine ⟨r, rfl, rfl, fun h0 => ⟨(r3 h0).1, fun j hj hj2 hj3 => ?_⟩⟩
        by_cases e : j = i
        · subst e; exact ⟨p, p2, by simpa using hp⟩
        · exact (r3 h0).2 j (by omega) hj2 hj3

/-- What a check of a storage comes to. -/
theorem checkS_eq {n : Nat} (hn : 1002 ≤ n) (s : ByteArray) (ts : List Bool) (hs : s.size ≤ 1072) :
    ∃ r, tagged_CheckStorage.F n s (Bl ts) = some r ∧ midrangeref03_Check.F n s (Bl ts) = some r ∧
      (r.2 = 0 → s.size = 16 * ts.length ∧ ts.length ≤ 64 ∧ r.1 = ts.length ∧ ∀ j, (hj : j < ts.length) → ts[j] = true → ∃ p, midrangeref03_In.F n (s.extract (16 * j) (16 * j + 16)) = some p ∧ p.2.2.2.2 = 0) := by
  unfold tagged_CheckStorage.F tagged_CheckStorage.e midrangeref03_Check.F midrangeref03_Check.e
  have e1 : Int.tmod ((s.size : Nat) : Int) 16 = ((s.size % 16 : Nat) : Int) := by rw [Int.tmod_eq_emod_of_nonneg (by omega)]; omega
  have e2 : IntKind.i64.wrap (Int.tdiv ((s.size : Nat) : Int) 16) = ((s.size / 16 : Nat) : Int) := by rw [Int.tdiv_eq_ediv_of_nonneg (by omega), w64] <;> omega
  simp only [e1, e2, bl_length]
  by_cases h1 : ((s.size : Nat) : Int) > 1024
  · simp only [h1, decide_true, cond_true]
    exact ⟨_, rfl, rfl, fun h => by cases h⟩
  · simp only [h1, decide_false, cond_false]
    cases h2 : (((s.size % 16 : Nat) : Int) != 0) with
    | true => exact ⟨_, rfl, rfl, fun h => by cases h⟩
    | false =>
      simp only [cond_false]
      cases h3 : (((ts.length : Nat) : Int) != ((s.size / 16 : Nat) : Int)) with
      | true => exact ⟨_, rfl, rfl, fun h => by cases h⟩
      | false =>
        simp only [bne_eq_false_iff_eq] at h2 h3
        have hsz : s.size = 16 * ts.length := by omega
        simp only [cond_false]
        rw [show s.size / 16 = ts.length by omega]
        obtain ⟨r, r1, r2, r3⟩ := check_l n (by omega) s ts hsz (by omega) ts.length 0 n n (by omega) (by omega) (by omega)
        exact ⟨r, r1, r2, fun h => ⟨hsz, by omega, (r3 h).1, fun j hj hb => (r3 h).2 j (by omega) hj hb⟩⟩

theorem inside_eq {n : Nat} (hn : 1 ≤ n) (s : ByteArray) (t : List AV) (hs : s.size ≤ 1000000) {r : Int × Int} (hr : tagged_CheckStorage.F n s t = some r) (a k : Int) :
    tagged_inside.F n s t a k = some (bif r.2 != 0 then r.2 else bif inR s a k then 0 else 3) := by
  obtain ⟨m, rfl⟩ : ∃ m, n = m + 1 := ⟨n - 1, by omega⟩
  unfold tagged_inside.F tagged_inside.e
  rw [hr]
  simp only [Option.bind_some, tagged_inside.l, tagged_inside.r5]
  cases r.2 != 0 with
  | true => rfl
  | false =>
    simp only [cond_false, inR]
    by_cases h1 : a < 0
    · have : ¬ (0 ≤ a) := by omega
      simp [h1, this]
    · by_cases h2 : k < 0
      · have : ¬ (0 ≤ k) := by omega
        simp [h1, h2, this]
      · by_cases h3 : a > (s.size : Int)
        · have : ¬ (a ≤ (s.size : Int)) := by omega
          simp [h1, h2, h3, this]
        · rw [w64 (by omega) (by omega)]
          have g1 : 0 ≤ a := by omega
          have g2 : 0 ≤ k := by omega
          have g3 : a ≤ (s.size : Int) := by omega
          by_cases h4 : k > (s.size : Int) - a
          · have : ¬ (k ≤ (s.size : Int) - a) := by omega
            simp [h1, h2, h3, h4, this]
          · have : k ≤ (s.size : Int) - a := by omega
            simp [h1, h2, h3, h4, g1, g2, g3, this]

theorem own_eq (n : Nat) (s : ByteArray) (ts : List Bool) (hl : ts.length ≤ 1000) : midrangebase_OwnStorage.F n s (Bl ts) = some (s, Bl ts) := by
  unfold midrangebase_OwnStorage.F midrangebase_OwnStorage.e midrangebase_CopyBools.F midrangebase_CopyBools.e
  have : most = 1000000000 := rfl
  rw [cond_t (by rw [bl_length]; omega)]
  rfl

theorem read_eq {n : Nat} (hn : 1 ≤ n) (s : ByteArray) (t : List AV) (hs : s.size ≤ 1000000) {r : Int × Int} (hr : tagged_CheckStorage.F n s t = some r) (a k : Int) :
    tagged_ReadBytes.F n s t a k = some (bif r.2 != 0 then (⟨#[]⟩, r.2) else bif inR s a k then (s.extract a.toNat (a + k).toNat, 0) else (⟨#[]⟩, 3)) := by
  unfold tagged_ReadBytes.F tagged_ReadBytes.e
  rw [inside_eq hn s t hs hr]
  simp only [Option.bind_some]
  cases hc : r.2 != 0 with
  | true => simp only [cond_true, hc]
  | false =>
    cases hi : inR s a k with
    | false => rfl
    | true =>
      obtain ⟨b, c, rfl, rfl, hbc⟩ := inR_of hi
      have e : IntKind.i64.wrap ((b : Int) + (c : Int)) = ((b + c : Nat) : Int) := by rw [w64] <;> omega
      simp only [cond_false, cond_true, e]
      rw [upto_t hbc, upto_t2 (by omega)]
      rfl

/-- A storage's tags after so many bytes have been written at an offset; its bytes. -/
def clr (ts : List Bool) (a k : Nat) : List Bool := (List.range ts.length).map fun j => if 0 < k ∧ a / 16 ≤ j ∧ j ≤ (a + k - 1) / 16 then false else ts.getD j false
def patch (s d : ByteArray) (a : Nat) : ByteArray := s.extract 0 a ++ d ++ s.extract (a + d.size) s.size
theorem clr_length (ts : List Bool) (a k : Nat) : (clr ts a k).length = ts.length := by simp [clr]
theorem clr_zero (ts : List Bool) (a : Nat) : clr ts a 0 = ts := by
  apply List.ext_getElem
  · simp [clr]
  · intro j h1 h2
    simp [clr, List.getD_eq_getElem?_getD, h2]
theorem clr_succ {ts : List Bool} {a k : Nat} (h : a + k < 16 * ts.length) : (clr ts a k).set ((a + k) / 16) false = clr ts a (k + 1) := by
  apply List.ext_getElem
  · simp [clr]
  · intro j h1 h2
    rw [List.getElem_set]
    simp only [clr, List.getElem_map, List.getElem_range]
    by_cases e : (a + k) / 16 = j
    · rw [if_pos e, if_pos (by omega)]
    · rw [if_neg e]
      by_cases h3 : 0 < k ∧ a / 16 ≤ j ∧ j ≤ (a + k - 1) / 16
      · rw [if_pos h3, if_pos (by omega)]
      · rw [if_neg h3, if_neg (by omega)]
theorem bl_set (ts : List Bool) (i : Nat) (b : Bool) : (Bl ts).set i (vb b) = Bl (ts.set i b) := by simp [Bl, List.map_set]
theorem bl_take (ts : List Bool) (i : Nat) : (Bl ts).take i = Bl (ts.take i) := by simp [Bl, List.map_take]
theorem bl_drop (ts : List Bool) (i : Nat) : (Bl ts).drop i = Bl (ts.drop i) := by simp [Bl, List.map_drop]
theorem bl_append (ts us : List Bool) : Bl ts ++ Bl us = Bl (ts ++ us) := by simp [Bl]
theorem bl_replicate (k : Nat) (b : Bool) : List.replicate k (vb b) = Bl (List.replicate k b) := by simp [Bl]

theorem clr_cut {ts : List Bool} {a k : Nat} (hk : 0 < k) (h : a + k ≤ 16 * ts.length) :
    ts.take (a / 16) ++ List.replicate ((a + k - 1) / 16 + 1 - a / 16) false ++ ts.drop ((a + k - 1) / 16 + 1 - a / 16 + a / 16) = clr ts a k := by
  have h1 : (a + k - 1) / 16 + 1 - a / 16 + a / 16 = (a + k - 1) / 16 + 1 := by omega
  rw [h1]
  apply List.ext_getElem
  · simp [clr]; omega
  · intro j h2 h3
    rw [clr_length] at h3
    simp only [clr, List.getElem_map, List.getElem_range]
    have hg : ts.getD j false = ts[j] := by simp [List.getD_eq_getElem?_getD, h3]
    by_cases c1 : j < a / 16
    · rw [if_neg (by omega), hg, List.getElem_append_left (by simp; omega), List.getElem_append_left (by simp; omega), List.getElem_take]
    · by_cases c2 : j ≤ (a + k - 1) / 16
      · rw [if_pos (by omega), List.getElem_append_left (by simp; omega), List.getElem_append_right (by simp; omega), List.getElem_replicate]
      · rw [if_neg (by omega), hg, List.getElem_append_right (by simp; omega), List.getElem_drop]
        congr 1
        simp
        omega

theorem toList_empty (d : ByteArray) : (d.toList == (⟨#[]⟩ : ByteArray).toList) = decide (d.size = 0) := by
  rw [ByteArray.toList_eq, ByteArray.toList_eq]
  cases h : decide (d.size = 0) with
  | true =>
    have h := of_decide_eq_true h
    have : d.data.toList = [] := List.length_eq_zero_iff.1 (by rw [Array.length_toList]; exact h)
    rw [this]
    rfl
  | false =>
    have h := of_decide_eq_false h
    rw [beq_eq_false_iff_ne]
    intro e
    apply h
    have : d.data.toList.length = 0 := by rw [e]; rfl
    rw [Array.length_toList] at this
    exact this

theorem patch_parts {s d : ByteArray} {a : Nat} (h : a + d.size ≤ s.size) (hs : s.size ≤ 1000000) :
    (s.extract 0 a).size + d.size ≤ 9223372036854775807 ∧ (s.extract 0 a ++ d).size + (s.extract (a + d.size) s.size).size ≤ 9223372036854775807 := by
  have h1 := extract_size s 0 a (by omega)
  have h2 := extract_size s (a + d.size) s.size (Nat.le_refl _)
  rw [ByteArray.size_append, h1, h2]
  omega

theorem patched_eq (n : Nat) (s d : ByteArray) (a : Nat) (h : a + d.size ≤ s.size) (hs : s.size ≤ 1000000) : midrangebase_Patched.F n s a d = some (patch s d a) := by
  unfold midrangebase_Patched.F midrangebase_Patched.e
  obtain ⟨p1, p2⟩ := patch_parts h hs
  have e : IntKind.i64.wrap ((a : Int) + ((d.size : Nat) : Int)) = ((a + d.size : Nat) : Int) := by rw [w64] <;> omega
  simp only [e, Int.toNat_natCast]
  rw [upto_t (by omega), upto_t h]
  simp only [cond_true, chk, p1, p2, decide_true]
  rfl

theorem put_eq (n : Nat) (s d : ByteArray) (ts : List Bool) (a : Nat) (h : a + d.size ≤ s.size) (hs : s.size = 16 * ts.length) (hl : ts.length ≤ 1000) : tagged_put.F n s (Bl ts) a d = some (patch s d a, Bl (clr ts a d.size)) := by
  unfold tagged_put.F tagged_put.e
  obtain ⟨p1, p2⟩ := patch_parts h (by omega)
  have e : IntKind.i64.wrap ((a : Int) + ((d.size : Nat) : Int)) = ((a + d.size : Nat) : Int) := by rw [w64] <;> omega
  have hmost : most = 1000000000 := rfl
  simp only [e, Int.toNat_natCast]
  rw [upto_t (by omega), upto_t h]
  simp only [cond_true, chk, p1, p2, decide_true, slices_Clone_bool_bool.F]
  rw [cond_t (by rw [bl_length]; omega)]
  simp only [Option.bind_some, toList_empty]
  by_cases h0 : d.size = 0
  · simp only [h0, decide_true, Bool.not_true, cond_false, clr_zero]
    unfold patch
    rw [h0]
  · have f1 : IntKind.i64.wrap (Int.tdiv (a : Int) 16) = ((a / 16 : Nat) : Int) := by rw [Int.tdiv_eq_ediv_of_nonneg (by omega), w64] <;> omega
    have f2 : IntKind.i64.wrap (((a + d.size : Nat) : Int) - 1) = ((a + d.size - 1 : Nat) : Int) := by rw [w64] <;> omega
    have f3 : IntKind.i64.wrap (Int.tdiv ((a + d.size - 1 : Nat) : Int) 16) = (((a + d.size - 1) / 16 : Nat) : Int) := by rw [Int.tdiv_eq_ediv_of_nonneg (by omega), w64] <;> omega
    have f4 : IntKind.i64.wrap ((((a + d.size - 1) / 16 : Nat) : Int) + 1) = (((a + d.size - 1) / 16 + 1 : Nat) : Int) := by rw [w64] <;> omega
    have f5 : ((((a + d.size - 1) / 16 + 1 : Nat) : Int) - ((a / 16 : Nat) : Int)).toNat = (a + d.size - 1) / 16 + 1 - a / 16 := by omega
    simp only [h0, decide_false, Bool.not_false, cond_true, f1, f2, f3, f4, f5, Int.toNat_natCast]
    rw [bl_length, upto_t (by omega), upto_t2 (by omega)]
    simp only [cond_true]
    rw [bl_take, bl_drop, bl_replicate, bl_append, bl_append, clr_cut (by omega) (by omega)]
    rfl

theorem write_l (n : Nat) (s d p q : ByteArray) (ts : List Bool) (a : Nat) (h : a + d.size ≤ s.size) (hs : s.size = 16 * ts.length) (hl : ts.length ≤ 1000) : ∀ (e i m : Nat), i + e = d.size → e < m →
    midrangeref03_Write.l n m a d i q p (Bl (clr ts a i)) = some (p, Bl (clr ts a d.size))
  | _, _, 0, _, h => absurd h (by omega)
  | 0, i, m + 1, h, _ => by
    have : i = d.size := by omega
    subst this
    unfold midrangeref03_Write.l midrangeref03_Write.r4
    rw [cond_f (by omega)]
  | e + 1, i, m + 1, hi, hm => by
    unfold midrangeref03_Write.l midrangeref03_Write.r4
    have e1 : IntKind.i64.wrap ((a : Int) + (i : Int)) = ((a + i : Nat) : Int) := by rw [w64] <;> omega
    have e2 : IntKind.i64.wrap (Int.tdiv ((a + i : Nat) : Int) 16) = (((a + i) / 16 : Nat) : Int) := by rw [Int.tdiv_eq_ediv_of_nonneg (by omega), w64] <;> omega
    simp only [e1, e2]
    rw [cond_t (by omega), bl_length, clr_length, within_t (by omega), cond_true, Int.toNat_natCast, bl_set, clr_succ (by omega), wsucc (by omega)]
    exact write_l n s d p q ts a h hs hl e (i + 1) m (by omega) (by omega)

theorem write_eq {n : Nat} (s d : ByteArray) (ts : List Bool) (a : Nat) (h : a + d.size ≤ s.size) (hs : s.size = 16 * ts.length) (hl : ts.length ≤ 1000) (hn : d.size < n) : midrangeref03_Write.F n s (Bl ts) a d = some (patch s d a, Bl (clr ts a d.size)) := by
  unfold midrangeref03_Write.F midrangeref03_Write.e
  rw [own_eq n s ts hl, patched_eq n s d a h (by omega)]
  simp only [Option.bind_some]
  have := write_l n s d (patch s d a) ⟨#[]⟩ ts a h hs hl d.size 0 n (by omega) hn
  rw [clr_zero] at this
  exact this

theorem bools_l (n : Nat) (ts : List Bool) (hl : ts.length ≤ 1000000) : ∀ (e i m : Nat), i + e = ts.length → e < m → midrangebase_Bools.l n m (Bl ts) (Bl ts) i = some true
  | _, _, 0, _, h => absurd h (by omega)
  | 0, i, m + 1, h, _ => by
    have : i = ts.length := by omega
    subst this
    unfold midrangebase_Bools.l midrangebase_Bools.r4
    rw [bl_length, cond_f (by omega)]
  | e + 1, i, m + 1, h, hm => by
    have hi : i < ts.length := by omega
    unfold midrangebase_Bools.l midrangebase_Bools.r4
    rw [bl_length, cond_t (by omega), within_t hi, cond_true, Int.toNat_natCast, bl_get hi]
    simp only [AV.cells, withCons, withBool, BEq.rfl, Bool.not_true, cond_false, cond_true]
    rw [wsucc (by omega)]
    exact bools_l n ts hl e (i + 1) m (by omega) (by omega)

theorem same_eq {n : Nat} (s : ByteArray) (ts : List Bool) (hl : ts.length ≤ 1000000) (hn : ts.length < n) : midrangebase_SameStorage.F n s (Bl ts) s (Bl ts) = some true := by
  unfold midrangebase_SameStorage.F midrangebase_SameStorage.e midrangebase_Bools.F midrangebase_Bools.e
  simp only [BEq.rfl, cond_true, bne_self_eq_false, cond_false]
  rw [show (0 : Int) = ((0 : Nat) : Int) from rfl, bools_l n ts hl ts.length 0 n (by omega) hn]
  rfl

theorem none_eq (n : Nat) : midrangelaw03_none.F n ⟨#[]⟩ [] = some true := rfl

theorem err_eq {n : Nat} {s : ByteArray} {t : List AV} {r : Int × Int} (h : midrangeref03_Check.F n s t = some r) : midrangeref03_Err.F n s t = some r.2 := by
  unfold midrangeref03_Err.F midrangeref03_Err.e
  rw [h]
  rfl

theorem few_eq (n : Nat) (s : ByteArray) (ts : List Bool) : midrangelaw03_few.F n s (Bl ts) = some (decide (s.size ≤ 1072) && decide (ts.length ≤ 67)) := by
  unfold midrangelaw03_few.F midrangelaw03_few.e
  rw [bl_length]
  have e1 : decide (((s.size : Nat) : Int) ≤ 1072) = decide (s.size ≤ 1072) := decide_eq_decide.2 (by omega)
  have e2 : decide (((ts.length : Nat) : Int) ≤ 67) = decide (ts.length ≤ 67) := decide_eq_decide.2 (by omega)
  simp only [e1, e2]
  cases decide (s.size ≤ 1072) <;> rfl

theorem writeBytes_eq {n : Nat} (hn : 1 ≤ n) (s d : ByteArray) (ts : List Bool) (hs : s.size ≤ 1072) {r : Int × Int} (hr : tagged_CheckStorage.F n s (Bl ts) = some r) (h0 : r.2 = 0 → s.size = 16 * ts.length ∧ ts.length ≤ 64) (a : Int) :
    tagged_WriteBytes.F n s (Bl ts) a d = some (bif r.2 != 0 then (⟨#[]⟩, [], r.2) else bif inR s a d.size then (patch s d a.toNat, Bl (clr ts a.toNat d.size), 0) else (⟨#[]⟩, [], 3)) := by
  unfold tagged_WriteBytes.F tagged_WriteBytes.e
  rw [inside_eq hn s _ (by omega) hr]
  simp only [Option.bind_some]
  cases hc : r.2 != 0 with
  | true => simp only [cond_true, hc]
  | false =>
    cases hi : inR s a d.size with
    | false => rfl
    | true =>
      obtain ⟨b, c, rfl, hc2, hbc⟩ := inR_of hi
      obtain ⟨g1, g2⟩ := h0 (by simpa using hc)
      simp only [cond_false, cond_true, bne_self_eq_false]
      rw [put_eq n s d ts b (by omega) g1 (by omega)]
      rfl

/-- P3.3. -/
theorem bytes_law {n : Nat} (hn : 1000002 ≤ n) (s : ByteArray) (ts : List Bool) (a k : Int) (d : ByteArray) : midrangelaw03_TaggedBytes.F n s (Bl ts) a k d = some true := by
  unfold midrangelaw03_TaggedBytes.F midrangelaw03_TaggedBytes.e
  rw [awake_eq hn, few_eq]
  simp only [Option.bind_some, Bool.not_true, cond_false]
  cases hf : (decide (s.size ≤ 1072) && decide (ts.length ≤ 67)) with
  | false => rfl
  | true =>
    simp only [Bool.and_eq_true, decide_eq_true_eq] at hf
    obtain ⟨hs, hl⟩ := hf
    obtain ⟨r, r1, r2, r3⟩ := checkS_eq (n := n) (by omega) s ts hs
    by_cases hd : ((d.size : Nat) : Int) > 1200
    · simp only [hd, decide_true, cond_true, Bool.not_true, cond_false]
    · simp only [hd, decide_false, cond_false, Bool.not_true]
      rw [own_eq n s ts (by omega)]
      simp only [Option.bind_some]
      rw [read_eq (by omega) s _ (by omega) r1, writeBytes_eq (by omega) s d ts hs r1 (fun h => ⟨(r3 h).1, (r3 h).2.1⟩), err_eq r2]
      simp only [Option.bind_some]
      cases hc : r.2 != 0 with
      | true => simp only [cond_true, BEq.rfl, none_eq, Option.bind_some]
      | false =>
        obtain ⟨g1, g2, _⟩ := r3 (by simpa using hc)
        simp only [cond_false]
        rw [isRange_eq n s _ a k (by omega), isRange_eq n s _ a _ (by omega)]
        simp only [Option.bind_some]
        have tail : (bif !(inR s a (d.size : Int)) then (bif (bif inR s a (d.size : Int) then (patch s d a.toNat, Bl (clr ts a.toNat d.size), (0 : Int)) else (⟨#[]⟩, [], 3)).2.2 == 3 then ((midrangelaw03_none.F n (bif inR s a (d.size : Int) then (patch s d a.toNat, Bl (clr ts a.toNat d.size), (0 : Int)) else (⟨#[]⟩, [], 3)).1 (bif inR s a (d.size : Int) then (patch s d a.toNat, Bl (clr ts a.toNat d.size), (0 : Int)) else (⟨#[]⟩, [], 3)).2.1).bind fun p14 => some p14) else (some false))
            else (bif (bif inR s a (d.size : Int) then (patch s d a.toNat, Bl (clr ts a.toNat d.size), (0 : Int)) else (⟨#[]⟩, [], 3)).2.2 == 0 then ((midrangeref03_Write.F n s (Bl ts) a d).bind fun p15 => (midrangebase_SameStorage.F n (bif inR s a (d.size : Int) then (patch s d a.toNat, Bl (clr ts a.toNat d.size), (0 : Int)) else (⟨#[]⟩, [], 3)).1 (bif inR s a (d.size : Int) then (patch s d a.toNat, Bl (clr ts a.toNat d.size), (0 : Int)) else (⟨#[]⟩, [], 3)).2.1 p15.1 p15.2).bind fun p16 => some p16) else (some false))) = some true := by
          cases hi : inR s a (d.size : Int) with
          | false => simp only [Bool.not_false, cond_true, cond_false, BEq.rfl, none_eq, Option.bind_some]
          | true =>
            obtain ⟨b, c, rfl, hc2, hbc⟩ := inR_of hi
            simp only [Bool.not_true, cond_true, cond_false, BEq.rfl, Int.toNat_natCast]
            rw [write_eq s d ts b (by omega) g1 (by omega) (by omega)]
            simp only [Option.bind_some]
            rw [same_eq _ _ (by rw [clr_length]; omega) (by rw [clr_length]; omega)]
            rfl
        cases hr : inR s a k with
        | false =>
          simp only [Bool.not_false, cond_true, cond_false, bne_self_eq_false, BEq.rfl, Bool.not_true]
          exact tail
        | true =>
          obtain ⟨b, c, rfl, rfl, hbc⟩ := inR_of hr
          have e : IntKind.i64.wrap ((b : Int) + (c : Int)) = ((b + c : Nat) : Int) := by rw [w64] <;> omega
          simp only [Bool.not_true, cond_true, cond_false, bne_self_eq_false, e]
          rw [upto_t hbc, upto_t2 (by omega)]
          simp only [cond_true, Int.toNat_natCast, show ((b : Int) + (c : Int)).toNat = b + c by omega, BEq.rfl, Bool.not_true, cond_false]
          exact tail
end Go.Proofs.Ytgmpnhfnkhohiaa.Ev

/- midrange/tagged.place, out of its evaluation. Printed by the session's own program. -/
namespace Go.Proofs.Ytgmpnhfnkhohiaa.Ev
open Go Go.Proofs Go.Proofs.Ev
set_option linter.unusedVariables false
set_option maxRecDepth 100000
/-! midrange/tagged.place: function 56 -/
noncomputable def tagged_place.r5 {R : Type} (n : Nat) (c5 : Unit → Option R) (k : Int → Option R) (_ : Unit) : Option R :=
  k 3
noncomputable def tagged_place.e {R : Type} (n : Nat) (c5 : Unit → Option R) (k : Int → Option R) (a0 : ByteArray) (a1 : List AV) (a2 : Int) : Option R :=
  (tagged_CheckStorage.F n a0 a1).bind fun p1 =>
  bif p1.2 != 0 then (k p1.2) else (bif decide (a2 < 0) then (c5 ()) else (let y2 : Bool := decide (a2 ≥ ((a0.size : Nat) : Int))
  bif y2 then (c5 ()) else (bif (Int.tmod a2 16) != 0 then (c5 ()) else (k 0))))
noncomputable def tagged_place.C {R : Type} (n : Nat) (f : FuncId) (xs : List AV) : (AV → Option R) → Option R :=
  bif Nat.beq f 42 then tagged_CheckStorage.via n xs else fun _ => none
theorem tagged_place.tells {R : Type} (n : Nat) : Tells (R := R) Try.prog (tagged_place.C n) := fun _ xs => tells_at (tagged_CheckStorage.tells1 n xs) (Tells1.none)
noncomputable def tagged_place.cut (r : Nat) : Option Keep := match r with | 5 => Option.some ⟨[], []⟩ | _ => none
noncomputable def tagged_place.t5 : List Item := (todoOf 5 1000 [.code (Try.f56.body.getD .skip)]).getD []
noncomputable def tagged_place.s5 (_ : Unit) : St := ⟨[.undef, .undef, .undef, .undef, .undef, .undef, .undef, .undef, .undef, .undef, .undef, .undef, .undef, .undef, .undef, .undef, .undef, .undef, .undef, .undef, .undef, .undef, .undef, .undef, .undef, .undef, .undef, .undef, .undef], Mem.ofList [], 0⟩
theorem tagged_place.e_eq {R : Type} (n : Nat) (rec : List Item → St → Option R) (K : AV → Option R) (a0 : ByteArray) (a1 : List AV) (a2 : Int) :
    goK G (tagged_place.C n) tagged_place.cut (fun S => finK G Try.f56.resultTypes.toList Try.f56.results.toList S K) rec 1000 [.code (Try.f56.body.getD .skip)] (Ev.start Try.f56 [AV.agg [vs a0, .sl true 1 a1], vi a2]) = tagged_place.e n (fun _ => rec tagged_place.t5 (tagged_place.s5 ())) (fun p => K (vi p)) a0 a1 a2 := by kernel_rfl
theorem tagged_place.r5_eq {R : Type} (n : Nat) (rec : List Item → St → Option R) (K : AV → Option R) (_ : Unit) :
    atK G (tagged_place.C n) tagged_place.cut (fun S => finK G Try.f56.resultTypes.toList Try.f56.results.toList S K) rec tagged_place.t5 (tagged_place.s5 ()) = tagged_place.r5 n (fun _ => rec tagged_place.t5 (tagged_place.s5 ())) (fun p => K (vi p)) () := by kernel_rfl
noncomputable def tagged_place.l (n : Nat) : Nat → (Unit → Option (Int))
  | 0 => (fun _ => none)
  | m + 1 => tagged_place.r5 n (tagged_place.l n m) Option.some
noncomputable def tagged_place.F (n : Nat) (a0 : ByteArray) (a1 : List AV) (a2 : Int) : Option (Int) := tagged_place.e n (tagged_place.l n n) Option.some a0 a1 a2
noncomputable def tagged_place.dec (x : AV) : Option (Int) := match x with | .v (.int .i64 p0) => Option.some p0 | _ => none
theorem tagged_place.dec_inv {p : Int} (y : AV) (h : tagged_place.dec y = some p) : y = vi p := by
  unfold tagged_place.dec at h
  split at h
  · cases h; rfl
  · cases h
theorem tagged_place.l_eq (n m : Nat) : (∀ z : Unit, runK G (tagged_place.C n) tagged_place.cut (fun S => finK G Try.f56.resultTypes.toList Try.f56.results.toList S tagged_place.dec) m tagged_place.t5 (tagged_place.s5 z) = (tagged_place.l n m) z) := by
  induction m with
  | zero => exact fun _ => rfl
  | succ m ih =>
    have h5 := ih
    have e5 : (fun (_ : Unit) => runK G (tagged_place.C n) tagged_place.cut (fun S => finK G Try.f56.resultTypes.toList Try.f56.results.toList S tagged_place.dec) m tagged_place.t5 (tagged_place.s5 ())) = (tagged_place.l n m) := by funext z; exact h5 z
    have q5 : ∀ z : Unit, runK G (tagged_place.C n) tagged_place.cut (fun S => finK G Try.f56.resultTypes.toList Try.f56.results.toList S tagged_place.dec) (m + 1) tagged_place.t5 (tagged_place.s5 z) = (tagged_place.l n (m + 1)) z := by
      intro z
      rw [runK_succ]
      refine (tagged_place.r5_eq n _ tagged_place.dec ()).trans ?_
      rw [e5]
      rfl
    exact q5
theorem tagged_place.hands (n : Nat) (a0 : ByteArray) (a1 : List AV) (a2 : Int) {p : Int} (h : tagged_place.F n a0 a1 a2 = some p) : HandsIn Try.prog 56 [AV.agg [vs a0, .sl true 1 a1], vi a2] (vi p) := by
  refine hands_of cfg mixed (fun _ => rfl) (tagged_place.tells n) (fn := Try.f56) Try.func56 (by kernel_rfl) (by kernel_rfl) (cut := tagged_place.cut) (K := tagged_place.dec) (r := p) (n := n) tagged_place.dec_inv ?_
  rw [funK_getD (by kernel_rfl)]
  have h1 := tagged_place.e_eq n (runK G (tagged_place.C n) tagged_place.cut (fun S => finK G Try.f56.resultTypes.toList Try.f56.results.toList S tagged_place.dec) n) tagged_place.dec a0 a1 a2
  have hl := tagged_place.l_eq n n
  simp only [hl] at h1
  exact h1.trans h
noncomputable def tagged_place.via {R : Type} (n : Nat) (xs : List AV) : (AV → Option R) → Option R := match xs with | [.agg [.v (.string a0), .sl true 1 a1], .v (.int .i64 a2)] => fun K => (tagged_place.F n a0 a1 a2).bind fun p => K (vi p) | _ => fun _ => none
theorem tagged_place.tells1 {R : Type} (n : Nat) (xs : List AV) : Tells1 (R := R) Try.prog 56 xs (tagged_place.via n xs) := by
  unfold tagged_place.via
  split
  · exact Tells1.of (fun p hp => (tagged_place.hands n _ _ _ hp).hands)
  · exact Tells1.none
end Go.Proofs.Ytgmpnhfnkhohiaa.Ev

/- midrange/tagged.LoadPointer, out of its evaluation. Printed by the session's own program. -/
namespace Go.Proofs.Ytgmpnhfnkhohiaa.Ev
open Go Go.Proofs Go.Proofs.Ev
set_option linter.unusedVariables false
set_option maxRecDepth 100000
/-! midrange/tagged.LoadPointer: function 26 -/
noncomputable def tagged_LoadPointer.e {R : Type} (n : Nat)  (k : Int × Int × Int × Int × Int → Option R) (a0 : ByteArray) (a1 : List AV) (a2 : Int) : Option R :=
  (tagged_place.F n a0 a1 a2).bind fun p1 =>
  bif p1 != 0 then (k (0, 0, 0, 0, p1)) else (let y2 : Int := IntKind.i64.wrap (Int.tdiv a2 16)
  bif decide ((0 : Int) ≤ y2) && decide (y2 < ((a1.length : Nat) : Int)) then (withCons ((a1.getD ((y2).toNat) .undef).cells) fun c3 r4 =>
  withBool c3 fun b5 =>
  bif !b5 then (k (0, 0, 0, 0, 22)) else (bif decide ((0 : Int) ≤ IntKind.i64.wrap (a2 + 16)) && decide ((IntKind.i64.wrap (a2 + 16) : Int) ≤ ((a0.size : Nat) : Int)) then (bif decide ((0 : Int) ≤ a2) && decide ((a2 : Int) ≤ IntKind.i64.wrap (a2 + 16)) then (let y6 : ByteArray := a0.extract (a2).toNat (IntKind.i64.wrap (a2 + 16)).toNat
  (tagged_PointerIn.F n y6).bind fun p7 =>
  k (p7.1, p7.2.1, p7.2.2.1, p7.2.2.2.1, p7.2.2.2.2)) else none) else none)) else none)
noncomputable def tagged_LoadPointer.C {R : Type} (n : Nat) (f : FuncId) (xs : List AV) : (AV → Option R) → Option R :=
  bif Nat.beq f 15 then tagged_PointerIn.via n xs else bif Nat.beq f 56 then tagged_place.via n xs else fun _ => none
theorem tagged_LoadPointer.tells {R : Type} (n : Nat) : Tells (R := R) Try.prog (tagged_LoadPointer.C n) := fun _ xs => tells_at (tagged_PointerIn.tells1 n xs) (tells_at (tagged_place.tells1 n xs) (Tells1.none))
noncomputable def tagged_LoadPointer.cut (r : Nat) : Option Keep := match r with  | _ => none
theorem tagged_LoadPointer.e_eq {R : Type} (n : Nat) (rec : List Item → St → Option R) (K : AV → Option R) (a0 : ByteArray) (a1 : List AV) (a2 : Int) :
    goK G (tagged_LoadPointer.C n) tagged_LoadPointer.cut (fun S => finK G Try.f26.resultTypes.toList Try.f26.results.toList S K) rec 1000 [.code (Try.f26.body.getD .skip)] (Ev.start Try.f26 [AV.agg [vs a0, .sl true 1 a1], vi a2]) = tagged_LoadPointer.e n  (fun p => K (.tup [.agg [vi p.1, vi p.2.1, vi p.2.2.1, vi p.2.2.2.1], vi p.2.2.2.2])) a0 a1 a2 := by kernel_rfl
noncomputable def tagged_LoadPointer.F (n : Nat) (a0 : ByteArray) (a1 : List AV) (a2 : Int) : Option (Int × Int × Int × Int × Int) := tagged_LoadPointer.e n  Option.some a0 a1 a2
noncomputable def tagged_LoadPointer.dec (x : AV) : Option (Int × Int × Int × Int × Int) := match x with | .tup [.agg [.v (.int .i64 p0), .v (.int .i64 p1), .v (.int .i64 p2), .v (.int .i64 p3)], .v (.int .i64 p4)] => Option.some (p0, p1, p2, p3, p4) | _ => none
theorem tagged_LoadPointer.dec_inv {p : Int × Int × Int × Int × Int} (y : AV) (h : tagged_LoadPointer.dec y = some p) : y = .tup [.agg [vi p.1, vi p.2.1, vi p.2.2.1, vi p.2.2.2.1], vi p.2.2.2.2] := by
  unfold tagged_LoadPointer.dec at h
  split at h
  · cases h; rfl
  · cases h
theorem tagged_LoadPointer.hands (n : Nat) (a0 : ByteArray) (a1 : List AV) (a2 : Int) {p : Int × Int × Int × Int × Int} (h : tagged_LoadPointer.F n a0 a1 a2 = some p) : HandsIn Try.prog 26 [AV.agg [vs a0, .sl true 1 a1], vi a2] (.tup [.agg [vi p.1, vi p.2.1, vi p.2.2.1, vi p.2.2.2.1], vi p.2.2.2.2]) := by
  refine hands_of cfg mixed (fun _ => rfl) (tagged_LoadPointer.tells n) (fn := Try.f26) Try.func26 (by kernel_rfl) (by kernel_rfl) (cut := tagged_LoadPointer.cut) (K := tagged_LoadPointer.dec) (r := p) (n := n) tagged_LoadPointer.dec_inv ?_
  rw [funK_getD (by kernel_rfl)]
  have h1 := tagged_LoadPointer.e_eq n (runK G (tagged_LoadPointer.C n) tagged_LoadPointer.cut (fun S => finK G Try.f26.resultTypes.toList Try.f26.results.toList S tagged_LoadPointer.dec) n) tagged_LoadPointer.dec a0 a1 a2
  exact h1.trans h
noncomputable def tagged_LoadPointer.via {R : Type} (n : Nat) (xs : List AV) : (AV → Option R) → Option R := match xs with | [.agg [.v (.string a0), .sl true 1 a1], .v (.int .i64 a2)] => fun K => (tagged_LoadPointer.F n a0 a1 a2).bind fun p => K (.tup [.agg [vi p.1, vi p.2.1, vi p.2.2.1, vi p.2.2.2.1], vi p.2.2.2.2]) | _ => fun _ => none
theorem tagged_LoadPointer.tells1 {R : Type} (n : Nat) (xs : List AV) : Tells1 (R := R) Try.prog 26 xs (tagged_LoadPointer.via n xs) := by
  unfold tagged_LoadPointer.via
  split
  · exact Tells1.of (fun p hp => (tagged_LoadPointer.hands n _ _ _ hp).hands)
  · exact Tells1.none
end Go.Proofs.Ytgmpnhfnkhohiaa.Ev

/- midrange/tagged.StorePointer, out of its evaluation. Printed by the session's own program. -/
namespace Go.Proofs.Ytgmpnhfnkhohiaa.Ev
open Go Go.Proofs Go.Proofs.Ev
set_option linter.unusedVariables false
set_option maxRecDepth 100000
/-! midrange/tagged.StorePointer: function 27 -/
noncomputable def tagged_StorePointer.e {R : Type} (n : Nat)  (k : ByteArray × List AV × Int → Option R) (a0 : ByteArray) (a1 : List AV) (a2 : Int) (a3 : Int) (a4 : Int) (a5 : Int) (a6 : Int) : Option R :=
  (tagged_place.F n a0 a1 a2).bind fun p1 =>
  bif p1 != 0 then (k ((⟨#[]⟩ : ByteArray), [], p1)) else ((tagged_CheckPointer.F n a3 a4 a5 a6).bind fun p2 =>
  bif p2 != 0 then (k ((⟨#[]⟩ : ByteArray), [], p2)) else ((tagged_encoded.F n a3 a4 a5 a6).bind fun p3 =>
  (tagged_put.F n a0 a1 a2 p3).bind fun p4 =>
  let y5 : Int := IntKind.i64.wrap (Int.tdiv a2 16)
  bif decide ((0 : Int) ≤ y5) && decide (y5 < ((p4.2.length : Nat) : Int)) then (let y6 : List AV := p4.2.set ((y5).toNat) (vb true)
  k (p4.1, y6, 0)) else none))
noncomputable def tagged_StorePointer.C {R : Type} (n : Nat) (f : FuncId) (xs : List AV) : (AV → Option R) → Option R :=
  bif Nat.beq f 13 then tagged_CheckPointer.via n xs else bif Nat.beq f 47 then tagged_encoded.via n xs else bif Nat.beq f 53 then tagged_put.via n xs else bif Nat.beq f 56 then tagged_place.via n xs else fun _ => none
theorem tagged_StorePointer.tells {R : Type} (n : Nat) : Tells (R := R) Try.prog (tagged_StorePointer.C n) := fun _ xs => tells_at (tagged_CheckPointer.tells1 n xs) (tells_at (tagged_encoded.tells1 n xs) (tells_at (tagged_put.tells1 n xs) (tells_at (tagged_place.tells1 n xs) (Tells1.none))))
noncomputable def tagged_StorePointer.cut (r : Nat) : Option Keep := match r with  | _ => none
theorem tagged_StorePointer.e_eq {R : Type} (n : Nat) (rec : List Item → St → Option R) (K : AV → Option R) (a0 : ByteArray) (a1 : List AV) (a2 : Int) (a3 : Int) (a4 : Int) (a5 : Int) (a6 : Int) :
    goK G (tagged_StorePointer.C n) tagged_StorePointer.cut (fun S => finK G Try.f27.resultTypes.toList Try.f27.results.toList S K) rec 1000 [.code (Try.f27.body.getD .skip)] (Ev.start Try.f27 [AV.agg [vs a0, .sl true 1 a1], vi a2, .agg [vi a3, vi a4, vi a5, vi a6]]) = tagged_StorePointer.e n  (fun p => K (.tup [.agg [vs p.1, .fr true 1 p.2.1], vi p.2.2])) a0 a1 a2 a3 a4 a5 a6 := by kernel_rfl
noncomputable def tagged_StorePointer.F (n : Nat) (a0 : ByteArray) (a1 : List AV) (a2 : Int) (a3 : Int) (a4 : Int) (a5 : Int) (a6 : Int) : Option (ByteArray × List AV × Int) := tagged_StorePointer.e n  Option.some a0 a1 a2 a3 a4 a5 a6
noncomputable def tagged_StorePointer.dec (x : AV) : Option (ByteArray × List AV × Int) := match x with | .tup [.agg [.v (.string p0), .fr true 1 p1], .v (.int .i64 p2)] => Option.some (p0, p1, p2) | _ => none
theorem tagged_StorePointer.dec_inv {p : ByteArray × List AV × Int} (y : AV) (h : tagged_StorePointer.dec y = some p) : y = .tup [.agg [vs p.1, .fr true 1 p.2.1], vi p.2.2] := by
  unfold tagged_StorePointer.dec at h
  split at h
  · cases h; rfl
  · cases h
theorem tagged_StorePointer.hands (n : Nat) (a0 : ByteArray) (a1 : List AV) (a2 : Int) (a3 : Int) (a4 : Int) (a5 : Int) (a6 : Int) {p : ByteArray × List AV × Int} (h : tagged_StorePointer.F n a0 a1 a2 a3 a4 a5 a6 = some p) : HandsIn Try.prog 27 [AV.agg [vs a0, .sl true 1 a1], vi a2, .agg [vi a3, vi a4, vi a5, vi a6]] (.tup [.agg [vs p.1, .fr true 1 p.2.1], vi p.2.2]) := by
  refine hands_of cfg mixed (fun _ => rfl) (tagged_StorePointer.tells n) (fn := Try.f27) Try.func27 (by kernel_rfl) (by kernel_rfl) (cut := tagged_StorePointer.cut) (K := tagged_StorePointer.dec) (r := p) (n := n) tagged_StorePointer.dec_inv ?_
  rw [funK_getD (by kernel_rfl)]
  have h1 := tagged_StorePointer.e_eq n (runK G (tagged_StorePointer.C n) tagged_StorePointer.cut (fun S => finK G Try.f27.resultTypes.toList Try.f27.results.toList S tagged_StorePointer.dec) n) tagged_StorePointer.dec a0 a1 a2 a3 a4 a5 a6
  exact h1.trans h
noncomputable def tagged_StorePointer.via {R : Type} (n : Nat) (xs : List AV) : (AV → Option R) → Option R := match xs with | [.agg [.v (.string a0), .sl true 1 a1], .v (.int .i64 a2), .agg [.v (.int .i64 a3), .v (.int .i64 a4), .v (.int .i64 a5), .v (.int .i64 a6)]] => fun K => (tagged_StorePointer.F n a0 a1 a2 a3 a4 a5 a6).bind fun p => K (.tup [.agg [vs p.1, .fr true 1 p.2.1], vi p.2.2]) | _ => fun _ => none
theorem tagged_StorePointer.tells1 {R : Type} (n : Nat) (xs : List AV) : Tells1 (R := R) Try.prog 27 xs (tagged_StorePointer.via n xs) := by
  unfold tagged_StorePointer.via
  split
  · exact Tells1.of (fun p hp => (tagged_StorePointer.hands n _ _ _ _ _ _ _ hp).hands)
  · exact Tells1.none
end Go.Proofs.Ytgmpnhfnkhohiaa.Ev

/- midrange/midrangeref03.IsQuad, out of its evaluation. Printed by the session's own program. -/
namespace Go.Proofs.Ytgmpnhfnkhohiaa.Ev
open Go Go.Proofs Go.Proofs.Ev
set_option linter.unusedVariables false
set_option maxRecDepth 100000
/-! midrange/midrangeref03.IsQuad: function 28 -/
noncomputable def midrangeref03_IsQuad.e {R : Type} (n : Nat)  (k : Bool → Option R) (a0 : ByteArray) (a1 : List AV) (a2 : Int) : Option R :=
  let y1 : Int := IntKind.i64.wrap (((a0.size : Nat) : Int) - 16)
  (midrangebase_Within.F n a2 0 y1).bind fun p2 =>
  bif p2 then (k ((Int.tmod a2 16) == 0)) else (k false)
noncomputable def midrangeref03_IsQuad.C {R : Type} (n : Nat) (f : FuncId) (xs : List AV) : (AV → Option R) → Option R :=
  bif Nat.beq f 40 then midrangebase_Within.via n xs else fun _ => none
theorem midrangeref03_IsQuad.tells {R : Type} (n : Nat) : Tells (R := R) Try.prog (midrangeref03_IsQuad.C n) := fun _ xs => tells_at (midrangebase_Within.tells1 n xs) (Tells1.none)
noncomputable def midrangeref03_IsQuad.cut (r : Nat) : Option Keep := match r with  | _ => none
theorem midrangeref03_IsQuad.e_eq {R : Type} (n : Nat) (rec : List Item → St → Option R) (K : AV → Option R) (a0 : ByteArray) (a1 : List AV) (a2 : Int) :
    goK G (midrangeref03_IsQuad.C n) midrangeref03_IsQuad.cut (fun S => finK G Try.f28.resultTypes.toList Try.f28.results.toList S K) rec 1000 [.code (Try.f28.body.getD .skip)] (Ev.start Try.f28 [AV.agg [vs a0, .sl true 1 a1], vi a2]) = midrangeref03_IsQuad.e n  (fun p => K (vb p)) a0 a1 a2 := by kernel_rfl
noncomputable def midrangeref03_IsQuad.F (n : Nat) (a0 : ByteArray) (a1 : List AV) (a2 : Int) : Option (Bool) := midrangeref03_IsQuad.e n  Option.some a0 a1 a2
noncomputable def midrangeref03_IsQuad.dec (x : AV) : Option (Bool) := match x with | .v (.bool p0) => Option.some p0 | _ => none
theorem midrangeref03_IsQuad.dec_inv {p : Bool} (y : AV) (h : midrangeref03_IsQuad.dec y = some p) : y = vb p := by
  unfold midrangeref03_IsQuad.dec at h
  split at h
  · cases h; rfl
  · cases h
theorem midrangeref03_IsQuad.hands (n : Nat) (a0 : ByteArray) (a1 : List AV) (a2 : Int) {p : Bool} (h : midrangeref03_IsQuad.F n a0 a1 a2 = some p) : HandsIn Try.prog 28 [AV.agg [vs a0, .sl true 1 a1], vi a2] (vb p) := by
  refine hands_of cfg mixed (fun _ => rfl) (midrangeref03_IsQuad.tells n) (fn := Try.f28) Try.func28 (by kernel_rfl) (by kernel_rfl) (cut := midrangeref03_IsQuad.cut) (K := midrangeref03_IsQuad.dec) (r := p) (n := n) midrangeref03_IsQuad.dec_inv ?_
  rw [funK_getD (by kernel_rfl)]
  have h1 := midrangeref03_IsQuad.e_eq n (runK G (midrangeref03_IsQuad.C n) midrangeref03_IsQuad.cut (fun S => finK G Try.f28.resultTypes.toList Try.f28.results.toList S midrangeref03_IsQuad.dec) n) midrangeref03_IsQuad.dec a0 a1 a2
  exact h1.trans h
noncomputable def midrangeref03_IsQuad.via {R : Type} (n : Nat) (xs : List AV) : (AV → Option R) → Option R := match xs with | [.agg [.v (.string a0), .sl true 1 a1], .v (.int .i64 a2)] => fun K => (midrangeref03_IsQuad.F n a0 a1 a2).bind fun p => K (vb p) | _ => fun _ => none
theorem midrangeref03_IsQuad.tells1 {R : Type} (n : Nat) (xs : List AV) : Tells1 (R := R) Try.prog 28 xs (midrangeref03_IsQuad.via n xs) := by
  unfold midrangeref03_IsQuad.via
  split
  · exact Tells1.of (fun p hp => (midrangeref03_IsQuad.hands n _ _ _ hp).hands)
  · exact Tells1.none
end Go.Proofs.Ytgmpnhfnkhohiaa.Ev
