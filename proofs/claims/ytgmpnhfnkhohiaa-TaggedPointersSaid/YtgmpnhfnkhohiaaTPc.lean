/- The table of the program's types, and that it is right. Printed by the session's own program. -/
import Derived.Test.YtgmpnhfnkhohiaaTPb
import Derived.Test.YtgmpnhfnkhohiaaProg
import Derived.KernelRfl

namespace Go.Proofs.Ytgmpnhfnkhohiaa.Ev
open Go Go.Proofs Go.Proofs.Ev
set_option linter.unusedVariables false
set_option maxRecDepth 100000
noncomputable def tabL : List (Option TI) := [
  none,
  Option.some ⟨.other, 1, 8, false, [.any], [.nilFunc]⟩,
  Option.some ⟨.int .i64, 1, 8, false, [(.int .i64)], [.int .i64 0]⟩,
  Option.some ⟨.int .i64, 1, 8, false, [(.int .i64)], [.int .i64 0]⟩,
  Option.some ⟨.bool, 1, 1, false, [.bool], [.bool false]⟩,
  Option.some ⟨.int .u8, 1, 1, false, [(.int .u8)], [.int .u8 0]⟩,
  none,
  none,
  none,
  Option.some ⟨.string, 1, 16, false, [.str], [.string ⟨#[]⟩]⟩,
  none,
  none,
  Option.some ⟨.int .u64, 1, 8, false, [(.int .u64)], [.int .u64 0]⟩,
  none,
  none,
  Option.some ⟨.ptr 127, 1, 8, false, [.any], [.pointer none]⟩,
  Option.some ⟨.ptr 130, 1, 8, false, [.any], [.pointer none]⟩,
  Option.some ⟨.ptr 137, 1, 8, false, [.any], [.pointer none]⟩,
  none,
  none,
  Option.some ⟨.iface, 1, 16, false, [.any], [.nilIface]⟩,
  Option.some ⟨.int .i32, 1, 4, false, [(.int .i32)], [.int .i32 0]⟩,
  Option.some ⟨.struct [(3, 0), (3, 1)], 2, 16, true, [(.int .i64), (.int .i64)], [.int .i64 0, .int .i64 0]⟩,
  Option.some ⟨.struct [(3, 0), (3, 1)], 2, 16, true, [(.int .i64), (.int .i64)], [.int .i64 0, .int .i64 0]⟩,
  Option.some ⟨.struct [(3, 0), (23, 1), (3, 3)], 4, 32, true, [(.int .i64), (.int .i64), (.int .i64), (.int .i64)], [.int .i64 0, .int .i64 0, .int .i64 0, .int .i64 0]⟩,
  Option.some ⟨.struct [(3, 0), (23, 1), (3, 3)], 4, 32, true, [(.int .i64), (.int .i64), (.int .i64), (.int .i64)], [.int .i64 0, .int .i64 0, .int .i64 0, .int .i64 0]⟩,
  Option.some ⟨.other, 1, 8, false, [.any], [.nilFunc]⟩,
  Option.some ⟨.other, 1, 8, false, [.any], [.nilFunc]⟩,
  Option.some ⟨.int .i64, 1, 8, false, [(.int .i64)], [.int .i64 0]⟩,
  none,
  Option.some ⟨.other, 1, 8, false, [.any], [.nilFunc]⟩,
  Option.some ⟨.other, 1, 8, false, [.any], [.nilFunc]⟩,
  Option.some ⟨.other, 1, 8, false, [.any], [.nilFunc]⟩,
  none,
  Option.some ⟨.other, 1, 8, false, [.any], [.nilFunc]⟩,
  none,
  Option.some ⟨.other, 1, 8, false, [.any], [.nilFunc]⟩,
  Option.some ⟨.other, 1, 8, false, [.any], [.nilFunc]⟩,
  Option.some ⟨.slice 4, 1, 24, false, [(.slice true 1)], [.slice none 0 0]⟩,
  Option.some ⟨.struct [(9, 0), (38, 1)], 2, 40, true, [.str, (.slice true 1)], [.string ⟨#[]⟩, .slice none 0 0]⟩,
  Option.some ⟨.struct [(9, 0), (38, 1)], 2, 40, true, [.str, (.slice true 1)], [.string ⟨#[]⟩, .slice none 0 0]⟩,
  Option.some ⟨.struct [(3, 0), (3, 1), (9, 2)], 3, 32, true, [(.int .i64), (.int .i64), .str], [.int .i64 0, .int .i64 0, .string ⟨#[]⟩]⟩,
  Option.some ⟨.struct [(3, 0), (3, 1), (9, 2)], 3, 32, true, [(.int .i64), (.int .i64), .str], [.int .i64 0, .int .i64 0, .string ⟨#[]⟩]⟩,
  Option.some ⟨.other, 1, 8, false, [.any], [.nilFunc]⟩,
  Option.some ⟨.other, 1, 8, false, [.any], [.nilFunc]⟩,
  Option.some ⟨.other, 1, 8, false, [.any], [.nilFunc]⟩,
  none,
  Option.some ⟨.other, 1, 8, false, [.any], [.nilFunc]⟩,
  Option.some ⟨.other, 1, 8, false, [.any], [.nilFunc]⟩,
  Option.some ⟨.other, 1, 8, false, [.any], [.nilFunc]⟩,
  Option.some ⟨.other, 1, 8, false, [.any], [.nilFunc]⟩,
  Option.some ⟨.other, 1, 8, false, [.any], [.nilFunc]⟩,
  Option.some ⟨.other, 1, 8, false, [.any], [.nilFunc]⟩,
  Option.some ⟨.other, 1, 8, false, [.any], [.nilFunc]⟩,
  Option.some ⟨.other, 1, 8, false, [.any], [.nilFunc]⟩,
  Option.some ⟨.other, 1, 8, false, [.any], [.nilFunc]⟩,
  Option.some ⟨.other, 1, 8, false, [.any], [.nilFunc]⟩,
  Option.some ⟨.other, 1, 8, false, [.any], [.nilFunc]⟩,
  Option.some ⟨.other, 1, 8, false, [.any], [.nilFunc]⟩,
  Option.some ⟨.struct [(3, 0), (3, 1), (3, 2)], 3, 24, true, [(.int .i64), (.int .i64), (.int .i64)], [.int .i64 0, .int .i64 0, .int .i64 0]⟩,
  Option.some ⟨.struct [(3, 0), (3, 1), (3, 2)], 3, 24, true, [(.int .i64), (.int .i64), (.int .i64)], [.int .i64 0, .int .i64 0, .int .i64 0]⟩,
  Option.some ⟨.other, 1, 8, false, [.any], [.nilFunc]⟩,
  Option.some ⟨.other, 1, 8, false, [.any], [.nilFunc]⟩,
  Option.some ⟨.other, 1, 8, false, [.any], [.nilFunc]⟩,
  Option.some ⟨.other, 1, 8, false, [.any], [.nilFunc]⟩,
  Option.some ⟨.other, 1, 8, false, [.any], [.nilFunc]⟩,
  none,
  Option.some ⟨.other, 1, 8, false, [.any], [.nilFunc]⟩,
  Option.some ⟨.slice 3, 1, 24, false, [(.slice true 1)], [.slice none 0 0]⟩,
  none,
  Option.some ⟨.other, 1, 8, false, [.any], [.nilFunc]⟩,
  Option.some ⟨.other, 1, 8, false, [.any], [.nilFunc]⟩,
  Option.some ⟨.other, 1, 8, false, [.any], [.nilFunc]⟩,
  Option.some ⟨.other, 1, 8, false, [.any], [.nilFunc]⟩,
  Option.some ⟨.other, 1, 8, false, [.any], [.nilFunc]⟩,
  Option.some ⟨.other, 1, 8, false, [.any], [.nilFunc]⟩,
  Option.some ⟨.other, 1, 8, false, [.any], [.nilFunc]⟩,
  none,
  Option.some ⟨.other, 1, 8, false, [.any], [.nilFunc]⟩,
  Option.some ⟨.other, 1, 8, false, [.any], [.nilFunc]⟩,
  Option.some ⟨.other, 1, 8, false, [.any], [.nilFunc]⟩,
  Option.some ⟨.other, 1, 8, false, [.any], [.nilFunc]⟩,
  Option.some ⟨.other, 1, 8, false, [.any], [.nilFunc]⟩,
  Option.some ⟨.other, 1, 8, false, [.any], [.nilFunc]⟩,
  Option.some ⟨.other, 1, 8, false, [.any], [.nilFunc]⟩,
  Option.some ⟨.other, 1, 8, false, [.any], [.nilFunc]⟩,
  Option.some ⟨.other, 1, 8, false, [.any], [.nilFunc]⟩,
  Option.some ⟨.other, 1, 8, false, [.any], [.nilFunc]⟩,
  Option.some ⟨.other, 1, 8, false, [.any], [.nilFunc]⟩,
  Option.some ⟨.other, 1, 8, false, [.any], [.nilFunc]⟩,
  Option.some ⟨.other, 1, 8, false, [.any], [.nilFunc]⟩,
  Option.some ⟨.other, 1, 8, false, [.any], [.nilFunc]⟩,
  Option.some ⟨.other, 1, 8, false, [.any], [.nilFunc]⟩,
  Option.some ⟨.other, 1, 8, false, [.any], [.nilFunc]⟩,
  Option.some ⟨.slice 5, 1, 24, false, [(.slice true 1)], [.slice none 0 0]⟩,
  Option.some ⟨.other, 1, 8, false, [.any], [.nilFunc]⟩,
  Option.some ⟨.other, 1, 8, false, [.any], [.nilFunc]⟩,
  Option.some ⟨.int .u64, 1, 8, false, [(.int .u64)], [.int .u64 0]⟩,
  none,
  Option.some ⟨.other, 1, 8, false, [.any], [.nilFunc]⟩,
  Option.some ⟨.other, 1, 8, false, [.any], [.nilFunc]⟩,
  Option.some ⟨.ptr 103, 1, 8, false, [.any], [.pointer none]⟩,
  Option.some ⟨.struct [(101, 0), (94, 1)], 2, 32, true, [.any, (.slice true 1)], [.pointer none, .slice none 0 0]⟩,
  Option.some ⟨.struct [(101, 0), (94, 1)], 2, 32, true, [.any, (.slice true 1)], [.pointer none, .slice none 0 0]⟩,
  Option.some ⟨.other, 1, 8, false, [.any], [.nilFunc]⟩,
  Option.some ⟨.iface, 1, 16, false, [.any], [.nilIface]⟩,
  Option.some ⟨.iface, 1, 16, false, [.any], [.nilIface]⟩,
  none,
  Option.some ⟨.other, 1, 8, false, [.any], [.nilFunc]⟩,
  Option.some ⟨.other, 1, 8, false, [.any], [.nilFunc]⟩,
  Option.some ⟨.other, 1, 8, false, [.any], [.nilFunc]⟩,
  Option.some ⟨.slice 94, 1, 24, false, [(.slice false 1)], [.slice none 0 0]⟩,
  Option.some ⟨.other, 1, 8, false, [.any], [.nilFunc]⟩,
  Option.some ⟨.other, 1, 8, false, [.any], [.nilFunc]⟩,
  Option.some ⟨.other, 1, 8, false, [.any], [.nilFunc]⟩,
  Option.some ⟨.int .u32, 1, 4, false, [(.int .u32)], [.int .u32 0]⟩,
  none,
  Option.some ⟨.other, 1, 8, false, [.any], [.nilFunc]⟩,
  Option.some ⟨.int .u64, 1, 8, false, [(.int .u64)], [.int .u64 0]⟩,
  none,
  Option.some ⟨.other, 1, 8, false, [.any], [.nilFunc]⟩,
  Option.some ⟨.ptr 5, 1, 8, false, [.any], [.pointer none]⟩,
  Option.some ⟨.other, 1, 8, false, [.any], [.nilFunc]⟩,
  none,
  Option.some ⟨.other, 1, 8, false, [.any], [.nilFunc]⟩,
  Option.some ⟨.other, 1, 8, false, [.any], [.nilFunc]⟩,
  none,
  none,
  Option.some ⟨.arr 0 16, 0, 0, true, [], []⟩,
  none,
  none,
  none,
  none,
  Option.some ⟨.other, 1, 8, false, [.any], [.nilFunc]⟩,
  none,
  none,
  none,
  none]
noncomputable def params (f : FuncId) : List TypeId := match f with | 0 => [] | 1 => [] | 2 => [] | 3 => [25, 9] | 4 => [40, 42] | 5 => [40, 3, 25] | 6 => [40, 60] | 7 => [40, 42, 60] | 8 => [40, 3, 9] | 9 => [40, 3] | 10 => [] | 11 => [25] | 12 => [25] | 13 => [25] | 14 => [25] | 15 => [9] | 16 => [9] | 17 => [40] | 18 => [40, 3, 3] | 19 => [40] | 20 => [40, 3, 9] | 21 => [40] | 22 => [40] | 23 => [40, 3, 3] | 24 => [40, 40] | 25 => [40, 3, 9] | 26 => [40, 3] | 27 => [40, 3, 25] | 28 => [40, 3] | 29 => [40, 3] | 30 => [40, 3, 25] | 31 => [40, 60] | 32 => [40, 60] | 33 => [40, 60, 4] | 34 => [40, 60, 4] | 35 => [40, 40] | 36 => [40, 3, 9] | 37 => [40] | 38 => [68, 68] | 39 => [40] | 40 => [3, 3, 3] | 41 => [40, 3, 9] | 42 => [40] | 43 => [40] | 44 => [3] | 45 => [3] | 46 => [3, 3] | 47 => [25] | 48 => [3, 3, 3] | 49 => [9] | 50 => [9, 3, 3] | 51 => [40, 3, 3] | 52 => [38] | 53 => [40, 3, 9] | 54 => [38, 38] | 55 => [9, 3, 9] | 56 => [40, 3] | 57 => [40, 3] | 58 => [40, 60] | 59 => [9, 9] | 60 => [9, 3] | 61 => [5, 3] | 62 => [111] | 63 => [3, 3] | 64 => [38] | 65 => [9, 9] | 66 => [97, 97] | 67 => [9, 9] | 68 => [101, 3] | 69 => [101, 9] | 70 => [101] | 71 => [101] | 72 => [1, 3] | 73 => [9, 5] | 74 => [9, 9] | 75 => [3] | 76 => [9, 9] | 77 => [115, 115] | 78 => [118, 118] | 79 => [9, 9] | 80 => [101] | 81 => [101, 3] | 82 => [9, 5] | 83 => [9] | 85 => [3] | 86 => [8] | 87 => [8] | 88 => [10] | 89 => [10] | 90 => [11] | 91 => [11] | 92 => [14] | 93 => [14] | 94 => [15] | 95 => [15] | 96 => [16] | 97 => [16] | 98 => [17] | 99 => [19] | 100 => [19] | 101 => [101] | 102 => [132] | _ => []
noncomputable def G : Cfg := ⟨fun t => (tabL[t]?).join, fun _ => none, params⟩
theorem mixed : Try.prog.follows .mixedOrders = true := by kernel_rfl
theorem tabL_len : tabL.length = 138 := by kernel_rfl
theorem tabG : G.tab = fun t => (tabL[t]?).join := rfl
theorem cfg : CfgOk Try.prog G := by
  refine cfgOk_of (n := 138) (fun t ht => ?_) (by kernel_rfl)
  have h : tabL[t]? = none := List.getElem?_eq_none (by rw [tabL_len]; exact ht)
  rw [tabG]
  simp only [h]
  rfl
end Go.Proofs.Ytgmpnhfnkhohiaa.Ev

/- midrange/tagged.within, out of its evaluation. Printed by the session's own program. -/
namespace Go.Proofs.Ytgmpnhfnkhohiaa.Ev
open Go Go.Proofs Go.Proofs.Ev
set_option linter.unusedVariables false
set_option maxRecDepth 100000
/-! midrange/tagged.within: function 48 -/
noncomputable def tagged_within.e {R : Type} (n : Nat)  (k : Bool → Option R) (a0 : Int) (a1 : Int) (a2 : Int) : Option R :=
bif decide (a1 ≤ a0) then (k (decide (a0 ≤ a2))) else (k false)
noncomputable def tagged_within.C {R : Type} (n : Nat) (f : FuncId) (xs : List AV) : (AV → Option R) → Option R :=
  fun _ => none
theorem tagged_within.tells {R : Type} (n : Nat) : Tells (R := R) Try.prog (tagged_within.C n) := fun _ xs => Tells1.none
noncomputable def tagged_within.cut (r : Nat) : Option Keep := match r with  | _ => none
theorem tagged_within.e_eq {R : Type} (n : Nat) (rec : List Item → St → Option R) (K : AV → Option R) (a0 : Int) (a1 : Int) (a2 : Int) :
    goK G (tagged_within.C n) tagged_within.cut (fun S => finK G Try.f48.resultTypes.toList Try.f48.results.toList S K) rec 1000 [.code (Try.f48.body.getD .skip)] (Ev.start Try.f48 [vi a0, vi a1, vi a2]) = tagged_within.e n  (fun p => K (vb p)) a0 a1 a2 := by kernel_rfl
noncomputable def tagged_within.F (n : Nat) (a0 : Int) (a1 : Int) (a2 : Int) : Option (Bool) := tagged_within.e n  Option.some a0 a1 a2
noncomputable def tagged_within.dec (x : AV) : Option (Bool) := match x with | .v (.bool p0) => Option.some p0 | _ => none
theorem tagged_within.dec_inv {p : Bool} (y : AV) (h : tagged_within.dec y = some p) : y = vb p := by
  unfold tagged_within.dec at h
  split at h
  · cases h; rfl
  · cases h
theorem tagged_within.hands (n : Nat) (a0 : Int) (a1 : Int) (a2 : Int) {p : Bool} (h : tagged_within.F n a0 a1 a2 = some p) : HandsIn Try.prog 48 [vi a0, vi a1, vi a2] (vb p) := by
  refine hands_of cfg mixed (fun _ => rfl) (tagged_within.tells n) (fn := Try.f48) Try.func48 (by kernel_rfl) (by kernel_rfl) (cut := tagged_within.cut) (K := tagged_within.dec) (r := p) (n := n) tagged_within.dec_inv ?_
  rw [funK_getD (by kernel_rfl)]
  have h1 := tagged_within.e_eq n (runK G (tagged_within.C n) tagged_within.cut (fun S => finK G Try.f48.resultTypes.toList Try.f48.results.toList S tagged_within.dec) n) tagged_within.dec a0 a1 a2
  exact h1.trans h
noncomputable def tagged_within.via {R : Type} (n : Nat) (xs : List AV) : (AV → Option R) → Option R := match xs with | [.v (.int .i64 a0), .v (.int .i64 a1), .v (.int .i64 a2)] => fun K => (tagged_within.F n a0 a1 a2).bind fun p => K (vb p) | _ => fun _ => none
theorem tagged_within.tells1 {R : Type} (n : Nat) (xs : List AV) : Tells1 (R := R) Try.prog 48 xs (tagged_within.via n xs) := by
  unfold tagged_within.via
  split
  · exact Tells1.of (fun p hp => (tagged_within.hands n _ _ _ hp).hands)
  · exact Tells1.none
end Go.Proofs.Ytgmpnhfnkhohiaa.Ev

/- midrange/tagged.CheckPointer, out of its evaluation. Printed by the session's own program. -/
namespace Go.Proofs.Ytgmpnhfnkhohiaa.Ev
open Go Go.Proofs Go.Proofs.Ev
set_option linter.unusedVariables false
set_option maxRecDepth 100000
/-! midrange/tagged.CheckPointer: function 13 -/
noncomputable def tagged_CheckPointer.r6 {R : Type} (n : Nat) (c6 : Unit → Option R) (k : Int → Option R) (_ : Unit) : Option R :=
k 3
noncomputable def tagged_CheckPointer.e {R : Type} (n : Nat) (c6 : Unit → Option R) (k : Int → Option R) (a0 : Int) (a1 : Int) (a2 : Int) (a3 : Int) : Option R :=
(tagged_within.F n a0 0 2).bind fun p1 =>
bif !p1 then (k 4) else ((tagged_within.F n a1 0 1099511627775).bind fun p2 =>
bif !p2 then (c6 ()) else ((tagged_within.F n a2 0 16777215).bind fun p3 =>
bif !p3 then (c6 ()) else ((tagged_within.F n a3 0 1023).bind fun p4 =>
bif !p4 then (c6 ()) else (bif a3 != 0 then (bif a0 != 1 then (k 5) else (k 0)) else (k 0)))))
noncomputable def tagged_CheckPointer.C {R : Type} (n : Nat) (f : FuncId) (xs : List AV) : (AV → Option R) → Option R :=
  bif Nat.beq f 48 then tagged_within.via n xs else fun _ => none
theorem tagged_CheckPointer.tells {R : Type} (n : Nat) : Tells (R := R) Try.prog (tagged_CheckPointer.C n) := fun _ xs => tells_at (tagged_within.tells1 n xs) (Tells1.none)
noncomputable def tagged_CheckPointer.cut (r : Nat) : Option Keep := match r with | 6 => Option.some ⟨[], []⟩ | _ => none
noncomputable def tagged_CheckPointer.t6 : List Item := (todoOf 6 1000 [.code (Try.f13.body.getD .skip)]).getD []
noncomputable def tagged_CheckPointer.s6 (_ : Unit) : St := ⟨[.undef, .undef, .undef, .undef, .undef, .undef, .undef, .undef, .undef, .undef, .undef, .undef, .undef, .undef, .undef, .undef, .undef, .undef, .undef, .undef, .undef, .undef, .undef, .undef, .undef, .undef, .undef, .undef, .undef, .undef, .undef, .undef], Mem.ofList [], 0⟩
theorem tagged_CheckPointer.e_eq {R : Type} (n : Nat) (rec : List Item → St → Option R) (K : AV → Option R) (a0 : Int) (a1 : Int) (a2 : Int) (a3 : Int) :
    goK G (tagged_CheckPointer.C n) tagged_CheckPointer.cut (fun S => finK G Try.f13.resultTypes.toList Try.f13.results.toList S K) rec 1000 [.code (Try.f13.body.getD .skip)] (Ev.start Try.f13 [AV.agg [vi a0, vi a1, vi a2, vi a3]]) = tagged_CheckPointer.e n (fun _ => rec tagged_CheckPointer.t6 (tagged_CheckPointer.s6 ())) (fun p => K (vi p)) a0 a1 a2 a3 := by kernel_rfl
theorem tagged_CheckPointer.r6_eq {R : Type} (n : Nat) (rec : List Item → St → Option R) (K : AV → Option R) (_ : Unit) :
    atK G (tagged_CheckPointer.C n) tagged_CheckPointer.cut (fun S => finK G Try.f13.resultTypes.toList Try.f13.results.toList S K) rec tagged_CheckPointer.t6 (tagged_CheckPointer.s6 ()) = tagged_CheckPointer.r6 n (fun _ => rec tagged_CheckPointer.t6 (tagged_CheckPointer.s6 ())) (fun p => K (vi p)) () := by kernel_rfl
noncomputable def tagged_CheckPointer.l (n : Nat) : Nat → (Unit → Option (Int))
  | 0 => (fun _ => none)
  | m + 1 => tagged_CheckPointer.r6 n (tagged_CheckPointer.l n m) Option.some
noncomputable def tagged_CheckPointer.F (n : Nat) (a0 : Int) (a1 : Int) (a2 : Int) (a3 : Int) : Option (Int) := tagged_CheckPointer.e n (tagged_CheckPointer.l n n) Option.some a0 a1 a2 a3
noncomputable def tagged_CheckPointer.dec (x : AV) : Option (Int) := match x with | .v (.int .i64 p0) => Option.some p0 | _ => none
theorem tagged_CheckPointer.dec_inv {p : Int} (y : AV) (h : tagged_CheckPointer.dec y = some p) : y = vi p := by
  unfold tagged_CheckPointer.dec at h
  split at h
  · cases h; rfl
  · cases h
theorem tagged_CheckPointer.l_eq (n m : Nat) : (∀ z : Unit, runK G (tagged_CheckPointer.C n) tagged_CheckPointer.cut (fun S => finK G Try.f13.resultTypes.toList Try.f13.results.toList S tagged_CheckPointer.dec) m tagged_CheckPointer.t6 (tagged_CheckPointer.s6 z) = (tagged_CheckPointer.l n m) z) := by
  induction m with
  | zero => exact fun _ => rfl
  | succ m ih =>
    have h6 := ih
    have e6 : (fun (_ : Unit) => runK G (tagged_CheckPointer.C n) tagged_CheckPointer.cut (fun S => finK G Try.f13.resultTypes.toList Try.f13.results.toList S tagged_CheckPointer.dec) m tagged_CheckPointer.t6 (tagged_CheckPointer.s6 ())) = (tagged_CheckPointer.l n m) := by funext z; exact h6 z
    have q6 : ∀ z : Unit, runK G (tagged_CheckPointer.C n) tagged_CheckPointer.cut (fun S => finK G Try.f13.resultTypes.toList Try.f13.results.toList S tagged_CheckPointer.dec) (m + 1) tagged_CheckPointer.t6 (tagged_CheckPointer.s6 z) = (tagged_CheckPointer.l n (m + 1)) z := by
      intro z
      rw [runK_succ]
      refine (tagged_CheckPointer.r6_eq n _ tagged_CheckPointer.dec ()).trans ?_
      rw [e6]
      rfl
    exact q6
theorem tagged_CheckPointer.hands (n : Nat) (a0 : Int) (a1 : Int) (a2 : Int) (a3 : Int) {p : Int} (h : tagged_CheckPointer.F n a0 a1 a2 a3 = some p) : HandsIn Try.prog 13 [AV.agg [vi a0, vi a1, vi a2, vi a3]] (vi p) := by
  refine hands_of cfg mixed (fun _ => rfl) (tagged_CheckPointer.tells n) (fn := Try.f13) Try.func13 (by kernel_rfl) (by kernel_rfl) (cut := tagged_CheckPointer.cut) (K := tagged_CheckPointer.dec) (r := p) (n := n) tagged_CheckPointer.dec_inv ?_
  rw [funK_getD (by kernel_rfl)]
  have h1 := tagged_CheckPointer.e_eq n (runK G (tagged_CheckPointer.C n) tagged_CheckPointer.cut (fun S => finK G Try.f13.resultTypes.toList Try.f13.results.toList S tagged_CheckPointer.dec) n) tagged_CheckPointer.dec a0 a1 a2 a3
  have hl := tagged_CheckPointer.l_eq n n
  simp only [hl] at h1
  exact h1.trans h
noncomputable def tagged_CheckPointer.via {R : Type} (n : Nat) (xs : List AV) : (AV → Option R) → Option R := match xs with | [.agg [.v (.int .i64 a0), .v (.int .i64 a1), .v (.int .i64 a2), .v (.int .i64 a3)]] => fun K => (tagged_CheckPointer.F n a0 a1 a2 a3).bind fun p => K (vi p) | _ => fun _ => none
theorem tagged_CheckPointer.tells1 {R : Type} (n : Nat) (xs : List AV) : Tells1 (R := R) Try.prog 13 xs (tagged_CheckPointer.via n xs) := by
  unfold tagged_CheckPointer.via
  split
  · exact Tells1.of (fun p hp => (tagged_CheckPointer.hands n _ _ _ _ hp).hands)
  · exact Tells1.none
end Go.Proofs.Ytgmpnhfnkhohiaa.Ev
