import Derived.Test.YtmpglmcjoelciaaGreatDoorDQb
import Derived.Test.YtmpglmcjoelciaaGreatDoorDQa
import Derived.Lib.Replace
noncomputable section
namespace Go.Proofs.YtmpglmcjoelciaaGreatDoor.Ev
open Go Go.Proofs Go.Proofs.Ev
set_option linter.unusedVariables false
set_option maxRecDepth 100000
abbrev Q23.A:=ByteArray × ByteArray × List AV × List AV × Bool
abbrev Q23.T:=Int × Int
def Q23.i:Q23.A→List AV:=fun (a0,a1,a2,a3,a4)=>[AV.agg [vs a0,vs a1,.sl ⟨true,125⟩ 4 a2,.sl ⟨true,111⟩ 2 a3,vb a4]]
def Q23.o (xs:List AV):Option Q23.A:=match xs with | [.agg [.v (.string a0),.v (.string a1),.sl ⟨true,125⟩ 4 a2,.sl ⟨true,111⟩ 2 a3,.v (.bool a4)]]=>some (a0,a1,a2,a3,a4) | _=>none
theorem Q23.oi:∀ xs a,Q23.o xs=some a→xs=Q23.i a:=by
 intro xs a h
 unfold Q23.o at h
 split at h
 ·cases h; rfl
 ·cases h
def Q23.p (p:Q23.T):AV:=.tup [vi p.1,vi p.2]
def Q23.q (x:AV):Option Q23.T:=match x with | .tup [.v (.int .i64 p0),.v (.int .i64 p1)]=>some (p0,p1) | _=>none
theorem Q23.qi:∀ x p,Q23.q x=some p→x=Q23.p p:=by
 intro x p h
 unfold Q23.q at h
 split at h
 ·cases h; rfl
 ·cases h
def Q23.C {R:Type} (n:Nat) (f:FuncId) (xs:List AV):(AV→Option R)→Option R:=
 bif Nat.beq f 59 then Q1t.via n xs else bif Nat.beq f 138 then Q24.via n xs else bif Nat.beq f 139 then Q25.via n xs else fun _=>none
theorem Q23.tells {R:Type} (n:Nat):Tells (R:=R) Tryz.prog (Q23.C n):=fun _ xs=>tells_at (Q1t.tells1 n xs) (tells_at (Q24.tells1 n xs) (tells_at (Q25.tells1 n xs) (Tells1.none)))
def Q23.cut (r:Nat):Option Keep:=match r with  | _=>none
def Q23.e (n:Nat) (a0 a1:ByteArray) (a2 a3:List AV) (a4:Bool):Option (Int × Int):=
 (Q1t.F n a0).bind fun p1=>
 bif !p1 then (some (0,7)) else ((Q24.F n a1 a2).bind fun p2=>
 bif p2.2 != 0 then (some (0,p2.2)) else ((Q25.F n a0 a1 a2 a3 a4).bind fun p3=>
 some (p3.1,p3.2)))
def Q23.E (n:Nat):Q23.A→Option Q23.T:=fun (a0,a1,a2,a3,a4)=>Q23.e n a0 a1 a2 a3 a4
def Q23.F (n:Nat) (a0 a1:ByteArray) (a2 a3:List AV) (a4:Bool):Option (Int × Int):=Q23.e n a0 a1 a2 a3 a4
def Q23.FA (n:Nat):Q23.A→Option Q23.T:=Q23.E n
theorem Q23.hands (n:Nat):∀ a p,Q23.FA n a=some p→HandsIn Tryz.prog 90 (Q23.i a) (Q23.p p):=
 pf_hands (C:=Q23.C n) (cut:=Q23.cut) (Z:=Empty) (t:=nofun) (s:=nofun) (e:=fun _=>Q23.E n) (r:=fun _ z=>nomatch z) (n:=n) cfg mixed globs rfl Q23.qi (Q23.tells n) Tryz.func90 (by kernel_rfl) (by kernel_rfl) (fun rec a=>by kernel_rfl) (fun rec z=>nomatch z)
def Q23.via {R:Type} (n:Nat):List AV→(AV→Option R)→Option R:=viaK (Q23.FA n) Q23.o Q23.p
theorem Q23.tells1 {R:Type} (n:Nat) (xs:List AV):Tells1 (R:=R) Tryz.prog 90 xs (Q23.via n xs):=tells_via Q23.oi (fun a=>by kernel_rfl) (Q23.hands n) xs
end Go.Proofs.YtmpglmcjoelciaaGreatDoor.Ev
namespace Go.Proofs.YtmpglmcjoelciaaGreatDoor.Ev
open Go Go.Proofs Go.Proofs.Ev
set_option linter.unusedVariables false
set_option maxRecDepth 100000
abbrev Q20.A:=ByteArray × ByteArray × List AV × List AV × Bool
abbrev Q20.T:=Int
def Q20.i:Q20.A→List AV:=fun (a0,a1,a2,a3,a4)=>[AV.agg [vs a0,vs a1,.sl ⟨true,125⟩ 4 a2,.sl ⟨true,111⟩ 2 a3,vb a4]]
def Q20.o (xs:List AV):Option Q20.A:=match xs with | [.agg [.v (.string a0),.v (.string a1),.sl ⟨true,125⟩ 4 a2,.sl ⟨true,111⟩ 2 a3,.v (.bool a4)]]=>some (a0,a1,a2,a3,a4) | _=>none
theorem Q20.oi:∀ xs a,Q20.o xs=some a→xs=Q20.i a:=by
 intro xs a h
 unfold Q20.o at h
 split at h
 ·cases h; rfl
 ·cases h
def Q20.p (p:Q20.T):AV:=vi p
def Q20.q (x:AV):Option Q20.T:=match x with | .v (.int .i64 p0)=>some p0 | _=>none
theorem Q20.qi:∀ x p,Q20.q x=some p→x=Q20.p p:=by
 intro x p h
 unfold Q20.q at h
 split at h
 ·cases h; rfl
 ·cases h
def Q20.C {R:Type} (n:Nat) (f:FuncId) (xs:List AV):(AV→Option R)→Option R:=
 bif Nat.beq f 90 then Q23.via n xs else fun _=>none
theorem Q20.tells {R:Type} (n:Nat):Tells (R:=R) Tryz.prog (Q20.C n):=fun _ xs=>tells_at (Q23.tells1 n xs) (Tells1.none)
def Q20.cut (r:Nat):Option Keep:=match r with  | _=>none
def Q20.e (n:Nat) (a0 a1:ByteArray) (a2 a3:List AV) (a4:Bool):Option Int:=
 (Q23.F n a0 a1 a2 a3 a4).bind fun p1=>
 some p1.2
def Q20.E (n:Nat):Q20.A→Option Q20.T:=fun (a0,a1,a2,a3,a4)=>Q20.e n a0 a1 a2 a3 a4
def Q20.F (n:Nat) (a0 a1:ByteArray) (a2 a3:List AV) (a4:Bool):Option Int:=Q20.e n a0 a1 a2 a3 a4
def Q20.FA (n:Nat):Q20.A→Option Q20.T:=Q20.E n
theorem Q20.hands (n:Nat):∀ a p,Q20.FA n a=some p→HandsIn Tryz.prog 38 (Q20.i a) (Q20.p p):=
 pf_hands (C:=Q20.C n) (cut:=Q20.cut) (Z:=Empty) (t:=nofun) (s:=nofun) (e:=fun _=>Q20.E n) (r:=fun _ z=>nomatch z) (n:=n) cfg mixed globs rfl Q20.qi (Q20.tells n) Tryz.func38 (by kernel_rfl) (by kernel_rfl) (fun rec a=>by kernel_rfl) (fun rec z=>nomatch z)
def Q20.via {R:Type} (n:Nat):List AV→(AV→Option R)→Option R:=viaK (Q20.FA n) Q20.o Q20.p
theorem Q20.tells1 {R:Type} (n:Nat) (xs:List AV):Tells1 (R:=R) Tryz.prog 38 xs (Q20.via n xs):=tells_via Q20.oi (fun a=>by kernel_rfl) (Q20.hands n) xs
end Go.Proofs.YtmpglmcjoelciaaGreatDoor.Ev
namespace Go.Proofs.YtmpglmcjoelciaaGreatDoor.Ev
open Go Go.Proofs Go.Proofs.Ev
set_option linter.unusedVariables false
set_option maxRecDepth 100000
abbrev Q26.A:=ByteArray × ByteArray × List AV × List AV × Bool
abbrev Q26.T:=Int
def Q26.i:Q26.A→List AV:=fun (a0,a1,a2,a3,a4)=>[AV.agg [vs a0,vs a1,.sl ⟨true,125⟩ 4 a2,.sl ⟨true,111⟩ 2 a3,vb a4]]
def Q26.o (xs:List AV):Option Q26.A:=match xs with | [.agg [.v (.string a0),.v (.string a1),.sl ⟨true,125⟩ 4 a2,.sl ⟨true,111⟩ 2 a3,.v (.bool a4)]]=>some (a0,a1,a2,a3,a4) | _=>none
theorem Q26.oi:∀ xs a,Q26.o xs=some a→xs=Q26.i a:=by
 intro xs a h
 unfold Q26.o at h
 split at h
 ·cases h; rfl
 ·cases h
def Q26.p (p:Q26.T):AV:=vi p
def Q26.q (x:AV):Option Q26.T:=match x with | .v (.int .i64 p0)=>some p0 | _=>none
theorem Q26.qi:∀ x p,Q26.q x=some p→x=Q26.p p:=by
 intro x p h
 unfold Q26.q at h
 split at h
 ·cases h; rfl
 ·cases h
def Q26.C {R:Type} (n:Nat) (f:FuncId) (xs:List AV):(AV→Option R)→Option R:=
 bif Nat.beq f 38 then Q20.via n xs else bif Nat.beq f 59 then Q1t.via n xs else fun _=>none
theorem Q26.tells {R:Type} (n:Nat):Tells (R:=R) Tryz.prog (Q26.C n):=fun _ xs=>tells_at (Q20.tells1 n xs) (tells_at (Q1t.tells1 n xs) (Tells1.none))
def Q26.cut (r:Nat):Option Keep:=match r with  | _=>none
def Q26.e (n:Nat) (a0 a1:ByteArray) (a2 a3:List AV) (a4:Bool):Option Int:=
 (Q1t.F n a0).bind fun p1=>
 bif !p1 then (some 7) else ((Q1t.F n a1).bind fun p2=>
 bif !p2 then (some 7) else ((Q20.F n a0 a1 a2 a3 a4).bind fun p3=>
 some p3))
def Q26.E (n:Nat):Q26.A→Option Q26.T:=fun (a0,a1,a2,a3,a4)=>Q26.e n a0 a1 a2 a3 a4
def Q26.F (n:Nat) (a0 a1:ByteArray) (a2 a3:List AV) (a4:Bool):Option Int:=Q26.e n a0 a1 a2 a3 a4
def Q26.FA (n:Nat):Q26.A→Option Q26.T:=Q26.E n
theorem Q26.hands (n:Nat):∀ a p,Q26.FA n a=some p→HandsIn Tryz.prog 91 (Q26.i a) (Q26.p p):=
 pf_hands (C:=Q26.C n) (cut:=Q26.cut) (Z:=Empty) (t:=nofun) (s:=nofun) (e:=fun _=>Q26.E n) (r:=fun _ z=>nomatch z) (n:=n) cfg mixed globs rfl Q26.qi (Q26.tells n) Tryz.func91 (by kernel_rfl) (by kernel_rfl) (fun rec a=>by kernel_rfl) (fun rec z=>nomatch z)
def Q26.via {R:Type} (n:Nat):List AV→(AV→Option R)→Option R:=viaK (Q26.FA n) Q26.o Q26.p
theorem Q26.tells1 {R:Type} (n:Nat) (xs:List AV):Tells1 (R:=R) Tryz.prog 91 xs (Q26.via n xs):=tells_via Q26.oi (fun a=>by kernel_rfl) (Q26.hands n) xs
end Go.Proofs.YtmpglmcjoelciaaGreatDoor.Ev
namespace Go.Proofs.YtmpglmcjoelciaaGreatDoor.Ev
open Go Go.Proofs Go.Proofs.Ev
set_option linter.unusedVariables false
set_option maxRecDepth 100000
abbrev Q3o.A:=Bool × ByteArray × ByteArray × List AV × List AV × Bool × ByteArray × ByteArray × List AV × List AV × List AV × List AV × Bool × List AV
abbrev Q3o.T:=Int
def Q3o.i:Q3o.A→List AV:=fun (a0,a1,a2,a3,a4,a5,a6,a7,a8,a9,a10,a11,a12,a13)=>[AV.agg [vb a0,vs a1,vs a2,.sl ⟨true,125⟩ 4 a3,.sl ⟨true,111⟩ 2 a4,vb a5,vs a6,vs a7,.sl ⟨true,9⟩ 1 a8,.sl ⟨true,95⟩ 3 a9,.sl ⟨true,97⟩ 4 a10,.sl ⟨true,111⟩ 2 a11,vb a12,.sl ⟨false,100⟩ 2 a13]]
def Q3o.o (xs:List AV):Option Q3o.A:=match xs with | [.agg [.v (.bool a0),.v (.string a1),.v (.string a2),.sl ⟨true,125⟩ 4 a3,.sl ⟨true,111⟩ 2 a4,.v (.bool a5),.v (.string a6),.v (.string a7),.sl ⟨true,9⟩ 1 a8,.sl ⟨true,95⟩ 3 a9,.sl ⟨true,97⟩ 4 a10,.sl ⟨true,111⟩ 2 a11,.v (.bool a12),.sl ⟨false,100⟩ 2 a13]]=>some (a0,a1,a2,a3,a4,a5,a6,a7,a8,a9,a10,a11,a12,a13) | _=>none
theorem Q3o.oi:∀ xs a,Q3o.o xs=some a→xs=Q3o.i a:=by
 intro xs a h
 unfold Q3o.o at h
 split at h
 ·cases h; rfl
 ·cases h
def Q3o.p (p:Q3o.T):AV:=vi p
def Q3o.q (x:AV):Option Q3o.T:=match x with | .v (.int .i64 p0)=>some p0 | _=>none
theorem Q3o.qi:∀ x p,Q3o.q x=some p→x=Q3o.p p:=by
 intro x p h
 unfold Q3o.q at h
 split at h
 ·cases h; rfl
 ·cases h
def Q3o.C {R:Type} (n:Nat) (f:FuncId) (xs:List AV):(AV→Option R)→Option R:=
 bif Nat.beq f 19 then Q2s.via n xs else bif Nat.beq f 91 then Q26.via n xs else fun _=>none
theorem Q3o.tells {R:Type} (n:Nat):Tells (R:=R) Tryz.prog (Q3o.C n):=fun _ xs=>tells_at (Q2s.tells1 n xs) (tells_at (Q26.tells1 n xs) (Tells1.none))
def Q3o.cut (r:Nat):Option Keep:=match r with  | _=>none
def Q3o.e (n:Nat) (a0:Bool) (a1 a2:ByteArray) (a3 a4:List AV) (a5:Bool) (a6 a7:ByteArray) (a8 a9 a10 a11:List AV) (a12:Bool) (a13:List AV):Option Int:=
 bif a0 then ((Q2s.F n a6 a7 a8 a9 a10 a11 a12 a13).bind fun p1=>
 some p1.2) else ((Q26.F n a1 a2 a3 a4 a5).bind fun p2=>
 some p2)
def Q3o.E (n:Nat):Q3o.A→Option Q3o.T:=fun (a0,a1,a2,a3,a4,a5,a6,a7,a8,a9,a10,a11,a12,a13)=>Q3o.e n a0 a1 a2 a3 a4 a5 a6 a7 a8 a9 a10 a11 a12 a13
def Q3o.F (n:Nat) (a0:Bool) (a1 a2:ByteArray) (a3 a4:List AV) (a5:Bool) (a6 a7:ByteArray) (a8 a9 a10 a11:List AV) (a12:Bool) (a13:List AV):Option Int:=Q3o.e n a0 a1 a2 a3 a4 a5 a6 a7 a8 a9 a10 a11 a12 a13
def Q3o.FA (n:Nat):Q3o.A→Option Q3o.T:=Q3o.E n
theorem Q3o.hands (n:Nat):∀ a p,Q3o.FA n a=some p→HandsIn Tryz.prog 68 (Q3o.i a) (Q3o.p p):=
 pf_hands (C:=Q3o.C n) (cut:=Q3o.cut) (Z:=Empty) (t:=nofun) (s:=nofun) (e:=fun _=>Q3o.E n) (r:=fun _ z=>nomatch z) (n:=n) cfg mixed globs rfl Q3o.qi (Q3o.tells n) Tryz.func68 (by kernel_rfl) (by kernel_rfl) (fun rec a=>by kernel_rfl) (fun rec z=>nomatch z)
def Q3o.via {R:Type} (n:Nat):List AV→(AV→Option R)→Option R:=viaK (Q3o.FA n) Q3o.o Q3o.p
theorem Q3o.tells1 {R:Type} (n:Nat) (xs:List AV):Tells1 (R:=R) Tryz.prog 68 xs (Q3o.via n xs):=tells_via Q3o.oi (fun a=>by kernel_rfl) (Q3o.hands n) xs
end Go.Proofs.YtmpglmcjoelciaaGreatDoor.Ev
namespace Go.Proofs.YtmpglmcjoelciaaGreatDoor.Ev
open Go Go.Proofs Go.Proofs.Ev
set_option linter.unusedVariables false
set_option maxRecDepth 100000
abbrev Q32.A:=List AV
abbrev Q32.T:=Bool × ByteArray × ByteArray × List AV × List AV × Bool × ByteArray × ByteArray × List AV × List AV × List AV × List AV × Bool × List AV × Int × Int
def Q32.i:Q32.A→List AV:=fun a0=>[.sl ⟨true,9⟩ 1 a0]
def Q32.o (xs:List AV):Option Q32.A:=match xs with | [.sl ⟨true,9⟩ 1 a0]=>some a0 | _=>none
theorem Q32.oi:∀ xs a,Q32.o xs=some a→xs=Q32.i a:=by
 intro xs a h
 unfold Q32.o at h
 split at h
 ·cases h; rfl
 ·cases h
def Q32.p (p:Q32.T):AV:=.tup [AV.agg [vb p.1,vs p.2.1,vs p.2.2.1,.fr ⟨true,125⟩ 4 p.2.2.2.1,.fr ⟨true,111⟩ 2 p.2.2.2.2.1,vb p.2.2.2.2.2.1,vs p.2.2.2.2.2.2.1,vs p.2.2.2.2.2.2.2.1,.fr ⟨true,9⟩ 1 p.2.2.2.2.2.2.2.2.1,.fr ⟨true,95⟩ 3 p.2.2.2.2.2.2.2.2.2.1,.fr ⟨true,97⟩ 4 p.2.2.2.2.2.2.2.2.2.2.1,.fr ⟨true,111⟩ 2 p.2.2.2.2.2.2.2.2.2.2.2.1,vb p.2.2.2.2.2.2.2.2.2.2.2.2.1,.fr ⟨false,100⟩ 2 p.2.2.2.2.2.2.2.2.2.2.2.2.2.1],vi p.2.2.2.2.2.2.2.2.2.2.2.2.2.2.1,vi p.2.2.2.2.2.2.2.2.2.2.2.2.2.2.2]
def Q32.q (x:AV):Option Q32.T:=match x with | .tup [.agg [.v (.bool p0),.v (.string p1),.v (.string p2),.fr ⟨true,125⟩ 4 p3,.fr ⟨true,111⟩ 2 p4,.v (.bool p5),.v (.string p6),.v (.string p7),.fr ⟨true,9⟩ 1 p8,.fr ⟨true,95⟩ 3 p9,.fr ⟨true,97⟩ 4 p10,.fr ⟨true,111⟩ 2 p11,.v (.bool p12),.fr ⟨false,100⟩ 2 p13],.v (.int .i64 p14),.v (.int .i64 p15)]=>some (p0,p1,p2,p3,p4,p5,p6,p7,p8,p9,p10,p11,p12,p13,p14,p15) | _=>none
theorem Q32.qi:∀ x p,Q32.q x=some p→x=Q32.p p:=by
 intro x p h
 unfold Q32.q at h
 split at h
 ·cases h; rfl
 ·cases h
inductive Q32.Z where
 | z7 (z1:List AV) (z2 z3:Int) (z4:Bool) (z5 z6:ByteArray) (z7:Bool) (z8 z9:ByteArray) (z10 z11:Bool) (z12 z13:ByteArray) (z14:Bool) (z15 z16:ByteArray) (z17:Bool) (z18 z19 z20 z21 z22 z23 z24:List AV)
def Q32.C {R:Type} (n:Nat) (f:FuncId) (xs:List AV):(AV→Option R)→Option R:=
 bif Nat.beq f 14 then Q39.via n xs else bif Nat.beq f 67 then Q3c.via n xs else bif Nat.beq f 68 then Q3o.via n xs else fun _=>none
theorem Q32.tells {R:Type} (n:Nat):Tells (R:=R) Tryz.prog (Q32.C n):=fun _ xs=>tells_at (Q39.tells1 n xs) (tells_at (Q3c.tells1 n xs) (tells_at (Q3o.tells1 n xs) (Tells1.none)))
def Q32.cut (r:Nat):Option Keep:=match r with | 7=>some ⟨[0,2,5,6,7],[(5,some 3,⟨true,125⟩,4),(5,some 4,⟨true,111⟩,2),(5,some 8,⟨true,9⟩,1),(5,some 9,⟨true,95⟩,3),(5,some 10,⟨true,97⟩,4),(5,some 11,⟨true,111⟩,2),(5,some 13,⟨false,100⟩,2)]⟩ | _=>none
def Q32.t (z:Q32.Z):List Item:=(todoOf (match z with | .z7 _ _ _ _ _ _ _ _ _ _ _ _ _ _ _ _ _ _ _ _ _ _ _ _=>7) 1000 [.code (Tryz.f23.body.getD .skip)]).getD []
def Q32.s:Q32.Z→St
 | .z7 z1 z2 z3 z4 z5 z6 z7 z8 z9 z10 z11 z12 z13 z14 z15 z16 z17 z18 z19 z20 z21 z22 z23 z24=>⟨spr 66 0 [(0,.sl ⟨true,9⟩ 1 z1),(2,.ptr 0 0),(5,.ptr 1 0),(6,vi z2),(7,vi z3)],Mem.ofList [.box 50 [vb z4,vs z5,vs z6,.v (.slice none 0 0),.v (.slice none 0 0),vb z7,vs z8,vs z9,.v (.slice none 0 0),.v (.slice none 0 0),.v (.slice none 0 0),.v (.slice none 0 0),vb z10,.v (.slice none 0 0)],.box 50 [vb z11,vs z12,vs z13,.own 2 0 none,.own 3 0 none,vb z14,vs z15,vs z16,.own 4 0 none,.own 5 0 none,.own 6 0 none,.own 7 0 none,vb z17,.own 8 0 none],.row ⟨true,125⟩ 4 z18,.row ⟨true,111⟩ 2 z19,.row ⟨true,9⟩ 1 z20,.row ⟨true,95⟩ 3 z21,.row ⟨true,97⟩ 4 z22,.row ⟨true,111⟩ 2 z23,.row ⟨false,100⟩ 2 z24],9⟩
def Q32.r7 (n:Nat) (c:Q32.Z→Option Q32.T) (z1:List AV) (z2 z3:Int) (z4:Bool) (z5 z6:ByteArray) (z7:Bool) (z8 z9:ByteArray) (z10 z11:Bool) (z12 z13:ByteArray) (z14:Bool) (z15 z16:ByteArray) (z17:Bool) (z18 z19 z20 z21 z22 z23 z24:List AV):Option Q32.T:=
 let y3:Bool:=decide (z3 < ((z1.length:Nat):Int))
 bif y3 then (bif decide ((0:Int)≤z3)&&decide (z3 < ((z1.length:Nat):Int)) then (withCons ((z1.getD ((z3).toNat) .undef).cells) fun h4 r5=>
 withStr h4 fun s6=>
 (Q39.F n s6).bind fun p7=>
 bif p7.2 != 0 then (some (false,(⟨#[]⟩ : ByteArray),(⟨#[]⟩ : ByteArray),[],[],false,(⟨#[]⟩ : ByteArray),(⟨#[]⟩ : ByteArray),[],[],[],[],false,[],z3,p7.2)) else (let y8:Bool:=decide (((p7.1.length:Nat):Int) > 0)
 bif y8 then ((Q3c.F n p7.1 z2 z11 z12 z13 z14 z15 z16 z17 z18 z19 z20 z21 z22 z23 z24).bind fun p9=>
 bif !p9.2.1 then (some (false,(⟨#[]⟩ : ByteArray),(⟨#[]⟩ : ByteArray),[],[],false,(⟨#[]⟩ : ByteArray),(⟨#[]⟩ : ByteArray),[],[],[],[],false,[],z3,8)) else (c (.z7 z1 p9.1 (IntKind.i64.wrap (z3+1)) z4 z5 z6 z7 z8 z9 z10 p9.2.2.1 p9.2.2.2.1 p9.2.2.2.2.1 p9.2.2.2.2.2.1 p9.2.2.2.2.2.2.1 p9.2.2.2.2.2.2.2.1 p9.2.2.2.2.2.2.2.2.1 p9.2.2.2.2.2.2.2.2.2.1 p9.2.2.2.2.2.2.2.2.2.2.1 p9.2.2.2.2.2.2.2.2.2.2.2.1 p9.2.2.2.2.2.2.2.2.2.2.2.2.1 p9.2.2.2.2.2.2.2.2.2.2.2.2.2.1 p9.2.2.2.2.2.2.2.2.2.2.2.2.2.2.1 p9.2.2.2.2.2.2.2.2.2.2.2.2.2.2.2))) else (bif !y8 then (some (false,(⟨#[]⟩ : ByteArray),(⟨#[]⟩ : ByteArray),[],[],false,(⟨#[]⟩ : ByteArray),(⟨#[]⟩ : ByteArray),[],[],[],[],false,[],z3,8)) else (c (.z7 z1 z2 (IntKind.i64.wrap (z3+1)) z4 z5 z6 z7 z8 z9 z10 z11 z12 z13 z14 z15 z16 z17 z18 z19 z20 z21 z22 z23 z24))))) else none) else (bif z2==1 then (some (false,(⟨#[]⟩ : ByteArray),(⟨#[]⟩ : ByteArray),[],[],false,(⟨#[]⟩ : ByteArray),(⟨#[]⟩ : ByteArray),[],[],[],[],false,[],((z1.length:Nat):Int),9)) else ((Q3o.F n z11 z12 z13 z18 z19 z14 z15 z16 z20 z21 z22 z23 z17 z24).bind fun p10=>
 bif p10 != 0 then (some (false,(⟨#[]⟩ : ByteArray),(⟨#[]⟩ : ByteArray),[],[],false,(⟨#[]⟩ : ByteArray),(⟨#[]⟩ : ByteArray),[],[],[],[],false,[],0,p10)) else (some (z11,z12,z13,z18,z19,z14,z15,z16,z20,z21,z22,z23,z17,z24,0,0))))
def Q32.r (n:Nat) (c:Q32.Z→Option Q32.T):Q32.Z→Option Q32.T
 | .z7 z1 z2 z3 z4 z5 z6 z7 z8 z9 z10 z11 z12 z13 z14 z15 z16 z17 z18 z19 z20 z21 z22 z23 z24=>Q32.r7 n c z1 z2 z3 z4 z5 z6 z7 z8 z9 z10 z11 z12 z13 z14 z15 z16 z17 z18 z19 z20 z21 z22 z23 z24
def Q32.e (n:Nat) (c:Q32.Z→Option Q32.T) (a0:List AV):Option Q32.T:=
 let y1:Bool:=((a0.length:Nat):Int)==0
 bif y1 then (some (false,(⟨#[]⟩ : ByteArray),(⟨#[]⟩ : ByteArray),[],[],false,(⟨#[]⟩ : ByteArray),(⟨#[]⟩ : ByteArray),[],[],[],[],false,[],0,1)) else (let y2:Bool:=decide (((a0.length:Nat):Int) > 100)
 bif y2 then (some (false,(⟨#[]⟩ : ByteArray),(⟨#[]⟩ : ByteArray),[],[],false,(⟨#[]⟩ : ByteArray),(⟨#[]⟩ : ByteArray),[],[],[],[],false,[],0,2)) else (c (.z7 a0 0 0 false (⟨#[]⟩ : ByteArray) (⟨#[]⟩ : ByteArray) false (⟨#[]⟩ : ByteArray) (⟨#[]⟩ : ByteArray) false false (⟨#[]⟩ : ByteArray) (⟨#[]⟩ : ByteArray) false (⟨#[]⟩ : ByteArray) (⟨#[]⟩ : ByteArray) false [] [] [] [] [] [] [])))
def Q32.E (n:Nat) (c:Q32.Z→Option Q32.T):Q32.A→Option Q32.T:=fun a0=>Q32.e n c a0
def Q32.l (n:Nat):Nat→Q32.Z→Option Q32.T:=loopL (Q32.r n)
def Q32.F (n:Nat) (a0:List AV):Option Q32.T:=Q32.e n (Q32.l n n) a0
def Q32.FA (n:Nat):Q32.A→Option Q32.T:=Q32.E n (Q32.l n n)
theorem Q32.hands (n:Nat):∀ a p,Q32.FA n a=some p→HandsIn Tryz.prog 23 (Q32.i a) (Q32.p p):=
 pf_hands (C:=Q32.C n) (cut:=Q32.cut) (t:=Q32.t) (s:=Q32.s) (e:=Q32.E n) (r:=Q32.r n) (n:=n) cfg mixed globs rfl Q32.qi (Q32.tells n) Tryz.func23 (by kernel_rfl) (by kernel_rfl) (fun rec a=>by kernel_rfl) (fun rec z=>by cases z <;> kernel_rfl)
def Q32.via {R:Type} (n:Nat):List AV→(AV→Option R)→Option R:=viaK (Q32.FA n) Q32.o Q32.p
theorem Q32.tells1 {R:Type} (n:Nat) (xs:List AV):Tells1 (R:=R) Tryz.prog 23 xs (Q32.via n xs):=tells_via Q32.oi (fun a=>by kernel_rfl) (Q32.hands n) xs
end Go.Proofs.YtmpglmcjoelciaaGreatDoor.Ev
namespace Go.Proofs.YtmpglmcjoelciaaGreatDoor.Ev
open Go Go.Proofs Go.Proofs.Ev
set_option linter.unusedVariables false
set_option maxRecDepth 100000
abbrev Q34.A:=ByteArray × List AV × ByteArray × List AV
abbrev Q34.T:=Bool
def Q34.i:Q34.A→List AV:=fun (a0,a1,a2,a3)=>[AV.agg [vs a0,.sl ⟨true,125⟩ 4 a1],AV.agg [vs a2,.sl ⟨true,125⟩ 4 a3]]
def Q34.o (xs:List AV):Option Q34.A:=match xs with | [.agg [.v (.string a0),.sl ⟨true,125⟩ 4 a1],.agg [.v (.string a2),.sl ⟨true,125⟩ 4 a3]]=>some (a0,a1,a2,a3) | _=>none
theorem Q34.oi:∀ xs a,Q34.o xs=some a→xs=Q34.i a:=by
 intro xs a h
 unfold Q34.o at h
 split at h
 ·cases h; rfl
 ·cases h
def Q34.p (p:Q34.T):AV:=vb p
def Q34.q (x:AV):Option Q34.T:=match x with | .v (.bool p0)=>some p0 | _=>none
theorem Q34.qi:∀ x p,Q34.q x=some p→x=Q34.p p:=by
 intro x p h
 unfold Q34.q at h
 split at h
 ·cases h; rfl
 ·cases h
inductive Q34.Z where
 | z4 (z1:Int) (z2:ByteArray) (z3:List AV) (z4:ByteArray) (z5:List AV)
def Q34.C {R:Type} (n:Nat) (f:FuncId) (xs:List AV):(AV→Option R)→Option R:=
 fun _=>none
theorem Q34.tells {R:Type} (n:Nat):Tells (R:=R) Tryz.prog (Q34.C n):=fun _ xs=>Tells1.none
def Q34.cut (r:Nat):Option Keep:=match r with | 4=>some ⟨[2,3,5],[]⟩ | _=>none
def Q34.t (z:Q34.Z):List Item:=(todoOf (match z with | .z4 _ _ _ _ _=>4) 1000 [.code (Tryz.f41.body.getD .skip)]).getD []
def Q34.s:Q34.Z→St
 | .z4 z1 z2 z3 z4 z5=>⟨spr 38 0 [(2,.ptr 0 0),(3,.ptr 1 0),(5,vi z1)],Mem.ofList [.box 46 [vs z2,.sl ⟨true,125⟩ 4 z3],.box 46 [vs z4,.sl ⟨true,125⟩ 4 z5]],2⟩
def Q34.r4 (n:Nat) (c:Q34.Z→Option Bool) (z1:Int) (z2:ByteArray) (z3:List AV) (z4:ByteArray) (z5:List AV):Option Bool:=
 let y2:Bool:=decide (z1 < ((z3.length:Nat):Int))
 bif y2 then (bif decide ((0:Int)≤z1)&&decide (z1 < ((z3.length:Nat):Int)) then (withCons ((z3.getD ((z1).toNat) .undef).cells) fun h3 r4=>
 withStr h3 fun s5=>
 withCons r4 fun h6 r7=>
 withInt .i64 h6 fun x8=>
 withCons r7 fun h9 r10=>
 withInt .i64 h9 fun x11=>
 withCons r10 fun h12 r13=>
 withInt .i64 h12 fun x14=>
 bif decide ((0:Int)≤z1)&&decide (z1 < ((z5.length:Nat):Int)) then (withCons ((z5.getD ((z1).toNat) .undef).cells) fun h15 r16=>
 withStr h15 fun s17=>
 withCons r16 fun h18 r19=>
 withInt .i64 h18 fun x20=>
 withCons r19 fun h21 r22=>
 withInt .i64 h21 fun x23=>
 withCons r22 fun h24 r25=>
 withInt .i64 h24 fun x26=>
 let y27:Bool:=!((s5==s17)&&((x8==x20)&&((x11==x23)&&((x14==x26)&&true))))
 bif y27 then (some false) else (c (.z4 (IntKind.i64.wrap (z1+1)) z2 z3 z4 z5))) else none) else none) else (some true)
def Q34.r (n:Nat) (c:Q34.Z→Option Bool):Q34.Z→Option Bool
 | .z4 z1 z2 z3 z4 z5=>Q34.r4 n c z1 z2 z3 z4 z5
def Q34.e (n:Nat) (c:Q34.Z→Option Bool) (a0:ByteArray) (a1:List AV) (a2:ByteArray) (a3:List AV):Option Bool:=
 bif !(a0.toList==a2.toList) then (some false) else (let y1:Bool:=((a1.length:Nat):Int) != ((a3.length:Nat):Int)
 bif y1 then (some false) else (c (.z4 0 a0 a1 a2 a3)))
def Q34.E (n:Nat) (c:Q34.Z→Option Bool):Q34.A→Option Q34.T:=fun (a0,a1,a2,a3)=>Q34.e n c a0 a1 a2 a3
def Q34.l (n:Nat):Nat→Q34.Z→Option Bool:=loopL (Q34.r n)
def Q34.F (n:Nat) (a0:ByteArray) (a1:List AV) (a2:ByteArray) (a3:List AV):Option Bool:=Q34.e n (Q34.l n n) a0 a1 a2 a3
def Q34.FA (n:Nat):Q34.A→Option Q34.T:=Q34.E n (Q34.l n n)
theorem Q34.hands (n:Nat):∀ a p,Q34.FA n a=some p→HandsIn Tryz.prog 41 (Q34.i a) (Q34.p p):=
 pf_hands (C:=Q34.C n) (cut:=Q34.cut) (t:=Q34.t) (s:=Q34.s) (e:=Q34.E n) (r:=Q34.r n) (n:=n) cfg mixed globs rfl Q34.qi (Q34.tells n) Tryz.func41 (by kernel_rfl) (by kernel_rfl) (fun rec a=>by kernel_rfl) (fun rec z=>by cases z <;> kernel_rfl)
def Q34.via {R:Type} (n:Nat):List AV→(AV→Option R)→Option R:=viaK (Q34.FA n) Q34.o Q34.p
theorem Q34.tells1 {R:Type} (n:Nat) (xs:List AV):Tells1 (R:=R) Tryz.prog 41 xs (Q34.via n xs):=tells_via Q34.oi (fun a=>by kernel_rfl) (Q34.hands n) xs
end Go.Proofs.YtmpglmcjoelciaaGreatDoor.Ev
namespace Go.Proofs.YtmpglmcjoelciaaGreatDoor.Ev
open Go Go.Proofs Go.Proofs.Ev
set_option linter.unusedVariables false
set_option maxRecDepth 100000
abbrev Q3m.A:=List AV × List AV
abbrev Q3m.T:=Bool
def Q3m.i:Q3m.A→List AV:=fun (a0,a1)=>[.sl ⟨true,111⟩ 2 a0,.sl ⟨true,111⟩ 2 a1]
def Q3m.o (xs:List AV):Option Q3m.A:=match xs with | [.sl ⟨true,111⟩ 2 a0,.sl ⟨true,111⟩ 2 a1]=>some (a0,a1) | _=>none
theorem Q3m.oi:∀ xs a,Q3m.o xs=some a→xs=Q3m.i a:=by
 intro xs a h
 unfold Q3m.o at h
 split at h
 ·cases h; rfl
 ·cases h
def Q3m.p (p:Q3m.T):AV:=vb p
def Q3m.q (x:AV):Option Q3m.T:=match x with | .v (.bool p0)=>some p0 | _=>none
theorem Q3m.qi:∀ x p,Q3m.q x=some p→x=Q3m.p p:=by
 intro x p h
 unfold Q3m.q at h
 split at h
 ·cases h; rfl
 ·cases h
inductive Q3m.Z where
 | z4 (z1 z2:List AV) (z3:Int)
def Q3m.C {R:Type} (n:Nat) (f:FuncId) (xs:List AV):(AV→Option R)→Option R:=
 fun _=>none
theorem Q3m.tells {R:Type} (n:Nat):Tells (R:=R) Tryz.prog (Q3m.C n):=fun _ xs=>Tells1.none
def Q3m.cut (r:Nat):Option Keep:=match r with | 4=>some ⟨[0,1,5],[]⟩ | _=>none
def Q3m.t (z:Q3m.Z):List Item:=(todoOf (match z with | .z4 _ _ _=>4) 1000 [.code (Tryz.f120.body.getD .skip)]).getD []
def Q3m.s:Q3m.Z→St
 | .z4 z1 z2 z3=>⟨spr 26 0 [(0,.sl ⟨true,111⟩ 2 z1),(1,.sl ⟨true,111⟩ 2 z2),(5,vi z3)],Mem.ofList [],0⟩
def Q3m.r4 (n:Nat) (c:Q3m.Z→Option Bool) (z1 z2:List AV) (z3:Int):Option Bool:=
 let y2:Bool:=decide (z3 < ((z1.length:Nat):Int))
 bif y2 then (bif decide ((0:Int)≤z3)&&decide (z3 < ((z1.length:Nat):Int)) then (withCons ((z1.getD ((z3).toNat) .undef).cells) fun h3 r4=>
 withStr h3 fun s5=>
 withCons r4 fun h6 r7=>
 withBool h6 fun b8=>
 bif decide ((0:Int)≤z3)&&decide (z3 < ((z2.length:Nat):Int)) then (withCons ((z2.getD ((z3).toNat) .undef).cells) fun h9 r10=>
 withStr h9 fun s11=>
 withCons r10 fun h12 r13=>
 withBool h12 fun b14=>
 let y15:Bool:=!((s5==s11)&&((b8==b14)&&true))
 bif y15 then (some false) else (c (.z4 z1 z2 (IntKind.i64.wrap (z3+1))))) else none) else none) else (some true)
def Q3m.r (n:Nat) (c:Q3m.Z→Option Bool):Q3m.Z→Option Bool
 | .z4 z1 z2 z3=>Q3m.r4 n c z1 z2 z3
def Q3m.e (n:Nat) (c:Q3m.Z→Option Bool) (a0 a1:List AV):Option Bool:=
 let y1:Bool:=((a0.length:Nat):Int) != ((a1.length:Nat):Int)
 bif y1 then (some false) else (c (.z4 a0 a1 0))
def Q3m.E (n:Nat) (c:Q3m.Z→Option Bool):Q3m.A→Option Q3m.T:=fun (a0,a1)=>Q3m.e n c a0 a1
def Q3m.l (n:Nat):Nat→Q3m.Z→Option Bool:=loopL (Q3m.r n)
def Q3m.F (n:Nat) (a0 a1:List AV):Option Bool:=Q3m.e n (Q3m.l n n) a0 a1
def Q3m.FA (n:Nat):Q3m.A→Option Q3m.T:=Q3m.E n (Q3m.l n n)
theorem Q3m.hands (n:Nat):∀ a p,Q3m.FA n a=some p→HandsIn Tryz.prog 120 (Q3m.i a) (Q3m.p p):=
 pf_hands (C:=Q3m.C n) (cut:=Q3m.cut) (t:=Q3m.t) (s:=Q3m.s) (e:=Q3m.E n) (r:=Q3m.r n) (n:=n) cfg mixed globs rfl Q3m.qi (Q3m.tells n) Tryz.func120 (by kernel_rfl) (by kernel_rfl) (fun rec a=>by kernel_rfl) (fun rec z=>by cases z <;> kernel_rfl)
def Q3m.via {R:Type} (n:Nat):List AV→(AV→Option R)→Option R:=viaK (Q3m.FA n) Q3m.o Q3m.p
theorem Q3m.tells1 {R:Type} (n:Nat) (xs:List AV):Tells1 (R:=R) Tryz.prog 120 xs (Q3m.via n xs):=tells_via Q3m.oi (fun a=>by kernel_rfl) (Q3m.hands n) xs
end Go.Proofs.YtmpglmcjoelciaaGreatDoor.Ev
namespace Go.Proofs.YtmpglmcjoelciaaGreatDoor.Ev
open Go Go.Proofs Go.Proofs.Ev
set_option linter.unusedVariables false
set_option maxRecDepth 100000
abbrev Q33.A:=ByteArray × ByteArray × List AV × List AV × Bool × ByteArray × ByteArray × List AV × List AV × Bool
abbrev Q33.T:=Bool
def Q33.i:Q33.A→List AV:=fun (a0,a1,a2,a3,a4,a5,a6,a7,a8,a9)=>[AV.agg [vs a0,vs a1,.sl ⟨true,125⟩ 4 a2,.sl ⟨true,111⟩ 2 a3,vb a4],AV.agg [vs a5,vs a6,.sl ⟨true,125⟩ 4 a7,.sl ⟨true,111⟩ 2 a8,vb a9]]
def Q33.o (xs:List AV):Option Q33.A:=match xs with | [.agg [.v (.string a0),.v (.string a1),.sl ⟨true,125⟩ 4 a2,.sl ⟨true,111⟩ 2 a3,.v (.bool a4)],.agg [.v (.string a5),.v (.string a6),.sl ⟨true,125⟩ 4 a7,.sl ⟨true,111⟩ 2 a8,.v (.bool a9)]]=>some (a0,a1,a2,a3,a4,a5,a6,a7,a8,a9) | _=>none
theorem Q33.oi:∀ xs a,Q33.o xs=some a→xs=Q33.i a:=by
 intro xs a h
 unfold Q33.o at h
 split at h
 ·cases h; rfl
 ·cases h
def Q33.p (p:Q33.T):AV:=vb p
def Q33.q (x:AV):Option Q33.T:=match x with | .v (.bool p0)=>some p0 | _=>none
theorem Q33.qi:∀ x p,Q33.q x=some p→x=Q33.p p:=by
 intro x p h
 unfold Q33.q at h
 split at h
 ·cases h; rfl
 ·cases h
def Q33.C {R:Type} (n:Nat) (f:FuncId) (xs:List AV):(AV→Option R)→Option R:=
 bif Nat.beq f 41 then Q34.via n xs else bif Nat.beq f 120 then Q3m.via n xs else fun _=>none
theorem Q33.tells {R:Type} (n:Nat):Tells (R:=R) Tryz.prog (Q33.C n):=fun _ xs=>tells_at (Q34.tells1 n xs) (tells_at (Q3m.tells1 n xs) (Tells1.none))
def Q33.cut (r:Nat):Option Keep:=match r with  | _=>none
def Q33.e (n:Nat) (a0 a1:ByteArray) (a2 a3:List AV) (a4:Bool) (a5 a6:ByteArray) (a7 a8:List AV) (a9:Bool):Option Bool:=
 bif a0.toList==a5.toList then ((Q34.F n a1 a2 a6 a7).bind fun p1=>
 bif p1 then ((Q3m.F n a3 a8).bind fun p2=>
 bif p2 then (some (a4==a9)) else (some false)) else (some false)) else (some false)
def Q33.E (n:Nat):Q33.A→Option Q33.T:=fun (a0,a1,a2,a3,a4,a5,a6,a7,a8,a9)=>Q33.e n a0 a1 a2 a3 a4 a5 a6 a7 a8 a9
def Q33.F (n:Nat) (a0 a1:ByteArray) (a2 a3:List AV) (a4:Bool) (a5 a6:ByteArray) (a7 a8:List AV) (a9:Bool):Option Bool:=Q33.e n a0 a1 a2 a3 a4 a5 a6 a7 a8 a9
def Q33.FA (n:Nat):Q33.A→Option Q33.T:=Q33.E n
theorem Q33.hands (n:Nat):∀ a p,Q33.FA n a=some p→HandsIn Tryz.prog 69 (Q33.i a) (Q33.p p):=
 pf_hands (C:=Q33.C n) (cut:=Q33.cut) (Z:=Empty) (t:=nofun) (s:=nofun) (e:=fun _=>Q33.E n) (r:=fun _ z=>nomatch z) (n:=n) cfg mixed globs rfl Q33.qi (Q33.tells n) Tryz.func69 (by kernel_rfl) (by kernel_rfl) (fun rec a=>by kernel_rfl) (fun rec z=>nomatch z)
def Q33.via {R:Type} (n:Nat):List AV→(AV→Option R)→Option R:=viaK (Q33.FA n) Q33.o Q33.p
theorem Q33.tells1 {R:Type} (n:Nat) (xs:List AV):Tells1 (R:=R) Tryz.prog 69 xs (Q33.via n xs):=tells_via Q33.oi (fun a=>by kernel_rfl) (Q33.hands n) xs
end Go.Proofs.YtmpglmcjoelciaaGreatDoor.Ev
namespace Go.Proofs.YtmpglmcjoelciaaGreatDoor.Ev
open Go Go.Proofs Go.Proofs.Ev
set_option linter.unusedVariables false
set_option maxRecDepth 100000
abbrev Q35.A:=ByteArray × ByteArray × List AV × List AV × List AV × List AV × Bool × List AV × ByteArray × ByteArray × List AV × List AV × List AV × List AV × Bool × List AV
abbrev Q35.T:=Bool
def Q35.i:Q35.A→List AV:=fun (a0,a1,a2,a3,a4,a5,a6,a7,a8,a9,a10,a11,a12,a13,a14,a15)=>[AV.agg [vs a0,vs a1,.sl ⟨true,9⟩ 1 a2,.sl ⟨true,95⟩ 3 a3,.sl ⟨true,97⟩ 4 a4,.sl ⟨true,111⟩ 2 a5,vb a6,.sl ⟨false,100⟩ 2 a7],AV.agg [vs a8,vs a9,.sl ⟨true,9⟩ 1 a10,.sl ⟨true,95⟩ 3 a11,.sl ⟨true,97⟩ 4 a12,.sl ⟨true,111⟩ 2 a13,vb a14,.sl ⟨false,100⟩ 2 a15]]
def Q35.o (xs:List AV):Option Q35.A:=match xs with | [.agg [.v (.string a0),.v (.string a1),.sl ⟨true,9⟩ 1 a2,.sl ⟨true,95⟩ 3 a3,.sl ⟨true,97⟩ 4 a4,.sl ⟨true,111⟩ 2 a5,.v (.bool a6),.sl ⟨false,100⟩ 2 a7],.agg [.v (.string a8),.v (.string a9),.sl ⟨true,9⟩ 1 a10,.sl ⟨true,95⟩ 3 a11,.sl ⟨true,97⟩ 4 a12,.sl ⟨true,111⟩ 2 a13,.v (.bool a14),.sl ⟨false,100⟩ 2 a15]]=>some (a0,a1,a2,a3,a4,a5,a6,a7,a8,a9,a10,a11,a12,a13,a14,a15) | _=>none
theorem Q35.oi:∀ xs a,Q35.o xs=some a→xs=Q35.i a:=by
 intro xs a h
 unfold Q35.o at h
 split at h
 ·cases h; rfl
 ·cases h
def Q35.p (p:Q35.T):AV:=vb p
def Q35.q (x:AV):Option Q35.T:=match x with | .v (.bool p0)=>some p0 | _=>none
theorem Q35.qi:∀ x p,Q35.q x=some p→x=Q35.p p:=by
 intro x p h
 unfold Q35.q at h
 split at h
 ·cases h; rfl
 ·cases h
inductive Q35.Z where
 | z2
 | z4 (z1:Int) (z2 z3:ByteArray) (z4 z5 z6 z7:List AV) (z8:Bool) (z9:List AV) (z10 z11:ByteArray) (z12 z13 z14 z15:List AV) (z16:Bool) (z17:List AV)
 | z9 (z1:Int) (z2 z3:ByteArray) (z4 z5 z6 z7:List AV) (z8:Bool) (z9:List AV) (z10 z11:ByteArray) (z12 z13 z14 z15:List AV) (z16:Bool) (z17:List AV)
 | z14 (z1:Int) (z2 z3:ByteArray) (z4 z5 z6 z7:List AV) (z8:Bool) (z9:List AV) (z10 z11:ByteArray) (z12 z13 z14 z15:List AV) (z16:Bool) (z17:List AV)
 | z20 (z1 z2:Int) (z3 z4:ByteArray) (z5 z6 z7 z8:List AV) (z9:Bool) (z10:List AV) (z11 z12:ByteArray) (z13 z14 z15 z16:List AV) (z17:Bool) (z18:List AV) (z19:Bool) (z20:List AV) (z21:Bool) (z22:List AV)
def Q35.C {R:Type} (n:Nat) (f:FuncId) (xs:List AV):(AV→Option R)→Option R:=
 bif Nat.beq f 15 then Q1y.via n xs else bif Nat.beq f 120 then Q3m.via n xs else fun _=>none
theorem Q35.tells {R:Type} (n:Nat):Tells (R:=R) Tryz.prog (Q35.C n):=fun _ xs=>tells_at (Q1y.tells1 n xs) (tells_at (Q3m.tells1 n xs) (Tells1.none))
def Q35.cut (r:Nat):Option Keep:=match r with | 2=>some ⟨[],[]⟩ | 4=>some ⟨[2,3,5],[]⟩ | 9=>some ⟨[2,3,6],[]⟩ | 14=>some ⟨[2,3,7],[]⟩ | 20=>some ⟨[2,3,7,8,9,10],[]⟩ | _=>none
def Q35.t (z:Q35.Z):List Item:=(todoOf (match z with | .z2=>2 | .z4 _ _ _ _ _ _ _ _ _ _ _ _ _ _ _ _ _=>4 | .z9 _ _ _ _ _ _ _ _ _ _ _ _ _ _ _ _ _=>9 | .z14 _ _ _ _ _ _ _ _ _ _ _ _ _ _ _ _ _=>14 | .z20 _ _ _ _ _ _ _ _ _ _ _ _ _ _ _ _ _ _ _ _ _ _=>20) 1000 [.code (Tryz.f70.body.getD .skip)]).getD []
def Q35.s:Q35.Z→St
 | .z2=>⟨spr 158 0 [],Mem.ofList [],0⟩
 | .z4 z1 z2 z3 z4 z5 z6 z7 z8 z9 z10 z11 z12 z13 z14 z15 z16 z17=>⟨spr 158 0 [(2,.ptr 0 0),(3,.ptr 1 0),(5,vi z1)],Mem.ofList [.box 36 [vs z2,vs z3,.sl ⟨true,9⟩ 1 z4,.sl ⟨true,95⟩ 3 z5,.sl ⟨true,97⟩ 4 z6,.sl ⟨true,111⟩ 2 z7,vb z8,.sl ⟨false,100⟩ 2 z9],.box 36 [vs z10,vs z11,.sl ⟨true,9⟩ 1 z12,.sl ⟨true,95⟩ 3 z13,.sl ⟨true,97⟩ 4 z14,.sl ⟨true,111⟩ 2 z15,vb z16,.sl ⟨false,100⟩ 2 z17]],2⟩
 | .z9 z1 z2 z3 z4 z5 z6 z7 z8 z9 z10 z11 z12 z13 z14 z15 z16 z17=>⟨spr 158 0 [(2,.ptr 0 0),(3,.ptr 1 0),(6,vi z1)],Mem.ofList [.box 36 [vs z2,vs z3,.sl ⟨true,9⟩ 1 z4,.sl ⟨true,95⟩ 3 z5,.sl ⟨true,97⟩ 4 z6,.sl ⟨true,111⟩ 2 z7,vb z8,.sl ⟨false,100⟩ 2 z9],.box 36 [vs z10,vs z11,.sl ⟨true,9⟩ 1 z12,.sl ⟨true,95⟩ 3 z13,.sl ⟨true,97⟩ 4 z14,.sl ⟨true,111⟩ 2 z15,vb z16,.sl ⟨false,100⟩ 2 z17]],2⟩
 | .z14 z1 z2 z3 z4 z5 z6 z7 z8 z9 z10 z11 z12 z13 z14 z15 z16 z17=>⟨spr 158 0 [(2,.ptr 0 0),(3,.ptr 1 0),(7,vi z1)],Mem.ofList [.box 36 [vs z2,vs z3,.sl ⟨true,9⟩ 1 z4,.sl ⟨true,95⟩ 3 z5,.sl ⟨true,97⟩ 4 z6,.sl ⟨true,111⟩ 2 z7,vb z8,.sl ⟨false,100⟩ 2 z9],.box 36 [vs z10,vs z11,.sl ⟨true,9⟩ 1 z12,.sl ⟨true,95⟩ 3 z13,.sl ⟨true,97⟩ 4 z14,.sl ⟨true,111⟩ 2 z15,vb z16,.sl ⟨false,100⟩ 2 z17]],2⟩
 | .z20 z1 z2 z3 z4 z5 z6 z7 z8 z9 z10 z11 z12 z13 z14 z15 z16 z17 z18 z19 z20 z21 z22=>⟨spr 158 0 [(2,.ptr 0 0),(3,.ptr 1 0),(7,vi z1),(8,.ptr 2 0),(9,.ptr 3 0),(10,vi z2)],Mem.ofList [.box 36 [vs z3,vs z4,.sl ⟨true,9⟩ 1 z5,.sl ⟨true,95⟩ 3 z6,.sl ⟨true,97⟩ 4 z7,.sl ⟨true,111⟩ 2 z8,vb z9,.sl ⟨false,100⟩ 2 z10],.box 36 [vs z11,vs z12,.sl ⟨true,9⟩ 1 z13,.sl ⟨true,95⟩ 3 z14,.sl ⟨true,97⟩ 4 z15,.sl ⟨true,111⟩ 2 z16,vb z17,.sl ⟨false,100⟩ 2 z18],.box 100 [vb z19,.sl ⟨true,104⟩ 4 z20],.box 100 [vb z21,.sl ⟨true,104⟩ 4 z22]],4⟩
def Q35.r2 (n:Nat) (c:Q35.Z→Option Bool)  : Option Bool:=
 some false
def Q35.r4 (n:Nat) (c:Q35.Z→Option Bool) (z1:Int) (z2 z3:ByteArray) (z4 z5 z6 z7:List AV) (z8:Bool) (z9:List AV) (z10 z11:ByteArray) (z12 z13 z14 z15:List AV) (z16:Bool) (z17:List AV):Option Bool:=
 let y6:Bool:=decide (z1 < ((z5.length:Nat):Int))
 bif y6 then (bif decide ((0:Int)≤z1)&&decide (z1 < ((z5.length:Nat):Int)) then (withCons ((z5.getD ((z1).toNat) .undef).cells) fun h7 r8=>
 withStr h7 fun s9=>
 withCons r8 fun h10 r11=>
 withInt .i64 h10 fun x12=>
 withCons r11 fun h13 r14=>
 withStr h13 fun s15=>
 bif decide ((0:Int)≤z1)&&decide (z1 < ((z13.length:Nat):Int)) then (withCons ((z13.getD ((z1).toNat) .undef).cells) fun h16 r17=>
 withStr h16 fun s18=>
 withCons r17 fun h19 r20=>
 withInt .i64 h19 fun x21=>
 withCons r20 fun h22 r23=>
 withStr h22 fun s24=>
 let y25:Bool:=!((s9==s18)&&((x12==x21)&&((s15==s24)&&true)))
 bif y25 then (some false) else (c (.z4 (IntKind.i64.wrap (z1+1)) z2 z3 z4 z5 z6 z7 z8 z9 z10 z11 z12 z13 z14 z15 z16 z17))) else none) else none) else (c (.z9 0 z2 z3 z4 z5 z6 z7 z8 z9 z10 z11 z12 z13 z14 z15 z16 z17))
def Q35.r9 (n:Nat) (c:Q35.Z→Option Bool) (z1:Int) (z2 z3:ByteArray) (z4 z5 z6 z7:List AV) (z8:Bool) (z9:List AV) (z10 z11:ByteArray) (z12 z13 z14 z15:List AV) (z16:Bool) (z17:List AV):Option Bool:=
 let y26:Bool:=decide (z1 < ((z6.length:Nat):Int))
 bif y26 then (bif decide ((0:Int)≤z1)&&decide (z1 < ((z6.length:Nat):Int)) then (withCons ((z6.getD ((z1).toNat) .undef).cells) fun h27 r28=>
 withInt .i64 h27 fun x29=>
 withCons r28 fun h30 r31=>
 withStr h30 fun s32=>
 withCons r31 fun h33 r34=>
 withInt .i64 h33 fun x35=>
 withCons r34 fun h36 r37=>
 withStr h36 fun s38=>
 bif decide ((0:Int)≤z1)&&decide (z1 < ((z14.length:Nat):Int)) then (withCons ((z14.getD ((z1).toNat) .undef).cells) fun h39 r40=>
 withInt .i64 h39 fun x41=>
 withCons r40 fun h42 r43=>
 withStr h42 fun s44=>
 withCons r43 fun h45 r46=>
 withInt .i64 h45 fun x47=>
 withCons r46 fun h48 r49=>
 withStr h48 fun s50=>
 let y51:Bool:=!((x29==x41)&&((s32==s44)&&((x35==x47)&&((s38==s50)&&true))))
 bif y51 then (some false) else (c (.z9 (IntKind.i64.wrap (z1+1)) z2 z3 z4 z5 z6 z7 z8 z9 z10 z11 z12 z13 z14 z15 z16 z17))) else none) else none) else (c (.z14 0 z2 z3 z4 z5 z6 z7 z8 z9 z10 z11 z12 z13 z14 z15 z16 z17))
def Q35.r14 (n:Nat) (c:Q35.Z→Option Bool) (z1:Int) (z2 z3:ByteArray) (z4 z5 z6 z7:List AV) (z8:Bool) (z9:List AV) (z10 z11:ByteArray) (z12 z13 z14 z15:List AV) (z16:Bool) (z17:List AV):Option Bool:=
 let y52:Bool:=decide (z1 < ((z9.length:Nat):Int))
 bif y52 then (bif decide ((0:Int)≤z1)&&decide (z1 < ((z9.length:Nat):Int)) then (withCons ((z9.getD ((z1).toNat) .undef).cells) fun h53 r54=>
 withBool h53 fun b55=>
 withCons r54 fun h56 r57=>
 withSl ⟨true,104⟩ 4 h56 fun xs58=>
 bif decide ((0:Int)≤z1)&&decide (z1 < ((z17.length:Nat):Int)) then (withCons ((z17.getD ((z1).toNat) .undef).cells) fun h59 r60=>
 withBool h59 fun b61=>
 withCons r60 fun h62 r63=>
 withSl ⟨true,104⟩ 4 h62 fun xs64=>
 bif !(b55==b61) then (some false) else (let y65:Bool:=((xs58.length:Nat):Int) != ((xs64.length:Nat):Int)
 bif y65 then (some false) else (c (.z20 z1 0 z2 z3 z4 z5 z6 z7 z8 z9 z10 z11 z12 z13 z14 z15 z16 z17 b55 xs58 b61 xs64)))) else none) else none) else (some true)
def Q35.r20 (n:Nat) (c:Q35.Z→Option Bool) (z1 z2:Int) (z3 z4:ByteArray) (z5 z6 z7 z8:List AV) (z9:Bool) (z10:List AV) (z11 z12:ByteArray) (z13 z14 z15 z16:List AV) (z17:Bool) (z18:List AV) (z19:Bool) (z20:List AV) (z21:Bool) (z22:List AV):Option Bool:=
 let y66:Bool:=decide (z2 < ((z20.length:Nat):Int))
 bif y66 then (bif decide ((0:Int)≤z2)&&decide (z2 < ((z20.length:Nat):Int)) then (withCons ((z20.getD ((z2).toNat) .undef).cells) fun h67 r68=>
 withStr h67 fun s69=>
 withCons r68 fun h70 r71=>
 withInt .i64 h70 fun x72=>
 withCons r71 fun h73 r74=>
 withInt .i64 h73 fun x75=>
 withCons r74 fun h76 r77=>
 withStr h76 fun s78=>
 bif decide ((0:Int)≤z2)&&decide (z2 < ((z22.length:Nat):Int)) then (withCons ((z22.getD ((z2).toNat) .undef).cells) fun h79 r80=>
 withStr h79 fun s81=>
 withCons r80 fun h82 r83=>
 withInt .i64 h82 fun x84=>
 withCons r83 fun h85 r86=>
 withInt .i64 h85 fun x87=>
 withCons r86 fun h88 r89=>
 withStr h88 fun s90=>
 let y91:Bool:=!((s69==s81)&&((x72==x84)&&((x75==x87)&&((s78==s90)&&true))))
 bif y91 then (some false) else (c (.z20 z1 (IntKind.i64.wrap (z2+1)) z3 z4 z5 z6 z7 z8 z9 z10 z11 z12 z13 z14 z15 z16 z17 z18 z19 z20 z21 z22))) else none) else none) else (c (.z14 (IntKind.i64.wrap (z1+1)) z3 z4 z5 z6 z7 z8 z9 z10 z11 z12 z13 z14 z15 z16 z17 z18))
def Q35.r (n:Nat) (c:Q35.Z→Option Bool):Q35.Z→Option Bool
 | .z2=>Q35.r2 n c
 | .z4 z1 z2 z3 z4 z5 z6 z7 z8 z9 z10 z11 z12 z13 z14 z15 z16 z17=>Q35.r4 n c z1 z2 z3 z4 z5 z6 z7 z8 z9 z10 z11 z12 z13 z14 z15 z16 z17
 | .z9 z1 z2 z3 z4 z5 z6 z7 z8 z9 z10 z11 z12 z13 z14 z15 z16 z17=>Q35.r9 n c z1 z2 z3 z4 z5 z6 z7 z8 z9 z10 z11 z12 z13 z14 z15 z16 z17
 | .z14 z1 z2 z3 z4 z5 z6 z7 z8 z9 z10 z11 z12 z13 z14 z15 z16 z17=>Q35.r14 n c z1 z2 z3 z4 z5 z6 z7 z8 z9 z10 z11 z12 z13 z14 z15 z16 z17
 | .z20 z1 z2 z3 z4 z5 z6 z7 z8 z9 z10 z11 z12 z13 z14 z15 z16 z17 z18 z19 z20 z21 z22=>Q35.r20 n c z1 z2 z3 z4 z5 z6 z7 z8 z9 z10 z11 z12 z13 z14 z15 z16 z17 z18 z19 z20 z21 z22
def Q35.e (n:Nat) (c:Q35.Z→Option Bool) (a0 a1:ByteArray) (a2 a3 a4 a5:List AV) (a6:Bool) (a7:List AV) (a8 a9:ByteArray) (a10 a11 a12 a13:List AV) (a14:Bool) (a15:List AV):Option Bool:=
 bif !(a0.toList==a8.toList) then (c .z2) else (bif !(a1.toList==a9.toList) then (c .z2) else ((Q1y.F n a2 a10).bind fun p1=>
 bif !p1 then (c .z2) else (let y2:Bool:=((a3.length:Nat):Int) != ((a11.length:Nat):Int)
 bif y2 then (c .z2) else (let y3:Bool:=((a4.length:Nat):Int) != ((a12.length:Nat):Int)
 bif y3 then (c .z2) else ((Q3m.F n a5 a13).bind fun p4=>
 bif !p4 then (c .z2) else (bif !(a6==a14) then (c .z2) else (let y5:Bool:=((a7.length:Nat):Int) != ((a15.length:Nat):Int)
 bif y5 then (c .z2) else (c (.z4 0 a0 a1 a2 a3 a4 a5 a6 a7 a8 a9 a10 a11 a12 a13 a14 a15)))))))))
def Q35.E (n:Nat) (c:Q35.Z→Option Bool):Q35.A→Option Q35.T:=fun (a0,a1,a2,a3,a4,a5,a6,a7,a8,a9,a10,a11,a12,a13,a14,a15)=>Q35.e n c a0 a1 a2 a3 a4 a5 a6 a7 a8 a9 a10 a11 a12 a13 a14 a15
def Q35.l (n:Nat):Nat→Q35.Z→Option Bool:=loopL (Q35.r n)
def Q35.F (n:Nat) (a0 a1:ByteArray) (a2 a3 a4 a5:List AV) (a6:Bool) (a7:List AV) (a8 a9:ByteArray) (a10 a11 a12 a13:List AV) (a14:Bool) (a15:List AV):Option Bool:=Q35.e n (Q35.l n n) a0 a1 a2 a3 a4 a5 a6 a7 a8 a9 a10 a11 a12 a13 a14 a15
def Q35.FA (n:Nat):Q35.A→Option Q35.T:=Q35.E n (Q35.l n n)
theorem Q35.hands (n:Nat):∀ a p,Q35.FA n a=some p→HandsIn Tryz.prog 70 (Q35.i a) (Q35.p p):=
 pf_hands (C:=Q35.C n) (cut:=Q35.cut) (t:=Q35.t) (s:=Q35.s) (e:=Q35.E n) (r:=Q35.r n) (n:=n) cfg mixed globs rfl Q35.qi (Q35.tells n) Tryz.func70 (by kernel_rfl) (by kernel_rfl) (fun rec a=>by kernel_rfl) (fun rec z=>by cases z <;> kernel_rfl)
def Q35.via {R:Type} (n:Nat):List AV→(AV→Option R)→Option R:=viaK (Q35.FA n) Q35.o Q35.p
theorem Q35.tells1 {R:Type} (n:Nat) (xs:List AV):Tells1 (R:=R) Tryz.prog 70 xs (Q35.via n xs):=tells_via Q35.oi (fun a=>by kernel_rfl) (Q35.hands n) xs
end Go.Proofs.YtmpglmcjoelciaaGreatDoor.Ev
namespace Go.Proofs.YtmpglmcjoelciaaGreatDoor.Ev
open Go Go.Proofs Go.Proofs.Ev
set_option linter.unusedVariables false
set_option maxRecDepth 100000
abbrev Q36.A:=Bool × ByteArray × ByteArray × List AV × List AV × Bool × ByteArray × ByteArray × List AV × List AV × List AV × List AV × Bool × List AV × Bool × ByteArray × ByteArray × List AV × List AV × Bool × ByteArray × ByteArray × List AV × List AV × List AV × List AV × Bool × List AV
abbrev Q36.T:=Bool
def Q36.i:Q36.A→List AV:=fun (a0,a1,a2,a3,a4,a5,a6,a7,a8,a9,a10,a11,a12,a13,a14,a15,a16,a17,a18,a19,a20,a21,a22,a23,a24,a25,a26,a27)=>[AV.agg [vb a0,vs a1,vs a2,.sl ⟨true,125⟩ 4 a3,.sl ⟨true,111⟩ 2 a4,vb a5,vs a6,vs a7,.sl ⟨true,9⟩ 1 a8,.sl ⟨true,95⟩ 3 a9,.sl ⟨true,97⟩ 4 a10,.sl ⟨true,111⟩ 2 a11,vb a12,.sl ⟨false,100⟩ 2 a13],AV.agg [vb a14,vs a15,vs a16,.sl ⟨true,125⟩ 4 a17,.sl ⟨true,111⟩ 2 a18,vb a19,vs a20,vs a21,.sl ⟨true,9⟩ 1 a22,.sl ⟨true,95⟩ 3 a23,.sl ⟨true,97⟩ 4 a24,.sl ⟨true,111⟩ 2 a25,vb a26,.sl ⟨false,100⟩ 2 a27]]
def Q36.o (xs:List AV):Option Q36.A:=match xs with | [.agg [.v (.bool a0),.v (.string a1),.v (.string a2),.sl ⟨true,125⟩ 4 a3,.sl ⟨true,111⟩ 2 a4,.v (.bool a5),.v (.string a6),.v (.string a7),.sl ⟨true,9⟩ 1 a8,.sl ⟨true,95⟩ 3 a9,.sl ⟨true,97⟩ 4 a10,.sl ⟨true,111⟩ 2 a11,.v (.bool a12),.sl ⟨false,100⟩ 2 a13],.agg [.v (.bool a14),.v (.string a15),.v (.string a16),.sl ⟨true,125⟩ 4 a17,.sl ⟨true,111⟩ 2 a18,.v (.bool a19),.v (.string a20),.v (.string a21),.sl ⟨true,9⟩ 1 a22,.sl ⟨true,95⟩ 3 a23,.sl ⟨true,97⟩ 4 a24,.sl ⟨true,111⟩ 2 a25,.v (.bool a26),.sl ⟨false,100⟩ 2 a27]]=>some (a0,a1,a2,a3,a4,a5,a6,a7,a8,a9,a10,a11,a12,a13,a14,a15,a16,a17,a18,a19,a20,a21,a22,a23,a24,a25,a26,a27) | _=>none
theorem Q36.oi:∀ xs a,Q36.o xs=some a→xs=Q36.i a:=by
 intro xs a h
 unfold Q36.o at h
 split at h
 ·cases h; rfl
 ·cases h
def Q36.p (p:Q36.T):AV:=vb p
def Q36.q (x:AV):Option Q36.T:=match x with | .v (.bool p0)=>some p0 | _=>none
theorem Q36.qi:∀ x p,Q36.q x=some p→x=Q36.p p:=by
 intro x p h
 unfold Q36.q at h
 split at h
 ·cases h; rfl
 ·cases h
def Q36.C {R:Type} (n:Nat) (f:FuncId) (xs:List AV):(AV→Option R)→Option R:=
 bif Nat.beq f 69 then Q33.via n xs else bif Nat.beq f 70 then Q35.via n xs else fun _=>none
theorem Q36.tells {R:Type} (n:Nat):Tells (R:=R) Tryz.prog (Q36.C n):=fun _ xs=>tells_at (Q33.tells1 n xs) (tells_at (Q35.tells1 n xs) (Tells1.none))
def Q36.cut (r:Nat):Option Keep:=match r with  | _=>none
def Q36.e (n:Nat) (a0:Bool) (a1 a2:ByteArray) (a3 a4:List AV) (a5:Bool) (a6 a7:ByteArray) (a8 a9 a10 a11:List AV) (a12:Bool) (a13:List AV) (a14:Bool) (a15 a16:ByteArray) (a17 a18:List AV) (a19:Bool) (a20 a21:ByteArray) (a22 a23 a24 a25:List AV) (a26:Bool) (a27:List AV):Option Bool:=
 bif a0==a14 then ((Q33.F n a1 a2 a3 a4 a5 a15 a16 a17 a18 a19).bind fun p1=>
 bif p1 then ((Q35.F n a6 a7 a8 a9 a10 a11 a12 a13 a20 a21 a22 a23 a24 a25 a26 a27).bind fun p2=>
 some p2) else (some false)) else (some false)
def Q36.E (n:Nat):Q36.A→Option Q36.T:=fun (a0,a1,a2,a3,a4,a5,a6,a7,a8,a9,a10,a11,a12,a13,a14,a15,a16,a17,a18,a19,a20,a21,a22,a23,a24,a25,a26,a27)=>Q36.e n a0 a1 a2 a3 a4 a5 a6 a7 a8 a9 a10 a11 a12 a13 a14 a15 a16 a17 a18 a19 a20 a21 a22 a23 a24 a25 a26 a27
def Q36.F (n:Nat) (a0:Bool) (a1 a2:ByteArray) (a3 a4:List AV) (a5:Bool) (a6 a7:ByteArray) (a8 a9 a10 a11:List AV) (a12:Bool) (a13:List AV) (a14:Bool) (a15 a16:ByteArray) (a17 a18:List AV) (a19:Bool) (a20 a21:ByteArray) (a22 a23 a24 a25:List AV) (a26:Bool) (a27:List AV):Option Bool:=Q36.e n a0 a1 a2 a3 a4 a5 a6 a7 a8 a9 a10 a11 a12 a13 a14 a15 a16 a17 a18 a19 a20 a21 a22 a23 a24 a25 a26 a27
def Q36.FA (n:Nat):Q36.A→Option Q36.T:=Q36.E n
theorem Q36.hands (n:Nat):∀ a p,Q36.FA n a=some p→HandsIn Tryz.prog 24 (Q36.i a) (Q36.p p):=
 pf_hands (C:=Q36.C n) (cut:=Q36.cut) (Z:=Empty) (t:=nofun) (s:=nofun) (e:=fun _=>Q36.E n) (r:=fun _ z=>nomatch z) (n:=n) cfg mixed globs rfl Q36.qi (Q36.tells n) Tryz.func24 (by kernel_rfl) (by kernel_rfl) (fun rec a=>by kernel_rfl) (fun rec z=>nomatch z)
def Q36.via {R:Type} (n:Nat):List AV→(AV→Option R)→Option R:=viaK (Q36.FA n) Q36.o Q36.p
theorem Q36.tells1 {R:Type} (n:Nat) (xs:List AV):Tells1 (R:=R) Tryz.prog 24 xs (Q36.via n xs):=tells_via Q36.oi (fun a=>by kernel_rfl) (Q36.hands n) xs
end Go.Proofs.YtmpglmcjoelciaaGreatDoor.Ev
namespace Go.Proofs.YtmpglmcjoelciaaGreatDoor.Ev
open Go Go.Proofs Go.Proofs.Ev
set_option linter.unusedVariables false
set_option maxRecDepth 100000
abbrev Q2d.A:=List AV
abbrev Q2d.T:=Bool
def Q2d.i:Q2d.A→List AV:=fun a0=>[.sl ⟨true,9⟩ 1 a0]
def Q2d.p (p:Q2d.T):AV:=vb p
def Q2d.q (x:AV):Option Q2d.T:=match x with | .v (.bool p0)=>some p0 | _=>none
theorem Q2d.qi:∀ x p,Q2d.q x=some p→x=Q2d.p p:=by
 intro x p h
 unfold Q2d.q at h
 split at h
 ·cases h; rfl
 ·cases h
def Q2d.C {R:Type} (n:Nat) (f:FuncId) (xs:List AV):(AV→Option R)→Option R:=
 bif Nat.beq f 12 then Q2j.via n xs else bif Nat.beq f 20 then Q2l.via n xs else bif Nat.beq f 21 then Q0c.via n xs else bif Nat.beq f 22 then Q1o.via n xs else bif Nat.beq f 23 then Q32.via n xs else bif Nat.beq f 24 then Q36.via n xs else fun _=>none
theorem Q2d.tells {R:Type} (n:Nat):Tells (R:=R) Tryz.prog (Q2d.C n):=fun _ xs=>tells_at (Q2j.tells1 n xs) (tells_at (Q2l.tells1 n xs) (tells_at (Q0c.tells1 n xs) (tells_at (Q1o.tells1 n xs) (tells_at (Q32.tells1 n xs) (tells_at (Q36.tells1 n xs) (Tells1.none))))))
def Q2d.cut (r:Nat):Option Keep:=match r with  | _=>none
def Q2d.e (n:Nat) (a0:List AV):Option Bool:=
 (Q2j.F n ).bind fun p1=>
 bif !p1 then (some false) else ((Q2l.F n a0).bind fun p2=>
 bif !p2 then (some true) else ((Q1o.F n a0).bind fun p3=>
 (Q0c.F n p3).bind fun p4=>
 (Q32.F n a0).bind fun p5=>
 let y6:Bool:=p4.2.2.2.2.2.2.2.2.2.2.2.2.2.2.2==p5.2.2.2.2.2.2.2.2.2.2.2.2.2.2.2
 bif y6 then (let y7:Bool:=p4.2.2.2.2.2.2.2.2.2.2.2.2.2.2.1==p5.2.2.2.2.2.2.2.2.2.2.2.2.2.2.1
 bif y7 then ((Q36.F n p4.1 p4.2.1 p4.2.2.1 p4.2.2.2.1 p4.2.2.2.2.1 p4.2.2.2.2.2.1 p4.2.2.2.2.2.2.1 p4.2.2.2.2.2.2.2.1 p4.2.2.2.2.2.2.2.2.1 p4.2.2.2.2.2.2.2.2.2.1 p4.2.2.2.2.2.2.2.2.2.2.1 p4.2.2.2.2.2.2.2.2.2.2.2.1 p4.2.2.2.2.2.2.2.2.2.2.2.2.1 p4.2.2.2.2.2.2.2.2.2.2.2.2.2.1 p5.1 p5.2.1 p5.2.2.1 p5.2.2.2.1 p5.2.2.2.2.1 p5.2.2.2.2.2.1 p5.2.2.2.2.2.2.1 p5.2.2.2.2.2.2.2.1 p5.2.2.2.2.2.2.2.2.1 p5.2.2.2.2.2.2.2.2.2.1 p5.2.2.2.2.2.2.2.2.2.2.1 p5.2.2.2.2.2.2.2.2.2.2.2.1 p5.2.2.2.2.2.2.2.2.2.2.2.2.1 p5.2.2.2.2.2.2.2.2.2.2.2.2.2.1).bind fun p8=>
 some p8) else (some false)) else (some false)))
def Q2d.E (n:Nat):Q2d.A→Option Q2d.T:=fun a0=>Q2d.e n a0
def Q2d.F (n:Nat) (a0:List AV):Option Bool:=Q2d.e n a0
def Q2d.FA (n:Nat):Q2d.A→Option Q2d.T:=Q2d.E n
theorem Q2d.hands (n:Nat):∀ a p,Q2d.FA n a=some p→HandsIn Tryz.prog 5 (Q2d.i a) (Q2d.p p):=
 pf_hands (C:=Q2d.C n) (cut:=Q2d.cut) (Z:=Empty) (t:=nofun) (s:=nofun) (e:=fun _=>Q2d.E n) (r:=fun _ z=>nomatch z) (n:=n) cfg mixed globs rfl Q2d.qi (Q2d.tells n) Tryz.func5 (by kernel_rfl) (by kernel_rfl) (fun rec a=>by kernel_rfl) (fun rec z=>nomatch z)
end Go.Proofs.YtmpglmcjoelciaaGreatDoor.Ev
namespace Go.Proofs.YtmpglmcjoelciaaGreatDoor.Ev
open Go Go.Proofs Go.Proofs.Ev
set_option linter.unusedVariables false
set_option maxRecDepth 100000
inductive Q2g.Z where
 | z2
 | z4 (z1:Int) (z2 z3:ByteArray) (z4 z5:List AV) (z6:Bool)
def Q2g.r2 (n:Nat) (c:Q2g.Z→Option Bool)  : Option Bool:=
 some false
def Q2g.r4 (n:Nat) (c:Q2g.Z→Option Bool) (z1:Int) (z2 z3:ByteArray) (z4 z5:List AV) (z6:Bool):Option Bool:=
 let y5:Bool:=decide (z1 < ((z4.length:Nat):Int))
 bif y5 then (bif decide ((0:Int)≤z1)&&decide (z1 < ((z4.length:Nat):Int)) then (withCons ((z4.getD ((z1).toNat) .undef).cells) fun h6 r7=>
 withStr h6 fun s8=>
 let y9:Bool:=decide (((s8.size:Nat):Int) > 100)
 bif y9 then (some false) else (c (.z4 (IntKind.i64.wrap (z1+1)) z2 z3 z4 z5 z6))) else none) else ((Q2k.F n z5).bind fun p10=>
 some p10)
def Q2g.r (n:Nat) (c:Q2g.Z→Option Bool):Q2g.Z→Option Bool
 | .z2=>Q2g.r2 n c
 | .z4 z1 z2 z3 z4 z5 z6=>Q2g.r4 n c z1 z2 z3 z4 z5 z6
def Q2g.l (n:Nat):Nat→Q2g.Z→Option Bool:=loopL (Q2g.r n)
end Go.Proofs.YtmpglmcjoelciaaGreatDoor.Ev
namespace Go.Proofs.YtmpglmcjoelciaaGreatDoor.Ev
open Go Go.Proofs Go.Proofs.Ev
theorem Q2l.at4 (n m z1 z2):Q2l.l n (m+1) (.z4 z1 z2)=Q2l.r4 n (Q2l.l n m) z1 z2:=rfl
theorem Q4a.at2 (n m z1 z2 z3):Q4a.l n (m+1) (.z2 z1 z2 z3)=Q4a.r2 n (Q4a.l n m) z1 z2 z3:=rfl
theorem Q43.at5 (n m z1 z2):Q43.l n (m+1) (.z5 z1 z2)=Q43.r5 n (Q43.l n m) z1 z2:=rfl
theorem Q41.at8 (n m z1 z2 z3):Q41.l n (m+1) (.z8 z1 z2 z3)=Q41.r8 n (Q41.l n m) z1 z2 z3:=rfl
theorem Q3v.at13 (n m z1 z2 z3 z4 z5 z6 z7 z8 z9):Q3v.l n (m+1) (.z13 z1 z2 z3 z4 z5 z6 z7 z8 z9)=Q3v.r13 n (Q3v.l n m) z1 z2 z3 z4 z5 z6 z7 z8 z9:=rfl
theorem Q1d.at4 (n m z1 z2 z3 z4 z5 z6 z7 z8 z9 z10 z11 z12 z13 z14 z15 z16 z17):Q1d.l n (m+1) (.z4 z1 z2 z3 z4 z5 z6 z7 z8 z9 z10 z11 z12 z13 z14 z15 z16 z17)=Q1d.r4 n (Q1d.l n m) z1 z2 z3 z4 z5 z6 z7 z8 z9 z10 z11 z12 z13 z14 z15 z16 z17:=rfl
theorem Q1f.at5 (n m z1 z2 z3 z4 z5 z6 z7 z8 z9 z10 z11 z12 z13 z14 z15 z16 z17 z18):Q1f.l n (m+1) (.z5 z1 z2 z3 z4 z5 z6 z7 z8 z9 z10 z11 z12 z13 z14 z15 z16 z17 z18)=Q1f.r5 n (Q1f.l n m) z1 z2 z3 z4 z5 z6 z7 z8 z9 z10 z11 z12 z13 z14 z15 z16 z17 z18:=rfl
theorem Q1e.at9 (n m z1 z2 z3 z4 z5 z6 z7 z8 z9 z10 z11 z12 z13 z14 z15 z16 z17):Q1e.l n (m+1) (.z9 z1 z2 z3 z4 z5 z6 z7 z8 z9 z10 z11 z12 z13 z14 z15 z16 z17)=Q1e.r9 n (Q1e.l n m) z1 z2 z3 z4 z5 z6 z7 z8 z9 z10 z11 z12 z13 z14 z15 z16 z17:=rfl
theorem Q1b.at4 (n m z1 z2 z3 z4 z5 z6 z7 z8 z9 z10 z11 z12 z13 z14 z15 z16 z17):Q1b.l n (m+1) (.z4 z1 z2 z3 z4 z5 z6 z7 z8 z9 z10 z11 z12 z13 z14 z15 z16 z17)=Q1b.r4 n (Q1b.l n m) z1 z2 z3 z4 z5 z6 z7 z8 z9 z10 z11 z12 z13 z14 z15 z16 z17:=rfl
theorem Q17.at3 (n m z1 z2 z3 z4):Q17.l n (m+1) (.z3 z1 z2 z3 z4)=Q17.r3 n (Q17.l n m) z1 z2 z3 z4:=rfl
theorem Q0j.at7 (n m z1 z2 z3 z4 z5 z6 z7 z8 z9 z10):Q0j.l n (m+1) (.z7 z1 z2 z3 z4 z5 z6 z7 z8 z9 z10)=Q0j.r7 n (Q0j.l n m) z1 z2 z3 z4 z5 z6 z7 z8 z9 z10:=rfl
theorem Q0c.at6 (n m z1 z2 z3 z4 z5 z6 z7 z8 z9 z10 z11 z12 z13 z14 z15 z16 z17 z18 z19 z20 z21 z22 z23 z24 z25 z26):Q0c.l n (m+1) (.z6 z1 z2 z3 z4 z5 z6 z7 z8 z9 z10 z11 z12 z13 z14 z15 z16 z17 z18 z19 z20 z21 z22 z23 z24 z25 z26)=Q0c.r6 n (Q0c.l n m) z1 z2 z3 z4 z5 z6 z7 z8 z9 z10 z11 z12 z13 z14 z15 z16 z17 z18 z19 z20 z21 z22 z23 z24 z25 z26:=rfl
theorem Q1v.at4 (n m z1 z2):Q1v.l n (m+1) (.z4 z1 z2)=Q1v.r4 n (Q1v.l n m) z1 z2:=rfl
theorem Q3h.at3 (n m z1):Q3h.l n (m+1) (.z3 z1)=Q3h.r3 n (Q3h.l n m) z1:=rfl
theorem Q3q.at3 (n m z1 z2 z3):Q3q.l n (m+1) (.z3 z1 z2 z3)=Q3q.r3 n (Q3q.l n m) z1 z2 z3:=rfl
theorem Q3b.at3 (n m z1 z2 z3 z4 z5 z6 z7 z8 z9 z10 z11 z12 z13 z14 z15 z16 z17 z18):Q3b.l n (m+1) (.z3 z1 z2 z3 z4 z5 z6 z7 z8 z9 z10 z11 z12 z13 z14 z15 z16 z17 z18)=Q3b.r3 n (Q3b.l n m) z1 z2 z3 z4 z5 z6 z7 z8 z9 z10 z11 z12 z13 z14 z15 z16 z17 z18:=rfl
theorem Q3c.at5 (n m z1 z2 z3 z4 z5 z6 z7 z8 z9 z10 z11 z12 z13 z14 z15 z16):Q3c.l n (m+1) (.z5 z1 z2 z3 z4 z5 z6 z7 z8 z9 z10 z11 z12 z13 z14 z15 z16)=Q3c.r5 n (Q3c.l n m) z1 z2 z3 z4 z5 z6 z7 z8 z9 z10 z11 z12 z13 z14 z15 z16:=rfl
theorem Q27.at3 (n m z1 z2 z3 z4):Q27.l n (m+1) (.z3 z1 z2 z3 z4)=Q27.r3 n (Q27.l n m) z1 z2 z3 z4:=rfl
theorem Q21.at2 (n m z1 z2 z3 z4):Q21.l n (m+1) (.z2 z1 z2 z3 z4)=Q21.r2 n (Q21.l n m) z1 z2 z3 z4:=rfl
theorem Q22.at6 (n m z1 z2 z3):Q22.l n (m+1) (.z6 z1 z2 z3)=Q22.r6 n (Q22.l n m) z1 z2 z3:=rfl
theorem Q25.at4 (n m z1 z2 z3 z4 z5 z6):Q25.l n (m+1) (.z4 z1 z2 z3 z4 z5 z6)=Q25.r4 n (Q25.l n m) z1 z2 z3 z4 z5 z6:=rfl
theorem Q25.at9 (n m z1 z2 z3 z4 z5 z6 z7):Q25.l n (m+1) (.z9 z1 z2 z3 z4 z5 z6 z7)=Q25.r9 n (Q25.l n m) z1 z2 z3 z4 z5 z6 z7:=rfl
theorem Q32.at7 (n m z1 z2 z3 z4 z5 z6 z7 z8 z9 z10 z11 z12 z13 z14 z15 z16 z17 z18 z19 z20 z21 z22 z23 z24):Q32.l n (m+1) (.z7 z1 z2 z3 z4 z5 z6 z7 z8 z9 z10 z11 z12 z13 z14 z15 z16 z17 z18 z19 z20 z21 z22 z23 z24)=Q32.r7 n (Q32.l n m) z1 z2 z3 z4 z5 z6 z7 z8 z9 z10 z11 z12 z13 z14 z15 z16 z17 z18 z19 z20 z21 z22 z23 z24:=rfl
theorem Q34.at4 (n m z1 z2 z3 z4 z5):Q34.l n (m+1) (.z4 z1 z2 z3 z4 z5)=Q34.r4 n (Q34.l n m) z1 z2 z3 z4 z5:=rfl
theorem Q3m.at4 (n m z1 z2 z3):Q3m.l n (m+1) (.z4 z1 z2 z3)=Q3m.r4 n (Q3m.l n m) z1 z2 z3:=rfl
theorem Q1y.at4 (n m z1 z2 z3):Q1y.l n (m+1) (.z4 z1 z2 z3)=Q1y.r4 n (Q1y.l n m) z1 z2 z3:=rfl
theorem Q35.at4 (n m z1 z2 z3 z4 z5 z6 z7 z8 z9 z10 z11 z12 z13 z14 z15 z16 z17):Q35.l n (m+1) (.z4 z1 z2 z3 z4 z5 z6 z7 z8 z9 z10 z11 z12 z13 z14 z15 z16 z17)=Q35.r4 n (Q35.l n m) z1 z2 z3 z4 z5 z6 z7 z8 z9 z10 z11 z12 z13 z14 z15 z16 z17:=rfl
theorem Q35.at9 (n m z1 z2 z3 z4 z5 z6 z7 z8 z9 z10 z11 z12 z13 z14 z15 z16 z17):Q35.l n (m+1) (.z9 z1 z2 z3 z4 z5 z6 z7 z8 z9 z10 z11 z12 z13 z14 z15 z16 z17)=Q35.r9 n (Q35.l n m) z1 z2 z3 z4 z5 z6 z7 z8 z9 z10 z11 z12 z13 z14 z15 z16 z17:=rfl
theorem Q35.at14 (n m z1 z2 z3 z4 z5 z6 z7 z8 z9 z10 z11 z12 z13 z14 z15 z16 z17):Q35.l n (m+1) (.z14 z1 z2 z3 z4 z5 z6 z7 z8 z9 z10 z11 z12 z13 z14 z15 z16 z17)=Q35.r14 n (Q35.l n m) z1 z2 z3 z4 z5 z6 z7 z8 z9 z10 z11 z12 z13 z14 z15 z16 z17:=rfl
theorem Q35.at20 (n m z1 z2 z3 z4 z5 z6 z7 z8 z9 z10 z11 z12 z13 z14 z15 z16 z17 z18 z19 z20 z21 z22):Q35.l n (m+1) (.z20 z1 z2 z3 z4 z5 z6 z7 z8 z9 z10 z11 z12 z13 z14 z15 z16 z17 z18 z19 z20 z21 z22)=Q35.r20 n (Q35.l n m) z1 z2 z3 z4 z5 z6 z7 z8 z9 z10 z11 z12 z13 z14 z15 z16 z17 z18 z19 z20 z21 z22:=rfl
theorem Q2g.at4 (n m z1 z2 z3 z4 z5 z6):Q2g.l n (m+1) (.z4 z1 z2 z3 z4 z5 z6)=Q2g.r4 n (Q2g.l n m) z1 z2 z3 z4 z5 z6:=rfl
end Go.Proofs.YtmpglmcjoelciaaGreatDoor.Ev
namespace Go.Proofs.YtmpglmcjoelciaaGreatDoor.Ev
open Go Go.Proofs Go.Proofs.Ev
set_option linter.unusedVariables false
def c2o (x:Option Nat):Int × Bool:=match x with
 | none=>(0,false)
 | some e=>((e:Int),true)
theorem closed_l (n:Nat) (l:List UInt8) (hl:l.length≤100000):∀ (d i m:Nat),i+d=l.length→d < m→Q3d.l n m (.z2 (bs l) i)=some (c2o (qt (l.drop i) i))
 | _,_,0,_,h=>absurd h (by omega)
 | 0,i,m+1,h,_=>by
  show Q3d.r2 n (Q3d.l n m) (bs l) i=_
  unfold Q3d.r2
  simp only [bs_size]
  rw [cond_f (by omega),List.drop_of_length_le (by omega)]
  rfl
 | d+1,i,m+1,h,hm=>by
  have hi:i < l.length:=by omega
  show Q3d.r2 n (Q3d.l n m) (bs l) i=_
  unfold Q3d.r2
  simp only [bs_size,within_t hi,Int.toNat_natCast,getD_at hi,cond_true]
  rw [cond_t (by omega),List.drop_eq_getElem_cons hi,show (39:Int)=((39:Nat):Int) from rfl,byte_ne _ 39 39 rfl,wsucc (by omega)]
  unfold qt
  by_cases hc:l[i]=39
  ·rw [cond_f (by simp [hc]),if_neg (by simp [hc])]
   by_cases h1:i+1 < l.length
   ·simp only [within_t h1,Int.toNat_natCast,getD_at h1,cond_true,byte_eq _ 39 39 rfl]
    rw [cond_t (by omega),List.drop_eq_getElem_cons h1]
    simp only
    by_cases hd:l[i+1]=39
    ·rw [cond_t hd,if_pos hd,wsucc (by omega)]
     cases d with
     | zero=>omega
     | succ d=>exact closed_l n l hl d (i+2) m (by omega) (by omega)
    ·rw [cond_f hd,if_neg hd]
     rfl
   ·rw [cond_f (by omega),List.drop_of_length_le (by omega)]
    rfl
  ·rw [cond_t (by simpa using hc),if_pos hc]
   exact closed_l n l hl d (i+1) m (by omega) (by omega)
theorem closed_eq {n:Nat} (l:List UInt8) (hl:l.length≤100000) (h0:1≤l.length) (hn:100002≤n):Q3d.F n (bs l)=some (c2o (qt (l.drop 1) 1)):=by
 unfold Q3d.F Q3d.e
 exact closed_l n l hl (l.length - 1) 1 n (by omega) (by omega)
def run (l:List UInt8):Nat:=(l.takeWhile (fun x=>x != 32&&x != 39)).length
theorem run_le (l:List UInt8):run l≤l.length:=(List.takeWhile_sublist _).length_le
theorem run_end {l:List UInt8} (h:run l < l.length):l[run l]=32∨l[run l]=39:=by
 have hd:l.dropWhile (fun x=>x != 32&&x != 39)=l.drop (run l):=by
  have:(l.takeWhile (fun x=>x != 32&&x != 39)++l.dropWhile (fun x=>x != 32&&x != 39)).drop (run l)=l.dropWhile (fun x=>x != 32&&x != 39):=by rw [run,List.drop_left]
  rw [List.takeWhile_append_dropWhile] at this
  exact this.symm
 have h2:=List.head?_dropWhile_not (fun x:UInt8=>x != 32&&x != 39) l
 rw [hd,List.head?_drop,List.getElem?_eq_getElem h] at h2
 simp only [Bool.and_eq_false_iff,bne_eq_false_iff_eq] at h2
 exact h2
theorem run_cons {c:UInt8} (h1:c≠32) (h2:c≠39) (r:List UInt8):run (c::r)=run r+1:=by simp [run,h1,h2]
theorem wrd_run:∀ (l:List UInt8),(∀ c r,l=c::r→c≠39)→wrd l=if l.getD (run l) 0=39 then 0 else run l
 | [],_=>by rfl
 | c::r,h=>by
  have hc:=h c r rfl
  have key:∀ l:List UInt8,((l.take (ib l 32)).contains 39=decide (l.getD (run l) 0=39))∧(l.getD (run l) 0≠39→run l=ib l 32):=by
   intro l
   induction l with
   | nil=>exact ⟨by rfl,fun _=>rfl⟩
   | cons b l ih=>
    by_cases hb:b=32
    ·subst hb
     have e1:ib ((32:UInt8)::l) 32=0:=by simp [ib]
     have e2:run ((32:UInt8)::l)=0:=by simp [run]
     rw [e1,e2]
     exact ⟨by simp,fun _=>rfl⟩
    ·have e1:ib (b::l) 32=ib l 32+1:=by rw [ib_cons,if_neg hb]
     by_cases h39:b=39
     ·subst h39
      have e2:run ((39:UInt8)::l)=0:=by simp [run]
      rw [e1,e2]
      exact ⟨by simp [List.take_succ_cons],fun h=>absurd rfl h⟩
     ·have e2:run (b::l)=run l+1:=run_cons hb h39 l
      rw [e1,e2,List.take_succ_cons,List.contains_cons,List.getD_cons_succ,ih.1]
      have:((39:UInt8)==b)=false:=by simpa using fun e:(39:UInt8)=b=>h39 e.symm
      rw [this,Bool.false_or]
      exact ⟨rfl,fun h=>by rw [ih.2 h]⟩
  obtain ⟨k1,k2⟩:=key (c::r)
  rw [wrd_cons,if_neg hc,k1]
  by_cases h39:(c::r).getD (run (c::r)) 0=39
  ·simp only [h39,decide_true,if_true]
  ·simp only [h39,decide_false,Bool.false_eq_true,if_false]
   exact (k2 h39).symm
section
variable {n:Nat} {L:List UInt8}
theorem scan_l (hL:L.length≤1000) (out:List (List UInt8)) (a:Nat):∀ (d e m:Nat),e+d=L.length→d < m→
  Q39.l n m (.z19 (bs L) a e (Ws out))=if (L.drop e).getD (run (L.drop e)) 0=39 then some ([],8) else Q39.l n (m - run (L.drop e) - 1) (.z23 (bs L) a ((e+run (L.drop e):Nat):Int) (Ws out))
 | _,_,0,_,h=>absurd h (by omega)
 | 0,e,m+1,h,_=>by
  show Q39.r19 n (Q39.l n m) (bs L) a e (Ws out)=_
  unfold Q39.r19
  simp only [bs_size]
  rw [cond_f (by omega),List.drop_of_length_le (by omega)]
  rfl
 | d+1,e,m+1,h,hm=>by
  have he:e < L.length:=by omega
  have ih:=scan_l hL out a d (e+1) m (by omega) (by omega)
  show Q39.r19 n (Q39.l n m) (bs L) a e (Ws out)=_
  unfold Q39.r19
  simp only [bs_size,within_t he,Int.toNat_natCast,getD_at he,cond_true]
  rw [cond_t (by omega),List.drop_eq_getElem_cons he,show (32:Int)=((32:Nat):Int) from rfl,byte_ne _ 32 32 rfl,show (39:Int)=((39:Nat):Int) from rfl,byte_eq _ 39 39 rfl,wsucc (by omega)]
  by_cases h32:L[e]=32
  ·have e2:run (L[e]::L.drop (e+1))=0:=by simp [run,h32]
   rw [cond_f (by simpa using h32),e2,List.getD_cons_zero,if_neg (by rw [h32]; decide)]
   rfl
  ·by_cases h39:L[e]=39
   ·have e2:run (L[e]::L.drop (e+1))=0:=by simp [run,h39]
    rw [cond_t (by simpa using h32),cond_t h39,e2,List.getD_cons_zero,if_pos h39]
   ·have e2:run (L[e]::L.drop (e+1))=run (L.drop (e+1))+1:=run_cons h32 h39 _
    rw [cond_t (by simpa using h32),cond_f h39,e2,List.getD_cons_succ,ih,show m+1 - (run (L.drop (e+1))+1) - 1=m - run (L.drop (e+1)) - 1 by omega,show e+(run (L.drop (e+1))+1)=e+1+run (L.drop (e+1)) by omega]
theorem words_l (hn:100002≤n) (hL:L.length≤1000):∀ (g a:Nat) (out:List (List UInt8)) (m:Nat),a≤L.length→L.length - a < g→4*(L.length - a)+10≤m→out.length+(L.length - a)≤100000→
  Q39.l n m (.z13 (bs L) a (Ws out))=some (wres out (wordsP g (L.drop a)))
 | 0,_,_,_,_,h,_,_=>absurd h (by omega)
 | g+1,a,out,m,ha,hg,hm,ho=>by
  obtain ⟨m,rfl⟩ : ∃ q,m=q+1:=⟨m - 1,by omega⟩
  have hle:=wrd_le (L.drop a)
  have hlen:(L.drop a).length=L.length - a:=List.length_drop ..
  have hmost:most=1000000000:=rfl
  -- behind the word
  have fin:∀ (q e:Nat),a < e→e≤L.length→4*(L.length - e)+11≤q→(e < L.length→L.getD e 0=32)→wrd (L.drop a)=e - a→
    Q39.l n q (.z23 (bs L) a e (Ws out))=some (wres out (wordsP (g+1) (L.drop a))):=by
   intro q e h1 h2 hq h32 hw
   obtain ⟨q,rfl⟩ : ∃ r,q=r+2:=⟨q - 2,by omega⟩
   show Q39.r23 n (Q39.l n (q+1)) (bs L) a e (Ws out)=_
   have h12:∀ o,Q39.l n (q+1) (.z12 (bs L) e o)=Q39.l n q (.z13 (bs L) ((e+1:Nat):Int) o):=by
    intro o
    show Q39.r12 n (Q39.l n q) (bs L) e o=_
    unfold Q39.r12
    rw [wsucc (by omega)]
   unfold Q39.r23 wordsP
   have ex:(bs L).extract a e=bs ((L.drop a).take (e - a)):=bs_extract L a e
   have hw0:¬ e - a=0:=by omega
   rw [beq_int,cond_f (by omega)]
   simp only [bs_size,Int.toNat_natCast,upto_t h2,upto_t (Nat.le_of_lt h1),cond_true,ex,Ws_length,beq_int,h12,Ws_snoc,hw,hw0,if_false]
   by_cases he:e < L.length
   ·rw [cond_t (by omega),within_t he,cond_true,bs_getD,h32 he,show ((((32:UInt8).toNat:Nat):Int) != 32)=false from rfl,cond_false,cond_t (by simp; omega),cond_f (by omega),if_neg (by omega)]
    rw [wres_map,List.drop_drop,show a+(e - a+1)=e+1 by omega]
    exact words_l hn hL g (e+1) (out++[(L.drop a).take (e - a)]) q (by omega) (by omega) (by omega) (by simp; omega)
   ·have hee:e=L.length:=by omega
    rw [cond_f (by omega),cond_t (by simp; omega),cond_t (by omega),if_pos (by omega)]
    rw [List.take_of_length_le (by omega)]
    rfl
  have bad:wrd (L.drop a)=0→some (([]:List AV),(8:Int))=some (wres out (wordsP (g+1) (L.drop a))):=by
   intro h
   unfold wordsP
   rw [if_pos h]
   rfl
  -- a word that is no string
  have plainW:(∀ c r,L.drop a=c::r→c≠39)→Q39.l n m (.z19 (bs L) a a (Ws out))=some (wres out (wordsP (g+1) (L.drop a))):=by
   intro hne
   have hr:=run_le (L.drop a)
   have hw:=wrd_run (L.drop a) hne
   rw [scan_l hL out a (L.length - a) a m (by omega) (by omega)]
   by_cases h39:(L.drop a).getD (run (L.drop a)) 0=39
   ·rw [if_pos h39] at hw ⊢
    exact bad hw
   ·rw [if_neg h39] at hw ⊢
    by_cases h0:run (L.drop a)=0
    ·rw [h0] at hw ⊢
     obtain ⟨q,hq⟩ : ∃ q,m - 0 - 1=q+1:=⟨m - 2,by omega⟩
     rw [hq]
     show Q39.r23 n (Q39.l n q) (bs L) a ((a+0:Nat):Int) (Ws out)=_
     unfold Q39.r23
     rw [beq_int,cond_t (by omega)]
     exact bad hw
    ·refine fin _ (a+run (L.drop a)) (by omega) (by omega) (by omega) (fun he=>?_) (by omega)
     have h1:run (L.drop a) < (L.drop a).length:=by omega
     have h2:=run_end h1
     have e1:(L.drop a).getD (run (L.drop a)) 0=(L.drop a)[run (L.drop a)]:=by rw [List.getD_eq_getElem?_getD,List.getElem?_eq_getElem h1]; rfl
     rw [e1] at h39
     have e2:L.getD (a+run (L.drop a)) 0=(L.drop a)[run (L.drop a)]:=by rw [List.getElem_drop,List.getD_eq_getElem?_getD,List.getElem?_eq_getElem he]; rfl
     rw [e2]
     exact h2.resolve_right h39
  show Q39.r13 n (Q39.l n m) (bs L) a (Ws out)=_
  unfold Q39.r13
  simp only [bs_size]
  by_cases h1:a < L.length
  ·simp only [within_t h1,Int.toNat_natCast,getD_at h1,cond_true]
   rw [cond_t (by omega),show (39:Int)=((39:Nat):Int) from rfl,byte_eq _ 39 39 rfl]
   have hcons:=List.drop_eq_getElem_cons h1
   by_cases h39:L[a]=39
   ·have e7:(bs L).extract a L.length=bs (L.drop a):=by
     have:=bs_drop L a
     rwa [bs_size] at this
    rw [cond_t h39,upto_t (by omega),cond_true,e7,closed_eq _ (by omega) (by omega) hn,Option.bind_some]
    have hw:wrd (L.drop a)=match qt (L.drop (a+1)) 1 with
     | none=>0
     | some e=>if e < (L.drop a).length∧(L.drop a).getD e 0≠32 then 0 else e:=by
     rw [hcons]
     refine (wrd_cons _ _).trans ((if_pos h39).trans ?_)
     cases qt (L.drop (a+1)) 1 <;> rfl
    rw [show (L.drop a).drop 1=L.drop (a+1) from by rw [List.drop_drop]]
    cases hqt:qt (L.drop (a+1)) 1 with
    | none=>
     rw [hqt] at hw
     exact bad hw
    | some e=>
     rw [hqt] at hw
     have hb:=qt_bound _ _ _ hqt
     rw [List.length_drop] at hb
     simp only [c2o,Bool.not_true,cond_false]
     rw [w64 (by omega) (by omega),show (a:Int)+(e:Int)=((a+e:Nat):Int) by omega]
     have eD:(L.drop a).getD e 0=L.getD (a+e) 0:=by simp [List.getD_eq_getElem?_getD]
     simp only [hlen,eD] at hw
     by_cases hbad:e < L.length - a∧L.getD (a+e) 0≠32
     ·rw [if_pos hbad] at hw
      obtain ⟨q,rfl⟩ : ∃ q,m=q+1:=⟨m - 1,by omega⟩
      show Q39.r23 n (Q39.l n q) (bs L) a ((a+e:Nat):Int) (Ws out)=_
      unfold Q39.r23
      have hlt:a+e < L.length:=by omega
      rw [beq_int,cond_f (by omega)]
      simp only [bs_size,within_t hlt,cond_true,Int.toNat_natCast]
      rw [cond_t (by omega),bs_getD,show (32:Int)=((32:Nat):Int) from rfl,byte_ne _ 32 32 rfl,cond_t (by exact hbad.2)]
      exact bad hw
     ·rw [if_neg hbad] at hw
      refine fin m (a+e) (by omega) (by omega) (by omega) (fun he=>?_) (by omega)
      by_cases h32:L.getD (a+e) 0=32
      ·exact h32
      ·exact absurd ⟨by omega,h32⟩ hbad
   ·rw [cond_f h39]
    exact plainW (fun c r h=>by rw [hcons] at h; injection h with h2 h3; rw [← h2]; exact h39)
  ·rw [cond_f (by omega)]
   exact plainW (fun c r h=>by rw [List.drop_of_length_le (by omega)] at h; cases h)
theorem wordsC_l (hn:100002≤n) (hL:L.length≤1000):∀ (d i m:Nat),i+d=L.length→d+5000≤m→
  Q39.l n m (.z4 (bs L) i)=some (if (L.drop i).all okc=false then ([],8) else if L=[] then ([],0) else wres [] (wordsP (L.length+1) L))
 | 0,i,m,h,hm=>by
  obtain ⟨m,rfl⟩ : ∃ q,m=q+1:=⟨m - 1,by omega⟩
  show Q39.r4 n (Q39.l n m) (bs L) i=_
  unfold Q39.r4
  simp only [bs_size,empty_eq]
  rw [cond_f (by omega),List.drop_of_length_le (by omega),if_neg (by simp)]
  by_cases h0:L=[]
  ·rw [cond_t h0,if_pos h0]
  ·rw [cond_f h0,if_neg h0]
   have:=words_l hn hL (L.length+1) 0 [] m (by omega) (by omega) (by omega) (by simp; omega)
   rw [List.drop_zero] at this
   exact this
 | d+1,i,m,h,hm=>by
  obtain ⟨m,rfl⟩ : ∃ q,m=q+1:=⟨m - 1,by omega⟩
  have hi:i < L.length:=by omega
  have ih:=wordsC_l hn hL d (i+1) m (by omega) (by omega)
  show Q39.r4 n (Q39.l n m) (bs L) i=_
  have hb:=L[i].toNat_lt
  unfold Q39.r4
  simp only [bs_size,within_t hi,Int.toNat_natCast,getD_at hi,cond_true]
  rw [cond_t (by omega),Within_eq,Option.bind_some,w64 (by omega) (by omega),List.drop_eq_getElem_cons hi,List.all_cons,wsucc (by omega),ih]
  have e:decide ((32:Int)≤((L[i].toNat:Nat):Int)∧((L[i].toNat:Nat):Int)≤126)=okc L[i]:=by
   unfold okc
   rw [← Bool.decide_and,decide_eq_decide]
   omega
  rw [e]
  cases okc L[i] <;> rfl
theorem wordsRef_eq (hn:200002≤n) (hL:L.length≤1000):Q39.F n (bs L)=some (wordsR L):=by
 unfold Q39.F Q39.e wordsR
 simp only [bs_size]
 by_cases h1:L.length > 240
 ·rw [cond_t (by omega),if_pos h1]
 ·rw [cond_f (by omega),if_neg h1]
  have:=wordsC_l (n:=n) (by omega) hL L.length 0 n (by omega) (by omega)
  rw [List.drop_zero] at this
  exact this
end
theorem wordsP_len:∀ (g:Nat) (l:List UInt8) (ws:List (List UInt8)),wordsP g l=some ws→ws.length≤l.length+1
 | 0,_,_,h=>by cases h
 | g+1,l,ws,h=>by
  unfold wordsP at h
  split at h
  ·cases h
  ·split at h
   ·cases h; simp
   ·rename_i h1 h2
    rw [Option.map_eq_some_iff] at h
    obtain ⟨w,hw,rfl⟩:=h
    have:=wordsP_len g _ _ hw
    rw [List.length_drop] at this
    have:=wrd_le l
    simp only [List.length_cons]
    omega
end Go.Proofs.YtmpglmcjoelciaaGreatDoor.Ev
namespace Go.Proofs.YtmpglmcjoelciaaGreatDoor.Ev
open Go Go.Proofs Go.Proofs.Ev
set_option linter.unusedVariables false
section
variable {n:Nat} {nm fm:ByteArray} {a3 a4 a5 a7:List AV} {uq:Bool}
theorem din_eq (n:Nat) (a b c:Int):Q0o.F n a b c=some (decide (b≤a∧a≤c)):=by
 unfold Q0o.F Q0o.e
 by_cases h:b≤a
 ·rw [cond_t h]; simp [h]
 ·rw [cond_f h]; simp [h]
theorem bif_ne {α:Type} (e:Int) (x y:α):(bif e != 0 then x else y)=if e≠0 then x else y:=by
 by_cases h:e=0
 ·have h1:(e != 0)=false:=by simp [h]
  rw [h1,if_neg (by simp [h])]; rfl
 ·have h1:(e != 0)=true:=by simp [h]
  rw [h1,if_pos h]; rfl
theorem cond_yes {α:Type} {b:Bool} (h:b=true) (x y:α):(bif b then x else y)=x:=by rw [h]; rfl
theorem some_ite {α:Type} {p:Prop} [Decidable p] (x y:α):(if p then some x else some y)=some (if p then x else y):=by split <;> rfl
theorem Bl_getD {ts:List Bool} {i:Nat} (hi:i < ts.length):(Bl ts).getD (((i:Nat):Int)).toNat AV.undef=vb ts[i]:=by simp [Bl,List.getD_eq_getElem?_getD,hi]
theorem indexB_l (n:Nat) (ts:List Bool) (hw:ts.length≤1000):∀ (d i m:Nat),i+d=ts.length→d < m→∃ q,Q4b.l n m (.z2 (Bl ts) false ts.length i)=some q∧decide (q≥0)=(ts.drop i).contains false
 | _,_,0,_,h=>absurd h (by omega)
 | 0,i,m+1,h,_=>by
  refine ⟨-1,?_,by rw [List.drop_of_length_le (by omega)]; rfl⟩
  rw [Q4b.at2]
  unfold Q4b.r2
  rw [cond_f (by omega)]
 | d+1,i,m+1,h,hm=>by
  have hi:i < ts.length:=by omega
  obtain ⟨q,h1,h2⟩:=indexB_l n ts hw d (i+1) m (by omega) (by omega)
  rw [Q4b.at2]
  unfold Q4b.r2
  rw [cond_t (by omega),Bl_length,within_t hi,cond_true,Bl_getD hi,List.drop_eq_getElem_cons hi,List.contains_cons]
  show ∃ q,(bif (false==ts[i]) then some (i:Int) else _)=some q∧_
  cases ts[i] with
  | false=>exact ⟨i,rfl,by simp⟩
  | true=>
   refine ⟨q,?_,by rw [h2]; rfl⟩
   show Q4b.l n m (.z2 (Bl ts) false ts.length (IntKind.i64.wrap ((i:Int)+1)))=_
   rw [wsucc (by omega)]
   exact h1
theorem containsB {n:Nat} (hn:1001≤n) (ts:List Bool) (hw:ts.length≤1000):Q47.F n (Bl ts) false=some (ts.contains false):=by
 unfold Q47.F Q47.e Q4b.F Q4b.e
 obtain ⟨q,h1,h2⟩:=indexB_l n ts hw ts.length 0 n (by omega) (by omega)
 rw [List.drop_zero] at h2
 rw [Bl_length,show (0:Int)=((0:Nat):Int) from rfl,h1,Option.bind_some]
 exact congrArg some h2
theorem Bl_drop (ts:List Bool) (k:Nat):(Bl ts).drop k=Bl (ts.drop k):=by simp [Bl,List.map_drop]
theorem Bl_set (ts:List Bool) (k:Nat) (b:Bool):(Bl ts).set k (vb b)=Bl (ts.set k b):=by simp [Bl,List.map_set]
theorem joins_l (hn:1001≤n) (ws:List (List UInt8)) (hw:1≤ws.length∧ws.length≤1000) (js:List JP) (hj:js.length≤1000):∀ (d i m:Nat) (last:Int) (ts:List Bool),i+d=js.length→d < m→ts.length=ws.length→
  Q0u.l n m (.z6 last (js.map JP.av) js.length i nm fm (Ws ws) a3 (js.map JP.av) a5 uq a7 (Bl ts))=some (jErr ((ws.length:Int) - 1) (js.drop i) i last ts)
 | _,_,0,_,_,_,h,_=>absurd h (by omega)
 | 0,i,m+1,last,ts,h,_,ht=>by
  rw [Q0u.at6]
  unfold Q0u.r6
  rw [cond_f (by omega),Bl_length,cond_yes (by rw [Bool.and_eq_true,decide_eq_true_eq,decide_eq_true_eq]; omega),Bl_drop,containsB hn _ (by rw [List.length_drop]; omega),Option.bind_some,cond_eq,Option.bind_some,List.drop_of_length_le (show js.length≤i by omega)]
  rfl
 | d+1,i,m+1,last,ts,h,hm,ht=>by
  have hi:i < js.length:=by omega
  rw [Q0u.at6]
  unfold Q0u.r6
  rw [cond_t (by omega),List.length_map,within_t hi,cond_true,at_map JP.av hi,List.drop_eq_getElem_cons hi]
  show ((Q0o.F n js[i].b 1 (IntKind.i64.wrap ((((Ws ws).length:Nat):Int) - 1))).bind fun p16=>(Q0f.F n (!p16) 3).bind fun p17=>(Q0o.F n js[i].fr 0 (IntKind.i64.wrap (js[i].b - 1))).bind fun p18=>
   (Q0f.F n (!p18) 3).bind fun p19=>(Q0r.F n (bs js[i].lf)).bind fun p20=>(Q0f.F n (!p20) 7).bind fun p21=>(Q0r.F n (bs js[i].rt)).bind fun p22=>(Q0f.F n (!p22) 7).bind fun p23=>
   (Q0f.F n (decide (js[i].b < last)) 14).bind fun p24=>(Q0m.F n ([p17,p19,p21,p23,p24].map vi)).bind fun p25=>
   bif p25 != 0 then (some ((i:Int),p25)) else (bif decide ((0:Int)≤js[i].b)&&decide (js[i].b < (((Bl ts).length:Nat):Int)) then
    (Q0u.l n m (.z6 js[i].b (js.map JP.av) js.length (IntKind.i64.wrap ((i:Int)+1)) nm fm (Ws ws) a3 (js.map JP.av) a5 uq a7 ((Bl ts).set ((js[i].b).toNat) (vb true)))) else none))=_
  simp only [Ws_length,din_eq,Option.bind_some,cond_eq,isName_eq hn,first_eq (n:=n) [_,_,_,_,_] (by simp) hn]
  rw [w64 (x:=(ws.length:Int) - 1) (by omega) (by omega),bif_ne]
  rw [jErr_cons]
  have e:fz [(if (!decide (1≤js[i].b∧js[i].b≤(ws.length:Int) - 1))=true then 3 else 0),(if (!decide (0≤js[i].fr∧js[i].fr≤IntKind.i64.wrap (js[i].b - 1)))=true then 3 else 0),(if (!isNm js[i].lf)=true then 7 else 0),(if (!isNm js[i].rt)=true then 7 else 0),(if decide (js[i].b < last)=true then 14 else 0)]=je ((ws.length:Int) - 1) last js[i]:=by
   unfold je
   by_cases h1:1≤js[i].b∧js[i].b≤(ws.length:Int) - 1
   ·rw [w64 (x:=js[i].b - 1) (by omega) (by omega)]
    by_cases h2:0≤js[i].fr∧js[i].fr≤js[i].b - 1
    ·cases h3:isNm js[i].lf
     ·simp [fz,h1,h2]
     ·cases h4:isNm js[i].rt
      ·simp [fz,h1,h2]
      ·simp [fz,h1,h2]
    ·simp [fz,h1,h2]
   ·simp [fz,h1]
  rw [e]
  by_cases h0:je ((ws.length:Int) - 1) last js[i]=0
  ·rw [if_neg (by simp [h0]),if_neg (by simp [h0])]
   have hb:1≤js[i].b∧js[i].b≤(ws.length:Int) - 1:=by
    unfold je at h0
    by_cases h1:1≤js[i].b∧js[i].b≤(ws.length:Int) - 1
    ·exact h1
    ·rw [if_pos h1] at h0; omega
   have e2:(decide ((0:Int)≤js[i].b)&&decide (js[i].b < (((Bl ts).length:Nat):Int)))=true:=by
    rw [Bl_length,Bool.and_eq_true,decide_eq_true_eq,decide_eq_true_eq]; omega
   rw [e2,cond_true,wsucc (by omega),Bl_set]
   exact joins_l hn ws hw js hj d (i+1) m js[i].b (ts.set js[i].b.toNat true) (by omega) (by omega) (by simp [ht])
  ·rw [if_pos h0,if_pos h0]
def jErrT (ws:List (List UInt8)) (js:List JP):Int × Int:=if js.length > 20 then (0,2) else jErr ((ws.length:Int) - 1) js 0 0 (List.replicate ws.length false)
theorem joins_eq (hn:1001≤n) (ws:List (List UInt8)) (hw:1≤ws.length∧ws.length≤1000) (js:List JP) (hj:js.length≤1000):Q0u.F n nm fm (Ws ws) a3 (js.map JP.av) a5 uq a7=some (jErrT ws js):=by
 unfold Q0u.F Q0u.e jErrT
 simp only [List.length_map,Ws_length]
 by_cases h:js.length > 20
 ·rw [cond_t (by omega),if_pos h]
 ·rw [cond_f (by omega),if_neg h,cond_yes (by have:most=1000000000:=rfl; simp [this]; omega),Int.toNat_natCast]
  have e:List.replicate ws.length (vb false)=Bl (List.replicate ws.length false):=by simp [Bl]
  rw [e]
  have:=joins_l (nm:=nm) (fm:=fm) (a3:=a3) (a5:=a5) (uq:=uq) (a7:=a7) hn ws hw js hj js.length 0 n 0 (List.replicate ws.length false) (by omega) (by omega) (by simp)
  rw [List.drop_zero] at this
  exact this
theorem keys_l (hn:1001≤n) (ns:List (List UInt8)) (hs:ns.length≤1000) (ks:List KF) (hk:ks.length≤1000):∀ (d i m:Nat),i+d=ks.length→d < m→
  Q0w.l n m (.z5 (Ws ns) (ks.map KF.av) ks.length i (Ws ((knames ks).take i)))=some (kErr ns (knames ks) (ks.drop i) i)
 | _,_,0,_,h=>absurd h (by omega)
 | 0,i,m+1,h,_=>by
  rw [Q0w.at5]
  unfold Q0w.r5
  rw [cond_f (by omega),List.drop_of_length_le (by omega)]
  rfl
 | d+1,i,m+1,h,hm=>by
  have hi:i < ks.length:=by omega
  have hni:(knames ks).length=ks.length:=by simp [knames]
  have hni' : i < (knames ks).length:=by omega
  have hmost:most=1000000000:=rfl
  have e2:(knames ks)[i]=ks[i].nm:=by simp [knames]
  have ih:=keys_l hn ns hs ks hk d (i+1) m (by omega) (by omega)
  rw [Q0w.at5]
  unfold Q0w.r5
  rw [cond_t (by omega),List.length_map,within_t hi,cond_true,at_map KF.av hi,List.drop_eq_getElem_cons hi]
  show ((Q48.F n (Ws ns) (bs ks[i].nm)).bind fun p8=>(Q0f.F n (!p8) 11).bind fun p9=>(Q48.F n (Ws ((knames ks).take i)) (bs ks[i].nm)).bind fun p10=>(Q0f.F n p10 13).bind fun p11=>
   (Q0m.F n [vi p9,vi p11]).bind fun p12=>bif p12 != 0 then (some ((i:Int),p12)) else (bif decide ((Ws ((knames ks).take i)).length+1≤most) then
    (Q0w.l n m (.z5 (Ws ns) (ks.map KF.av) ks.length (IntKind.i64.wrap ((i:Int)+1)) (Ws ((knames ks).take i)++[vs (bs ks[i].nm)]))) else none))=_
  rw [contains_str hn ns hs,Option.bind_some,cond_eq,Option.bind_some,contains_str hn _ (by rw [List.length_take]; omega),Option.bind_some,cond_eq,Option.bind_some,first2 hn,Option.bind_some,bif_ne,
   cond_t (by rw [Ws_length,List.length_take]; omega),wsucc (by omega),Ws_snoc,← e2,← List.take_succ_eq_append_getElem hni',ih]
  rw [kErr_cons]
  have e:(if (if (!ns.contains (knames ks)[i])=true then (11:Int) else 0)≠0 then (if (!ns.contains (knames ks)[i])=true then (11:Int) else 0) else (if ((knames ks).take i).contains (knames ks)[i]=true then 13 else 0))=ke ns ((knames ks).take i) ks[i]:=by
   unfold ke
   rw [e2]
   cases ns.contains ks[i].nm <;> cases ((knames ks).take i).contains ks[i].nm <;> rfl
  rw [e,some_ite]
def kErrT (ns:List (List UInt8)) (ks:List KF):Int × Int:=if ks.length > 4 then (0,2) else kErr ns (knames ks) ks 0
theorem keysErr_eq (hn:1001≤n) (ns:List (List UInt8)) (hs:ns.length≤1000) (ks:List KF) (hk:ks.length≤1000):Q0w.F n (ks.map KF.av) (Ws ns)=some (kErrT ns ks):=by
 unfold Q0w.F Q0w.e kErrT
 simp only [List.length_map]
 by_cases h:ks.length > 4
 ·rw [cond_t (by omega),if_pos h]
 ·rw [cond_f (by omega),if_neg h]
  have:=keys_l hn ns hs ks hk ks.length 0 n (by omega) (by omega)
  rw [List.drop_zero] at this
  exact this
theorem condErr_eq (hn:1001≤n) (ns:List (List UInt8)) (hs:ns.length≤1000) (c:CN):Q0g.F n (bs c.fd) c.op c.n (bs c.s) (Ws ns)=some (ce ns c):=by
 unfold Q0g.F Q0g.e
 simp only [contains_str hn ns hs,Option.bind_some,cond_eq,din_eq,bs_size,empty_eq]
 have e5:∀ a b c d e:Int,Q0m.F n [vi a,vi b,vi c,vi d,vi e]=some (fz [a,b,c,d,e]):=fun a b c d e=>first_eq [a,b,c,d,e] (by simp) hn
 simp only [e5,Option.bind_some]
 rw [bif_ne]
 unfold ce
 have hsz:decide (((c.s.length:Nat):Int) > 256)=decide (c.s.length > 256):=by rw [decide_eq_decide]; omega
 rw [hsz]
 cases h1:ns.contains c.fd
 ·by_cases h0:c.n=0 <;> simp [fz,h0]
 ·by_cases h2:0≤c.op∧c.op≤5
  ·by_cases h3 : -999999999999999≤c.n∧c.n≤999999999999999
   ·by_cases h4:c.s.length > 256
    ·by_cases h0:c.n=0 <;> simp [fz,h0,h2,h3,h4]
    ·by_cases h0:c.n=0 <;> by_cases h5:c.s=[] <;> simp [fz,h0,h2,h3,h4,h5]
   ·by_cases h0:c.n=0 <;> simp [fz,h0,h2,h3]
  ·by_cases h0:c.n=0 <;> simp [fz,h0,h2]
theorem rules_l (hn:1001≤n) (ns:List (List UInt8)) (hs:ns.length≤1000) (rs:List RL) (hr:rs.length≤1000):∀ (d i m:Nat),i+d=rs.length→10*d+1≤m→
  Q16.l n m (.z5 (rs.map RL.av) rs.length i (Ws ns))=some (rErr ns (rs.drop i) i)
 | 0,i,m,h,hm=>by
  obtain ⟨m,rfl⟩ : ∃ q,m=q+1:=⟨m - 1,by omega⟩
  rw [Q16.at5]
  unfold Q16.r5
  rw [cond_f (by omega),List.drop_of_length_le (by omega)]
  rfl
 | d+1,i,m,h,hm=>by
  obtain ⟨m,rfl⟩ : ∃ q,m=q+1:=⟨m - 1,by omega⟩
  have hi:i < rs.length:=by omega
  -- the conditions of a rule
  have inner:∀ (e j q:Nat),rs[i].cs.length≤4→j+e=rs[i].cs.length→10*d+2+e≤q→
    Q16.l n q (.z10 i (rs.map RL.av) rs.length i (rs[i].cs.map CN.av) rs[i].cs.length j (Ws ns))=some (if cErr ns (rs[i].cs.drop j)≠0 then ((i:Int),cErr ns (rs[i].cs.drop j)) else rErr ns (rs.drop (i+1)) (i+1)):=by
   intro e
   induction e with
   | zero=>
    intro j q h4 hj hq
    obtain ⟨q,rfl⟩ : ∃ r,q=r+1:=⟨q - 1,by omega⟩
    rw [Q16.at10]
    unfold Q16.r10
    rw [cond_f (by omega),wsucc (by omega),rules_l hn ns hs rs hr d (i+1) q (by omega) (by omega),List.drop_of_length_le (show rs[i].cs.length≤j by omega)]
    rfl
   | succ e ih=>
    intro j q h4 hj hq
    obtain ⟨q,rfl⟩ : ∃ r,q=r+1:=⟨q - 1,by omega⟩
    have hjl:j < rs[i].cs.length:=by omega
    have ih':=ih (j+1) q h4 (by omega) (by omega)
    rw [Q16.at10]
    unfold Q16.r10
    rw [cond_t (by omega),List.length_map,within_t hjl,cond_true,at_map CN.av hjl,List.drop_eq_getElem_cons hjl]
    show ((Q0g.F n (bs rs[i].cs[j].fd) rs[i].cs[j].op rs[i].cs[j].n (bs rs[i].cs[j].s) (Ws ns)).bind fun p22=>bif p22 != 0 then (some ((i:Int),p22)) else
     Q16.l n q (.z10 i (rs.map RL.av) rs.length i (rs[i].cs.map CN.av) rs[i].cs.length (IntKind.i64.wrap ((j:Int)+1)) (Ws ns)))=_
    rw [condErr_eq hn ns hs,Option.bind_some,bif_ne,wsucc (by omega),ih']
    rw [cErr_cons]
    by_cases h0:ce ns rs[i].cs[j]=0
    ·simp only [h0,ne_eq,not_true_eq_false,if_false]
    ·simp only [h0,ne_eq,not_false_eq_true,if_true]
  rw [Q16.at5]
  unfold Q16.r5
  rw [cond_t (by omega),List.length_map,within_t hi,cond_true,at_map RL.av hi,List.drop_eq_getElem_cons hi]
  show (bif decide ((((rs[i].cs.map CN.av).length:Nat):Int) > 4) then (some ((i:Int),2)) else Q16.l n m (.z10 i (rs.map RL.av) rs.length i (rs[i].cs.map CN.av) (((rs[i].cs.map CN.av).length:Nat):Int) 0 (Ws ns)))=_
  rw [List.length_map]
  rw [rErr_cons]
  unfold re
  by_cases h4:rs[i].cs.length > 4
  ·rw [cond_t (by omega),if_pos h4,if_pos (by decide)]
  ·rw [cond_f (by omega),if_neg h4]
   have:=inner rs[i].cs.length 0 m (by omega) (by omega) (by omega)
   rw [List.drop_zero] at this
   exact this
def rErrT (ns:List (List UInt8)) (rs:List RL):Int × Int:=if rs.length > 8 then (0,2) else rErr ns rs 0
theorem rulesErr_eq (hn:20001≤n) (fs:List LF) (hf:fs.length≤1000) (rs:List RL) (hr:rs.length≤1000) {a2:List AV}:Q16.F n nm fm a2 (fs.map LF.av) a4 a5 uq (rs.map RL.av)=some (rErrT (names fs) rs):=by
 unfold Q16.F Q16.e rErrT
 simp only [List.length_map]
 by_cases h:rs.length > 8
 ·rw [cond_t (by omega),if_pos h]
 ·rw [cond_f (by omega),if_neg h,namesOf_eq (by omega) fs hf,Option.bind_some]
  have:=rules_l (n:=n) (by omega) (names fs) (by simp [names]; omega) rs hr rs.length 0 n (by omega) (by omega)
  rw [List.drop_zero] at this
  exact this
def chkL (nm fm:List UInt8) (ws:List (List UInt8)) (fs:List LF) (js:List JP) (ks:List KF) (uq:Bool) (rs:List RL):Int × Int:=
 if isNm nm=false then (0,7) else if isNm fm=false then (0,7)
 else if (bErrT ws).2≠0 then bErrT ws
 else if (fErrT ws fs).2≠0 then fErrT ws fs
 else if (jErrT ws js).2≠0 then jErrT ws js
 else if (kErrT (names fs) ks).2≠0 then kErrT (names fs) ks
 else if (rErrT (names fs) rs).2≠0 then rErrT (names fs) rs
 else (0,if ws.length > 1∧(rs.length > 0∨uq=true) then 15 else 0)
theorem checkLogical_eq (hn:20010≤n) (nm fm:List UInt8) (ws:List (List UInt8)) (hw:ws.length≤1000) (fs:List LF) (hf:fs.length≤1000) (js:List JP) (hj:js.length≤1000) (ks:List KF) (hk:ks.length≤1000) (uq:Bool) (rs:List RL) (hr:rs.length≤1000) :
  Q04.F n (bs nm) (bs fm) (Ws ws) (fs.map LF.av) (js.map JP.av) (ks.map KF.av) uq (rs.map RL.av)=some (chkL nm fm ws fs js ks uq rs):=by
 have hnl:(names fs).length≤1000:=by simp [names]; omega
 -- behind a part
 have h7:∀ (m:Nat) (p:Int × Int) (i:Nat),i≤5→Q04.l n (m+1) (.z7 p.1 p.2 5 i (bs nm) (bs fm) (Ws ws) (fs.map LF.av) (js.map JP.av) (ks.map KF.av) uq (rs.map RL.av)) =
   if p.2≠0 then some p else Q04.l n m (.z4 5 ((i+1:Nat):Int) (bs nm) (bs fm) (Ws ws) (fs.map LF.av) (js.map JP.av) (ks.map KF.av) uq (rs.map RL.av)):=by
  intro m p i hi
  rw [Q04.at7]
  unfold Q04.r7
  rw [bif_ne,wsucc (by omega)]
 have h5:∀ m,Q04.l n (m+1) (.z4 5 ((5:Nat):Int) (bs nm) (bs fm) (Ws ws) (fs.map LF.av) (js.map JP.av) (ks.map KF.av) uq (rs.map RL.av))=some (0,if ws.length > 1∧(rs.length > 0∨uq=true) then 15 else 0):=by
  intro m
  rw [Q04.at4]
  unfold Q04.r4
  simp only [Ws_length,List.length_map,cond_eq,Option.bind_some]
  rw [cond_f (by omega)]
  by_cases h1:ws.length > 1
  ·rw [cond_t (by omega)]
   by_cases h2:rs.length > 0
   ·rw [cond_t (by omega)]; simp [h1,h2]
   ·rw [cond_f (by omega)]; simp [h1,h2]
  ·rw [cond_f (by omega)]; simp [h1]
 have h4:∀ m,Q04.l n (m+4) (.z4 5 ((4:Nat):Int) (bs nm) (bs fm) (Ws ws) (fs.map LF.av) (js.map JP.av) (ks.map KF.av) uq (rs.map RL.av))=if (rErrT (names fs) rs).2≠0 then some (rErrT (names fs) rs) else some (0,if ws.length > 1∧(rs.length > 0∨uq=true) then 15 else 0):=by
  intro m
  rw [Q04.at4]
  unfold Q04.r4
  rw [cond_t (by omega),cond_t (by omega),Q04.at6]
  unfold Q04.r6
  rw [rulesErr_eq (by omega) fs hf rs hr,Option.bind_some,h7 _ _ 4 (by omega),h5]
 have h3:∀ m,Q04.l n (m+7) (.z4 5 ((3:Nat):Int) (bs nm) (bs fm) (Ws ws) (fs.map LF.av) (js.map JP.av) (ks.map KF.av) uq (rs.map RL.av))=if (kErrT (names fs) ks).2≠0 then some (kErrT (names fs) ks) else
   if (rErrT (names fs) rs).2≠0 then some (rErrT (names fs) rs) else some (0,if ws.length > 1∧(rs.length > 0∨uq=true) then 15 else 0):=by
  intro m
  rw [Q04.at4]
  unfold Q04.r4
  rw [cond_t (by omega),cond_f (by omega),cond_t (by omega),Q04.at6x1]
  unfold Q04.r6x1 Q05.F Q05.e
  rw [namesOf_eq (by omega) fs hf,Option.bind_some,keysErr_eq (by omega) _ hnl ks hk,Option.bind_some,Option.bind_some,h7 _ _ 3 (by omega),h4]
 have h2:1≤ws.length→∀ m,Q04.l n (m+10) (.z4 5 ((2:Nat):Int) (bs nm) (bs fm) (Ws ws) (fs.map LF.av) (js.map JP.av) (ks.map KF.av) uq (rs.map RL.av))=if (jErrT ws js).2≠0 then some (jErrT ws js) else
   if (kErrT (names fs) ks).2≠0 then some (kErrT (names fs) ks) else if (rErrT (names fs) rs).2≠0 then some (rErrT (names fs) rs) else some (0,if ws.length > 1∧(rs.length > 0∨uq=true) then 15 else 0):=by
  intro h1 m
  rw [Q04.at4]
  unfold Q04.r4
  rw [cond_t (by omega),cond_f (by omega),cond_f (by omega),cond_t (by omega),Q04.at6x2]
  unfold Q04.r6x2
  rw [joins_eq (by omega) ws ⟨h1,hw⟩ js hj,Option.bind_some,h7 _ _ 2 (by omega),h3]
 have h1:1≤ws.length→∀ m,Q04.l n (m+13) (.z4 5 ((1:Nat):Int) (bs nm) (bs fm) (Ws ws) (fs.map LF.av) (js.map JP.av) (ks.map KF.av) uq (rs.map RL.av))=if (fErrT ws fs).2≠0 then some (fErrT ws fs) else if (jErrT ws js).2≠0 then some (jErrT ws js) else
   if (kErrT (names fs) ks).2≠0 then some (kErrT (names fs) ks) else if (rErrT (names fs) rs).2≠0 then some (rErrT (names fs) rs) else some (0,if ws.length > 1∧(rs.length > 0∨uq=true) then 15 else 0):=by
  intro h1 m
  rw [Q04.at4]
  unfold Q04.r4
  rw [cond_t (by omega),cond_f (by omega),cond_f (by omega),cond_f (by omega),cond_t (by omega),Q04.at6x3]
  unfold Q04.r6x3
  rw [fieldsErr_eq (by omega) ws hw fs hf,Option.bind_some,h7 _ _ 1 (by omega),h2 h1]
 unfold Q04.F Q04.e chkL
 rw [isName_eq (by omega),Option.bind_some,isName_eq (by omega),Option.bind_some]
 cases hnm:isNm nm with
 | false=>rfl
 | true=>
  cases hfm:isNm fm with
  | false=>rfl
  | true=>
   simp only [Bool.not_true,cond_false,Bool.true_eq_false,if_false]
   obtain ⟨m,rfl⟩ : ∃ m,n=m+16:=⟨n - 16,by omega⟩
   rw [show (0:Int)=((0:Nat):Int) from rfl,Q04.at4]
   unfold Q04.r4
   rw [cond_t (by omega),cond_f (by omega),cond_f (by omega),cond_f (by omega),cond_f (by omega),cond_t (by omega),Q04.at6x4]
   unfold Q04.r6x4
   rw [basesErr_eq (by omega) ws hw,Option.bind_some,h7 _ _ 0 (by omega)]
   by_cases hb:(bErrT ws).2=0
   ·have hlen:1≤ws.length:=by
     unfold bErrT at hb
     by_cases h0:ws.length=0
     ·rw [if_pos h0] at hb; cases hb
     ·omega
    rw [if_neg (by simp [hb]),if_neg (by simp [hb]),h1 hlen]
    simp only [some_ite,if_false]
    rfl
   ·rw [if_pos hb]
    show _=some (if (bErrT ws).2≠0 then _ else _)
    rw [if_pos hb]
end
end Go.Proofs.YtmpglmcjoelciaaGreatDoor.Ev
namespace Go.Proofs.YtmpglmcjoelciaaGreatDoor.Ev
open Go Go.Proofs Go.Proofs.Ev
set_option linter.unusedVariables false
section
variable {n:Nat} {nm fm:ByteArray} {a2 a3 a4 a5 a7:List AV} {uq:Bool}
theorem fieldOf_l (fs:List LF) (hf:fs.length≤1000) (s:List UInt8):∀ (d i m:Nat),i+d=fs.length→d < m→Q2u.l n m (.z2 (bs s) i nm fm a2 (fs.map LF.av) a4 a5 uq a7)=some (ixs ((names fs).drop i) s i)
 | _,_,0,_,h=>absurd h (by omega)
 | 0,i,m+1,h,_=>by
  rw [Q2u.at2]
  unfold Q2u.r2
  simp only [List.length_map]
  rw [cond_f (by omega),List.drop_of_length_le (by simp [names]; omega)]
  rfl
 | d+1,i,m+1,h,hm=>by
  have hi:i < fs.length:=by omega
  have hni:i < (names fs).length:=by simp [names]; omega
  have e2:(names fs)[i]=fs[i].nm:=by simp [names]
  have ih:=fieldOf_l fs hf s d (i+1) m (by omega) (by omega)
  rw [Q2u.at2]
  unfold Q2u.r2
  simp only [List.length_map]
  rw [cond_t (by omega),within_t hi,cond_true,at_map LF.av hi,List.drop_eq_getElem_cons hni]
  show (bif ((bs fs[i].nm).toList==(bs s).toList) then _ else _)=_
  rw [str_eq,wsucc (by omega),ih,ixs_cons,e2]
  by_cases h:fs[i].nm=s
  ·rw [cond_t h,if_pos h]
  ·rw [cond_f h,if_neg h]
theorem fieldOf_eq (hn:1001≤n) (fs:List LF) (hf:fs.length≤1000) (s:List UInt8):Q2u.F n nm fm a2 (fs.map LF.av) a4 a5 uq a7 (bs s)=some (ixs (names fs) s 0):=by
 unfold Q2u.F Q2u.e
 have:=fieldOf_l (n:=n) (nm:=nm) (fm:=fm) (a2:=a2) (a4:=a4) (a5:=a5) (uq:=uq) (a7:=a7) fs hf s fs.length 0 n (by omega) (by omega)
 rw [List.drop_zero] at this
 exact this
theorem ixs_ge:∀ (ws:List (List UInt8)) (s:List UInt8) (i:Nat),-1≤ixs ws s i
 | [],_,_=>by simp [ixs]
 | w::r,s,i=>by
  unfold ixs
  split
  ·omega
  ·exact ixs_ge r s (i+1)
theorem ixs_none (ws:List (List UInt8)) (s:List UInt8):(ixs ws s 0==-1)=!ws.contains s:=by
 have h1:=ixs_has ws s 0
 have h2:=ixs_ge ws s 0
 rw [← h1,beq_int]
 by_cases h:ixs ws s 0≥0
 ·have:¬ ixs ws s 0=-1:=by omega
  simp [h,this]
 ·have:ixs ws s 0=-1:=by omega
  simp [this]
theorem ruleErr_l (hn:1001≤n) (fs:List LF) (hf:fs.length≤1000) (om:Bool) (cs:List CN) (hc:cs.length≤1000):∀ (d i m:Nat),i+d=cs.length→d < m→
  Q3k.l n m (.z4 i nm fm a2 (fs.map LF.av) a4 a5 uq a7 om (cs.map CN.av))=some (cErr (names fs) (cs.drop i))
 | _,_,0,_,h=>absurd h (by omega)
 | 0,i,m+1,h,_=>by
  rw [Q3k.at4]
  unfold Q3k.r4
  simp only [List.length_map]
  rw [cond_f (by omega),List.drop_of_length_le (by omega)]
  rfl
 | d+1,i,m+1,h,hm=>by
  have hi:i < cs.length:=by omega
  have ih:=ruleErr_l hn fs hf om cs hc d (i+1) m (by omega) (by omega)
  rw [Q3k.at4]
  unfold Q3k.r4
  simp only [List.length_map]
  rw [cond_t (by omega),within_t hi,cond_true,at_map CN.av hi,List.drop_eq_getElem_cons hi]
  show ((Q2u.F n nm fm a2 (fs.map LF.av) a4 a5 uq a7 (bs cs[i].fd)).bind fun p15=>bif p15==(-1) then (some 11) else ((Q1z.F n cs[i].op 0 5).bind fun p16=>bif !p16 then (some 4) else
   ((Q1z.F n cs[i].n (-999999999999999) 999999999999999).bind fun p17=>bif !p17 then (some 3) else (bif decide ((((bs cs[i].s).size:Nat):Int) > 256) then (some 2) else
   (bif cs[i].n != 0 then (bif !((bs cs[i].s).toList==(⟨#[]⟩ : ByteArray).toList) then (some 5) else (Q3k.l n m (.z4 (IntKind.i64.wrap ((i:Int)+1)) nm fm a2 (fs.map LF.av) a4 a5 uq a7 om (cs.map CN.av)))) else
    (Q3k.l n m (.z4 (IntKind.i64.wrap ((i:Int)+1)) nm fm a2 (fs.map LF.av) a4 a5 uq a7 om (cs.map CN.av))))))))=_
  rw [fieldOf_eq hn fs hf,Option.bind_some,ixs_none,Within_eq,Option.bind_some,Within_eq,Option.bind_some,bs_size,empty_eq,wsucc (by omega),ih]
  rw [cErr_cons]
  unfold ce
  cases h1:(names fs).contains cs[i].fd
  ·simp
  ·by_cases h2:0≤cs[i].op∧cs[i].op≤5
   ·by_cases h3 : -999999999999999≤cs[i].n∧cs[i].n≤999999999999999
    ·by_cases h4:cs[i].s.length > 256
     ·have:decide (((cs[i].s.length:Nat):Int) > 256)=true:=by rw [decide_eq_true_eq]; omega
      simp [h2,h3,h4,this]
     ·have:decide (((cs[i].s.length:Nat):Int) > 256)=false:=by rw [decide_eq_false_iff_not]; omega
      rw [this]
      rw [bif_ne]
      by_cases h0:cs[i].n=0 <;> by_cases h5:cs[i].s=[] <;> simp [h0,h2,h3,h4,h5]
    ·simp [h2,h3]
   ·simp [h2]
theorem ruleErr_eq (hn:1001≤n) (fs:List LF) (hf:fs.length≤1000) (r:RL) (hc:r.cs.length≤1000):Q3k.F n nm fm a2 (fs.map LF.av) a4 a5 uq a7 r.om (r.cs.map CN.av)=some (re (names fs) r):=by
 unfold Q3k.F Q3k.e re
 simp only [List.length_map]
 by_cases h:r.cs.length > 4
 ·rw [cond_t (by omega),if_pos h]
 ·rw [cond_f (by omega),if_neg h]
  have:=ruleErr_l (n:=n) (nm:=nm) (fm:=fm) (a2:=a2) (a4:=a4) (a5:=a5) (uq:=uq) (a7:=a7) hn fs hf r.om r.cs hc r.cs.length 0 n (by omega) (by omega)
  rw [List.drop_zero] at this
  exact this
theorem joinsC_l (ts:List Bool) (ht:ts.length≤1000):∀ (d i m:Nat),i+d=ts.length→d < m→Q3f.l n m (.z18 i (Bl ts))=some (0,if (ts.drop i).contains false then 11 else 0)
 | _,_,0,_,h=>absurd h (by omega)
 | 0,i,m+1,h,_=>by
  rw [Q3f.at18]
  unfold Q3f.r18
  simp only [Bl_length]
  rw [cond_f (by omega),List.drop_of_length_le (by omega)]
  rfl
 | d+1,i,m+1,h,hm=>by
  have hi:i < ts.length:=by omega
  have ih:=joinsC_l ts ht d (i+1) m (by omega) (by omega)
  rw [Q3f.at18]
  unfold Q3f.r18
  simp only [Bl_length]
  rw [cond_t (by omega),within_t hi,cond_true,Bl_getD hi,List.drop_eq_getElem_cons hi,List.contains_cons]
  show (bif !ts[i] then some (0,11) else Q3f.l n m (.z18 (IntKind.i64.wrap ((i:Int)+1)) (Bl ts)))=_
  rw [wsucc (by omega),ih]
  cases ts[i] <;> simp
theorem joinsR_l (hn:1001≤n) (ws:List (List UInt8)) (hw:1≤ws.length∧ws.length≤1000) (js:List JP) (hj:js.length≤1000):∀ (d i m:Nat) (last:Int) (ts:List Bool),i+d=js.length→d+1001 < m→ts.length=ws.length→
  ((i=0∧last=0)∨∃ h:i - 1 < js.length,0 < i∧last=js[i - 1].b)→
  Q3f.l n m (.z5 i nm fm (Ws ws) a3 (js.map JP.av) a5 uq a7 (Bl ts))=some (jErr ((ws.length:Int) - 1) (js.drop i) i last ts)
 | _,_,0,_,_,_,h,_,_=>absurd h (by omega)
 | 0,i,m+1,last,ts,h,hm,ht,hl=>by
  rw [Q3f.at5]
  unfold Q3f.r5
  simp only [List.length_map]
  rw [cond_f (by omega),List.drop_of_length_le (by omega)]
  exact joinsC_l ts (by omega) (ts.length - 1) 1 m (by omega) (by omega)
 | d+1,i,m+1,last,ts,h,hm,ht,hl=>by
  have hi:i < js.length:=by omega
  rw [Q3f.at5]
  unfold Q3f.r5
  simp only [List.length_map]
  rw [cond_t (by omega),within_t hi,cond_true,at_map JP.av hi,List.drop_eq_getElem_cons hi]
  show ((Q1z.F n js[i].b 1 (IntKind.i64.wrap ((((Ws ws).length:Nat):Int) - 1))).bind fun p17=>bif !p17 then (some ((i:Int),3)) else ((Q1z.F n js[i].fr 0 (IntKind.i64.wrap (js[i].b - 1))).bind fun p18=>
   bif !p18 then (some ((i:Int),3)) else ((Q1t.F n (bs js[i].lf)).bind fun p19=>bif !p19 then (some ((i:Int),7)) else ((Q1t.F n (bs js[i].rt)).bind fun p20=>bif !p20 then (some ((i:Int),7)) else
   (bif decide ((i:Int) > 0) then (bif decide ((0:Int)≤IntKind.i64.wrap ((i:Int) - 1))&&decide (IntKind.i64.wrap ((i:Int) - 1) < ((js.length:Nat):Int)) then (withCons ((((js.map JP.av).getD ((IntKind.i64.wrap ((i:Int) - 1)).toNat) .undef).cells).drop 2) fun h21 r22=>
    withInt .i64 h21 fun x23=>bif decide (js[i].b < x23) then (some ((i:Int),14)) else (bif decide ((0:Int)≤js[i].b)&&decide (js[i].b < (((Bl ts).length:Nat):Int)) then
     (Q3f.l n m (.z5 (IntKind.i64.wrap ((i:Int)+1)) nm fm (Ws ws) a3 (js.map JP.av) a5 uq a7 ((Bl ts).set ((js[i].b).toNat) (vb true)))) else none)) else none)
   else (bif decide ((0:Int)≤js[i].b)&&decide (js[i].b < (((Bl ts).length:Nat):Int)) then
     (Q3f.l n m (.z5 (IntKind.i64.wrap ((i:Int)+1)) nm fm (Ws ws) a3 (js.map JP.av) a5 uq a7 ((Bl ts).set ((js[i].b).toNat) (vb true)))) else none))))))=_
  rw [Ws_length,Within_eq,Option.bind_some,Within_eq,Option.bind_some,isNameR_eq hn,Option.bind_some,isNameR_eq hn,Option.bind_some,w64 (x:=(ws.length:Int) - 1) (by omega) (by omega),wsucc (by omega),Bl_set]
  rw [jErr_cons]
  unfold je
  by_cases h1:1≤js[i].b∧js[i].b≤(ws.length:Int) - 1
  ·rw [w64 (x:=js[i].b - 1) (by omega) (by omega)]
   have e2:(decide ((0:Int)≤js[i].b)&&decide (js[i].b < (((Bl ts).length:Nat):Int)))=true:=by
    rw [Bl_length,Bool.and_eq_true,decide_eq_true_eq,decide_eq_true_eq]; omega
   have ih:=joinsR_l hn ws hw js hj d (i+1) m js[i].b (ts.set js[i].b.toNat true) (by omega) (by omega) (by simp [ht]) (.inr ⟨by simpa using hi,by omega,by simp⟩)
   by_cases h2:0≤js[i].fr∧js[i].fr≤js[i].b - 1
   ·cases h3:isNm js[i].lf
    ·simp [h1,h2]
    ·cases h4:isNm js[i].rt
     ·simp [h1,h2]
     ·rw [e2,cond_true,ih]
      rcases hl with ⟨h0,hl0⟩ | ⟨hlt,h0,hl0⟩
      ·subst h0 hl0
       have:¬ js[0].b < 0:=by omega
       simp [h1,h2,this]
      ·have e3:IntKind.i64.wrap ((i:Int) - 1)=((i - 1:Nat):Int):=by rw [w64] <;> omega
       have hg:decide ((i:Int) > 0)=true:=by rw [decide_eq_true_eq]; omega
       rw [e3,within_t hlt,cond_true,at_map JP.av hlt,hg,cond_true]
       simp only [h1,h2,and_self,decide_true,Bool.not_true,cond_false,not_true_eq_false,if_false,Bool.true_eq_false]
       show (bif decide (js[i].b < js[i - 1].b) then some ((i:Int),(14:Int)) else _)=_
       rw [← hl0]
       by_cases h5:js[i].b < last
       ·rw [cond_t h5,if_pos h5]; simp
       ·rw [cond_f h5,if_neg h5]; simp
   ·simp [h1,h2]
  ·simp [h1]
theorem joinsR_eq (hn:3001≤n) (ws:List (List UInt8)) (hw:1≤ws.length∧ws.length≤1000) (js:List JP) (hj:js.length≤1000):Q3f.F n nm fm (Ws ws) a3 (js.map JP.av) a5 uq a7=some (jErrT ws js):=by
 unfold Q3f.F Q3f.e jErrT
 simp only [List.length_map,Ws_length]
 by_cases h:js.length > 20
 ·rw [cond_t (by omega),if_pos h]
 ·rw [cond_f (by omega),if_neg h,cond_yes (by have:most=1000000000:=rfl; simp [this]; omega),Int.toNat_natCast]
  have e:List.replicate ws.length (vb false)=Bl (List.replicate ws.length false):=by simp [Bl]
  rw [e]
  have:=joinsR_l (nm:=nm) (fm:=fm) (a3:=a3) (a5:=a5) (uq:=uq) (a7:=a7) (n:=n) (by omega) ws hw js hj js.length 0 n 0 (List.replicate ws.length false) (by omega) (by omega) (by simp) (.inl ⟨rfl,rfl⟩)
  rw [List.drop_zero] at this
  exact this
end
section
variable {n:Nat} {nm fm:ByteArray} {ws:List (List UInt8)} {fs:List LF} {js:List JP} {ks:List KF} {uq:Bool} {rs:List RL}
def tailR (ws:List (List UInt8)) (fs:List LF) (uq:Bool) (rs:List RL) (i:Nat):Int × Int:=
 if (rErr (names fs) (rs.drop i) i).2≠0 then rErr (names fs) (rs.drop i) i else (0,if ws.length > 1∧(rs.length > 0∨uq=true) then 15 else 0)
theorem checkR48 (hn:1001≤n) (hf:fs.length≤1000) (hr:rs.length≤1000) (hc:∀ r∈rs,r.cs.length≤1000):∀ (d i m:Nat),i+d=rs.length→d < m→
  Q2s.l n m (.z48 i nm fm (Ws ws) (fs.map LF.av) (js.map JP.av) (ks.map KF.av) uq (rs.map RL.av))=some (tailR ws fs uq rs i)
 | _,_,0,_,h=>absurd h (by omega)
 | 0,i,m+1,h,_=>by
  rw [Q2s.at48]
  unfold Q2s.r48 tailR
  simp only [List.length_map,Ws_length]
  rw [cond_f (by omega),List.drop_of_length_le (by omega)]
  show _=some (if (0:Int)≠0 then _ else _)
  rw [if_neg (by simp)]
  by_cases h1:ws.length > 1
  ·rw [cond_t (by omega)]
   by_cases h2:rs.length > 0
   ·rw [cond_t (by omega)]; simp [h1,h2]
   ·rw [cond_f (by omega)]; cases uq <;> simp [h1,h2]
  ·rw [cond_f (by omega)]; simp [h1]
 | d+1,i,m+1,h,hm=>by
  have hi:i < rs.length:=by omega
  have ih:=checkR48 hn hf hr hc d (i+1) m (by omega) (by omega)
  rw [Q2s.at48]
  unfold Q2s.r48
  simp only [List.length_map]
  rw [cond_t (by omega),within_t hi,cond_true,at_map RL.av hi]
  show ((Q3k.F n nm fm (Ws ws) (fs.map LF.av) (js.map JP.av) (ks.map KF.av) uq (rs.map RL.av) rs[i].om (rs[i].cs.map CN.av)).bind fun p52=>bif p52 != 0 then (some ((i:Int),p52)) else
   Q2s.l n m (.z48 (IntKind.i64.wrap ((i:Int)+1)) nm fm (Ws ws) (fs.map LF.av) (js.map JP.av) (ks.map KF.av) uq (rs.map RL.av)))=_
  rw [ruleErr_eq hn fs hf rs[i] (hc _ (List.getElem_mem _)),Option.bind_some,bif_ne,wsucc (by omega),ih]
  unfold tailR
  rw [List.drop_eq_getElem_cons hi]
  rw [rErr_cons]
  by_cases h0:re (names fs) rs[i]=0
  ·simp only [h0,ne_eq,not_true_eq_false,if_false]
  ·simp only [h0,ne_eq,not_false_eq_true,if_true]
def tailK (ws:List (List UInt8)) (fs:List LF) (ks:List KF) (uq:Bool) (rs:List RL) (i:Nat):Int × Int:=
 if (kErr (names fs) (knames ks) (ks.drop i) i).2≠0 then kErr (names fs) (knames ks) (ks.drop i) i else if rs.length > 8 then (0,2) else tailR ws fs uq rs 0
theorem checkR36 (hn:1001≤n) (hf:fs.length≤1000) (hk:ks.length≤1000) (hr:rs.length≤1000) (hc:∀ r∈rs,r.cs.length≤1000):∀ (d i m:Nat),i+d=ks.length→1010*d+1002≤m→
  Q2s.l n m (.z36 i nm fm (Ws ws) (fs.map LF.av) (js.map JP.av) (ks.map KF.av) uq (rs.map RL.av))=some (tailK ws fs ks uq rs i)
 | 0,i,m,h,hm=>by
  obtain ⟨m,rfl⟩ : ∃ q,m=q+1:=⟨m - 1,by omega⟩
  rw [Q2s.at36]
  unfold Q2s.r36 tailK
  simp only [List.length_map]
  rw [cond_f (by omega),List.drop_of_length_le (by omega)]
  show _=some (if (0:Int)≠0 then _ else _)
  rw [if_neg (by simp)]
  by_cases h8:rs.length > 8
  ·rw [cond_t (by omega),if_pos h8]
  ·rw [cond_f (by omega),if_neg h8]
   exact checkR48 hn hf hr hc rs.length 0 m (by omega) (by omega)
 | d+1,i,m,h,hm=>by
  obtain ⟨m,rfl⟩ : ∃ q,m=q+1:=⟨m - 1,by omega⟩
  have hi:i < ks.length:=by omega
  have hkl:(knames ks).length=ks.length:=by simp [knames]
  -- whether it stood before
  have inner:∀ (e j q:Nat),j+e=i→1010*d+1003+e≤q→Q2s.l n q (.z41 i j nm fm (Ws ws) (fs.map LF.av) (js.map JP.av) (ks.map KF.av) uq (rs.map RL.av)) =
    some (if (((knames ks).take i).drop j).contains ks[i].nm then ((i:Int),13) else tailK ws fs ks uq rs (i+1)):=by
   intro e
   induction e with
   | zero=>
    intro j q hj hq
    obtain ⟨q,rfl⟩ : ∃ r,q=r+1:=⟨q - 1,by omega⟩
    rw [Q2s.at41]
    unfold Q2s.r41
    rw [cond_f (by omega),wsucc (by omega),checkR36 hn hf hk hr hc d (i+1) q (by omega) (by omega),List.drop_of_length_le (by rw [List.length_take]; omega)]
    simp
   | succ e ih=>
    intro j q hj hq
    obtain ⟨q,rfl⟩ : ∃ r,q=r+1:=⟨q - 1,by omega⟩
    have ih':=ih (j+1) q (by omega) (by omega)
    have hjl:j < ks.length:=by omega
    have hjt:j < ((knames ks).take i).length:=by rw [List.length_take]; omega
    have e2:((knames ks).take i)[j]=ks[j].nm:=by simp [knames]
    rw [Q2s.at41]
    unfold Q2s.r41
    simp only [List.length_map]
    rw [cond_t (by omega),within_t hjl,cond_true,at_map KF.av hjl,List.drop_eq_getElem_cons hjt,List.contains_cons,e2]
    show (bif decide ((0:Int)≤(i:Int))&&decide ((i:Int) < ((ks.length:Nat):Int)) then (withCons (((ks.map KF.av).getD (((i:Nat):Int)).toNat .undef).cells) fun h42 r43=>withStr h42 fun s44=>bif (bs ks[j].nm).toList==s44.toList then (some ((i:Int),13)) else
     Q2s.l n q (.z41 i (IntKind.i64.wrap ((j:Int)+1)) nm fm (Ws ws) (fs.map LF.av) (js.map JP.av) (ks.map KF.av) uq (rs.map RL.av))) else none)=_
    rw [within_t hi,cond_true,at_map KF.av hi]
    show (bif (bs ks[j].nm).toList==(bs ks[i].nm).toList then (some ((i:Int),13)) else
     Q2s.l n q (.z41 i (IntKind.i64.wrap ((j:Int)+1)) nm fm (Ws ws) (fs.map LF.av) (js.map JP.av) (ks.map KF.av) uq (rs.map RL.av)))=_
    rw [str_eq,wsucc (by omega),ih']
    by_cases h:ks[j].nm=ks[i].nm
    ·rw [cond_t h]; simp [h]
    ·have:(ks[i].nm==ks[j].nm)=false:=by simpa using fun e=>h e.symm
     rw [cond_f h,this,Bool.false_or]
  rw [Q2s.at36]
  unfold Q2s.r36
  simp only [List.length_map]
  rw [cond_t (by omega),within_t hi,cond_true,at_map KF.av hi]
  show ((Q2u.F n nm fm (Ws ws) (fs.map LF.av) (js.map JP.av) (ks.map KF.av) uq (rs.map RL.av) (bs ks[i].nm)).bind fun p37=>bif p37==(-1) then (some ((i:Int),11)) else
   Q2s.l n m (.z41 i 0 nm fm (Ws ws) (fs.map LF.av) (js.map JP.av) (ks.map KF.av) uq (rs.map RL.av)))=_
  have hin:=inner i 0 m (by omega) (by omega)
  rw [List.drop_zero] at hin
  rw [fieldOf_eq hn fs hf,Option.bind_some,ixs_none,show (0:Int)=((0:Nat):Int) from rfl,hin]
  unfold tailK
  rw [List.drop_eq_getElem_cons hi]
  rw [kErr_cons]
  unfold ke
  cases h1:(names fs).contains ks[i].nm
  ·simp
  ·cases h2:((knames ks).take i).contains ks[i].nm
   ·simp
   ·simp
def tailF (ws:List (List UInt8)) (fs:List LF) (js:List JP) (ks:List KF) (uq:Bool) (rs:List RL) (i:Nat):Int × Int:=
 if (fErr ((ws.length:Int) - 1) (names fs) (fs.drop i) i).2≠0 then fErr ((ws.length:Int) - 1) (names fs) (fs.drop i) i else if (jErrT ws js).2≠0 then jErrT ws js else if ks.length > 4 then (0,2) else tailK ws fs ks uq rs 0
end
end Go.Proofs.YtmpglmcjoelciaaGreatDoor.Ev
namespace Go.Proofs.YtmpglmcjoelciaaGreatDoor.Ev
open Go Go.Proofs Go.Proofs.Ev
set_option linter.unusedVariables false
set_option linter.unusedSimpArgs false
structure FD where
 nm:List UInt8
 k:Int
 l:Int
 s:Int
def FD.av (x:FD):AV:=.agg [vs (bs x.nm),vi x.k,vi x.l,vi x.s]
def dnames (ds:List FD):List (List UInt8):=ds.map FD.nm
theorem dnames_length (ds:List FD):(dnames ds).length=ds.length:=by simp [dnames]
theorem dnames_get {ds:List FD} {i:Nat} (hi:i < ds.length):(dnames ds)[i]'(by rw [dnames_length]; exact hi)=ds[i].nm:=by simp [dnames]
def szT (k l:Int):Int:=if k=1 then l / 2+1 else if k=3 then (if l=9 then 4 else 2) else if k=4 then 16 else l
theorem chkT_cases {k l s:Int} (h:chkT k l s=0):(k=0∧1≤l∧l≤256)∨((k=1∨k=2)∧1≤l∧l≤15)∨(k=3∧(l=4∨l=9))∨(k=4∧l=0):=by
 unfold chkT at h
 by_cases h0:k=0
 ·rw [if_pos h0] at h
  by_cases h1:1≤l∧l≤256
  ·exact .inl ⟨h0,h1⟩
  ·rw [if_pos h1] at h; cases h
 ·rw [if_neg h0] at h
  by_cases h1:k=1∨k=2
  ·rw [if_pos h1] at h
   by_cases h2:1≤l∧l≤15
   ·exact .inr (.inl ⟨h1,h2⟩)
   ·rw [if_pos h2] at h; cases h
  ·rw [if_neg h1] at h
   by_cases h3:k=3
   ·rw [if_pos h3] at h
    by_cases h2:l=4∨l=9
    ·exact .inr (.inr (.inl ⟨h3,h2⟩))
    ·rw [if_pos h2] at h; cases h
   ·rw [if_neg h3] at h
    by_cases h4:k=4
    ·rw [if_pos h4] at h
     by_cases h2:l=0
     ·exact .inr (.inr (.inr ⟨h4,h2⟩))
     ·rw [if_pos h2] at h; cases h
    ·rw [if_neg h4] at h; cases h
theorem szT_range {k l s:Int} (h:chkT k l s=0):0≤szT k l∧szT k l≤256:=by
 unfold szT
 rcases chkT_cases h with ⟨h1,h2⟩ | ⟨h1,h2⟩ | ⟨h1,h2⟩ | ⟨h1,h2⟩ <;> (repeat' split) <;> omega
theorem nsize_eq (n:Nat) {k l s:Int} (h:chkT k l s=0):Q44.F n k l s=some (szT k l):=by
 unfold Q44.F Q44.e szT
 have hc:=chkT_cases h
 have h0:0≤l∧l≤256:=by omega
 simp only [bif_eq0]
 rw [Int.tdiv_eq_ediv_of_nonneg h0.1,Int.tdiv_eq_ediv_of_nonneg h0.1]
 by_cases h1:k=1
 ·rw [if_pos h1,if_pos h1,w64 (x:=l / 2) (by omega) (by omega),w64 (by omega) (by omega)]
 ·rw [if_neg h1,if_neg h1]
  by_cases h3:k=3
  ·rw [if_pos h3,if_pos h3]
   have:l=4∨l=9:=by omega
   rcases this with rfl | rfl <;> rfl
  ·rw [if_neg h3,if_neg h3]
   split <;> rfl
theorem bsize_eq (n:Nat) {k l s:Int} (h:chkT k l s=0):Q1x.F n k l s=some (szT k l):=by
 unfold Q1x.F Q1x.e szT
 have hc:=chkT_cases h
 have h0:0≤l∧l≤256:=by omega
 simp only [bif_eq0]
 rw [Int.tdiv_eq_ediv_of_nonneg h0.1]
 by_cases h1:k=1
 ·rw [if_pos h1,if_pos h1,w64 (x:=l / 2) (by omega) (by omega),w64 (by omega) (by omega)]
 ·rw [if_neg h1,if_neg h1]
  by_cases h3:k=3
  ·rw [if_pos h3,if_pos h3,count_eq]
   have:l=4∨l=9:=by omega
   rcases this with rfl | rfl <;> rfl
  ·rw [if_neg h3,if_neg h3]
   split <;> rfl
theorem sizeOf_eq {n:Nat} (hn:1001≤n) {k l s:Int} (h:chkT k l s=0):Q3w.F n k l s=some (szT k l,0):=by
 unfold Q3w.F Q3w.e
 rw [check_eq hn,Option.bind_some,h]
 show ((Q44.F n k l s).bind fun p=>some (p,0))=_
 rw [nsize_eq n h]
 rfl
def szs:List FD→Int
 | []=>0
 | f::r=>szT f.k f.l+szs r
def okD (ds:List FD):Prop:=∀ f∈ds,chkT f.k f.l f.s=0
section
variable {n:Nat} {nm fm:ByteArray}
theorem dsize_l (hn:1001≤n) (ds:List FD) (hd:ds.length≤1000) (ho:okD ds) (B:Int) (hB:B≤10000000):∀ (d i m:Nat) (a:Int),i+d=ds.length→d < m→0≤a→a+256*d≤B→Q17.l n m (.z3 a (ds.map FD.av) ds.length i)=some (a+szs (ds.drop i))
 | _,_,0,_,_,h,_,_=>absurd h (by omega)
 | 0,i,m+1,a,h,_,h1,h2=>by
  rw [Q17.at3]
  unfold Q17.r3
  rw [cond_f (by omega),List.drop_of_length_le (by omega)]
  simp [szs]
 | d+1,i,m+1,a,h,hm,h1,h2=>by
  have hi:i < ds.length:=by omega
  have hok:=ho ds[i] (List.getElem_mem hi)
  have hr:=szT_range hok
  have ih:=dsize_l hn ds hd ho B hB d (i+1) m (a+szT ds[i].k ds[i].l) (by omega) (by omega) (by omega) (by omega)
  rw [Q17.at3]
  unfold Q17.r3
  simp (disch:=omega) only [Option.bind_some,Option.bind_none,cond_true,cond_false,Bool.not_true,Bool.not_false,List.length_map,Ws_length,bs_size,within_t,upto_t,wsucc,Int.toNat_natCast,at_mapN,Ws_getDN,cells_agg,cells_v,withCons_cons,withInt_mk,withStr_mk,withBool_mk,withSl_mk,cond_t,cond_f,FD.av]
  rw [sizeOf_eq hn hok]
  simp (disch:=omega) only [Option.bind_some,Option.bind_none,cond_true,cond_false,Bool.not_true,Bool.not_false,List.length_map,Ws_length,bs_size,within_t,upto_t,wsucc,Int.toNat_natCast,at_mapN,Ws_getDN,cells_agg,cells_v,withCons_cons,withInt_mk,withStr_mk,withBool_mk,withSl_mk,cond_t,cond_f]
  rw [w64 (x:=a+szT ds[i].k ds[i].l) (by omega) (by omega),ih,List.drop_eq_getElem_cons hi]
  simp only [szs,Int.add_assoc]
theorem dsize_eq (hn:1001≤n) (ds:List FD) (hd:ds.length≤1000) (ho:okD ds):Q17.F n (ds.map FD.av)=some (szs ds):=by
 unfold Q17.F Q17.e
 have:=dsize_l hn ds hd ho 1000000 (by omega) ds.length 0 n 0 (by omega) (by omega) (by omega) (by omega)
 rw [List.drop_zero,Int.zero_add] at this
 rw [List.length_map]
 exact this
theorem fsize_l (hn:1001≤n) (ds:List FD) (hd:ds.length≤1000) (ho:okD ds) (B:Int) (hB:B≤10000000):∀ (d i m:Nat) (a:Int),i+d=ds.length→d < m→0≤a→a+256*d≤B→Q27.l n m (.z3 a i nm (ds.map FD.av))=some (a+szs (ds.drop i))
 | _,_,0,_,_,h,_,_=>absurd h (by omega)
 | 0,i,m+1,a,h,_,h1,h2=>by
  rw [Q27.at3]
  unfold Q27.r3
  simp only [List.length_map]
  rw [cond_f (by omega),List.drop_of_length_le (by omega)]
  simp [szs]
 | d+1,i,m+1,a,h,hm,h1,h2=>by
  have hi:i < ds.length:=by omega
  have hok:=ho ds[i] (List.getElem_mem hi)
  have hr:=szT_range hok
  have ih:=fsize_l hn ds hd ho B hB d (i+1) m (a+szT ds[i].k ds[i].l) (by omega) (by omega) (by omega) (by omega)
  rw [Q27.at3]
  unfold Q27.r3
  simp (disch:=omega) only [Option.bind_some,Option.bind_none,cond_true,cond_false,Bool.not_true,Bool.not_false,List.length_map,Ws_length,bs_size,within_t,upto_t,wsucc,Int.toNat_natCast,at_mapN,Ws_getDN,cells_agg,cells_v,withCons_cons,withInt_mk,withStr_mk,withBool_mk,withSl_mk,cond_t,cond_f,FD.av,List.drop_succ_cons,List.drop_zero]
  rw [bsize_eq n hok]
  simp (disch:=omega) only [Option.bind_some,Option.bind_none,cond_true,cond_false,Bool.not_true,Bool.not_false,List.length_map,Ws_length,bs_size,within_t,upto_t,wsucc,Int.toNat_natCast,at_mapN,Ws_getDN,cells_agg,cells_v,withCons_cons,withInt_mk,withStr_mk,withBool_mk,withSl_mk,cond_t,cond_f]
  rw [w64 (x:=a+szT ds[i].k ds[i].l) (by omega) (by omega),ih,List.drop_eq_getElem_cons hi]
  simp only [szs,Int.add_assoc]
theorem fsize_eq (hn:1001≤n) (ds:List FD) (hd:ds.length≤1000) (ho:okD ds):Q27.F n nm (ds.map FD.av)=some (szs ds):=by
 unfold Q27.F Q27.e
 have:=fsize_l (nm:=nm) hn ds hd ho 1000000 (by omega) ds.length 0 n 0 (by omega) (by omega) (by omega) (by omega)
 rw [List.drop_zero,Int.zero_add] at this
 exact this
def de (before:List (List UInt8)) (f:FD):Int:=if ne before f.nm≠0 then ne before f.nm else if chkT f.k f.l f.s≠0 then chkT f.k f.l f.s else if f.k=4 then 17 else 0
def dErr (ns:List (List UInt8)):List FD→Nat→Int × Int
 | [],_=>(0,0)
 | f::r,i=>if de (ns.take i) f≠0 then ((i:Int),de (ns.take i) f) else dErr ns r (i+1)
theorem dErr_cons (ns:List (List UInt8)) (f:FD) (r:List FD) (i:Nat):dErr ns (f::r) i=if de (ns.take i) f≠0 then ((i:Int),de (ns.take i) f) else dErr ns r (i+1):=rfl
theorem dErr_ok {ns:List (List UInt8)}:∀ {ds:List FD} {i:Nat},(dErr ns ds i).2=0→okD ds∧∀ f∈ds,f.k≠4
 | [],_,_=>⟨fun _ h=>by simp at h,fun _ h=>by simp at h⟩
 | f::r,i,h=>by
  rw [dErr_cons] at h
  by_cases h0:de (ns.take i) f=0
  ·rw [if_neg (by simp [h0])] at h
   obtain ⟨h1,h2⟩:=dErr_ok h
   unfold de at h0
   by_cases ha:ne (ns.take i) f.nm=0
   ·rw [if_neg (by simp [ha])] at h0
    by_cases hb:chkT f.k f.l f.s=0
    ·rw [if_neg (by simp [hb])] at h0
     by_cases hc:f.k=4
     ·rw [if_pos hc] at h0; cases h0
     ·refine ⟨fun g hg=>?_,fun g hg=>?_⟩
      ·rcases List.mem_cons.1 hg with rfl | hg
       ·exact hb
       ·exact h1 g hg
      ·rcases List.mem_cons.1 hg with rfl | hg
       ·exact hc
       ·exact h2 g hg
    ·rw [if_pos hb] at h0; exact absurd h0 hb
   ·rw [if_pos ha] at h0; exact absurd h0 ha
  ·rw [if_pos h0] at h; exact absurd h h0
def fileT (ds:List FD) (ks:List KF):Int:=
 if (dErr (dnames ds) ds 0).2≠0 then (dErr (dnames ds) ds 0).2 else if szs ds > 200 then 18 else (kErrT (dnames ds) ks).2
def fileE (nm fm:List UInt8) (ds:List FD) (ks:List KF):Int:=
 if isNm nm=false then 7 else if isNm fm=false then 7 else if ds.length=0 then 1 else if ds.length > 20 then 2 else fileT ds ks
theorem fErr_l (hn:1001≤n) (ds:List FD) (hd:ds.length≤1000) (ks:List KF) (hk:ks.length≤1000) (uq:Bool) (hok:(dErr (dnames ds) ds 0).2=0→okD ds):∀ (d i m:Nat),i+d=ds.length→d < m→((dErr (dnames ds) (ds.drop i) i).2=0→(dErr (dnames ds) ds 0).2=0)→
  Q0j.l n m (.z7 (ds.map FD.av) (ds.map FD.av) ds.length i nm fm (ds.map FD.av) (ks.map KF.av) uq (Ws ((dnames ds).take i))) =
   some (if (dErr (dnames ds) (ds.drop i) i).2≠0 then (dErr (dnames ds) (ds.drop i) i).2 else if szs ds > 200 then 18 else (kErrT (dnames ds) ks).2)
 | _,_,0,_,h,_=>absurd h (by omega)
 | 0,i,m+1,h,_,hz=>by
  have hl:=dnames_length ds
  rw [List.drop_of_length_le (by omega)] at hz ⊢
  have ho:=hok (hz rfl)
  rw [Q0j.at7]
  unfold Q0j.r7
  rw [cond_f (by omega),dsize_eq hn ds hd ho,Option.bind_some,List.take_of_length_le (by omega),keysErr_eq hn _ (by omega) ks hk,Option.bind_some,bif_ite,some_ite]
  rfl
 | d+1,i,m+1,h,hm,hz=>by
  have hi:i < ds.length:=by omega
  have hl:=dnames_length ds
  have hl' : i < (dnames ds).length:=by omega
  have hmost:most=1000000000:=rfl
  have ih:=fErr_l hn ds hd ks hk uq hok d (i+1) m (by omega) (by omega)
  rw [List.drop_eq_getElem_cons hi,dErr_cons] at hz ⊢
  rw [Q0j.at7]
  unfold Q0j.r7
  simp (disch:=omega) only [Option.bind_some,Option.bind_none,cond_true,cond_false,Bool.not_true,Bool.not_false,List.length_map,Ws_length,bs_size,within_t,upto_t,wsucc,Int.toNat_natCast,at_mapN,Ws_getDN,cells_agg,cells_v,withCons_cons,withInt_mk,withStr_mk,withBool_mk,withSl_mk,cond_t,cond_f,FD.av]
  rw [nameErr_eq hn _ (by rw [List.length_take]; omega),Option.bind_some,check_eq hn,Option.bind_some,cond_eq,Option.bind_some]
  have hfz:=first_eq (n:=n) [ne ((dnames ds).take i) ds[i].nm,chkT ds[i].k ds[i].l ds[i].s,(if (ds[i].k==4)=true then 17 else 0)] (by simp) hn
  have e:fz [ne ((dnames ds).take i) ds[i].nm,chkT ds[i].k ds[i].l ds[i].s,(if (ds[i].k==4)=true then 17 else 0)]=de ((dnames ds).take i) ds[i]:=by
   unfold de
   by_cases h1:ne ((dnames ds).take i) ds[i].nm=0
   ·by_cases h2:chkT ds[i].k ds[i].l ds[i].s=0
    ·by_cases h3:ds[i].k=4 <;> simp [fz,h1,h2,h3]
    ·simp [fz,h1,h2]
   ·simp [fz,h1]
  rw [e] at hfz
  show ((Q0m.F n ([ne ((dnames ds).take i) ds[i].nm,chkT ds[i].k ds[i].l ds[i].s,(if (ds[i].k==4)=true then 17 else 0)].map vi)).bind _)=_
  rw [hfz,Option.bind_some,bif_ne]
  by_cases h0:de ((dnames ds).take i) ds[i]=0
  ·simp only [h0,ne_eq,not_true_eq_false,if_false] at hz ih ⊢
   rw [cond_t (by rw [List.length_take,List.length_singleton]; omega),Ws_snoc,← dnames_get hi,← List.take_succ_eq_append_getElem hl']
   exact ih hz
  ·simp only [h0,ne_eq,not_false_eq_true,if_true]
theorem fileErr_eq (hn:1001≤n) (nm fm:List UInt8) (ds:List FD) (hd:ds.length≤1000) (ks:List KF) (hk:ks.length≤1000) (uq:Bool) :
  Q0j.F n (bs nm) (bs fm) (ds.map FD.av) (ks.map KF.av) uq=some (fileE nm fm ds ks):=by
 unfold Q0j.F Q0j.e
 rw [isName_eq hn,Option.bind_some,cond_eq,Option.bind_some,isName_eq hn,Option.bind_some,cond_eq,Option.bind_some]
 simp only [cond_eq,Option.bind_some,List.length_map]
 have hfz:=first_eq (n:=n) [(if (!isNm nm)=true then 7 else 0),(if (!isNm fm)=true then 7 else 0),(if ((((ds.length:Nat):Int))==0)=true then 1 else 0),(if decide (((ds.length:Nat):Int) > 20)=true then 2 else 0)] (by simp) hn
 show ((Q0m.F n ([(if (!isNm nm)=true then 7 else 0),(if (!isNm fm)=true then 7 else 0),(if ((((ds.length:Nat):Int))==0)=true then 1 else 0),(if decide (((ds.length:Nat):Int) > 20)=true then 2 else 0)].map vi)).bind _)=_
 rw [hfz,Option.bind_some,bif_ne]
 unfold fileE
 cases h1:isNm nm
 ·simp [fz]
 ·cases h2:isNm fm
  ·simp [fz]
  ·by_cases h3:ds.length=0
   ·simp [fz,h3]
   ·have h3' : ¬ ((ds.length:Nat):Int)=0:=by omega
    by_cases h4:ds.length > 20
    ·have h4' : ((ds.length:Nat):Int) > 20:=by omega
     have:decide (((ds.length:Nat):Int) > 20)=true:=by simpa using h4'
     simp only [fz,h3,h3',h4,beq_int,this]; simp
    ·have:decide (((ds.length:Nat):Int) > 20)=false:=by rw [decide_eq_false_iff_not]; omega
     have e:fz [(if (!true)=true then 7 else 0),(if (!true)=true then 7 else 0),(if ((((ds.length:Nat):Int))==0)=true then 1 else 0),(if decide (((ds.length:Nat):Int) > 20)=true then 2 else 0)]=0:=by
      rw [this]; simp [fz,h3]
     rw [e,if_neg (by simp)]
     simp only [Bool.true_eq_false,if_false,h3,h4]
     have:=fErr_l (nm:=bs nm) (fm:=bs fm) hn ds hd ks hk uq (fun h=>(dErr_ok h).1) ds.length 0 n (by omega) (by omega) (fun h=>h)
     exact this
end
end Go.Proofs.YtmpglmcjoelciaaGreatDoor.Ev
namespace Go.Proofs.YtmpglmcjoelciaaGreatDoor.Ev
open Go Go.Proofs Go.Proofs.Ev
set_option linter.unusedVariables false
set_option linter.unusedSimpArgs false
section
variable {n:Nat} {nm fm:ByteArray}
theorem fieldAt_l (ds:List FD) (hd:ds.length≤1000) (s:List UInt8):∀ (d i m:Nat),i+d=ds.length→d < m→Q21.l n m (.z2 (bs s) i nm (ds.map FD.av))=some (ixs ((dnames ds).drop i) s i)
 | _,_,0,_,h=>absurd h (by omega)
 | 0,i,m+1,h,_=>by
  have hl:=dnames_length ds
  rw [Q21.at2]
  unfold Q21.r2
  simp (disch:=omega) only [Option.bind_some,Option.bind_none,cond_true,cond_false,Bool.not_true,Bool.not_false,List.length_map,Ws_length,bs_size,within_t,upto_t,wsucc,Int.toNat_natCast,at_mapN,Ws_getDN,cells_agg,cells_v,withCons_cons,withInt_mk,withStr_mk,withBool_mk,withSl_mk,cond_t,cond_f]
  rw [List.drop_of_length_le (by omega)]
  rfl
 | d+1,i,m+1,h,hm=>by
  have hi:i < ds.length:=by omega
  have hl:=dnames_length ds
  have ih:=fieldAt_l ds hd s d (i+1) m (by omega) (by omega)
  rw [Q21.at2]
  unfold Q21.r2
  simp (disch:=omega) only [Option.bind_some,Option.bind_none,cond_true,cond_false,Bool.not_true,Bool.not_false,List.length_map,Ws_length,bs_size,within_t,upto_t,wsucc,Int.toNat_natCast,at_mapN,Ws_getDN,cells_agg,cells_v,withCons_cons,withInt_mk,withStr_mk,withBool_mk,withSl_mk,cond_t,cond_f,FD.av,str_eq,ih]
  rw [List.drop_eq_getElem_cons (by omega:i < (dnames ds).length),ixs_cons,dnames_get hi,bif_ite,some_ite]
theorem fieldAt_eq (hn:1001≤n) (ds:List FD) (hd:ds.length≤1000) (s:List UInt8):Q21.F n nm (ds.map FD.av) (bs s)=some (ixs (dnames ds) s 0):=by
 unfold Q21.F Q21.e
 have:=fieldAt_l (n:=n) (nm:=nm) ds hd s ds.length 0 n (by omega) (by omega)
 rw [List.drop_zero] at this
 exact this
theorem fieldsR_l (hn:1001≤n) (ds:List FD) (hd:ds.length≤1000) (hok:(dErr (dnames ds) ds 0).2=0→okD ds):∀ (d i m:Nat),i+d=ds.length→d < m→((dErr (dnames ds) (ds.drop i) i).2=0→(dErr (dnames ds) ds 0).2=0)→
  Q22.l n m (.z6 i nm (ds.map FD.av))=some (if (dErr (dnames ds) (ds.drop i) i).2≠0 then dErr (dnames ds) (ds.drop i) i else (0,if szs ds > 200 then 18 else 0))
 | _,_,0,_,h,_=>absurd h (by omega)
 | 0,i,m+1,h,_,hz=>by
  rw [List.drop_of_length_le (by omega)] at hz ⊢
  have ho:=hok (hz rfl)
  rw [Q22.at6]
  unfold Q22.r6
  simp (disch:=omega) only [Option.bind_some,Option.bind_none,cond_true,cond_false,Bool.not_true,Bool.not_false,List.length_map,Ws_length,bs_size,within_t,upto_t,wsucc,Int.toNat_natCast,at_mapN,Ws_getDN,cells_agg,cells_v,withCons_cons,withInt_mk,withStr_mk,withBool_mk,withSl_mk,cond_t,cond_f]
  rw [fsize_eq hn ds hd ho]
  simp (disch:=omega) only [Option.bind_some,Option.bind_none,cond_true,cond_false,Bool.not_true,Bool.not_false,List.length_map,Ws_length,bs_size,within_t,upto_t,wsucc,Int.toNat_natCast,at_mapN,Ws_getDN,cells_agg,cells_v,withCons_cons,withInt_mk,withStr_mk,withBool_mk,withSl_mk,cond_t,cond_f,count_eq]
  by_cases h2:szs ds > 200
  ·simp only [h2,decide_true,if_true,dErr]; rfl
  ·simp only [h2,decide_false,if_false,dErr]; rfl
 | d+1,i,m+1,h,hm,hz=>by
  have hi:i < ds.length:=by omega
  have hl:=dnames_length ds
  have hl' : i < (dnames ds).length:=by omega
  have ih:=fieldsR_l hn ds hd hok d (i+1) m (by omega) (by omega)
  have hlt:=ixs_lt (dnames ds) ds[i].nm 0 i hl' (by rw [List.getElem?_eq_getElem hl',dnames_get hi])
  rw [Nat.zero_add] at hlt
  rw [List.drop_eq_getElem_cons hi,dErr_cons] at hz ⊢
  rw [Q22.at6]
  unfold Q22.r6
  simp (disch:=omega) only [Option.bind_some,Option.bind_none,cond_true,cond_false,Bool.not_true,Bool.not_false,List.length_map,Ws_length,bs_size,within_t,upto_t,wsucc,Int.toNat_natCast,at_mapN,Ws_getDN,cells_agg,cells_v,withCons_cons,withInt_mk,withStr_mk,withBool_mk,withSl_mk,cond_t,cond_f,FD.av,isNameR_eq,fieldAt_eq,hlt,typeErr_eq,List.drop_succ_cons,List.drop_zero]
  rw [bif_ne]
  unfold de ne at hz ⊢
  cases h1:isNm ds[i].nm
  ·simp
  ·cases h2:((dnames ds).take i).contains ds[i].nm
   ·by_cases h3:chkT ds[i].k ds[i].l ds[i].s=0
    ·by_cases h4:ds[i].k=4
     ·have h3' : chkT 4 ds[i].l ds[i].s=0:=by rw [← h4]; exact h3
      simp [h3',h4]
     ·simp only [h1,h2,h3,h4,Bool.not_true,cond_false,Bool.true_eq_false,Bool.false_eq_true,if_false,ne_eq,not_true_eq_false,bif_eq0] at hz ih ⊢
      exact ih hz
    ·simp [h3]
   ·simp
theorem fieldsErrR_eq (hn:1001≤n) (ds:List FD) (hd:ds.length≤1000):∃ i,Q22.F n nm (ds.map FD.av)=some (i,if ds.length=0 then 1 else if ds.length > 20 then 2 else if (dErr (dnames ds) ds 0).2≠0 then (dErr (dnames ds) ds 0).2 else if szs ds > 200 then 18 else 0):=by
 unfold Q22.F Q22.e
 by_cases h0:ds.length=0
 ·refine ⟨0,?_⟩
  have:(((ds.map FD.av).length:Nat):Int)=0:=by rw [List.length_map,h0]; rfl
  simp only [this,h0,if_true]; rfl
 ·by_cases h1:ds.length > 20
  ·refine ⟨0,?_⟩
   simp (disch:=omega) only [Option.bind_some,Option.bind_none,cond_true,cond_false,Bool.not_true,Bool.not_false,List.length_map,Ws_length,bs_size,within_t,upto_t,wsucc,Int.toNat_natCast,at_mapN,Ws_getDN,cells_agg,cells_v,withCons_cons,withInt_mk,withStr_mk,withBool_mk,withSl_mk,cond_t,cond_f,beq_int]
   simp only [h0,h1,if_false,if_true]
  ·have:=fieldsR_l (nm:=nm) hn ds hd (fun h=>(dErr_ok h).1) ds.length 0 n (by omega) (by omega) (fun h=>h)
   rw [List.drop_zero] at this
   simp (disch:=omega) only [Option.bind_some,Option.bind_none,cond_true,cond_false,Bool.not_true,Bool.not_false,List.length_map,Ws_length,bs_size,within_t,upto_t,wsucc,Int.toNat_natCast,at_mapN,Ws_getDN,cells_agg,cells_v,withCons_cons,withInt_mk,withStr_mk,withBool_mk,withSl_mk,cond_t,cond_f,beq_int]
   refine ⟨if (dErr (dnames ds) ds 0).2≠0 then (dErr (dnames ds) ds 0).1 else 0,Eq.trans this ?_⟩
   ·simp only [h0,h1,if_false]
    by_cases h2:(dErr (dnames ds) ds 0).2=0
    ·simp only [h2,ne_eq,not_true_eq_false,if_false]
    ·simp only [h2,ne_eq,not_false_eq_true,if_true]
theorem keysR_l (hn:1001≤n) (ds:List FD) (hd:ds.length≤1000) (ks:List KF) (hk:ks.length≤4) (uq:Bool):∀ (d i m:Nat),i+d=ks.length→10*d+1≤m→
  Q25.l n m (.z4 i nm fm (ds.map FD.av) (ks.map KF.av) uq)=some (kErr (dnames ds) (knames ks) (ks.drop i) i)
 | 0,i,m,h,hm=>by
  obtain ⟨m,rfl⟩ : ∃ q,m=q+1:=⟨m - 1,by omega⟩
  rw [Q25.at4]
  unfold Q25.r4
  simp (disch:=omega) only [Option.bind_some,Option.bind_none,cond_true,cond_false,Bool.not_true,Bool.not_false,List.length_map,Ws_length,bs_size,within_t,upto_t,wsucc,Int.toNat_natCast,at_mapN,Ws_getDN,cells_agg,cells_v,withCons_cons,withInt_mk,withStr_mk,withBool_mk,withSl_mk,cond_t,cond_f]
  rw [List.drop_of_length_le (by omega)]
  rfl
 | d+1,i,m,h,hm=>by
  obtain ⟨m,rfl⟩ : ∃ q,m=q+1:=⟨m - 1,by omega⟩
  have hi:i < ks.length:=by omega
  have hkl:(knames ks).length=ks.length:=by simp [knames]
  have inner:∀ (e j q:Nat),j+e=i→10*d+2+e≤q→Q25.l n q (.z9 i j nm fm (ds.map FD.av) (ks.map KF.av) uq) =
    some (if (((knames ks).take i).drop j).contains ks[i].nm then ((i:Int),13) else kErr (dnames ds) (knames ks) (ks.drop (i+1)) (i+1)):=by
   intro e
   induction e with
   | zero=>
    intro j q hj hq
    obtain ⟨q,rfl⟩ : ∃ r,q=r+1:=⟨q - 1,by omega⟩
    rw [Q25.at9]
    unfold Q25.r9
    simp (disch:=omega) only [Option.bind_some,Option.bind_none,cond_true,cond_false,Bool.not_true,Bool.not_false,List.length_map,Ws_length,bs_size,within_t,upto_t,wsucc,Int.toNat_natCast,at_mapN,Ws_getDN,cells_agg,cells_v,withCons_cons,withInt_mk,withStr_mk,withBool_mk,withSl_mk,cond_t,cond_f]
    rw [keysR_l hn ds hd ks hk uq d (i+1) q (by omega) (by omega),List.drop_of_length_le (show ((knames ks).take i).length≤j by rw [List.length_take]; omega)]
    simp
   | succ e ih=>
    intro j q hj hq
    obtain ⟨q,rfl⟩ : ∃ r,q=r+1:=⟨q - 1,by omega⟩
    have ih':=ih (j+1) q (by omega) (by omega)
    have hjl:j < ks.length:=by omega
    have hjt:j < ((knames ks).take i).length:=by rw [List.length_take]; omega
    have e2:((knames ks).take i)[j]=ks[j].nm:=by simp [knames]
    rw [Q25.at9]
    unfold Q25.r9
    simp (disch:=omega) only [Option.bind_some,Option.bind_none,cond_true,cond_false,Bool.not_true,Bool.not_false,List.length_map,Ws_length,bs_size,within_t,upto_t,wsucc,Int.toNat_natCast,at_mapN,Ws_getDN,cells_agg,cells_v,withCons_cons,withInt_mk,withStr_mk,withBool_mk,withSl_mk,cond_t,cond_f,KF.av,str_eq,ih']
    rw [List.drop_eq_getElem_cons hjt,List.contains_cons,e2]
    by_cases h:ks[j].nm=ks[i].nm
    ·rw [cond_t h]; simp [h]
    ·have:(ks[i].nm==ks[j].nm)=false:=by simpa using fun e=>h e.symm
     rw [cond_f h,this,Bool.false_or]
  have hin:=inner i 0 m (by omega) (by omega)
  rw [List.drop_zero] at hin
  rw [Q25.at4]
  unfold Q25.r4
  have h0:((0:Nat):Int)=0:=rfl
  rw [h0] at hin
  simp (disch:=omega) only [Option.bind_some,Option.bind_none,cond_true,cond_false,Bool.not_true,Bool.not_false,List.length_map,Ws_length,bs_size,within_t,upto_t,wsucc,Int.toNat_natCast,at_mapN,Ws_getDN,cells_agg,cells_v,withCons_cons,withInt_mk,withStr_mk,withBool_mk,withSl_mk,cond_t,cond_f,KF.av,fieldAt_eq,hin,ixs_none]
  rw [List.drop_eq_getElem_cons hi,kErr_cons]
  unfold ke
  cases h1:(dnames ds).contains ks[i].nm
  ·simp
  ·cases h2:((knames ks).take i).contains ks[i].nm
   ·simp
   ·simp
theorem keysErrR_eq (hn:1001≤n) (ds:List FD) (hd:ds.length≤1000) (ks:List KF) (hk:ks.length≤1000) (uq:Bool):Q25.F n nm fm (ds.map FD.av) (ks.map KF.av) uq=some (kErrT (dnames ds) ks):=by
 unfold Q25.F Q25.e kErrT
 by_cases h:ks.length > 4
 ·simp (disch:=omega) only [Option.bind_some,Option.bind_none,cond_true,cond_false,Bool.not_true,Bool.not_false,List.length_map,Ws_length,bs_size,within_t,upto_t,wsucc,Int.toNat_natCast,at_mapN,Ws_getDN,cells_agg,cells_v,withCons_cons,withInt_mk,withStr_mk,withBool_mk,withSl_mk,cond_t,cond_f]
  rw [if_pos h]
 ·simp (disch:=omega) only [Option.bind_some,Option.bind_none,cond_true,cond_false,Bool.not_true,Bool.not_false,List.length_map,Ws_length,bs_size,within_t,upto_t,wsucc,Int.toNat_natCast,at_mapN,Ws_getDN,cells_agg,cells_v,withCons_cons,withInt_mk,withStr_mk,withBool_mk,withSl_mk,cond_t,cond_f]
  rw [if_neg h]
  have:=keysR_l (n:=n) (nm:=nm) (fm:=fm) hn ds hd ks (by omega) uq ks.length 0 n (by omega) (by omega)
  rw [List.drop_zero] at this
  exact this
theorem errR_eq (hn:1001≤n) (nm fm:List UInt8) (ds:List FD) (hd:ds.length≤1000) (ks:List KF) (hk:ks.length≤1000) (uq:Bool):Q20.F n (bs nm) (bs fm) (ds.map FD.av) (ks.map KF.av) uq=some (fileE nm fm ds ks):=by
 unfold Q20.F Q20.e Q23.F Q23.e Q24.F Q24.e fileE fileT
 obtain ⟨i,hi⟩:=fieldsErrR_eq (nm:=bs fm) hn ds hd
 rw [isNameR_eq hn,Option.bind_some,isNameR_eq hn,Option.bind_some,hi,Option.bind_some,keysErrR_eq hn ds hd ks hk]
 cases isNm nm
 ·rfl
 ·cases isNm fm
  ·rfl
  ·by_cases h0:ds.length=0
   ·simp [h0]
   ·by_cases h1:ds.length > 20
    ·simp [h0,h1]
    ·by_cases h2:(dErr (dnames ds) ds 0).2=0
     ·by_cases h3:szs ds > 200
      ·simp [h0,h1,h2,h3]
      ·simp [h0,h1,h2,h3]
     ·have h2' : ((dErr (dnames ds) ds 0).2 != 0)=true:=by simp [h2]
      simp [h0,h1,h2,h2']
theorem plainErr_eq (hn:1001≤n) (nm fm:List UInt8) (ds:List FD) (hd:ds.length≤1000) (ks:List KF) (hk:ks.length≤1000) (uq:Bool):Q26.F n (bs nm) (bs fm) (ds.map FD.av) (ks.map KF.av) uq=some (fileE nm fm ds ks):=by
 unfold Q26.F Q26.e
 rw [isNameR_eq hn,Option.bind_some,isNameR_eq hn,Option.bind_some,errR_eq hn nm fm ds hd ks hk]
 unfold fileE
 cases isNm nm
 ·rfl
 ·cases isNm fm <;> rfl
end
end Go.Proofs.YtmpglmcjoelciaaGreatDoor.Ev
namespace Go.Proofs.YtmpglmcjoelciaaGreatDoor.Ev
open Go Go.Proofs Go.Proofs.Ev
set_option linter.unusedVariables false
set_option linter.unusedSimpArgs false
theorem lit1 (a:UInt8):(⟨#[a]⟩ : ByteArray)=bs [a]:=rfl
theorem lit2 (a b:UInt8):(⟨#[a,b]⟩ : ByteArray)=bs [a,b]:=rfl
theorem lit3 (a b c:UInt8):(⟨#[a,b,c]⟩ : ByteArray)=bs [a,b,c]:=rfl
theorem lit7 (a b c d e f g:UInt8):(⟨#[a,b,c,d,e,f,g]⟩ : ByteArray)=bs [a,b,c,d,e,f,g]:=rfl
section
variable {n:Nat}
theorem byte_at {l:List UInt8} {i:Nat} (hi:i < l.length):l.toArray.getD i 0=l[i]:=by
 simp [Array.getD,hi]
theorem cut1 {l:List UInt8} {i:Nat} (hi:i < l.length):(bs l).extract i (i+1)=bs [l[i]]:=by
 rw [bs_extract,show i+1 - i=1 by omega,List.drop_eq_getElem_cons hi]
 rfl
end
end Go.Proofs.YtmpglmcjoelciaaGreatDoor.Ev
namespace Go.Proofs.YtmpglmcjoelciaaGreatDoor.Ev
open Go Go.Proofs Go.Proofs.Ev
set_option linter.unusedVariables false
set_option linter.unusedSimpArgs false
def zok (d:List UInt8):Bool:=!(decide (1 < d.length)&&d.getD 0 0==48)
def numD (d:List UInt8):Bool:=(decide (1≤d.length)&&decide (d.length≤15))&&(d.all isD&&zok d)
theorem zok_iff (d:List UInt8):zok d=true↔¬ (1 < d.length∧d.getD 0 0=48):=by
 unfold zok
 rw [Bool.not_eq_true',← Bool.not_eq_true,Bool.and_eq_true,decide_eq_true_eq,beq_iff_eq]
theorem numD_iff (d:List UInt8):numD d=true↔1≤d.length∧d.length≤15∧d.all isD=true∧¬ (1 < d.length∧d.getD 0 0=48):=by
 unfold numD
 rw [Bool.and_eq_true,Bool.and_eq_true,Bool.and_eq_true,decide_eq_true_eq,decide_eq_true_eq,zok_iff]
 constructor
 ·rintro ⟨⟨a,b⟩,c,d⟩; exact ⟨a,b,c,d⟩
 ·rintro ⟨a,b,c,d⟩; exact ⟨⟨a,b⟩,c,d⟩
def sgn (s:List UInt8):Bool:=s.getD 0 0==45
def bod (s:List UInt8):List UInt8:=if sgn s then s.drop 1 else s
def numP (s:List UInt8):Option Int:=if numD (bod s) then some (if sgn s then -(valA 0 (bod s):Int) else (valA 0 (bod s):Int)) else none
def nres:Option Int→Int × Bool
 | some v=>(v,true)
 | none=>(0,false)
section
variable {n:Nat}
theorem numberOfD (hn:100≤n) (d:List UInt8) (b:Bool) (hb:b=true→d≠[48]):∀ m,20≤m→Q1v.l n m (.z4 (bs d) b)=some (if numD d then ((if b then -(valA 0 d:Int) else (valA 0 d:Int)),true) else (0,false)):=by
 intro m hm
 obtain ⟨m,rfl⟩ : ∃ q,m=q+2:=⟨m - 2,by omega⟩
 have h5:Q1v.l n (m+1) .z5=some (0,false):=rfl
 rw [Q1v.at4]
 unfold Q1v.r4
 rw [bs_size,Within_eq,Option.bind_some]
 by_cases h0:1≤d.length∧d.length≤15
 ·have e1:decide ((1:Int)≤((d.length:Nat):Int)∧((d.length:Nat):Int)≤15)=true:=by simp; omega
  have hpos:0 < d.length:=by omega
  have e0:d.getD 0 0=d[0]:=by simp [List.getD_eq_getElem?_getD,hpos]
  rw [e1,Bool.not_true,cond_false,cond_t (by omega)]
  simp only [getD_at hpos,h5]
  have h8:=numberOf_l n d (by omega) b d.length 0 (m+1) 0 (by omega) (by omega) (by simp)
  rw [List.drop_zero] at h8
  have loop:¬ (1 < d.length∧d.getD 0 0=48)→Q1v.l n (m+1) (.z8 (bs d) b 0 0)=some (if numD d then ((if b then -(valA 0 d:Int) else (valA 0 d:Int)),true) else (0,false)):=by
   intro hz
   have:numD d=d.all isD:=by
    unfold numD
    rw [(zok_iff d).2 hz]
    simp [h0]
   rw [this]
   exact h8
  by_cases h48:d[0]=48
  ·have:((((d[0].toNat:Nat):Int))==48)=true:=by rw [h48]; rfl
   rw [this,cond_true]
   cases b
   ·rw [cond_false]
    by_cases h1:1 < d.length
    ·rw [cond_t (by omega)]
     have:numD d=false:=by rw [← Bool.not_eq_true,numD_iff]; rintro ⟨_,_,_,h⟩; exact h ⟨h1,by rw [e0]; exact h48⟩
     rw [this]
     rfl
    ·rw [cond_f (by omega)]
     exact loop fun ⟨h,_⟩=>h1 h
   ·rw [cond_true]
    have h1:1 < d.length:=by
     refine Classical.byContradiction fun h=>hb rfl ?_
     match d,hpos,h,h48 with
     | [c],_,_,e=>simpa using e
     | _::_::_,_,h,_=>simp at h
    have:numD d=false:=by rw [← Bool.not_eq_true,numD_iff]; rintro ⟨_,_,_,h⟩; exact h ⟨h1,by rw [e0]; exact h48⟩
    rw [this]
    rfl
  ·have:((((d[0].toNat:Nat):Int))==48)=false:=by
    rw [beq_eq_false_iff_ne]
    intro e
    have e2:d[0].toNat=48:=by omega
    exact h48 (UInt8.toNat_inj.1 (by rw [e2]; rfl))
   rw [this,cond_false]
   refine loop fun ⟨_,e⟩=>h48 ?_
   rw [e0] at e
   exact e
 ·have e1:decide ((1:Int)≤((d.length:Nat):Int)∧((d.length:Nat):Int)≤15)=false:=by simp; omega
  have:numD d=false:=by rw [← Bool.not_eq_true,numD_iff]; rintro ⟨a,b,_,_⟩; exact h0 ⟨a,b⟩
  rw [e1,Bool.not_false,cond_true,h5,this]
  rfl
theorem sgn_byte {s:List UInt8} (h:0 < s.length):((((s[0].toNat:Nat):Int))==45)=sgn s:=by
 have e0:s.getD 0 0=s[0]:=by simp [List.getD_eq_getElem?_getD,h]
 unfold sgn
 rw [e0,beq_int]
 by_cases h1:s[0]=45
 ·rw [h1]; rfl
 ·have:(s[0]==45)=false:=by simpa using h1
  rw [this,decide_eq_false_iff_not]
  intro e
  have e2:s[0].toNat=45:=by omega
  exact h1 (UInt8.toNat_inj.1 (by rw [e2]; rfl))
theorem tail_bs (s:List UInt8):(bs s).extract 1 s.length=bs (s.drop 1):=by
 rw [bs_extract,List.take_of_length_le (by simp)]
theorem numberR_eq (hn:100≤n) (s:List UInt8) (h0:s≠[]):Q3h.F n (bs s)=some (nres (numP s)):=by
 obtain ⟨m,rfl⟩ : ∃ q,n=q+1:=⟨n - 1,by omega⟩
 have hpos:0 < s.length:=List.length_pos_iff.2 h0
 have main:∀ (_:¬ (sgn s=true∧s.drop 1=[48])),Q3h.l (m+1) (m+1) (.z3 (bs s))=some (nres (numP s)):=by
  intro hne
  rw [Q3h.at3]
  unfold Q3h.r3 Q1v.F Q1v.e
  rw [bs_size,cond_t (by omega),cond_t (by omega)]
  simp only [getD_at hpos,sgn_byte hpos]
  unfold numP bod
  cases hs:sgn s
  ·rw [cond_false,numberOfD (by omega) s false nofun (m+1) (by omega),Option.bind_some]
   simp only [Bool.false_eq_true,if_false]
   cases numD s <;> rfl
  ·rw [cond_true,show (decide ((0:Int)≤1)&&decide ((1:Int)≤((s.length:Nat):Int)))=true by simp; omega,cond_true,tail_bs,numberOfD (by omega) (s.drop 1) true (fun _ e=>hne ⟨hs,e⟩) (m+1) (by omega),Option.bind_some]
   simp only [if_true]
   cases numD (s.drop 1) <;> rfl
 unfold Q3h.F Q3h.e
 rw [bs_size]
 by_cases h1:s.length > 1
 ·rw [cond_t (by omega),cond_t (by omega)]
  simp only [getD_at hpos,sgn_byte hpos]
  cases hs:sgn s
  ·rw [cond_false]
   exact main (by rw [hs]; simp)
  ·rw [cond_true,show (decide ((0:Int)≤1)&&decide ((1:Int)≤((s.length:Nat):Int)))=true by simp; omega,cond_true,tail_bs]
   rw [lit1,str_eq]
   by_cases h2:s.drop 1=[48]
   ·rw [cond_t h2]
    unfold numP bod
    rw [hs]
    simp only [if_true]
    rw [h2]
    rfl
   ·rw [cond_f h2]
    exact main fun h=>h2 h.2
 ·rw [cond_f (by omega)]
  refine main fun h=>?_
  have:(s.drop 1).length=1:=by rw [h.2]; rfl
  rw [List.length_drop] at this
  omega
end
end Go.Proofs.YtmpglmcjoelciaaGreatDoor.Ev
namespace Go.Proofs.YtmpglmcjoelciaaGreatDoor.Ev
open Go Go.Proofs Go.Proofs.Ev
set_option linter.unusedVariables false
set_option linter.unusedSimpArgs false
section
variable {n:Nat}
theorem digitAt_eq (s:List UInt8) (i:Nat):Q40.F n (bs s) i=some (decide (i < s.length)&&isD (s.getD i 0)):=by
 unfold Q40.F Q40.e isD
 rw [bs_size]
 by_cases h:i < s.length
 ·rw [cond_t (by omega),within_t h,cond_true]
  have e0:s.getD i 0=s[i]:=by simp [List.getD_eq_getElem?_getD,h]
  simp only [Int.toNat_natCast,getD_at h,e0,h,decide_true,Bool.true_and,cond_true]
  by_cases h2:48≤s[i].toNat
  ·rw [cond_t (by omega)]
   simp [h2]
   omega
  ·rw [cond_f (by omega)]
   simp [h2]
 ·rw [cond_f (by omega)]
  simp [h]
theorem lead_cons (c:UInt8) (r:List UInt8):lead (c::r)=if isD c then lead r+1 else 0:=by
 unfold lead
 rw [List.takeWhile_cons]
 split <;> simp
theorem run_l (s:List UInt8) (hs:s.length≤100000):∀ (d i m:Nat),i+d=s.length→d < m→Q43.l n m (.z5 (bs s) i)=some (((i+lead (s.drop i):Nat):Int),0)
 | _,_,0,_,h=>absurd h (by omega)
 | 0,i,m+1,h,_=>by
  rw [Q43.at5]
  unfold Q43.r5
  rw [digitAt_eq,Option.bind_some,List.drop_of_length_le (by omega)]
  simp only [show ¬ i < s.length by omega,decide_false,Bool.false_and,cond_false]
  rfl
 | d+1,i,m+1,h,hm=>by
  have hi:i < s.length:=by omega
  have ih:=run_l s hs d (i+1) m (by omega) (by omega)
  have e0:s.getD i 0=s[i]:=by simp [List.getD_eq_getElem?_getD,hi]
  rw [Q43.at5]
  unfold Q43.r5
  rw [digitAt_eq,Option.bind_some,List.drop_eq_getElem_cons hi,lead_cons,e0,wsucc (by omega),ih]
  simp only [hi,decide_true,Bool.true_and]
  cases isD s[i]
  ·rfl
  ·simp only [cond_true,if_true]
   rw [show i+1+lead (s.drop (i+1))=i+(lead (s.drop (i+1))+1) by omega]
theorem run_eq (hn:100002≤n) (s:List UInt8) (hs:s.length≤100000) (i:Nat) (hi:i≤s.length):Q43.F n (bs s) i=some (if lead (s.drop i)=0 then ((i:Int),if i < s.length then 8 else 9) else (((i+lead (s.drop i):Nat):Int),0)):=by
 unfold Q43.F Q43.e
 rw [digitAt_eq,Option.bind_some,run_l s hs (s.length - i) i n (by omega) (by omega),bs_size]
 by_cases h:i < s.length
 ·have e0:s.getD i 0=s[i]:=by simp [List.getD_eq_getElem?_getD,h]
  rw [List.drop_eq_getElem_cons h,lead_cons,e0]
  simp only [h,decide_true,Bool.true_and]
  cases isD s[i]
  ·rw [Bool.not_false,cond_true,cond_t (by omega)]
   rfl
  ·simp only [Bool.not_true,cond_false,if_true]
   rw [if_neg (by omega)]
 ·rw [List.drop_of_length_le (by omega)]
  simp only [h,decide_false,Bool.false_and,Bool.not_false,cond_true]
  rw [cond_f (by omega)]
  rfl
def frm (s:List UInt8):Nat:=if sgn s then 1 else 0
theorem drop_frm (s:List UInt8):s.drop (frm s)=bod s:=by
 unfold frm bod
 split <;> rfl
theorem lead_eq {d:List UInt8} (h:lead d=d.length):d.all isD=true:=by
 have:=lead_all d
 rw [h,List.take_length] at this
 exact this
theorem layout_tail (hn:100002≤n) (s:List UInt8) (hs:s.length≤40) (f k:Nat) (hf:f+k≤s.length):∀ m,5≤m→∃ a b e:Int,Q41.l n m (.z8 (bs s) f ((f+k:Nat):Int))=some (a,b,e)∧
  (f+k=s.length→a=f∧e=0)∧(e=0→a=f)∧(e=0→f+k < s.length→s.contains 46=true):=by
 intro m hm
 obtain ⟨m,rfl⟩ : ∃ q,m=q+2:=⟨m - 2,by omega⟩
 rw [Q41.at8]
 unfold Q41.r8
 rw [bs_size]
 by_cases h:f+k=s.length
 ·have:((((f+k:Nat):Int))==((s.length:Nat):Int))=true:=by rw [h]; simp
  simp only [this,cond_true]
  exact ⟨_,_,_,rfl,fun _=>⟨rfl,rfl⟩,fun _=>rfl,fun _ hl=>absurd hl (by omega)⟩
 ·have:((((f+k:Nat):Int))==((s.length:Nat):Int))=false:=by rw [beq_eq_false_iff_ne]; omega
  have hi:f+k < s.length:=by omega
  simp only [this,cond_false,within_t hi,cond_true,Int.toNat_natCast,getD_at hi]
  by_cases h46:s[f+k]=46
  ·have hb:(((s[f+k].toNat:Nat):Int) != 46)=false:=by rw [h46]; rfl
   have hc:s.contains 46=true:=by rw [List.contains_iff_mem,← h46]; exact List.getElem_mem hi
   rw [hb,cond_false,wsucc (by omega),run_eq hn s (by omega) (f+k+1) (by omega),Option.bind_some]
   have e15:∀ a b c d,Q41.l n (m+1) (.z15 a b c d)=bif c != 0 then some (0,d,c) else some (a,b,0):=fun a b c d=>rfl
   simp only [e15]
   by_cases hl:lead (s.drop (f+k+1))=0
   ·simp only [hl,if_true]
    by_cases hl2:f+k+1 < s.length
    ·simp only [hl2,if_true]
     exact ⟨_,_,8,rfl,fun h'=>absurd h' h,nofun,nofun⟩
    ·simp only [hl2,if_false]
     exact ⟨_,_,9,rfl,fun h'=>absurd h' h,nofun,nofun⟩
   ·simp only [hl,if_false,beq_self_eq_true,cond_true]
    by_cases hl2:(((f+k+1+lead (s.drop (f+k+1)):Nat):Int)) < ((s.length:Nat):Int)
    ·rw [cond_t hl2]
     exact ⟨_,_,8,rfl,fun h'=>absurd h' h,nofun,nofun⟩
    ·rw [cond_f hl2]
     exact ⟨_,_,0,rfl,fun h'=>absurd h' h,fun _=>rfl,fun _ _=>hc⟩
  ·have hb:(((s[f+k].toNat:Nat):Int) != 46)=true:=by
    rw [bne_iff_ne]
    intro e
    have e2:s[f+k].toNat=46:=by omega
    exact h46 (UInt8.toNat_inj.1 (by rw [e2]; rfl))
   rw [hb,cond_true]
   exact ⟨_,_,8,rfl,fun h'=>absurd h' h,nofun,nofun⟩
theorem layout_eq (hn:100002≤n) (s:List UInt8) (hs:s.length≤40) (h0:s≠[]):∃ a b e:Int,Q41.F n (bs s)=some (a,b,e)∧
  ((bod s).all isD=true∧1≤(bod s).length∧zok (bod s)=true→a=frm s∧e=0)∧(e=0→a=frm s∧((bod s).all isD=true∧1≤(bod s).length∧zok (bod s)=true∨s.contains 46=true)):=by
 have hpos:0 < s.length:=List.length_pos_iff.2 h0
 have fin:∀ f:Nat,f=frm s→f≤s.length→∃ a b e:Int,((Q43.F n (bs s) f).bind fun p2=>bif p2.2 != 0 then some (0,p2.1,p2.2) else (bif decide ((f:Int) < ((s.length:Nat):Int)) then (bif ((((bs s).data.getD f 0).toNat:Nat):Int)==48 then (bif decide (p2.1 > ((f+1:Nat):Int)) then some (0,((f+1:Nat):Int),8) else Q41.l n n (.z8 (bs s) f p2.1)) else Q41.l n n (.z8 (bs s) f p2.1)) else none))=some (a,b,e)∧
   ((bod s).all isD=true∧1≤(bod s).length∧zok (bod s)=true→a=frm s∧e=0)∧(e=0→a=frm s∧((bod s).all isD=true∧1≤(bod s).length∧zok (bod s)=true∨s.contains 46=true)):=by
  intro f hf hfl
  have hd:s.drop f=bod s:=by rw [hf,drop_frm]
  have hdl:(bod s).length=s.length - f:=by rw [← hd,List.length_drop]
  have hle:=lead_le (bod s)
  rw [run_eq hn s (by omega) f hfl,Option.bind_some,hd]
  by_cases hl:lead (bod s)=0
  ·simp only [hl,if_true]
   have nope:¬ ((bod s).all isD=true∧1≤(bod s).length∧zok (bod s)=true):=by
    rintro ⟨x,y,_⟩
    have:=lead_full _ x
    omega
   by_cases hl2:f < s.length
   ·simp only [hl2,if_true]
    exact ⟨_,_,8,rfl,fun h=>absurd h nope,nofun⟩
   ·simp only [hl2,if_false]
    exact ⟨_,_,9,rfl,fun h=>absurd h nope,nofun⟩
  ·have hfl2:f < s.length:=by omega
   have eb:s[f]=(bod s).getD 0 0:=by
    rw [← hd]
    simp [List.getD_eq_getElem?_getD,hfl2]
   simp only [hl,if_false,getD_at hfl2,bne_self_eq_false,cond_false]
   rw [cond_t (show (f:Int) < ((s.length:Nat):Int) by omega)]
   have tail:=layout_tail hn s hs f (lead (bod s)) (by omega) n (by omega)
   obtain ⟨a,b,e,t1,t2,t3,t4⟩:=tail
   have use:zok (bod s)=true→∃ a b e:Int,Q41.l n n (.z8 (bs s) f ((f+lead (bod s):Nat):Int))=some (a,b,e)∧
     ((bod s).all isD=true∧1≤(bod s).length∧zok (bod s)=true→a=frm s∧e=0)∧(e=0→a=frm s∧((bod s).all isD=true∧1≤(bod s).length∧zok (bod s)=true∨s.contains 46=true)):=by
    intro hz
    refine ⟨a,b,e,t1,?_,?_⟩
    ·rintro ⟨x,y,_⟩
     have:=lead_full _ x
     rw [← hf]
     exact t2 (by omega)
    ·intro he
     refine ⟨by rw [← hf]; exact t3 he,?_⟩
     by_cases hq:f+lead (bod s) < s.length
     ·exact .inr (t4 he hq)
     ·exact .inl ⟨lead_eq (by omega),by omega,hz⟩
   by_cases h48:s[f]=48
   ·have hb:(((s[f].toNat:Nat):Int)==48)=true:=by rw [h48]; rfl
    rw [hb,cond_true]
    by_cases h1:lead (bod s) > 1
    ·rw [cond_t (by omega)]
     refine ⟨_,_,8,rfl,?_,nofun⟩
     rintro ⟨_,_,hz⟩
     exact absurd ⟨by omega,by rw [← eb]; exact h48⟩ ((zok_iff _).1 hz)
    ·rw [cond_f (by omega)]
     by_cases hz:zok (bod s)=true
     ·exact use hz
     ·refine ⟨a,b,e,t1,fun h=>absurd h.2.2 hz,?_⟩
      intro he
      refine ⟨by rw [← hf]; exact t3 he,?_⟩
      have:f+lead (bod s) < s.length:=by
       have hx:1 < (bod s).length:=by
        refine Classical.byContradiction fun h=>hz ((zok_iff _).2 fun ⟨x,_⟩=>h x)
       omega
      exact .inr (t4 he this)
   ·have hb:(((s[f].toNat:Nat):Int)==48)=false:=by
     rw [beq_eq_false_iff_ne]
     intro e
     have e2:s[f].toNat=48:=by omega
     exact h48 (UInt8.toNat_inj.1 (by rw [e2]; rfl))
    rw [hb,cond_false]
    exact use ((zok_iff _).2 fun ⟨_,x⟩=>h48 (by rw [eb]; exact x))
 unfold Q41.F Q41.e
 rw [bs_size,cond_t (by omega)]
 simp only [getD_at hpos,sgn_byte hpos]
 cases hsg:sgn s
 ·rw [cond_false]
  have:=fin 0 (by unfold frm; rw [hsg]; rfl) (by omega)
  have w1:IntKind.i64.wrap ((0:Int)+1)=((0+1:Nat):Int):=rfl
  rw [w1]
  simp only [getD_at hpos] at this
  exact this
 ·rw [cond_true]
  have:=fin 1 (by unfold frm; rw [hsg]; rfl) (by omega)
  have w1:IntKind.i64.wrap ((1:Int)+1)=((1+1:Nat):Int):=rfl
  rw [w1]
  exact this
end
end Go.Proofs.YtmpglmcjoelciaaGreatDoor.Ev
namespace Go.Proofs.YtmpglmcjoelciaaGreatDoor.Ev
open Go Go.Proofs Go.Proofs.Ev
set_option linter.unusedVariables false
set_option linter.unusedSimpArgs false
section
variable {n:Nat}
theorem contains46 (l:List UInt8) (hl:l.length≤100000):Q4f.F n (bs l) (⟨#[46]⟩ : ByteArray)=some (l.contains 46):=by
 unfold Q4f.F Q4f.e Q4h.F
 rw [cond_t (by rw [bs_size]; omega),Option.bind_some]
 show some (decide (Lib.index l [46]≥0))=_
 rw [Lib.index_one,← has_eq]
theorem cut_len (s sep:List UInt8):(Lib.cut s sep).1.length≤s.length∧(Lib.cut s sep).2.1.length≤s.length:=by
 unfold Lib.cut
 split
 ·exact ⟨by simp; omega,by simp⟩
 ·exact ⟨Nat.le_refl _,by simp⟩
theorem cut_miss {s:List UInt8} (h:s.contains 46=false):Lib.cut s [46]=(s,[],false):=by
 unfold Lib.cut
 rw [if_neg]
 rw [Lib.index_one]
 have:=has_eq 46 s
 rw [h] at this
 simpa using this
theorem pn_any (s r:ByteArray) (f:Int) (a7 a8:Int) (l:List UInt8) (hl:l.length≤100000):∀ (d i m:Nat) (v:Int),i+d=l.length→d < m→∃ x,Q3v.l n m (.z13 s f r v l.length i a7 a8 (l.map fun b=>vu b.toNat))=some (x,((r.size:Nat):Int),((s.size:Nat):Int),0)
 | _,_,0,_,_,h=>absurd h (by omega)
 | 0,i,m+1,v,h,_=>by
  rw [Q3v.at13]
  unfold Q3v.r13
  simp (disch:=omega) only [Option.bind_some,Option.bind_none,cond_true,cond_false,Bool.not_true,Bool.not_false,List.length_map,Ws_length,bs_size,within_t,upto_t,wsucc,Int.toNat_natCast,at_mapN,Ws_getDN,cells_agg,cells_v,withCons_cons,withInt_mk,withStr_mk,withBool_mk,withSl_mk,cond_t,cond_f]
  cases f==1
  ·exact ⟨_,rfl⟩
  ·exact ⟨_,rfl⟩
 | d+1,i,m+1,v,h,hm=>by
  have hi:i < l.length:=by omega
  rw [Q3v.at13]
  unfold Q3v.r13
  have e:(l.map fun b=>vu b.toNat).getD i AV.undef=vu l[i].toNat:=by simp [List.getD_eq_getElem?_getD,hi]
  simp (disch:=omega) only [Option.bind_some,Option.bind_none,cond_true,cond_false,Bool.not_true,Bool.not_false,List.length_map,Ws_length,bs_size,within_t,upto_t,wsucc,Int.toNat_natCast,at_mapN,Ws_getDN,cells_agg,cells_v,withCons_cons,withInt_mk,withStr_mk,withBool_mk,withSl_mk,cond_t,cond_f,e]
  exact pn_any s r f a7 a8 l hl d (i+1) m _ (by omega) (by omega)
theorem pn_val (s r:ByteArray) (f:Int) (a7 a8:Int) (l:List UInt8) (hl:l.length≤15) (hd:l.all isD=true):∀ (d i m v:Nat),i+d=l.length→d < m→v < 10 ^ i→
  Q3v.l n m (.z13 s f r (v:Int) l.length i a7 a8 (l.map fun b=>vu b.toNat))=some ((if f=1 then -(valA v (l.drop i):Int) else (valA v (l.drop i):Int)),((r.size:Nat):Int),((s.size:Nat):Int),0)
 | _,_,0,_,_,h,_=>absurd h (by omega)
 | 0,i,m+1,v,h,_,hv=>by
  have hp:10 ^ i≤10 ^ 15:=Nat.pow_le_pow_right (by omega) (by omega)
  rw [Q3v.at13]
  unfold Q3v.r13
  simp (disch:=omega) only [Option.bind_some,Option.bind_none,cond_true,cond_false,Bool.not_true,Bool.not_false,List.length_map,Ws_length,bs_size,within_t,upto_t,wsucc,Int.toNat_natCast,at_mapN,Ws_getDN,cells_agg,cells_v,withCons_cons,withInt_mk,withStr_mk,withBool_mk,withSl_mk,cond_t,cond_f]
  rw [List.drop_of_length_le (by omega),w64 (by omega) (by omega),beq_int,bif_ite,Int.zero_sub]
  show (if f=1 then some (-(valA v []:Int),_) else some ((valA v []:Int),_))=_
  split <;> rfl
 | d+1,i,m+1,v,h,hm,hv=>by
  have hi:i < l.length:=by omega
  have hp:10 ^ i≤10 ^ 14:=Nat.pow_le_pow_right (by omega) (by omega)
  have hdi:=(isD_iff _).1 (List.all_eq_true.1 hd l[i] (List.getElem_mem hi))
  have ih:=pn_val s r f a7 a8 l hl hd d (i+1) m (v*10+(l[i].toNat - 48)) (by omega) (by omega) (by rw [Nat.pow_succ]; omega)
  rw [Q3v.at13]
  unfold Q3v.r13
  have e:(l.map fun b=>vu b.toNat).getD i AV.undef=vu l[i].toNat:=by simp [List.getD_eq_getElem?_getD,hi]
  have e1:IntKind.i64.wrap (IntKind.i64.wrap ((v:Int)*10)+IntKind.i64.wrap (IntKind.u8.wrap (((l[i].toNat:Nat):Int) - 48)))=((v*10+(l[i].toNat - 48):Nat):Int):=by
   rw [w8]
   have:(((l[i].toNat:Nat):Int) - 48) % 256=((l[i].toNat - 48:Nat):Int):=by omega
   rw [this,w64 (x:=(v:Int)*10) (by omega) (by omega),w64 (x:=((l[i].toNat - 48:Nat):Int)) (by omega) (by omega),w64 (by omega) (by omega)]
   omega
  simp (disch:=omega) only [Option.bind_some,Option.bind_none,cond_true,cond_false,Bool.not_true,Bool.not_false,List.length_map,Ws_length,bs_size,within_t,upto_t,wsucc,Int.toNat_natCast,at_mapN,Ws_getDN,cells_agg,cells_v,withCons_cons,withInt_mk,withStr_mk,withBool_mk,withSl_mk,cond_t,cond_f,e,e1]
  rw [ih,List.drop_eq_getElem_cons hi,valA_cons]
theorem trim_eq (l:List UInt8):Q4k.F n (bs l) (⟨#[48]⟩ : ByteArray)=some (bs (l.dropWhile (·==48))):=by
 unfold Q4k.F
 rfl
theorem bod_no46 {s:List UInt8} (h:s.contains 46=true):(bod s).all isD=false:=by
 rw [← Bool.not_eq_true]
 intro h2
 have hm:(46:UInt8)∈bod s:=by
  have h1:(46:UInt8)∈s:=List.contains_iff_mem.1 h
  unfold bod
  cases hs:sgn s
  ·simpa using h1
  ·simp only [if_true]
   match s,h1,hs with
   | c::r,h1,hs=>
    have hc:c=45:=by simpa [sgn] using hs
    rcases List.mem_cons.1 h1 with e | e
    ·rw [hc] at e; cases e
    ·exact e
 have:=List.all_eq_true.1 h2 46 hm
 cases this
theorem whole_eq (hn:100002≤n) (s:List UInt8) (h0:s≠[]) (hs:s.length≤100000):∃ v,Q1m.F n (bs s)=some (v,(numP s).isSome)∧∀ k,numP s=some k→v=k:=by
 have hpos:0 < s.length:=List.length_pos_iff.2 h0
 have hbl:(bod s).length≤s.length∧s.length≤(bod s).length+1:=by
  unfold bod
  split
  ·rw [List.length_drop]; omega
  ·omega
 unfold Q1m.F Q1m.e Q3v.F Q3v.e
 simp only [bs_size,ncond_eq,Option.bind_some]
 rw [nfirst2 (by omega),Option.bind_some,empty_eq,contains46 s hs]
 simp only [h0,decide_false,Bool.false_eq_true,if_false,decide_eq_true_eq]
 by_cases h40:((s.length:Nat):Int) > 40
 ·have hnp:numP s=none:=by
   unfold numP
   rw [if_neg]
   rw [numD_iff]
   rintro ⟨_,h,_⟩
   omega
  rw [hnp]
  simp only [h40,if_true]
  exact ⟨0,rfl,nofun⟩
 ·simp only [h40,if_false]
  obtain ⟨a,b,e,l1,l2,l3⟩:=layout_eq hn s (by omega) h0
  rw [show ((if (0:Int)≠0 then (0:Int) else 0) != 0)=false from rfl,cond_false,l1,Option.bind_some]
  dsimp only
  rw [bif_ne]
  by_cases he:e=0
  ·rw [if_neg (by simp [he])]
   obtain ⟨ha,hor⟩:=l3 he
   have hfr:frm s≤s.length:=by unfold frm; split <;> omega
   have hex:(bs s).extract (frm s) s.length=bs (bod s):=by
    rw [bs_extract,drop_frm,List.take_of_length_le]
    unfold bod frm
    split <;> simp
   rw [ha,show (decide ((0:Int)≤((frm s:Nat):Int))&&decide (((frm s:Nat):Int)≤((s.length:Nat):Int)))=true by simp; omega,cond_true,Int.toNat_natCast]
   simp only [hex]
   unfold Q4g.F
   rw [cond_t (by rw [bs_size]; omega),Option.bind_some]
   dsimp only
   obtain ⟨c1,c2⟩:=cut_len (bod s) [46]
   rw [show (⟨(Lib.cut (bs (bod s)).data.toList (⟨#[46]⟩ : ByteArray).data.toList).1.toArray⟩ : ByteArray)=bs (Lib.cut (bod s) [46]).1 from rfl,show (⟨(Lib.cut (bs (bod s)).data.toList (⟨#[46]⟩ : ByteArray).data.toList).2.1.toArray⟩ : ByteArray)=bs (Lib.cut (bod s) [46]).2.1 from rfl,trim_eq,Option.bind_some]
   have tl:∀ l:List UInt8,(l.dropWhile (·==48)).length≤l.length:=fun l=>(List.dropWhile_sublist _).length_le
   have t1:=tl (Lib.cut (bod s) [46]).1
   rw [bs_size,bs_size,chk_t (by omega),bs_append,bs_size,bs_toList,List.length_map]
   by_cases h46:s.contains 46=true
   ·have hnp:numP s=none:=by
     unfold numP
     rw [if_neg]
     rw [numD_iff]
     rintro ⟨_,_,h,_⟩
     rw [bod_no46 h46] at h
     cases h
    rw [hnp,h46]
    by_cases h15:(((((Lib.cut (bod s) [46]).1.dropWhile (·==48))++(Lib.cut (bod s) [46]).2.1).length:Nat):Int) > 15
    ·rw [cond_t h15]
     exact ⟨0,rfl,nofun⟩
    ·rw [cond_f h15]
     obtain ⟨x,hx⟩:=pn_any (n:=n) (bs s) (bs (Lib.cut (bod s) [46]).2.1) ((frm s:Nat):Int) 0 0 (((Lib.cut (bod s) [46]).1.dropWhile (·==48))++(Lib.cut (bod s) [46]).2.1) (by rw [List.length_append]; omega) _ 0 n 0 (Nat.zero_add _) (by rw [List.length_append]; omega)
     have e0:((0:Nat):Int)=0:=rfl
     rw [e0] at hx
     rw [hx]
     exact ⟨x,rfl,nofun⟩
   ·have h46' : s.contains 46=false:=by simpa using h46
    obtain ⟨d1,d2,d3⟩ : (bod s).all isD=true∧1≤(bod s).length∧zok (bod s)=true:=by
     rcases hor with h | h
     ·exact h
     ·exact absurd h h46
    have hb46:(bod s).contains 46=false:=by
     rw [← Bool.not_eq_true]
     intro h
     have:=List.all_eq_true.1 d1 46 (List.contains_iff_mem.1 h)
     cases this
    rw [cut_miss hb46,h46']
    simp only [List.append_nil]
    have hfe:(((frm s:Nat):Int)=1)↔sgn s=true:=by
     unfold frm
     cases sgn s <;> simp
    -- the digits behind zeros
    by_cases hz:bod s=[48]
    ·have hnp:numP s=some 0:=by
      unfold numP
      rw [hz,if_pos (by decide)]
      cases sgn s <;> rfl
     rw [hnp,hz]
     refine ⟨0,?_,fun k hk=>by cases hk; rfl⟩
     have e1:([48]:List UInt8).dropWhile (·==48)=[]:=rfl
     rw [e1]
     have hv:=pn_val (n:=n) (bs s) (bs []) ((frm s:Nat):Int) 0 0 [] (by simp) rfl 0 0 n 0 rfl (by omega) (by simp)
     have e0:((0:Nat):Int)=0:=rfl
     have e2:(([]:List UInt8).length:Int)=0:=rfl
     rw [e0,e2] at hv
     rw [e2,show decide ((0:Int) > 15)=false from rfl,cond_false,hv]
     simp [valA]
    ·have hdw:(bod s).dropWhile (·==48)=bod s:=by
      have h1:¬ (1 < (bod s).length∧(bod s).getD 0 0=48):=(zok_iff _).1 d3
      match hb:bod s,d2,hz,h1 with
      | c::r,_,hz,h1=>
       have:(c==48)=false:=by
        rw [beq_eq_false_iff_ne]
        intro e
        refine h1 ⟨?_,e⟩
        match r,hz with
        | [],hz=>exact absurd (by rw [e]) hz
        | _::_,_=>simp
       rw [List.dropWhile_cons,this]
       rfl
     rw [hdw]
     by_cases h15:(((bod s).length:Nat):Int) > 15
     ·have hnp:numP s=none:=by
       unfold numP
       rw [if_neg]
       rw [numD_iff]
       rintro ⟨_,h,_⟩
       omega
      rw [hnp,cond_t h15]
      exact ⟨0,rfl,nofun⟩
     ·have hnd:numD (bod s)=true:=by rw [numD_iff]; exact ⟨d2,by omega,d1,(zok_iff _).1 d3⟩
      rw [cond_f h15]
      have hv:=pn_val (n:=n) (bs s) (bs []) ((frm s:Nat):Int) 0 0 (bod s) (by omega) d1 (bod s).length 0 n 0 (Nat.zero_add _) (by omega) (by simp)
      have e0:((0:Nat):Int)=0:=rfl
      rw [e0,List.drop_zero] at hv
      rw [hv]
      unfold numP
      rw [if_pos hnd]
      simp only [hfe]
      exact ⟨_,rfl,fun k hk=>by cases hk; rfl⟩
  ·rw [if_pos he]
   have hnp:numP s=none:=by
    unfold numP
    rw [if_neg]
    intro h
    rw [numD_iff] at h
    obtain ⟨x,_,y,z⟩:=h
    exact he (l2 ⟨y,x,(zok_iff _).2 z⟩).2
   rw [hnp]
   have:(e==0)=false:=by simpa using he
   simp only [Option.bind_some,this,cond_false]
   exact ⟨0,rfl,nofun⟩
end
end Go.Proofs.YtmpglmcjoelciaaGreatDoor.Ev
namespace Go.Proofs.YtmpglmcjoelciaaGreatDoor.Ev
open Go Go.Proofs Go.Proofs.Ev
set_option linter.unusedVariables false
set_option linter.unusedSimpArgs false
def prd:List UInt8→Bool
 | []=>true
 | [c]=>!(c==39)
 | c::d::r=>if c=39 then (d==39)&&prd r else prd (d::r)
def unq:List UInt8→List UInt8
 | []=>[]
 | [c]=>[c]
 | c::d::r=>if c=39 then 39::unq r else c::unq (d::r)
theorem prd_cons {c:UInt8} (h:c≠39) (r:List UInt8):prd (c::r)=prd r:=by
 cases r with
 | nil=>simp [prd,h]
 | cons d r=>rw [prd,if_neg h]
theorem unq_cons {c:UInt8} (h:c≠39) (r:List UInt8):unq (c::r)=c::unq r:=by
 cases r with
 | nil=>rfl
 | cons d r=>rw [unq,if_neg h]
structure Good (w:List UInt8):Prop where
 pos:w≠[]
 len:w.length≤1000
 str:w.getD 0 0=39→∃ q,prd q=true∧w=39::(q++[39])
 bare:w.getD 0 0≠39→w.contains 39=false
theorem qt_good:∀ (k:Nat) (r:List UInt8) (i e:Nat),r.length≤k→qt r i=some e→∃ q,prd q=true∧e=i+q.length+1∧r.take (q.length+1)=q++[39]
 | _,[],_,_,_,h=>by cases h
 | 0,_::_,_,_,hk,_=>absurd hk (by simp)
 | k+1,c::r,i,e,hk,h=>by
  unfold qt at h
  by_cases hc:c=39
  ·rw [if_neg (by simp [hc])] at h
   cases r with
   | nil=>cases h; exact ⟨[],rfl,rfl,by rw [hc]; rfl⟩
   | cons d r'=>
    dsimp only at h
    by_cases hd:d=39
    ·rw [if_pos hd] at h
     obtain ⟨q,q1,q2,q3⟩:=qt_good k r' (i+2) e (by simp at hk; omega) h
     refine ⟨39::39::q,?_,by simp; omega,?_⟩
     ·rw [prd,if_pos rfl,q1]; rfl
     ·rw [hc,hd]
      simp only [List.length_cons,List.take_succ_cons,q3]
      rfl
    ·rw [if_neg hd] at h
     cases h
     exact ⟨[],rfl,rfl,by rw [hc]; rfl⟩
  ·rw [if_pos hc] at h
   obtain ⟨q,q1,q2,q3⟩:=qt_good k r (i+1) e (by simp at hk; omega) h
   refine ⟨c::q,by rw [prd_cons hc]; exact q1,by simp; omega,?_⟩
   simp only [List.length_cons,List.take_succ_cons,q3]
   rfl
theorem wrd_good {l:List UInt8} (h:wrd l≠0) (hl:l.length≤1000):Good (l.take (wrd l)):=by
 have hle:=wrd_le l
 match l,h,hl,hle with
 | [],h,_,_=>exact absurd rfl h
 | c::r,h,hl,hle=>
  have h1:(c::r).take (wrd (c::r))≠[]:=by
   intro e
   have:=congrArg List.length e
   rw [List.length_take,List.length_nil] at this
   simp only [List.length_cons] at this hle
   omega
  have hd:((c::r).take (wrd (c::r))).getD 0 0=c:=by
   obtain ⟨k,hk⟩ : ∃ k,wrd (c::r)=k+1:=⟨wrd (c::r) - 1,by omega⟩
   rw [hk]
   rfl
  refine ⟨h1,by rw [List.length_take]; omega,?_,?_⟩
  ·intro h39
   rw [hd] at h39
   rw [wrd_cons,if_pos h39] at h ⊢
   cases hq:qt r 1 with
   | none=>rw [hq] at h; exact absurd rfl h
   | some e=>
    rw [hq] at h
    dsimp only at h ⊢
    by_cases hx:e < (c::r).length∧(c::r).getD e 0≠32
    ·rw [if_pos hx] at h; exact absurd rfl h
    ·rw [if_neg hx]
     obtain ⟨q,q1,q2,q3⟩:=qt_good r.length r 1 e (Nat.le_refl _) hq
     refine ⟨q,q1,?_⟩
     rw [q2,show 1+q.length+1=(q.length+1)+1 by omega,List.take_succ_cons,q3,h39]
  ·intro h39
   rw [hd] at h39
   rw [wrd_cons,if_neg h39] at h ⊢
   by_cases hx:((c::r).take (ib (c::r) 32)).contains 39=true
   ·rw [if_pos hx] at h; exact absurd rfl h
   ·rw [if_neg hx]
    simpa using hx
theorem wordsP_good:∀ (g:Nat) (l:List UInt8) (ws:List (List UInt8)),l.length≤1000→wordsP g l=some ws→∀ w∈ws,Good w
 | 0,_,_,_,h=>by cases h
 | g+1,l,ws,hl,h=>by
  unfold wordsP at h
  by_cases h0:wrd l=0
  ·rw [if_pos h0] at h; cases h
  ·rw [if_neg h0] at h
   have hg:=wrd_good h0 hl
   by_cases h1:wrd l=l.length
   ·rw [if_pos h1] at h
    cases h
    intro w hw
    rw [List.mem_singleton] at hw
    subst hw
    rw [h1,List.take_length] at hg
    exact hg
   ·rw [if_neg h1] at h
    cases hr:wordsP g (l.drop (wrd l+1)) with
    | none=>rw [hr] at h; cases h
    | some r=>
     rw [hr] at h
     cases h
     intro w hw
     rcases List.mem_cons.1 hw with rfl | hw
     ·exact hg
     ·exact wordsP_good g _ r (by rw [List.length_drop]; omega) hr w hw
theorem Good.has {w:List UInt8} (h:Good w):w.contains 39=(w.getD 0 0==39):=by
 by_cases h0:w.getD 0 0=39
 ·obtain ⟨q,_,e⟩:=h.str h0
  rw [h0,e]
  simp
 ·rw [h.bare h0]
  simpa using h0
def isB (w:List UInt8):Bool:=!(w.getD 0 0==39)
section
variable {n:Nat}
theorem isWord_eq {w:List UInt8} (h:Good w):Q3e.F n (bs w)=some (isB w):=by
 have hpos:0 < w.length:=List.length_pos_iff.2 h.pos
 have e0:w.getD 0 0=w[0]:=by simp [List.getD_eq_getElem?_getD,hpos]
 unfold Q3e.F Q3e.e isB
 rw [bs_size,cond_t (by omega),e0]
 simp only [getD_at hpos]
 by_cases h1:w[0]=39
 ·rw [h1]; rfl
 ·have h2:(w[0]==39)=false:=by simpa using h1
  have h3:((((w[0].toNat:Nat):Int)) != 39)=true:=by
   rw [bne_iff_ne]
   intro e
   have e2:w[0].toNat=39:=by omega
   exact h1 (UInt8.toNat_inj.1 (by rw [e2]; rfl))
  rw [h2,h3]
  rfl
theorem bares_l (ws:List (List UInt8)) (hw:ws.length≤1000) (hg:∀ w∈ws,Good w):∀ (d i m:Nat),i+d=ws.length→d < m→∃ x,Q4a.l n m (.z2 (Ws ws) ws.length i)=some x∧decide (x≥0)=!(ws.drop i).all isB
 | _,_,0,_,h=>absurd h (by omega)
 | 0,i,m+1,h,_=>by
  rw [Q4a.at2]
  unfold Q4a.r2
  simp (disch:=omega) only [Option.bind_some,Option.bind_none,cond_true,cond_false,Bool.not_true,Bool.not_false,List.length_map,Ws_length,bs_size,within_t,upto_t,wsucc,Int.toNat_natCast,at_mapN,Ws_getDN,cells_agg,cells_v,withCons_cons,withInt_mk,withStr_mk,withBool_mk,withSl_mk,cond_t,cond_f]
  rw [List.drop_of_length_le (by omega)]
  exact ⟨-1,rfl,rfl⟩
 | d+1,i,m+1,h,hm=>by
  have hi:i < ws.length:=by omega
  obtain ⟨x,h1,h2⟩:=bares_l ws hw hg d (i+1) m (by omega) (by omega)
  have hgi:=hg ws[i] (List.getElem_mem hi)
  have hc:=contains_eq (n:=n) ws[i] (by have:=hgi.len; omega)
  rw [Q4a.at2]
  unfold Q4a.r2
  simp (disch:=omega) only [Option.bind_some,Option.bind_none,cond_true,cond_false,Bool.not_true,Bool.not_false,List.length_map,Ws_length,bs_size,within_t,upto_t,wsucc,Int.toNat_natCast,at_mapN,Ws_getDN,cells_agg,cells_v,withCons_cons,withInt_mk,withStr_mk,withBool_mk,withSl_mk,cond_t,cond_f,Q0q.F,Q0q.e,hc,h1]
  rw [List.drop_eq_getElem_cons hi,List.all_cons,hgi.has]
  unfold isB at h2 ⊢
  by_cases h39:ws[i].getD 0 0=39
  ·refine ⟨i,by rw [h39]; rfl,?_⟩
   rw [h39]
   simp
  ·have:(ws[i].getD 0 0==39)=false:=by simpa using h39
   refine ⟨x,by rw [this]; rfl,?_⟩
   rw [h2,this]
   simp
theorem isBare_eq (hn:1001≤n) (ws:List (List UInt8)) (hw:ws.length≤1000) (hg:∀ w∈ws,Good w):Q0p.F n (Ws ws)=some (ws.all isB):=by
 unfold Q0p.F Q0p.e Q45.F Q45.e Q4a.F Q4a.e
 obtain ⟨x,h1,h2⟩:=bares_l (n:=n) ws hw hg ws.length 0 n (by omega) (by omega)
 rw [List.drop_zero] at h2
 have e0:((0:Nat):Int)=0:=rfl
 rw [e0] at h1
 rw [Ws_length,h1,Option.bind_some,Option.bind_some,h2,Bool.not_not]
theorem replU:∀ (j:Nat) (s:List UInt8) (k:Nat),s.length≤j→prd s=true→Lib.count s [39,39]≤k→Lib.replaceK [39,39] [39] k s=unq s
 | _,[],0,_,_,_=>rfl
 | _,[],k+1,_,_,_=>rfl
 | 0,_::_,_,hj,_,_=>absurd hj (by simp)
 | j+1,c::s,k,hj,hp,h=>by
  by_cases hc:c=39
  ·subst hc
   match s,hj,hp,h with
   | [],_,hp,_=>cases hp
   | d::r,hj,hp,h=>
    rw [prd,if_pos rfl,Bool.and_eq_true,beq_iff_eq] at hp
    obtain ⟨rfl,hp⟩:=hp
    have hi:Lib.index (39::39::r) [39,39]=((0:Nat):Int):=by simp [Lib.index]
    have hct:=Lib.count_hit (by simp) hi
    simp only [List.length_cons,List.length_nil,Nat.zero_add,List.drop_succ_cons,List.drop_zero] at hct
    obtain ⟨k,rfl⟩ : ∃ q,k=q+1:=⟨k - 1,by omega⟩
    rw [Lib.replaceK_hit [39,39] [39] k (39::39::r) 0 hi,unq,if_pos rfl]
    simp only [List.take_zero,List.nil_append,List.length_cons,List.length_nil,Nat.zero_add,List.drop_succ_cons,List.drop_zero]
    rw [replU j r k (by simp at hj; omega) hp (by omega)]
    rfl
  ·rw [prd_cons hc] at hp
   rw [unq_cons hc]
   have hcn:([39,39]:List UInt8).isPrefixOf (c::s)=false:=by
    simp [List.isPrefixOf]
    intro e; exact absurd e.symm hc
   have hix:Lib.index (c::s) [39,39]=if Lib.index s [39,39]==-1 then -1 else Lib.index s [39,39]+1:=by
    rw [Lib.index,hcn]; rfl
   have hge:=Lib.index_ge s [39,39]
   by_cases hm:Lib.index s [39,39]=-1
   ·have hm' : Lib.index (c::s) [39,39]=-1:=by rw [hix,hm]; rfl
    have ih:=replU j s 0 (by simp at hj; omega) hp (by rw [Lib.count_miss hm]; omega)
    rw [Lib.replaceK] at ih
    rw [← ih]
    cases k with
    | zero=>rfl
    | succ k=>rw [Lib.replaceK,if_pos (by rw [hm']; rfl)]
   ·obtain ⟨i,hi⟩ : ∃ i:Nat,Lib.index s [39,39]=i:=⟨(Lib.index s [39,39]).toNat,by omega⟩
    have hi' : Lib.index (c::s) [39,39]=((i+1:Nat):Int):=by
     rw [hix,if_neg (by rw [beq_iff_eq]; exact hm),hi]; rfl
    have c1:=Lib.count_hit (by simp) hi
    have c2:=Lib.count_hit (by simp) hi'
    have hlen:i+1+([39,39]:List UInt8).length=(i+([39,39]:List UInt8).length)+1:=by simp
    rw [hlen,List.drop_succ_cons,← c1] at c2
    rw [c2] at h
    obtain ⟨k,rfl⟩ : ∃ q,k=q+1:=⟨k - 1,by omega⟩
    have ih:=replU j s (k+1) (by simp at hj; omega) hp h
    rw [Lib.replaceK_hit _ _ k s i hi] at ih
    rw [Lib.replaceK_hit _ _ k (c::s) (i+1) hi',hlen,List.drop_succ_cons,List.take_succ_cons,← ih]
    simp
theorem replaceU_eq (s:List UInt8) (hs:s.length≤100000) (hp:prd s=true):Q4j.F n (bs s) (bs [39,39]) (bs [39])=some (bs (unq s)):=by
 unfold Q4j.F
 have hc:Lib.countB (bs s) (bs [39,39])≤s.length:=Lib.countB_le (bs [39,39]) (by decide) s.length (bs s) (by rw [bs_size]; omega)
 have hg:((decide ((bs s).size < 4294967281)&&decide (1≤(bs [39,39]).size))&&decide ((bs s).size+Lib.countB (bs s) (bs [39,39])*(bs [39]).size≤140737488355328))=true:=by
  rw [Bool.and_eq_true,Bool.and_eq_true,decide_eq_true_eq,decide_eq_true_eq,decide_eq_true_eq,bs_size,bs_size,bs_size]
  simp only [List.length_cons,List.length_nil]
  omega
 rw [hg,cond_true]
 have:Lib.replaceAll (bs s).data.toList (bs [39,39]).data.toList (bs [39]).data.toList=unq s:=by
  show Lib.replaceAll s [39,39] [39]=unq s
  unfold Lib.replaceAll Lib.replace Lib.replaceNum
  rw [if_neg (by decide),if_pos (by left; decide),replU s.length s _ (Nat.le_refl _) hp (Nat.le_refl _)]
 rw [this]
end
end Go.Proofs.YtmpglmcjoelciaaGreatDoor.Ev
namespace Go.Proofs.YtmpglmcjoelciaaGreatDoor.Ev
open Go Go.Proofs Go.Proofs.Ev
set_option linter.unusedVariables false
set_option linter.unusedSimpArgs false
def valP (w:List UInt8):Option (Int × List UInt8):=if w.getD 0 0=39 then some (0,unq (w.drop 1).dropLast) else (numP w).map fun v=>(v,[])
section
variable {n:Nat}
theorem unq_l (hn:10≤n):∀ (k:Nat) (r p acc:List UInt8) (m:Nat),r.length≤k→prd r=true→r.length < m→p.length+r.length≤1000→acc.length≤p.length→
  Q3q.l n m (.z3 (bs (39::(p++(r++[39])))) (bs acc) ((1+p.length:Nat):Int))=some (bs (acc++unq r))
 | _,_,_,_,0,_,_,h,_,_=>absurd h (by omega)
 | k,[],p,acc,m+1,_,_,_,hl,ha=>by
  rw [Q3q.at3]
  unfold Q3q.r3
  have hsz:(bs (39::(p++(([]:List UInt8)++[39])))).size=p.length+2:=by rw [bs_size]; simp
  simp only [hsz]
  rw [w64 (by omega) (by omega),cond_f (by simp at hl; omega)]
  simp [unq]
 | 0,_::_,_,_,_+1,hk,_,_,_,_=>absurd hk (by simp)
 | k+1,c::r,p,acc,m+1,hk,hp,hm,hl,ha=>by
  simp only [List.length_cons] at hk hm hl
  have hsz:(39::(p++(c::r++[39]))).length=p.length+r.length+3:=by simp; omega
  have hi:1+p.length < (39::(p++(c::r++[39]))).length:=by omega
  have hc0:(39::(p++(c::r++[39])))[1+p.length]=c:=by
   rw [List.getElem_cons]
   simp
  rw [Q3q.at3]
  unfold Q3q.r3
  have w1:IntKind.i64.wrap (((bs (39::(p++(c::r++[39])))).size:Int) - 1)=((p.length+r.length+2:Nat):Int):=by
   rw [bs_size,hsz,w64 (by omega) (by omega)]
   omega
  simp only [w1]
  rw [cond_t (by omega),wsucc (by omega)]
  have u1:(decide ((0:Int)≤((1+p.length+1:Nat):Int))&&decide (((1+p.length+1:Nat):Int)≤(((bs (39::(p++(c::r++[39])))).size:Nat):Int)))=true:=by
   rw [bs_size,hsz,Bool.and_eq_true,decide_eq_true_eq,decide_eq_true_eq]; omega
  have u2:(decide ((0:Int)≤((1+p.length:Nat):Int))&&decide (((1+p.length:Nat):Int)≤((1+p.length+1:Nat):Int)))=true:=by
   rw [Bool.and_eq_true,decide_eq_true_eq,decide_eq_true_eq]; omega
  have u3:(decide ((0:Int)≤((1+p.length:Nat):Int))&&decide (((1+p.length:Nat):Int) < (((bs (39::(p++(c::r++[39])))).size:Nat):Int)))=true:=by
   rw [bs_size,hsz,Bool.and_eq_true,decide_eq_true_eq,decide_eq_true_eq]; omega
  rw [u1,u2,u3]
  simp only [cond_true,Int.toNat_natCast]
  simp only [cut1 hi,byte_at hi,hc0]
  rw [chk_t (by rw [bs_size,bs_size]; simp; omega),bs_append]
  by_cases hc:c=39
  ·match r,hp,hc,hk,hm,hl with
   | [],hp,hc,_,_,_=>rw [hc] at hp; cases hp
   | d::r',hp,hc,hk,hm,hl=>
    subst hc
    rw [prd,if_pos rfl,Bool.and_eq_true,beq_iff_eq] at hp
    obtain ⟨rfl,hp⟩:=hp
    simp only [List.length_cons] at hk hm hl
    have hb:(((39:UInt8).toNat:Int)==39)=true:=rfl
    rw [hb,cond_true,wsucc (by omega)]
    have ih:=unq_l hn k r' (p++[39,39]) (acc++[39]) m (by omega) hp (by omega) (by simp; omega) (by simp; omega)
    have e1:39::(p++[39,39]++(r'++[39]))=39::(p++(39::39::r'++[39])):=by simp
    have e2:1+(p++[39,39]).length=1+p.length+1+1:=by simp; omega
    rw [e1,e2] at ih
    rw [ih,unq,if_pos rfl]
    simp
  ·rw [prd_cons hc] at hp
   have hb:(((c.toNat:Nat):Int)==39)=false:=by
    rw [beq_eq_false_iff_ne]
    intro e
    have e2:c.toNat=39:=by omega
    exact hc (UInt8.toNat_inj.1 (by rw [e2]; rfl))
   rw [hb,cond_false]
   have ih:=unq_l hn k r (p++[c]) (acc++[c]) m (by omega) hp (by omega) (by simp; omega) (by simp; omega)
   have e1:39::(p++[c]++(r++[39]))=39::(p++(c::r++[39])):=by simp
   have e2:1+(p++[c]).length=1+p.length+1:=by simp; omega
   rw [e1,e2] at ih
   rw [ih,unq_cons hc]
   simp
theorem inner_eq (q:List UInt8):((39::(q++[39])).drop 1).dropLast=q:=by simp
theorem unquoted_eq (hn:1100≤n) {q:List UInt8} (hp:prd q=true) (hq:q.length≤1000):Q3q.F n (bs (39::(q++[39])))=some (bs (unq q)):=by
 unfold Q3q.F Q3q.e
 exact unq_l (by omega) q.length q [] [] n (Nat.le_refl _) hp (by omega) (by simp; omega) (by simp)
theorem byte0 {w:List UInt8} (h:0 < w.length):((((w[0].toNat:Nat):Int))==39)=(w.getD 0 0==39):=by
 have e0:w.getD 0 0=w[0]:=by simp [List.getD_eq_getElem?_getD,h]
 rw [e0,beq_int]
 by_cases h1:w[0]=39
 ·rw [h1]; rfl
 ·have h2:(w[0]==39)=false:=by simpa using h1
  rw [h2,decide_eq_false_iff_not]
  intro e
  have e2:w[0].toNat=39:=by omega
  exact h1 (UInt8.toNat_inj.1 (by rw [e2]; rfl))
theorem valueOf_eq (hn:100002≤n) {w:List UInt8} (h:Good w):∃ a b,Q1l.F n (bs w)=some (a,b,(valP w).isSome)∧∀ k,valP w=some k→a=k.1∧b=bs k.2:=by
 have hpos:0 < w.length:=List.length_pos_iff.2 h.pos
 have hlen:=h.len
 unfold Q1l.F Q1l.e valP
 rw [bs_size,cond_t (by omega)]
 simp only [getD_at hpos,byte0 hpos]
 by_cases h39:w.getD 0 0=39
 ·obtain ⟨q,q1,rfl⟩:=h.str h39
  have hql:(39::(q++[39])).length=q.length+2:=by simp
  rw [if_pos h39,h39,inner_eq]
  have w1:IntKind.i64.wrap ((((39::(q++[39])).length:Nat):Int) - 1)=((q.length+1:Nat):Int):=by
   rw [hql,w64 (by omega) (by omega)]; omega
  have u1:(decide ((0:Int)≤((q.length+1:Nat):Int))&&decide (((q.length+1:Nat):Int)≤(((39::(q++[39])).length:Nat):Int)))=true:=by
   rw [hql,Bool.and_eq_true,decide_eq_true_eq,decide_eq_true_eq]; omega
  have u2:(decide ((0:Int)≤1)&&decide ((1:Int)≤((q.length+1:Nat):Int)))=true:=by
   rw [Bool.and_eq_true,decide_eq_true_eq,decide_eq_true_eq]; omega
  have ex:(bs (39::(q++[39]))).extract 1 (q.length+1)=bs q:=by
   rw [bs_extract]
   congr 1
   simp
  simp only [beq_self_eq_true,cond_true,w1,u1,u2,Int.toNat_natCast]
  rw [ex,lit2,lit1,replaceU_eq q (by rw [hql] at hlen; omega) q1]
  exact ⟨0,bs (unq q),rfl,fun k hk=>by cases hk; exact ⟨rfl,rfl⟩⟩
 ·have hb:(w.getD 0 0==39)=false:=by simpa using h39
  rw [if_neg h39,hb,cond_false]
  obtain ⟨v,v1,v2⟩:=whole_eq hn w h.pos (by omega)
  rw [v1,Option.bind_some]
  refine ⟨v,⟨#[]⟩,by rw [Option.isSome_map],?_⟩
  intro k hk
  cases hp:numP w with
  | none=>rw [hp] at hk; cases hk
  | some x=>rw [hp] at hk; cases hk; exact ⟨v2 x hp,rfl⟩
theorem valueR_eq (hn:1100≤n) {w:List UInt8} (h:Good w):∃ a b,Q3r.F n (bs w)=some (a,b,(valP w).isSome)∧∀ k,valP w=some k→a=k.1∧b=bs k.2:=by
 have hlen:=h.len
 unfold Q3r.F Q3r.e valP
 rw [isWord_eq h,Option.bind_some]
 unfold isB
 by_cases h39:w.getD 0 0=39
 ·obtain ⟨q,q1,rfl⟩:=h.str h39
  have hql:(39::(q++[39])).length=q.length+2:=by simp
  rw [if_pos h39,h39,inner_eq,unquoted_eq hn q1 (by rw [hql] at hlen; omega)]
  exact ⟨0,bs (unq q),rfl,fun k hk=>by cases hk; exact ⟨rfl,rfl⟩⟩
 ·have hb:(w.getD 0 0==39)=false:=by simpa using h39
  rw [if_neg h39,hb,numberR_eq (by omega) w h.pos]
  cases hp:numP w with
  | none=>exact ⟨0,⟨#[]⟩,rfl,nofun⟩
  | some x=>exact ⟨x,⟨#[]⟩,rfl,fun k hk=>by cases hk; exact ⟨rfl,rfl⟩⟩
end
end Go.Proofs.YtmpglmcjoelciaaGreatDoor.Ev
namespace Go.Proofs.YtmpglmcjoelciaaGreatDoor.Ev
open Go Go.Proofs Go.Proofs.Ev
set_option linter.unusedVariables false
section
variable {n:Nat} {nm fm:ByteArray} {ws:List (List UInt8)} {fs:List LF} {js:List JP} {ks:List KF} {uq:Bool} {rs:List RL}
theorem checkR19 (hn:10001≤n) (hw:1≤ws.length∧ws.length≤1000) (hf:fs.length≤1000) (hj:js.length≤1000) (hk:ks.length≤4∨ks.length≤1000) (hr:rs.length≤1000) (hc:∀ r∈rs,r.cs.length≤1000):∀ (d i m:Nat),i+d=fs.length→d+6000≤m→
  Q2s.l n m (.z19 i nm fm (Ws ws) (fs.map LF.av) (js.map JP.av) (ks.map KF.av) uq (rs.map RL.av))=some (tailF ws fs js ks uq rs i)
 | 0,i,m,h,hm=>by
  obtain ⟨m,rfl⟩ : ∃ q,m=q+1:=⟨m - 1,by omega⟩
  rw [Q2s.at19]
  unfold Q2s.r19 tailF
  simp only [List.length_map]
  rw [cond_f (by omega),List.drop_of_length_le (by omega),joinsR_eq (by omega) ws hw js hj,Option.bind_some,bif_ne]
  show _=some (if (0:Int)≠0 then _ else _)
  rw [if_neg (by simp:¬ (0:Int)≠0)]
  by_cases h1:(jErrT ws js).2=0
  ·rw [if_neg (by simp [h1]),if_neg (by simp [h1])]
   by_cases h4:ks.length > 4
   ·rw [cond_t (by omega),if_pos h4]
   ·rw [cond_f (by omega),if_neg h4]
    exact checkR36 (by omega) hf (by omega) hr hc ks.length 0 m (by omega) (by omega)
  ·rw [if_pos h1,if_pos h1]
 | d+1,i,m,h,hm=>by
  obtain ⟨m,rfl⟩ : ∃ q,m=q+1:=⟨m - 1,by omega⟩
  have hi:i < fs.length:=by omega
  have hnl:(names fs).length=fs.length:=by simp [names]
  have ih:=checkR19 hn hw hf hj hk hr hc d (i+1) m (by omega) (by omega)
  have hlt:=ixs_lt (names fs) fs[i].nm 0 i (by omega) (by rw [List.getElem?_eq_getElem (by omega)]; simp [names])
  rw [Nat.zero_add] at hlt
  rw [Q2s.at19]
  unfold Q2s.r19
  simp only [List.length_map]
  rw [cond_t (by omega),within_t hi,cond_true,at_map LF.av hi]
  show ((Q1t.F n (bs fs[i].nm)).bind fun p26=>bif !p26 then (some ((i:Int),7)) else ((Q2u.F n nm fm (Ws ws) (fs.map LF.av) (js.map JP.av) (ks.map KF.av) uq (rs.map RL.av) (bs fs[i].nm)).bind fun p27=>
   bif decide (p27 < (i:Int)) then (some ((i:Int),13)) else ((Q1z.F n fs[i].b 0 (IntKind.i64.wrap ((((Ws ws).length:Nat):Int) - 1))).bind fun p29=>bif !p29 then (some ((i:Int),3)) else ((Q1t.F n (bs fs[i].fd)).bind fun p30=>
   bif !p30 then (some ((i:Int),7)) else Q2s.l n m (.z19 (IntKind.i64.wrap ((i:Int)+1)) nm fm (Ws ws) (fs.map LF.av) (js.map JP.av) (ks.map KF.av) uq (rs.map RL.av))))))=_
  rw [isNameR_eq (by omega),Option.bind_some,fieldOf_eq (by omega) fs hf,Option.bind_some,hlt,Ws_length,w64 (x:=((ws.length:Nat):Int) - 1) (by omega) (by omega),Within_eq,Option.bind_some,isNameR_eq (by omega),Option.bind_some,wsucc (by omega),ih]
  unfold tailF
  rw [List.drop_eq_getElem_cons hi]
  rw [fErr_cons]
  unfold fe ne
  cases h1:isNm fs[i].nm
  ·simp
  ·cases h2:((names fs).take i).contains fs[i].nm
   ·by_cases h3:0≤fs[i].b∧fs[i].b≤((ws.length:Nat):Int) - 1
    ·cases h4:isNm fs[i].fd
     ·simp [h3]
     ·simp only [h3,and_self,decide_true,Bool.not_true,cond_false,not_true_eq_false,if_false,Bool.true_eq_false,Bool.false_eq_true,ne_eq]
    ·simp [h3]
   ·simp
def tailB (ws:List (List UInt8)) (fs:List LF) (js:List JP) (ks:List KF) (uq:Bool) (rs:List RL) (i:Nat):Int × Int:=
 if (bErr ws (ws.drop i) i).2≠0 then bErr ws (ws.drop i) i else if fs.length=0 then (0,1) else if fs.length > 20 then (0,2) else tailF ws fs js ks uq rs 0
theorem checkR8 (hn:10001≤n) (hw:1≤ws.length∧ws.length≤1000) (hf:fs.length≤1000) (hj:js.length≤1000) (hk:ks.length≤1000) (hr:rs.length≤1000) (hc:∀ r∈rs,r.cs.length≤1000):∀ (d i m:Nat),i+d=ws.length→d+7001≤m→
  Q2s.l n m (.z8 i nm fm (Ws ws) (fs.map LF.av) (js.map JP.av) (ks.map KF.av) uq (rs.map RL.av))=some (tailB ws fs js ks uq rs i)
 | 0,i,m,h,hm=>by
  obtain ⟨m,rfl⟩ : ∃ q,m=q+1:=⟨m - 1,by omega⟩
  rw [Q2s.at8]
  unfold Q2s.r8 tailB
  simp only [List.length_map,Ws_length]
  rw [cond_f (by omega),List.drop_of_length_le (by omega),beq_int]
  show _=some (if (0:Int)≠0 then _ else _)
  rw [if_neg (by simp:¬ (0:Int)≠0)]
  by_cases h0:fs.length=0
  ·rw [cond_t (by omega),if_pos h0]
  ·rw [cond_f (by omega),if_neg h0]
   by_cases h20:fs.length > 20
   ·rw [cond_t (by omega),if_pos h20]
   ·rw [cond_f (by omega),if_neg h20]
    exact checkR19 hn hw hf hj (.inr hk) hr hc fs.length 0 m (by omega) (by omega)
 | d+1,i,m,h,hm=>by
  obtain ⟨m,rfl⟩ : ∃ q,m=q+1:=⟨m - 1,by omega⟩
  have hi:i < ws.length:=by omega
  have ih:=checkR8 hn hw hf hj hk hr hc d (i+1) m (by omega) (by omega)
  have hlt:=ixs_lt ws ws[i] 0 i hi (List.getElem?_eq_getElem hi)
  rw [Nat.zero_add] at hlt
  rw [Q2s.at8]
  unfold Q2s.r8
  simp only [Ws_length]
  rw [cond_t (by omega),within_t hi,cond_true,Ws_getD hi]
  show ((Q1t.F n (bs ws[i])).bind fun p9=>bif !p9 then (some ((i:Int),7)) else (bif true then ((Q1r.F n (Ws ws) (bs ws[i])).bind fun p13=>bif decide (p13 < (i:Int)) then (some ((i:Int),13)) else
   Q2s.l n m (.z8 (IntKind.i64.wrap ((i:Int)+1)) nm fm (Ws ws) (fs.map LF.av) (js.map JP.av) (ks.map KF.av) uq (rs.map RL.av))) else none))=_
  rw [cond_true,isNameR_eq (by omega),Option.bind_some,indexOf_eq (by omega) ws hw.2,Option.bind_some,hlt,wsucc (by omega),ih]
  unfold tailB
  rw [List.drop_eq_getElem_cons hi]
  rw [bErr_cons]
  unfold ne
  cases h1:isNm ws[i]
  ·simp
  ·cases h2:(ws.take i).contains ws[i]
   ·simp only [Bool.not_true,cond_false,Bool.true_eq_false,if_false,Bool.false_eq_true,ne_eq,not_true_eq_false]
   ·simp
theorem checkRef_eq (hn:20010≤n) (nm fm:List UInt8) (hw:ws.length≤1000) (hf:fs.length≤1000) (hj:js.length≤1000) (hk:ks.length≤1000) (hr:rs.length≤1000) (hc:∀ r∈rs,r.cs.length≤1000) :
  Q2s.F n (bs nm) (bs fm) (Ws ws) (fs.map LF.av) (js.map JP.av) (ks.map KF.av) uq (rs.map RL.av)=some (chkL nm fm ws fs js ks uq rs):=by
 unfold Q2s.F Q2s.e chkL
 rw [isNameR_eq (by omega),Option.bind_some,isNameR_eq (by omega),Option.bind_some]
 cases hnm:isNm nm with
 | false=>rfl
 | true=>
  cases hfm:isNm fm with
  | false=>rfl
  | true=>
   simp only [Bool.not_true,cond_false,Bool.true_eq_false,if_false,Ws_length]
   rw [beq_int]
   unfold bErrT
   by_cases h0:ws.length=0
   ·rw [cond_t (by omega)]; simp [h0]
   ·rw [cond_f (by omega)]
    by_cases h3:ws.length > 3
    ·rw [cond_t (by omega)]; simp [h0,h3]
    ·have h8:Q2s.l n n (.z8 0 (bs nm) (bs fm) (Ws ws) (fs.map LF.av) (js.map JP.av) (ks.map KF.av) uq (rs.map RL.av))=some (tailB ws fs js ks uq rs 0):=checkR8 (by omega) ⟨by omega,hw⟩ hf hj hk hr hc ws.length 0 n (by omega) (by omega)
     rw [cond_f (by omega),h8]
     simp only [h0,h3,if_false]
     unfold tailB tailF tailK tailR fErrT kErrT rErrT
     simp only [List.drop_zero]
     by_cases hb:(bErr ws ws 0).2=0
     ·simp only [hb,ne_eq,not_true_eq_false,if_false]
      by_cases f0:fs.length=0
      ·simp [f0]
      ·by_cases f20:fs.length > 20
       ·simp [f0,f20]
       ·simp only [f0,f20,if_false]
        by_cases hfe:(fErr ((ws.length:Int) - 1) (names fs) fs 0).2=0
        ·simp only [hfe,not_true_eq_false,if_false]
         by_cases hje:(jErrT ws js).2=0
         ·simp only [hje,not_true_eq_false,if_false]
          by_cases k4:ks.length > 4
          ·simp [k4]
          ·simp only [k4,if_false]
           by_cases hke:(kErr (names fs) (knames ks) ks 0).2=0
           ·simp only [hke,not_true_eq_false,if_false]
            by_cases r8:rs.length > 8
            ·simp [r8]
            ·simp only [r8,if_false]
           ·simp only [hke,not_false_eq_true,if_true]
         ·simp only [hje,not_false_eq_true,if_true]
        ·simp only [hfe,not_false_eq_true,if_true]
     ·simp only [hb,ne_eq,not_false_eq_true,if_true]
end
end Go.Proofs.YtmpglmcjoelciaaGreatDoor.Ev
namespace Go.Proofs.YtmpglmcjoelciaaGreatDoor.Ev
open Go Go.Proofs Go.Proofs.Ev
set_option linter.unusedVariables false
set_option linter.unusedSimpArgs false
theorem ixs_find {α:Type} (f:α→List UInt8) (s:List UInt8):∀ (l:List α) (i:Nat),(l.find? (fun x=>f x==s)=none∧ixs (l.map f) s i=-1)∨∃ j,∃ h:j < l.length,l.find? (fun x=>f x==s)=some l[j]∧ixs (l.map f) s i=((i+j:Nat):Int)
 | [],i=>.inl ⟨rfl,rfl⟩
 | x::l,i=>by
  rw [List.map_cons,ixs_cons,List.find?_cons]
  by_cases h:f x=s
  ·refine .inr ⟨0,by simp,?_⟩
   have:(f x==s)=true:=by simpa using h
   rw [this,if_pos h]
   simp
  ·have:(f x==s)=false:=by simpa using h
   rw [this,if_neg h]
   rcases ixs_find f s l (i+1) with ⟨h1,h2⟩ | ⟨j,hj,h1,h2⟩
   ·exact .inl ⟨h1,h2⟩
   ·refine .inr ⟨j+1,by simpa using hj,h1,?_⟩
    rw [h2]
    congr 1
    omega
end Go.Proofs.YtmpglmcjoelciaaGreatDoor.Ev
namespace Go.Proofs.YtmpglmcjoelciaaGreatDoor.Ev
open Go Go.Proofs Go.Proofs.Ev
set_option linter.unusedVariables false
set_option linter.unusedSimpArgs false
structure FL where
 nm:List UInt8
 fm:List UInt8
 ds:List FD
 ks:List KF
 uq:Bool
 deriving Inhabited
end Go.Proofs.YtmpglmcjoelciaaGreatDoor.Ev
namespace Go.Proofs.YtmpglmcjoelciaaGreatDoor.Ev
open Go Go.Proofs Go.Proofs.Ev
set_option linter.unusedVariables false
set_option linter.unusedSimpArgs false
structure LG where
 nm:List UInt8
 fm:List UInt8
 ws:List (List UInt8)
 fs:List LF
 js:List JP
 ks:List KF
 uq:Bool
 rs:List RL
def chkG (l:LG):Int × Int:=chkL l.nm l.fm l.ws l.fs l.js l.ks l.uq l.rs
def srcE (lg:Bool) (g:FL) (l:LG):Int:=if lg then (chkG l).2 else fileE g.nm g.fm g.ds g.ks
structure Few (g:FL) (l:LG):Prop where
 ds:g.ds.length≤1000
 ks:g.ks.length≤1000
 lw:l.ws.length≤1000
 lf:l.fs.length≤1000
 lj:l.js.length≤1000
 lk:l.ks.length≤1000
 lr:l.rs.length≤1000
 lc:∀ r∈l.rs,r.cs.length≤1000
section
variable {n:Nat} {lg:Bool} {g:FL} {l:LG}
theorem srcErr_eq (hn:20010≤n) (hf:Few g l):Q0h.F n lg (bs g.nm) (bs g.fm) (g.ds.map FD.av) (g.ks.map KF.av) g.uq (bs l.nm) (bs l.fm) (Ws l.ws) (l.fs.map LF.av) (l.js.map JP.av) (l.ks.map KF.av) l.uq (l.rs.map RL.av)=some (srcE lg g l):=by
 unfold Q0h.F Q0h.e Q0x.F Q0x.e srcE chkG
 rw [checkLogical_eq (by omega) l.nm l.fm l.ws hf.lw l.fs hf.lf l.js hf.lj l.ks hf.lk l.uq l.rs hf.lr,fileErr_eq (by omega) g.nm g.fm g.ds hf.ds g.ks hf.ks]
 cases lg <;> rfl
end
end Go.Proofs.YtmpglmcjoelciaaGreatDoor.Ev
namespace Go.Proofs.YtmpglmcjoelciaaGreatDoor.Ev
open Go Go.Proofs Go.Proofs.Ev
set_option linter.unusedVariables false
set_option linter.unusedSimpArgs false
structure SR where
 lg:Bool
 g:FL
 l:LG
def stT (b:Bool) (s:SR) (pl:Int):Bool × Bool × ByteArray × ByteArray × Bool × ByteArray × ByteArray × Bool × Int × List AV × List AV × List AV × List AV × List AV × List AV × List AV:=
 (b,s.lg,bs s.g.nm,bs s.g.fm,s.g.uq,bs s.l.nm,bs s.l.fm,s.l.uq,pl,s.g.ds.map FD.av,s.g.ks.map KF.av,Ws s.l.ws,s.l.fs.map LF.av,s.l.js.map JP.av,s.l.ks.map KF.av,s.l.rs.map RL.av)
structure Sz (s:SR) (k:Nat):Prop where
 ds:s.g.ds.length≤k
 ks:s.g.ks.length≤k
 ws:s.l.ws.length≤k
 fs:s.l.fs.length≤k
 js:s.l.js.length≤k
 lk:s.l.ks.length≤k
 rs:s.l.rs.length≤k
def Rs (o:Option SR) (pl:Int) (x:Option (Bool × Bool × ByteArray × ByteArray × Bool × ByteArray × ByteArray × Bool × Int × List AV × List AV × List AV × List AV × List AV × List AV × List AV)):Prop:=
 ∃ t,x=some t∧t.1=o.isSome∧∀ s,o=some s→t=stT true s pl
theorem Rs.no {pl:Int} {t:Bool × ByteArray × ByteArray × Bool × ByteArray × ByteArray × Bool × Int × List AV × List AV × List AV × List AV × List AV × List AV × List AV}:Rs none pl (some (false,t)):=⟨_,rfl,rfl,nofun⟩
theorem Rs.yes {pl:Int} {s:SR} {x} (h:x=some (stT true s pl)):Rs (some s) pl x:=⟨_,h,rfl,fun _ e=>by cases e; rfl⟩
def stFmt (s:SR):List (List UInt8)→Option SR
 | [_,b]=>if isB b then some (if s.lg then { s with l:={ s.l with fm:=b } } else { s with g:={ s.g with fm:=b } }) else none
 | _=>none
def stBase (s:SR):List (List UInt8)→Option SR
 | [_,b]=>if s.lg&&isB b then some { s with l:={ s.l with ws:=s.l.ws++[b] } } else none
 | _=>none
def stJoin (s:SR):List (List UInt8)→Option SR
 | [_,a,b,c,d]=>if s.lg&&(isB b&&isB d) then (numP a).bind fun x=>(numP c).map fun y=>{ s with l:={ s.l with js:=s.l.js++[⟨x,b,y,d⟩] } } else none
 | _=>none
def stField (s:SR):List (List UInt8)→Option SR
 | [_,a,b,c]=>if s.lg&&(isB a&&isB c) then (numP b).map fun v=>{ s with l:={ s.l with fs:=s.l.fs++[⟨a,v,c⟩] } } else none
 | [_,a,b]=>if !s.lg&&isB a then (typeP b).map fun t=>{ s with g:={ s.g with ds:=s.g.ds++[⟨a,t.1,t.2.1,t.2.2⟩] } } else none
 | _=>none
def addKey (s:SR) (k:KF):SR:=if s.lg then { s with l:={ s.l with ks:=s.l.ks++[k] } } else { s with g:={ s.g with ks:=s.g.ks++[k] } }
def stKey (s:SR):List (List UInt8)→Option SR
 | [_,a]=>if isB a then some (addKey s ⟨a,false⟩) else none
 | [_,a,d]=>if isB a&&decide (d=[68,69,83,67,69,78,68]) then some (addKey s ⟨a,true⟩) else none
 | _=>none
section
theorem g0 (a:List UInt8) (r:List (List UInt8)):(Ws (a::r)).getD 0 AV.undef=vs (bs a):=rfl
theorem g1 (a b:List UInt8) (r:List (List UInt8)):(Ws (a::b::r)).getD 1 AV.undef=vs (bs b):=rfl
theorem g2 (a b c:List UInt8) (r:List (List UInt8)):(Ws (a::b::c::r)).getD 2 AV.undef=vs (bs c):=rfl
theorem g3 (a b c d:List UInt8) (r:List (List UInt8)):(Ws (a::b::c::d::r)).getD 3 AV.undef=vs (bs d):=rfl
theorem g4 (a b c d e:List UInt8) (r:List (List UInt8)):(Ws (a::b::c::d::e::r)).getD 4 AV.undef=vs (bs e):=rfl
theorem bneI_t {a b:Int} (h:a≠b):(a != b)=true:=by simpa using h
theorem bneI_f {a b:Int} (h:a=b):(a != b)=false:=by simp [h]
theorem beqI_t {a b:Int} (h:a=b):(a==b)=true:=by simp [h]
theorem beqI_f {a b:Int} (h:a≠b):(a==b)=false:=by simpa using h
variable {n:Nat}
theorem bare1 (hn:1001≤n) {a:List UInt8} (h:Good a):Q0p.F n [vs (bs a)]=some (isB a):=by
 have:=isBare_eq (n:=n) hn [a] (by simp) (by simpa using h)
 rw [List.all_cons,List.all_nil,Bool.and_true] at this
 exact this
theorem bare2 (hn:1001≤n) {a b:List UInt8} (h:Good a) (h' : Good b):Q0p.F n [vs (bs a),vs (bs b)]=some (isB a&&isB b):=by
 have:=isBare_eq (n:=n) hn [a,b] (by simp) (by simp [h,h'])
 rw [List.all_cons,List.all_cons,List.all_nil,Bool.and_true] at this
 exact this
theorem format_eq (hn:1001≤n) (s:SR) (pl:Int):∀ w:List (List UInt8),w.length≤1000→(∀ x∈w,Good x)→Rs (stFmt s w) pl (Q1a.F n (Ws w) s.lg (bs s.g.nm) (bs s.g.fm) s.g.uq (bs s.l.nm) (bs s.l.fm) s.l.uq pl (s.g.ds.map FD.av) (s.g.ks.map KF.av) (Ws s.l.ws) (s.l.fs.map LF.av) (s.l.js.map JP.av) (s.l.ks.map KF.av) (s.l.rs.map RL.av))
 | [],_,_=>by
  unfold Q1a.F Q1a.e
  exact Rs.no
 | [_],_,_=>by
  unfold Q1a.F Q1a.e
  exact Rs.no
 | [a,b],_,hg=>by
  have hb:=bare1 hn (hg b (by simp))
  unfold Q1a.F Q1a.e stFmt
  simp (disch:=omega) only [Option.bind_some,Option.bind_none,cond_true,cond_false,Bool.not_true,Bool.not_false,List.length_map,Ws_length,bs_size,within_t,upto_t,wsucc,Int.toNat_natCast,at_mapN,Ws_getDN,cells_agg,cells_v,withCons_cons,withInt_mk,withStr_mk,withBool_mk,withSl_mk,cond_t,cond_f,List.length_cons,List.length_nil,bneI_t,bneI_f,beqI_t,beqI_f,g0,g1,hb]
  cases isB b
  ·exact Rs.no
  ·cases hl:s.lg
   ·refine Rs.yes ?_
    simp [stT,hl]
   ·refine Rs.yes ?_
    simp [stT,hl]
 | a::b::c::r,_,_=>by
  unfold Q1a.F Q1a.e
  simp (disch:=omega) only [Option.bind_some,Option.bind_none,cond_true,cond_false,Bool.not_true,Bool.not_false,List.length_map,Ws_length,bs_size,within_t,upto_t,wsucc,Int.toNat_natCast,at_mapN,Ws_getDN,cells_agg,cells_v,withCons_cons,withInt_mk,withStr_mk,withBool_mk,withSl_mk,cond_t,cond_f,List.length_cons,List.length_nil,bneI_t,bneI_f,beqI_t,beqI_f]
  exact Rs.no
theorem base_eq (hn:1001≤n) (s:SR) (pl:Int) {k:Nat} (hk:k≤1000) (hz:Sz s k):∀ w:List (List UInt8),w.length≤1000→(∀ x∈w,Good x)→Rs (stBase s w) pl (Q18.F n (Ws w) s.lg (bs s.g.nm) (bs s.g.fm) s.g.uq (bs s.l.nm) (bs s.l.fm) s.l.uq pl (s.g.ds.map FD.av) (s.g.ks.map KF.av) (Ws s.l.ws) (s.l.fs.map LF.av) (s.l.js.map JP.av) (s.l.ks.map KF.av) (s.l.rs.map RL.av)):=by
 intro w hw hg
 have hmost:most=1000000000:=rfl
 have hws:=hz.ws
 obtain ⟨m,rfl⟩ : ∃ m,n=m+1:=⟨n - 1,by omega⟩
 have e2:∀ z1 z2 z3 z4 z5 z6 z7 z8 z9 z10 z11 z12 z13 z14 z15,Q18.l (m+1) (m+1) (.z2 z1 z2 z3 z4 z5 z6 z7 z8 z9 z10 z11 z12 z13 z14 z15)=some (false,z1,z2,z3,z4,z5,z6,z7,z8,z9,z10,z11,z12,z13,z14,z15):=fun _ _ _ _ _ _ _ _ _ _ _ _ _ _ _=>rfl
 unfold Q18.F Q18.e
 simp only [e2]
 cases hl:s.lg
 ·have:stBase s w=none:=by
   unfold stBase
   split
   ·rw [hl]; rfl
   ·rfl
  rw [this]
  exact Rs.no
 ·match w,hw,hg with
  | [],_,_=>exact Rs.no
  | [_],_,_=>exact Rs.no
  | [a,b],_,hg=>
   have hb:=bare1 (n:=m+1) hn (hg b (by simp))
   unfold stBase
   simp (disch:=omega) only [Option.bind_some,Option.bind_none,cond_true,cond_false,Bool.not_true,Bool.not_false,List.length_map,Ws_length,bs_size,within_t,upto_t,wsucc,Int.toNat_natCast,at_mapN,Ws_getDN,cells_agg,cells_v,withCons_cons,withInt_mk,withStr_mk,withBool_mk,withSl_mk,cond_t,cond_f,List.length_cons,List.length_nil,bneI_t,bneI_f,beqI_t,beqI_f,g0,g1,hb,Ws_snoc,hl,Bool.true_and]
   cases isB b
   ·exact Rs.no
   ·refine Rs.yes ?_
    simp [stT,hl]
  | a::b::c::r,_,_=>
   simp (disch:=omega) only [Option.bind_some,Option.bind_none,cond_true,cond_false,Bool.not_true,Bool.not_false,List.length_map,Ws_length,bs_size,within_t,upto_t,wsucc,Int.toNat_natCast,at_mapN,Ws_getDN,cells_agg,cells_v,withCons_cons,withInt_mk,withStr_mk,withBool_mk,withSl_mk,cond_t,cond_f,List.length_cons,List.length_nil,bneI_t,bneI_f,beqI_t,beqI_f]
   exact Rs.no
theorem join_eq (hn:100002≤n) (s:SR) (pl:Int) {k:Nat} (hk:k≤1000) (hz:Sz s k):∀ w:List (List UInt8),w.length≤1000→(∀ x∈w,Good x)→Rs (stJoin s w) pl (Q1c.F n (Ws w) s.lg (bs s.g.nm) (bs s.g.fm) s.g.uq (bs s.l.nm) (bs s.l.fm) s.l.uq pl (s.g.ds.map FD.av) (s.g.ks.map KF.av) (Ws s.l.ws) (s.l.fs.map LF.av) (s.l.js.map JP.av) (s.l.ks.map KF.av) (s.l.rs.map RL.av)):=by
 intro w hw hg
 have hmost:most=1000000000:=rfl
 have hjs:=hz.js
 obtain ⟨m,rfl⟩ : ∃ m,n=m+1:=⟨n - 1,by omega⟩
 have e2:∀ z1 z2 z3 z4 z5 z6 z7 z8 z9 z10 z11 z12 z13 z14 z15,Q1c.l (m+1) (m+1) (.z2 z1 z2 z3 z4 z5 z6 z7 z8 z9 z10 z11 z12 z13 z14 z15)=some (false,z1,z2,z3,z4,z5,z6,z7,z8,z9,z10,z11,z12,z13,z14,z15):=fun _ _ _ _ _ _ _ _ _ _ _ _ _ _ _=>rfl
 unfold Q1c.F Q1c.e
 simp only [e2]
 cases hl:s.lg
 ·have:stJoin s w=none:=by
   unfold stJoin
   split
   ·rw [hl]; rfl
   ·rfl
  rw [this]
  exact Rs.no
 ·match w,hw,hg with
  | [],_,_=>exact Rs.no
  | [_],_,_=>exact Rs.no
  | [_,_],_,_=>exact Rs.no
  | [_,_,_],_,_=>exact Rs.no
  | [_,_,_,_],_,_=>exact Rs.no
  | [k0,a,b,c,d],_,hg=>
   have hb:=bare2 (n:=m+1) (by omega) (hg b (by simp)) (hg d (by simp))
   have ga:=hg a (by simp)
   have gc:=hg c (by simp)
   obtain ⟨x,x1,x2⟩:=whole_eq (n:=m+1) hn a ga.pos (by have:=ga.len; omega)
   obtain ⟨y,y1,y2⟩:=whole_eq (n:=m+1) hn c gc.pos (by have:=gc.len; omega)
   unfold stJoin
   simp (disch:=omega) only [Option.bind_some,Option.bind_none,cond_true,cond_false,Bool.not_true,Bool.not_false,List.length_map,Ws_length,bs_size,within_t,upto_t,wsucc,Int.toNat_natCast,at_mapN,Ws_getDN,cells_agg,cells_v,withCons_cons,withInt_mk,withStr_mk,withBool_mk,withSl_mk,cond_t,cond_f,List.length_cons,List.length_nil,bneI_t,bneI_f,beqI_t,beqI_f,g0,g1,g2,g3,g4,hb,hl,Bool.true_and,x1,y1]
   cases isB b&&isB d
   ·exact Rs.no
   ·simp only [Bool.not_true,cond_false,if_true]
    cases ha:numP a with
    | none=>exact Rs.no
    | some x'=>
     cases hc:numP c with
     | none=>exact Rs.no
     | some y'=>
      have e1:=x2 x' ha
      have e2:=y2 y' hc
      subst e1
      subst e2
      refine Rs.yes ?_
      simp [stT,hl,JP.av]
  | a::b::c::d::e::f::r,_,_=>
   simp (disch:=omega) only [Option.bind_some,Option.bind_none,cond_true,cond_false,Bool.not_true,Bool.not_false,List.length_map,Ws_length,bs_size,within_t,upto_t,wsucc,Int.toNat_natCast,at_mapN,Ws_getDN,cells_agg,cells_v,withCons_cons,withInt_mk,withStr_mk,withBool_mk,withSl_mk,cond_t,cond_f,List.length_cons,List.length_nil,bneI_t,bneI_f,beqI_t,beqI_f]
   exact Rs.no
end
end Go.Proofs.YtmpglmcjoelciaaGreatDoor.Ev
namespace Go.Proofs.YtmpglmcjoelciaaGreatDoor.Ev
open Go Go.Proofs Go.Proofs.Ev
set_option linter.unusedVariables false
set_option linter.unusedSimpArgs false
section
variable {n:Nat}
theorem field_eq (hn:200000≤n) (s:SR) (pl:Int) {k:Nat} (hk:k≤1000) (hz:Sz s k):∀ w:List (List UInt8),w.length≤1000→(∀ x∈w,Good x)→Rs (stField s w) pl (Q19.F n (Ws w) s.lg (bs s.g.nm) (bs s.g.fm) s.g.uq (bs s.l.nm) (bs s.l.fm) s.l.uq pl (s.g.ds.map FD.av) (s.g.ks.map KF.av) (Ws s.l.ws) (s.l.fs.map LF.av) (s.l.js.map JP.av) (s.l.ks.map KF.av) (s.l.rs.map RL.av)):=by
 intro w hw hg
 have hmost:most=1000000000:=rfl
 have hds:=hz.ds
 have hfs:=hz.fs
 obtain ⟨m,rfl⟩ : ∃ m,n=m+1:=⟨n - 1,by omega⟩
 have e6:∀ z1 z2 z3 z4 z5 z6 z7 z8 z9 z10 z11 z12 z13 z14 z15,Q19.l (m+1) (m+1) (.z6 z1 z2 z3 z4 z5 z6 z7 z8 z9 z10 z11 z12 z13 z14 z15)=some (false,z1,z2,z3,z4,z5,z6,z7,z8,z9,z10,z11,z12,z13,z14,z15):=fun _ _ _ _ _ _ _ _ _ _ _ _ _ _ _=>rfl
 unfold Q19.F Q19.e
 simp only [e6]
 match w,hw,hg with
 | [],_,_=>exact Rs.no
 | [_],_,_=>exact Rs.no
 | [_,_],_,_=>exact Rs.no
 | [k0,a,b],_,hg=>
  have hb:=bare1 (n:=m+1) (by omega) (hg a (by simp))
  have gb:=hg b (by simp)
  obtain ⟨x,x1,x2⟩:=whole_eq (n:=m+1) (by omega) b gb.pos (by have:=gb.len; omega)
  obtain ⟨t,t1,t2,t3⟩:=typeOf_eq (n:=m+1) (by omega) b (by have:=gb.len; omega)
  unfold stField
  simp (disch:=omega) only [Option.bind_some,Option.bind_none,cond_true,cond_false,Bool.not_true,Bool.not_false,List.length_map,Ws_length,bs_size,within_t,upto_t,wsucc,Int.toNat_natCast,at_mapN,Ws_getDN,cells_agg,cells_v,withCons_cons,withInt_mk,withStr_mk,withBool_mk,withSl_mk,cond_t,cond_f,List.length_cons,List.length_nil,bneI_t,bneI_f,beqI_t,beqI_f,g0,g1,g2,hb,x1,t1]
  cases isB a
  ·simp only [Bool.not_false,cond_true,Bool.and_false,Bool.false_eq_true,if_false]
   exact Rs.no
  ·cases hl:s.lg
   ·simp only [Bool.not_true,Bool.not_false,cond_false,Bool.and_true,if_true]
    cases ht:typeP b with
    | none=>
     rw [ht] at t2
     rw [show t.2.2.2=false from t2]
     exact Rs.no
    | some u=>
     have:=t3 u ht
     subst this
     refine Rs.yes ?_
     simp [stT,hl,FD.av]
   ·simp only [Bool.not_true,cond_false,cond_true,Bool.false_and,Bool.false_eq_true,if_false]
    cases (numP b).isSome <;> exact Rs.no
 | [k0,a,b,c],_,hg=>
  have hb:=bare1 (n:=m+1) (by omega) (hg a (by simp))
  have hc:=bare1 (n:=m+1) (by omega) (hg c (by simp))
  have gb:=hg b (by simp)
  obtain ⟨x,x1,x2⟩:=whole_eq (n:=m+1) (by omega) b gb.pos (by have:=gb.len; omega)
  obtain ⟨t,t1,t2,t3⟩:=typeOf_eq (n:=m+1) (by omega) b (by have:=gb.len; omega)
  unfold stField
  simp (disch:=omega) only [Option.bind_some,Option.bind_none,cond_true,cond_false,Bool.not_true,Bool.not_false,List.length_map,Ws_length,bs_size,within_t,upto_t,wsucc,Int.toNat_natCast,at_mapN,Ws_getDN,cells_agg,cells_v,withCons_cons,withInt_mk,withStr_mk,withBool_mk,withSl_mk,cond_t,cond_f,List.length_cons,List.length_nil,bneI_t,bneI_f,beqI_t,beqI_f,g0,g1,g2,g3,hb,hc,x1,t1]
  cases isB a
  ·simp only [Bool.not_false,cond_true,Bool.and_false,Bool.false_and,Bool.false_eq_true,if_false]
   exact Rs.no
  ·cases hl:s.lg
   ·simp only [Bool.not_true,cond_false,Bool.false_and,Bool.false_eq_true,if_false]
    cases t.2.2.2 <;> exact Rs.no
   ·simp only [Bool.not_true,cond_false,cond_true,Bool.true_and]
    cases hx:numP b with
    | none=>
     simp only [Option.isSome_none,Bool.not_false,cond_true,Option.map_none,ite_self]
     exact Rs.no
    | some v=>
     have:=x2 v hx
     subst this
     simp only [Option.isSome_some,Bool.not_true,cond_false]
     cases isB c
     ·exact Rs.no
     ·refine Rs.yes ?_
      simp [stT,hl,LF.av]
 | k0::a::b::c::d::r,_,hg=>
  have hb:=bare1 (n:=m+1) (by omega) (hg a (by simp))
  have gb:=hg b (by simp)
  obtain ⟨x,x1,x2⟩:=whole_eq (n:=m+1) (by omega) b gb.pos (by have:=gb.len; omega)
  obtain ⟨t,t1,t2,t3⟩:=typeOf_eq (n:=m+1) (by omega) b (by have:=gb.len; omega)
  have:stField s (k0::a::b::c::d::r)=none:=rfl
  rw [this]
  simp (disch:=omega) only [Option.bind_some,Option.bind_none,cond_true,cond_false,Bool.not_true,Bool.not_false,List.length_map,Ws_length,bs_size,within_t,upto_t,wsucc,Int.toNat_natCast,at_mapN,Ws_getDN,cells_agg,cells_v,withCons_cons,withInt_mk,withStr_mk,withBool_mk,withSl_mk,cond_t,cond_f,List.length_cons,List.length_nil,bneI_t,bneI_f,beqI_t,beqI_f,g0,g1,g2,g3,hb,x1,t1]
  cases isB a
  ·exact Rs.no
  ·cases hl:s.lg
   ·simp only [Bool.not_true,cond_false]
    cases t.2.2.2 <;> exact Rs.no
   ·simp only [Bool.not_true,cond_false,cond_true]
    cases (numP b).isSome <;> exact Rs.no
theorem key_eq (hn:1001≤n) (s:SR) (pl:Int) {k:Nat} (hk:k≤1000) (hz:Sz s k):∀ w:List (List UInt8),w.length≤1000→(∀ x∈w,Good x)→Rs (stKey s w) pl (Q1d.F n (Ws w) s.lg (bs s.g.nm) (bs s.g.fm) s.g.uq (bs s.l.nm) (bs s.l.fm) s.l.uq pl (s.g.ds.map FD.av) (s.g.ks.map KF.av) (Ws s.l.ws) (s.l.fs.map LF.av) (s.l.js.map JP.av) (s.l.ks.map KF.av) (s.l.rs.map RL.av)):=by
 intro w hw hg
 have hmost:most=1000000000:=rfl
 have h1:=hz.ks
 have h2:=hz.lk
 obtain ⟨m,rfl⟩ : ∃ m,n=m+1:=⟨n - 1,by omega⟩
 have e3:∀ z1 z2 z3 z4 z5 z6 z7 z8 z9 z10 z11 z12 z13 z14 z15,Q1d.l (m+1) (m+1) (.z3 z1 z2 z3 z4 z5 z6 z7 z8 z9 z10 z11 z12 z13 z14 z15)=some (false,z1,z2,z3,z4,z5,z6,z7,z8,z9,z10,z11,z12,z13,z14,z15):=fun _ _ _ _ _ _ _ _ _ _ _ _ _ _ _=>rfl
 have add:∀ (u:Bool) (a b:List UInt8) (r:List (List UInt8)),Rs (some (addKey s ⟨b,u⟩)) pl (Q1d.l (m+1) (m+1) (.z4 (Ws (a::b::r)) u s.lg (bs s.g.nm) (bs s.g.fm) s.g.uq (bs s.l.nm) (bs s.l.fm) s.l.uq pl (s.g.ds.map FD.av) (s.g.ks.map KF.av) (Ws s.l.ws) (s.l.fs.map LF.av) (s.l.js.map JP.av) (s.l.ks.map KF.av) (s.l.rs.map RL.av))):=by
  intro u a b r
  rw [Q1d.at4]
  unfold Q1d.r4
  simp (disch:=omega) only [Option.bind_some,Option.bind_none,cond_true,cond_false,Bool.not_true,Bool.not_false,List.length_map,Ws_length,bs_size,within_t,upto_t,wsucc,Int.toNat_natCast,at_mapN,Ws_getDN,cells_agg,cells_v,withCons_cons,withInt_mk,withStr_mk,withBool_mk,withSl_mk,cond_t,cond_f,List.length_cons,List.length_nil,g1]
  refine Rs.yes ?_
  unfold addKey
  cases hl:s.lg
  ·simp [stT,hl,KF.av]
  ·simp [stT,hl,KF.av]
 unfold Q1d.F Q1d.e
 simp only [e3]
 match w,hw,hg with
 | [],_,_=>exact Rs.no
 | [_],_,_=>exact Rs.no
 | [k0,a],_,hg=>
  have hb:=bare1 (n:=m+1) hn (hg a (by simp))
  unfold stKey
  simp (disch:=omega) only [Option.bind_some,Option.bind_none,cond_true,cond_false,Bool.not_true,Bool.not_false,List.length_map,Ws_length,bs_size,within_t,upto_t,wsucc,Int.toNat_natCast,at_mapN,Ws_getDN,cells_agg,cells_v,withCons_cons,withInt_mk,withStr_mk,withBool_mk,withSl_mk,cond_t,cond_f,List.length_cons,List.length_nil,bneI_t,bneI_f,beqI_t,beqI_f,g0,g1,hb]
  cases isB a
  ·exact Rs.no
  ·exact add false k0 a []
 | [k0,a,d],_,hg=>
  have hb:=bare1 (n:=m+1) hn (hg a (by simp))
  unfold stKey
  simp (disch:=omega) only [Option.bind_some,Option.bind_none,cond_true,cond_false,Bool.not_true,Bool.not_false,List.length_map,Ws_length,bs_size,within_t,upto_t,wsucc,Int.toNat_natCast,at_mapN,Ws_getDN,cells_agg,cells_v,withCons_cons,withInt_mk,withStr_mk,withBool_mk,withSl_mk,cond_t,cond_f,List.length_cons,List.length_nil,bneI_t,bneI_f,beqI_t,beqI_f,g0,g1,g2,hb,lit7,str_eq]
  by_cases hd:d=[68,69,83,67,69,78,68]
  ·simp only [hd,decide_true,Bool.not_true,cond_false,Bool.and_true]
   cases isB a
   ·exact Rs.no
   ·exact add true k0 a [[68,69,83,67,69,78,68]]
  ·simp only [hd,decide_false,Bool.not_false,cond_true,Bool.and_false,Bool.false_eq_true,if_false]
   exact Rs.no
 | a::b::c::d::r,_,_=>
  simp (disch:=omega) only [Option.bind_some,Option.bind_none,cond_true,cond_false,Bool.not_true,Bool.not_false,List.length_map,Ws_length,bs_size,within_t,upto_t,wsucc,Int.toNat_natCast,at_mapN,Ws_getDN,cells_agg,cells_v,withCons_cons,withInt_mk,withStr_mk,withBool_mk,withSl_mk,cond_t,cond_f,List.length_cons,List.length_nil,bneI_t,bneI_f,beqI_t,beqI_f]
  exact Rs.no
end
end Go.Proofs.YtmpglmcjoelciaaGreatDoor.Ev
namespace Go.Proofs.YtmpglmcjoelciaaGreatDoor.Ev
open Go Go.Proofs Go.Proofs.Ev
set_option linter.unusedVariables false
set_option linter.unusedSimpArgs false
def opsL:List (List UInt8):=[[69,81],[78,69],[76,84],[76,69],[71,84],[71,69]]
theorem gr0_eq:gr0=Ws opsL:=rfl
def opP (o:List UInt8):Option Int:=if opsL.contains o then some (ixs opsL o 0) else none
def cnd1 (a o v:List UInt8):Option CN:=if isB a then (opP o).bind fun x=>(valP v).map fun y=>⟨a,x,y.1,y.2⟩ else none
def cndP:List (List UInt8)→Option (List CN)
 | []=>some []
 | [a,o,v]=>(cnd1 a o v).map fun c=>[c]
 | a::o::v::d::b::r=>if d=[65,78,68] then (cnd1 a o v).bind fun c=>(cndP (b::r)).map fun cs=>c::cs else none
 | _=>none
def addR (s:SR) (r:RL):SR:={ s with l:={ s.l with rs:=s.l.rs++[r] } }
def stRule (s:SR):List (List UInt8)→Option SR
 | []=>none
 | k::r=>if s.lg then (cndP r).map fun cs=>addR s ⟨decide (k=[79]),cs⟩ else none
def hd1 (s:SR) (k a:List UInt8) (u:Bool):Option SR:=
 if k=[80,70] then some { s with lg:=false,g:={ s.g with nm:=a,uq:=u } } else if k=[76,70] then some { s with lg:=true,l:={ s.l with nm:=a,uq:=u } } else none
def stHead (s:SR):List (List UInt8)→Option SR
 | [k,a]=>if isB a then hd1 s k a false else none
 | [k,a,u]=>if isB a&&decide (u=[85,78,73,81,85,69]) then hd1 s k a true else none
 | _=>none
section
variable {n:Nat}
theorem index_ops (hn:1001≤n) (s:List UInt8):Q4c.F n (Ws opsL) (bs s)=some (ixs opsL s 0):=by
 unfold Q4c.F Q4c.e
 have:=index_l n opsL (by decide) s opsL.length 0 n (by omega) (by have:opsL.length=6:=rfl; omega)
 rw [List.drop_zero] at this
 rw [Ws_length]
 exact this
theorem d3 (a b c:List UInt8) (r:List (List UInt8)):(Ws (a::b::c::r)).drop 3=Ws r:=rfl
theorem d1 (a:List UInt8) (r:List (List UInt8)):(Ws (a::r)).drop 1=Ws r:=rfl
theorem three {k:Nat}:(decide ((0:Int)≤3)&&decide ((3:Int)≤((k+3:Nat):Int)))=true:=by
 rw [Bool.and_eq_true,decide_eq_true_eq,decide_eq_true_eq]; omega
theorem one1 {k:Nat}:(decide ((0:Int)≤1)&&decide ((1:Int)≤((k+1:Nat):Int)))=true:=by
 rw [Bool.and_eq_true,decide_eq_true_eq,decide_eq_true_eq]; omega
theorem rule_lp (hn:100002≤n) (s:SR) (pl:Int) (om:Bool) {kk:Nat} (hkk:kk≤1000) (hz:Sz s kk):∀ (k:Nat) (l:List (List UInt8)) (acc:List CN) (m:Nat),l.length≤k→k+2≤m→l.length+acc.length≤2000→(∀ x∈l,Good x)→
  Rs ((cndP l).map fun cs=>addR s ⟨om,acc++cs⟩) pl (Q1f.l n m (.z5 (Ws l) s.lg (bs s.g.nm) (bs s.g.fm) s.g.uq (bs s.l.nm) (bs s.l.fm) s.l.uq pl om (acc.map CN.av) (s.g.ds.map FD.av) (s.g.ks.map KF.av) (Ws s.l.ws) (s.l.fs.map LF.av) (s.l.js.map JP.av) (s.l.ks.map KF.av) (s.l.rs.map RL.av))):=by
 intro k
 induction k with
 | zero=>
  intro l acc m hl hm ha hg
  have:l=[]:=List.eq_nil_of_length_eq_zero (by omega)
  subst this
  obtain ⟨m,rfl⟩ : ∃ q,m=q+1:=⟨m - 1,by omega⟩
  have hmost:most=1000000000:=rfl
  have hrs:=hz.rs
  rw [Q1f.at5]
  unfold Q1f.r5
  simp (disch:=omega) only [Option.bind_some,Option.bind_none,cond_true,cond_false,Bool.not_true,Bool.not_false,List.length_map,Ws_length,bs_size,within_t,upto_t,wsucc,Int.toNat_natCast,at_mapN,Ws_getDN,cells_agg,cells_v,withCons_cons,withInt_mk,withStr_mk,withBool_mk,withSl_mk,cond_t,cond_f,List.length_nil,List.length_cons]
  refine Rs.yes ?_
  simp [stT,addR,RL.av,Ws]
 | succ k ih=>
  intro l acc m hl hm ha hg
  obtain ⟨m,rfl⟩ : ∃ q,m=q+2:=⟨m - 2,by omega⟩
  have hmost:most=1000000000:=rfl
  have hrs:=hz.rs
  have e7:∀ z1 z2 z3 z4 z5 z6 z7 z8 z9 z10 z11 z12 z13 z14 z15,Q1f.l n (m+1) (.z7 z1 z2 z3 z4 z5 z6 z7 z8 z9 z10 z11 z12 z13 z14 z15)=some (false,z1,z2,z3,z4,z5,z6,z7,z8,z9,z10,z11,z12,z13,z14,z15):=fun _ _ _ _ _ _ _ _ _ _ _ _ _ _ _=>rfl
  rw [Q1f.at5]
  unfold Q1f.r5
  simp only [e7]
  match l,hl,ha,hg with
  | [],_,_,_=>
   simp (disch:=omega) only [Option.bind_some,Option.bind_none,cond_true,cond_false,Bool.not_true,Bool.not_false,List.length_map,Ws_length,bs_size,within_t,upto_t,wsucc,Int.toNat_natCast,at_mapN,Ws_getDN,cells_agg,cells_v,withCons_cons,withInt_mk,withStr_mk,withBool_mk,withSl_mk,cond_t,cond_f,List.length_nil,List.length_cons]
   refine Rs.yes ?_
   simp [stT,addR,RL.av,Ws]
  | [_],_,_,_=>exact Rs.no
  | [_,_],_,_,_=>exact Rs.no
  | [a,o,v],_,ha,hg=>
   have hb:=bare1 (n:=n) (by omega) (hg a (by simp))
   have hc:=contains_str (n:=n) (by omega) opsL (by decide) o
   have hi:=index_ops (n:=n) (by omega) o
   obtain ⟨x,y,v1,v2⟩:=valueOf_eq (n:=n) hn (hg v (by simp))
   have lw:(Ws [a,o,v]).length=0+3:=rfl
   unfold cndP cnd1 opP
   simp only [List.length_cons,List.length_nil] at ha
   simp (disch:=omega) only [Option.bind_some,Option.bind_none,cond_true,cond_false,Bool.not_true,Bool.not_false,List.length_map,Ws_length,bs_size,within_t,upto_t,wsucc,Int.toNat_natCast,at_mapN,Ws_getDN,cells_agg,cells_v,withCons_cons,withInt_mk,withStr_mk,withBool_mk,withSl_mk,cond_t,cond_f,lw,three,List.length_cons,List.length_nil,g0,g1,g2,hb,gr0_eq,hc,hi,v1,d3,beqI_t,beqI_f]
   cases isB a
   ·exact Rs.no
   ·cases opsL.contains o
    ·exact Rs.no
    ·simp only [Bool.not_true,cond_false,if_true,Option.bind_some]
     cases hv:valP v with
     | none=>exact Rs.no
     | some q=>
      obtain ⟨rfl,rfl⟩:=v2 q hv
      have z0:(((Ws ([]:List (List UInt8))).length:Int)==0)=true:=rfl
      simp only [Option.isSome_some,Bool.not_true,cond_false]
      refine Rs.yes ?_
      simp [stT,addR,RL.av,CN.av,Ws]
  | [a,o,v,d],_,ha,hg=>
   have hb:=bare1 (n:=n) (by omega) (hg a (by simp))
   have hc:=contains_str (n:=n) (by omega) opsL (by decide) o
   have hi:=index_ops (n:=n) (by omega) o
   obtain ⟨x,y,v1,v2⟩:=valueOf_eq (n:=n) hn (hg v (by simp))
   have lw:(Ws [a,o,v,d]).length=1+3:=rfl
   unfold cndP
   simp only [List.length_cons,List.length_nil] at ha
   simp (disch:=omega) only [Option.bind_some,Option.bind_none,cond_true,cond_false,Bool.not_true,Bool.not_false,List.length_map,Ws_length,bs_size,within_t,upto_t,wsucc,Int.toNat_natCast,at_mapN,Ws_getDN,cells_agg,cells_v,withCons_cons,withInt_mk,withStr_mk,withBool_mk,withSl_mk,cond_t,cond_f,lw,three,List.length_cons,List.length_nil,g0,g1,g2,hb,gr0_eq,hc,hi,v1,d3,beqI_t,beqI_f,lit3,str_eq]
   cases isB a
   ·exact Rs.no
   ·cases opsL.contains o
    ·exact Rs.no
    ·cases (valP v).isSome
     ·exact Rs.no
     ·simp only [Bool.not_true,cond_false]
      cases decide (d=[65,78,68]) <;> exact Rs.no
  | a::o::v::d::b::r,hl,ha,hg=>
   have hb:=bare1 (n:=n) (by omega) (hg a (by simp))
   have hc:=contains_str (n:=n) (by omega) opsL (by decide) o
   have hi:=index_ops (n:=n) (by omega) o
   obtain ⟨x,y,v1,v2⟩:=valueOf_eq (n:=n) hn (hg v (by simp))
   have lw:(Ws (a::o::v::d::b::r)).length=(r.length+2)+3:=by rw [Ws_length]; rfl
   have lw2:(Ws (d::b::r)).length=(r.length+1)+1:=by rw [Ws_length]; rfl
   simp only [List.length_cons] at ha hl
   unfold cndP cnd1 opP
   simp (disch:=omega) only [Option.bind_some,Option.bind_none,cond_true,cond_false,Bool.not_true,Bool.not_false,List.length_map,Ws_length,bs_size,within_t,upto_t,wsucc,Int.toNat_natCast,at_mapN,Ws_getDN,cells_agg,cells_v,withCons_cons,withInt_mk,withStr_mk,withBool_mk,withSl_mk,cond_t,cond_f,lw,lw2,three,one1,List.length_cons,List.length_nil,g0,g1,g2,hb,gr0_eq,hc,hi,v1,d3,d1,beqI_t,beqI_f,lit3,str_eq]
   by_cases hd:d=[65,78,68]
   ·simp only [hd,decide_true,Bool.not_true,cond_false,if_true]
    cases isB a
    ·exact Rs.no
    ·cases opsL.contains o
     ·exact Rs.no
     ·simp only [Bool.not_true,cond_false,if_true,Option.bind_some]
      cases hv:valP v with
      | none=>exact Rs.no
      | some q=>
       obtain ⟨rfl,rfl⟩:=v2 q hv
       have:=ih (b::r) (acc++[⟨a,ixs opsL o 0,q.1,q.2⟩]) (m+1) (by simp; omega) (by omega) (by simp; omega) (fun z hz=>hg z (by simp at hz ⊢; rcases hz with h | h <;> simp [h]))
       simp only [Option.isSome_some,Bool.not_true,cond_false,Option.map_some,Option.bind_some]
       rw [List.map_append] at this
       have e1:((cndP (b::r)).map fun cs=>(⟨a,ixs opsL o 0,q.1,q.2⟩ : CN)::cs).map (fun cs=>addR s ⟨om,acc++cs⟩)=(cndP (b::r)).map fun cs=>addR s ⟨om,acc++[⟨a,ixs opsL o 0,q.1,q.2⟩]++cs⟩:=by
        rw [Option.map_map]
        congr 1
        funext cs
        simp
       rw [e1]
       exact this
   ·simp only [hd,decide_false,Bool.not_false,cond_true,if_false]
    cases isB a
    ·exact Rs.no
    ·cases opsL.contains o
     ·exact Rs.no
     ·cases (valP v).isSome <;> exact Rs.no
theorem rule_eq (hn:100002≤n) (s:SR) (pl:Int) {k:Nat} (hk:k≤1000) (hz:Sz s k):∀ w:List (List UInt8),w≠[]→w.length≤1000→(∀ x∈w,Good x)→Rs (stRule s w) pl (Q1f.F n (Ws w) s.lg (bs s.g.nm) (bs s.g.fm) s.g.uq (bs s.l.nm) (bs s.l.fm) s.l.uq pl (s.g.ds.map FD.av) (s.g.ks.map KF.av) (Ws s.l.ws) (s.l.fs.map LF.av) (s.l.js.map JP.av) (s.l.ks.map KF.av) (s.l.rs.map RL.av)):=by
 intro w h0 hw hg
 unfold Q1f.F Q1f.e
 cases hl:s.lg
 ·have:stRule s w=none:=by
   unfold stRule
   split
   ·rfl
   ·rw [hl]; rfl
  rw [this]
  exact Rs.no
 ·match w,h0,hw,hg with
  | [],h0,_,_=>exact absurd rfl h0
  | a::r,_,hw,hg=>
   simp only [List.length_cons] at hw
   have lw:(Ws (a::r)).length=r.length+1:=by rw [Ws_length]; rfl
   have:=rule_lp (n:=n) hn s pl (decide (a=[79])) hk hz r.length r [] n (Nat.le_refl _) (by omega) (by simp; omega) (fun z hz=>hg z (by simp [hz]))
   rw [hl] at this
   unfold stRule
   simp (disch:=omega) only [Option.bind_some,Option.bind_none,cond_true,cond_false,Bool.not_true,Bool.not_false,List.length_map,Ws_length,bs_size,within_t,upto_t,wsucc,Int.toNat_natCast,at_mapN,Ws_getDN,cells_agg,cells_v,withCons_cons,withInt_mk,withStr_mk,withBool_mk,withSl_mk,cond_t,cond_f,lw,one1,g0,lit1,str_eq,d1,hl]
   exact this
end
end Go.Proofs.YtmpglmcjoelciaaGreatDoor.Ev
namespace Go.Proofs.YtmpglmcjoelciaaGreatDoor.Ev
open Go Go.Proofs Go.Proofs.Ev
set_option linter.unusedVariables false
set_option linter.unusedSimpArgs false
def plc (k:List UInt8):Int:=if k=[79] then 5 else if k.length≠1 then -1 else Lib.index [82,66,74,70,75,83] k
theorem index_byte (c:UInt8):Lib.index [82,66,74,70,75,83] [c]=if c=82 then 0 else if c=66 then 1 else if c=74 then 2 else if c=70 then 3 else if c=75 then 4 else if c=83 then 5 else -1:=by
 have:∀ k:Fin 256,Lib.index [82,66,74,70,75,83] [UInt8.ofNat k.1]=if UInt8.ofNat k.1=82 then 0 else if UInt8.ofNat k.1=66 then 1 else if UInt8.ofNat k.1=74 then 2 else if UInt8.ofNat k.1=70 then 3 else if UInt8.ofNat k.1=75 then 4 else if UInt8.ofNat k.1=83 then 5 else -1:=by decide +kernel
 have h:=this ⟨c.toNat,c.toNat_lt⟩
 have e:UInt8.ofNat c.toNat=c:=by simp
 rw [e] at h
 exact h
theorem plc_range (k:List UInt8) : -1≤plc k∧plc k≤5:=by
 unfold plc
 by_cases h:k=[79]
 ·rw [if_pos h]; omega
 ·rw [if_neg h]
  by_cases h1:k.length≠1
  ·rw [if_pos h1]; omega
  ·rw [if_neg h1]
   match k,h1 with
   | [c],_=>
    rw [index_byte]
    (repeat' split) <;> omega
   | [],h1=>exact absurd (by simp) h1
   | _::_::_,h1=>exact absurd (by simp) h1
def disp (s:SR) (p:Int) (w:List (List UInt8)):Option SR:=
 if p=5 then stRule s w else if p=4 then stKey s w else if p=3 then stField s w else if p=2 then stJoin s w else if p=1 then stBase s w else stFmt s w
def nxt (p:Int):Int:=if 1 > p then 1 else p
def stLine (s:SR) (pl:Int):List (List UInt8)→Option SR
 | []=>none
 | k::r=>if plc k < pl then none else if pl=0∧plc k > 0 then none else disp s (plc k) (k::r)
theorem stLine_cons (s:SR) (pl:Int) (k:List UInt8) (r:List (List UInt8)):stLine s pl (k::r)=if plc k < pl then none else if pl=0∧plc k > 0 then none else disp s (plc k) (k::r):=rfl
def nextP (w:List (List UInt8)):Int:=match w with
 | []=>0
 | k::_=>nxt (plc k)
section
variable {n:Nat}
theorem Rs.eta {o:Option SR} {pl:Int} {x} (h:Rs o pl x):Rs o pl (x.bind fun p=>some (p.1,p.2.1,p.2.2.1,p.2.2.2.1,p.2.2.2.2.1,p.2.2.2.2.2.1,p.2.2.2.2.2.2.1,p.2.2.2.2.2.2.2.1,p.2.2.2.2.2.2.2.2.1,p.2.2.2.2.2.2.2.2.2.1,p.2.2.2.2.2.2.2.2.2.2.1,p.2.2.2.2.2.2.2.2.2.2.2.1,p.2.2.2.2.2.2.2.2.2.2.2.2.1,p.2.2.2.2.2.2.2.2.2.2.2.2.2.1,p.2.2.2.2.2.2.2.2.2.2.2.2.2.2.1,p.2.2.2.2.2.2.2.2.2.2.2.2.2.2.2)):=by
 obtain ⟨t,rfl,h2,h3⟩:=h
 exact ⟨t,rfl,h2,h3⟩
theorem line9 (hn:200000≤n) (s:SR) (p pl0:Int) (hp0:0≤p) (hp5:p≤5) {k:Nat} (hk:k≤1000) (hz:Sz s k) (w:List (List UInt8)) (h0:w≠[]) (hw:w.length≤1000) (hg:∀ x∈w,Good x) (m:Nat) :
  Rs (disp s p w) (nxt p) (Q1e.l n (m+1) (.z9 (Ws w) p s.lg (bs s.g.nm) (bs s.g.fm) s.g.uq (bs s.l.nm) (bs s.l.fm) s.l.uq pl0 (s.g.ds.map FD.av) (s.g.ks.map KF.av) (Ws s.l.ws) (s.l.fs.map LF.av) (s.l.js.map JP.av) (s.l.ks.map KF.av) (s.l.rs.map RL.av))):=by
 rw [Q1e.at9]
 unfold Q1e.r9 disp
 have c5:((5:Nat):Int)=5:=rfl
 have c4:((4:Nat):Int)=4:=rfl
 have c3:((3:Nat):Int)=3:=rfl
 have c2:((2:Nat):Int)=2:=rfl
 have c1:((1:Nat):Int)=1:=rfl
 have c0:((0:Nat):Int)=0:=rfl
 rw [c5,c4,c3,c2,c1,c0]
 by_cases h5:p=5
 ·rw [cond_t h5,if_pos h5]
  exact (rule_eq (by omega) s (nxt p) hk hz w h0 hw hg).eta
 rw [cond_f h5,if_neg h5]
 by_cases h4:p=4
 ·rw [cond_t h4,if_pos h4]
  exact (key_eq (by omega) s (nxt p) hk hz w hw hg).eta
 rw [cond_f h4,if_neg h4]
 by_cases h3:p=3
 ·rw [cond_t h3,if_pos h3]
  exact (field_eq (by omega) s (nxt p) hk hz w hw hg).eta
 rw [cond_f h3,if_neg h3]
 by_cases h2:p=2
 ·rw [cond_t h2,if_pos h2]
  exact (join_eq (by omega) s (nxt p) hk hz w hw hg).eta
 rw [cond_f h2,if_neg h2]
 by_cases h1:p=1
 ·rw [cond_t h1,if_pos h1]
  exact (base_eq (by omega) s (nxt p) hk hz w hw hg).eta
 rw [cond_f h1,if_neg h1]
 have h00:p=0:=by omega
 rw [cond_t h00]
 exact (format_eq (by omega) s (nxt p) w hw hg).eta
theorem line_eq (hn:200000≤n) (s:SR) (pl:Int) (hp:0≤pl) {k:Nat} (hk:k≤1000) (hz:Sz s k) (w:List (List UInt8)) (hw:w.length≤1000) (hg:∀ x∈w,Good x) :
  Rs (stLine s pl w) (nextP w) (Q1e.F n (Ws w) s.lg (bs s.g.nm) (bs s.g.fm) s.g.uq (bs s.l.nm) (bs s.l.fm) s.l.uq pl (s.g.ds.map FD.av) (s.g.ks.map KF.av) (Ws s.l.ws) (s.l.fs.map LF.av) (s.l.js.map JP.av) (s.l.ks.map KF.av) (s.l.rs.map RL.av)):=by
 obtain ⟨m,rfl⟩ : ∃ m,n=m+1:=⟨n - 1,by omega⟩
 have e8:∀ z1 z2 z3 z4 z5 z6 z7 z8 z9 z10 z11 z12 z13 z14 z15,Q1e.l (m+1) (m+1) (.z8 z1 z2 z3 z4 z5 z6 z7 z8 z9 z10 z11 z12 z13 z14 z15)=some (false,z1,z2,z3,z4,z5,z6,z7,z8,z9,z10,z11,z12,z13,z14,z15):=fun _ _ _ _ _ _ _ _ _ _ _ _ _ _ _=>rfl
 unfold Q1e.F Q1e.e
 simp only [e8]
 match w,hw,hg with
 | [],_,_=>exact Rs.no
 | k0::r,hw,hg=>
  have hlen:=(hg k0 (by simp)).len
  obtain ⟨r1,r2⟩:=plc_range k0
  have fin:∀ p:Int,p=plc k0→Rs (stLine s pl (k0::r)) (nextP (k0::r)) (bif decide (p < pl) then some (false,s.lg,bs s.g.nm,bs s.g.fm,s.g.uq,bs s.l.nm,bs s.l.fm,s.l.uq,pl,s.g.ds.map FD.av,s.g.ks.map KF.av,Ws s.l.ws,s.l.fs.map LF.av,s.l.js.map JP.av,s.l.ks.map KF.av,s.l.rs.map RL.av) else (bif pl==0 then (bif decide (p > 0) then some (false,s.lg,bs s.g.nm,bs s.g.fm,s.g.uq,bs s.l.nm,bs s.l.fm,s.l.uq,pl,s.g.ds.map FD.av,s.g.ks.map KF.av,Ws s.l.ws,s.l.fs.map LF.av,s.l.js.map JP.av,s.l.ks.map KF.av,s.l.rs.map RL.av) else Q1e.l (m+1) (m+1) (.z9 (Ws (k0::r)) p s.lg (bs s.g.nm) (bs s.g.fm) s.g.uq (bs s.l.nm) (bs s.l.fm) s.l.uq pl (s.g.ds.map FD.av) (s.g.ks.map KF.av) (Ws s.l.ws) (s.l.fs.map LF.av) (s.l.js.map JP.av) (s.l.ks.map KF.av) (s.l.rs.map RL.av)))
    else Q1e.l (m+1) (m+1) (.z9 (Ws (k0::r)) p s.lg (bs s.g.nm) (bs s.g.fm) s.g.uq (bs s.l.nm) (bs s.l.fm) s.l.uq pl (s.g.ds.map FD.av) (s.g.ks.map KF.av) (Ws s.l.ws) (s.l.fs.map LF.av) (s.l.js.map JP.av) (s.l.ks.map KF.av) (s.l.rs.map RL.av)))):=by
   intro p e
   subst e
   rw [stLine_cons]
   by_cases a1:plc k0 < pl
   ·rw [cond_t a1,if_pos a1]
    exact Rs.no
   ·have h9:=line9 (n:=m+1) hn s (plc k0) pl (by omega) r2 hk hz (k0::r) (by simp) hw hg m
    rw [cond_f a1,if_neg a1,beq_int]
    by_cases a2:pl=0
    ·rw [cond_t a2]
     by_cases a3:plc k0 > 0
     ·rw [cond_t a3,if_pos ⟨a2,a3⟩]
      exact Rs.no
     ·rw [cond_f a3,if_neg (fun h=>a3 h.2)]
      exact h9
    ·rw [cond_f a2,if_neg (fun h=>a2 h.1)]
     exact h9
  simp (disch:=omega) only [Option.bind_some,Option.bind_none,cond_true,cond_false,Bool.not_true,Bool.not_false,List.length_map,Ws_length,bs_size,within_t,upto_t,wsucc,Int.toNat_natCast,at_mapN,Ws_getDN,cells_agg,cells_v,withCons_cons,withInt_mk,withStr_mk,withBool_mk,withSl_mk,cond_t,cond_f,List.length_cons,beqI_f,g0,lit1,str_eq]
  unfold Q4h.F
  by_cases h79:k0=[79]
  ·rw [cond_t h79,cond_t (by decide),Option.bind_some]
   exact fin 5 (by unfold plc; rw [if_pos h79])
  ·rw [cond_f h79,cond_t (by show 6 < _; decide),Option.bind_some]
   by_cases h1:k0.length=1
   ·have hp:Lib.index (⟨#[82,66,74,70,75,83]⟩ : ByteArray).data.toList (bs k0).data.toList=plc k0:=by
     unfold plc
     rw [if_neg h79,if_neg (by simp [h1])]
    rw [hp,bneI_f (by omega),cond_false]
    exact fin (plc k0) rfl
   ·have hp:plc k0=-1:=by
     unfold plc
     rw [if_neg h79,if_pos h1]
    rw [bneI_t (by omega),cond_true]
    have:stLine s pl (k0::r)=none:=by
     rw [stLine_cons,hp,if_pos (by omega)]
    rw [this]
    exact Rs.no
theorem head_eq (hn:1001≤n) (s:SR) (pl:Int) (w:List (List UInt8)) (hw:w.length≤1000) (hg:∀ x∈w,Good x) :
  Rs (stHead s w) pl (Q1b.F n (Ws w) s.lg (bs s.g.nm) (bs s.g.fm) s.g.uq (bs s.l.nm) (bs s.l.fm) s.l.uq pl (s.g.ds.map FD.av) (s.g.ks.map KF.av) (Ws s.l.ws) (s.l.fs.map LF.av) (s.l.js.map JP.av) (s.l.ks.map KF.av) (s.l.rs.map RL.av)):=by
 obtain ⟨m,rfl⟩ : ∃ m,n=m+1:=⟨n - 1,by omega⟩
 have e3:∀ z1 z2 z3 z4 z5 z6 z7 z8 z9 z10 z11 z12 z13 z14 z15,Q1b.l (m+1) (m+1) (.z3 z1 z2 z3 z4 z5 z6 z7 z8 z9 z10 z11 z12 z13 z14 z15)=some (false,z1,z2,z3,z4,z5,z6,z7,z8,z9,z10,z11,z12,z13,z14,z15):=fun _ _ _ _ _ _ _ _ _ _ _ _ _ _ _=>rfl
 have add:∀ (u:Bool) (a b:List UInt8) (r:List (List UInt8)),(a=[80,70]∨a=[76,70])→Rs (hd1 s a b u) pl (Q1b.l (m+1) (m+1) (.z4 (Ws (a::b::r)) u s.lg (bs s.g.nm) (bs s.g.fm) s.g.uq (bs s.l.nm) (bs s.l.fm) s.l.uq pl (s.g.ds.map FD.av) (s.g.ks.map KF.av) (Ws s.l.ws) (s.l.fs.map LF.av) (s.l.js.map JP.av) (s.l.ks.map KF.av) (s.l.rs.map RL.av))):=by
  intro u a b r hab
  rw [Q1b.at4]
  unfold Q1b.r4 hd1
  simp (disch:=omega) only [Option.bind_some,Option.bind_none,cond_true,cond_false,Bool.not_true,Bool.not_false,List.length_map,Ws_length,bs_size,within_t,upto_t,wsucc,Int.toNat_natCast,at_mapN,Ws_getDN,cells_agg,cells_v,withCons_cons,withInt_mk,withStr_mk,withBool_mk,withSl_mk,cond_t,cond_f,List.length_cons,List.length_nil,g0,g1,lit2,str_eq]
  rcases hab with rfl | rfl
  ·exact Rs.yes rfl
  ·exact Rs.yes rfl
 unfold Q1b.F Q1b.e
 simp only [e3]
 match w,hw,hg with
 | [],_,_=>exact Rs.no
 | [_],_,_=>exact Rs.no
 | [k0,a],_,hg=>
  have hb:=bare1 (n:=m+1) hn (hg a (by simp))
  unfold stHead
  simp (disch:=omega) only [Option.bind_some,Option.bind_none,cond_true,cond_false,Bool.not_true,Bool.not_false,List.length_map,Ws_length,bs_size,within_t,upto_t,wsucc,Int.toNat_natCast,at_mapN,Ws_getDN,cells_agg,cells_v,withCons_cons,withInt_mk,withStr_mk,withBool_mk,withSl_mk,cond_t,cond_f,List.length_cons,List.length_nil,bneI_t,bneI_f,beqI_t,beqI_f,g0,g1,hb,lit2,str_eq]
  by_cases h1:k0=[80,70]
  ·simp only [h1,decide_true,Bool.not_true,cond_false]
   cases isB a
   ·exact Rs.no
   ·exact add false [80,70] a [] (.inl rfl)
  ·simp only [h1,decide_false,Bool.not_false,cond_true]
   by_cases h2:k0=[76,70]
   ·simp only [h2,decide_true,Bool.not_true,cond_false]
    cases isB a
    ·exact Rs.no
    ·exact add false [76,70] a [] (.inr rfl)
   ·simp only [h2,decide_false,Bool.not_false,cond_true]
    have:(if isB a=true then hd1 s k0 a false else none)=none:=by
     unfold hd1
     rw [if_neg h1,if_neg h2,ite_self]
    rw [this]
    exact Rs.no
 | [k0,a,u],_,hg=>
  have hb:=bare1 (n:=m+1) hn (hg a (by simp))
  have l6:(⟨#[85,78,73,81,85,69]⟩ : ByteArray)=bs [85,78,73,81,85,69]:=rfl
  unfold stHead
  simp (disch:=omega) only [Option.bind_some,Option.bind_none,cond_true,cond_false,Bool.not_true,Bool.not_false,List.length_map,Ws_length,bs_size,within_t,upto_t,wsucc,Int.toNat_natCast,at_mapN,Ws_getDN,cells_agg,cells_v,withCons_cons,withInt_mk,withStr_mk,withBool_mk,withSl_mk,cond_t,cond_f,List.length_cons,List.length_nil,bneI_t,bneI_f,beqI_t,beqI_f,g0,g1,g2,hb,lit2,l6,str_eq]
  by_cases hu:u=[85,78,73,81,85,69]
  ·simp only [hu,decide_true,Bool.not_true,cond_false,Bool.and_true]
   by_cases h1:k0=[80,70]
   ·simp only [h1,decide_true,Bool.not_true,cond_false]
    cases isB a
    ·exact Rs.no
    ·exact add true [80,70] a [[85,78,73,81,85,69]] (.inl rfl)
   ·simp only [h1,decide_false,Bool.not_false,cond_true]
    by_cases h2:k0=[76,70]
    ·simp only [h2,decide_true,Bool.not_true,cond_false]
     cases isB a
     ·exact Rs.no
     ·exact add true [76,70] a [[85,78,73,81,85,69]] (.inr rfl)
    ·simp only [h2,decide_false,Bool.not_false,cond_true]
     have:(if isB a=true then hd1 s k0 a true else none)=none:=by
      unfold hd1
      rw [if_neg h1,if_neg h2,ite_self]
     rw [this]
     exact Rs.no
  ·simp only [hu,decide_false,Bool.not_false,cond_true,Bool.and_false,Bool.false_eq_true,if_false]
   exact Rs.no
 | a::b::c::d::r,_,_=>
  simp (disch:=omega) only [Option.bind_some,Option.bind_none,cond_true,cond_false,Bool.not_true,Bool.not_false,List.length_map,Ws_length,bs_size,within_t,upto_t,wsucc,Int.toNat_natCast,at_mapN,Ws_getDN,cells_agg,cells_v,withCons_cons,withInt_mk,withStr_mk,withBool_mk,withSl_mk,cond_t,cond_f,List.length_cons,List.length_nil,bneI_t,bneI_f,beqI_t,beqI_f]
  exact Rs.no
end
end Go.Proofs.YtmpglmcjoelciaaGreatDoor.Ev
namespace Go.Proofs.YtmpglmcjoelciaaGreatDoor.Ev
open Go Go.Proofs Go.Proofs.Ev
set_option linter.unusedVariables false
set_option linter.unusedSimpArgs false
def rfT (b:Bool) (s:SR):Bool × Bool × ByteArray × ByteArray × Bool × ByteArray × ByteArray × Bool × List AV × List AV × List AV × List AV × List AV × List AV × List AV:=
 (b,s.lg,bs s.g.nm,bs s.g.fm,s.g.uq,bs s.l.nm,bs s.l.fm,s.l.uq,s.g.ds.map FD.av,s.g.ks.map KF.av,Ws s.l.ws,s.l.fs.map LF.av,s.l.js.map JP.av,s.l.ks.map KF.av,s.l.rs.map RL.av)
def Rr (o:Option SR) (x:Option (Bool × Bool × ByteArray × ByteArray × Bool × ByteArray × ByteArray × Bool × List AV × List AV × List AV × List AV × List AV × List AV × List AV)):Prop:=
 ∃ t,x=some t∧t.1=o.isSome∧∀ s,o=some s→t=rfT true s
theorem Rr.no {t:Bool × ByteArray × ByteArray × Bool × ByteArray × ByteArray × Bool × List AV × List AV × List AV × List AV × List AV × List AV × List AV}:Rr none (some (false,t)):=⟨_,rfl,rfl,nofun⟩
theorem Rr.yes {s:SR} {x} (h:x=some (rfT true s)):Rr (some s) x:=⟨_,h,rfl,fun _ e=>by cases e; rfl⟩
section
variable {n:Nat}
theorem addField_eq (hn:200000≤n) (s:SR) {k:Nat} (hk:k≤1000) (hz:Sz s k):∀ w:List (List UInt8),w.length≤1000→(∀ x∈w,Good x)→Rr (stField s w) (Q3a.F n (Ws w) s.lg (bs s.g.nm) (bs s.g.fm) s.g.uq (bs s.l.nm) (bs s.l.fm) s.l.uq (s.g.ds.map FD.av) (s.g.ks.map KF.av) (Ws s.l.ws) (s.l.fs.map LF.av) (s.l.js.map JP.av) (s.l.ks.map KF.av) (s.l.rs.map RL.av)):=by
 intro w hw hg
 have hmost:most=1000000000:=rfl
 have hds:=hz.ds
 have hfs:=hz.fs
 unfold Q3a.F Q3a.e
 match w,hw,hg with
 | [],_,_=>exact Rr.no
 | [_],_,_=>exact Rr.no
 | [_,_],_,_=>exact Rr.no
 | [k0,a,b],_,hg=>
  have hb:=isWord_eq (n:=n) (hg a (by simp))
  have gb:=hg b (by simp)
  obtain ⟨t,t1,t2,t3⟩:=typeForm_eq (n:=n) (by omega) b (by have:=gb.len; omega)
  unfold stField
  simp (disch:=omega) only [Option.bind_some,Option.bind_none,cond_true,cond_false,Bool.not_true,Bool.not_false,List.length_map,Ws_length,bs_size,within_t,upto_t,wsucc,Int.toNat_natCast,at_mapN,Ws_getDN,cells_agg,cells_v,withCons_cons,withInt_mk,withStr_mk,withBool_mk,withSl_mk,cond_t,cond_f,List.length_cons,List.length_nil,bneI_t,bneI_f,beqI_t,beqI_f,g0,g1,g2,hb,t1]
  cases isB a
  ·simp only [Bool.not_false,cond_true,Bool.and_false,Bool.false_eq_true,if_false]
   exact Rr.no
  ·cases hl:s.lg
   ·simp only [Bool.not_true,Bool.not_false,cond_false,cond_true,Bool.and_true,if_true]
    cases ht:typeP b with
    | none=>
     rw [ht] at t2
     rw [show t.2.2.2=false from t2]
     exact Rr.no
    | some u=>
     have:=t3 u ht
     subst this
     refine Rr.yes ?_
     simp [rfT,hl,FD.av]
   ·simp only [Bool.not_true,cond_false,Bool.false_and,Bool.false_eq_true,if_false]
    exact Rr.no
 | [k0,a,b,c],_,hg=>
  have hb:=isWord_eq (n:=n) (hg a (by simp))
  have hc:=isWord_eq (n:=n) (hg c (by simp))
  have gb:=hg b (by simp)
  have hx:=numberR_eq (n:=n) (by omega) b gb.pos
  obtain ⟨t,t1,t2,t3⟩:=typeForm_eq (n:=n) (by omega) b (by have:=gb.len; omega)
  unfold stField
  simp (disch:=omega) only [Option.bind_some,Option.bind_none,cond_true,cond_false,Bool.not_true,Bool.not_false,List.length_map,Ws_length,bs_size,within_t,upto_t,wsucc,Int.toNat_natCast,at_mapN,Ws_getDN,cells_agg,cells_v,withCons_cons,withInt_mk,withStr_mk,withBool_mk,withSl_mk,cond_t,cond_f,List.length_cons,List.length_nil,bneI_t,bneI_f,beqI_t,beqI_f,g0,g1,g2,g3,hb,hc,hx,t1]
  cases isB a
  ·simp only [Bool.not_false,cond_true,Bool.and_false,Bool.false_and,Bool.false_eq_true,if_false]
   exact Rr.no
  ·cases hl:s.lg
   ·simp only [Bool.not_true,Bool.not_false,cond_true,cond_false,Bool.false_and,Bool.false_eq_true,if_false]
    cases t.2.2.2 <;> exact Rr.no
   ·simp only [Bool.not_true,cond_false,Bool.true_and]
    cases isB c
    ·exact Rr.no
    ·cases hx:numP b with
     | none=>exact Rr.no
     | some v=>
      refine Rr.yes ?_
      simp [rfT,hl,LF.av,nres]
 | k0::a::b::c::d::r,_,hg=>
  have hb:=isWord_eq (n:=n) (hg a (by simp))
  have gb:=hg b (by simp)
  obtain ⟨t,t1,t2,t3⟩:=typeForm_eq (n:=n) (by omega) b (by have:=gb.len; omega)
  have:stField s (k0::a::b::c::d::r)=none:=rfl
  rw [this]
  simp (disch:=omega) only [Option.bind_some,Option.bind_none,cond_true,cond_false,Bool.not_true,Bool.not_false,List.length_map,Ws_length,bs_size,within_t,upto_t,wsucc,Int.toNat_natCast,at_mapN,Ws_getDN,cells_agg,cells_v,withCons_cons,withInt_mk,withStr_mk,withBool_mk,withSl_mk,cond_t,cond_f,List.length_cons,List.length_nil,bneI_t,bneI_f,beqI_t,beqI_f,g0,g1,g2,g3,hb,t1]
  cases isB a
  ·exact Rr.no
  ·cases hl:s.lg
   ·simp only [Bool.not_true,Bool.not_false,cond_true,cond_false]
    cases t.2.2.2 <;> exact Rr.no
   ·exact Rr.no
theorem idx_ops (o:List UInt8):(ixs opsL o 0==-1)=!opsL.contains o:=by
 rw [← ixs_has,beq_int]
 rcases ixs_find (fun x:List UInt8=>x) o opsL 0 with ⟨_,h⟩ | ⟨j,_,_,h⟩
 ·rw [List.map_id'] at h
  rw [h]; rfl
 ·rw [List.map_id'] at h
  rw [h]
  have e1:decide (((0+j:Nat):Int)=-1)=false:=decide_eq_false (by omega)
  have e2:decide (((0+j:Nat):Int)≥0)=true:=decide_eq_true (by omega)
  rw [e1,e2]
  rfl
theorem addRule_lp (hn:100002≤n) (s:SR) (om:Bool) {kk:Nat} (hkk:kk≤1000) (hz:Sz s kk) (W0:List (List UInt8)) (hW:W0.length≤1000):∀ (k:Nat) (l p:List (List UInt8)) (acc:List CN) (m:Nat),l.length≤k→W0=p++l→k+2≤m→l.length+acc.length≤2000→(∀ x∈l,Good x)→
  Rr ((cndP l).map fun cs=>addR s ⟨om,acc++cs⟩) (Q3b.l n m (.z3 (Ws W0) p.length s.lg (bs s.g.nm) (bs s.g.fm) s.g.uq (bs s.l.nm) (bs s.l.fm) s.l.uq om (acc.map CN.av) (s.g.ds.map FD.av) (s.g.ks.map KF.av) (Ws s.l.ws) (s.l.fs.map LF.av) (s.l.js.map JP.av) (s.l.ks.map KF.av) (s.l.rs.map RL.av))):=by
 intro k
 induction k with
 | zero=>
  intro l p acc m hl hW0 hm ha hg
  have:l=[]:=List.eq_nil_of_length_eq_zero (by omega)
  subst this
  obtain ⟨m,rfl⟩ : ∃ q,m=q+1:=⟨m - 1,by omega⟩
  have hmost:most=1000000000:=rfl
  have hrs:=hz.rs
  have hpl:W0.length=p.length:=by rw [hW0]; simp
  rw [Q3b.at3]
  unfold Q3b.r3
  simp (disch:=omega) only [Option.bind_some,Option.bind_none,cond_true,cond_false,Bool.not_true,Bool.not_false,List.length_map,Ws_length,bs_size,within_t,upto_t,wsucc,Int.toNat_natCast,at_mapN,Ws_getDN,cells_agg,cells_v,withCons_cons,withInt_mk,withStr_mk,withBool_mk,withSl_mk,cond_t,cond_f,List.length_nil,List.length_cons]
  refine Rr.yes ?_
  simp [rfT,addR,RL.av]
 | succ k ih=>
  intro l p acc m hl hW0 hm ha hg
  obtain ⟨m,rfl⟩ : ∃ q,m=q+2:=⟨m - 2,by omega⟩
  have hmost:most=1000000000:=rfl
  have hrs:=hz.rs
  have hWl:W0.length=p.length+l.length:=by rw [hW0]; simp
  have e6:∀ z1 z2 z3 z4 z5 z6 z7 z8 z9 z10 z11 z12 z13 z14,Q3b.l n (m+1) (.z6 z1 z2 z3 z4 z5 z6 z7 z8 z9 z10 z11 z12 z13 z14)=some (false,z1,z2,z3,z4,z5,z6,z7,z8,z9,z10,z11,z12,z13,z14):=fun _ _ _ _ _ _ _ _ _ _ _ _ _ _=>rfl
  have e10:∀ z1 z2 z3 z4 z5 z6 z7 z8 z9 z10 z11 z12 z13 z14,Q3b.l n (m+1) (.z10 z1 z2 z3 z4 z5 z6 z7 z8 z9 z10 z11 z12 z13 z14)=some (false,z1,z2,z3,z4,z5,z6,z7,z8,z9,z10,z11,z12,z13,z14):=fun _ _ _ _ _ _ _ _ _ _ _ _ _ _=>rfl
  have at_:∀ j,∀ h:j < l.length,W0[p.length+j]'(by omega)=l[j]:=by
   intro j h
   simp only [hW0]
   rw [List.getElem_append_right (by omega)]
   simp
  have w1:IntKind.i64.wrap ((p.length:Int)+1)=((p.length+1:Nat):Int):=by rw [w64 (by omega) (by omega)]; omega
  have w2:IntKind.i64.wrap ((p.length:Int)+2)=((p.length+2:Nat):Int):=by rw [w64 (by omega) (by omega)]; omega
  have w3:IntKind.i64.wrap ((p.length:Int)+3)=((p.length+3:Nat):Int):=by rw [w64 (by omega) (by omega)]; omega
  have w4:IntKind.i64.wrap ((p.length:Int)+4)=((p.length+4:Nat):Int):=by rw [w64 (by omega) (by omega)]; omega
  rw [Q3b.at3]
  unfold Q3b.r3
  simp only [e6,e10,w1,w2,w3,w4]
  match l,hl,ha,hg,hWl,at_,hW0 with
  | [],_,_,_,hWl,_,_=>
   simp only [List.length_nil] at hWl
   simp (disch:=omega) only [Option.bind_some,Option.bind_none,cond_true,cond_false,Bool.not_true,Bool.not_false,List.length_map,Ws_length,bs_size,within_t,upto_t,wsucc,Int.toNat_natCast,at_mapN,Ws_getDN,cells_agg,cells_v,withCons_cons,withInt_mk,withStr_mk,withBool_mk,withSl_mk,cond_t,cond_f,List.length_nil,List.length_cons]
   refine Rr.yes ?_
   simp [rfT,addR,RL.av,cndP]
  | [_],_,_,_,hWl,_,_=>
   simp only [List.length_nil,List.length_cons] at hWl
   simp (disch:=omega) only [Option.bind_some,Option.bind_none,cond_true,cond_false,Bool.not_true,Bool.not_false,List.length_map,Ws_length,bs_size,within_t,upto_t,wsucc,Int.toNat_natCast,at_mapN,Ws_getDN,cells_agg,cells_v,withCons_cons,withInt_mk,withStr_mk,withBool_mk,withSl_mk,cond_t,cond_f,List.length_nil,List.length_cons]
   exact Rr.no
  | [_,_],_,_,_,hWl,_,_=>
   simp only [List.length_nil,List.length_cons] at hWl
   simp (disch:=omega) only [Option.bind_some,Option.bind_none,cond_true,cond_false,Bool.not_true,Bool.not_false,List.length_map,Ws_length,bs_size,within_t,upto_t,wsucc,Int.toNat_natCast,at_mapN,Ws_getDN,cells_agg,cells_v,withCons_cons,withInt_mk,withStr_mk,withBool_mk,withSl_mk,cond_t,cond_f,List.length_nil,List.length_cons]
   exact Rr.no
  | [a,o,v,d],_,ha,hg,hWl,at_,_=>
   simp only [List.length_nil,List.length_cons] at hWl
   simp (disch:=omega) only [Option.bind_some,Option.bind_none,cond_true,cond_false,Bool.not_true,Bool.not_false,List.length_map,Ws_length,bs_size,within_t,upto_t,wsucc,Int.toNat_natCast,at_mapN,Ws_getDN,cells_agg,cells_v,withCons_cons,withInt_mk,withStr_mk,withBool_mk,withSl_mk,cond_t,cond_f,List.length_nil,List.length_cons,beqI_t]
   exact Rr.no
  | [a,o,v],_,ha,hg,hWl,at_,hW0=>
   have hb:=isWord_eq (n:=n) (hg a (by simp))
   have hi:=indexOf_eq (n:=n) (by omega) opsL (by decide) o
   obtain ⟨x,y,v1,v2⟩:=valueR_eq (n:=n) (by omega) (hg v (by simp))
   have a0:=at_ 0 (by simp)
   have a1:=at_ 1 (by simp)
   have a2:=at_ 2 (by simp)
   simp only [Nat.add_zero,List.getElem_cons_zero,List.getElem_cons_succ] at a0 a1 a2
   simp only [List.length_nil,List.length_cons] at hWl ha
   have ih':=fun q:Int × List UInt8=>ih [] (p++[a,o,v]++[[]]) (acc++[⟨a,ixs opsL o 0,q.1,q.2⟩]) (m+1)
   unfold cndP cnd1 opP
   have ops_:Q3i.F n=some (Ws opsL):=rfl
   simp (disch:=omega) only [Option.bind_some,Option.bind_none,cond_true,cond_false,Bool.not_true,Bool.not_false,List.length_map,Ws_length,bs_size,within_t,upto_t,wsucc,Int.toNat_natCast,at_mapN,Ws_getDN,cells_agg,cells_v,withCons_cons,withInt_mk,withStr_mk,withBool_mk,withSl_mk,cond_t,cond_f,List.length_cons,List.length_nil,beqI_f,a0,a1,a2,hb,hi,v1,ops_]
   rw [idx_ops]
   cases isB a
   ·exact Rr.no
   ·cases opsL.contains o
    ·exact Rr.no
    ·simp only [Bool.not_true,cond_false,if_true,Option.bind_some]
     cases hv:valP v with
     | none=>exact Rr.no
     | some q=>
      obtain ⟨rfl,rfl⟩:=v2 q hv
      simp only [Option.isSome_some,Bool.not_true,cond_false]
      rw [Q3b.at3]
      unfold Q3b.r3
      simp (disch:=omega) only [Option.bind_some,Option.bind_none,cond_true,cond_false,Bool.not_true,Bool.not_false,List.length_map,Ws_length,bs_size,within_t,upto_t,wsucc,Int.toNat_natCast,at_mapN,Ws_getDN,cells_agg,cells_v,withCons_cons,withInt_mk,withStr_mk,withBool_mk,withSl_mk,cond_t,cond_f,List.length_nil,List.length_cons,List.length_append]
      refine Rr.yes ?_
      simp [rfT,addR,RL.av,CN.av]
  | a::o::v::d::b::r,hl,ha,hg,hWl,at_,hW0=>
   have hb:=isWord_eq (n:=n) (hg a (by simp))
   have hi:=indexOf_eq (n:=n) (by omega) opsL (by decide) o
   obtain ⟨x,y,v1,v2⟩:=valueR_eq (n:=n) (by omega) (hg v (by simp))
   have a0:=at_ 0 (by simp)
   have a1:=at_ 1 (by simp)
   have a2:=at_ 2 (by simp)
   have a3:=at_ 3 (by simp)
   simp only [Nat.add_zero,List.getElem_cons_zero,List.getElem_cons_succ] at a0 a1 a2 a3
   simp only [List.length_cons] at hWl ha hl
   unfold cndP cnd1 opP
   have ops_:Q3i.F n=some (Ws opsL):=rfl
   simp (disch:=omega) only [Option.bind_some,Option.bind_none,cond_true,cond_false,Bool.not_true,Bool.not_false,List.length_map,Ws_length,bs_size,within_t,upto_t,wsucc,Int.toNat_natCast,at_mapN,Ws_getDN,cells_agg,cells_v,withCons_cons,withInt_mk,withStr_mk,withBool_mk,withSl_mk,cond_t,cond_f,List.length_cons,List.length_nil,beqI_f,a0,a1,a2,a3,hb,hi,v1,ops_,lit3,str_eq]
   rw [idx_ops]
   by_cases hd:d=[65,78,68]
   ·simp only [hd,decide_true,Bool.not_true,cond_false,if_true]
    cases isB a
    ·exact Rr.no
    ·cases opsL.contains o
     ·exact Rr.no
     ·simp only [Bool.not_true,cond_false,if_true,Option.bind_some]
      cases hv:valP v with
      | none=>exact Rr.no
      | some q=>
       obtain ⟨rfl,rfl⟩:=v2 q hv
       have:=ih (b::r) (p++[a,o,v,d]) (acc++[⟨a,ixs opsL o 0,q.1,q.2⟩]) (m+1) (by simp; omega) (by rw [hW0]; simp) (by omega) (by simp; omega) (fun z hz=>hg z (by simp at hz ⊢; rcases hz with h | h <;> simp [h]))
       simp only [Option.isSome_some,Bool.not_true,cond_false,Option.map_some,Option.bind_some]
       rw [List.map_append,List.length_append] at this
       have e1:((cndP (b::r)).map fun cs=>(⟨a,ixs opsL o 0,q.1,q.2⟩ : CN)::cs).map (fun cs=>addR s ⟨om,acc++cs⟩)=(cndP (b::r)).map fun cs=>addR s ⟨om,acc++[⟨a,ixs opsL o 0,q.1,q.2⟩]++cs⟩:=by
        rw [Option.map_map]
        congr 1
        funext cs
        simp
       rw [e1]
       exact this
   ·simp only [hd,decide_false,Bool.not_false,cond_true,if_false]
    exact Rr.no
theorem addRule_eq (hn:100002≤n) (s:SR) (hlg:s.lg=true) {k:Nat} (hk:k≤1000) (hz:Sz s k) (a:List UInt8) (r:List (List UInt8)) (hw:r.length+1≤1000) (hg:∀ x∈a::r,Good x):Rr (stRule s (a::r)) (Q3b.F n (Ws (a::r)) s.lg (bs s.g.nm) (bs s.g.fm) s.g.uq (bs s.l.nm) (bs s.l.fm) s.l.uq (s.g.ds.map FD.av) (s.g.ks.map KF.av) (Ws s.l.ws) (s.l.fs.map LF.av) (s.l.js.map JP.av) (s.l.ks.map KF.av) (s.l.rs.map RL.av)):=by
 have:=addRule_lp (n:=n) hn s (decide (a=[79])) hk hz (a::r) (by simpa using hw) r.length r [a] [] n (Nat.le_refl _) rfl (by omega) (by simp; omega) (fun z hz=>hg z (by simp [hz]))
 unfold Q3b.F Q3b.e stRule
 simp (disch:=omega) only [Option.bind_some,Option.bind_none,cond_true,cond_false,Bool.not_true,Bool.not_false,List.length_map,Ws_length,bs_size,within_t,upto_t,wsucc,Int.toNat_natCast,at_mapN,Ws_getDN,cells_agg,cells_v,withCons_cons,withInt_mk,withStr_mk,withBool_mk,withSl_mk,cond_t,cond_f,List.length_cons,g0,lit1,str_eq]
 rw [if_pos hlg]
 exact this
end
end Go.Proofs.YtmpglmcjoelciaaGreatDoor.Ev
namespace Go.Proofs.YtmpglmcjoelciaaGreatDoor.Ev
open Go Go.Proofs Go.Proofs.Ev
set_option linter.unusedVariables false
set_option linter.unusedSimpArgs false
def Ra (o:Option SR) (p:Int) (x:Option (Int × Bool × Bool × ByteArray × ByteArray × Bool × ByteArray × ByteArray × Bool × List AV × List AV × List AV × List AV × List AV × List AV × List AV)):Prop:=
 ∃ t,x=some t∧t.2.1=o.isSome∧∀ s,o=some s→t=(p,rfT true s)
theorem Ra.no {p q:Int} {t:Bool × ByteArray × ByteArray × Bool × ByteArray × ByteArray × Bool × List AV × List AV × List AV × List AV × List AV × List AV × List AV}:Ra none p (some (q,false,t)):=⟨_,rfl,rfl,nofun⟩
theorem Ra.yes {p:Int} {s:SR} {x} (h:x=some (p,rfT true s)):Ra (some s) p x:=⟨_,h,rfl,fun _ e=>by cases e; rfl⟩
theorem Ra.of {o:Option SR} {q:Int} {x} (h:Rr o x):Ra o q (x.bind fun p=>some (q,p.1,p.2.1,p.2.2.1,p.2.2.2.1,p.2.2.2.2.1,p.2.2.2.2.2.1,p.2.2.2.2.2.2.1,p.2.2.2.2.2.2.2.1,p.2.2.2.2.2.2.2.2.1,p.2.2.2.2.2.2.2.2.2.1,p.2.2.2.2.2.2.2.2.2.2.1,p.2.2.2.2.2.2.2.2.2.2.2.1,p.2.2.2.2.2.2.2.2.2.2.2.2.1,p.2.2.2.2.2.2.2.2.2.2.2.2.2.1,p.2.2.2.2.2.2.2.2.2.2.2.2.2.2)):=by
 obtain ⟨t,rfl,h2,h3⟩:=h
 exact ⟨_,rfl,h2,fun s hs=>by rw [h3 s hs]⟩
def zG:FL:=⟨[],[],[],[],false⟩
def zL:LG:=⟨[],[],[],[],[],[],false,[]⟩
def zS:SR:=⟨false,zG,zL⟩
theorem w_last {k:Nat} (h:k≤100000):IntKind.i64.wrap (((k+1:Nat):Int) - 1)=(k:Int):=by
 rw [w64 (by omega) (by omega)]
 omega
theorem plcB:plc [66]=1:=by decide
theorem plcJ:plc [74]=2:=by decide
theorem plcF:plc [70]=3:=by decide
theorem plcK:plc [75]=4:=by decide
theorem plcS:plc [83]=5:=by decide
theorem plcO:plc [79]=5:=by decide
theorem plcR:plc [82]=0:=by decide
theorem plc_else {k:List UInt8} (h1:k≠[66]) (h2:k≠[74]) (h3:k≠[70]) (h4:k≠[75]) (h5:k≠[83]) (h6:k≠[79]):plc k≤0∧(plc k=0→k=[82]):=by
 unfold plc
 rw [if_neg h6]
 by_cases hl:k.length≠1
 ·rw [if_pos hl]; exact ⟨by omega,fun h=>absurd h (by omega)⟩
 ·rw [if_neg hl]
  match k,hl,h1,h2,h3,h4,h5 with
  | [],hl,_,_,_,_,_=>exact absurd (by simp) hl
  | _::_::_,hl,_,_,_,_,_=>exact absurd (by simp) hl
  | [c],_,h1,h2,h3,h4,h5=>
   rw [index_byte]
   by_cases c1:c=82
   ·rw [if_pos c1,c1]; exact ⟨by omega,fun _=>rfl⟩
   rw [if_neg c1,if_neg (fun e=>h1 (by rw [e])),if_neg (fun e=>h2 (by rw [e])),if_neg (fun e=>h3 (by rw [e])),if_neg (fun e=>h4 (by rw [e])),if_neg (fun e=>h5 (by rw [e]))]
   exact ⟨by omega,fun h=>absurd h (by omega)⟩
section
variable {n:Nat}
theorem add0 (hn:1001≤n) (w:List (List UInt8)) (h0:w≠[]) (hw:w.length≤1000) (hg:∀ x∈w,Good x):Ra (stHead zS w) 1 (Q3c.F n (Ws w) 0 false ⟨#[]⟩ ⟨#[]⟩ false ⟨#[]⟩ ⟨#[]⟩ false [] [] [] [] [] [] []):=by
 obtain ⟨m,rfl⟩ : ∃ m,n=m+1:=⟨n - 1,by omega⟩
 have e4:∀ z1 z2 z3 z4 z5 z6 z7 z8 z9 z10 z11 z12 z13 z14,Q3c.l (m+1) (m+1) (.z4 z1 z2 z3 z4 z5 z6 z7 z8 z9 z10 z11 z12 z13 z14)=some (0,false,z1,z2,z3,z4,z5,z6,z7,z8,z9,z10,z11,z12,z13,z14):=fun _ _ _ _ _ _ _ _ _ _ _ _ _ _=>rfl
 have add:∀ (u:Nat) (a b:List UInt8) (r:List (List UInt8)),u=1∨u=2→(a=[80,70]∨a=[76,70])→Ra (hd1 zS a b (decide (u=2))) 1 (Q3c.l (m+1) (m+1) (.z5 (Ws (a::b::r)) u false ⟨#[]⟩ ⟨#[]⟩ false ⟨#[]⟩ ⟨#[]⟩ false [] [] [] [] [] [] [])):=by
  intro u a b r hu hab
  rw [Q3c.at5]
  unfold Q3c.r5 hd1
  simp (disch:=omega) only [Option.bind_some,Option.bind_none,cond_true,cond_false,Bool.not_true,Bool.not_false,List.length_map,Ws_length,bs_size,within_t,upto_t,wsucc,Int.toNat_natCast,at_mapN,Ws_getDN,cells_agg,cells_v,withCons_cons,withInt_mk,withStr_mk,withBool_mk,withSl_mk,cond_t,cond_f,List.length_cons,List.length_nil,g0,g1,lit2,str_eq]
  rcases hab with rfl | rfl <;> rcases hu with rfl | rfl <;> exact Ra.yes rfl
 have l6:(⟨#[85,78,73,81,85,69]⟩ : ByteArray)=bs [85,78,73,81,85,69]:=rfl
 unfold Q3c.F Q3c.e
 simp only [e4]
 match w,h0,hw,hg with
 | [],h0,_,_=>exact absurd rfl h0
 | [_],_,_,_=>exact Ra.no
 | [k0,a],_,_,hg=>
  have hb:=isWord_eq (n:=m+1) (hg a (by simp))
  unfold stHead
  simp (disch:=omega) only [Option.bind_some,Option.bind_none,cond_true,cond_false,Bool.not_true,Bool.not_false,List.length_map,Ws_length,bs_size,within_t,upto_t,wsucc,Int.toNat_natCast,at_mapN,Ws_getDN,cells_agg,cells_v,withCons_cons,withInt_mk,withStr_mk,withBool_mk,withSl_mk,cond_t,cond_f,List.length_cons,List.length_nil,w_last,bneI_t,bneI_f,beqI_t,beqI_f,g0,g1,hb,lit2,str_eq]
  by_cases h1:k0=[80,70]
  ·simp only [h1,decide_true,Bool.not_true,cond_false]
   cases isB a
   ·exact Ra.no
   ·exact add 1 [80,70] a [] (.inl rfl) (.inl rfl)
  ·simp only [h1,decide_false,Bool.not_false,cond_true]
   by_cases h2:k0=[76,70]
   ·simp only [h2,decide_true,Bool.not_true,cond_false]
    cases isB a
    ·exact Ra.no
    ·exact add 1 [76,70] a [] (.inl rfl) (.inr rfl)
   ·simp only [h2,decide_false,Bool.not_false,cond_true]
    have:(if isB a=true then hd1 zS k0 a false else none)=none:=by
     unfold hd1
     rw [if_neg h1,if_neg h2,ite_self]
    rw [this]
    exact Ra.no
 | [k0,a,u],_,_,hg=>
  have hb:=isWord_eq (n:=m+1) (hg a (by simp))
  unfold stHead
  simp (disch:=omega) only [Option.bind_some,Option.bind_none,cond_true,cond_false,Bool.not_true,Bool.not_false,List.length_map,Ws_length,bs_size,within_t,upto_t,wsucc,Int.toNat_natCast,at_mapN,Ws_getDN,cells_agg,cells_v,withCons_cons,withInt_mk,withStr_mk,withBool_mk,withSl_mk,cond_t,cond_f,List.length_cons,List.length_nil,w_last,bneI_t,bneI_f,beqI_t,beqI_f,g0,g1,g2,hb,lit2,l6,str_eq]
  by_cases h1:k0=[80,70]
  ·simp only [h1,decide_true,Bool.not_true,cond_false]
   cases isB a
   ·exact Ra.no
   ·by_cases hu:u=[85,78,73,81,85,69]
    ·simp only [hu,decide_true,Bool.not_true,cond_false,Bool.and_true]
     exact add 2 [80,70] a [[85,78,73,81,85,69]] (.inr rfl) (.inl rfl)
    ·simp only [hu,decide_false,Bool.not_false,cond_true,Bool.and_false,Bool.false_eq_true,if_false]
     exact Ra.no
  ·simp only [h1,decide_false,Bool.not_false,cond_true]
   by_cases h2:k0=[76,70]
   ·simp only [h2,decide_true,Bool.not_true,cond_false]
    cases isB a
    ·exact Ra.no
    ·by_cases hu:u=[85,78,73,81,85,69]
     ·simp only [hu,decide_true,Bool.not_true,cond_false,Bool.and_true]
      exact add 2 [76,70] a [[85,78,73,81,85,69]] (.inr rfl) (.inr rfl)
     ·simp only [hu,decide_false,Bool.not_false,cond_true,Bool.and_false,Bool.false_eq_true,if_false]
      exact Ra.no
   ·simp only [h2,decide_false,Bool.not_false,cond_true]
    have:(if (isB a&&decide (u=[85,78,73,81,85,69]))=true then hd1 zS k0 a true else none)=none:=by
     unfold hd1
     rw [if_neg h1,if_neg h2,ite_self]
    rw [this]
    exact Ra.no
 | a::b::c::d::r,_,hw,_=>
  simp only [List.length_cons] at hw
  simp (disch:=omega) only [Option.bind_some,Option.bind_none,cond_true,cond_false,Bool.not_true,Bool.not_false,List.length_map,Ws_length,bs_size,within_t,upto_t,wsucc,Int.toNat_natCast,at_mapN,Ws_getDN,cells_agg,cells_v,withCons_cons,withInt_mk,withStr_mk,withBool_mk,withSl_mk,cond_t,cond_f,List.length_cons,List.length_nil,w_last,bneI_t,bneI_f,beqI_t,beqI_f]
  exact Ra.no
theorem add1 (hn:1001≤n) (s:SR) (hz:if s.lg then s.g=zG else s.l=zL) (w:List (List UInt8)) (h0:w≠[]) (hw:w.length≤1000) (hg:∀ x∈w,Good x):Ra (stLine s 0 w) 2 (Q3c.F n (Ws w) 1 s.lg (bs s.g.nm) (bs s.g.fm) s.g.uq (bs s.l.nm) (bs s.l.fm) s.l.uq (s.g.ds.map FD.av) (s.g.ks.map KF.av) (Ws s.l.ws) (s.l.fs.map LF.av) (s.l.js.map JP.av) (s.l.ks.map KF.av) (s.l.rs.map RL.av)):=by
 obtain ⟨m,rfl⟩ : ∃ m,n=m+1:=⟨n - 1,by omega⟩
 have e12:∀ z1 z2 z3 z4 z5 z6 z7 z8 z9 z10 z11 z12 z13 z14,Q3c.l (m+1) (m+1) (.z12 z1 z2 z3 z4 z5 z6 z7 z8 z9 z10 z11 z12 z13 z14)=some (0,false,z1,z2,z3,z4,z5,z6,z7,z8,z9,z10,z11,z12,z13,z14):=fun _ _ _ _ _ _ _ _ _ _ _ _ _ _=>rfl
 unfold Q3c.F Q3c.e
 simp only [e12]
 have red:∀ k r,stLine s 0 (k::r)=if k=[82] then stFmt s (k::r) else none:=by
  intro k r
  rw [stLine_cons]
  by_cases h:k=[82]
  ·rw [if_pos h,h,plcR,if_neg (by omega),if_neg (by omega)]
   rfl
  ·rw [if_neg h]
   by_cases hp:plc k < 0
   ·rw [if_pos hp]
   ·rw [if_neg hp]
    by_cases hp2:plc k > 0
    ·rw [if_pos ⟨rfl,hp2⟩]
    ·exfalso
     have h00:plc k=0:=by omega
     by_cases c1:k=[66]
     ·rw [c1,plcB] at h00; omega
     by_cases c2:k=[74]
     ·rw [c2,plcJ] at h00; omega
     by_cases c3:k=[70]
     ·rw [c3,plcF] at h00; omega
     by_cases c4:k=[75]
     ·rw [c4,plcK] at h00; omega
     by_cases c5:k=[83]
     ·rw [c5,plcS] at h00; omega
     by_cases c6:k=[79]
     ·rw [c6,plcO] at h00; omega
     exact h ((plc_else c1 c2 c3 c4 c5 c6).2 h00)
 match w,h0,hw,hg with
 | [],h0,_,_=>exact absurd rfl h0
 | [k0],_,_,_=>
  rw [red]
  have:(if k0=[82] then stFmt s [k0] else none)=none:=by
   split <;> rfl
  rw [this]
  exact Ra.no
 | [k0,a],_,_,hg=>
  have hb:=isWord_eq (n:=m+1) (hg a (by simp))
  rw [red]
  unfold stFmt
  simp (disch:=omega) only [Option.bind_some,Option.bind_none,cond_true,cond_false,Bool.not_true,Bool.not_false,List.length_map,Ws_length,bs_size,within_t,upto_t,wsucc,Int.toNat_natCast,at_mapN,Ws_getDN,cells_agg,cells_v,withCons_cons,withInt_mk,withStr_mk,withBool_mk,withSl_mk,cond_t,cond_f,List.length_cons,List.length_nil,w_last,bneI_t,bneI_f,beqI_t,beqI_f,g0,g1,hb,lit1,str_eq]
  by_cases h1:k0=[82]
  ·simp only [h1,decide_true,Bool.not_true,cond_false,if_true]
   cases isB a
   ·exact Ra.no
   ·cases hl:s.lg
    ·rw [hl] at hz
     simp only [Bool.false_eq_true,if_false] at hz
     refine Ra.yes ?_
     simp [rfT,hl,hz,zL,Ws]
    ·rw [hl] at hz
     simp only [if_true] at hz
     refine Ra.yes ?_
     simp [rfT,hl,hz,zG]
  ·simp only [h1,decide_false,Bool.not_false,cond_true,if_false]
   exact Ra.no
 | k0::b::c::r,_,hw,_=>
  rw [red]
  have:(if k0=[82] then stFmt s (k0::b::c::r) else none)=none:=by
   split <;> rfl
  rw [this]
  simp only [List.length_cons] at hw
  simp (disch:=omega) only [Option.bind_some,Option.bind_none,cond_true,cond_false,Bool.not_true,Bool.not_false,List.length_map,Ws_length,bs_size,within_t,upto_t,wsucc,Int.toNat_natCast,at_mapN,Ws_getDN,cells_agg,cells_v,withCons_cons,withInt_mk,withStr_mk,withBool_mk,withSl_mk,cond_t,cond_f,List.length_cons,List.length_nil,w_last,bneI_t,bneI_f,beqI_t,beqI_f]
  exact Ra.no
theorem addN (hn:200000≤n) (s:SR) (pl:Int) (hp1:1≤pl) (hp5:pl≤5) {k:Nat} (hk:k≤1000) (hz:Sz s k) (w:List (List UInt8)) (h0:w≠[]) (hw:w.length≤1000) (hg:∀ x∈w,Good x):Ra (stLine s pl w) (nextP w+1) (Q3c.F n (Ws w) (pl+1) s.lg (bs s.g.nm) (bs s.g.fm) s.g.uq (bs s.l.nm) (bs s.l.fm) s.l.uq (s.g.ds.map FD.av) (s.g.ks.map KF.av) (Ws s.l.ws) (s.l.fs.map LF.av) (s.l.js.map JP.av) (s.l.ks.map KF.av) (s.l.rs.map RL.av)):=by
 obtain ⟨m,rfl⟩ : ∃ m,n=m+1:=⟨n - 1,by omega⟩
 have e21:∀ z1 z2 z3 z4 z5 z6 z7 z8 z9 z10 z11 z12 z13 z14,Q3c.l (m+1) (m+1) (.z21 z1 z2 z3 z4 z5 z6 z7 z8 z9 z10 z11 z12 z13 z14)=some (0,false,z1,z2,z3,z4,z5,z6,z7,z8,z9,z10,z11,z12,z13,z14):=fun _ _ _ _ _ _ _ _ _ _ _ _ _ _=>rfl
 have e26:∀ z1 z2 z3 z4 z5 z6 z7 z8 z9 z10 z11 z12 z13 z14,Q3c.l (m+1) (m+1) (.z26 z1 z2 z3 z4 z5 z6 z7 z8 z9 z10 z11 z12 z13 z14)=some (0,false,z1,z2,z3,z4,z5,z6,z7,z8,z9,z10,z11,z12,z13,z14):=fun _ _ _ _ _ _ _ _ _ _ _ _ _ _=>rfl
 have e35:∀ z1 z2 z3 z4 z5 z6 z7 z8 z9 z10 z11 z12 z13 z14,Q3c.l (m+1) (m+1) (.z35 z1 z2 z3 z4 z5 z6 z7 z8 z9 z10 z11 z12 z13 z14)=some (0,false,z1,z2,z3,z4,z5,z6,z7,z8,z9,z10,z11,z12,z13,z14):=fun _ _ _ _ _ _ _ _ _ _ _ _ _ _=>rfl
 have e40:∀ z1 z2 z3 z4 z5 z6 z7 z8 z9 z10 z11 z12 z13 z14,Q3c.l (m+1) (m+1) (.z40 z1 z2 z3 z4 z5 z6 z7 z8 z9 z10 z11 z12 z13 z14)=some (5,true,z1,z2,z3,z4,z5,z6,z7,z8,z9,z10,z11,z12,z13,z14):=fun _ _ _ _ _ _ _ _ _ _ _ _ _ _=>rfl
 have hmost:most=1000000000:=rfl
 have z1:=hz.ws
 have z2:=hz.js
 have z3:=hz.lk
 have z4:=hz.ks
 unfold Q3c.F Q3c.e
 simp only [e21,e26,e35,e40]
 match w,h0,hw,hg with
 | [],h0,_,_=>exact absurd rfl h0
 | k0::r,_,hw,hg=>
  have hF:=addField_eq (n:=m+1) hn s hk hz (k0::r) hw hg
  simp only [List.length_cons] at hw
  rw [stLine_cons]
  simp (disch:=omega) only [Option.bind_some,Option.bind_none,cond_true,cond_false,Bool.not_true,Bool.not_false,List.length_map,Ws_length,bs_size,within_t,upto_t,wsucc,Int.toNat_natCast,at_mapN,Ws_getDN,cells_agg,cells_v,withCons_cons,withInt_mk,withStr_mk,withBool_mk,withSl_mk,cond_t,cond_f,List.length_cons,w_last,beqI_f,g0,lit1,str_eq]
  by_cases c1:k0=[66]
  ·simp only [c1,decide_true,cond_true,plcB]
   by_cases q:(1:Int) < pl
   ·rw [if_pos q,cond_t (by omega)]
    exact Ra.no
   rw [if_neg q,if_neg (by omega),cond_f (by omega),show disp s 1 ([66]::r)=stBase s ([66]::r) from rfl]
   cases hl:s.lg
   ·have:stBase s ([66]::r)=none:=by
     unfold stBase
     split
     ·rw [hl]; rfl
     ·rfl
    rw [this]
    exact Ra.no
   ·match r,hw,hg with
    | [],_,_=>exact Ra.no
    | [b],_,hg=>
     have hb:=isWord_eq (n:=m+1) (hg b (by simp))
     unfold stBase
     simp (disch:=omega) only [Option.bind_some,Option.bind_none,cond_true,cond_false,Bool.not_true,Bool.not_false,List.length_map,Ws_length,bs_size,within_t,upto_t,wsucc,Int.toNat_natCast,at_mapN,Ws_getDN,cells_agg,cells_v,withCons_cons,withInt_mk,withStr_mk,withBool_mk,withSl_mk,cond_t,cond_f,List.length_cons,List.length_nil,bneI_t,bneI_f,g1,hb,hl,Bool.true_and,Ws_snoc]
     cases isB b
     ·exact Ra.no
     ·refine Ra.yes ?_
      simp [rfT,hl,nextP,plcB,nxt]
    | a::b::r,_,_=>
     simp (disch:=omega) only [Option.bind_some,Option.bind_none,cond_true,cond_false,Bool.not_true,Bool.not_false,List.length_map,Ws_length,bs_size,within_t,upto_t,wsucc,Int.toNat_natCast,at_mapN,Ws_getDN,cells_agg,cells_v,withCons_cons,withInt_mk,withStr_mk,withBool_mk,withSl_mk,cond_t,cond_f,List.length_cons,List.length_nil,bneI_t,bneI_f]
     exact Ra.no
  simp only [c1,decide_false,cond_false]
  by_cases c2:k0=[74]
  ·simp only [c2,decide_true,cond_true,plcJ]
   by_cases q:(2:Int) < pl
   ·rw [if_pos q,cond_t (by omega)]
    exact Ra.no
   rw [if_neg q,if_neg (by omega),cond_f (by omega),show disp s 2 ([74]::r)=stJoin s ([74]::r) from rfl]
   cases hl:s.lg
   ·have:stJoin s ([74]::r)=none:=by
     unfold stJoin
     split
     ·rw [hl]; rfl
     ·rfl
    rw [this]
    exact Ra.no
   ·match r,hw,hg with
    | [],_,_=>exact Ra.no
    | [_],_,_=>exact Ra.no
    | [_,_],_,_=>exact Ra.no
    | [_,_,_],_,_=>exact Ra.no
    | [a,b,c,d],_,hg=>
     have hb:=isWord_eq (n:=m+1) (hg b (by simp))
     have hd:=isWord_eq (n:=m+1) (hg d (by simp))
     have ha:=numberR_eq (n:=m+1) (by omega) a (hg a (by simp)).pos
     have hc:=numberR_eq (n:=m+1) (by omega) c (hg c (by simp)).pos
     unfold stJoin
     simp (disch:=omega) only [Option.bind_some,Option.bind_none,cond_true,cond_false,Bool.not_true,Bool.not_false,List.length_map,Ws_length,bs_size,within_t,upto_t,wsucc,Int.toNat_natCast,at_mapN,Ws_getDN,cells_agg,cells_v,withCons_cons,withInt_mk,withStr_mk,withBool_mk,withSl_mk,cond_t,cond_f,List.length_cons,List.length_nil,bneI_t,bneI_f,g1,g2,g3,g4,hb,hd,ha,hc,hl,Bool.true_and]
     cases isB b
     ·exact Ra.no
     ·simp only [Bool.not_true,cond_false,Bool.true_and]
      cases isB d
      ·exact Ra.no
      ·cases numP a with
       | none=>exact Ra.no
       | some x=>
        cases numP c with
        | none=>exact Ra.no
        | some y=>
         refine Ra.yes ?_
         simp [rfT,hl,nextP,plcJ,nxt,nres,JP.av]
    | a::b::c::d::e::r,_,_=>
     simp (disch:=omega) only [Option.bind_some,Option.bind_none,cond_true,cond_false,Bool.not_true,Bool.not_false,List.length_map,Ws_length,bs_size,within_t,upto_t,wsucc,Int.toNat_natCast,at_mapN,Ws_getDN,cells_agg,cells_v,withCons_cons,withInt_mk,withStr_mk,withBool_mk,withSl_mk,cond_t,cond_f,List.length_cons,List.length_nil,bneI_t,bneI_f]
     exact Ra.no
  simp only [c2,decide_false,cond_false]
  by_cases c3:k0=[70]
  ·rw [c3] at hF
   simp only [c3,decide_true,cond_true,plcF]
   by_cases q:(3:Int) < pl
   ·rw [if_pos q,cond_f (by omega)]
    exact Ra.no
   rw [if_neg q,if_neg (by omega),cond_t (by omega),show disp s 3 ([70]::r)=stField s ([70]::r) from rfl,show nextP ([70]::r)+1=4 by simp [nextP,plcF,nxt]]
   exact Ra.of hF
  simp only [c3,decide_false,cond_false]
  by_cases c4:k0=[75]
  ·simp only [c4,decide_true,cond_true,plcK]
   by_cases q:(4:Int) < pl
   ·rw [if_pos q,cond_t (by omega)]
    exact Ra.no
   rw [if_neg q,if_neg (by omega),cond_f (by omega),show disp s 4 ([75]::r)=stKey s ([75]::r) from rfl]
   match r,hw,hg with
   | [],_,_=>exact Ra.no
   | [a],_,hg=>
    have hb:=isWord_eq (n:=m+1) (hg a (by simp))
    unfold stKey addKey
    simp (disch:=omega) only [Option.bind_some,Option.bind_none,cond_true,cond_false,Bool.not_true,Bool.not_false,List.length_map,Ws_length,bs_size,within_t,upto_t,wsucc,Int.toNat_natCast,at_mapN,Ws_getDN,cells_agg,cells_v,withCons_cons,withInt_mk,withStr_mk,withBool_mk,withSl_mk,cond_t,cond_f,List.length_cons,List.length_nil,bneI_t,bneI_f,beqI_t,beqI_f,g1,hb]
    cases isB a
    ·exact Ra.no
    ·cases hl:s.lg
     ·refine Ra.yes ?_
      simp [rfT,hl,nextP,plcK,nxt,KF.av]
     ·refine Ra.yes ?_
      simp [rfT,hl,nextP,plcK,nxt,KF.av]
   | [a,d],_,hg=>
    have hb:=isWord_eq (n:=m+1) (hg a (by simp))
    unfold stKey addKey
    simp (disch:=omega) only [Option.bind_some,Option.bind_none,cond_true,cond_false,Bool.not_true,Bool.not_false,List.length_map,Ws_length,bs_size,within_t,upto_t,wsucc,Int.toNat_natCast,at_mapN,Ws_getDN,cells_agg,cells_v,withCons_cons,withInt_mk,withStr_mk,withBool_mk,withSl_mk,cond_t,cond_f,List.length_cons,List.length_nil,bneI_t,bneI_f,beqI_t,beqI_f,g1,g2,hb,lit7,str_eq]
    cases isB a
    ·exact Ra.no
    ·by_cases hd:d=[68,69,83,67,69,78,68]
     ·simp only [hd,decide_true,Bool.not_true,cond_false,Bool.and_true]
      cases hl:s.lg
      ·refine Ra.yes ?_
       simp [rfT,hl,nextP,plcK,nxt,KF.av]
      ·refine Ra.yes ?_
       simp [rfT,hl,nextP,plcK,nxt,KF.av]
     ·simp only [hd,decide_false,Bool.not_false,cond_true,Bool.and_false,Bool.false_eq_true,if_false]
      exact Ra.no
   | a::b::c::r,hw,_=>
    simp only [List.length_cons] at hw
    simp (disch:=omega) only [Option.bind_some,Option.bind_none,cond_true,cond_false,Bool.not_true,Bool.not_false,List.length_map,Ws_length,bs_size,within_t,upto_t,wsucc,Int.toNat_natCast,at_mapN,Ws_getDN,cells_agg,cells_v,withCons_cons,withInt_mk,withStr_mk,withBool_mk,withSl_mk,cond_t,cond_f,List.length_cons,List.length_nil,bneI_t,bneI_f]
    exact Ra.no
  simp only [c4,decide_false,cond_false]
  have rl:plc k0=5→Ra (if plc k0 < pl then none else if pl=0∧plc k0 > 0 then none else disp s (plc k0) (k0::r)) (nextP (k0::r)+1) (bif s.lg then ((Q3b.F (m+1) (Ws (k0::r)) s.lg (bs s.g.nm) (bs s.g.fm) s.g.uq (bs s.l.nm) (bs s.l.fm) s.l.uq (s.g.ds.map FD.av) (s.g.ks.map KF.av) (Ws s.l.ws) (s.l.fs.map LF.av) (s.l.js.map JP.av) (s.l.ks.map KF.av) (s.l.rs.map RL.av)).bind fun p=>some (6,p.1,p.2.1,p.2.2.1,p.2.2.2.1,p.2.2.2.2.1,p.2.2.2.2.2.1,p.2.2.2.2.2.2.1,p.2.2.2.2.2.2.2.1,p.2.2.2.2.2.2.2.2.1,p.2.2.2.2.2.2.2.2.2.1,p.2.2.2.2.2.2.2.2.2.2.1,p.2.2.2.2.2.2.2.2.2.2.2.1,p.2.2.2.2.2.2.2.2.2.2.2.2.1,p.2.2.2.2.2.2.2.2.2.2.2.2.2.1,p.2.2.2.2.2.2.2.2.2.2.2.2.2.2)) else some (6,false,s.lg,bs s.g.nm,bs s.g.fm,s.g.uq,bs s.l.nm,bs s.l.fm,s.l.uq,s.g.ds.map FD.av,s.g.ks.map KF.av,Ws s.l.ws,s.l.fs.map LF.av,s.l.js.map JP.av,s.l.ks.map KF.av,s.l.rs.map RL.av)):=by
   intro h5
   rw [h5,if_neg (by omega),if_neg (by omega),show disp s 5 (k0::r)=stRule s (k0::r) from rfl,show nextP (k0::r)+1=6 by simp [nextP,h5,nxt]]
   by_cases hl:s.lg=true
   ·have:=addRule_eq (n:=m+1) (by omega) s hl hk hz k0 r hw hg
    rw [show (bif s.lg then _ else _)=(Q3b.F (m+1) (Ws (k0::r)) s.lg (bs s.g.nm) (bs s.g.fm) s.g.uq (bs s.l.nm) (bs s.l.fm) s.l.uq (s.g.ds.map FD.av) (s.g.ks.map KF.av) (Ws s.l.ws) (s.l.fs.map LF.av) (s.l.js.map JP.av) (s.l.ks.map KF.av) (s.l.rs.map RL.av)).bind _ by rw [hl]; rfl]
    exact Ra.of this
   ·have hl' : s.lg=false:=by simpa using hl
    have:stRule s (k0::r)=none:=by
     show (if s.lg=true then _ else none)=none
     rw [if_neg hl]
    rw [this,hl']
    exact Ra.no
  by_cases c5:k0=[83]
  ·rw [c5] at rl ⊢
   simp only [decide_true,cond_true]
   exact rl plcS
  simp only [c5,decide_false,cond_false]
  by_cases c6:k0=[79]
  ·rw [c6] at rl ⊢
   simp only [decide_true,cond_true]
   exact rl plcO
  simp only [c6,decide_false,cond_false]
  rw [if_pos (by have:=(plc_else c1 c2 c3 c4 c5 c6).1; omega)]
  exact Ra.no
end
end Go.Proofs.YtmpglmcjoelciaaGreatDoor.Ev
namespace Go.Proofs.YtmpglmcjoelciaaGreatDoor.Ev
open Go Go.Proofs Go.Proofs.Ev
set_option linter.unusedVariables false
set_option linter.unusedSimpArgs false
def lineW (l:List UInt8):List (List UInt8):=if l.length > 240∨l.all okc=false∨l=[] then [] else (wordsP (l.length+1) l).getD []
def lineE (l:List UInt8):Int:=if l.length > 240 then 2 else if l.all okc=false then 8 else if l=[] then 0 else if (wordsP (l.length+1) l).isNone then 8 else 0
theorem wordsR_line (l:List UInt8):wordsR l=(Ws (lineW l),lineE l):=by
 unfold wordsR lineW lineE
 by_cases h1:l.length > 240
 ·simp [h1,Ws]
 ·by_cases h2:l.all okc=false
  ·simp only [h1,h2,if_false,if_true,true_or,or_true]
   rfl
  ·by_cases h3:l=[]
   ·simp only [h1,h2,h3,if_false,if_true,or_true]
    rfl
   ·simp only [h1,h2,h3,if_false,or_self]
    cases wordsP (l.length+1) l with
    | none=>rfl
    | some ws=>rfl
theorem lineW_good {l:List UInt8} (hl:l.length≤1000):(lineW l).length≤1000∧∀ w∈lineW l,Good w:=by
 unfold lineW
 by_cases h:l.length > 240∨l.all okc=false∨l=[]
 ·rw [if_pos h]; exact ⟨by simp,by simp⟩
 ·rw [if_neg h]
  cases hp:wordsP (l.length+1) l with
  | none=>exact ⟨by simp,by simp⟩
  | some ws=>
   have:=wordsP_len _ _ _ hp
   exact ⟨by simp only [Option.getD_some]; omega,wordsP_good _ _ _ hl hp⟩
def parseL (L:Nat):List (List UInt8)→SR→Int→Int→SR × Int × Int
 | [],s,p,_=>if p=1 then (zS,L,9) else if srcE s.lg s.g s.l≠0 then (zS,0,srcE s.lg s.g s.l) else (s,0,0)
 | x::r,s,p,i=>if lineE x≠0 then (zS,i,lineE x) else match (if p=0 then stHead s (lineW x) else stLine s (p - 1) (lineW x)) with
  | none=>(zS,i,8)
  | some s'=>parseL L r s' (if p=0 then 1 else nextP (lineW x)+1) (i+1)
def parseX (ls:List (List UInt8)):SR × Int × Int:=if ls.length=0 then (zS,0,1) else if ls.length > 100 then (zS,0,2) else parseL ls.length ls zS 0 0
def resT (x:SR × Int × Int):Bool × ByteArray × ByteArray × List AV × List AV × Bool × ByteArray × ByteArray × List AV × List AV × List AV × List AV × Bool × List AV × Int × Int:=
 (x.1.lg,bs x.1.g.nm,bs x.1.g.fm,x.1.g.ds.map FD.av,x.1.g.ks.map KF.av,x.1.g.uq,bs x.1.l.nm,bs x.1.l.fm,Ws x.1.l.ws,x.1.l.fs.map LF.av,x.1.l.js.map JP.av,x.1.l.ks.map KF.av,x.1.l.uq,x.1.l.rs.map RL.av,x.2.1,x.2.2)
structure Inv (s:SR) (k:Nat):Prop where
 sz:Sz s k
 cs:∀ r∈s.l.rs,r.cs.length≤1000
theorem cndP_len:∀ (k:Nat) (l:List (List UInt8)) (cs:List CN),l.length≤k→cndP l=some cs→cs.length≤l.length
 | _,[],cs,_,h=>by cases h; simp
 | _,[_],cs,_,h=>by cases h
 | _,[_,_],cs,_,h=>by cases h
 | _,[a,o,v],cs,_,h=>by
  unfold cndP at h
  cases hc:cnd1 a o v with
  | none=>rw [hc] at h; cases h
  | some c=>rw [hc] at h; cases h; simp
 | _,[_,_,_,_],cs,_,h=>by cases h
 | 0,_::_::_::_::_::_,_,hk,_=>absurd hk (by simp)
 | k+1,a::o::v::d::b::r,cs,hk,h=>by
  unfold cndP at h
  by_cases hd:d=[65,78,68]
  ·rw [if_pos hd] at h
   cases hc:cnd1 a o v with
   | none=>rw [hc] at h; cases h
   | some c=>
    rw [hc,Option.bind_some] at h
    cases hr:cndP (b::r) with
    | none=>rw [hr] at h; cases h
    | some q=>
     rw [hr] at h
     cases h
     have:=cndP_len k (b::r) q (by simp at hk ⊢; omega) hr
     simp only [List.length_cons] at this ⊢
     omega
  ·rw [if_neg hd] at h; cases h
theorem Inv.mono {s:SR} {k:Nat} (h:Inv s k):Inv s (k+1):=by
 obtain ⟨⟨a,b,c,d,e,f,g⟩,i⟩:=h
 exact ⟨⟨by omega,by omega,by omega,by omega,by omega,by omega,by omega⟩,i⟩
theorem inv_head {s s' : SR} {k:Nat} {w:List (List UInt8)} (h:Inv s k) (hs:stHead s w=some s'):Inv s' k:=by
 obtain ⟨⟨a,b,c,d,e,f,g⟩,i⟩:=h
 unfold stHead hd1 at hs
 (repeat' split at hs) <;> cases hs <;> exact ⟨⟨a,b,c,d,e,f,g⟩,i⟩
theorem inv_disp {s s' : SR} {k:Nat} {p:Int} {w:List (List UInt8)} (hw:w.length≤1000) (h:Inv s k) (hs:disp s p w=some s'):Inv s' (k+1):=by
 have hm:=h.mono
 obtain ⟨⟨a,b,c,d,e,f,g⟩,i⟩:=h
 obtain ⟨⟨a',b',c',d',e',f',g'⟩,_⟩:=hm
 unfold disp at hs
 split at hs
 ·unfold stRule addR at hs
  split at hs
  ·cases hs
  ·split at hs
   ·rename_i k0 r hl
    cases hc:cndP r with
    | none=>rw [hc] at hs; cases hs
    | some cs=>
     rw [hc] at hs
     cases hs
     have hcl:=cndP_len r.length r cs (Nat.le_refl _) hc
     simp only [List.length_cons] at hw
     refine ⟨⟨a',b',c',d',e',f',by simp; omega⟩,?_⟩
     intro x hx
     rcases List.mem_append.1 hx with hx | hx
     ·exact i x hx
     ·rw [List.mem_singleton] at hx
      subst hx
      show cs.length≤1000
      omega
   ·cases hs
 split at hs
 ·unfold stKey addKey at hs
  (repeat' split at hs) <;> cases hs <;> refine ⟨⟨?_,?_,?_,?_,?_,?_,?_⟩,i⟩ <;> first | assumption | (simp; omega)
 split at hs
 ·unfold stField at hs
  split at hs
  ·split at hs
   ·obtain ⟨v,_,rfl⟩:=Option.map_eq_some_iff.1 hs
    exact ⟨⟨a',b',c',by simp; omega,e',f',g'⟩,i⟩
   ·cases hs
  ·split at hs
   ·obtain ⟨v,_,rfl⟩:=Option.map_eq_some_iff.1 hs
    exact ⟨⟨by simp; omega,b',c',d',e',f',g'⟩,i⟩
   ·cases hs
  ·cases hs
 split at hs
 ·unfold stJoin at hs
  split at hs
  ·split at hs
   ·obtain ⟨v,_,hs⟩:=Option.bind_eq_some_iff.1 hs
    obtain ⟨u,_,rfl⟩:=Option.map_eq_some_iff.1 hs
    exact ⟨⟨a',b',c',d',by simp; omega,f',g'⟩,i⟩
   ·cases hs
  ·cases hs
 split at hs
 ·unfold stBase at hs
  split at hs
  ·split at hs
   ·cases hs
    exact ⟨⟨a',b',by simp; omega,d',e',f',g'⟩,i⟩
   ·cases hs
  ·cases hs
 ·unfold stFmt at hs
  (repeat' split at hs) <;> cases hs <;> exact ⟨⟨a',b',c',d',e',f',g'⟩,i⟩
theorem inv_line {s s' : SR} {k:Nat} {p:Int} {w:List (List UInt8)} (hw:w.length≤1000) (h:Inv s k) (hs:stLine s p w=some s'):Inv s' (k+1):=by
 match w,hw,hs with
 | [],_,hs=>cases hs
 | k0::r,hw,hs=>
  rw [stLine_cons] at hs
  split at hs
  ·cases hs
  ·split at hs
   ·cases hs
   ·exact inv_disp hw h hs
theorem head_zero {w:List (List UInt8)} {s' : SR} (hs:stHead zS w=some s'):if s'.lg then s'.g=zG else s'.l=zL:=by
 unfold stHead hd1 at hs
 (repeat' split at hs) <;> cases hs <;> rfl
theorem nextP_range (w:List (List UInt8)) (h:w≠[]):1≤nextP w∧nextP w≤5:=by
 match w,h with
 | [],h=>exact absurd rfl h
 | k::r,_=>
  obtain ⟨a,b⟩:=plc_range k
  unfold nextP nxt
  simp only
  split <;> omega
structure At (s:SR) (p:Int) (i:Nat):Prop where
 z:i=0→p=0∧s=zS
 o:i=1→p=1
 m:2≤i→2≤p
 r:0≤p∧p≤6
 h:p=1→if s.lg then s.g=zG else s.l=zL
 c:p=1→i=1
theorem at_next {s s' : SR} {p:Int} {i:Nat} {w:List (List UInt8)} (ha:At s p i) (hw:w≠[]) (hs:(if p=0 then stHead s w else stLine s (p - 1) w)=some s'):At s' (if p=0 then 1 else nextP w+1) (i+1):=by
 obtain ⟨n1,n2⟩:=nextP_range w hw
 by_cases hp:p=0
 ·have hi:i=0:=by
   refine Classical.byContradiction fun h=>?_
   by_cases h1:i=1
   ·have:=ha.o h1; omega
   ·have:=ha.m (by omega); omega
  obtain ⟨_,rfl⟩:=ha.z hi
  rw [if_pos hp] at hs ⊢
  exact ⟨fun h=>absurd h (by omega),fun _=>rfl,fun h=>absurd h (by omega),by omega,fun _=>head_zero hs,fun _=>by omega⟩
 ·have hi:i≠0:=fun h=>hp (ha.z h).1
  rw [if_neg hp]
  exact ⟨fun h=>absurd h (by omega),fun h=>absurd h (by omega),fun _=>by omega,by omega,fun h=>absurd h (by omega),fun h=>absurd h (by omega)⟩
section
variable {n:Nat}
theorem few_of {s:SR} {k:Nat} (hk:k≤1000) (h:Inv s k):Few s.g s.l:=by
 obtain ⟨⟨a,b,c,d,e,f,g⟩,i⟩:=h
 exact ⟨by omega,by omega,by omega,by omega,by omega,by omega,by omega,i⟩
theorem parsed_l (hn:300000≤n) (ls:List (List UInt8)) (hL:ls.length≤100) (h300:∀ x∈ls,x.length≤300) {b5 b8 b11:Bool} {b6 b7 b9 b10:ByteArray}:∀ (d i m:Nat) (s:SR) (p:Int),i+d=ls.length→d < m→Inv s i→At s p i→
  Q0c.l n m (.z6 (Ws ls) (Ws ls) ls.length i b5 b6 b7 b8 b9 b10 b11 s.lg (bs s.g.nm) (bs s.g.fm) s.g.uq (bs s.l.nm) (bs s.l.fm) s.l.uq (if p=0 then 0 else p - 1) (s.g.ds.map FD.av) (s.g.ks.map KF.av) (Ws s.l.ws) (s.l.fs.map LF.av) (s.l.js.map JP.av) (s.l.ks.map KF.av) (s.l.rs.map RL.av))=some (resT (parseL ls.length (ls.drop i) s p i))
 | _,_,0,_,_,_,h,_,_=>absurd h (by omega)
 | 0,i,m+1,s,p,h,hm,hi,ha=>by
  rw [Q0c.at6]
  unfold Q0c.r6
  have hse:=srcErr_eq (n:=n) (lg:=s.lg) (g:=s.g) (l:=s.l) (by omega) (few_of (by omega) hi)
  simp (disch:=omega) only [Option.bind_some,Option.bind_none,cond_true,cond_false,Bool.not_true,Bool.not_false,List.length_map,Ws_length,bs_size,within_t,upto_t,wsucc,Int.toNat_natCast,at_mapN,Ws_getDN,cells_agg,cells_v,withCons_cons,withInt_mk,withStr_mk,withBool_mk,withSl_mk,cond_t,cond_f,hse]
  rw [List.drop_of_length_le (show ls.length≤i by omega)]
  unfold parseL
  by_cases hp:p=1
  ·have:=ha.c hp
   rw [if_pos hp,beqI_t (by omega),cond_true,show (ls.length:Int)=1 by omega]
   rfl
  ·have h1:ls.length≠1:=fun e=>hp (ha.o (by omega))
   rw [if_neg hp,beqI_f (by omega),cond_false,bif_ne]
   by_cases he:srcE s.lg s.g s.l=0
   ·rw [if_neg (by simp [he]),if_neg (by simp [he])]; rfl
   ·rw [if_pos he,if_pos he]; rfl
 | d+1,i,m+1,s,p,h,hm,hi,ha=>by
  have hil:i < ls.length:=by omega
  have h3:=h300 ls[i] (List.getElem_mem hil)
  obtain ⟨wl,wg⟩:=lineW_good (l:=ls[i]) (by omega)
  have hwo:=wordsOf_eq (n:=n) (by omega) ls[i] (by omega)
  rw [wordsR_line] at hwo
  rw [Q0c.at6]
  unfold Q0c.r6
  simp (disch:=omega) only [Option.bind_some,Option.bind_none,cond_true,cond_false,Bool.not_true,Bool.not_false,List.length_map,Ws_length,bs_size,within_t,upto_t,wsucc,Int.toNat_natCast,at_mapN,Ws_getDN,cells_agg,cells_v,withCons_cons,withInt_mk,withStr_mk,withBool_mk,withSl_mk,cond_t,cond_f,hwo]
  rw [List.drop_eq_getElem_cons hil,bif_ne]
  unfold parseL
  by_cases he:lineE ls[i]=0
  case neg=>rw [if_pos he,if_pos he]; rfl
  rw [if_neg (show ¬ (lineE ls[i]≠0) from fun h=>h he),if_neg (show ¬ (lineE ls[i]≠0) from fun h=>h he)]
  have go:∀ (o:Option SR) (pl:Int) (x:Option (Bool × Bool × ByteArray × ByteArray × Bool × ByteArray × ByteArray × Bool × Int × List AV × List AV × List AV × List AV × List AV × List AV × List AV)),Rs o pl x→(∀ s',o=some s'→Q0c.l n m (.z6 (Ws ls) (Ws ls) ls.length ((i+1:Nat):Int) b5 b6 b7 b8 b9 b10 b11 s'.lg (bs s'.g.nm) (bs s'.g.fm) s'.g.uq (bs s'.l.nm) (bs s'.l.fm) s'.l.uq pl (s'.g.ds.map FD.av) (s'.g.ks.map KF.av) (Ws s'.l.ws) (s'.l.fs.map LF.av) (s'.l.js.map JP.av) (s'.l.ks.map KF.av) (s'.l.rs.map RL.av))=some (resT (parseL ls.length (ls.drop (i+1)) s' (if p=0 then 1 else nextP (lineW ls[i])+1) (i+1))))→
    (x.bind fun p10=>bif !p10.1 then some (false,(⟨#[]⟩ : ByteArray),(⟨#[]⟩ : ByteArray),([]:List AV),([]:List AV),false,(⟨#[]⟩ : ByteArray),(⟨#[]⟩ : ByteArray),([]:List AV),([]:List AV),([]:List AV),([]:List AV),false,([]:List AV),(i:Int),(8:Int)) else Q0c.l n m (.z6 (Ws ls) (Ws ls) ls.length ((i+1:Nat):Int) b5 b6 b7 b8 b9 b10 b11 p10.2.1 p10.2.2.1 p10.2.2.2.1 p10.2.2.2.2.1 p10.2.2.2.2.2.1 p10.2.2.2.2.2.2.1 p10.2.2.2.2.2.2.2.1 p10.2.2.2.2.2.2.2.2.1 p10.2.2.2.2.2.2.2.2.2.1 p10.2.2.2.2.2.2.2.2.2.2.1 p10.2.2.2.2.2.2.2.2.2.2.2.1 p10.2.2.2.2.2.2.2.2.2.2.2.2.1 p10.2.2.2.2.2.2.2.2.2.2.2.2.2.1 p10.2.2.2.2.2.2.2.2.2.2.2.2.2.2.1 p10.2.2.2.2.2.2.2.2.2.2.2.2.2.2.2)) =
    some (resT (match o with | none=>(zS,(i:Int),8) | some s'=>parseL ls.length (ls.drop (i+1)) s' (if p=0 then 1 else nextP (lineW ls[i])+1) (i+1))):=by
   intro o pl x hx hs
   obtain ⟨t,rfl,t1,t2⟩:=hx
   rw [Option.bind_some]
   cases o with
   | none=>rw [show t.1=false from t1]; rfl
   | some s'=>
    have:=t2 s' rfl
    subst this
    exact hs s' rfl
  by_cases hp:p=0
  ·have hi0:i=0:=by
    refine Classical.byContradiction fun h=>?_
    by_cases h1:i=1
    ·have:=ha.o h1; omega
    ·have:=ha.m (by omega); omega
   rw [beqI_t (show (i:Int)=0 by omega),cond_true]
   simp only [hp,if_true]
   have hh:=head_eq (n:=n) (by omega) s 0 (lineW ls[i]) wl wg
   have:=go (stHead s (lineW ls[i])) 0 _ hh (fun s' hs=>by
    have hne:lineW ls[i]≠[]:=by intro e; rw [e] at hs; cases hs
    have hat:=at_next (w:=lineW ls[i]) ha hne (s':=s') (by rw [if_pos hp]; exact hs)
    have:=parsed_l hn ls hL h300 (b5:=b5) (b6:=b6) (b7:=b7) (b8:=b8) (b9:=b9) (b10:=b10) (b11:=b11) d (i+1) m s' _ (by omega) (by omega) (inv_head hi hs).mono hat
    rw [if_pos hp] at this
    rw [if_pos hp]
    exact this)
   rw [if_pos hp] at this
   exact this
  ·have hi0:i≠0:=fun h=>hp (ha.z h).1
   rw [beqI_f (show (i:Int)≠0 by omega),cond_false,if_neg hp,if_neg hp]
   obtain ⟨r0,r1⟩:=ha.r
   have hh:=line_eq (n:=n) (by omega) s (p - 1) (by omega) (k:=i) (by omega) hi.sz (lineW ls[i]) wl wg
   have:=go (stLine s (p - 1) (lineW ls[i])) _ _ hh (fun s' hs=>by
    have hne:lineW ls[i]≠[]:=by intro e; rw [e] at hs; cases hs
    obtain ⟨n1,n2⟩:=nextP_range _ hne
    have hat:=at_next (w:=lineW ls[i]) ha hne (s':=s') (by rw [if_neg hp]; exact hs)
    have:=parsed_l hn ls hL h300 (b5:=b5) (b6:=b6) (b7:=b7) (b8:=b8) (b9:=b9) (b10:=b10) (b11:=b11) d (i+1) m s' _ (by omega) (by omega) (inv_line wl hi hs) hat
    rw [if_neg hp] at this
    rw [if_neg hp]
    rw [if_neg (by omega),show nextP (lineW ls[i])+1 - 1=nextP (lineW ls[i]) by omega] at this
    exact this)
   exact this
end
end Go.Proofs.YtmpglmcjoelciaaGreatDoor.Ev
namespace Go.Proofs.YtmpglmcjoelciaaGreatDoor.Ev
open Go Go.Proofs Go.Proofs.Ev
set_option linter.unusedVariables false
section
variable {n:Nat} {nm fm:ByteArray} {ws:List (List UInt8)} {fs:List LF} {js:List JP} {ks:List KF} {uq:Bool} {rs:List RL}
theorem fewKeys_l (hk:ks.length≤1000):∀ (d i m:Nat),i+d=ks.length→d < m→∃ b,Q2k.l n m (.z2 (ks.map KF.av) i)=some b
 | _,_,0,_,h=>absurd h (by omega)
 | 0,i,m+1,h,_=>by
  rw [Q2k.at2]
  unfold Q2k.r2
  simp only [List.length_map]
  exact ⟨true,by rw [cond_f (by omega)]⟩
 | d+1,i,m+1,h,hm=>by
  have hi:i < ks.length:=by omega
  obtain ⟨b,ih⟩:=fewKeys_l hk d (i+1) m (by omega) (by omega)
  rw [Q2k.at2]
  unfold Q2k.r2
  simp only [List.length_map]
  rw [cond_t (by omega),within_t hi,cond_true,at_map KF.av hi]
  show ∃ b,(bif decide ((((bs ks[i].nm).size:Nat):Int) > 100) then some false else Q2k.l n m (.z2 (ks.map KF.av) (IntKind.i64.wrap ((i:Int)+1))))=some b
  rw [wsucc (by omega),ih]
  cases decide ((((bs ks[i].nm).size:Nat):Int) > 100)
  ·exact ⟨b,rfl⟩
  ·exact ⟨false,rfl⟩
end
theorem map_of {α:Type} (f:α→AV) (P:AV→Prop) (h:∀ y,P y→∃ a,y=f a):∀ xs:List AV,(∀ y∈xs,P y)→∃ l:List α,xs=l.map f
 | [],_=>⟨[],rfl⟩
 | x::xs,hx=>by
  obtain ⟨a,rfl⟩:=h x (hx x (by simp))
  obtain ⟨l,rfl⟩:=map_of f P h xs (fun y hy=>hx y (by simp [hy]))
  exact ⟨a::l,rfl⟩
theorem map_of' {α:Type} {f:α→AV} {P:AV→Prop} {xs:List AV} (hx:∀ y∈xs,P y) (h:∀ y,P y→∃ a,y=f a):∃ l:List α,xs=l.map f:=map_of f P h xs hx
end Go.Proofs.YtmpglmcjoelciaaGreatDoor.Ev
end
