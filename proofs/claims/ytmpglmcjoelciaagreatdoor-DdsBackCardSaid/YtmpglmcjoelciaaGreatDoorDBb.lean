import Derived.Test.YtmpglmcjoelciaaGreatDoorDBa
import Derived.Lib.Replace
noncomputable section
namespace Go.Proofs.YtmpglmcjoelciaaGreatDoor.Ev
open Go Go.Proofs Go.Proofs.Ev
set_option linter.unusedVariables false
set_option maxRecDepth 100000
abbrev Q2l.A:=List AV
abbrev Q2l.T:=Bool
def Q2l.i:Q2l.A→List AV:=fun a0=>[.sl ⟨true,9⟩ 1 a0]
def Q2l.o (xs:List AV):Option Q2l.A:=match xs with | [.sl ⟨true,9⟩ 1 a0]=>some a0 | _=>none
theorem Q2l.oi:∀ xs a,Q2l.o xs=some a→xs=Q2l.i a:=by
 intro xs a h
 unfold Q2l.o at h
 split at h
 ·cases h; rfl
 ·cases h
def Q2l.p (p:Q2l.T):AV:=vb p
def Q2l.q (x:AV):Option Q2l.T:=match x with | .v (.bool p0)=>some p0 | _=>none
theorem Q2l.qi:∀ x p,Q2l.q x=some p→x=Q2l.p p:=by
 intro x p h
 unfold Q2l.q at h
 split at h
 ·cases h; rfl
 ·cases h
inductive Q2l.Z where
 | z4 (z1:List AV) (z2:Int)
def Q2l.C {R:Type} (n:Nat) (f:FuncId) (xs:List AV):(AV→Option R)→Option R:=
 fun _=>none
theorem Q2l.tells {R:Type} (n:Nat):Tells (R:=R) Tryz.prog (Q2l.C n):=fun _ xs=>Tells1.none
def Q2l.cut (r:Nat):Option Keep:=match r with | 4=>some ⟨[0,3],[]⟩ | _=>none
def Q2l.t (z:Q2l.Z):List Item:=(todoOf (match z with | .z4 _ _=>4) 1000 [.code (Tryz.f20.body.getD .skip)]).getD []
def Q2l.s:Q2l.Z→St
 | .z4 z1 z2=>⟨spr 19 0 [(0,.sl ⟨true,9⟩ 1 z1),(3,vi z2)],Mem.ofList [],0⟩
def Q2l.r4 (n:Nat) (c:Q2l.Z→Option Bool) (z1:List AV) (z2:Int):Option Bool:=
 let y2:Bool:=decide (z2 < ((z1.length:Nat):Int))
 bif y2 then (bif decide ((0:Int)≤z2)&&decide (z2 < ((z1.length:Nat):Int)) then (withCons ((z1.getD ((z2).toNat) .undef).cells) fun h3 r4=>
 withStr h3 fun s5=>
 let y6:Bool:=decide (((s5.size:Nat):Int) > 300)
 bif y6 then (some false) else (c (.z4 z1 (IntKind.i64.wrap (z2+1))))) else none) else (some true)
def Q2l.r (n:Nat) (c:Q2l.Z→Option Bool):Q2l.Z→Option Bool
 | .z4 z1 z2=>Q2l.r4 n c z1 z2
def Q2l.e (n:Nat) (c:Q2l.Z→Option Bool) (a0:List AV):Option Bool:=
 let y1:Bool:=decide (((a0.length:Nat):Int) > 103)
 bif y1 then (some false) else (c (.z4 a0 0))
def Q2l.E (n:Nat) (c:Q2l.Z→Option Bool):Q2l.A→Option Q2l.T:=fun a0=>Q2l.e n c a0
def Q2l.l (n:Nat):Nat→Q2l.Z→Option Bool:=loopL (Q2l.r n)
def Q2l.F (n:Nat) (a0:List AV):Option Bool:=Q2l.e n (Q2l.l n n) a0
def Q2l.FA (n:Nat):Q2l.A→Option Q2l.T:=Q2l.E n (Q2l.l n n)
theorem Q2l.hands (n:Nat):∀ a p,Q2l.FA n a=some p→HandsIn Tryz.prog 20 (Q2l.i a) (Q2l.p p):=
 pf_hands (C:=Q2l.C n) (cut:=Q2l.cut) (t:=Q2l.t) (s:=Q2l.s) (e:=Q2l.E n) (r:=Q2l.r n) (n:=n) cfg mixed globs rfl Q2l.qi (Q2l.tells n) Tryz.func20 (by kernel_rfl) (by kernel_rfl) (fun rec a=>by kernel_rfl) (fun rec z=>by cases z <;> kernel_rfl)
def Q2l.via {R:Type} (n:Nat):List AV→(AV→Option R)→Option R:=viaK (Q2l.FA n) Q2l.o Q2l.p
theorem Q2l.tells1 {R:Type} (n:Nat) (xs:List AV):Tells1 (R:=R) Tryz.prog 20 xs (Q2l.via n xs):=tells_via Q2l.oi (fun a=>by kernel_rfl) (Q2l.hands n) xs
end Go.Proofs.YtmpglmcjoelciaaGreatDoor.Ev
namespace Go.Proofs.YtmpglmcjoelciaaGreatDoor.Ev
open Go Go.Proofs Go.Proofs.Ev
set_option linter.unusedVariables false
set_option maxRecDepth 100000
abbrev Q0q.A:=ByteArray
abbrev Q0q.T:=Bool
def Q0q.i:Q0q.A→List AV:=fun a0=>[vs a0]
def Q0q.o (xs:List AV):Option Q0q.A:=match xs with | [.v (.string a0)]=>some a0 | _=>none
theorem Q0q.oi:∀ xs a,Q0q.o xs=some a→xs=Q0q.i a:=by
 intro xs a h
 unfold Q0q.o at h
 split at h
 ·cases h; rfl
 ·cases h
def Q0q.p (p:Q0q.T):AV:=vb p
def Q0q.q (x:AV):Option Q0q.T:=match x with | .v (.bool p0)=>some p0 | _=>none
theorem Q0q.qi:∀ x p,Q0q.q x=some p→x=Q0q.p p:=by
 intro x p h
 unfold Q0q.q at h
 split at h
 ·cases h; rfl
 ·cases h
def Q0q.C {R:Type} (n:Nat) (f:FuncId) (xs:List AV):(AV→Option R)→Option R:=
 bif Nat.beq f 98 then Q4f.via n xs else fun _=>none
theorem Q0q.tells {R:Type} (n:Nat):Tells (R:=R) Tryz.prog (Q0q.C n):=fun _ xs=>tells_at (Q4f.tells1 n xs) (Tells1.none)
def Q0q.cut (r:Nat):Option Keep:=match r with  | _=>none
def Q0q.e (n:Nat) (a0:ByteArray):Option Bool:=
 (Q4f.F n a0 (⟨#[39]⟩ : ByteArray)).bind fun p1=>
 some p1
def Q0q.E (n:Nat):Q0q.A→Option Q0q.T:=fun a0=>Q0q.e n a0
def Q0q.F (n:Nat) (a0:ByteArray):Option Bool:=Q0q.e n a0
def Q0q.FA (n:Nat):Q0q.A→Option Q0q.T:=Q0q.E n
theorem Q0q.hands (n:Nat):∀ a p,Q0q.FA n a=some p→HandsIn Tryz.prog 149 (Q0q.i a) (Q0q.p p):=
 pf_hands (C:=Q0q.C n) (cut:=Q0q.cut) (Z:=Empty) (t:=nofun) (s:=nofun) (e:=fun _=>Q0q.E n) (r:=fun _ z=>nomatch z) (n:=n) cfg mixed globs rfl Q0q.qi (Q0q.tells n) Tryz.func149 (by kernel_rfl) (by kernel_rfl) (fun rec a=>by kernel_rfl) (fun rec z=>nomatch z)
def Q0q.via {R:Type} (n:Nat):List AV→(AV→Option R)→Option R:=viaK (Q0q.FA n) Q0q.o Q0q.p
theorem Q0q.tells1 {R:Type} (n:Nat) (xs:List AV):Tells1 (R:=R) Tryz.prog 149 xs (Q0q.via n xs):=tells_via Q0q.oi (fun a=>by kernel_rfl) (Q0q.hands n) xs
end Go.Proofs.YtmpglmcjoelciaaGreatDoor.Ev
namespace Go.Proofs.YtmpglmcjoelciaaGreatDoor.Ev
open Go Go.Proofs Go.Proofs.Ev
set_option linter.unusedVariables false
set_option maxRecDepth 100000
abbrev Q4a.A:=List AV
abbrev Q4a.T:=Int
def Q4a.i:Q4a.A→List AV:=fun a0=>[.sl ⟨true,9⟩ 1 a0,.fn 149 []]
def Q4a.o (xs:List AV):Option Q4a.A:=match xs with | [.sl ⟨true,9⟩ 1 a0,.fn 149 []]=>some a0 | _=>none
theorem Q4a.oi:∀ xs a,Q4a.o xs=some a→xs=Q4a.i a:=by
 intro xs a h
 unfold Q4a.o at h
 split at h
 ·cases h; rfl
 ·cases h
def Q4a.p (p:Q4a.T):AV:=vi p
def Q4a.q (x:AV):Option Q4a.T:=match x with | .v (.int .i64 p0)=>some p0 | _=>none
theorem Q4a.qi:∀ x p,Q4a.q x=some p→x=Q4a.p p:=by
 intro x p h
 unfold Q4a.q at h
 split at h
 ·cases h; rfl
 ·cases h
inductive Q4a.Z where
 | z2 (z1:List AV) (z2 z3:Int)
def Q4a.C {R:Type} (n:Nat) (f:FuncId) (xs:List AV):(AV→Option R)→Option R:=
 bif Nat.beq f 149 then Q0q.via n xs else fun _=>none
theorem Q4a.tells {R:Type} (n:Nat):Tells (R:=R) Tryz.prog (Q4a.C n):=fun _ xs=>tells_at (Q0q.tells1 n xs) (Tells1.none)
def Q4a.cut (r:Nat):Option Keep:=match r with | 2=>some ⟨[0,1,7,8],[]⟩ | _=>none
def Q4a.t (z:Q4a.Z):List Item:=(todoOf (match z with | .z2 _ _ _=>2) 1000 [.code (Tryz.f123.body.getD .skip)]).getD []
def Q4a.s:Q4a.Z→St
 | .z2 z1 z2 z3=>⟨spr 19 0 [(0,.sl ⟨true,9⟩ 1 z1),(1,.fn 149 []),(7,vi z2),(8,vi z3)],Mem.ofList [],0⟩
def Q4a.r2 (n:Nat) (c:Q4a.Z→Option Int) (z1:List AV) (z2 z3:Int):Option Int:=
 bif decide (z3 < z2) then (bif decide ((0:Int)≤z3)&&decide (z3 < ((z1.length:Nat):Int)) then (withCons ((z1.getD ((z3).toNat) .undef).cells) fun h1 r2=>
 withStr h1 fun s3=>
 (Q0q.F n s3).bind fun p4=>
 bif p4 then (some z3) else (c (.z2 z1 z2 (IntKind.i64.wrap (z3+1))))) else none) else (some (-1))
def Q4a.r (n:Nat) (c:Q4a.Z→Option Int):Q4a.Z→Option Int
 | .z2 z1 z2 z3=>Q4a.r2 n c z1 z2 z3
def Q4a.e (n:Nat) (c:Q4a.Z→Option Int) (a0:List AV):Option Int:=
 c (.z2 a0 ((a0.length:Nat):Int) 0)
def Q4a.E (n:Nat) (c:Q4a.Z→Option Int):Q4a.A→Option Q4a.T:=fun a0=>Q4a.e n c a0
def Q4a.l (n:Nat):Nat→Q4a.Z→Option Int:=loopL (Q4a.r n)
def Q4a.F (n:Nat) (a0:List AV):Option Int:=Q4a.e n (Q4a.l n n) a0
def Q4a.FA (n:Nat):Q4a.A→Option Q4a.T:=Q4a.E n (Q4a.l n n)
theorem Q4a.hands (n:Nat):∀ a p,Q4a.FA n a=some p→HandsIn Tryz.prog 123 (Q4a.i a) (Q4a.p p):=
 pf_hands (C:=Q4a.C n) (cut:=Q4a.cut) (t:=Q4a.t) (s:=Q4a.s) (e:=Q4a.E n) (r:=Q4a.r n) (n:=n) cfg mixed globs rfl Q4a.qi (Q4a.tells n) Tryz.func123 (by kernel_rfl) (by kernel_rfl) (fun rec a=>by kernel_rfl) (fun rec z=>by cases z <;> kernel_rfl)
def Q4a.via {R:Type} (n:Nat):List AV→(AV→Option R)→Option R:=viaK (Q4a.FA n) Q4a.o Q4a.p
theorem Q4a.tells1 {R:Type} (n:Nat) (xs:List AV):Tells1 (R:=R) Tryz.prog 123 xs (Q4a.via n xs):=tells_via Q4a.oi (fun a=>by kernel_rfl) (Q4a.hands n) xs
end Go.Proofs.YtmpglmcjoelciaaGreatDoor.Ev
namespace Go.Proofs.YtmpglmcjoelciaaGreatDoor.Ev
open Go Go.Proofs Go.Proofs.Ev
set_option linter.unusedVariables false
set_option maxRecDepth 100000
abbrev Q45.A:=List AV
abbrev Q45.T:=Bool
def Q45.i:Q45.A→List AV:=fun a0=>[.sl ⟨true,9⟩ 1 a0,.fn 149 []]
def Q45.o (xs:List AV):Option Q45.A:=match xs with | [.sl ⟨true,9⟩ 1 a0,.fn 149 []]=>some a0 | _=>none
theorem Q45.oi:∀ xs a,Q45.o xs=some a→xs=Q45.i a:=by
 intro xs a h
 unfold Q45.o at h
 split at h
 ·cases h; rfl
 ·cases h
def Q45.p (p:Q45.T):AV:=vb p
def Q45.q (x:AV):Option Q45.T:=match x with | .v (.bool p0)=>some p0 | _=>none
theorem Q45.qi:∀ x p,Q45.q x=some p→x=Q45.p p:=by
 intro x p h
 unfold Q45.q at h
 split at h
 ·cases h; rfl
 ·cases h
def Q45.C {R:Type} (n:Nat) (f:FuncId) (xs:List AV):(AV→Option R)→Option R:=
 bif Nat.beq f 123 then Q4a.via n xs else fun _=>none
theorem Q45.tells {R:Type} (n:Nat):Tells (R:=R) Tryz.prog (Q45.C n):=fun _ xs=>tells_at (Q4a.tells1 n xs) (Tells1.none)
def Q45.cut (r:Nat):Option Keep:=match r with  | _=>none
def Q45.e (n:Nat) (a0:List AV):Option Bool:=
 (Q4a.F n a0).bind fun p1=>
 some (decide (p1≥0))
def Q45.E (n:Nat):Q45.A→Option Q45.T:=fun a0=>Q45.e n a0
def Q45.F (n:Nat) (a0:List AV):Option Bool:=Q45.e n a0
def Q45.FA (n:Nat):Q45.A→Option Q45.T:=Q45.E n
theorem Q45.hands (n:Nat):∀ a p,Q45.FA n a=some p→HandsIn Tryz.prog 78 (Q45.i a) (Q45.p p):=
 pf_hands (C:=Q45.C n) (cut:=Q45.cut) (Z:=Empty) (t:=nofun) (s:=nofun) (e:=fun _=>Q45.E n) (r:=fun _ z=>nomatch z) (n:=n) cfg mixed globs rfl Q45.qi (Q45.tells n) Tryz.func78 (by kernel_rfl) (by kernel_rfl) (fun rec a=>by kernel_rfl) (fun rec z=>nomatch z)
def Q45.via {R:Type} (n:Nat):List AV→(AV→Option R)→Option R:=viaK (Q45.FA n) Q45.o Q45.p
theorem Q45.tells1 {R:Type} (n:Nat) (xs:List AV):Tells1 (R:=R) Tryz.prog 78 xs (Q45.via n xs):=tells_via Q45.oi (fun a=>by kernel_rfl) (Q45.hands n) xs
end Go.Proofs.YtmpglmcjoelciaaGreatDoor.Ev
namespace Go.Proofs.YtmpglmcjoelciaaGreatDoor.Ev
open Go Go.Proofs Go.Proofs.Ev
set_option linter.unusedVariables false
set_option maxRecDepth 100000
abbrev Q0p.A:=List AV
abbrev Q0p.T:=Bool
def Q0p.i:Q0p.A→List AV:=fun a0=>[.sl ⟨true,9⟩ 1 a0]
def Q0p.o (xs:List AV):Option Q0p.A:=match xs with | [.sl ⟨true,9⟩ 1 a0]=>some a0 | _=>none
theorem Q0p.oi:∀ xs a,Q0p.o xs=some a→xs=Q0p.i a:=by
 intro xs a h
 unfold Q0p.o at h
 split at h
 ·cases h; rfl
 ·cases h
def Q0p.p (p:Q0p.T):AV:=vb p
def Q0p.q (x:AV):Option Q0p.T:=match x with | .v (.bool p0)=>some p0 | _=>none
theorem Q0p.qi:∀ x p,Q0p.q x=some p→x=Q0p.p p:=by
 intro x p h
 unfold Q0p.q at h
 split at h
 ·cases h; rfl
 ·cases h
def Q0p.C {R:Type} (n:Nat) (f:FuncId) (xs:List AV):(AV→Option R)→Option R:=
 bif Nat.beq f 78 then Q45.via n xs else fun _=>none
theorem Q0p.tells {R:Type} (n:Nat):Tells (R:=R) Tryz.prog (Q0p.C n):=fun _ xs=>tells_at (Q45.tells1 n xs) (Tells1.none)
def Q0p.cut (r:Nat):Option Keep:=match r with  | _=>none
def Q0p.e (n:Nat) (a0:List AV):Option Bool:=
 (Q45.F n a0).bind fun p1=>
 some (!p1)
def Q0p.E (n:Nat):Q0p.A→Option Q0p.T:=fun a0=>Q0p.e n a0
def Q0p.F (n:Nat) (a0:List AV):Option Bool:=Q0p.e n a0
def Q0p.FA (n:Nat):Q0p.A→Option Q0p.T:=Q0p.E n
theorem Q0p.hands (n:Nat):∀ a p,Q0p.FA n a=some p→HandsIn Tryz.prog 113 (Q0p.i a) (Q0p.p p):=
 pf_hands (C:=Q0p.C n) (cut:=Q0p.cut) (Z:=Empty) (t:=nofun) (s:=nofun) (e:=fun _=>Q0p.E n) (r:=fun _ z=>nomatch z) (n:=n) cfg mixed globs rfl Q0p.qi (Q0p.tells n) Tryz.func113 (by kernel_rfl) (by kernel_rfl) (fun rec a=>by kernel_rfl) (fun rec z=>nomatch z)
def Q0p.via {R:Type} (n:Nat):List AV→(AV→Option R)→Option R:=viaK (Q0p.FA n) Q0p.o Q0p.p
theorem Q0p.tells1 {R:Type} (n:Nat) (xs:List AV):Tells1 (R:=R) Tryz.prog 113 xs (Q0p.via n xs):=tells_via Q0p.oi (fun a=>by kernel_rfl) (Q0p.hands n) xs
end Go.Proofs.YtmpglmcjoelciaaGreatDoor.Ev
namespace Go.Proofs.YtmpglmcjoelciaaGreatDoor.Ev
open Go Go.Proofs Go.Proofs.Ev
set_option linter.unusedVariables false
set_option maxRecDepth 100000
abbrev Q1a.A:=List AV × Bool × ByteArray × ByteArray × Bool × ByteArray × ByteArray × Bool × Int × List AV × List AV × List AV × List AV × List AV × List AV × List AV
abbrev Q1a.T:=Bool × Bool × ByteArray × ByteArray × Bool × ByteArray × ByteArray × Bool × Int × List AV × List AV × List AV × List AV × List AV × List AV × List AV
def Q1a.i:Q1a.A→List AV:=fun (a0,a1,a2,a3,a4,a5,a6,a7,a8,a9,a10,a11,a12,a13,a14,a15)=>[.ptr 0 0,.sl ⟨true,9⟩ 1 a0]
def Q1a.b:Q1a.A→List AV:=fun (a0,a1,a2,a3,a4,a5,a6,a7,a8,a9,a10,a11,a12,a13,a14,a15)=>[.fn 115 [vb a1,vs a2,vs a3,.own 1 0 none,.own 2 0 none,vb a4,vs a5,vs a6,.own 3 0 none,.own 4 0 none,.own 5 0 none,.own 6 0 none,vb a7,.own 7 0 none,vi a8],.fr ⟨true,125⟩ 4 a9,.fr ⟨true,111⟩ 2 a10,.fr ⟨true,9⟩ 1 a11,.fr ⟨true,95⟩ 3 a12,.fr ⟨true,97⟩ 4 a13,.fr ⟨true,111⟩ 2 a14,.fr ⟨false,100⟩ 2 a15]
def Q1a.o (xs:List AV):Option Q1a.A:=match xs with | [.ptr 0 0,.sl ⟨true,9⟩ 1 a0,.tup [.fn 115 [.v (.bool a1),.v (.string a2),.v (.string a3),.own 1 0 none,.own 2 0 none,.v (.bool a4),.v (.string a5),.v (.string a6),.own 3 0 none,.own 4 0 none,.own 5 0 none,.own 6 0 none,.v (.bool a7),.own 7 0 none,.v (.int .i64 a8)],.fr ⟨true,125⟩ 4 a9,.fr ⟨true,111⟩ 2 a10,.fr ⟨true,9⟩ 1 a11,.fr ⟨true,95⟩ 3 a12,.fr ⟨true,97⟩ 4 a13,.fr ⟨true,111⟩ 2 a14,.fr ⟨false,100⟩ 2 a15]]=>some (a0,a1,a2,a3,a4,a5,a6,a7,a8,a9,a10,a11,a12,a13,a14,a15) | _=>none
theorem Q1a.oi:∀ xs a,Q1a.o xs=some a→xs=Q1a.i a++[.tup (Q1a.b a)]:=by
 intro xs a h
 unfold Q1a.o at h
 split at h
 ·cases h; rfl
 ·cases h
def Q1a.y (p:Q1a.T):AV:=vb p.1
def Q1a.w (p:Q1a.T):List AV:=[.fn 115 [vb p.2.1,vs p.2.2.1,vs p.2.2.2.1,.own 1 0 none,.own 2 0 none,vb p.2.2.2.2.1,vs p.2.2.2.2.2.1,vs p.2.2.2.2.2.2.1,.own 3 0 none,.own 4 0 none,.own 5 0 none,.own 6 0 none,vb p.2.2.2.2.2.2.2.1,.own 7 0 none,vi p.2.2.2.2.2.2.2.2.1],.fr ⟨true,125⟩ 4 p.2.2.2.2.2.2.2.2.2.1,.fr ⟨true,111⟩ 2 p.2.2.2.2.2.2.2.2.2.2.1,.fr ⟨true,9⟩ 1 p.2.2.2.2.2.2.2.2.2.2.2.1,.fr ⟨true,95⟩ 3 p.2.2.2.2.2.2.2.2.2.2.2.2.1,.fr ⟨true,97⟩ 4 p.2.2.2.2.2.2.2.2.2.2.2.2.2.1,.fr ⟨true,111⟩ 2 p.2.2.2.2.2.2.2.2.2.2.2.2.2.2.1,.fr ⟨false,100⟩ 2 p.2.2.2.2.2.2.2.2.2.2.2.2.2.2.2]
def Q1a.p (p:Q1a.T):AV:=.tup [Q1a.y p,.tup (Q1a.w p)]
def Q1a.q (x:AV):Option Q1a.T:=match x with | .tup [.v (.bool p0),.tup [.fn 115 [.v (.bool p1),.v (.string p2),.v (.string p3),.own 1 0 none,.own 2 0 none,.v (.bool p4),.v (.string p5),.v (.string p6),.own 3 0 none,.own 4 0 none,.own 5 0 none,.own 6 0 none,.v (.bool p7),.own 7 0 none,.v (.int .i64 p8)],.fr ⟨true,125⟩ 4 p9,.fr ⟨true,111⟩ 2 p10,.fr ⟨true,9⟩ 1 p11,.fr ⟨true,95⟩ 3 p12,.fr ⟨true,97⟩ 4 p13,.fr ⟨true,111⟩ 2 p14,.fr ⟨false,100⟩ 2 p15]]=>some (p0,p1,p2,p3,p4,p5,p6,p7,p8,p9,p10,p11,p12,p13,p14,p15) | _=>none
theorem Q1a.qi:∀ x p,Q1a.q x=some p→x=Q1a.p p:=by
 intro x p h
 unfold Q1a.q at h
 split at h
 ·cases h; rfl
 ·cases h
def Q1a.C {R:Type} (n:Nat) (f:FuncId) (xs:List AV):(AV→Option R)→Option R:=
 bif Nat.beq f 113 then Q0p.via n xs else fun _=>none
theorem Q1a.tells {R:Type} (n:Nat):Tells (R:=R) Tryz.prog (Q1a.C n):=fun _ xs=>tells_at (Q0p.tells1 n xs) (Tells1.none)
def Q1a.cut (r:Nat):Option Keep:=match r with  | _=>none
def Q1a.e (n:Nat) (a0:List AV) (a1:Bool) (a2 a3:ByteArray) (a4:Bool) (a5 a6:ByteArray) (a7:Bool) (a8:Int) (a9 a10 a11 a12 a13 a14 a15:List AV):Option Q1a.T:=
 let y1:Bool:=((a0.length:Nat):Int) != 2
 bif y1 then (some (false,a1,a2,a3,a4,a5,a6,a7,a8,a9,a10,a11,a12,a13,a14,a15)) else (bif decide ((1:Int) < (a0.length:Nat)) then (withCons ((a0.getD 1 .undef).cells) fun h2 r3=>
 withStr h2 fun s4=>
 (Q0p.F n [vs s4]).bind fun p5=>
 bif !p5 then (some (false,a1,a2,a3,a4,a5,a6,a7,a8,a9,a10,a11,a12,a13,a14,a15)) else (bif a1 then (bif decide ((1:Int) < (a0.length:Nat)) then (withCons ((a0.getD 1 .undef).cells) fun h6 r7=>
 withStr h6 fun s8=>
 some (true,a1,a2,a3,a4,a5,s8,a7,a8,a9,a10,a11,a12,a13,a14,a15)) else none) else (bif decide ((1:Int) < (a0.length:Nat)) then (withCons ((a0.getD 1 .undef).cells) fun h9 r10=>
 withStr h9 fun s11=>
 some (true,a1,a2,s11,a4,a5,a6,a7,a8,a9,a10,a11,a12,a13,a14,a15)) else none))) else none)
def Q1a.E (n:Nat):Q1a.A→Option Q1a.T:=fun (a0,a1,a2,a3,a4,a5,a6,a7,a8,a9,a10,a11,a12,a13,a14,a15)=>Q1a.e n a0 a1 a2 a3 a4 a5 a6 a7 a8 a9 a10 a11 a12 a13 a14 a15
def Q1a.F (n:Nat) (a0:List AV) (a1:Bool) (a2 a3:ByteArray) (a4:Bool) (a5 a6:ByteArray) (a7:Bool) (a8:Int) (a9 a10 a11 a12 a13 a14 a15:List AV):Option Q1a.T:=Q1a.e n a0 a1 a2 a3 a4 a5 a6 a7 a8 a9 a10 a11 a12 a13 a14 a15
def Q1a.FA (n:Nat):Q1a.A→Option Q1a.T:=Q1a.E n
def Q1a.nils:List (Nat × Nat × Fl × Nat):=[]
theorem Q1a.hands (n:Nat):∀ a p,Q1a.FA n a=some p→HandsMIn Tryz.prog 107 (Q1a.i a) (Q1a.b a) (Q1a.y p) (Q1a.w p):=
 pfM_hands (G:=Gk 1) (C:=Q1a.C n) (cut:=Q1a.cut) (Z:=Empty) (t:=nofun) (s:=nofun) (nils:=Q1a.nils) (e:=fun _=>Q1a.E n) (r:=fun _ z=>nomatch z) (n:=n) (cfg.kb 1) mixed globs Q1a.qi (fun a=>by kernel_rfl) (Q1a.tells n) Tryz.func107 (by kernel_rfl) (by kernel_rfl) (fun rec a=>by kernel_rfl) (fun rec z=>nomatch z)
def Q1a.via {R:Type} (n:Nat):List AV→(AV→Option R)→Option R:=viaK (Q1a.FA n) Q1a.o Q1a.p
theorem Q1a.tells1 {R:Type} (n:Nat) (xs:List AV):Tells1 (R:=R) Tryz.prog 107 xs (Q1a.via n xs):=tells_viaM (fun _=>rfl) Q1a.oi (Q1a.hands n) xs
end Go.Proofs.YtmpglmcjoelciaaGreatDoor.Ev
namespace Go.Proofs.YtmpglmcjoelciaaGreatDoor.Ev
open Go Go.Proofs Go.Proofs.Ev
set_option linter.unusedVariables false
set_option maxRecDepth 100000
abbrev Q18.A:=List AV × Bool × ByteArray × ByteArray × Bool × ByteArray × ByteArray × Bool × Int × List AV × List AV × List AV × List AV × List AV × List AV × List AV
abbrev Q18.T:=Bool × Bool × ByteArray × ByteArray × Bool × ByteArray × ByteArray × Bool × Int × List AV × List AV × List AV × List AV × List AV × List AV × List AV
def Q18.i:Q18.A→List AV:=fun (a0,a1,a2,a3,a4,a5,a6,a7,a8,a9,a10,a11,a12,a13,a14,a15)=>[.ptr 0 0,.sl ⟨true,9⟩ 1 a0]
def Q18.b:Q18.A→List AV:=fun (a0,a1,a2,a3,a4,a5,a6,a7,a8,a9,a10,a11,a12,a13,a14,a15)=>[.fn 115 [vb a1,vs a2,vs a3,.own 1 0 none,.own 2 0 none,vb a4,vs a5,vs a6,.own 3 0 none,.own 4 0 none,.own 5 0 none,.own 6 0 none,vb a7,.own 7 0 none,vi a8],.fr ⟨true,125⟩ 4 a9,.fr ⟨true,111⟩ 2 a10,.fr ⟨true,9⟩ 1 a11,.fr ⟨true,95⟩ 3 a12,.fr ⟨true,97⟩ 4 a13,.fr ⟨true,111⟩ 2 a14,.fr ⟨false,100⟩ 2 a15]
def Q18.o (xs:List AV):Option Q18.A:=match xs with | [.ptr 0 0,.sl ⟨true,9⟩ 1 a0,.tup [.fn 115 [.v (.bool a1),.v (.string a2),.v (.string a3),.own 1 0 none,.own 2 0 none,.v (.bool a4),.v (.string a5),.v (.string a6),.own 3 0 none,.own 4 0 none,.own 5 0 none,.own 6 0 none,.v (.bool a7),.own 7 0 none,.v (.int .i64 a8)],.fr ⟨true,125⟩ 4 a9,.fr ⟨true,111⟩ 2 a10,.fr ⟨true,9⟩ 1 a11,.fr ⟨true,95⟩ 3 a12,.fr ⟨true,97⟩ 4 a13,.fr ⟨true,111⟩ 2 a14,.fr ⟨false,100⟩ 2 a15]]=>some (a0,a1,a2,a3,a4,a5,a6,a7,a8,a9,a10,a11,a12,a13,a14,a15) | _=>none
theorem Q18.oi:∀ xs a,Q18.o xs=some a→xs=Q18.i a++[.tup (Q18.b a)]:=by
 intro xs a h
 unfold Q18.o at h
 split at h
 ·cases h; rfl
 ·cases h
def Q18.y (p:Q18.T):AV:=vb p.1
def Q18.w (p:Q18.T):List AV:=[.fn 115 [vb p.2.1,vs p.2.2.1,vs p.2.2.2.1,.own 1 0 none,.own 2 0 none,vb p.2.2.2.2.1,vs p.2.2.2.2.2.1,vs p.2.2.2.2.2.2.1,.own 3 0 none,.own 4 0 none,.own 5 0 none,.own 6 0 none,vb p.2.2.2.2.2.2.2.1,.own 7 0 none,vi p.2.2.2.2.2.2.2.2.1],.fr ⟨true,125⟩ 4 p.2.2.2.2.2.2.2.2.2.1,.fr ⟨true,111⟩ 2 p.2.2.2.2.2.2.2.2.2.2.1,.fr ⟨true,9⟩ 1 p.2.2.2.2.2.2.2.2.2.2.2.1,.fr ⟨true,95⟩ 3 p.2.2.2.2.2.2.2.2.2.2.2.2.1,.fr ⟨true,97⟩ 4 p.2.2.2.2.2.2.2.2.2.2.2.2.2.1,.fr ⟨true,111⟩ 2 p.2.2.2.2.2.2.2.2.2.2.2.2.2.2.1,.fr ⟨false,100⟩ 2 p.2.2.2.2.2.2.2.2.2.2.2.2.2.2.2]
def Q18.p (p:Q18.T):AV:=.tup [Q18.y p,.tup (Q18.w p)]
def Q18.q (x:AV):Option Q18.T:=match x with | .tup [.v (.bool p0),.tup [.fn 115 [.v (.bool p1),.v (.string p2),.v (.string p3),.own 1 0 none,.own 2 0 none,.v (.bool p4),.v (.string p5),.v (.string p6),.own 3 0 none,.own 4 0 none,.own 5 0 none,.own 6 0 none,.v (.bool p7),.own 7 0 none,.v (.int .i64 p8)],.fr ⟨true,125⟩ 4 p9,.fr ⟨true,111⟩ 2 p10,.fr ⟨true,9⟩ 1 p11,.fr ⟨true,95⟩ 3 p12,.fr ⟨true,97⟩ 4 p13,.fr ⟨true,111⟩ 2 p14,.fr ⟨false,100⟩ 2 p15]]=>some (p0,p1,p2,p3,p4,p5,p6,p7,p8,p9,p10,p11,p12,p13,p14,p15) | _=>none
theorem Q18.qi:∀ x p,Q18.q x=some p→x=Q18.p p:=by
 intro x p h
 unfold Q18.q at h
 split at h
 ·cases h; rfl
 ·cases h
inductive Q18.Z where
 | z2 (z1:Bool) (z2 z3:ByteArray) (z4:Bool) (z5 z6:ByteArray) (z7:Bool) (z8:Int) (z9 z10 z11 z12 z13 z14 z15:List AV)
def Q18.C {R:Type} (n:Nat) (f:FuncId) (xs:List AV):(AV→Option R)→Option R:=
 bif Nat.beq f 113 then Q0p.via n xs else fun _=>none
theorem Q18.tells {R:Type} (n:Nat):Tells (R:=R) Tryz.prog (Q18.C n):=fun _ xs=>tells_at (Q0p.tells1 n xs) (Tells1.none)
def Q18.cut (r:Nat):Option Keep:=match r with | 2=>some ⟨[],[]⟩ | _=>none
def Q18.t (z:Q18.Z):List Item:=(todoOf (match z with | .z2 _ _ _ _ _ _ _ _ _ _ _ _ _ _ _=>2) 1000 [.code (Tryz.f108.body.getD .skip)]).getD []
def Q18.s:Q18.Z→St
 | .z2 z1 z2 z3 z4 z5 z6 z7 z8 z9 z10 z11 z12 z13 z14 z15=>⟨spr 40 0 [],Mem.ofList [.box 115 [vb z1,vs z2,vs z3,.own 1 0 none,.own 2 0 none,vb z4,vs z5,vs z6,.own 3 0 none,.own 4 0 none,.own 5 0 none,.own 6 0 none,vb z7,.own 7 0 none,vi z8],.row ⟨true,125⟩ 4 z9,.row ⟨true,111⟩ 2 z10,.row ⟨true,9⟩ 1 z11,.row ⟨true,95⟩ 3 z12,.row ⟨true,97⟩ 4 z13,.row ⟨true,111⟩ 2 z14,.row ⟨false,100⟩ 2 z15],8⟩
def Q18.r2 (n:Nat) (c:Q18.Z→Option Q18.T) (z1:Bool) (z2 z3:ByteArray) (z4:Bool) (z5 z6:ByteArray) (z7:Bool) (z8:Int) (z9 z10 z11 z12 z13 z14 z15:List AV):Option Q18.T:=
 some (false,z1,z2,z3,z4,z5,z6,z7,z8,z9,z10,z11,z12,z13,z14,z15)
def Q18.r (n:Nat) (c:Q18.Z→Option Q18.T):Q18.Z→Option Q18.T
 | .z2 z1 z2 z3 z4 z5 z6 z7 z8 z9 z10 z11 z12 z13 z14 z15=>Q18.r2 n c z1 z2 z3 z4 z5 z6 z7 z8 z9 z10 z11 z12 z13 z14 z15
def Q18.e (n:Nat) (c:Q18.Z→Option Q18.T) (a0:List AV) (a1:Bool) (a2 a3:ByteArray) (a4:Bool) (a5 a6:ByteArray) (a7:Bool) (a8:Int) (a9 a10 a11 a12 a13 a14 a15:List AV):Option Q18.T:=
 bif !a1 then (c (.z2 a1 a2 a3 a4 a5 a6 a7 a8 a9 a10 a11 a12 a13 a14 a15)) else (let y1:Bool:=((a0.length:Nat):Int) != 2
 bif y1 then (c (.z2 a1 a2 a3 a4 a5 a6 a7 a8 a9 a10 a11 a12 a13 a14 a15)) else (bif decide ((1:Int) < (a0.length:Nat)) then (withCons ((a0.getD 1 .undef).cells) fun h2 r3=>
 withStr h2 fun s4=>
 (Q0p.F n [vs s4]).bind fun p5=>
 bif !p5 then (c (.z2 a1 a2 a3 a4 a5 a6 a7 a8 a9 a10 a11 a12 a13 a14 a15)) else (bif decide ((1:Int) < (a0.length:Nat)) then (withCons ((a0.getD 1 .undef).cells) fun h6 r7=>
 withStr h6 fun s8=>
 bif decide (a11.length+[vs s8].length≤most) then (some (true,a1,a2,a3,a4,a5,a6,a7,a8,a9,a10,a11++[vs s8],a12,a13,a14,a15)) else none) else none)) else none))
def Q18.E (n:Nat) (c:Q18.Z→Option Q18.T):Q18.A→Option Q18.T:=fun (a0,a1,a2,a3,a4,a5,a6,a7,a8,a9,a10,a11,a12,a13,a14,a15)=>Q18.e n c a0 a1 a2 a3 a4 a5 a6 a7 a8 a9 a10 a11 a12 a13 a14 a15
def Q18.l (n:Nat):Nat→Q18.Z→Option Q18.T:=loopL (Q18.r n)
def Q18.F (n:Nat) (a0:List AV) (a1:Bool) (a2 a3:ByteArray) (a4:Bool) (a5 a6:ByteArray) (a7:Bool) (a8:Int) (a9 a10 a11 a12 a13 a14 a15:List AV):Option Q18.T:=Q18.e n (Q18.l n n) a0 a1 a2 a3 a4 a5 a6 a7 a8 a9 a10 a11 a12 a13 a14 a15
def Q18.FA (n:Nat):Q18.A→Option Q18.T:=Q18.E n (Q18.l n n)
def Q18.nils:List (Nat × Nat × Fl × Nat):=[]
theorem Q18.hands (n:Nat):∀ a p,Q18.FA n a=some p→HandsMIn Tryz.prog 108 (Q18.i a) (Q18.b a) (Q18.y p) (Q18.w p):=
 pfM_hands (G:=Gk 1) (C:=Q18.C n) (cut:=Q18.cut) (t:=Q18.t) (s:=Q18.s) (nils:=Q18.nils) (e:=Q18.E n) (r:=Q18.r n) (n:=n) (cfg.kb 1) mixed globs Q18.qi (fun a=>by kernel_rfl) (Q18.tells n) Tryz.func108 (by kernel_rfl) (by kernel_rfl) (fun rec a=>by kernel_rfl) (fun rec z=>by cases z <;> kernel_rfl)
def Q18.via {R:Type} (n:Nat):List AV→(AV→Option R)→Option R:=viaK (Q18.FA n) Q18.o Q18.p
theorem Q18.tells1 {R:Type} (n:Nat) (xs:List AV):Tells1 (R:=R) Tryz.prog 108 xs (Q18.via n xs):=tells_viaM (fun _=>rfl) Q18.oi (Q18.hands n) xs
end Go.Proofs.YtmpglmcjoelciaaGreatDoor.Ev
namespace Go.Proofs.YtmpglmcjoelciaaGreatDoor.Ev
open Go Go.Proofs Go.Proofs.Ev
set_option linter.unusedVariables false
set_option maxRecDepth 100000
abbrev Q40.A:=ByteArray × Int
abbrev Q40.T:=Bool
def Q40.i:Q40.A→List AV:=fun (a0,a1)=>[vs a0,vi a1]
def Q40.o (xs:List AV):Option Q40.A:=match xs with | [.v (.string a0),.v (.int .i64 a1)]=>some (a0,a1) | _=>none
theorem Q40.oi:∀ xs a,Q40.o xs=some a→xs=Q40.i a:=by
 intro xs a h
 unfold Q40.o at h
 split at h
 ·cases h; rfl
 ·cases h
def Q40.p (p:Q40.T):AV:=vb p
def Q40.q (x:AV):Option Q40.T:=match x with | .v (.bool p0)=>some p0 | _=>none
theorem Q40.qi:∀ x p,Q40.q x=some p→x=Q40.p p:=by
 intro x p h
 unfold Q40.q at h
 split at h
 ·cases h; rfl
 ·cases h
def Q40.C {R:Type} (n:Nat) (f:FuncId) (xs:List AV):(AV→Option R)→Option R:=
 fun _=>none
theorem Q40.tells {R:Type} (n:Nat):Tells (R:=R) Tryz.prog (Q40.C n):=fun _ xs=>Tells1.none
def Q40.cut (r:Nat):Option Keep:=match r with  | _=>none
def Q40.e (n:Nat) (a0:ByteArray) (a1:Int):Option Bool:=
 let y1:Bool:=decide (a1 < ((a0.size:Nat):Int))
 bif y1 then (bif decide ((0:Int)≤a1)&&decide (a1 < ((a0.size:Nat):Int)) then (let y2:Int:=(((a0.data.getD ((a1).toNat) 0).toNat:Nat):Int)
 bif decide ((48:Int)≤y2) then (bif decide ((0:Int)≤a1)&&decide (a1 < ((a0.size:Nat):Int)) then (let y3:Int:=(((a0.data.getD ((a1).toNat) 0).toNat:Nat):Int)
 some (decide (y3≤57))) else none) else (some false)) else none) else (some false)
def Q40.E (n:Nat):Q40.A→Option Q40.T:=fun (a0,a1)=>Q40.e n a0 a1
def Q40.F (n:Nat) (a0:ByteArray) (a1:Int):Option Bool:=Q40.e n a0 a1
def Q40.FA (n:Nat):Q40.A→Option Q40.T:=Q40.E n
theorem Q40.hands (n:Nat):∀ a p,Q40.FA n a=some p→HandsIn Tryz.prog 214 (Q40.i a) (Q40.p p):=
 pf_hands (C:=Q40.C n) (cut:=Q40.cut) (Z:=Empty) (t:=nofun) (s:=nofun) (e:=fun _=>Q40.E n) (r:=fun _ z=>nomatch z) (n:=n) cfg mixed globs rfl Q40.qi (Q40.tells n) Tryz.func214 (by kernel_rfl) (by kernel_rfl) (fun rec a=>by kernel_rfl) (fun rec z=>nomatch z)
def Q40.via {R:Type} (n:Nat):List AV→(AV→Option R)→Option R:=viaK (Q40.FA n) Q40.o Q40.p
theorem Q40.tells1 {R:Type} (n:Nat) (xs:List AV):Tells1 (R:=R) Tryz.prog 214 xs (Q40.via n xs):=tells_via Q40.oi (fun a=>by kernel_rfl) (Q40.hands n) xs
end Go.Proofs.YtmpglmcjoelciaaGreatDoor.Ev
namespace Go.Proofs.YtmpglmcjoelciaaGreatDoor.Ev
open Go Go.Proofs Go.Proofs.Ev
set_option linter.unusedVariables false
set_option maxRecDepth 100000
abbrev Q43.A:=ByteArray × Int
abbrev Q43.T:=Int × Int
def Q43.i:Q43.A→List AV:=fun (a0,a1)=>[vs a0,vi a1]
def Q43.o (xs:List AV):Option Q43.A:=match xs with | [.v (.string a0),.v (.int .i64 a1)]=>some (a0,a1) | _=>none
theorem Q43.oi:∀ xs a,Q43.o xs=some a→xs=Q43.i a:=by
 intro xs a h
 unfold Q43.o at h
 split at h
 ·cases h; rfl
 ·cases h
def Q43.p (p:Q43.T):AV:=.tup [vi p.1,vi p.2]
def Q43.q (x:AV):Option Q43.T:=match x with | .tup [.v (.int .i64 p0),.v (.int .i64 p1)]=>some (p0,p1) | _=>none
theorem Q43.qi:∀ x p,Q43.q x=some p→x=Q43.p p:=by
 intro x p h
 unfold Q43.q at h
 split at h
 ·cases h; rfl
 ·cases h
inductive Q43.Z where
 | z5 (z1:ByteArray) (z2:Int)
def Q43.C {R:Type} (n:Nat) (f:FuncId) (xs:List AV):(AV→Option R)→Option R:=
 bif Nat.beq f 214 then Q40.via n xs else fun _=>none
theorem Q43.tells {R:Type} (n:Nat):Tells (R:=R) Tryz.prog (Q43.C n):=fun _ xs=>tells_at (Q40.tells1 n xs) (Tells1.none)
def Q43.cut (r:Nat):Option Keep:=match r with | 5=>some ⟨[0,1],[]⟩ | _=>none
def Q43.t (z:Q43.Z):List Item:=(todoOf (match z with | .z5 _ _=>5) 1000 [.code (Tryz.f201.body.getD .skip)]).getD []
def Q43.s:Q43.Z→St
 | .z5 z1 z2=>⟨spr 22 0 [(0,vs z1),(1,vi z2)],Mem.ofList [],0⟩
def Q43.r5 (n:Nat) (c:Q43.Z→Option (Int × Int)) (z1:ByteArray) (z2:Int):Option (Int × Int):=
 (Q40.F n z1 z2).bind fun p3=>
 bif p3 then (c (.z5 z1 (IntKind.i64.wrap (z2+1)))) else (some (z2,0))
def Q43.r (n:Nat) (c:Q43.Z→Option (Int × Int)):Q43.Z→Option (Int × Int)
 | .z5 z1 z2=>Q43.r5 n c z1 z2
def Q43.e (n:Nat) (c:Q43.Z→Option (Int × Int)) (a0:ByteArray) (a1:Int):Option (Int × Int):=
 (Q40.F n a0 a1).bind fun p1=>
 bif !p1 then (let y2:Bool:=decide (a1 < ((a0.size:Nat):Int))
 bif y2 then (some (a1,8)) else (some (a1,9))) else (c (.z5 a0 a1))
def Q43.E (n:Nat) (c:Q43.Z→Option (Int × Int)):Q43.A→Option Q43.T:=fun (a0,a1)=>Q43.e n c a0 a1
def Q43.l (n:Nat):Nat→Q43.Z→Option (Int × Int):=loopL (Q43.r n)
def Q43.F (n:Nat) (a0:ByteArray) (a1:Int):Option (Int × Int):=Q43.e n (Q43.l n n) a0 a1
def Q43.FA (n:Nat):Q43.A→Option Q43.T:=Q43.E n (Q43.l n n)
theorem Q43.hands (n:Nat):∀ a p,Q43.FA n a=some p→HandsIn Tryz.prog 201 (Q43.i a) (Q43.p p):=
 pf_hands (C:=Q43.C n) (cut:=Q43.cut) (t:=Q43.t) (s:=Q43.s) (e:=Q43.E n) (r:=Q43.r n) (n:=n) cfg mixed globs rfl Q43.qi (Q43.tells n) Tryz.func201 (by kernel_rfl) (by kernel_rfl) (fun rec a=>by kernel_rfl) (fun rec z=>by cases z <;> kernel_rfl)
def Q43.via {R:Type} (n:Nat):List AV→(AV→Option R)→Option R:=viaK (Q43.FA n) Q43.o Q43.p
theorem Q43.tells1 {R:Type} (n:Nat) (xs:List AV):Tells1 (R:=R) Tryz.prog 201 xs (Q43.via n xs):=tells_via Q43.oi (fun a=>by kernel_rfl) (Q43.hands n) xs
end Go.Proofs.YtmpglmcjoelciaaGreatDoor.Ev
namespace Go.Proofs.YtmpglmcjoelciaaGreatDoor.Ev
open Go Go.Proofs Go.Proofs.Ev
set_option linter.unusedVariables false
set_option maxRecDepth 100000
abbrev Q41.A:=ByteArray
abbrev Q41.T:=Int × Int × Int
def Q41.i:Q41.A→List AV:=fun a0=>[vs a0]
def Q41.o (xs:List AV):Option Q41.A:=match xs with | [.v (.string a0)]=>some a0 | _=>none
theorem Q41.oi:∀ xs a,Q41.o xs=some a→xs=Q41.i a:=by
 intro xs a h
 unfold Q41.o at h
 split at h
 ·cases h; rfl
 ·cases h
def Q41.p (p:Q41.T):AV:=.tup [vi p.1,vi p.2.1,vi p.2.2]
def Q41.q (x:AV):Option Q41.T:=match x with | .tup [.v (.int .i64 p0),.v (.int .i64 p1),.v (.int .i64 p2)]=>some (p0,p1,p2) | _=>none
theorem Q41.qi:∀ x p,Q41.q x=some p→x=Q41.p p:=by
 intro x p h
 unfold Q41.q at h
 split at h
 ·cases h; rfl
 ·cases h
inductive Q41.Z where
 | z8 (z1:ByteArray) (z2 z3:Int)
 | z15 (z1 z2 z3 z4:Int)
def Q41.C {R:Type} (n:Nat) (f:FuncId) (xs:List AV):(AV→Option R)→Option R:=
 bif Nat.beq f 201 then Q43.via n xs else fun _=>none
theorem Q41.tells {R:Type} (n:Nat):Tells (R:=R) Tryz.prog (Q41.C n):=fun _ xs=>tells_at (Q43.tells1 n xs) (Tells1.none)
def Q41.cut (r:Nat):Option Keep:=match r with | 8=>some ⟨[0,2,3],[]⟩ | 15=>some ⟨[2,3,4,5],[]⟩ | _=>none
def Q41.t (z:Q41.Z):List Item:=(todoOf (match z with | .z8 _ _ _=>8 | .z15 _ _ _ _=>15) 1000 [.code (Tryz.f183.body.getD .skip)]).getD []
def Q41.s:Q41.Z→St
 | .z8 z1 z2 z3=>⟨spr 63 0 [(0,vs z1),(2,vi z2),(3,vi z3)],Mem.ofList [],0⟩
 | .z15 z1 z2 z3 z4=>⟨spr 63 0 [(2,vi z1),(3,vi z2),(4,vi z3),(5,vi z4)],Mem.ofList [],0⟩
def Q41.r8 (n:Nat) (c:Q41.Z→Option (Int × Int × Int)) (z1:ByteArray) (z2 z3:Int):Option (Int × Int × Int):=
 let y10:Bool:=z3==((z1.size:Nat):Int)
 bif y10 then (some (z2,z3,0)) else (bif decide ((0:Int)≤z3)&&decide (z3 < ((z1.size:Nat):Int)) then (let y11:Int:=(((z1.data.getD ((z3).toNat) 0).toNat:Nat):Int)
 bif y11 != 46 then (some (0,z3,8)) else ((Q43.F n z1 (IntKind.i64.wrap (z3+1))).bind fun p12=>
 bif p12.2==0 then (let y13:Bool:=decide (p12.1 < ((z1.size:Nat):Int))
 bif y13 then (c (.z15 z2 z3 8 p12.1)) else (c (.z15 z2 z3 p12.2 p12.1))) else (c (.z15 z2 z3 p12.2 p12.1)))) else none)
def Q41.r15 (n:Nat) (c:Q41.Z→Option (Int × Int × Int)) (z1 z2 z3 z4:Int):Option (Int × Int × Int):=
 bif z3 != 0 then (some (0,z4,z3)) else (some (z1,z2,0))
def Q41.r (n:Nat) (c:Q41.Z→Option (Int × Int × Int)):Q41.Z→Option (Int × Int × Int)
 | .z8 z1 z2 z3=>Q41.r8 n c z1 z2 z3
 | .z15 z1 z2 z3 z4=>Q41.r15 n c z1 z2 z3 z4
def Q41.e (n:Nat) (c:Q41.Z→Option (Int × Int × Int)) (a0:ByteArray):Option (Int × Int × Int):=
 bif decide ((0:Int) < (a0.size:Nat)) then (let y1:Int:=(((a0.data.getD 0 0).toNat:Nat):Int)
 bif y1==45 then ((Q43.F n a0 1).bind fun p2=>
 bif p2.2 != 0 then (some (0,p2.1,p2.2)) else (bif decide ((1:Int) < (a0.size:Nat)) then (let y3:Int:=(((a0.data.getD 1 0).toNat:Nat):Int)
 bif y3==48 then (let y4:Int:=IntKind.i64.wrap ((1:Int)+1)
 bif decide (p2.1 > y4) then (let y5:Int:=IntKind.i64.wrap ((1:Int)+1)
 some (0,y5,8)) else (c (.z8 a0 1 p2.1))) else (c (.z8 a0 1 p2.1))) else none)) else ((Q43.F n a0 0).bind fun p6=>
 bif p6.2 != 0 then (some (0,p6.1,p6.2)) else (bif decide ((0:Int) < (a0.size:Nat)) then (let y7:Int:=(((a0.data.getD 0 0).toNat:Nat):Int)
 bif y7==48 then (let y8:Int:=IntKind.i64.wrap ((0:Int)+1)
 bif decide (p6.1 > y8) then (let y9:Int:=IntKind.i64.wrap ((0:Int)+1)
 some (0,y9,8)) else (c (.z8 a0 0 p6.1))) else (c (.z8 a0 0 p6.1))) else none))) else none
def Q41.E (n:Nat) (c:Q41.Z→Option (Int × Int × Int)):Q41.A→Option Q41.T:=fun a0=>Q41.e n c a0
def Q41.l (n:Nat):Nat→Q41.Z→Option (Int × Int × Int):=loopL (Q41.r n)
def Q41.F (n:Nat) (a0:ByteArray):Option (Int × Int × Int):=Q41.e n (Q41.l n n) a0
def Q41.FA (n:Nat):Q41.A→Option Q41.T:=Q41.E n (Q41.l n n)
theorem Q41.hands (n:Nat):∀ a p,Q41.FA n a=some p→HandsIn Tryz.prog 183 (Q41.i a) (Q41.p p):=
 pf_hands (C:=Q41.C n) (cut:=Q41.cut) (t:=Q41.t) (s:=Q41.s) (e:=Q41.E n) (r:=Q41.r n) (n:=n) cfg mixed globs rfl Q41.qi (Q41.tells n) Tryz.func183 (by kernel_rfl) (by kernel_rfl) (fun rec a=>by kernel_rfl) (fun rec z=>by cases z <;> kernel_rfl)
def Q41.via {R:Type} (n:Nat):List AV→(AV→Option R)→Option R:=viaK (Q41.FA n) Q41.o Q41.p
theorem Q41.tells1 {R:Type} (n:Nat) (xs:List AV):Tells1 (R:=R) Tryz.prog 183 xs (Q41.via n xs):=tells_via Q41.oi (fun a=>by kernel_rfl) (Q41.hands n) xs
end Go.Proofs.YtmpglmcjoelciaaGreatDoor.Ev
namespace Go.Proofs.YtmpglmcjoelciaaGreatDoor.Ev
open Go Go.Proofs Go.Proofs.Ev
set_option linter.unusedVariables false
set_option maxRecDepth 100000
abbrev Q3v.A:=ByteArray
abbrev Q3v.T:=Int × Int × Int × Int
def Q3v.i:Q3v.A→List AV:=fun a0=>[vs a0]
def Q3v.o (xs:List AV):Option Q3v.A:=match xs with | [.v (.string a0)]=>some a0 | _=>none
theorem Q3v.oi:∀ xs a,Q3v.o xs=some a→xs=Q3v.i a:=by
 intro xs a h
 unfold Q3v.o at h
 split at h
 ·cases h; rfl
 ·cases h
def Q3v.p (p:Q3v.T):AV:=.tup [AV.agg [vi p.1,vi p.2.1],vi p.2.2.1,vi p.2.2.2]
def Q3v.q (x:AV):Option Q3v.T:=match x with | .tup [.agg [.v (.int .i64 p0),.v (.int .i64 p1)],.v (.int .i64 p2),.v (.int .i64 p3)]=>some (p0,p1,p2,p3) | _=>none
theorem Q3v.qi:∀ x p,Q3v.q x=some p→x=Q3v.p p:=by
 intro x p h
 unfold Q3v.q at h
 split at h
 ·cases h; rfl
 ·cases h
inductive Q3v.Z where
 | z13 (z1:ByteArray) (z2:Int) (z3:ByteArray) (z4 z5 z6 z7 z8:Int) (z9:List AV)
def Q3v.C {R:Type} (n:Nat) (f:FuncId) (xs:List AV):(AV→Option R)→Option R:=
 bif Nat.beq f 128 then Q3y.via n xs else bif Nat.beq f 129 then Q3x.via n xs else bif Nat.beq f 183 then Q41.via n xs else bif Nat.beq f 184 then Q4g.via n xs else bif Nat.beq f 185 then Q4k.via n xs else fun _=>none
theorem Q3v.tells {R:Type} (n:Nat):Tells (R:=R) Tryz.prog (Q3v.C n):=fun _ xs=>tells_at (Q3y.tells1 n xs) (tells_at (Q3x.tells1 n xs) (tells_at (Q41.tells1 n xs) (tells_at (Q4g.tells1 n xs) (tells_at (Q4k.tells1 n xs) (Tells1.none)))))
def Q3v.cut (r:Nat):Option Keep:=match r with | 13=>some ⟨[0,2,6,10,13,57,58,59],[]⟩ | _=>none
def Q3v.t (z:Q3v.Z):List Item:=(todoOf (match z with | .z13 _ _ _ _ _ _ _ _ _=>13) 1000 [.code (Tryz.f166.body.getD .skip)]).getD []
def Q3v.s:Q3v.Z→St
 | .z13 z1 z2 z3 z4 z5 z6 z7 z8 z9=>⟨spr 80 0 [(0,vs z1),(2,.ptr 0 0),(6,vi z2),(10,vs z3),(13,vi z4),(57,.own 1 0 none),(58,vi z5),(59,vi z6)],Mem.ofList [.box 191 [vi z7,vi z8],.row ⟨true,5⟩ 1 z9],2⟩
def Q3v.r13 (n:Nat) (c:Q3v.Z→Option (Int × Int × Int × Int)) (z1:ByteArray) (z2:Int) (z3:ByteArray) (z4 z5 z6 z7 z8:Int) (z9:List AV):Option (Int × Int × Int × Int):=
 bif decide (z6 < z5) then (bif decide ((0:Int)≤z6)&&decide (z6 < ((z9.length:Nat):Int)) then (withCons ((z9.getD ((z6).toNat) .undef).cells) fun h12 r13=>
 withInt .u8 h12 fun x14=>
 let y15:Int:=IntKind.i64.wrap (IntKind.u8.wrap (x14 - 48))
 let y16:Int:=IntKind.i64.wrap ((IntKind.i64.wrap (z4*10))+y15)
 c (.z13 z1 z2 z3 y16 z5 (IntKind.i64.wrap (z6+1)) z7 z8 z9)) else none) else (bif z2==1 then (some (IntKind.i64.wrap (0 - z4),((z3.size:Nat):Int),((z1.size:Nat):Int),0)) else (some (z4,((z3.size:Nat):Int),((z1.size:Nat):Int),0)))
def Q3v.r (n:Nat) (c:Q3v.Z→Option (Int × Int × Int × Int)):Q3v.Z→Option (Int × Int × Int × Int)
 | .z13 z1 z2 z3 z4 z5 z6 z7 z8 z9=>Q3v.r13 n c z1 z2 z3 z4 z5 z6 z7 z8 z9
def Q3v.e (n:Nat) (c:Q3v.Z→Option (Int × Int × Int × Int)) (a0:ByteArray):Option (Int × Int × Int × Int):=
 let y1:Bool:=decide (((a0.size:Nat):Int) > 40)
 (Q3x.F n y1 2).bind fun p2=>
 let y3:Bool:=a0.toList==(⟨#[]⟩ : ByteArray).toList
 (Q3x.F n y3 1).bind fun p4=>
 (Q3y.F n [vi p2,vi p4]).bind fun p5=>
 bif p5 != 0 then (some (0,0,0,p5)) else ((Q41.F n a0).bind fun p6=>
 bif p6.2.2 != 0 then (some (0,0,p6.2.1,p6.2.2)) else (bif decide ((0:Int)≤p6.1)&&decide ((p6.1:Int)≤((a0.size:Nat):Int)) then (let y7:ByteArray:=a0.extract (p6.1).toNat a0.size
 (Q4g.F n y7 (⟨#[46]⟩ : ByteArray)).bind fun p8=>
 (Q4k.F n p8.1 (⟨#[48]⟩ : ByteArray)).bind fun p9=>
 chk (decide (p9.size+p8.2.1.size≤9223372036854775807)) (let y10:Bool:=decide ((((p9++p8.2.1).size:Nat):Int) > 15)
 bif y10 then (some (0,0,0,19)) else (let y11:List AV:=(p9++p8.2.1).toList.map fun b=>vu b.toNat
 c (.z13 a0 p6.1 p8.2.1 0 ((y11.length:Nat):Int) 0 0 0 y11)))) else none))
def Q3v.E (n:Nat) (c:Q3v.Z→Option (Int × Int × Int × Int)):Q3v.A→Option Q3v.T:=fun a0=>Q3v.e n c a0
def Q3v.l (n:Nat):Nat→Q3v.Z→Option (Int × Int × Int × Int):=loopL (Q3v.r n)
def Q3v.F (n:Nat) (a0:ByteArray):Option (Int × Int × Int × Int):=Q3v.e n (Q3v.l n n) a0
def Q3v.FA (n:Nat):Q3v.A→Option Q3v.T:=Q3v.E n (Q3v.l n n)
theorem Q3v.hands (n:Nat):∀ a p,Q3v.FA n a=some p→HandsIn Tryz.prog 166 (Q3v.i a) (Q3v.p p):=
 pf_hands (C:=Q3v.C n) (cut:=Q3v.cut) (t:=Q3v.t) (s:=Q3v.s) (e:=Q3v.E n) (r:=Q3v.r n) (n:=n) cfg mixed globs rfl Q3v.qi (Q3v.tells n) Tryz.func166 (by kernel_rfl) (by kernel_rfl) (fun rec a=>by kernel_rfl) (fun rec z=>by cases z <;> kernel_rfl)
def Q3v.via {R:Type} (n:Nat):List AV→(AV→Option R)→Option R:=viaK (Q3v.FA n) Q3v.o Q3v.p
theorem Q3v.tells1 {R:Type} (n:Nat) (xs:List AV):Tells1 (R:=R) Tryz.prog 166 xs (Q3v.via n xs):=tells_via Q3v.oi (fun a=>by kernel_rfl) (Q3v.hands n) xs
end Go.Proofs.YtmpglmcjoelciaaGreatDoor.Ev
namespace Go.Proofs.YtmpglmcjoelciaaGreatDoor.Ev
open Go Go.Proofs Go.Proofs.Ev
set_option linter.unusedVariables false
set_option maxRecDepth 100000
abbrev Q1m.A:=ByteArray
abbrev Q1m.T:=Int × Bool
def Q1m.i:Q1m.A→List AV:=fun a0=>[vs a0]
def Q1m.o (xs:List AV):Option Q1m.A:=match xs with | [.v (.string a0)]=>some a0 | _=>none
theorem Q1m.oi:∀ xs a,Q1m.o xs=some a→xs=Q1m.i a:=by
 intro xs a h
 unfold Q1m.o at h
 split at h
 ·cases h; rfl
 ·cases h
def Q1m.p (p:Q1m.T):AV:=.tup [vi p.1,vb p.2]
def Q1m.q (x:AV):Option Q1m.T:=match x with | .tup [.v (.int .i64 p0),.v (.bool p1)]=>some (p0,p1) | _=>none
theorem Q1m.qi:∀ x p,Q1m.q x=some p→x=Q1m.p p:=by
 intro x p h
 unfold Q1m.q at h
 split at h
 ·cases h; rfl
 ·cases h
def Q1m.C {R:Type} (n:Nat) (f:FuncId) (xs:List AV):(AV→Option R)→Option R:=
 bif Nat.beq f 98 then Q4f.via n xs else bif Nat.beq f 166 then Q3v.via n xs else fun _=>none
theorem Q1m.tells {R:Type} (n:Nat):Tells (R:=R) Tryz.prog (Q1m.C n):=fun _ xs=>tells_at (Q4f.tells1 n xs) (tells_at (Q3v.tells1 n xs) (Tells1.none))
def Q1m.cut (r:Nat):Option Keep:=match r with  | _=>none
def Q1m.e (n:Nat) (a0:ByteArray):Option (Int × Bool):=
 (Q3v.F n a0).bind fun p1=>
 bif p1.2.2.2==0 then ((Q4f.F n a0 (⟨#[46]⟩ : ByteArray)).bind fun p2=>
 some (p1.1,!p2)) else (some (p1.1,false))
def Q1m.E (n:Nat):Q1m.A→Option Q1m.T:=fun a0=>Q1m.e n a0
def Q1m.F (n:Nat) (a0:ByteArray):Option (Int × Bool):=Q1m.e n a0
def Q1m.FA (n:Nat):Q1m.A→Option Q1m.T:=Q1m.E n
theorem Q1m.hands (n:Nat):∀ a p,Q1m.FA n a=some p→HandsIn Tryz.prog 147 (Q1m.i a) (Q1m.p p):=
 pf_hands (C:=Q1m.C n) (cut:=Q1m.cut) (Z:=Empty) (t:=nofun) (s:=nofun) (e:=fun _=>Q1m.E n) (r:=fun _ z=>nomatch z) (n:=n) cfg mixed globs rfl Q1m.qi (Q1m.tells n) Tryz.func147 (by kernel_rfl) (by kernel_rfl) (fun rec a=>by kernel_rfl) (fun rec z=>nomatch z)
def Q1m.via {R:Type} (n:Nat):List AV→(AV→Option R)→Option R:=viaK (Q1m.FA n) Q1m.o Q1m.p
theorem Q1m.tells1 {R:Type} (n:Nat) (xs:List AV):Tells1 (R:=R) Tryz.prog 147 xs (Q1m.via n xs):=tells_via Q1m.oi (fun a=>by kernel_rfl) (Q1m.hands n) xs
end Go.Proofs.YtmpglmcjoelciaaGreatDoor.Ev
namespace Go.Proofs.YtmpglmcjoelciaaGreatDoor.Ev
open Go Go.Proofs Go.Proofs.Ev
set_option linter.unusedVariables false
set_option maxRecDepth 100000
abbrev Q1c.A:=List AV × Bool × ByteArray × ByteArray × Bool × ByteArray × ByteArray × Bool × Int × List AV × List AV × List AV × List AV × List AV × List AV × List AV
abbrev Q1c.T:=Bool × Bool × ByteArray × ByteArray × Bool × ByteArray × ByteArray × Bool × Int × List AV × List AV × List AV × List AV × List AV × List AV × List AV
def Q1c.i:Q1c.A→List AV:=fun (a0,a1,a2,a3,a4,a5,a6,a7,a8,a9,a10,a11,a12,a13,a14,a15)=>[.ptr 0 0,.sl ⟨true,9⟩ 1 a0]
def Q1c.b:Q1c.A→List AV:=fun (a0,a1,a2,a3,a4,a5,a6,a7,a8,a9,a10,a11,a12,a13,a14,a15)=>[.fn 115 [vb a1,vs a2,vs a3,.own 1 0 none,.own 2 0 none,vb a4,vs a5,vs a6,.own 3 0 none,.own 4 0 none,.own 5 0 none,.own 6 0 none,vb a7,.own 7 0 none,vi a8],.fr ⟨true,125⟩ 4 a9,.fr ⟨true,111⟩ 2 a10,.fr ⟨true,9⟩ 1 a11,.fr ⟨true,95⟩ 3 a12,.fr ⟨true,97⟩ 4 a13,.fr ⟨true,111⟩ 2 a14,.fr ⟨false,100⟩ 2 a15]
def Q1c.o (xs:List AV):Option Q1c.A:=match xs with | [.ptr 0 0,.sl ⟨true,9⟩ 1 a0,.tup [.fn 115 [.v (.bool a1),.v (.string a2),.v (.string a3),.own 1 0 none,.own 2 0 none,.v (.bool a4),.v (.string a5),.v (.string a6),.own 3 0 none,.own 4 0 none,.own 5 0 none,.own 6 0 none,.v (.bool a7),.own 7 0 none,.v (.int .i64 a8)],.fr ⟨true,125⟩ 4 a9,.fr ⟨true,111⟩ 2 a10,.fr ⟨true,9⟩ 1 a11,.fr ⟨true,95⟩ 3 a12,.fr ⟨true,97⟩ 4 a13,.fr ⟨true,111⟩ 2 a14,.fr ⟨false,100⟩ 2 a15]]=>some (a0,a1,a2,a3,a4,a5,a6,a7,a8,a9,a10,a11,a12,a13,a14,a15) | _=>none
theorem Q1c.oi:∀ xs a,Q1c.o xs=some a→xs=Q1c.i a++[.tup (Q1c.b a)]:=by
 intro xs a h
 unfold Q1c.o at h
 split at h
 ·cases h; rfl
 ·cases h
def Q1c.y (p:Q1c.T):AV:=vb p.1
def Q1c.w (p:Q1c.T):List AV:=[.fn 115 [vb p.2.1,vs p.2.2.1,vs p.2.2.2.1,.own 1 0 none,.own 2 0 none,vb p.2.2.2.2.1,vs p.2.2.2.2.2.1,vs p.2.2.2.2.2.2.1,.own 3 0 none,.own 4 0 none,.own 5 0 none,.own 6 0 none,vb p.2.2.2.2.2.2.2.1,.own 7 0 none,vi p.2.2.2.2.2.2.2.2.1],.fr ⟨true,125⟩ 4 p.2.2.2.2.2.2.2.2.2.1,.fr ⟨true,111⟩ 2 p.2.2.2.2.2.2.2.2.2.2.1,.fr ⟨true,9⟩ 1 p.2.2.2.2.2.2.2.2.2.2.2.1,.fr ⟨true,95⟩ 3 p.2.2.2.2.2.2.2.2.2.2.2.2.1,.fr ⟨true,97⟩ 4 p.2.2.2.2.2.2.2.2.2.2.2.2.2.1,.fr ⟨true,111⟩ 2 p.2.2.2.2.2.2.2.2.2.2.2.2.2.2.1,.fr ⟨false,100⟩ 2 p.2.2.2.2.2.2.2.2.2.2.2.2.2.2.2]
def Q1c.p (p:Q1c.T):AV:=.tup [Q1c.y p,.tup (Q1c.w p)]
def Q1c.q (x:AV):Option Q1c.T:=match x with | .tup [.v (.bool p0),.tup [.fn 115 [.v (.bool p1),.v (.string p2),.v (.string p3),.own 1 0 none,.own 2 0 none,.v (.bool p4),.v (.string p5),.v (.string p6),.own 3 0 none,.own 4 0 none,.own 5 0 none,.own 6 0 none,.v (.bool p7),.own 7 0 none,.v (.int .i64 p8)],.fr ⟨true,125⟩ 4 p9,.fr ⟨true,111⟩ 2 p10,.fr ⟨true,9⟩ 1 p11,.fr ⟨true,95⟩ 3 p12,.fr ⟨true,97⟩ 4 p13,.fr ⟨true,111⟩ 2 p14,.fr ⟨false,100⟩ 2 p15]]=>some (p0,p1,p2,p3,p4,p5,p6,p7,p8,p9,p10,p11,p12,p13,p14,p15) | _=>none
theorem Q1c.qi:∀ x p,Q1c.q x=some p→x=Q1c.p p:=by
 intro x p h
 unfold Q1c.q at h
 split at h
 ·cases h; rfl
 ·cases h
inductive Q1c.Z where
 | z2 (z1:Bool) (z2 z3:ByteArray) (z4:Bool) (z5 z6:ByteArray) (z7:Bool) (z8:Int) (z9 z10 z11 z12 z13 z14 z15:List AV)
def Q1c.C {R:Type} (n:Nat) (f:FuncId) (xs:List AV):(AV→Option R)→Option R:=
 bif Nat.beq f 113 then Q0p.via n xs else bif Nat.beq f 147 then Q1m.via n xs else fun _=>none
theorem Q1c.tells {R:Type} (n:Nat):Tells (R:=R) Tryz.prog (Q1c.C n):=fun _ xs=>tells_at (Q0p.tells1 n xs) (tells_at (Q1m.tells1 n xs) (Tells1.none))
def Q1c.cut (r:Nat):Option Keep:=match r with | 2=>some ⟨[],[]⟩ | _=>none
def Q1c.t (z:Q1c.Z):List Item:=(todoOf (match z with | .z2 _ _ _ _ _ _ _ _ _ _ _ _ _ _ _=>2) 1000 [.code (Tryz.f109.body.getD .skip)]).getD []
def Q1c.s:Q1c.Z→St
 | .z2 z1 z2 z3 z4 z5 z6 z7 z8 z9 z10 z11 z12 z13 z14 z15=>⟨spr 71 0 [],Mem.ofList [.box 115 [vb z1,vs z2,vs z3,.own 1 0 none,.own 2 0 none,vb z4,vs z5,vs z6,.own 3 0 none,.own 4 0 none,.own 5 0 none,.own 6 0 none,vb z7,.own 7 0 none,vi z8],.row ⟨true,125⟩ 4 z9,.row ⟨true,111⟩ 2 z10,.row ⟨true,9⟩ 1 z11,.row ⟨true,95⟩ 3 z12,.row ⟨true,97⟩ 4 z13,.row ⟨true,111⟩ 2 z14,.row ⟨false,100⟩ 2 z15],8⟩
def Q1c.r2 (n:Nat) (c:Q1c.Z→Option Q1c.T) (z1:Bool) (z2 z3:ByteArray) (z4:Bool) (z5 z6:ByteArray) (z7:Bool) (z8:Int) (z9 z10 z11 z12 z13 z14 z15:List AV):Option Q1c.T:=
 some (false,z1,z2,z3,z4,z5,z6,z7,z8,z9,z10,z11,z12,z13,z14,z15)
def Q1c.r (n:Nat) (c:Q1c.Z→Option Q1c.T):Q1c.Z→Option Q1c.T
 | .z2 z1 z2 z3 z4 z5 z6 z7 z8 z9 z10 z11 z12 z13 z14 z15=>Q1c.r2 n c z1 z2 z3 z4 z5 z6 z7 z8 z9 z10 z11 z12 z13 z14 z15
def Q1c.e (n:Nat) (c:Q1c.Z→Option Q1c.T) (a0:List AV) (a1:Bool) (a2 a3:ByteArray) (a4:Bool) (a5 a6:ByteArray) (a7:Bool) (a8:Int) (a9 a10 a11 a12 a13 a14 a15:List AV):Option Q1c.T:=
 bif !a1 then (c (.z2 a1 a2 a3 a4 a5 a6 a7 a8 a9 a10 a11 a12 a13 a14 a15)) else (let y1:Bool:=((a0.length:Nat):Int) != 5
 bif y1 then (c (.z2 a1 a2 a3 a4 a5 a6 a7 a8 a9 a10 a11 a12 a13 a14 a15)) else (bif decide ((2:Int) < (a0.length:Nat)) then (withCons ((a0.getD 2 .undef).cells) fun h2 r3=>
 withStr h2 fun s4=>
 bif decide ((4:Int) < (a0.length:Nat)) then (withCons ((a0.getD 4 .undef).cells) fun h5 r6=>
 withStr h5 fun s7=>
 (Q0p.F n [vs s4,vs s7]).bind fun p8=>
 bif !p8 then (c (.z2 a1 a2 a3 a4 a5 a6 a7 a8 a9 a10 a11 a12 a13 a14 a15)) else (bif decide ((1:Int) < (a0.length:Nat)) then (withCons ((a0.getD 1 .undef).cells) fun h9 r10=>
 withStr h9 fun s11=>
 (Q1m.F n s11).bind fun p12=>
 bif decide ((3:Int) < (a0.length:Nat)) then (withCons ((a0.getD 3 .undef).cells) fun h13 r14=>
 withStr h13 fun s15=>
 (Q1m.F n s15).bind fun p16=>
 bif decide ((2:Int) < (a0.length:Nat)) then (withCons ((a0.getD 2 .undef).cells) fun h17 r18=>
 withStr h17 fun s19=>
 bif decide ((4:Int) < (a0.length:Nat)) then (withCons ((a0.getD 4 .undef).cells) fun h20 r21=>
 withStr h20 fun s22=>
 let y23:List AV:=[AV.agg [vi p12.1,vs s19,vi p16.1,vs s22]]
 bif decide (a13.length+y23.length≤most) then (bif p12.2 then (some (p16.2,a1,a2,a3,a4,a5,a6,a7,a8,a9,a10,a11,a12,a13++y23,a14,a15)) else (some (false,a1,a2,a3,a4,a5,a6,a7,a8,a9,a10,a11,a12,a13++y23,a14,a15))) else none) else none) else none) else none) else none)) else none) else none))
def Q1c.E (n:Nat) (c:Q1c.Z→Option Q1c.T):Q1c.A→Option Q1c.T:=fun (a0,a1,a2,a3,a4,a5,a6,a7,a8,a9,a10,a11,a12,a13,a14,a15)=>Q1c.e n c a0 a1 a2 a3 a4 a5 a6 a7 a8 a9 a10 a11 a12 a13 a14 a15
def Q1c.l (n:Nat):Nat→Q1c.Z→Option Q1c.T:=loopL (Q1c.r n)
def Q1c.F (n:Nat) (a0:List AV) (a1:Bool) (a2 a3:ByteArray) (a4:Bool) (a5 a6:ByteArray) (a7:Bool) (a8:Int) (a9 a10 a11 a12 a13 a14 a15:List AV):Option Q1c.T:=Q1c.e n (Q1c.l n n) a0 a1 a2 a3 a4 a5 a6 a7 a8 a9 a10 a11 a12 a13 a14 a15
def Q1c.FA (n:Nat):Q1c.A→Option Q1c.T:=Q1c.E n (Q1c.l n n)
def Q1c.nils:List (Nat × Nat × Fl × Nat):=[]
theorem Q1c.hands (n:Nat):∀ a p,Q1c.FA n a=some p→HandsMIn Tryz.prog 109 (Q1c.i a) (Q1c.b a) (Q1c.y p) (Q1c.w p):=
 pfM_hands (G:=Gk 1) (C:=Q1c.C n) (cut:=Q1c.cut) (t:=Q1c.t) (s:=Q1c.s) (nils:=Q1c.nils) (e:=Q1c.E n) (r:=Q1c.r n) (n:=n) (cfg.kb 1) mixed globs Q1c.qi (fun a=>by kernel_rfl) (Q1c.tells n) Tryz.func109 (by kernel_rfl) (by kernel_rfl) (fun rec a=>by kernel_rfl) (fun rec z=>by cases z <;> kernel_rfl)
def Q1c.via {R:Type} (n:Nat):List AV→(AV→Option R)→Option R:=viaK (Q1c.FA n) Q1c.o Q1c.p
theorem Q1c.tells1 {R:Type} (n:Nat) (xs:List AV):Tells1 (R:=R) Tryz.prog 109 xs (Q1c.via n xs):=tells_viaM (fun _=>rfl) Q1c.oi (Q1c.hands n) xs
end Go.Proofs.YtmpglmcjoelciaaGreatDoor.Ev
namespace Go.Proofs.YtmpglmcjoelciaaGreatDoor.Ev
open Go Go.Proofs Go.Proofs.Ev
set_option linter.unusedVariables false
set_option maxRecDepth 100000
abbrev Q19.A:=List AV × Bool × ByteArray × ByteArray × Bool × ByteArray × ByteArray × Bool × Int × List AV × List AV × List AV × List AV × List AV × List AV × List AV
abbrev Q19.T:=Bool × Bool × ByteArray × ByteArray × Bool × ByteArray × ByteArray × Bool × Int × List AV × List AV × List AV × List AV × List AV × List AV × List AV
def Q19.i:Q19.A→List AV:=fun (a0,a1,a2,a3,a4,a5,a6,a7,a8,a9,a10,a11,a12,a13,a14,a15)=>[.ptr 0 0,.sl ⟨true,9⟩ 1 a0]
def Q19.b:Q19.A→List AV:=fun (a0,a1,a2,a3,a4,a5,a6,a7,a8,a9,a10,a11,a12,a13,a14,a15)=>[.fn 115 [vb a1,vs a2,vs a3,.own 1 0 none,.own 2 0 none,vb a4,vs a5,vs a6,.own 3 0 none,.own 4 0 none,.own 5 0 none,.own 6 0 none,vb a7,.own 7 0 none,vi a8],.fr ⟨true,125⟩ 4 a9,.fr ⟨true,111⟩ 2 a10,.fr ⟨true,9⟩ 1 a11,.fr ⟨true,95⟩ 3 a12,.fr ⟨true,97⟩ 4 a13,.fr ⟨true,111⟩ 2 a14,.fr ⟨false,100⟩ 2 a15]
def Q19.o (xs:List AV):Option Q19.A:=match xs with | [.ptr 0 0,.sl ⟨true,9⟩ 1 a0,.tup [.fn 115 [.v (.bool a1),.v (.string a2),.v (.string a3),.own 1 0 none,.own 2 0 none,.v (.bool a4),.v (.string a5),.v (.string a6),.own 3 0 none,.own 4 0 none,.own 5 0 none,.own 6 0 none,.v (.bool a7),.own 7 0 none,.v (.int .i64 a8)],.fr ⟨true,125⟩ 4 a9,.fr ⟨true,111⟩ 2 a10,.fr ⟨true,9⟩ 1 a11,.fr ⟨true,95⟩ 3 a12,.fr ⟨true,97⟩ 4 a13,.fr ⟨true,111⟩ 2 a14,.fr ⟨false,100⟩ 2 a15]]=>some (a0,a1,a2,a3,a4,a5,a6,a7,a8,a9,a10,a11,a12,a13,a14,a15) | _=>none
theorem Q19.oi:∀ xs a,Q19.o xs=some a→xs=Q19.i a++[.tup (Q19.b a)]:=by
 intro xs a h
 unfold Q19.o at h
 split at h
 ·cases h; rfl
 ·cases h
def Q19.y (p:Q19.T):AV:=vb p.1
def Q19.w (p:Q19.T):List AV:=[.fn 115 [vb p.2.1,vs p.2.2.1,vs p.2.2.2.1,.own 1 0 none,.own 2 0 none,vb p.2.2.2.2.1,vs p.2.2.2.2.2.1,vs p.2.2.2.2.2.2.1,.own 3 0 none,.own 4 0 none,.own 5 0 none,.own 6 0 none,vb p.2.2.2.2.2.2.2.1,.own 7 0 none,vi p.2.2.2.2.2.2.2.2.1],.fr ⟨true,125⟩ 4 p.2.2.2.2.2.2.2.2.2.1,.fr ⟨true,111⟩ 2 p.2.2.2.2.2.2.2.2.2.2.1,.fr ⟨true,9⟩ 1 p.2.2.2.2.2.2.2.2.2.2.2.1,.fr ⟨true,95⟩ 3 p.2.2.2.2.2.2.2.2.2.2.2.2.1,.fr ⟨true,97⟩ 4 p.2.2.2.2.2.2.2.2.2.2.2.2.2.1,.fr ⟨true,111⟩ 2 p.2.2.2.2.2.2.2.2.2.2.2.2.2.2.1,.fr ⟨false,100⟩ 2 p.2.2.2.2.2.2.2.2.2.2.2.2.2.2.2]
def Q19.p (p:Q19.T):AV:=.tup [Q19.y p,.tup (Q19.w p)]
def Q19.q (x:AV):Option Q19.T:=match x with | .tup [.v (.bool p0),.tup [.fn 115 [.v (.bool p1),.v (.string p2),.v (.string p3),.own 1 0 none,.own 2 0 none,.v (.bool p4),.v (.string p5),.v (.string p6),.own 3 0 none,.own 4 0 none,.own 5 0 none,.own 6 0 none,.v (.bool p7),.own 7 0 none,.v (.int .i64 p8)],.fr ⟨true,125⟩ 4 p9,.fr ⟨true,111⟩ 2 p10,.fr ⟨true,9⟩ 1 p11,.fr ⟨true,95⟩ 3 p12,.fr ⟨true,97⟩ 4 p13,.fr ⟨true,111⟩ 2 p14,.fr ⟨false,100⟩ 2 p15]]=>some (p0,p1,p2,p3,p4,p5,p6,p7,p8,p9,p10,p11,p12,p13,p14,p15) | _=>none
theorem Q19.qi:∀ x p,Q19.q x=some p→x=Q19.p p:=by
 intro x p h
 unfold Q19.q at h
 split at h
 ·cases h; rfl
 ·cases h
inductive Q19.Z where
 | z6 (z1:Bool) (z2 z3:ByteArray) (z4:Bool) (z5 z6:ByteArray) (z7:Bool) (z8:Int) (z9 z10 z11 z12 z13 z14 z15:List AV)
def Q19.C {R:Type} (n:Nat) (f:FuncId) (xs:List AV):(AV→Option R)→Option R:=
 bif Nat.beq f 83 then Q1i.via n xs else bif Nat.beq f 113 then Q0p.via n xs else bif Nat.beq f 147 then Q1m.via n xs else fun _=>none
theorem Q19.tells {R:Type} (n:Nat):Tells (R:=R) Tryz.prog (Q19.C n):=fun _ xs=>tells_at (Q1i.tells1 n xs) (tells_at (Q0p.tells1 n xs) (tells_at (Q1m.tells1 n xs) (Tells1.none)))
def Q19.cut (r:Nat):Option Keep:=match r with | 6=>some ⟨[],[]⟩ | _=>none
def Q19.t (z:Q19.Z):List Item:=(todoOf (match z with | .z6 _ _ _ _ _ _ _ _ _ _ _ _ _ _ _=>6) 1000 [.code (Tryz.f110.body.getD .skip)]).getD []
def Q19.s:Q19.Z→St
 | .z6 z1 z2 z3 z4 z5 z6 z7 z8 z9 z10 z11 z12 z13 z14 z15=>⟨spr 101 0 [],Mem.ofList [.box 115 [vb z1,vs z2,vs z3,.own 1 0 none,.own 2 0 none,vb z4,vs z5,vs z6,.own 3 0 none,.own 4 0 none,.own 5 0 none,.own 6 0 none,vb z7,.own 7 0 none,vi z8],.row ⟨true,125⟩ 4 z9,.row ⟨true,111⟩ 2 z10,.row ⟨true,9⟩ 1 z11,.row ⟨true,95⟩ 3 z12,.row ⟨true,97⟩ 4 z13,.row ⟨true,111⟩ 2 z14,.row ⟨false,100⟩ 2 z15],8⟩
def Q19.r6 (n:Nat) (c:Q19.Z→Option Q19.T) (z1:Bool) (z2 z3:ByteArray) (z4:Bool) (z5 z6:ByteArray) (z7:Bool) (z8:Int) (z9 z10 z11 z12 z13 z14 z15:List AV):Option Q19.T:=
 some (false,z1,z2,z3,z4,z5,z6,z7,z8,z9,z10,z11,z12,z13,z14,z15)
def Q19.r (n:Nat) (c:Q19.Z→Option Q19.T):Q19.Z→Option Q19.T
 | .z6 z1 z2 z3 z4 z5 z6 z7 z8 z9 z10 z11 z12 z13 z14 z15=>Q19.r6 n c z1 z2 z3 z4 z5 z6 z7 z8 z9 z10 z11 z12 z13 z14 z15
def Q19.e (n:Nat) (c:Q19.Z→Option Q19.T) (a0:List AV) (a1:Bool) (a2 a3:ByteArray) (a4:Bool) (a5 a6:ByteArray) (a7:Bool) (a8:Int) (a9 a10 a11 a12 a13 a14 a15:List AV):Option Q19.T:=
 let y1:Bool:=decide (((a0.length:Nat):Int) < 3)
 bif y1 then (some (false,a1,a2,a3,a4,a5,a6,a7,a8,a9,a10,a11,a12,a13,a14,a15)) else (bif decide ((1:Int) < (a0.length:Nat)) then (withCons ((a0.getD 1 .undef).cells) fun h2 r3=>
 withStr h2 fun s4=>
 (Q0p.F n [vs s4]).bind fun p5=>
 bif !p5 then (some (false,a1,a2,a3,a4,a5,a6,a7,a8,a9,a10,a11,a12,a13,a14,a15)) else (bif a1 then (bif decide ((2:Int) < (a0.length:Nat)) then (withCons ((a0.getD 2 .undef).cells) fun h6 r7=>
 withStr h6 fun s8=>
 (Q1m.F n s8).bind fun p9=>
 bif !p9.2 then (c (.z6 a1 a2 a3 a4 a5 a6 a7 a8 a9 a10 a11 a12 a13 a14 a15)) else (let y10:Bool:=((a0.length:Nat):Int) != 4
 bif y10 then (c (.z6 a1 a2 a3 a4 a5 a6 a7 a8 a9 a10 a11 a12 a13 a14 a15)) else (bif decide ((3:Int) < (a0.length:Nat)) then (withCons ((a0.getD 3 .undef).cells) fun h11 r12=>
 withStr h11 fun s13=>
 (Q0p.F n [vs s13]).bind fun p14=>
 bif !p14 then (c (.z6 a1 a2 a3 a4 a5 a6 a7 a8 a9 a10 a11 a12 a13 a14 a15)) else (bif decide ((1:Int) < (a0.length:Nat)) then (withCons ((a0.getD 1 .undef).cells) fun h15 r16=>
 withStr h15 fun s17=>
 bif decide ((3:Int) < (a0.length:Nat)) then (withCons ((a0.getD 3 .undef).cells) fun h18 r19=>
 withStr h18 fun s20=>
 let y21:List AV:=[AV.agg [vs s17,vi p9.1,vs s20]]
 bif decide (a12.length+y21.length≤most) then (some (true,a1,a2,a3,a4,a5,a6,a7,a8,a9,a10,a11,a12++y21,a13,a14,a15)) else none) else none) else none)) else none))) else none) else (bif decide ((2:Int) < (a0.length:Nat)) then (withCons ((a0.getD 2 .undef).cells) fun h22 r23=>
 withStr h22 fun s24=>
 (Q1i.F n s24).bind fun p25=>
 bif decide ((1:Int) < (a0.length:Nat)) then (withCons ((a0.getD 1 .undef).cells) fun h26 r27=>
 withStr h26 fun s28=>
 let y29:List AV:=[AV.agg [vs s28,vi p25.1,vi p25.2.1,vi p25.2.2.1]]
 bif decide (a9.length+y29.length≤most) then (bif p25.2.2.2 then (let y30:Bool:=((a0.length:Nat):Int)==3
 some (y30,a1,a2,a3,a4,a5,a6,a7,a8,a9++y29,a10,a11,a12,a13,a14,a15)) else (some (false,a1,a2,a3,a4,a5,a6,a7,a8,a9++y29,a10,a11,a12,a13,a14,a15))) else none) else none) else none))) else none)
def Q19.E (n:Nat) (c:Q19.Z→Option Q19.T):Q19.A→Option Q19.T:=fun (a0,a1,a2,a3,a4,a5,a6,a7,a8,a9,a10,a11,a12,a13,a14,a15)=>Q19.e n c a0 a1 a2 a3 a4 a5 a6 a7 a8 a9 a10 a11 a12 a13 a14 a15
def Q19.l (n:Nat):Nat→Q19.Z→Option Q19.T:=loopL (Q19.r n)
def Q19.F (n:Nat) (a0:List AV) (a1:Bool) (a2 a3:ByteArray) (a4:Bool) (a5 a6:ByteArray) (a7:Bool) (a8:Int) (a9 a10 a11 a12 a13 a14 a15:List AV):Option Q19.T:=Q19.e n (Q19.l n n) a0 a1 a2 a3 a4 a5 a6 a7 a8 a9 a10 a11 a12 a13 a14 a15
def Q19.FA (n:Nat):Q19.A→Option Q19.T:=Q19.E n (Q19.l n n)
def Q19.nils:List (Nat × Nat × Fl × Nat):=[]
theorem Q19.hands (n:Nat):∀ a p,Q19.FA n a=some p→HandsMIn Tryz.prog 110 (Q19.i a) (Q19.b a) (Q19.y p) (Q19.w p):=
 pfM_hands (G:=Gk 1) (C:=Q19.C n) (cut:=Q19.cut) (t:=Q19.t) (s:=Q19.s) (nils:=Q19.nils) (e:=Q19.E n) (r:=Q19.r n) (n:=n) (cfg.kb 1) mixed globs Q19.qi (fun a=>by kernel_rfl) (Q19.tells n) Tryz.func110 (by kernel_rfl) (by kernel_rfl) (fun rec a=>by kernel_rfl) (fun rec z=>by cases z <;> kernel_rfl)
def Q19.via {R:Type} (n:Nat):List AV→(AV→Option R)→Option R:=viaK (Q19.FA n) Q19.o Q19.p
theorem Q19.tells1 {R:Type} (n:Nat) (xs:List AV):Tells1 (R:=R) Tryz.prog 110 xs (Q19.via n xs):=tells_viaM (fun _=>rfl) Q19.oi (Q19.hands n) xs
end Go.Proofs.YtmpglmcjoelciaaGreatDoor.Ev
namespace Go.Proofs.YtmpglmcjoelciaaGreatDoor.Ev
open Go Go.Proofs Go.Proofs.Ev
set_option linter.unusedVariables false
set_option maxRecDepth 100000
abbrev Q1d.A:=List AV × Bool × ByteArray × ByteArray × Bool × ByteArray × ByteArray × Bool × Int × List AV × List AV × List AV × List AV × List AV × List AV × List AV
abbrev Q1d.T:=Bool × Bool × ByteArray × ByteArray × Bool × ByteArray × ByteArray × Bool × Int × List AV × List AV × List AV × List AV × List AV × List AV × List AV
def Q1d.i:Q1d.A→List AV:=fun (a0,a1,a2,a3,a4,a5,a6,a7,a8,a9,a10,a11,a12,a13,a14,a15)=>[.ptr 0 0,.sl ⟨true,9⟩ 1 a0]
def Q1d.b:Q1d.A→List AV:=fun (a0,a1,a2,a3,a4,a5,a6,a7,a8,a9,a10,a11,a12,a13,a14,a15)=>[.fn 115 [vb a1,vs a2,vs a3,.own 1 0 none,.own 2 0 none,vb a4,vs a5,vs a6,.own 3 0 none,.own 4 0 none,.own 5 0 none,.own 6 0 none,vb a7,.own 7 0 none,vi a8],.fr ⟨true,125⟩ 4 a9,.fr ⟨true,111⟩ 2 a10,.fr ⟨true,9⟩ 1 a11,.fr ⟨true,95⟩ 3 a12,.fr ⟨true,97⟩ 4 a13,.fr ⟨true,111⟩ 2 a14,.fr ⟨false,100⟩ 2 a15]
def Q1d.o (xs:List AV):Option Q1d.A:=match xs with | [.ptr 0 0,.sl ⟨true,9⟩ 1 a0,.tup [.fn 115 [.v (.bool a1),.v (.string a2),.v (.string a3),.own 1 0 none,.own 2 0 none,.v (.bool a4),.v (.string a5),.v (.string a6),.own 3 0 none,.own 4 0 none,.own 5 0 none,.own 6 0 none,.v (.bool a7),.own 7 0 none,.v (.int .i64 a8)],.fr ⟨true,125⟩ 4 a9,.fr ⟨true,111⟩ 2 a10,.fr ⟨true,9⟩ 1 a11,.fr ⟨true,95⟩ 3 a12,.fr ⟨true,97⟩ 4 a13,.fr ⟨true,111⟩ 2 a14,.fr ⟨false,100⟩ 2 a15]]=>some (a0,a1,a2,a3,a4,a5,a6,a7,a8,a9,a10,a11,a12,a13,a14,a15) | _=>none
theorem Q1d.oi:∀ xs a,Q1d.o xs=some a→xs=Q1d.i a++[.tup (Q1d.b a)]:=by
 intro xs a h
 unfold Q1d.o at h
 split at h
 ·cases h; rfl
 ·cases h
def Q1d.y (p:Q1d.T):AV:=vb p.1
def Q1d.w (p:Q1d.T):List AV:=[.fn 115 [vb p.2.1,vs p.2.2.1,vs p.2.2.2.1,.own 1 0 none,.own 2 0 none,vb p.2.2.2.2.1,vs p.2.2.2.2.2.1,vs p.2.2.2.2.2.2.1,.own 3 0 none,.own 4 0 none,.own 5 0 none,.own 6 0 none,vb p.2.2.2.2.2.2.2.1,.own 7 0 none,vi p.2.2.2.2.2.2.2.2.1],.fr ⟨true,125⟩ 4 p.2.2.2.2.2.2.2.2.2.1,.fr ⟨true,111⟩ 2 p.2.2.2.2.2.2.2.2.2.2.1,.fr ⟨true,9⟩ 1 p.2.2.2.2.2.2.2.2.2.2.2.1,.fr ⟨true,95⟩ 3 p.2.2.2.2.2.2.2.2.2.2.2.2.1,.fr ⟨true,97⟩ 4 p.2.2.2.2.2.2.2.2.2.2.2.2.2.1,.fr ⟨true,111⟩ 2 p.2.2.2.2.2.2.2.2.2.2.2.2.2.2.1,.fr ⟨false,100⟩ 2 p.2.2.2.2.2.2.2.2.2.2.2.2.2.2.2]
def Q1d.p (p:Q1d.T):AV:=.tup [Q1d.y p,.tup (Q1d.w p)]
def Q1d.q (x:AV):Option Q1d.T:=match x with | .tup [.v (.bool p0),.tup [.fn 115 [.v (.bool p1),.v (.string p2),.v (.string p3),.own 1 0 none,.own 2 0 none,.v (.bool p4),.v (.string p5),.v (.string p6),.own 3 0 none,.own 4 0 none,.own 5 0 none,.own 6 0 none,.v (.bool p7),.own 7 0 none,.v (.int .i64 p8)],.fr ⟨true,125⟩ 4 p9,.fr ⟨true,111⟩ 2 p10,.fr ⟨true,9⟩ 1 p11,.fr ⟨true,95⟩ 3 p12,.fr ⟨true,97⟩ 4 p13,.fr ⟨true,111⟩ 2 p14,.fr ⟨false,100⟩ 2 p15]]=>some (p0,p1,p2,p3,p4,p5,p6,p7,p8,p9,p10,p11,p12,p13,p14,p15) | _=>none
theorem Q1d.qi:∀ x p,Q1d.q x=some p→x=Q1d.p p:=by
 intro x p h
 unfold Q1d.q at h
 split at h
 ·cases h; rfl
 ·cases h
inductive Q1d.Z where
 | z3 (z1:Bool) (z2 z3:ByteArray) (z4:Bool) (z5 z6:ByteArray) (z7:Bool) (z8:Int) (z9 z10 z11 z12 z13 z14 z15:List AV)
 | z4 (z1:List AV) (z2 z3:Bool) (z4 z5:ByteArray) (z6:Bool) (z7 z8:ByteArray) (z9:Bool) (z10:Int) (z11 z12 z13 z14 z15 z16 z17:List AV)
def Q1d.C {R:Type} (n:Nat) (f:FuncId) (xs:List AV):(AV→Option R)→Option R:=
 bif Nat.beq f 113 then Q0p.via n xs else fun _=>none
theorem Q1d.tells {R:Type} (n:Nat):Tells (R:=R) Tryz.prog (Q1d.C n):=fun _ xs=>tells_at (Q0p.tells1 n xs) (Tells1.none)
def Q1d.cut (r:Nat):Option Keep:=match r with | 3=>some ⟨[],[]⟩ | 4=>some ⟨[0,1,5],[]⟩ | _=>none
def Q1d.t (z:Q1d.Z):List Item:=(todoOf (match z with | .z3 _ _ _ _ _ _ _ _ _ _ _ _ _ _ _=>3 | .z4 _ _ _ _ _ _ _ _ _ _ _ _ _ _ _ _ _=>4) 1000 [.code (Tryz.f111.body.getD .skip)]).getD []
def Q1d.s:Q1d.Z→St
 | .z3 z1 z2 z3 z4 z5 z6 z7 z8 z9 z10 z11 z12 z13 z14 z15=>⟨spr 69 0 [],Mem.ofList [.box 115 [vb z1,vs z2,vs z3,.own 1 0 none,.own 2 0 none,vb z4,vs z5,vs z6,.own 3 0 none,.own 4 0 none,.own 5 0 none,.own 6 0 none,vb z7,.own 7 0 none,vi z8],.row ⟨true,125⟩ 4 z9,.row ⟨true,111⟩ 2 z10,.row ⟨true,9⟩ 1 z11,.row ⟨true,95⟩ 3 z12,.row ⟨true,97⟩ 4 z13,.row ⟨true,111⟩ 2 z14,.row ⟨false,100⟩ 2 z15],8⟩
 | .z4 z1 z2 z3 z4 z5 z6 z7 z8 z9 z10 z11 z12 z13 z14 z15 z16 z17=>⟨spr 69 0 [(0,.ptr 0 0),(1,.sl ⟨true,9⟩ 1 z1),(5,vb z2)],Mem.ofList [.box 115 [vb z3,vs z4,vs z5,.own 1 0 none,.own 2 0 none,vb z6,vs z7,vs z8,.own 3 0 none,.own 4 0 none,.own 5 0 none,.own 6 0 none,vb z9,.own 7 0 none,vi z10],.row ⟨true,125⟩ 4 z11,.row ⟨true,111⟩ 2 z12,.row ⟨true,9⟩ 1 z13,.row ⟨true,95⟩ 3 z14,.row ⟨true,97⟩ 4 z15,.row ⟨true,111⟩ 2 z16,.row ⟨false,100⟩ 2 z17],8⟩
def Q1d.r3 (n:Nat) (c:Q1d.Z→Option Q1d.T) (z1:Bool) (z2 z3:ByteArray) (z4:Bool) (z5 z6:ByteArray) (z7:Bool) (z8:Int) (z9 z10 z11 z12 z13 z14 z15:List AV):Option Q1d.T:=
 some (false,z1,z2,z3,z4,z5,z6,z7,z8,z9,z10,z11,z12,z13,z14,z15)
def Q1d.r4 (n:Nat) (c:Q1d.Z→Option Q1d.T) (z1:List AV) (z2 z3:Bool) (z4 z5:ByteArray) (z6:Bool) (z7 z8:ByteArray) (z9:Bool) (z10:Int) (z11 z12 z13 z14 z15 z16 z17:List AV):Option Q1d.T:=
 bif decide ((1:Int) < (z1.length:Nat)) then (withCons ((z1.getD 1 .undef).cells) fun h20 r21=>
 withStr h20 fun s22=>
 bif z3 then (bif decide (z16.length+[AV.agg [vs s22,vb z2]].length≤most) then (let y23:List AV:=z16++[AV.agg [vs s22,vb z2]]
 some (true,z3,z4,z5,z6,z7,z8,z9,z10,z11,z12,z13,z14,z15,y23,z17)) else none) else (bif decide (z12.length+[AV.agg [vs s22,vb z2]].length≤most) then (let y24:List AV:=z12++[AV.agg [vs s22,vb z2]]
 some (true,z3,z4,z5,z6,z7,z8,z9,z10,z11,y24,z13,z14,z15,z16,z17)) else none)) else none
def Q1d.r (n:Nat) (c:Q1d.Z→Option Q1d.T):Q1d.Z→Option Q1d.T
 | .z3 z1 z2 z3 z4 z5 z6 z7 z8 z9 z10 z11 z12 z13 z14 z15=>Q1d.r3 n c z1 z2 z3 z4 z5 z6 z7 z8 z9 z10 z11 z12 z13 z14 z15
 | .z4 z1 z2 z3 z4 z5 z6 z7 z8 z9 z10 z11 z12 z13 z14 z15 z16 z17=>Q1d.r4 n c z1 z2 z3 z4 z5 z6 z7 z8 z9 z10 z11 z12 z13 z14 z15 z16 z17
def Q1d.e (n:Nat) (c:Q1d.Z→Option Q1d.T) (a0:List AV) (a1:Bool) (a2 a3:ByteArray) (a4:Bool) (a5 a6:ByteArray) (a7:Bool) (a8:Int) (a9 a10 a11 a12 a13 a14 a15:List AV):Option Q1d.T:=
 let y1:Bool:=((a0.length:Nat):Int)==3
 bif y1 then (bif decide ((2:Int) < (a0.length:Nat)) then (withCons ((a0.getD 2 .undef).cells) fun h2 r3=>
 withStr h2 fun s4=>
 let y5:Bool:=s4.toList==(⟨#[68,69,83,67,69,78,68]⟩ : ByteArray).toList
 let y6:Bool:=((a0.length:Nat):Int) != 2
 bif y6 then (bif !y5 then (c (.z3 a1 a2 a3 a4 a5 a6 a7 a8 a9 a10 a11 a12 a13 a14 a15)) else (bif decide ((1:Int) < (a0.length:Nat)) then (withCons ((a0.getD 1 .undef).cells) fun h7 r8=>
 withStr h7 fun s9=>
 (Q0p.F n [vs s9]).bind fun p10=>
 bif !p10 then (c (.z3 a1 a2 a3 a4 a5 a6 a7 a8 a9 a10 a11 a12 a13 a14 a15)) else (c (.z4 a0 y5 a1 a2 a3 a4 a5 a6 a7 a8 a9 a10 a11 a12 a13 a14 a15))) else none)) else (bif decide ((1:Int) < (a0.length:Nat)) then (withCons ((a0.getD 1 .undef).cells) fun h11 r12=>
 withStr h11 fun s13=>
 (Q0p.F n [vs s13]).bind fun p14=>
 bif !p14 then (c (.z3 a1 a2 a3 a4 a5 a6 a7 a8 a9 a10 a11 a12 a13 a14 a15)) else (c (.z4 a0 y5 a1 a2 a3 a4 a5 a6 a7 a8 a9 a10 a11 a12 a13 a14 a15))) else none)) else none) else (let y15:Bool:=((a0.length:Nat):Int) != 2
 bif y15 then (c (.z3 a1 a2 a3 a4 a5 a6 a7 a8 a9 a10 a11 a12 a13 a14 a15)) else (bif decide ((1:Int) < (a0.length:Nat)) then (withCons ((a0.getD 1 .undef).cells) fun h16 r17=>
 withStr h16 fun s18=>
 (Q0p.F n [vs s18]).bind fun p19=>
 bif !p19 then (c (.z3 a1 a2 a3 a4 a5 a6 a7 a8 a9 a10 a11 a12 a13 a14 a15)) else (c (.z4 a0 false a1 a2 a3 a4 a5 a6 a7 a8 a9 a10 a11 a12 a13 a14 a15))) else none))
def Q1d.E (n:Nat) (c:Q1d.Z→Option Q1d.T):Q1d.A→Option Q1d.T:=fun (a0,a1,a2,a3,a4,a5,a6,a7,a8,a9,a10,a11,a12,a13,a14,a15)=>Q1d.e n c a0 a1 a2 a3 a4 a5 a6 a7 a8 a9 a10 a11 a12 a13 a14 a15
def Q1d.l (n:Nat):Nat→Q1d.Z→Option Q1d.T:=loopL (Q1d.r n)
def Q1d.F (n:Nat) (a0:List AV) (a1:Bool) (a2 a3:ByteArray) (a4:Bool) (a5 a6:ByteArray) (a7:Bool) (a8:Int) (a9 a10 a11 a12 a13 a14 a15:List AV):Option Q1d.T:=Q1d.e n (Q1d.l n n) a0 a1 a2 a3 a4 a5 a6 a7 a8 a9 a10 a11 a12 a13 a14 a15
def Q1d.FA (n:Nat):Q1d.A→Option Q1d.T:=Q1d.E n (Q1d.l n n)
def Q1d.nils:List (Nat × Nat × Fl × Nat):=[]
theorem Q1d.hands (n:Nat):∀ a p,Q1d.FA n a=some p→HandsMIn Tryz.prog 111 (Q1d.i a) (Q1d.b a) (Q1d.y p) (Q1d.w p):=
 pfM_hands (G:=Gk 1) (C:=Q1d.C n) (cut:=Q1d.cut) (t:=Q1d.t) (s:=Q1d.s) (nils:=Q1d.nils) (e:=Q1d.E n) (r:=Q1d.r n) (n:=n) (cfg.kb 1) mixed globs Q1d.qi (fun a=>by kernel_rfl) (Q1d.tells n) Tryz.func111 (by kernel_rfl) (by kernel_rfl) (fun rec a=>by kernel_rfl) (fun rec z=>by cases z <;> kernel_rfl)
def Q1d.via {R:Type} (n:Nat):List AV→(AV→Option R)→Option R:=viaK (Q1d.FA n) Q1d.o Q1d.p
theorem Q1d.tells1 {R:Type} (n:Nat) (xs:List AV):Tells1 (R:=R) Tryz.prog 111 xs (Q1d.via n xs):=tells_viaM (fun _=>rfl) Q1d.oi (Q1d.hands n) xs
end Go.Proofs.YtmpglmcjoelciaaGreatDoor.Ev
namespace Go.Proofs.YtmpglmcjoelciaaGreatDoor.Ev
open Go Go.Proofs Go.Proofs.Ev
set_option linter.unusedVariables false
set_option maxRecDepth 100000
abbrev Q1l.A:=ByteArray
abbrev Q1l.T:=Int × ByteArray × Bool
def Q1l.i:Q1l.A→List AV:=fun a0=>[vs a0]
def Q1l.o (xs:List AV):Option Q1l.A:=match xs with | [.v (.string a0)]=>some a0 | _=>none
theorem Q1l.oi:∀ xs a,Q1l.o xs=some a→xs=Q1l.i a:=by
 intro xs a h
 unfold Q1l.o at h
 split at h
 ·cases h; rfl
 ·cases h
def Q1l.p (p:Q1l.T):AV:=.tup [AV.agg [vi p.1,vs p.2.1],vb p.2.2]
def Q1l.q (x:AV):Option Q1l.T:=match x with | .tup [.agg [.v (.int .i64 p0),.v (.string p1)],.v (.bool p2)]=>some (p0,p1,p2) | _=>none
theorem Q1l.qi:∀ x p,Q1l.q x=some p→x=Q1l.p p:=by
 intro x p h
 unfold Q1l.q at h
 split at h
 ·cases h; rfl
 ·cases h
def Q1l.C {R:Type} (n:Nat) (f:FuncId) (xs:List AV):(AV→Option R)→Option R:=
 bif Nat.beq f 122 then Q4j.via n xs else bif Nat.beq f 147 then Q1m.via n xs else fun _=>none
theorem Q1l.tells {R:Type} (n:Nat):Tells (R:=R) Tryz.prog (Q1l.C n):=fun _ xs=>tells_at (Q4j.tells1 n xs) (tells_at (Q1m.tells1 n xs) (Tells1.none))
def Q1l.cut (r:Nat):Option Keep:=match r with  | _=>none
def Q1l.e (n:Nat) (a0:ByteArray):Option (Int × ByteArray × Bool):=
 bif decide ((0:Int) < (a0.size:Nat)) then (let y1:Int:=(((a0.data.getD 0 0).toNat:Nat):Int)
 bif y1==39 then (let y2:Int:=IntKind.i64.wrap (((a0.size:Nat):Int) - 1)
 bif decide ((0:Int)≤y2)&&decide ((y2:Int)≤((a0.size:Nat):Int)) then (bif decide ((0:Int)≤1)&&decide ((1:Int)≤y2) then ((Q4j.F n (a0.extract 1 (y2).toNat) (⟨#[39,39]⟩ : ByteArray) (⟨#[39]⟩ : ByteArray)).bind fun p3=>
 some (0,p3,true)) else none) else none) else ((Q1m.F n a0).bind fun p4=>
 some (p4.1,(⟨#[]⟩ : ByteArray),p4.2))) else none
def Q1l.E (n:Nat):Q1l.A→Option Q1l.T:=fun a0=>Q1l.e n a0
def Q1l.F (n:Nat) (a0:ByteArray):Option (Int × ByteArray × Bool):=Q1l.e n a0
def Q1l.FA (n:Nat):Q1l.A→Option Q1l.T:=Q1l.E n
theorem Q1l.hands (n:Nat):∀ a p,Q1l.FA n a=some p→HandsIn Tryz.prog 148 (Q1l.i a) (Q1l.p p):=
 pf_hands (C:=Q1l.C n) (cut:=Q1l.cut) (Z:=Empty) (t:=nofun) (s:=nofun) (e:=fun _=>Q1l.E n) (r:=fun _ z=>nomatch z) (n:=n) cfg mixed globs rfl Q1l.qi (Q1l.tells n) Tryz.func148 (by kernel_rfl) (by kernel_rfl) (fun rec a=>by kernel_rfl) (fun rec z=>nomatch z)
def Q1l.via {R:Type} (n:Nat):List AV→(AV→Option R)→Option R:=viaK (Q1l.FA n) Q1l.o Q1l.p
theorem Q1l.tells1 {R:Type} (n:Nat) (xs:List AV):Tells1 (R:=R) Tryz.prog 148 xs (Q1l.via n xs):=tells_via Q1l.oi (fun a=>by kernel_rfl) (Q1l.hands n) xs
end Go.Proofs.YtmpglmcjoelciaaGreatDoor.Ev
namespace Go.Proofs.YtmpglmcjoelciaaGreatDoor.Ev
open Go Go.Proofs Go.Proofs.Ev
set_option linter.unusedVariables false
set_option maxRecDepth 100000
abbrev Q1f.A:=List AV × Bool × ByteArray × ByteArray × Bool × ByteArray × ByteArray × Bool × Int × List AV × List AV × List AV × List AV × List AV × List AV × List AV
abbrev Q1f.T:=Bool × Bool × ByteArray × ByteArray × Bool × ByteArray × ByteArray × Bool × Int × List AV × List AV × List AV × List AV × List AV × List AV × List AV
def Q1f.i:Q1f.A→List AV:=fun (a0,a1,a2,a3,a4,a5,a6,a7,a8,a9,a10,a11,a12,a13,a14,a15)=>[.ptr 0 0,.sl ⟨true,9⟩ 1 a0]
def Q1f.b:Q1f.A→List AV:=fun (a0,a1,a2,a3,a4,a5,a6,a7,a8,a9,a10,a11,a12,a13,a14,a15)=>[.fn 115 [vb a1,vs a2,vs a3,.own 1 0 none,.own 2 0 none,vb a4,vs a5,vs a6,.own 3 0 none,.own 4 0 none,.own 5 0 none,.own 6 0 none,vb a7,.own 7 0 none,vi a8],.fr ⟨true,125⟩ 4 a9,.fr ⟨true,111⟩ 2 a10,.fr ⟨true,9⟩ 1 a11,.fr ⟨true,95⟩ 3 a12,.fr ⟨true,97⟩ 4 a13,.fr ⟨true,111⟩ 2 a14,.fr ⟨false,100⟩ 2 a15]
def Q1f.o (xs:List AV):Option Q1f.A:=match xs with | [.ptr 0 0,.sl ⟨true,9⟩ 1 a0,.tup [.fn 115 [.v (.bool a1),.v (.string a2),.v (.string a3),.own 1 0 none,.own 2 0 none,.v (.bool a4),.v (.string a5),.v (.string a6),.own 3 0 none,.own 4 0 none,.own 5 0 none,.own 6 0 none,.v (.bool a7),.own 7 0 none,.v (.int .i64 a8)],.fr ⟨true,125⟩ 4 a9,.fr ⟨true,111⟩ 2 a10,.fr ⟨true,9⟩ 1 a11,.fr ⟨true,95⟩ 3 a12,.fr ⟨true,97⟩ 4 a13,.fr ⟨true,111⟩ 2 a14,.fr ⟨false,100⟩ 2 a15]]=>some (a0,a1,a2,a3,a4,a5,a6,a7,a8,a9,a10,a11,a12,a13,a14,a15) | _=>none
theorem Q1f.oi:∀ xs a,Q1f.o xs=some a→xs=Q1f.i a++[.tup (Q1f.b a)]:=by
 intro xs a h
 unfold Q1f.o at h
 split at h
 ·cases h; rfl
 ·cases h
def Q1f.y (p:Q1f.T):AV:=vb p.1
def Q1f.w (p:Q1f.T):List AV:=[.fn 115 [vb p.2.1,vs p.2.2.1,vs p.2.2.2.1,.own 1 0 none,.own 2 0 none,vb p.2.2.2.2.1,vs p.2.2.2.2.2.1,vs p.2.2.2.2.2.2.1,.own 3 0 none,.own 4 0 none,.own 5 0 none,.own 6 0 none,vb p.2.2.2.2.2.2.2.1,.own 7 0 none,vi p.2.2.2.2.2.2.2.2.1],.fr ⟨true,125⟩ 4 p.2.2.2.2.2.2.2.2.2.1,.fr ⟨true,111⟩ 2 p.2.2.2.2.2.2.2.2.2.2.1,.fr ⟨true,9⟩ 1 p.2.2.2.2.2.2.2.2.2.2.2.1,.fr ⟨true,95⟩ 3 p.2.2.2.2.2.2.2.2.2.2.2.2.1,.fr ⟨true,97⟩ 4 p.2.2.2.2.2.2.2.2.2.2.2.2.2.1,.fr ⟨true,111⟩ 2 p.2.2.2.2.2.2.2.2.2.2.2.2.2.2.1,.fr ⟨false,100⟩ 2 p.2.2.2.2.2.2.2.2.2.2.2.2.2.2.2]
def Q1f.p (p:Q1f.T):AV:=.tup [Q1f.y p,.tup (Q1f.w p)]
def Q1f.q (x:AV):Option Q1f.T:=match x with | .tup [.v (.bool p0),.tup [.fn 115 [.v (.bool p1),.v (.string p2),.v (.string p3),.own 1 0 none,.own 2 0 none,.v (.bool p4),.v (.string p5),.v (.string p6),.own 3 0 none,.own 4 0 none,.own 5 0 none,.own 6 0 none,.v (.bool p7),.own 7 0 none,.v (.int .i64 p8)],.fr ⟨true,125⟩ 4 p9,.fr ⟨true,111⟩ 2 p10,.fr ⟨true,9⟩ 1 p11,.fr ⟨true,95⟩ 3 p12,.fr ⟨true,97⟩ 4 p13,.fr ⟨true,111⟩ 2 p14,.fr ⟨false,100⟩ 2 p15]]=>some (p0,p1,p2,p3,p4,p5,p6,p7,p8,p9,p10,p11,p12,p13,p14,p15) | _=>none
theorem Q1f.qi:∀ x p,Q1f.q x=some p→x=Q1f.p p:=by
 intro x p h
 unfold Q1f.q at h
 split at h
 ·cases h; rfl
 ·cases h
inductive Q1f.Z where
 | z5 (z1:List AV) (z2:Bool) (z3 z4:ByteArray) (z5:Bool) (z6 z7:ByteArray) (z8:Bool) (z9:Int) (z10:Bool) (z11 z12 z13 z14 z15 z16 z17 z18:List AV)
 | z7 (z1:Bool) (z2 z3:ByteArray) (z4:Bool) (z5 z6:ByteArray) (z7:Bool) (z8:Int) (z9 z10 z11 z12 z13 z14 z15:List AV)
def Q1f.C {R:Type} (n:Nat) (f:FuncId) (xs:List AV):(AV→Option R)→Option R:=
 bif Nat.beq f 102 then Q48.via n xs else bif Nat.beq f 113 then Q0p.via n xs else bif Nat.beq f 145 then Q4c.via n xs else bif Nat.beq f 148 then Q1l.via n xs else fun _=>none
theorem Q1f.tells {R:Type} (n:Nat):Tells (R:=R) Tryz.prog (Q1f.C n):=fun _ xs=>tells_at (Q48.tells1 n xs) (tells_at (Q0p.tells1 n xs) (tells_at (Q4c.tells1 n xs) (tells_at (Q1l.tells1 n xs) (Tells1.none))))
def Q1f.cut (r:Nat):Option Keep:=match r with | 5=>some ⟨[0,1,5],[(5,some 1,⟨true,104⟩,4)]⟩ | 7=>some ⟨[],[]⟩ | _=>none
def Q1f.t (z:Q1f.Z):List Item:=(todoOf (match z with | .z5 _ _ _ _ _ _ _ _ _ _ _ _ _ _ _ _ _ _=>5 | .z7 _ _ _ _ _ _ _ _ _ _ _ _ _ _ _=>7) 1000 [.code (Tryz.f112.body.getD .skip)]).getD []
def Q1f.s:Q1f.Z→St
 | .z5 z1 z2 z3 z4 z5 z6 z7 z8 z9 z10 z11 z12 z13 z14 z15 z16 z17 z18=>⟨spr 97 0 [(0,.ptr 0 0),(1,.sl ⟨true,9⟩ 1 z1),(5,.ptr 1 0)],Mem.ofList [.box 115 [vb z2,vs z3,vs z4,.own 3 0 none,.own 4 0 none,vb z5,vs z6,vs z7,.own 5 0 none,.own 6 0 none,.own 7 0 none,.own 8 0 none,vb z8,.own 9 0 none,vi z9],.box 100 [vb z10,.own 2 0 none],.row ⟨true,104⟩ 4 z11,.row ⟨true,125⟩ 4 z12,.row ⟨true,111⟩ 2 z13,.row ⟨true,9⟩ 1 z14,.row ⟨true,95⟩ 3 z15,.row ⟨true,97⟩ 4 z16,.row ⟨true,111⟩ 2 z17,.row ⟨false,100⟩ 2 z18],10⟩
 | .z7 z1 z2 z3 z4 z5 z6 z7 z8 z9 z10 z11 z12 z13 z14 z15=>⟨spr 97 0 [],Mem.ofList [.box 115 [vb z1,vs z2,vs z3,.own 1 0 none,.own 2 0 none,vb z4,vs z5,vs z6,.own 3 0 none,.own 4 0 none,.own 5 0 none,.own 6 0 none,vb z7,.own 7 0 none,vi z8],.row ⟨true,125⟩ 4 z9,.row ⟨true,111⟩ 2 z10,.row ⟨true,9⟩ 1 z11,.row ⟨true,95⟩ 3 z12,.row ⟨true,97⟩ 4 z13,.row ⟨true,111⟩ 2 z14,.row ⟨false,100⟩ 2 z15],8⟩
def Q1f.r5 (n:Nat) (c:Q1f.Z→Option Q1f.T) (z1:List AV) (z2:Bool) (z3 z4:ByteArray) (z5:Bool) (z6 z7:ByteArray) (z8:Bool) (z9:Int) (z10:Bool) (z11 z12 z13 z14 z15 z16 z17 z18:List AV):Option Q1f.T:=
 let y5:Bool:=decide (((z1.length:Nat):Int) > 0)
 bif y5 then (let y6:Bool:=decide (((z1.length:Nat):Int) < 3)
 bif y6 then (c (.z7 z2 z3 z4 z5 z6 z7 z8 z9 z12 z13 z14 z15 z16 z17 z18)) else (bif decide ((0:Int) < (z1.length:Nat)) then (withCons ((z1.getD 0 .undef).cells) fun h7 r8=>
 withStr h7 fun s9=>
 (Q0p.F n [vs s9]).bind fun p10=>
 bif !p10 then (c (.z7 z2 z3 z4 z5 z6 z7 z8 z9 z12 z13 z14 z15 z16 z17 z18)) else (bif decide ((1:Int) < (z1.length:Nat)) then (withCons ((z1.getD 1 .undef).cells) fun h11 r12=>
 withStr h11 fun s13=>
 (Q48.F n gr0 s13).bind fun p14=>
 bif !p14 then (c (.z7 z2 z3 z4 z5 z6 z7 z8 z9 z12 z13 z14 z15 z16 z17 z18)) else (bif decide ((2:Int) < (z1.length:Nat)) then (withCons ((z1.getD 2 .undef).cells) fun h15 r16=>
 withStr h15 fun s17=>
 (Q1l.F n s17).bind fun p18=>
 bif !p18.2.2 then (some (false,z2,z3,z4,z5,z6,z7,z8,z9,z12,z13,z14,z15,z16,z17,z18)) else (bif decide ((0:Int) < (z1.length:Nat)) then (withCons ((z1.getD 0 .undef).cells) fun h19 r20=>
 withStr h19 fun s21=>
 bif decide ((1:Int) < (z1.length:Nat)) then (withCons ((z1.getD 1 .undef).cells) fun h22 r23=>
 withStr h22 fun s24=>
 (Q4c.F n gr0 s24).bind fun p25=>
 let y26:List AV:=[AV.agg [vs s21,vi p25,vi p18.1,vs p18.2.1]]
 bif decide (z11.length+y26.length≤most) then (bif decide ((0:Int)≤3)&&decide ((3:Int)≤((z1.length:Nat):Int)) then (let y27:Bool:=(((z1.drop 3).length:Nat):Int)==0
 bif y27 then (let y28:List AV:=[AV.agg [vb z10,.sl ⟨true,104⟩ 4 (z11++y26)]]
 bif decide (z18.length+y28.length≤most) then (some (true,z2,z3,z4,z5,z6,z7,z8,z9,z12,z13,z14,z15,z16,z17,z18++y28)) else none) else (bif decide ((0:Int) < ((z1.drop 3).length:Nat)) then (withCons (((z1.drop 3).getD 0 .undef).cells) fun h29 r30=>
 withStr h29 fun s31=>
 let y32:Bool:=!(s31.toList==(⟨#[65,78,68]⟩ : ByteArray).toList)
 bif y32 then (some (false,z2,z3,z4,z5,z6,z7,z8,z9,z12,z13,z14,z15,z16,z17,z18)) else (let y33:Bool:=(((z1.drop 3).length:Nat):Int)==1
 bif y33 then (some (false,z2,z3,z4,z5,z6,z7,z8,z9,z12,z13,z14,z15,z16,z17,z18)) else (bif decide ((0:Int)≤1)&&decide ((1:Int)≤(((z1.drop 3).length:Nat):Int)) then (c (.z5 ((z1.drop 3).drop 1) z2 z3 z4 z5 z6 z7 z8 z9 z10 (z11++y26) z12 z13 z14 z15 z16 z17 z18)) else none))) else none)) else none) else none) else none) else none)) else none)) else none)) else none)) else (let y34:List AV:=[AV.agg [vb z10,.sl ⟨true,104⟩ 4 z11]]
 bif decide (z18.length+y34.length≤most) then (some (true,z2,z3,z4,z5,z6,z7,z8,z9,z12,z13,z14,z15,z16,z17,z18++y34)) else none)
def Q1f.r7 (n:Nat) (c:Q1f.Z→Option Q1f.T) (z1:Bool) (z2 z3:ByteArray) (z4:Bool) (z5 z6:ByteArray) (z7:Bool) (z8:Int) (z9 z10 z11 z12 z13 z14 z15:List AV):Option Q1f.T:=
 some (false,z1,z2,z3,z4,z5,z6,z7,z8,z9,z10,z11,z12,z13,z14,z15)
def Q1f.r (n:Nat) (c:Q1f.Z→Option Q1f.T):Q1f.Z→Option Q1f.T
 | .z5 z1 z2 z3 z4 z5 z6 z7 z8 z9 z10 z11 z12 z13 z14 z15 z16 z17 z18=>Q1f.r5 n c z1 z2 z3 z4 z5 z6 z7 z8 z9 z10 z11 z12 z13 z14 z15 z16 z17 z18
 | .z7 z1 z2 z3 z4 z5 z6 z7 z8 z9 z10 z11 z12 z13 z14 z15=>Q1f.r7 n c z1 z2 z3 z4 z5 z6 z7 z8 z9 z10 z11 z12 z13 z14 z15
def Q1f.e (n:Nat) (c:Q1f.Z→Option Q1f.T) (a0:List AV) (a1:Bool) (a2 a3:ByteArray) (a4:Bool) (a5 a6:ByteArray) (a7:Bool) (a8:Int) (a9 a10 a11 a12 a13 a14 a15:List AV):Option Q1f.T:=
 bif !a1 then (some (false,a1,a2,a3,a4,a5,a6,a7,a8,a9,a10,a11,a12,a13,a14,a15)) else (bif decide ((0:Int) < (a0.length:Nat)) then (withCons ((a0.getD 0 .undef).cells) fun h1 r2=>
 withStr h1 fun s3=>
 let y4:Bool:=s3.toList==(⟨#[79]⟩ : ByteArray).toList
 bif decide ((0:Int)≤1)&&decide ((1:Int)≤((a0.length:Nat):Int)) then (c (.z5 (a0.drop 1) a1 a2 a3 a4 a5 a6 a7 a8 y4 [] a9 a10 a11 a12 a13 a14 a15)) else none) else none)
def Q1f.E (n:Nat) (c:Q1f.Z→Option Q1f.T):Q1f.A→Option Q1f.T:=fun (a0,a1,a2,a3,a4,a5,a6,a7,a8,a9,a10,a11,a12,a13,a14,a15)=>Q1f.e n c a0 a1 a2 a3 a4 a5 a6 a7 a8 a9 a10 a11 a12 a13 a14 a15
def Q1f.l (n:Nat):Nat→Q1f.Z→Option Q1f.T:=loopL (Q1f.r n)
def Q1f.F (n:Nat) (a0:List AV) (a1:Bool) (a2 a3:ByteArray) (a4:Bool) (a5 a6:ByteArray) (a7:Bool) (a8:Int) (a9 a10 a11 a12 a13 a14 a15:List AV):Option Q1f.T:=Q1f.e n (Q1f.l n n) a0 a1 a2 a3 a4 a5 a6 a7 a8 a9 a10 a11 a12 a13 a14 a15
def Q1f.FA (n:Nat):Q1f.A→Option Q1f.T:=Q1f.E n (Q1f.l n n)
def Q1f.nils:List (Nat × Nat × Fl × Nat):=[]
theorem Q1f.hands (n:Nat):∀ a p,Q1f.FA n a=some p→HandsMIn Tryz.prog 112 (Q1f.i a) (Q1f.b a) (Q1f.y p) (Q1f.w p):=
 pfM_hands (G:=Gk 1) (C:=Q1f.C n) (cut:=Q1f.cut) (t:=Q1f.t) (s:=Q1f.s) (nils:=Q1f.nils) (e:=Q1f.E n) (r:=Q1f.r n) (n:=n) (cfg.kb 1) mixed globs Q1f.qi (fun a=>by kernel_rfl) (Q1f.tells n) Tryz.func112 (by kernel_rfl) (by kernel_rfl) (fun rec a=>by kernel_rfl) (fun rec z=>by cases z <;> kernel_rfl)
def Q1f.via {R:Type} (n:Nat):List AV→(AV→Option R)→Option R:=viaK (Q1f.FA n) Q1f.o Q1f.p
theorem Q1f.tells1 {R:Type} (n:Nat) (xs:List AV):Tells1 (R:=R) Tryz.prog 112 xs (Q1f.via n xs):=tells_viaM (fun _=>rfl) Q1f.oi (Q1f.hands n) xs
end Go.Proofs.YtmpglmcjoelciaaGreatDoor.Ev
namespace Go.Proofs.YtmpglmcjoelciaaGreatDoor.Ev
open Go Go.Proofs Go.Proofs.Ev
set_option linter.unusedVariables false
set_option maxRecDepth 100000
abbrev Q1e.A:=List AV × Bool × ByteArray × ByteArray × Bool × ByteArray × ByteArray × Bool × Int × List AV × List AV × List AV × List AV × List AV × List AV × List AV
abbrev Q1e.T:=Bool × Bool × ByteArray × ByteArray × Bool × ByteArray × ByteArray × Bool × Int × List AV × List AV × List AV × List AV × List AV × List AV × List AV
def Q1e.i:Q1e.A→List AV:=fun (a0,a1,a2,a3,a4,a5,a6,a7,a8,a9,a10,a11,a12,a13,a14,a15)=>[.ptr 0 0,.sl ⟨true,9⟩ 1 a0]
def Q1e.b:Q1e.A→List AV:=fun (a0,a1,a2,a3,a4,a5,a6,a7,a8,a9,a10,a11,a12,a13,a14,a15)=>[.fn 115 [vb a1,vs a2,vs a3,.own 1 0 none,.own 2 0 none,vb a4,vs a5,vs a6,.own 3 0 none,.own 4 0 none,.own 5 0 none,.own 6 0 none,vb a7,.own 7 0 none,vi a8],.fr ⟨true,125⟩ 4 a9,.fr ⟨true,111⟩ 2 a10,.fr ⟨true,9⟩ 1 a11,.fr ⟨true,95⟩ 3 a12,.fr ⟨true,97⟩ 4 a13,.fr ⟨true,111⟩ 2 a14,.fr ⟨false,100⟩ 2 a15]
def Q1e.o (xs:List AV):Option Q1e.A:=match xs with | [.ptr 0 0,.sl ⟨true,9⟩ 1 a0,.tup [.fn 115 [.v (.bool a1),.v (.string a2),.v (.string a3),.own 1 0 none,.own 2 0 none,.v (.bool a4),.v (.string a5),.v (.string a6),.own 3 0 none,.own 4 0 none,.own 5 0 none,.own 6 0 none,.v (.bool a7),.own 7 0 none,.v (.int .i64 a8)],.fr ⟨true,125⟩ 4 a9,.fr ⟨true,111⟩ 2 a10,.fr ⟨true,9⟩ 1 a11,.fr ⟨true,95⟩ 3 a12,.fr ⟨true,97⟩ 4 a13,.fr ⟨true,111⟩ 2 a14,.fr ⟨false,100⟩ 2 a15]]=>some (a0,a1,a2,a3,a4,a5,a6,a7,a8,a9,a10,a11,a12,a13,a14,a15) | _=>none
theorem Q1e.oi:∀ xs a,Q1e.o xs=some a→xs=Q1e.i a++[.tup (Q1e.b a)]:=by
 intro xs a h
 unfold Q1e.o at h
 split at h
 ·cases h; rfl
 ·cases h
def Q1e.y (p:Q1e.T):AV:=vb p.1
def Q1e.w (p:Q1e.T):List AV:=[.fn 115 [vb p.2.1,vs p.2.2.1,vs p.2.2.2.1,.own 1 0 none,.own 2 0 none,vb p.2.2.2.2.1,vs p.2.2.2.2.2.1,vs p.2.2.2.2.2.2.1,.own 3 0 none,.own 4 0 none,.own 5 0 none,.own 6 0 none,vb p.2.2.2.2.2.2.2.1,.own 7 0 none,vi p.2.2.2.2.2.2.2.2.1],.fr ⟨true,125⟩ 4 p.2.2.2.2.2.2.2.2.2.1,.fr ⟨true,111⟩ 2 p.2.2.2.2.2.2.2.2.2.2.1,.fr ⟨true,9⟩ 1 p.2.2.2.2.2.2.2.2.2.2.2.1,.fr ⟨true,95⟩ 3 p.2.2.2.2.2.2.2.2.2.2.2.2.1,.fr ⟨true,97⟩ 4 p.2.2.2.2.2.2.2.2.2.2.2.2.2.1,.fr ⟨true,111⟩ 2 p.2.2.2.2.2.2.2.2.2.2.2.2.2.2.1,.fr ⟨false,100⟩ 2 p.2.2.2.2.2.2.2.2.2.2.2.2.2.2.2]
def Q1e.p (p:Q1e.T):AV:=.tup [Q1e.y p,.tup (Q1e.w p)]
def Q1e.q (x:AV):Option Q1e.T:=match x with | .tup [.v (.bool p0),.tup [.fn 115 [.v (.bool p1),.v (.string p2),.v (.string p3),.own 1 0 none,.own 2 0 none,.v (.bool p4),.v (.string p5),.v (.string p6),.own 3 0 none,.own 4 0 none,.own 5 0 none,.own 6 0 none,.v (.bool p7),.own 7 0 none,.v (.int .i64 p8)],.fr ⟨true,125⟩ 4 p9,.fr ⟨true,111⟩ 2 p10,.fr ⟨true,9⟩ 1 p11,.fr ⟨true,95⟩ 3 p12,.fr ⟨true,97⟩ 4 p13,.fr ⟨true,111⟩ 2 p14,.fr ⟨false,100⟩ 2 p15]]=>some (p0,p1,p2,p3,p4,p5,p6,p7,p8,p9,p10,p11,p12,p13,p14,p15) | _=>none
theorem Q1e.qi:∀ x p,Q1e.q x=some p→x=Q1e.p p:=by
 intro x p h
 unfold Q1e.q at h
 split at h
 ·cases h; rfl
 ·cases h
inductive Q1e.Z where
 | z8 (z1:Bool) (z2 z3:ByteArray) (z4:Bool) (z5 z6:ByteArray) (z7:Bool) (z8:Int) (z9 z10 z11 z12 z13 z14 z15:List AV)
 | z9 (z1:List AV) (z2:Int) (z3:Bool) (z4 z5:ByteArray) (z6:Bool) (z7 z8:ByteArray) (z9:Bool) (z10:Int) (z11 z12 z13 z14 z15 z16 z17:List AV)
def Q1e.C {R:Type} (n:Nat) (f:FuncId) (xs:List AV):(AV→Option R)→Option R:=
 bif Nat.beq f 106 then Q4h.via n xs else bif Nat.beq f 107 then Q1a.via n xs else bif Nat.beq f 108 then Q18.via n xs else bif Nat.beq f 109 then Q1c.via n xs else bif Nat.beq f 110 then Q19.via n xs else bif Nat.beq f 111 then Q1d.via n xs else bif Nat.beq f 112 then Q1f.via n xs else fun _=>none
theorem Q1e.tells {R:Type} (n:Nat):Tells (R:=R) Tryz.prog (Q1e.C n):=fun _ xs=>tells_at (Q4h.tells1 n xs) (tells_at (Q1a.tells1 n xs) (tells_at (Q18.tells1 n xs) (tells_at (Q1c.tells1 n xs) (tells_at (Q19.tells1 n xs) (tells_at (Q1d.tells1 n xs) (tells_at (Q1f.tells1 n xs) (Tells1.none)))))))
def Q1e.cut (r:Nat):Option Keep:=match r with | 8=>some ⟨[],[]⟩ | 9=>some ⟨[0,1,6],[]⟩ | _=>none
def Q1e.t (z:Q1e.Z):List Item:=(todoOf (match z with | .z8 _ _ _ _ _ _ _ _ _ _ _ _ _ _ _=>8 | .z9 _ _ _ _ _ _ _ _ _ _ _ _ _ _ _ _ _=>9) 1000 [.code (Tryz.f64.body.getD .skip)]).getD []
def Q1e.s:Q1e.Z→St
 | .z8 z1 z2 z3 z4 z5 z6 z7 z8 z9 z10 z11 z12 z13 z14 z15=>⟨spr 62 0 [],Mem.ofList [.box 115 [vb z1,vs z2,vs z3,.own 1 0 none,.own 2 0 none,vb z4,vs z5,vs z6,.own 3 0 none,.own 4 0 none,.own 5 0 none,.own 6 0 none,vb z7,.own 7 0 none,vi z8],.row ⟨true,125⟩ 4 z9,.row ⟨true,111⟩ 2 z10,.row ⟨true,9⟩ 1 z11,.row ⟨true,95⟩ 3 z12,.row ⟨true,97⟩ 4 z13,.row ⟨true,111⟩ 2 z14,.row ⟨false,100⟩ 2 z15],8⟩
 | .z9 z1 z2 z3 z4 z5 z6 z7 z8 z9 z10 z11 z12 z13 z14 z15 z16 z17=>⟨spr 62 0 [(0,.ptr 0 0),(1,.sl ⟨true,9⟩ 1 z1),(6,vi z2)],Mem.ofList [.box 115 [vb z3,vs z4,vs z5,.own 1 0 none,.own 2 0 none,vb z6,vs z7,vs z8,.own 3 0 none,.own 4 0 none,.own 5 0 none,.own 6 0 none,vb z9,.own 7 0 none,vi z10],.row ⟨true,125⟩ 4 z11,.row ⟨true,111⟩ 2 z12,.row ⟨true,9⟩ 1 z13,.row ⟨true,95⟩ 3 z14,.row ⟨true,97⟩ 4 z15,.row ⟨true,111⟩ 2 z16,.row ⟨false,100⟩ 2 z17],8⟩
def Q1e.r8 (n:Nat) (c:Q1e.Z→Option Q1e.T) (z1:Bool) (z2 z3:ByteArray) (z4:Bool) (z5 z6:ByteArray) (z7:Bool) (z8:Int) (z9 z10 z11 z12 z13 z14 z15:List AV):Option Q1e.T:=
 some (false,z1,z2,z3,z4,z5,z6,z7,z8,z9,z10,z11,z12,z13,z14,z15)
def Q1e.r9 (n:Nat) (c:Q1e.Z→Option Q1e.T) (z1:List AV) (z2:Int) (z3:Bool) (z4 z5:ByteArray) (z6:Bool) (z7 z8:ByteArray) (z9:Bool) (z10:Int) (z11 z12 z13 z14 z15 z16 z17:List AV):Option Q1e.T:=
 bif decide (z2=((5:Nat):Int)) then ((Q1f.F n z1 z3 z4 z5 z6 z7 z8 z9 (if 1 > z2 then 1 else z2) z11 z12 z13 z14 z15 z16 z17).bind fun p8=>
 some (p8.1,p8.2.1,p8.2.2.1,p8.2.2.2.1,p8.2.2.2.2.1,p8.2.2.2.2.2.1,p8.2.2.2.2.2.2.1,p8.2.2.2.2.2.2.2.1,p8.2.2.2.2.2.2.2.2.1,p8.2.2.2.2.2.2.2.2.2.1,p8.2.2.2.2.2.2.2.2.2.2.1,p8.2.2.2.2.2.2.2.2.2.2.2.1,p8.2.2.2.2.2.2.2.2.2.2.2.2.1,p8.2.2.2.2.2.2.2.2.2.2.2.2.2.1,p8.2.2.2.2.2.2.2.2.2.2.2.2.2.2.1,p8.2.2.2.2.2.2.2.2.2.2.2.2.2.2.2)) else (bif decide (z2=((4:Nat):Int)) then ((Q1d.F n z1 z3 z4 z5 z6 z7 z8 z9 (if 1 > z2 then 1 else z2) z11 z12 z13 z14 z15 z16 z17).bind fun p9=>
 some (p9.1,p9.2.1,p9.2.2.1,p9.2.2.2.1,p9.2.2.2.2.1,p9.2.2.2.2.2.1,p9.2.2.2.2.2.2.1,p9.2.2.2.2.2.2.2.1,p9.2.2.2.2.2.2.2.2.1,p9.2.2.2.2.2.2.2.2.2.1,p9.2.2.2.2.2.2.2.2.2.2.1,p9.2.2.2.2.2.2.2.2.2.2.2.1,p9.2.2.2.2.2.2.2.2.2.2.2.2.1,p9.2.2.2.2.2.2.2.2.2.2.2.2.2.1,p9.2.2.2.2.2.2.2.2.2.2.2.2.2.2.1,p9.2.2.2.2.2.2.2.2.2.2.2.2.2.2.2)) else (bif decide (z2=((3:Nat):Int)) then ((Q19.F n z1 z3 z4 z5 z6 z7 z8 z9 (if 1 > z2 then 1 else z2) z11 z12 z13 z14 z15 z16 z17).bind fun p10=>
 some (p10.1,p10.2.1,p10.2.2.1,p10.2.2.2.1,p10.2.2.2.2.1,p10.2.2.2.2.2.1,p10.2.2.2.2.2.2.1,p10.2.2.2.2.2.2.2.1,p10.2.2.2.2.2.2.2.2.1,p10.2.2.2.2.2.2.2.2.2.1,p10.2.2.2.2.2.2.2.2.2.2.1,p10.2.2.2.2.2.2.2.2.2.2.2.1,p10.2.2.2.2.2.2.2.2.2.2.2.2.1,p10.2.2.2.2.2.2.2.2.2.2.2.2.2.1,p10.2.2.2.2.2.2.2.2.2.2.2.2.2.2.1,p10.2.2.2.2.2.2.2.2.2.2.2.2.2.2.2)) else (bif decide (z2=((2:Nat):Int)) then ((Q1c.F n z1 z3 z4 z5 z6 z7 z8 z9 (if 1 > z2 then 1 else z2) z11 z12 z13 z14 z15 z16 z17).bind fun p11=>
 some (p11.1,p11.2.1,p11.2.2.1,p11.2.2.2.1,p11.2.2.2.2.1,p11.2.2.2.2.2.1,p11.2.2.2.2.2.2.1,p11.2.2.2.2.2.2.2.1,p11.2.2.2.2.2.2.2.2.1,p11.2.2.2.2.2.2.2.2.2.1,p11.2.2.2.2.2.2.2.2.2.2.1,p11.2.2.2.2.2.2.2.2.2.2.2.1,p11.2.2.2.2.2.2.2.2.2.2.2.2.1,p11.2.2.2.2.2.2.2.2.2.2.2.2.2.1,p11.2.2.2.2.2.2.2.2.2.2.2.2.2.2.1,p11.2.2.2.2.2.2.2.2.2.2.2.2.2.2.2)) else (bif decide (z2=((1:Nat):Int)) then ((Q18.F n z1 z3 z4 z5 z6 z7 z8 z9 (if 1 > z2 then 1 else z2) z11 z12 z13 z14 z15 z16 z17).bind fun p12=>
 some (p12.1,p12.2.1,p12.2.2.1,p12.2.2.2.1,p12.2.2.2.2.1,p12.2.2.2.2.2.1,p12.2.2.2.2.2.2.1,p12.2.2.2.2.2.2.2.1,p12.2.2.2.2.2.2.2.2.1,p12.2.2.2.2.2.2.2.2.2.1,p12.2.2.2.2.2.2.2.2.2.2.1,p12.2.2.2.2.2.2.2.2.2.2.2.1,p12.2.2.2.2.2.2.2.2.2.2.2.2.1,p12.2.2.2.2.2.2.2.2.2.2.2.2.2.1,p12.2.2.2.2.2.2.2.2.2.2.2.2.2.2.1,p12.2.2.2.2.2.2.2.2.2.2.2.2.2.2.2)) else (bif decide (z2=((0:Nat):Int)) then ((Q1a.F n z1 z3 z4 z5 z6 z7 z8 z9 (if 1 > z2 then 1 else z2) z11 z12 z13 z14 z15 z16 z17).bind fun p13=>
 some (p13.1,p13.2.1,p13.2.2.1,p13.2.2.2.1,p13.2.2.2.2.1,p13.2.2.2.2.2.1,p13.2.2.2.2.2.2.1,p13.2.2.2.2.2.2.2.1,p13.2.2.2.2.2.2.2.2.1,p13.2.2.2.2.2.2.2.2.2.1,p13.2.2.2.2.2.2.2.2.2.2.1,p13.2.2.2.2.2.2.2.2.2.2.2.1,p13.2.2.2.2.2.2.2.2.2.2.2.2.1,p13.2.2.2.2.2.2.2.2.2.2.2.2.2.1,p13.2.2.2.2.2.2.2.2.2.2.2.2.2.2.1,p13.2.2.2.2.2.2.2.2.2.2.2.2.2.2.2)) else (none))))))
def Q1e.r (n:Nat) (c:Q1e.Z→Option Q1e.T):Q1e.Z→Option Q1e.T
 | .z8 z1 z2 z3 z4 z5 z6 z7 z8 z9 z10 z11 z12 z13 z14 z15=>Q1e.r8 n c z1 z2 z3 z4 z5 z6 z7 z8 z9 z10 z11 z12 z13 z14 z15
 | .z9 z1 z2 z3 z4 z5 z6 z7 z8 z9 z10 z11 z12 z13 z14 z15 z16 z17=>Q1e.r9 n c z1 z2 z3 z4 z5 z6 z7 z8 z9 z10 z11 z12 z13 z14 z15 z16 z17
def Q1e.e (n:Nat) (c:Q1e.Z→Option Q1e.T) (a0:List AV) (a1:Bool) (a2 a3:ByteArray) (a4:Bool) (a5 a6:ByteArray) (a7:Bool) (a8:Int) (a9 a10 a11 a12 a13 a14 a15:List AV):Option Q1e.T:=
 let y1:Bool:=((a0.length:Nat):Int)==0
 bif y1 then (some (false,a1,a2,a3,a4,a5,a6,a7,a8,a9,a10,a11,a12,a13,a14,a15)) else (bif decide ((0:Int) < (a0.length:Nat)) then (withCons ((a0.getD 0 .undef).cells) fun h2 r3=>
 withStr h2 fun s4=>
 let y5:Bool:=s4.toList==(⟨#[79]⟩ : ByteArray).toList
 bif y5 then ((Q4h.F n (⟨#[82,66,74,70,75,83]⟩ : ByteArray) (⟨#[83]⟩ : ByteArray)).bind fun p6=>
 bif decide (p6 < a8) then (c (.z8 a1 a2 a3 a4 a5 a6 a7 a8 a9 a10 a11 a12 a13 a14 a15)) else (bif a8==0 then (bif decide (p6 > 0) then (c (.z8 a1 a2 a3 a4 a5 a6 a7 a8 a9 a10 a11 a12 a13 a14 a15)) else (c (.z9 a0 p6 a1 a2 a3 a4 a5 a6 a7 a8 a9 a10 a11 a12 a13 a14 a15))) else (c (.z9 a0 p6 a1 a2 a3 a4 a5 a6 a7 a8 a9 a10 a11 a12 a13 a14 a15)))) else ((Q4h.F n (⟨#[82,66,74,70,75,83]⟩ : ByteArray) s4).bind fun p7=>
 bif ((s4.size:Nat):Int) != 1 then (c (.z8 a1 a2 a3 a4 a5 a6 a7 a8 a9 a10 a11 a12 a13 a14 a15)) else (bif decide (p7 < a8) then (c (.z8 a1 a2 a3 a4 a5 a6 a7 a8 a9 a10 a11 a12 a13 a14 a15)) else (bif a8==0 then (bif decide (p7 > 0) then (c (.z8 a1 a2 a3 a4 a5 a6 a7 a8 a9 a10 a11 a12 a13 a14 a15)) else (c (.z9 a0 p7 a1 a2 a3 a4 a5 a6 a7 a8 a9 a10 a11 a12 a13 a14 a15))) else (c (.z9 a0 p7 a1 a2 a3 a4 a5 a6 a7 a8 a9 a10 a11 a12 a13 a14 a15)))))) else none)
def Q1e.E (n:Nat) (c:Q1e.Z→Option Q1e.T):Q1e.A→Option Q1e.T:=fun (a0,a1,a2,a3,a4,a5,a6,a7,a8,a9,a10,a11,a12,a13,a14,a15)=>Q1e.e n c a0 a1 a2 a3 a4 a5 a6 a7 a8 a9 a10 a11 a12 a13 a14 a15
def Q1e.l (n:Nat):Nat→Q1e.Z→Option Q1e.T:=loopL (Q1e.r n)
def Q1e.F (n:Nat) (a0:List AV) (a1:Bool) (a2 a3:ByteArray) (a4:Bool) (a5 a6:ByteArray) (a7:Bool) (a8:Int) (a9 a10 a11 a12 a13 a14 a15:List AV):Option Q1e.T:=Q1e.e n (Q1e.l n n) a0 a1 a2 a3 a4 a5 a6 a7 a8 a9 a10 a11 a12 a13 a14 a15
def Q1e.FA (n:Nat):Q1e.A→Option Q1e.T:=Q1e.E n (Q1e.l n n)
def Q1e.nils:List (Nat × Nat × Fl × Nat):=[]
theorem Q1e.hands (n:Nat):∀ a p,Q1e.FA n a=some p→HandsMIn Tryz.prog 64 (Q1e.i a) (Q1e.b a) (Q1e.y p) (Q1e.w p):=
 pfM_hands (G:=Gk 1) (C:=Q1e.C n) (cut:=Q1e.cut) (t:=Q1e.t) (s:=Q1e.s) (nils:=Q1e.nils) (e:=Q1e.E n) (r:=Q1e.r n) (n:=n) (cfg.kb 1) mixed globs Q1e.qi (fun a=>by kernel_rfl) (Q1e.tells n) Tryz.func64 (by kernel_rfl) (by kernel_rfl) (fun rec a=>by kernel_rfl) (fun rec z=>by cases z <;> kernel_rfl)
def Q1e.via {R:Type} (n:Nat):List AV→(AV→Option R)→Option R:=viaK (Q1e.FA n) Q1e.o Q1e.p
theorem Q1e.tells1 {R:Type} (n:Nat) (xs:List AV):Tells1 (R:=R) Tryz.prog 64 xs (Q1e.via n xs):=tells_viaM (fun _=>rfl) Q1e.oi (Q1e.hands n) xs
end Go.Proofs.YtmpglmcjoelciaaGreatDoor.Ev
namespace Go.Proofs.YtmpglmcjoelciaaGreatDoor.Ev
open Go Go.Proofs Go.Proofs.Ev
set_option linter.unusedVariables false
set_option maxRecDepth 100000
abbrev Q1b.A:=List AV × Bool × ByteArray × ByteArray × Bool × ByteArray × ByteArray × Bool × Int × List AV × List AV × List AV × List AV × List AV × List AV × List AV
abbrev Q1b.T:=Bool × Bool × ByteArray × ByteArray × Bool × ByteArray × ByteArray × Bool × Int × List AV × List AV × List AV × List AV × List AV × List AV × List AV
def Q1b.i:Q1b.A→List AV:=fun (a0,a1,a2,a3,a4,a5,a6,a7,a8,a9,a10,a11,a12,a13,a14,a15)=>[.ptr 0 0,.sl ⟨true,9⟩ 1 a0]
def Q1b.b:Q1b.A→List AV:=fun (a0,a1,a2,a3,a4,a5,a6,a7,a8,a9,a10,a11,a12,a13,a14,a15)=>[.fn 115 [vb a1,vs a2,vs a3,.own 1 0 none,.own 2 0 none,vb a4,vs a5,vs a6,.own 3 0 none,.own 4 0 none,.own 5 0 none,.own 6 0 none,vb a7,.own 7 0 none,vi a8],.fr ⟨true,125⟩ 4 a9,.fr ⟨true,111⟩ 2 a10,.fr ⟨true,9⟩ 1 a11,.fr ⟨true,95⟩ 3 a12,.fr ⟨true,97⟩ 4 a13,.fr ⟨true,111⟩ 2 a14,.fr ⟨false,100⟩ 2 a15]
def Q1b.o (xs:List AV):Option Q1b.A:=match xs with | [.ptr 0 0,.sl ⟨true,9⟩ 1 a0,.tup [.fn 115 [.v (.bool a1),.v (.string a2),.v (.string a3),.own 1 0 none,.own 2 0 none,.v (.bool a4),.v (.string a5),.v (.string a6),.own 3 0 none,.own 4 0 none,.own 5 0 none,.own 6 0 none,.v (.bool a7),.own 7 0 none,.v (.int .i64 a8)],.fr ⟨true,125⟩ 4 a9,.fr ⟨true,111⟩ 2 a10,.fr ⟨true,9⟩ 1 a11,.fr ⟨true,95⟩ 3 a12,.fr ⟨true,97⟩ 4 a13,.fr ⟨true,111⟩ 2 a14,.fr ⟨false,100⟩ 2 a15]]=>some (a0,a1,a2,a3,a4,a5,a6,a7,a8,a9,a10,a11,a12,a13,a14,a15) | _=>none
theorem Q1b.oi:∀ xs a,Q1b.o xs=some a→xs=Q1b.i a++[.tup (Q1b.b a)]:=by
 intro xs a h
 unfold Q1b.o at h
 split at h
 ·cases h; rfl
 ·cases h
def Q1b.y (p:Q1b.T):AV:=vb p.1
def Q1b.w (p:Q1b.T):List AV:=[.fn 115 [vb p.2.1,vs p.2.2.1,vs p.2.2.2.1,.own 1 0 none,.own 2 0 none,vb p.2.2.2.2.1,vs p.2.2.2.2.2.1,vs p.2.2.2.2.2.2.1,.own 3 0 none,.own 4 0 none,.own 5 0 none,.own 6 0 none,vb p.2.2.2.2.2.2.2.1,.own 7 0 none,vi p.2.2.2.2.2.2.2.2.1],.fr ⟨true,125⟩ 4 p.2.2.2.2.2.2.2.2.2.1,.fr ⟨true,111⟩ 2 p.2.2.2.2.2.2.2.2.2.2.1,.fr ⟨true,9⟩ 1 p.2.2.2.2.2.2.2.2.2.2.2.1,.fr ⟨true,95⟩ 3 p.2.2.2.2.2.2.2.2.2.2.2.2.1,.fr ⟨true,97⟩ 4 p.2.2.2.2.2.2.2.2.2.2.2.2.2.1,.fr ⟨true,111⟩ 2 p.2.2.2.2.2.2.2.2.2.2.2.2.2.2.1,.fr ⟨false,100⟩ 2 p.2.2.2.2.2.2.2.2.2.2.2.2.2.2.2]
def Q1b.p (p:Q1b.T):AV:=.tup [Q1b.y p,.tup (Q1b.w p)]
def Q1b.q (x:AV):Option Q1b.T:=match x with | .tup [.v (.bool p0),.tup [.fn 115 [.v (.bool p1),.v (.string p2),.v (.string p3),.own 1 0 none,.own 2 0 none,.v (.bool p4),.v (.string p5),.v (.string p6),.own 3 0 none,.own 4 0 none,.own 5 0 none,.own 6 0 none,.v (.bool p7),.own 7 0 none,.v (.int .i64 p8)],.fr ⟨true,125⟩ 4 p9,.fr ⟨true,111⟩ 2 p10,.fr ⟨true,9⟩ 1 p11,.fr ⟨true,95⟩ 3 p12,.fr ⟨true,97⟩ 4 p13,.fr ⟨true,111⟩ 2 p14,.fr ⟨false,100⟩ 2 p15]]=>some (p0,p1,p2,p3,p4,p5,p6,p7,p8,p9,p10,p11,p12,p13,p14,p15) | _=>none
theorem Q1b.qi:∀ x p,Q1b.q x=some p→x=Q1b.p p:=by
 intro x p h
 unfold Q1b.q at h
 split at h
 ·cases h; rfl
 ·cases h
inductive Q1b.Z where
 | z3 (z1:Bool) (z2 z3:ByteArray) (z4:Bool) (z5 z6:ByteArray) (z7:Bool) (z8:Int) (z9 z10 z11 z12 z13 z14 z15:List AV)
 | z4 (z1:List AV) (z2 z3:Bool) (z4 z5:ByteArray) (z6:Bool) (z7 z8:ByteArray) (z9:Bool) (z10:Int) (z11 z12 z13 z14 z15 z16 z17:List AV)
def Q1b.C {R:Type} (n:Nat) (f:FuncId) (xs:List AV):(AV→Option R)→Option R:=
 bif Nat.beq f 113 then Q0p.via n xs else fun _=>none
theorem Q1b.tells {R:Type} (n:Nat):Tells (R:=R) Tryz.prog (Q1b.C n):=fun _ xs=>tells_at (Q0p.tells1 n xs) (Tells1.none)
def Q1b.cut (r:Nat):Option Keep:=match r with | 3=>some ⟨[],[]⟩ | 4=>some ⟨[0,1,5],[]⟩ | _=>none
def Q1b.t (z:Q1b.Z):List Item:=(todoOf (match z with | .z3 _ _ _ _ _ _ _ _ _ _ _ _ _ _ _=>3 | .z4 _ _ _ _ _ _ _ _ _ _ _ _ _ _ _ _ _=>4) 1000 [.code (Tryz.f65.body.getD .skip)]).getD []
def Q1b.s:Q1b.Z→St
 | .z3 z1 z2 z3 z4 z5 z6 z7 z8 z9 z10 z11 z12 z13 z14 z15=>⟨spr 83 0 [],Mem.ofList [.box 115 [vb z1,vs z2,vs z3,.own 1 0 none,.own 2 0 none,vb z4,vs z5,vs z6,.own 3 0 none,.own 4 0 none,.own 5 0 none,.own 6 0 none,vb z7,.own 7 0 none,vi z8],.row ⟨true,125⟩ 4 z9,.row ⟨true,111⟩ 2 z10,.row ⟨true,9⟩ 1 z11,.row ⟨true,95⟩ 3 z12,.row ⟨true,97⟩ 4 z13,.row ⟨true,111⟩ 2 z14,.row ⟨false,100⟩ 2 z15],8⟩
 | .z4 z1 z2 z3 z4 z5 z6 z7 z8 z9 z10 z11 z12 z13 z14 z15 z16 z17=>⟨spr 83 0 [(0,.ptr 0 0),(1,.sl ⟨true,9⟩ 1 z1),(5,vb z2)],Mem.ofList [.box 115 [vb z3,vs z4,vs z5,.own 1 0 none,.own 2 0 none,vb z6,vs z7,vs z8,.own 3 0 none,.own 4 0 none,.own 5 0 none,.own 6 0 none,vb z9,.own 7 0 none,vi z10],.row ⟨true,125⟩ 4 z11,.row ⟨true,111⟩ 2 z12,.row ⟨true,9⟩ 1 z13,.row ⟨true,95⟩ 3 z14,.row ⟨true,97⟩ 4 z15,.row ⟨true,111⟩ 2 z16,.row ⟨false,100⟩ 2 z17],8⟩
def Q1b.r3 (n:Nat) (c:Q1b.Z→Option Q1b.T) (z1:Bool) (z2 z3:ByteArray) (z4:Bool) (z5 z6:ByteArray) (z7:Bool) (z8:Int) (z9 z10 z11 z12 z13 z14 z15:List AV):Option Q1b.T:=
 some (false,z1,z2,z3,z4,z5,z6,z7,z8,z9,z10,z11,z12,z13,z14,z15)
def Q1b.r4 (n:Nat) (c:Q1b.Z→Option Q1b.T) (z1:List AV) (z2 z3:Bool) (z4 z5:ByteArray) (z6:Bool) (z7 z8:ByteArray) (z9:Bool) (z10:Int) (z11 z12 z13 z14 z15 z16 z17:List AV):Option Q1b.T:=
 bif decide ((0:Int) < (z1.length:Nat)) then (withCons ((z1.getD 0 .undef).cells) fun h56 r57=>
 withStr h56 fun s58=>
 let y59:Bool:=s58.toList==(⟨#[76,70]⟩ : ByteArray).toList
 bif y59 then (bif decide ((1:Int) < (z1.length:Nat)) then (withCons ((z1.getD 1 .undef).cells) fun h60 r61=>
 withStr h60 fun s62=>
 some (true,y59,z4,z5,z6,s62,z8,z2,z10,z11,z12,z13,z14,z15,z16,z17)) else none) else (bif decide ((1:Int) < (z1.length:Nat)) then (withCons ((z1.getD 1 .undef).cells) fun h63 r64=>
 withStr h63 fun s65=>
 some (true,y59,s65,z5,z2,z7,z8,z9,z10,z11,z12,z13,z14,z15,z16,z17)) else none)) else none
def Q1b.r (n:Nat) (c:Q1b.Z→Option Q1b.T):Q1b.Z→Option Q1b.T
 | .z3 z1 z2 z3 z4 z5 z6 z7 z8 z9 z10 z11 z12 z13 z14 z15=>Q1b.r3 n c z1 z2 z3 z4 z5 z6 z7 z8 z9 z10 z11 z12 z13 z14 z15
 | .z4 z1 z2 z3 z4 z5 z6 z7 z8 z9 z10 z11 z12 z13 z14 z15 z16 z17=>Q1b.r4 n c z1 z2 z3 z4 z5 z6 z7 z8 z9 z10 z11 z12 z13 z14 z15 z16 z17
def Q1b.e (n:Nat) (c:Q1b.Z→Option Q1b.T) (a0:List AV) (a1:Bool) (a2 a3:ByteArray) (a4:Bool) (a5 a6:ByteArray) (a7:Bool) (a8:Int) (a9 a10 a11 a12 a13 a14 a15:List AV):Option Q1b.T:=
 let y1:Bool:=((a0.length:Nat):Int)==3
 bif y1 then (bif decide ((2:Int) < (a0.length:Nat)) then (withCons ((a0.getD 2 .undef).cells) fun h2 r3=>
 withStr h2 fun s4=>
 let y5:Bool:=s4.toList==(⟨#[85,78,73,81,85,69]⟩ : ByteArray).toList
 let y6:Bool:=((a0.length:Nat):Int) != 2
 bif y6 then (bif !y5 then (c (.z3 a1 a2 a3 a4 a5 a6 a7 a8 a9 a10 a11 a12 a13 a14 a15)) else (bif decide ((0:Int) < (a0.length:Nat)) then (withCons ((a0.getD 0 .undef).cells) fun h7 r8=>
 withStr h7 fun s9=>
 let y10:Bool:=!(s9.toList==(⟨#[80,70]⟩ : ByteArray).toList)
 bif y10 then (bif decide ((0:Int) < (a0.length:Nat)) then (withCons ((a0.getD 0 .undef).cells) fun h11 r12=>
 withStr h11 fun s13=>
 let y14:Bool:=!(s13.toList==(⟨#[76,70]⟩ : ByteArray).toList)
 bif y14 then (c (.z3 a1 a2 a3 a4 a5 a6 a7 a8 a9 a10 a11 a12 a13 a14 a15)) else (bif decide ((1:Int) < (a0.length:Nat)) then (withCons ((a0.getD 1 .undef).cells) fun h15 r16=>
 withStr h15 fun s17=>
 (Q0p.F n [vs s17]).bind fun p18=>
 bif !p18 then (c (.z3 a1 a2 a3 a4 a5 a6 a7 a8 a9 a10 a11 a12 a13 a14 a15)) else (c (.z4 a0 y5 a1 a2 a3 a4 a5 a6 a7 a8 a9 a10 a11 a12 a13 a14 a15))) else none)) else none) else (bif decide ((1:Int) < (a0.length:Nat)) then (withCons ((a0.getD 1 .undef).cells) fun h19 r20=>
 withStr h19 fun s21=>
 (Q0p.F n [vs s21]).bind fun p22=>
 bif !p22 then (c (.z3 a1 a2 a3 a4 a5 a6 a7 a8 a9 a10 a11 a12 a13 a14 a15)) else (c (.z4 a0 y5 a1 a2 a3 a4 a5 a6 a7 a8 a9 a10 a11 a12 a13 a14 a15))) else none)) else none)) else (bif decide ((0:Int) < (a0.length:Nat)) then (withCons ((a0.getD 0 .undef).cells) fun h23 r24=>
 withStr h23 fun s25=>
 let y26:Bool:=!(s25.toList==(⟨#[80,70]⟩ : ByteArray).toList)
 bif y26 then (bif decide ((0:Int) < (a0.length:Nat)) then (withCons ((a0.getD 0 .undef).cells) fun h27 r28=>
 withStr h27 fun s29=>
 let y30:Bool:=!(s29.toList==(⟨#[76,70]⟩ : ByteArray).toList)
 bif y30 then (c (.z3 a1 a2 a3 a4 a5 a6 a7 a8 a9 a10 a11 a12 a13 a14 a15)) else (bif decide ((1:Int) < (a0.length:Nat)) then (withCons ((a0.getD 1 .undef).cells) fun h31 r32=>
 withStr h31 fun s33=>
 (Q0p.F n [vs s33]).bind fun p34=>
 bif !p34 then (c (.z3 a1 a2 a3 a4 a5 a6 a7 a8 a9 a10 a11 a12 a13 a14 a15)) else (c (.z4 a0 y5 a1 a2 a3 a4 a5 a6 a7 a8 a9 a10 a11 a12 a13 a14 a15))) else none)) else none) else (bif decide ((1:Int) < (a0.length:Nat)) then (withCons ((a0.getD 1 .undef).cells) fun h35 r36=>
 withStr h35 fun s37=>
 (Q0p.F n [vs s37]).bind fun p38=>
 bif !p38 then (c (.z3 a1 a2 a3 a4 a5 a6 a7 a8 a9 a10 a11 a12 a13 a14 a15)) else (c (.z4 a0 y5 a1 a2 a3 a4 a5 a6 a7 a8 a9 a10 a11 a12 a13 a14 a15))) else none)) else none)) else none) else (let y39:Bool:=((a0.length:Nat):Int) != 2
 bif y39 then (c (.z3 a1 a2 a3 a4 a5 a6 a7 a8 a9 a10 a11 a12 a13 a14 a15)) else (bif decide ((0:Int) < (a0.length:Nat)) then (withCons ((a0.getD 0 .undef).cells) fun h40 r41=>
 withStr h40 fun s42=>
 let y43:Bool:=!(s42.toList==(⟨#[80,70]⟩ : ByteArray).toList)
 bif y43 then (bif decide ((0:Int) < (a0.length:Nat)) then (withCons ((a0.getD 0 .undef).cells) fun h44 r45=>
 withStr h44 fun s46=>
 let y47:Bool:=!(s46.toList==(⟨#[76,70]⟩ : ByteArray).toList)
 bif y47 then (c (.z3 a1 a2 a3 a4 a5 a6 a7 a8 a9 a10 a11 a12 a13 a14 a15)) else (bif decide ((1:Int) < (a0.length:Nat)) then (withCons ((a0.getD 1 .undef).cells) fun h48 r49=>
 withStr h48 fun s50=>
 (Q0p.F n [vs s50]).bind fun p51=>
 bif !p51 then (c (.z3 a1 a2 a3 a4 a5 a6 a7 a8 a9 a10 a11 a12 a13 a14 a15)) else (c (.z4 a0 false a1 a2 a3 a4 a5 a6 a7 a8 a9 a10 a11 a12 a13 a14 a15))) else none)) else none) else (bif decide ((1:Int) < (a0.length:Nat)) then (withCons ((a0.getD 1 .undef).cells) fun h52 r53=>
 withStr h52 fun s54=>
 (Q0p.F n [vs s54]).bind fun p55=>
 bif !p55 then (c (.z3 a1 a2 a3 a4 a5 a6 a7 a8 a9 a10 a11 a12 a13 a14 a15)) else (c (.z4 a0 false a1 a2 a3 a4 a5 a6 a7 a8 a9 a10 a11 a12 a13 a14 a15))) else none)) else none))
def Q1b.E (n:Nat) (c:Q1b.Z→Option Q1b.T):Q1b.A→Option Q1b.T:=fun (a0,a1,a2,a3,a4,a5,a6,a7,a8,a9,a10,a11,a12,a13,a14,a15)=>Q1b.e n c a0 a1 a2 a3 a4 a5 a6 a7 a8 a9 a10 a11 a12 a13 a14 a15
def Q1b.l (n:Nat):Nat→Q1b.Z→Option Q1b.T:=loopL (Q1b.r n)
def Q1b.F (n:Nat) (a0:List AV) (a1:Bool) (a2 a3:ByteArray) (a4:Bool) (a5 a6:ByteArray) (a7:Bool) (a8:Int) (a9 a10 a11 a12 a13 a14 a15:List AV):Option Q1b.T:=Q1b.e n (Q1b.l n n) a0 a1 a2 a3 a4 a5 a6 a7 a8 a9 a10 a11 a12 a13 a14 a15
def Q1b.FA (n:Nat):Q1b.A→Option Q1b.T:=Q1b.E n (Q1b.l n n)
def Q1b.nils:List (Nat × Nat × Fl × Nat):=[]
theorem Q1b.hands (n:Nat):∀ a p,Q1b.FA n a=some p→HandsMIn Tryz.prog 65 (Q1b.i a) (Q1b.b a) (Q1b.y p) (Q1b.w p):=
 pfM_hands (G:=Gk 1) (C:=Q1b.C n) (cut:=Q1b.cut) (t:=Q1b.t) (s:=Q1b.s) (nils:=Q1b.nils) (e:=Q1b.E n) (r:=Q1b.r n) (n:=n) (cfg.kb 1) mixed globs Q1b.qi (fun a=>by kernel_rfl) (Q1b.tells n) Tryz.func65 (by kernel_rfl) (by kernel_rfl) (fun rec a=>by kernel_rfl) (fun rec z=>by cases z <;> kernel_rfl)
def Q1b.via {R:Type} (n:Nat):List AV→(AV→Option R)→Option R:=viaK (Q1b.FA n) Q1b.o Q1b.p
theorem Q1b.tells1 {R:Type} (n:Nat) (xs:List AV):Tells1 (R:=R) Tryz.prog 65 xs (Q1b.via n xs):=tells_viaM (fun _=>rfl) Q1b.oi (Q1b.hands n) xs
end Go.Proofs.YtmpglmcjoelciaaGreatDoor.Ev
namespace Go.Proofs.YtmpglmcjoelciaaGreatDoor.Ev
open Go Go.Proofs Go.Proofs.Ev
set_option linter.unusedVariables false
set_option maxRecDepth 100000
abbrev Q0x.A:=ByteArray × ByteArray × List AV × List AV × List AV × List AV × Bool × List AV
abbrev Q0x.T:=Int
def Q0x.i:Q0x.A→List AV:=fun (a0,a1,a2,a3,a4,a5,a6,a7)=>[AV.agg [vs a0,vs a1,.sl ⟨true,9⟩ 1 a2,.sl ⟨true,95⟩ 3 a3,.sl ⟨true,97⟩ 4 a4,.sl ⟨true,111⟩ 2 a5,vb a6,.sl ⟨false,100⟩ 2 a7]]
def Q0x.o (xs:List AV):Option Q0x.A:=match xs with | [.agg [.v (.string a0),.v (.string a1),.sl ⟨true,9⟩ 1 a2,.sl ⟨true,95⟩ 3 a3,.sl ⟨true,97⟩ 4 a4,.sl ⟨true,111⟩ 2 a5,.v (.bool a6),.sl ⟨false,100⟩ 2 a7]]=>some (a0,a1,a2,a3,a4,a5,a6,a7) | _=>none
theorem Q0x.oi:∀ xs a,Q0x.o xs=some a→xs=Q0x.i a:=by
 intro xs a h
 unfold Q0x.o at h
 split at h
 ·cases h; rfl
 ·cases h
def Q0x.p (p:Q0x.T):AV:=vi p
def Q0x.q (x:AV):Option Q0x.T:=match x with | .v (.int .i64 p0)=>some p0 | _=>none
theorem Q0x.qi:∀ x p,Q0x.q x=some p→x=Q0x.p p:=by
 intro x p h
 unfold Q0x.q at h
 split at h
 ·cases h; rfl
 ·cases h
def Q0x.C {R:Type} (n:Nat) (f:FuncId) (xs:List AV):(AV→Option R)→Option R:=
 bif Nat.beq f 17 then Q04.via n xs else fun _=>none
theorem Q0x.tells {R:Type} (n:Nat):Tells (R:=R) Tryz.prog (Q0x.C n):=fun _ xs=>tells_at (Q04.tells1 n xs) (Tells1.none)
def Q0x.cut (r:Nat):Option Keep:=match r with  | _=>none
def Q0x.e (n:Nat) (a0 a1:ByteArray) (a2 a3 a4 a5:List AV) (a6:Bool) (a7:List AV):Option Int:=
 (Q04.F n a0 a1 a2 a3 a4 a5 a6 a7).bind fun p1=>
 some p1.2
def Q0x.E (n:Nat):Q0x.A→Option Q0x.T:=fun (a0,a1,a2,a3,a4,a5,a6,a7)=>Q0x.e n a0 a1 a2 a3 a4 a5 a6 a7
def Q0x.F (n:Nat) (a0 a1:ByteArray) (a2 a3 a4 a5:List AV) (a6:Bool) (a7:List AV):Option Int:=Q0x.e n a0 a1 a2 a3 a4 a5 a6 a7
def Q0x.FA (n:Nat):Q0x.A→Option Q0x.T:=Q0x.E n
theorem Q0x.hands (n:Nat):∀ a p,Q0x.FA n a=some p→HandsIn Tryz.prog 114 (Q0x.i a) (Q0x.p p):=
 pf_hands (C:=Q0x.C n) (cut:=Q0x.cut) (Z:=Empty) (t:=nofun) (s:=nofun) (e:=fun _=>Q0x.E n) (r:=fun _ z=>nomatch z) (n:=n) cfg mixed globs rfl Q0x.qi (Q0x.tells n) Tryz.func114 (by kernel_rfl) (by kernel_rfl) (fun rec a=>by kernel_rfl) (fun rec z=>nomatch z)
def Q0x.via {R:Type} (n:Nat):List AV→(AV→Option R)→Option R:=viaK (Q0x.FA n) Q0x.o Q0x.p
theorem Q0x.tells1 {R:Type} (n:Nat) (xs:List AV):Tells1 (R:=R) Tryz.prog 114 xs (Q0x.via n xs):=tells_via Q0x.oi (fun a=>by kernel_rfl) (Q0x.hands n) xs
end Go.Proofs.YtmpglmcjoelciaaGreatDoor.Ev
namespace Go.Proofs.YtmpglmcjoelciaaGreatDoor.Ev
open Go Go.Proofs Go.Proofs.Ev
set_option linter.unusedVariables false
set_option maxRecDepth 100000
abbrev Q44.A:=Int × Int × Int
abbrev Q44.T:=Int
def Q44.i:Q44.A→List AV:=fun (a0,a1,a2)=>[AV.agg [vi a0,vi a1,vi a2]]
def Q44.o (xs:List AV):Option Q44.A:=match xs with | [.agg [.v (.int .i64 a0),.v (.int .i64 a1),.v (.int .i64 a2)]]=>some (a0,a1,a2) | _=>none
theorem Q44.oi:∀ xs a,Q44.o xs=some a→xs=Q44.i a:=by
 intro xs a h
 unfold Q44.o at h
 split at h
 ·cases h; rfl
 ·cases h
def Q44.p (p:Q44.T):AV:=vi p
def Q44.q (x:AV):Option Q44.T:=match x with | .v (.int .i64 p0)=>some p0 | _=>none
theorem Q44.qi:∀ x p,Q44.q x=some p→x=Q44.p p:=by
 intro x p h
 unfold Q44.q at h
 split at h
 ·cases h; rfl
 ·cases h
def Q44.C {R:Type} (n:Nat) (f:FuncId) (xs:List AV):(AV→Option R)→Option R:=
 fun _=>none
theorem Q44.tells {R:Type} (n:Nat):Tells (R:=R) Tryz.prog (Q44.C n):=fun _ xs=>Tells1.none
def Q44.cut (r:Nat):Option Keep:=match r with  | _=>none
def Q44.e (n:Nat) (a0 a1 a2:Int):Option Int:=
 bif a0==1 then (let y1:Int:=IntKind.i64.wrap (Int.tdiv a1 2)
 some (IntKind.i64.wrap (y1+1))) else (bif a0==3 then (let y2:Int:=IntKind.i64.wrap (Int.tdiv a1 9)
 let y3:Int:=IntKind.i64.wrap ((2:Int)+(IntKind.i64.wrap (y2*2)))
 some y3) else (bif a0==4 then (some 16) else (some a1)))
def Q44.E (n:Nat):Q44.A→Option Q44.T:=fun (a0,a1,a2)=>Q44.e n a0 a1 a2
def Q44.F (n:Nat) (a0 a1 a2:Int):Option Int:=Q44.e n a0 a1 a2
def Q44.FA (n:Nat):Q44.A→Option Q44.T:=Q44.E n
theorem Q44.hands (n:Nat):∀ a p,Q44.FA n a=some p→HandsIn Tryz.prog 180 (Q44.i a) (Q44.p p):=
 pf_hands (C:=Q44.C n) (cut:=Q44.cut) (Z:=Empty) (t:=nofun) (s:=nofun) (e:=fun _=>Q44.E n) (r:=fun _ z=>nomatch z) (n:=n) cfg mixed globs rfl Q44.qi (Q44.tells n) Tryz.func180 (by kernel_rfl) (by kernel_rfl) (fun rec a=>by kernel_rfl) (fun rec z=>nomatch z)
def Q44.via {R:Type} (n:Nat):List AV→(AV→Option R)→Option R:=viaK (Q44.FA n) Q44.o Q44.p
theorem Q44.tells1 {R:Type} (n:Nat) (xs:List AV):Tells1 (R:=R) Tryz.prog 180 xs (Q44.via n xs):=tells_via Q44.oi (fun a=>by kernel_rfl) (Q44.hands n) xs
end Go.Proofs.YtmpglmcjoelciaaGreatDoor.Ev
namespace Go.Proofs.YtmpglmcjoelciaaGreatDoor.Ev
open Go Go.Proofs Go.Proofs.Ev
set_option linter.unusedVariables false
set_option maxRecDepth 100000
abbrev Q3w.A:=Int × Int × Int
abbrev Q3w.T:=Int × Int
def Q3w.i:Q3w.A→List AV:=fun (a0,a1,a2)=>[AV.agg [vi a0,vi a1,vi a2]]
def Q3w.o (xs:List AV):Option Q3w.A:=match xs with | [.agg [.v (.int .i64 a0),.v (.int .i64 a1),.v (.int .i64 a2)]]=>some (a0,a1,a2) | _=>none
theorem Q3w.oi:∀ xs a,Q3w.o xs=some a→xs=Q3w.i a:=by
 intro xs a h
 unfold Q3w.o at h
 split at h
 ·cases h; rfl
 ·cases h
def Q3w.p (p:Q3w.T):AV:=.tup [vi p.1,vi p.2]
def Q3w.q (x:AV):Option Q3w.T:=match x with | .tup [.v (.int .i64 p0),.v (.int .i64 p1)]=>some (p0,p1) | _=>none
theorem Q3w.qi:∀ x p,Q3w.q x=some p→x=Q3w.p p:=by
 intro x p h
 unfold Q3w.q at h
 split at h
 ·cases h; rfl
 ·cases h
def Q3w.C {R:Type} (n:Nat) (f:FuncId) (xs:List AV):(AV→Option R)→Option R:=
 bif Nat.beq f 84 then Q3t.via n xs else bif Nat.beq f 180 then Q44.via n xs else fun _=>none
theorem Q3w.tells {R:Type} (n:Nat):Tells (R:=R) Tryz.prog (Q3w.C n):=fun _ xs=>tells_at (Q3t.tells1 n xs) (tells_at (Q44.tells1 n xs) (Tells1.none))
def Q3w.cut (r:Nat):Option Keep:=match r with  | _=>none
def Q3w.e (n:Nat) (a0 a1 a2:Int):Option (Int × Int):=
 (Q3t.F n a0 a1 a2).bind fun p1=>
 bif p1 != 0 then (some (0,p1)) else ((Q44.F n a0 a1 a2).bind fun p2=>
 some (p2,0))
def Q3w.E (n:Nat):Q3w.A→Option Q3w.T:=fun (a0,a1,a2)=>Q3w.e n a0 a1 a2
def Q3w.F (n:Nat) (a0 a1 a2:Int):Option (Int × Int):=Q3w.e n a0 a1 a2
def Q3w.FA (n:Nat):Q3w.A→Option Q3w.T:=Q3w.E n
theorem Q3w.hands (n:Nat):∀ a p,Q3w.FA n a=some p→HandsIn Tryz.prog 159 (Q3w.i a) (Q3w.p p):=
 pf_hands (C:=Q3w.C n) (cut:=Q3w.cut) (Z:=Empty) (t:=nofun) (s:=nofun) (e:=fun _=>Q3w.E n) (r:=fun _ z=>nomatch z) (n:=n) cfg mixed globs rfl Q3w.qi (Q3w.tells n) Tryz.func159 (by kernel_rfl) (by kernel_rfl) (fun rec a=>by kernel_rfl) (fun rec z=>nomatch z)
def Q3w.via {R:Type} (n:Nat):List AV→(AV→Option R)→Option R:=viaK (Q3w.FA n) Q3w.o Q3w.p
theorem Q3w.tells1 {R:Type} (n:Nat) (xs:List AV):Tells1 (R:=R) Tryz.prog 159 xs (Q3w.via n xs):=tells_via Q3w.oi (fun a=>by kernel_rfl) (Q3w.hands n) xs
end Go.Proofs.YtmpglmcjoelciaaGreatDoor.Ev
namespace Go.Proofs.YtmpglmcjoelciaaGreatDoor.Ev
open Go Go.Proofs Go.Proofs.Ev
set_option linter.unusedVariables false
set_option maxRecDepth 100000
abbrev Q17.A:=List AV
abbrev Q17.T:=Int
def Q17.i:Q17.A→List AV:=fun a0=>[.sl ⟨true,125⟩ 4 a0]
def Q17.o (xs:List AV):Option Q17.A:=match xs with | [.sl ⟨true,125⟩ 4 a0]=>some a0 | _=>none
theorem Q17.oi:∀ xs a,Q17.o xs=some a→xs=Q17.i a:=by
 intro xs a h
 unfold Q17.o at h
 split at h
 ·cases h; rfl
 ·cases h
def Q17.p (p:Q17.T):AV:=vi p
def Q17.q (x:AV):Option Q17.T:=match x with | .v (.int .i64 p0)=>some p0 | _=>none
theorem Q17.qi:∀ x p,Q17.q x=some p→x=Q17.p p:=by
 intro x p h
 unfold Q17.q at h
 split at h
 ·cases h; rfl
 ·cases h
inductive Q17.Z where
 | z3 (z1:Int) (z2:List AV) (z3 z4:Int)
def Q17.C {R:Type} (n:Nat) (f:FuncId) (xs:List AV):(AV→Option R)→Option R:=
 bif Nat.beq f 159 then Q3w.via n xs else fun _=>none
theorem Q17.tells {R:Type} (n:Nat):Tells (R:=R) Tryz.prog (Q17.C n):=fun _ xs=>tells_at (Q3w.tells1 n xs) (Tells1.none)
def Q17.cut (r:Nat):Option Keep:=match r with | 3=>some ⟨[3,8,9,10],[]⟩ | _=>none
def Q17.t (z:Q17.Z):List Item:=(todoOf (match z with | .z3 _ _ _ _=>3) 1000 [.code (Tryz.f137.body.getD .skip)]).getD []
def Q17.s:Q17.Z→St
 | .z3 z1 z2 z3 z4=>⟨spr 25 0 [(3,vi z1),(8,.sl ⟨true,125⟩ 4 z2),(9,vi z3),(10,vi z4)],Mem.ofList [],0⟩
def Q17.r3 (n:Nat) (c:Q17.Z→Option Int) (z1:Int) (z2:List AV) (z3 z4:Int):Option Int:=
 bif decide (z4 < z3) then (bif decide ((0:Int)≤z4)&&decide (z4 < ((z2.length:Nat):Int)) then (withCons ((z2.getD ((z4).toNat) .undef).cells) fun h1 r2=>
 withStr h1 fun s3=>
 withCons r2 fun h4 r5=>
 withInt .i64 h4 fun x6=>
 withCons r5 fun h7 r8=>
 withInt .i64 h7 fun x9=>
 withCons r8 fun h10 r11=>
 withInt .i64 h10 fun x12=>
 (Q3w.F n x6 x9 x12).bind fun p13=>
 let y14:Int:=IntKind.i64.wrap (z1+p13.1)
 c (.z3 y14 z2 z3 (IntKind.i64.wrap (z4+1)))) else none) else (some z1)
def Q17.r (n:Nat) (c:Q17.Z→Option Int):Q17.Z→Option Int
 | .z3 z1 z2 z3 z4=>Q17.r3 n c z1 z2 z3 z4
def Q17.e (n:Nat) (c:Q17.Z→Option Int) (a0:List AV):Option Int:=
 c (.z3 0 a0 ((a0.length:Nat):Int) 0)
def Q17.E (n:Nat) (c:Q17.Z→Option Int):Q17.A→Option Q17.T:=fun a0=>Q17.e n c a0
def Q17.l (n:Nat):Nat→Q17.Z→Option Int:=loopL (Q17.r n)
def Q17.F (n:Nat) (a0:List AV):Option Int:=Q17.e n (Q17.l n n) a0
def Q17.FA (n:Nat):Q17.A→Option Q17.T:=Q17.E n (Q17.l n n)
theorem Q17.hands (n:Nat):∀ a p,Q17.FA n a=some p→HandsIn Tryz.prog 137 (Q17.i a) (Q17.p p):=
 pf_hands (C:=Q17.C n) (cut:=Q17.cut) (t:=Q17.t) (s:=Q17.s) (e:=Q17.E n) (r:=Q17.r n) (n:=n) cfg mixed globs rfl Q17.qi (Q17.tells n) Tryz.func137 (by kernel_rfl) (by kernel_rfl) (fun rec a=>by kernel_rfl) (fun rec z=>by cases z <;> kernel_rfl)
def Q17.via {R:Type} (n:Nat):List AV→(AV→Option R)→Option R:=viaK (Q17.FA n) Q17.o Q17.p
theorem Q17.tells1 {R:Type} (n:Nat) (xs:List AV):Tells1 (R:=R) Tryz.prog 137 xs (Q17.via n xs):=tells_via Q17.oi (fun a=>by kernel_rfl) (Q17.hands n) xs
end Go.Proofs.YtmpglmcjoelciaaGreatDoor.Ev
namespace Go.Proofs.YtmpglmcjoelciaaGreatDoor.Ev
open Go Go.Proofs Go.Proofs.Ev
set_option linter.unusedVariables false
set_option maxRecDepth 100000
abbrev Q0j.A:=ByteArray × ByteArray × List AV × List AV × Bool
abbrev Q0j.T:=Int
def Q0j.i:Q0j.A→List AV:=fun (a0,a1,a2,a3,a4)=>[AV.agg [vs a0,vs a1,.sl ⟨true,125⟩ 4 a2,.sl ⟨true,111⟩ 2 a3,vb a4]]
def Q0j.o (xs:List AV):Option Q0j.A:=match xs with | [.agg [.v (.string a0),.v (.string a1),.sl ⟨true,125⟩ 4 a2,.sl ⟨true,111⟩ 2 a3,.v (.bool a4)]]=>some (a0,a1,a2,a3,a4) | _=>none
theorem Q0j.oi:∀ xs a,Q0j.o xs=some a→xs=Q0j.i a:=by
 intro xs a h
 unfold Q0j.o at h
 split at h
 ·cases h; rfl
 ·cases h
def Q0j.p (p:Q0j.T):AV:=vi p
def Q0j.q (x:AV):Option Q0j.T:=match x with | .v (.int .i64 p0)=>some p0 | _=>none
theorem Q0j.qi:∀ x p,Q0j.q x=some p→x=Q0j.p p:=by
 intro x p h
 unfold Q0j.q at h
 split at h
 ·cases h; rfl
 ·cases h
inductive Q0j.Z where
 | z7 (z1 z2:List AV) (z3 z4:Int) (z5 z6:ByteArray) (z7 z8:List AV) (z9:Bool) (z10:List AV)
def Q0j.C {R:Type} (n:Nat) (f:FuncId) (xs:List AV):(AV→Option R)→Option R:=
 bif Nat.beq f 44 then Q0m.via n xs else bif Nat.beq f 45 then Q0f.via n xs else bif Nat.beq f 51 then Q0r.via n xs else bif Nat.beq f 56 then Q0w.via n xs else bif Nat.beq f 84 then Q3t.via n xs else bif Nat.beq f 99 then Q0y.via n xs else bif Nat.beq f 137 then Q17.via n xs else fun _=>none
theorem Q0j.tells {R:Type} (n:Nat):Tells (R:=R) Tryz.prog (Q0j.C n):=fun _ xs=>tells_at (Q0m.tells1 n xs) (tells_at (Q0f.tells1 n xs) (tells_at (Q0r.tells1 n xs) (tells_at (Q0w.tells1 n xs) (tells_at (Q3t.tells1 n xs) (tells_at (Q0y.tells1 n xs) (tells_at (Q17.tells1 n xs) (Tells1.none)))))))
def Q0j.cut (r:Nat):Option Keep:=match r with | 7=>some ⟨[1,3,5,38,39,40],[(5,none,⟨true,9⟩,1)]⟩ | _=>none
def Q0j.t (z:Q0j.Z):List Item:=(todoOf (match z with | .z7 _ _ _ _ _ _ _ _ _ _=>7) 1000 [.code (Tryz.f115.body.getD .skip)]).getD []
def Q0j.s:Q0j.Z→St
 | .z7 z1 z2 z3 z4 z5 z6 z7 z8 z9 z10=>⟨spr 78 0 [(1,.ptr 0 0),(3,.sl ⟨true,125⟩ 4 z1),(5,.own 1 0 none),(38,.sl ⟨true,125⟩ 4 z2),(39,vi z3),(40,vi z4)],Mem.ofList [.box 48 [vs z5,vs z6,.sl ⟨true,125⟩ 4 z7,.sl ⟨true,111⟩ 2 z8,vb z9],.row ⟨true,9⟩ 1 z10],2⟩
def Q0j.r7 (n:Nat) (c:Q0j.Z→Option Int) (z1 z2:List AV) (z3 z4:Int) (z5 z6:ByteArray) (z7 z8:List AV) (z9:Bool) (z10:List AV):Option Int:=
 bif decide (z4 < z3) then (bif decide ((0:Int)≤z4)&&decide (z4 < ((z2.length:Nat):Int)) then (withCons ((z2.getD ((z4).toNat) .undef).cells) fun h10 r11=>
 withStr h10 fun s12=>
 withCons r11 fun h13 r14=>
 withInt .i64 h13 fun x15=>
 withCons r14 fun h16 r17=>
 withInt .i64 h16 fun x18=>
 withCons r17 fun h19 r20=>
 withInt .i64 h19 fun x21=>
 (Q0y.F n s12 z10).bind fun p22=>
 (Q3t.F n x15 x18 x21).bind fun p23=>
 (Q0f.F n (x15==4) 17).bind fun p24=>
 (Q0m.F n [vi p22,vi p23,vi p24]).bind fun p25=>
 bif p25 != 0 then (some p25) else (bif decide (z10.length+[vs s12].length≤most) then (c (.z7 z1 z2 z3 (IntKind.i64.wrap (z4+1)) z5 z6 z7 z8 z9 (z10++[vs s12]))) else none)) else none) else ((Q17.F n z1).bind fun p26=>
 bif decide (p26 > 200) then (some 18) else ((Q0w.F n z8 z10).bind fun p27=>
 some p27.2))
def Q0j.r (n:Nat) (c:Q0j.Z→Option Int):Q0j.Z→Option Int
 | .z7 z1 z2 z3 z4 z5 z6 z7 z8 z9 z10=>Q0j.r7 n c z1 z2 z3 z4 z5 z6 z7 z8 z9 z10
def Q0j.e (n:Nat) (c:Q0j.Z→Option Int) (a0 a1:ByteArray) (a2 a3:List AV) (a4:Bool):Option Int:=
 (Q0r.F n a0).bind fun p1=>
 (Q0f.F n (!p1) 7).bind fun p2=>
 (Q0r.F n a1).bind fun p3=>
 (Q0f.F n (!p3) 7).bind fun p4=>
 let y5:Bool:=((a2.length:Nat):Int)==0
 (Q0f.F n y5 1).bind fun p6=>
 let y7:Bool:=decide (((a2.length:Nat):Int) > 20)
 (Q0f.F n y7 2).bind fun p8=>
 (Q0m.F n [vi p2,vi p4,vi p6,vi p8]).bind fun p9=>
 bif p9 != 0 then (some p9) else (c (.z7 a2 a2 ((a2.length:Nat):Int) 0 a0 a1 a2 a3 a4 []))
def Q0j.E (n:Nat) (c:Q0j.Z→Option Int):Q0j.A→Option Q0j.T:=fun (a0,a1,a2,a3,a4)=>Q0j.e n c a0 a1 a2 a3 a4
def Q0j.l (n:Nat):Nat→Q0j.Z→Option Int:=loopL (Q0j.r n)
def Q0j.F (n:Nat) (a0 a1:ByteArray) (a2 a3:List AV) (a4:Bool):Option Int:=Q0j.e n (Q0j.l n n) a0 a1 a2 a3 a4
def Q0j.FA (n:Nat):Q0j.A→Option Q0j.T:=Q0j.E n (Q0j.l n n)
theorem Q0j.hands (n:Nat):∀ a p,Q0j.FA n a=some p→HandsIn Tryz.prog 115 (Q0j.i a) (Q0j.p p):=
 pf_hands (C:=Q0j.C n) (cut:=Q0j.cut) (t:=Q0j.t) (s:=Q0j.s) (e:=Q0j.E n) (r:=Q0j.r n) (n:=n) cfg mixed globs rfl Q0j.qi (Q0j.tells n) Tryz.func115 (by kernel_rfl) (by kernel_rfl) (fun rec a=>by kernel_rfl) (fun rec z=>by cases z <;> kernel_rfl)
def Q0j.via {R:Type} (n:Nat):List AV→(AV→Option R)→Option R:=viaK (Q0j.FA n) Q0j.o Q0j.p
theorem Q0j.tells1 {R:Type} (n:Nat) (xs:List AV):Tells1 (R:=R) Tryz.prog 115 xs (Q0j.via n xs):=tells_via Q0j.oi (fun a=>by kernel_rfl) (Q0j.hands n) xs
end Go.Proofs.YtmpglmcjoelciaaGreatDoor.Ev
namespace Go.Proofs.YtmpglmcjoelciaaGreatDoor.Ev
open Go Go.Proofs Go.Proofs.Ev
set_option linter.unusedVariables false
set_option maxRecDepth 100000
abbrev Q0h.A:=Bool × ByteArray × ByteArray × List AV × List AV × Bool × ByteArray × ByteArray × List AV × List AV × List AV × List AV × Bool × List AV
abbrev Q0h.T:=Int
def Q0h.i:Q0h.A→List AV:=fun (a0,a1,a2,a3,a4,a5,a6,a7,a8,a9,a10,a11,a12,a13)=>[AV.agg [vb a0,vs a1,vs a2,.sl ⟨true,125⟩ 4 a3,.sl ⟨true,111⟩ 2 a4,vb a5,vs a6,vs a7,.sl ⟨true,9⟩ 1 a8,.sl ⟨true,95⟩ 3 a9,.sl ⟨true,97⟩ 4 a10,.sl ⟨true,111⟩ 2 a11,vb a12,.sl ⟨false,100⟩ 2 a13]]
def Q0h.o (xs:List AV):Option Q0h.A:=match xs with | [.agg [.v (.bool a0),.v (.string a1),.v (.string a2),.sl ⟨true,125⟩ 4 a3,.sl ⟨true,111⟩ 2 a4,.v (.bool a5),.v (.string a6),.v (.string a7),.sl ⟨true,9⟩ 1 a8,.sl ⟨true,95⟩ 3 a9,.sl ⟨true,97⟩ 4 a10,.sl ⟨true,111⟩ 2 a11,.v (.bool a12),.sl ⟨false,100⟩ 2 a13]]=>some (a0,a1,a2,a3,a4,a5,a6,a7,a8,a9,a10,a11,a12,a13) | _=>none
theorem Q0h.oi:∀ xs a,Q0h.o xs=some a→xs=Q0h.i a:=by
 intro xs a h
 unfold Q0h.o at h
 split at h
 ·cases h; rfl
 ·cases h
def Q0h.p (p:Q0h.T):AV:=vi p
def Q0h.q (x:AV):Option Q0h.T:=match x with | .v (.int .i64 p0)=>some p0 | _=>none
theorem Q0h.qi:∀ x p,Q0h.q x=some p→x=Q0h.p p:=by
 intro x p h
 unfold Q0h.q at h
 split at h
 ·cases h; rfl
 ·cases h
def Q0h.C {R:Type} (n:Nat) (f:FuncId) (xs:List AV):(AV→Option R)→Option R:=
 bif Nat.beq f 114 then Q0x.via n xs else bif Nat.beq f 115 then Q0j.via n xs else fun _=>none
theorem Q0h.tells {R:Type} (n:Nat):Tells (R:=R) Tryz.prog (Q0h.C n):=fun _ xs=>tells_at (Q0x.tells1 n xs) (tells_at (Q0j.tells1 n xs) (Tells1.none))
def Q0h.cut (r:Nat):Option Keep:=match r with  | _=>none
def Q0h.e (n:Nat) (a0:Bool) (a1 a2:ByteArray) (a3 a4:List AV) (a5:Bool) (a6 a7:ByteArray) (a8 a9 a10 a11:List AV) (a12:Bool) (a13:List AV):Option Int:=
 bif a0 then ((Q0x.F n a6 a7 a8 a9 a10 a11 a12 a13).bind fun p1=>
 some p1) else ((Q0j.F n a1 a2 a3 a4 a5).bind fun p2=>
 some p2)
def Q0h.E (n:Nat):Q0h.A→Option Q0h.T:=fun (a0,a1,a2,a3,a4,a5,a6,a7,a8,a9,a10,a11,a12,a13)=>Q0h.e n a0 a1 a2 a3 a4 a5 a6 a7 a8 a9 a10 a11 a12 a13
def Q0h.F (n:Nat) (a0:Bool) (a1 a2:ByteArray) (a3 a4:List AV) (a5:Bool) (a6 a7:ByteArray) (a8 a9 a10 a11:List AV) (a12:Bool) (a13:List AV):Option Int:=Q0h.e n a0 a1 a2 a3 a4 a5 a6 a7 a8 a9 a10 a11 a12 a13
def Q0h.FA (n:Nat):Q0h.A→Option Q0h.T:=Q0h.E n
theorem Q0h.hands (n:Nat):∀ a p,Q0h.FA n a=some p→HandsIn Tryz.prog 66 (Q0h.i a) (Q0h.p p):=
 pf_hands (C:=Q0h.C n) (cut:=Q0h.cut) (Z:=Empty) (t:=nofun) (s:=nofun) (e:=fun _=>Q0h.E n) (r:=fun _ z=>nomatch z) (n:=n) cfg mixed globs rfl Q0h.qi (Q0h.tells n) Tryz.func66 (by kernel_rfl) (by kernel_rfl) (fun rec a=>by kernel_rfl) (fun rec z=>nomatch z)
def Q0h.via {R:Type} (n:Nat):List AV→(AV→Option R)→Option R:=viaK (Q0h.FA n) Q0h.o Q0h.p
theorem Q0h.tells1 {R:Type} (n:Nat) (xs:List AV):Tells1 (R:=R) Tryz.prog 66 xs (Q0h.via n xs):=tells_via Q0h.oi (fun a=>by kernel_rfl) (Q0h.hands n) xs
end Go.Proofs.YtmpglmcjoelciaaGreatDoor.Ev
namespace Go.Proofs.YtmpglmcjoelciaaGreatDoor.Ev
open Go Go.Proofs Go.Proofs.Ev
set_option linter.unusedVariables false
set_option maxRecDepth 100000
abbrev Q0c.A:=List AV
abbrev Q0c.T:=Bool × ByteArray × ByteArray × List AV × List AV × Bool × ByteArray × ByteArray × List AV × List AV × List AV × List AV × Bool × List AV × Int × Int
def Q0c.i:Q0c.A→List AV:=fun a0=>[.sl ⟨true,9⟩ 1 a0]
def Q0c.o (xs:List AV):Option Q0c.A:=match xs with | [.sl ⟨true,9⟩ 1 a0]=>some a0 | _=>none
theorem Q0c.oi:∀ xs a,Q0c.o xs=some a→xs=Q0c.i a:=by
 intro xs a h
 unfold Q0c.o at h
 split at h
 ·cases h; rfl
 ·cases h
def Q0c.p (p:Q0c.T):AV:=.tup [AV.agg [vb p.1,vs p.2.1,vs p.2.2.1,.fr ⟨true,125⟩ 4 p.2.2.2.1,.fr ⟨true,111⟩ 2 p.2.2.2.2.1,vb p.2.2.2.2.2.1,vs p.2.2.2.2.2.2.1,vs p.2.2.2.2.2.2.2.1,.fr ⟨true,9⟩ 1 p.2.2.2.2.2.2.2.2.1,.fr ⟨true,95⟩ 3 p.2.2.2.2.2.2.2.2.2.1,.fr ⟨true,97⟩ 4 p.2.2.2.2.2.2.2.2.2.2.1,.fr ⟨true,111⟩ 2 p.2.2.2.2.2.2.2.2.2.2.2.1,vb p.2.2.2.2.2.2.2.2.2.2.2.2.1,.fr ⟨false,100⟩ 2 p.2.2.2.2.2.2.2.2.2.2.2.2.2.1],vi p.2.2.2.2.2.2.2.2.2.2.2.2.2.2.1,vi p.2.2.2.2.2.2.2.2.2.2.2.2.2.2.2]
def Q0c.q (x:AV):Option Q0c.T:=match x with | .tup [.agg [.v (.bool p0),.v (.string p1),.v (.string p2),.fr ⟨true,125⟩ 4 p3,.fr ⟨true,111⟩ 2 p4,.v (.bool p5),.v (.string p6),.v (.string p7),.fr ⟨true,9⟩ 1 p8,.fr ⟨true,95⟩ 3 p9,.fr ⟨true,97⟩ 4 p10,.fr ⟨true,111⟩ 2 p11,.v (.bool p12),.fr ⟨false,100⟩ 2 p13],.v (.int .i64 p14),.v (.int .i64 p15)]=>some (p0,p1,p2,p3,p4,p5,p6,p7,p8,p9,p10,p11,p12,p13,p14,p15) | _=>none
theorem Q0c.qi:∀ x p,Q0c.q x=some p→x=Q0c.p p:=by
 intro x p h
 unfold Q0c.q at h
 split at h
 ·cases h; rfl
 ·cases h
inductive Q0c.Z where
 | z6 (z1 z2:List AV) (z3 z4:Int) (z5:Bool) (z6 z7:ByteArray) (z8:Bool) (z9 z10:ByteArray) (z11 z12:Bool) (z13 z14:ByteArray) (z15:Bool) (z16 z17:ByteArray) (z18:Bool) (z19:Int) (z20 z21 z22 z23 z24 z25 z26:List AV)
def Q0c.C {R:Type} (n:Nat) (f:FuncId) (xs:List AV):(AV→Option R)→Option R:=
 bif Nat.beq f 13 then Q0d.via n xs else bif Nat.beq f 44 then Q0m.via n xs else bif Nat.beq f 45 then Q0f.via n xs else bif Nat.beq f 64 then Q1e.via n xs else bif Nat.beq f 65 then Q1b.via n xs else bif Nat.beq f 66 then Q0h.via n xs else fun _=>none
theorem Q0c.tells {R:Type} (n:Nat):Tells (R:=R) Tryz.prog (Q0c.C n):=fun _ xs=>tells_at (Q0d.tells1 n xs) (tells_at (Q0m.tells1 n xs) (tells_at (Q0f.tells1 n xs) (tells_at (Q1e.tells1 n xs) (tells_at (Q1b.tells1 n xs) (tells_at (Q0h.tells1 n xs) (Tells1.none))))))
def Q0c.cut (r:Nat):Option Keep:=match r with | 6=>some ⟨[0,2,6,29,30,31],[(6,some 3,⟨true,125⟩,4),(6,some 4,⟨true,111⟩,2),(6,some 8,⟨true,9⟩,1),(6,some 9,⟨true,95⟩,3),(6,some 10,⟨true,97⟩,4),(6,some 11,⟨true,111⟩,2),(6,some 13,⟨false,100⟩,2)]⟩ | _=>none
def Q0c.t (z:Q0c.Z):List Item:=(todoOf (match z with | .z6 _ _ _ _ _ _ _ _ _ _ _ _ _ _ _ _ _ _ _ _ _ _ _ _ _ _=>6) 1000 [.code (Tryz.f21.body.getD .skip)]).getD []
def Q0c.s:Q0c.Z→St
 | .z6 z1 z2 z3 z4 z5 z6 z7 z8 z9 z10 z11 z12 z13 z14 z15 z16 z17 z18 z19 z20 z21 z22 z23 z24 z25 z26=>⟨spr 76 0 [(0,.sl ⟨true,9⟩ 1 z1),(2,.ptr 0 0),(6,.ptr 1 0),(29,.sl ⟨true,9⟩ 1 z2),(30,vi z3),(31,vi z4)],Mem.ofList [.box 50 [vb z5,vs z6,vs z7,.v (.slice none 0 0),.v (.slice none 0 0),vb z8,vs z9,vs z10,.v (.slice none 0 0),.v (.slice none 0 0),.v (.slice none 0 0),.v (.slice none 0 0),vb z11,.v (.slice none 0 0)],.box 115 [vb z12,vs z13,vs z14,.own 2 0 none,.own 3 0 none,vb z15,vs z16,vs z17,.own 4 0 none,.own 5 0 none,.own 6 0 none,.own 7 0 none,vb z18,.own 8 0 none,vi z19],.row ⟨true,125⟩ 4 z20,.row ⟨true,111⟩ 2 z21,.row ⟨true,9⟩ 1 z22,.row ⟨true,95⟩ 3 z23,.row ⟨true,97⟩ 4 z24,.row ⟨true,111⟩ 2 z25,.row ⟨false,100⟩ 2 z26],9⟩
def Q0c.r6 (n:Nat) (c:Q0c.Z→Option Q0c.T) (z1 z2:List AV) (z3 z4:Int) (z5:Bool) (z6 z7:ByteArray) (z8:Bool) (z9 z10:ByteArray) (z11 z12:Bool) (z13 z14:ByteArray) (z15:Bool) (z16 z17:ByteArray) (z18:Bool) (z19:Int) (z20 z21 z22 z23 z24 z25 z26:List AV):Option Q0c.T:=
 bif decide (z4 < z3) then (bif decide ((0:Int)≤z4)&&decide (z4 < ((z2.length:Nat):Int)) then (withCons ((z2.getD ((z4).toNat) .undef).cells) fun h6 r7=>
 withStr h6 fun s8=>
 (Q0d.F n s8).bind fun p9=>
 bif p9.2 != 0 then (some (false,(⟨#[]⟩ : ByteArray),(⟨#[]⟩ : ByteArray),[],[],false,(⟨#[]⟩ : ByteArray),(⟨#[]⟩ : ByteArray),[],[],[],[],false,[],z4,p9.2)) else (bif z4==0 then ((Q1b.F n p9.1 z12 z13 z14 z15 z16 z17 z18 z19 z20 z21 z22 z23 z24 z25 z26).bind fun p10=>
 bif !p10.1 then (some (false,(⟨#[]⟩ : ByteArray),(⟨#[]⟩ : ByteArray),[],[],false,(⟨#[]⟩ : ByteArray),(⟨#[]⟩ : ByteArray),[],[],[],[],false,[],z4,8)) else (c (.z6 z1 z2 z3 (IntKind.i64.wrap (z4+1)) z5 z6 z7 z8 z9 z10 z11 p10.2.1 p10.2.2.1 p10.2.2.2.1 p10.2.2.2.2.1 p10.2.2.2.2.2.1 p10.2.2.2.2.2.2.1 p10.2.2.2.2.2.2.2.1 p10.2.2.2.2.2.2.2.2.1 p10.2.2.2.2.2.2.2.2.2.1 p10.2.2.2.2.2.2.2.2.2.2.1 p10.2.2.2.2.2.2.2.2.2.2.2.1 p10.2.2.2.2.2.2.2.2.2.2.2.2.1 p10.2.2.2.2.2.2.2.2.2.2.2.2.2.1 p10.2.2.2.2.2.2.2.2.2.2.2.2.2.2.1 p10.2.2.2.2.2.2.2.2.2.2.2.2.2.2.2))) else ((Q1e.F n p9.1 z12 z13 z14 z15 z16 z17 z18 z19 z20 z21 z22 z23 z24 z25 z26).bind fun p11=>
 bif !p11.1 then (some (false,(⟨#[]⟩ : ByteArray),(⟨#[]⟩ : ByteArray),[],[],false,(⟨#[]⟩ : ByteArray),(⟨#[]⟩ : ByteArray),[],[],[],[],false,[],z4,8)) else (c (.z6 z1 z2 z3 (IntKind.i64.wrap (z4+1)) z5 z6 z7 z8 z9 z10 z11 p11.2.1 p11.2.2.1 p11.2.2.2.1 p11.2.2.2.2.1 p11.2.2.2.2.2.1 p11.2.2.2.2.2.2.1 p11.2.2.2.2.2.2.2.1 p11.2.2.2.2.2.2.2.2.1 p11.2.2.2.2.2.2.2.2.2.1 p11.2.2.2.2.2.2.2.2.2.2.1 p11.2.2.2.2.2.2.2.2.2.2.2.1 p11.2.2.2.2.2.2.2.2.2.2.2.2.1 p11.2.2.2.2.2.2.2.2.2.2.2.2.2.1 p11.2.2.2.2.2.2.2.2.2.2.2.2.2.2.1 p11.2.2.2.2.2.2.2.2.2.2.2.2.2.2.2))))) else none) else (let y12:Bool:=((z1.length:Nat):Int)==1
 bif y12 then (some (false,(⟨#[]⟩ : ByteArray),(⟨#[]⟩ : ByteArray),[],[],false,(⟨#[]⟩ : ByteArray),(⟨#[]⟩ : ByteArray),[],[],[],[],false,[],1,9)) else ((Q0h.F n z12 z13 z14 z20 z21 z15 z16 z17 z22 z23 z24 z25 z18 z26).bind fun p13=>
 bif p13 != 0 then (some (false,(⟨#[]⟩ : ByteArray),(⟨#[]⟩ : ByteArray),[],[],false,(⟨#[]⟩ : ByteArray),(⟨#[]⟩ : ByteArray),[],[],[],[],false,[],0,p13)) else (some (z12,z13,z14,z20,z21,z15,z16,z17,z22,z23,z24,z25,z18,z26,0,0))))
def Q0c.r (n:Nat) (c:Q0c.Z→Option Q0c.T):Q0c.Z→Option Q0c.T
 | .z6 z1 z2 z3 z4 z5 z6 z7 z8 z9 z10 z11 z12 z13 z14 z15 z16 z17 z18 z19 z20 z21 z22 z23 z24 z25 z26=>Q0c.r6 n c z1 z2 z3 z4 z5 z6 z7 z8 z9 z10 z11 z12 z13 z14 z15 z16 z17 z18 z19 z20 z21 z22 z23 z24 z25 z26
def Q0c.e (n:Nat) (c:Q0c.Z→Option Q0c.T) (a0:List AV):Option Q0c.T:=
 let y1:Bool:=((a0.length:Nat):Int)==0
 (Q0f.F n y1 1).bind fun p2=>
 let y3:Bool:=decide (((a0.length:Nat):Int) > 100)
 (Q0f.F n y3 2).bind fun p4=>
 (Q0m.F n [vi p2,vi p4]).bind fun p5=>
 bif p5 != 0 then (some (false,(⟨#[]⟩ : ByteArray),(⟨#[]⟩ : ByteArray),[],[],false,(⟨#[]⟩ : ByteArray),(⟨#[]⟩ : ByteArray),[],[],[],[],false,[],0,p5)) else (c (.z6 a0 a0 ((a0.length:Nat):Int) 0 false (⟨#[]⟩ : ByteArray) (⟨#[]⟩ : ByteArray) false (⟨#[]⟩ : ByteArray) (⟨#[]⟩ : ByteArray) false false (⟨#[]⟩ : ByteArray) (⟨#[]⟩ : ByteArray) false (⟨#[]⟩ : ByteArray) (⟨#[]⟩ : ByteArray) false 0 [] [] [] [] [] [] []))
def Q0c.E (n:Nat) (c:Q0c.Z→Option Q0c.T):Q0c.A→Option Q0c.T:=fun a0=>Q0c.e n c a0
def Q0c.l (n:Nat):Nat→Q0c.Z→Option Q0c.T:=loopL (Q0c.r n)
def Q0c.F (n:Nat) (a0:List AV):Option Q0c.T:=Q0c.e n (Q0c.l n n) a0
def Q0c.FA (n:Nat):Q0c.A→Option Q0c.T:=Q0c.E n (Q0c.l n n)
theorem Q0c.hands (n:Nat):∀ a p,Q0c.FA n a=some p→HandsIn Tryz.prog 21 (Q0c.i a) (Q0c.p p):=
 pf_hands (C:=Q0c.C n) (cut:=Q0c.cut) (t:=Q0c.t) (s:=Q0c.s) (e:=Q0c.E n) (r:=Q0c.r n) (n:=n) cfg mixed globs rfl Q0c.qi (Q0c.tells n) Tryz.func21 (by kernel_rfl) (by kernel_rfl) (fun rec a=>by kernel_rfl) (fun rec z=>by cases z <;> kernel_rfl)
def Q0c.via {R:Type} (n:Nat):List AV→(AV→Option R)→Option R:=viaK (Q0c.FA n) Q0c.o Q0c.p
theorem Q0c.tells1 {R:Type} (n:Nat) (xs:List AV):Tells1 (R:=R) Tryz.prog 21 xs (Q0c.via n xs):=tells_via Q0c.oi (fun a=>by kernel_rfl) (Q0c.hands n) xs
end Go.Proofs.YtmpglmcjoelciaaGreatDoor.Ev
namespace Go.Proofs.YtmpglmcjoelciaaGreatDoor.Ev
open Go Go.Proofs Go.Proofs.Ev
set_option linter.unusedVariables false
set_option maxRecDepth 100000
abbrev Q34.A:=ByteArray × List AV × ByteArray × List AV
abbrev Q34.T:=Bool
def Q34.i:Q34.A→List AV:=fun (a0,a1,a2,a3)=>[AV.agg [vs a0,.sl ⟨true,125⟩ 4 a1],AV.agg [vs a2,.sl ⟨true,125⟩ 4 a3]]
def Q34.o (xs:List AV):Option Q34.A:=match xs with | [.agg [.v (.string a0),.sl ⟨true,125⟩ 4 a1],.agg [.v (.string a2),.sl ⟨true,125⟩ 4 a3]]=>some (a0,a1,a2,a3) | _=>none
theorem Q34.oi:∀ xs a,Q34.o xs=some a→xs=Q34.i a:=by
 intro xs a h
 unfold Q34.o at h
 split at h
 ·cases h; rfl
 ·cases h
def Q34.p (p:Q34.T):AV:=vb p
def Q34.q (x:AV):Option Q34.T:=match x with | .v (.bool p0)=>some p0 | _=>none
theorem Q34.qi:∀ x p,Q34.q x=some p→x=Q34.p p:=by
 intro x p h
 unfold Q34.q at h
 split at h
 ·cases h; rfl
 ·cases h
inductive Q34.Z where
 | z4 (z1:Int) (z2:ByteArray) (z3:List AV) (z4:ByteArray) (z5:List AV)
def Q34.C {R:Type} (n:Nat) (f:FuncId) (xs:List AV):(AV→Option R)→Option R:=
 fun _=>none
theorem Q34.tells {R:Type} (n:Nat):Tells (R:=R) Tryz.prog (Q34.C n):=fun _ xs=>Tells1.none
def Q34.cut (r:Nat):Option Keep:=match r with | 4=>some ⟨[2,3,5],[]⟩ | _=>none
def Q34.t (z:Q34.Z):List Item:=(todoOf (match z with | .z4 _ _ _ _ _=>4) 1000 [.code (Tryz.f41.body.getD .skip)]).getD []
def Q34.s:Q34.Z→St
 | .z4 z1 z2 z3 z4 z5=>⟨spr 38 0 [(2,.ptr 0 0),(3,.ptr 1 0),(5,vi z1)],Mem.ofList [.box 46 [vs z2,.sl ⟨true,125⟩ 4 z3],.box 46 [vs z4,.sl ⟨true,125⟩ 4 z5]],2⟩
def Q34.r4 (n:Nat) (c:Q34.Z→Option Bool) (z1:Int) (z2:ByteArray) (z3:List AV) (z4:ByteArray) (z5:List AV):Option Bool:=
 let y2:Bool:=decide (z1 < ((z3.length:Nat):Int))
 bif y2 then (bif decide ((0:Int)≤z1)&&decide (z1 < ((z3.length:Nat):Int)) then (withCons ((z3.getD ((z1).toNat) .undef).cells) fun h3 r4=>
 withStr h3 fun s5=>
 withCons r4 fun h6 r7=>
 withInt .i64 h6 fun x8=>
 withCons r7 fun h9 r10=>
 withInt .i64 h9 fun x11=>
 withCons r10 fun h12 r13=>
 withInt .i64 h12 fun x14=>
 bif decide ((0:Int)≤z1)&&decide (z1 < ((z5.length:Nat):Int)) then (withCons ((z5.getD ((z1).toNat) .undef).cells) fun h15 r16=>
 withStr h15 fun s17=>
 withCons r16 fun h18 r19=>
 withInt .i64 h18 fun x20=>
 withCons r19 fun h21 r22=>
 withInt .i64 h21 fun x23=>
 withCons r22 fun h24 r25=>
 withInt .i64 h24 fun x26=>
 let y27:Bool:=!((s5==s17)&&((x8==x20)&&((x11==x23)&&((x14==x26)&&true))))
 bif y27 then (some false) else (c (.z4 (IntKind.i64.wrap (z1+1)) z2 z3 z4 z5))) else none) else none) else (some true)
def Q34.r (n:Nat) (c:Q34.Z→Option Bool):Q34.Z→Option Bool
 | .z4 z1 z2 z3 z4 z5=>Q34.r4 n c z1 z2 z3 z4 z5
def Q34.e (n:Nat) (c:Q34.Z→Option Bool) (a0:ByteArray) (a1:List AV) (a2:ByteArray) (a3:List AV):Option Bool:=
 bif !(a0.toList==a2.toList) then (some false) else (let y1:Bool:=((a1.length:Nat):Int) != ((a3.length:Nat):Int)
 bif y1 then (some false) else (c (.z4 0 a0 a1 a2 a3)))
def Q34.E (n:Nat) (c:Q34.Z→Option Bool):Q34.A→Option Q34.T:=fun (a0,a1,a2,a3)=>Q34.e n c a0 a1 a2 a3
def Q34.l (n:Nat):Nat→Q34.Z→Option Bool:=loopL (Q34.r n)
def Q34.F (n:Nat) (a0:ByteArray) (a1:List AV) (a2:ByteArray) (a3:List AV):Option Bool:=Q34.e n (Q34.l n n) a0 a1 a2 a3
def Q34.FA (n:Nat):Q34.A→Option Q34.T:=Q34.E n (Q34.l n n)
theorem Q34.hands (n:Nat):∀ a p,Q34.FA n a=some p→HandsIn Tryz.prog 41 (Q34.i a) (Q34.p p):=
 pf_hands (C:=Q34.C n) (cut:=Q34.cut) (t:=Q34.t) (s:=Q34.s) (e:=Q34.E n) (r:=Q34.r n) (n:=n) cfg mixed globs rfl Q34.qi (Q34.tells n) Tryz.func41 (by kernel_rfl) (by kernel_rfl) (fun rec a=>by kernel_rfl) (fun rec z=>by cases z <;> kernel_rfl)
def Q34.via {R:Type} (n:Nat):List AV→(AV→Option R)→Option R:=viaK (Q34.FA n) Q34.o Q34.p
theorem Q34.tells1 {R:Type} (n:Nat) (xs:List AV):Tells1 (R:=R) Tryz.prog 41 xs (Q34.via n xs):=tells_via Q34.oi (fun a=>by kernel_rfl) (Q34.hands n) xs
end Go.Proofs.YtmpglmcjoelciaaGreatDoor.Ev
namespace Go.Proofs.YtmpglmcjoelciaaGreatDoor.Ev
open Go Go.Proofs Go.Proofs.Ev
set_option linter.unusedVariables false
set_option maxRecDepth 100000
abbrev Q3m.A:=List AV × List AV
abbrev Q3m.T:=Bool
def Q3m.i:Q3m.A→List AV:=fun (a0,a1)=>[.sl ⟨true,111⟩ 2 a0,.sl ⟨true,111⟩ 2 a1]
def Q3m.o (xs:List AV):Option Q3m.A:=match xs with | [.sl ⟨true,111⟩ 2 a0,.sl ⟨true,111⟩ 2 a1]=>some (a0,a1) | _=>none
theorem Q3m.oi:∀ xs a,Q3m.o xs=some a→xs=Q3m.i a:=by
 intro xs a h
 unfold Q3m.o at h
 split at h
 ·cases h; rfl
 ·cases h
def Q3m.p (p:Q3m.T):AV:=vb p
def Q3m.q (x:AV):Option Q3m.T:=match x with | .v (.bool p0)=>some p0 | _=>none
theorem Q3m.qi:∀ x p,Q3m.q x=some p→x=Q3m.p p:=by
 intro x p h
 unfold Q3m.q at h
 split at h
 ·cases h; rfl
 ·cases h
inductive Q3m.Z where
 | z4 (z1 z2:List AV) (z3:Int)
def Q3m.C {R:Type} (n:Nat) (f:FuncId) (xs:List AV):(AV→Option R)→Option R:=
 fun _=>none
theorem Q3m.tells {R:Type} (n:Nat):Tells (R:=R) Tryz.prog (Q3m.C n):=fun _ xs=>Tells1.none
def Q3m.cut (r:Nat):Option Keep:=match r with | 4=>some ⟨[0,1,5],[]⟩ | _=>none
def Q3m.t (z:Q3m.Z):List Item:=(todoOf (match z with | .z4 _ _ _=>4) 1000 [.code (Tryz.f120.body.getD .skip)]).getD []
def Q3m.s:Q3m.Z→St
 | .z4 z1 z2 z3=>⟨spr 26 0 [(0,.sl ⟨true,111⟩ 2 z1),(1,.sl ⟨true,111⟩ 2 z2),(5,vi z3)],Mem.ofList [],0⟩
def Q3m.r4 (n:Nat) (c:Q3m.Z→Option Bool) (z1 z2:List AV) (z3:Int):Option Bool:=
 let y2:Bool:=decide (z3 < ((z1.length:Nat):Int))
 bif y2 then (bif decide ((0:Int)≤z3)&&decide (z3 < ((z1.length:Nat):Int)) then (withCons ((z1.getD ((z3).toNat) .undef).cells) fun h3 r4=>
 withStr h3 fun s5=>
 withCons r4 fun h6 r7=>
 withBool h6 fun b8=>
 bif decide ((0:Int)≤z3)&&decide (z3 < ((z2.length:Nat):Int)) then (withCons ((z2.getD ((z3).toNat) .undef).cells) fun h9 r10=>
 withStr h9 fun s11=>
 withCons r10 fun h12 r13=>
 withBool h12 fun b14=>
 let y15:Bool:=!((s5==s11)&&((b8==b14)&&true))
 bif y15 then (some false) else (c (.z4 z1 z2 (IntKind.i64.wrap (z3+1))))) else none) else none) else (some true)
def Q3m.r (n:Nat) (c:Q3m.Z→Option Bool):Q3m.Z→Option Bool
 | .z4 z1 z2 z3=>Q3m.r4 n c z1 z2 z3
def Q3m.e (n:Nat) (c:Q3m.Z→Option Bool) (a0 a1:List AV):Option Bool:=
 let y1:Bool:=((a0.length:Nat):Int) != ((a1.length:Nat):Int)
 bif y1 then (some false) else (c (.z4 a0 a1 0))
def Q3m.E (n:Nat) (c:Q3m.Z→Option Bool):Q3m.A→Option Q3m.T:=fun (a0,a1)=>Q3m.e n c a0 a1
def Q3m.l (n:Nat):Nat→Q3m.Z→Option Bool:=loopL (Q3m.r n)
def Q3m.F (n:Nat) (a0 a1:List AV):Option Bool:=Q3m.e n (Q3m.l n n) a0 a1
def Q3m.FA (n:Nat):Q3m.A→Option Q3m.T:=Q3m.E n (Q3m.l n n)
theorem Q3m.hands (n:Nat):∀ a p,Q3m.FA n a=some p→HandsIn Tryz.prog 120 (Q3m.i a) (Q3m.p p):=
 pf_hands (C:=Q3m.C n) (cut:=Q3m.cut) (t:=Q3m.t) (s:=Q3m.s) (e:=Q3m.E n) (r:=Q3m.r n) (n:=n) cfg mixed globs rfl Q3m.qi (Q3m.tells n) Tryz.func120 (by kernel_rfl) (by kernel_rfl) (fun rec a=>by kernel_rfl) (fun rec z=>by cases z <;> kernel_rfl)
def Q3m.via {R:Type} (n:Nat):List AV→(AV→Option R)→Option R:=viaK (Q3m.FA n) Q3m.o Q3m.p
theorem Q3m.tells1 {R:Type} (n:Nat) (xs:List AV):Tells1 (R:=R) Tryz.prog 120 xs (Q3m.via n xs):=tells_via Q3m.oi (fun a=>by kernel_rfl) (Q3m.hands n) xs
end Go.Proofs.YtmpglmcjoelciaaGreatDoor.Ev
namespace Go.Proofs.YtmpglmcjoelciaaGreatDoor.Ev
open Go Go.Proofs Go.Proofs.Ev
set_option linter.unusedVariables false
set_option maxRecDepth 100000
abbrev Q33.A:=ByteArray × ByteArray × List AV × List AV × Bool × ByteArray × ByteArray × List AV × List AV × Bool
abbrev Q33.T:=Bool
def Q33.i:Q33.A→List AV:=fun (a0,a1,a2,a3,a4,a5,a6,a7,a8,a9)=>[AV.agg [vs a0,vs a1,.sl ⟨true,125⟩ 4 a2,.sl ⟨true,111⟩ 2 a3,vb a4],AV.agg [vs a5,vs a6,.sl ⟨true,125⟩ 4 a7,.sl ⟨true,111⟩ 2 a8,vb a9]]
def Q33.o (xs:List AV):Option Q33.A:=match xs with | [.agg [.v (.string a0),.v (.string a1),.sl ⟨true,125⟩ 4 a2,.sl ⟨true,111⟩ 2 a3,.v (.bool a4)],.agg [.v (.string a5),.v (.string a6),.sl ⟨true,125⟩ 4 a7,.sl ⟨true,111⟩ 2 a8,.v (.bool a9)]]=>some (a0,a1,a2,a3,a4,a5,a6,a7,a8,a9) | _=>none
theorem Q33.oi:∀ xs a,Q33.o xs=some a→xs=Q33.i a:=by
 intro xs a h
 unfold Q33.o at h
 split at h
 ·cases h; rfl
 ·cases h
def Q33.p (p:Q33.T):AV:=vb p
def Q33.q (x:AV):Option Q33.T:=match x with | .v (.bool p0)=>some p0 | _=>none
theorem Q33.qi:∀ x p,Q33.q x=some p→x=Q33.p p:=by
 intro x p h
 unfold Q33.q at h
 split at h
 ·cases h; rfl
 ·cases h
def Q33.C {R:Type} (n:Nat) (f:FuncId) (xs:List AV):(AV→Option R)→Option R:=
 bif Nat.beq f 41 then Q34.via n xs else bif Nat.beq f 120 then Q3m.via n xs else fun _=>none
theorem Q33.tells {R:Type} (n:Nat):Tells (R:=R) Tryz.prog (Q33.C n):=fun _ xs=>tells_at (Q34.tells1 n xs) (tells_at (Q3m.tells1 n xs) (Tells1.none))
def Q33.cut (r:Nat):Option Keep:=match r with  | _=>none
def Q33.e (n:Nat) (a0 a1:ByteArray) (a2 a3:List AV) (a4:Bool) (a5 a6:ByteArray) (a7 a8:List AV) (a9:Bool):Option Bool:=
 bif a0.toList==a5.toList then ((Q34.F n a1 a2 a6 a7).bind fun p1=>
 bif p1 then ((Q3m.F n a3 a8).bind fun p2=>
 bif p2 then (some (a4==a9)) else (some false)) else (some false)) else (some false)
def Q33.E (n:Nat):Q33.A→Option Q33.T:=fun (a0,a1,a2,a3,a4,a5,a6,a7,a8,a9)=>Q33.e n a0 a1 a2 a3 a4 a5 a6 a7 a8 a9
def Q33.F (n:Nat) (a0 a1:ByteArray) (a2 a3:List AV) (a4:Bool) (a5 a6:ByteArray) (a7 a8:List AV) (a9:Bool):Option Bool:=Q33.e n a0 a1 a2 a3 a4 a5 a6 a7 a8 a9
def Q33.FA (n:Nat):Q33.A→Option Q33.T:=Q33.E n
theorem Q33.hands (n:Nat):∀ a p,Q33.FA n a=some p→HandsIn Tryz.prog 69 (Q33.i a) (Q33.p p):=
 pf_hands (C:=Q33.C n) (cut:=Q33.cut) (Z:=Empty) (t:=nofun) (s:=nofun) (e:=fun _=>Q33.E n) (r:=fun _ z=>nomatch z) (n:=n) cfg mixed globs rfl Q33.qi (Q33.tells n) Tryz.func69 (by kernel_rfl) (by kernel_rfl) (fun rec a=>by kernel_rfl) (fun rec z=>nomatch z)
def Q33.via {R:Type} (n:Nat):List AV→(AV→Option R)→Option R:=viaK (Q33.FA n) Q33.o Q33.p
theorem Q33.tells1 {R:Type} (n:Nat) (xs:List AV):Tells1 (R:=R) Tryz.prog 69 xs (Q33.via n xs):=tells_via Q33.oi (fun a=>by kernel_rfl) (Q33.hands n) xs
end Go.Proofs.YtmpglmcjoelciaaGreatDoor.Ev
namespace Go.Proofs.YtmpglmcjoelciaaGreatDoor.Ev
open Go Go.Proofs Go.Proofs.Ev
set_option linter.unusedVariables false
set_option maxRecDepth 100000
abbrev Q35.A:=ByteArray × ByteArray × List AV × List AV × List AV × List AV × Bool × List AV × ByteArray × ByteArray × List AV × List AV × List AV × List AV × Bool × List AV
abbrev Q35.T:=Bool
def Q35.i:Q35.A→List AV:=fun (a0,a1,a2,a3,a4,a5,a6,a7,a8,a9,a10,a11,a12,a13,a14,a15)=>[AV.agg [vs a0,vs a1,.sl ⟨true,9⟩ 1 a2,.sl ⟨true,95⟩ 3 a3,.sl ⟨true,97⟩ 4 a4,.sl ⟨true,111⟩ 2 a5,vb a6,.sl ⟨false,100⟩ 2 a7],AV.agg [vs a8,vs a9,.sl ⟨true,9⟩ 1 a10,.sl ⟨true,95⟩ 3 a11,.sl ⟨true,97⟩ 4 a12,.sl ⟨true,111⟩ 2 a13,vb a14,.sl ⟨false,100⟩ 2 a15]]
def Q35.o (xs:List AV):Option Q35.A:=match xs with | [.agg [.v (.string a0),.v (.string a1),.sl ⟨true,9⟩ 1 a2,.sl ⟨true,95⟩ 3 a3,.sl ⟨true,97⟩ 4 a4,.sl ⟨true,111⟩ 2 a5,.v (.bool a6),.sl ⟨false,100⟩ 2 a7],.agg [.v (.string a8),.v (.string a9),.sl ⟨true,9⟩ 1 a10,.sl ⟨true,95⟩ 3 a11,.sl ⟨true,97⟩ 4 a12,.sl ⟨true,111⟩ 2 a13,.v (.bool a14),.sl ⟨false,100⟩ 2 a15]]=>some (a0,a1,a2,a3,a4,a5,a6,a7,a8,a9,a10,a11,a12,a13,a14,a15) | _=>none
theorem Q35.oi:∀ xs a,Q35.o xs=some a→xs=Q35.i a:=by
 intro xs a h
 unfold Q35.o at h
 split at h
 ·cases h; rfl
 ·cases h
def Q35.p (p:Q35.T):AV:=vb p
def Q35.q (x:AV):Option Q35.T:=match x with | .v (.bool p0)=>some p0 | _=>none
theorem Q35.qi:∀ x p,Q35.q x=some p→x=Q35.p p:=by
 intro x p h
 unfold Q35.q at h
 split at h
 ·cases h; rfl
 ·cases h
inductive Q35.Z where
 | z2
 | z4 (z1:Int) (z2 z3:ByteArray) (z4 z5 z6 z7:List AV) (z8:Bool) (z9:List AV) (z10 z11:ByteArray) (z12 z13 z14 z15:List AV) (z16:Bool) (z17:List AV)
 | z9 (z1:Int) (z2 z3:ByteArray) (z4 z5 z6 z7:List AV) (z8:Bool) (z9:List AV) (z10 z11:ByteArray) (z12 z13 z14 z15:List AV) (z16:Bool) (z17:List AV)
 | z14 (z1:Int) (z2 z3:ByteArray) (z4 z5 z6 z7:List AV) (z8:Bool) (z9:List AV) (z10 z11:ByteArray) (z12 z13 z14 z15:List AV) (z16:Bool) (z17:List AV)
 | z20 (z1 z2:Int) (z3 z4:ByteArray) (z5 z6 z7 z8:List AV) (z9:Bool) (z10:List AV) (z11 z12:ByteArray) (z13 z14 z15 z16:List AV) (z17:Bool) (z18:List AV) (z19:Bool) (z20:List AV) (z21:Bool) (z22:List AV)
def Q35.C {R:Type} (n:Nat) (f:FuncId) (xs:List AV):(AV→Option R)→Option R:=
 bif Nat.beq f 15 then Q1y.via n xs else bif Nat.beq f 120 then Q3m.via n xs else fun _=>none
theorem Q35.tells {R:Type} (n:Nat):Tells (R:=R) Tryz.prog (Q35.C n):=fun _ xs=>tells_at (Q1y.tells1 n xs) (tells_at (Q3m.tells1 n xs) (Tells1.none))
def Q35.cut (r:Nat):Option Keep:=match r with | 2=>some ⟨[],[]⟩ | 4=>some ⟨[2,3,5],[]⟩ | 9=>some ⟨[2,3,6],[]⟩ | 14=>some ⟨[2,3,7],[]⟩ | 20=>some ⟨[2,3,7,8,9,10],[]⟩ | _=>none
def Q35.t (z:Q35.Z):List Item:=(todoOf (match z with | .z2=>2 | .z4 _ _ _ _ _ _ _ _ _ _ _ _ _ _ _ _ _=>4 | .z9 _ _ _ _ _ _ _ _ _ _ _ _ _ _ _ _ _=>9 | .z14 _ _ _ _ _ _ _ _ _ _ _ _ _ _ _ _ _=>14 | .z20 _ _ _ _ _ _ _ _ _ _ _ _ _ _ _ _ _ _ _ _ _ _=>20) 1000 [.code (Tryz.f70.body.getD .skip)]).getD []
def Q35.s:Q35.Z→St
 | .z2=>⟨spr 158 0 [],Mem.ofList [],0⟩
 | .z4 z1 z2 z3 z4 z5 z6 z7 z8 z9 z10 z11 z12 z13 z14 z15 z16 z17=>⟨spr 158 0 [(2,.ptr 0 0),(3,.ptr 1 0),(5,vi z1)],Mem.ofList [.box 36 [vs z2,vs z3,.sl ⟨true,9⟩ 1 z4,.sl ⟨true,95⟩ 3 z5,.sl ⟨true,97⟩ 4 z6,.sl ⟨true,111⟩ 2 z7,vb z8,.sl ⟨false,100⟩ 2 z9],.box 36 [vs z10,vs z11,.sl ⟨true,9⟩ 1 z12,.sl ⟨true,95⟩ 3 z13,.sl ⟨true,97⟩ 4 z14,.sl ⟨true,111⟩ 2 z15,vb z16,.sl ⟨false,100⟩ 2 z17]],2⟩
 | .z9 z1 z2 z3 z4 z5 z6 z7 z8 z9 z10 z11 z12 z13 z14 z15 z16 z17=>⟨spr 158 0 [(2,.ptr 0 0),(3,.ptr 1 0),(6,vi z1)],Mem.ofList [.box 36 [vs z2,vs z3,.sl ⟨true,9⟩ 1 z4,.sl ⟨true,95⟩ 3 z5,.sl ⟨true,97⟩ 4 z6,.sl ⟨true,111⟩ 2 z7,vb z8,.sl ⟨false,100⟩ 2 z9],.box 36 [vs z10,vs z11,.sl ⟨true,9⟩ 1 z12,.sl ⟨true,95⟩ 3 z13,.sl ⟨true,97⟩ 4 z14,.sl ⟨true,111⟩ 2 z15,vb z16,.sl ⟨false,100⟩ 2 z17]],2⟩
 | .z14 z1 z2 z3 z4 z5 z6 z7 z8 z9 z10 z11 z12 z13 z14 z15 z16 z17=>⟨spr 158 0 [(2,.ptr 0 0),(3,.ptr 1 0),(7,vi z1)],Mem.ofList [.box 36 [vs z2,vs z3,.sl ⟨true,9⟩ 1 z4,.sl ⟨true,95⟩ 3 z5,.sl ⟨true,97⟩ 4 z6,.sl ⟨true,111⟩ 2 z7,vb z8,.sl ⟨false,100⟩ 2 z9],.box 36 [vs z10,vs z11,.sl ⟨true,9⟩ 1 z12,.sl ⟨true,95⟩ 3 z13,.sl ⟨true,97⟩ 4 z14,.sl ⟨true,111⟩ 2 z15,vb z16,.sl ⟨false,100⟩ 2 z17]],2⟩
 | .z20 z1 z2 z3 z4 z5 z6 z7 z8 z9 z10 z11 z12 z13 z14 z15 z16 z17 z18 z19 z20 z21 z22=>⟨spr 158 0 [(2,.ptr 0 0),(3,.ptr 1 0),(7,vi z1),(8,.ptr 2 0),(9,.ptr 3 0),(10,vi z2)],Mem.ofList [.box 36 [vs z3,vs z4,.sl ⟨true,9⟩ 1 z5,.sl ⟨true,95⟩ 3 z6,.sl ⟨true,97⟩ 4 z7,.sl ⟨true,111⟩ 2 z8,vb z9,.sl ⟨false,100⟩ 2 z10],.box 36 [vs z11,vs z12,.sl ⟨true,9⟩ 1 z13,.sl ⟨true,95⟩ 3 z14,.sl ⟨true,97⟩ 4 z15,.sl ⟨true,111⟩ 2 z16,vb z17,.sl ⟨false,100⟩ 2 z18],.box 100 [vb z19,.sl ⟨true,104⟩ 4 z20],.box 100 [vb z21,.sl ⟨true,104⟩ 4 z22]],4⟩
def Q35.r2 (n:Nat) (c:Q35.Z→Option Bool)  : Option Bool:=
 some false
def Q35.r4 (n:Nat) (c:Q35.Z→Option Bool) (z1:Int) (z2 z3:ByteArray) (z4 z5 z6 z7:List AV) (z8:Bool) (z9:List AV) (z10 z11:ByteArray) (z12 z13 z14 z15:List AV) (z16:Bool) (z17:List AV):Option Bool:=
 let y6:Bool:=decide (z1 < ((z5.length:Nat):Int))
 bif y6 then (bif decide ((0:Int)≤z1)&&decide (z1 < ((z5.length:Nat):Int)) then (withCons ((z5.getD ((z1).toNat) .undef).cells) fun h7 r8=>
 withStr h7 fun s9=>
 withCons r8 fun h10 r11=>
 withInt .i64 h10 fun x12=>
 withCons r11 fun h13 r14=>
 withStr h13 fun s15=>
 bif decide ((0:Int)≤z1)&&decide (z1 < ((z13.length:Nat):Int)) then (withCons ((z13.getD ((z1).toNat) .undef).cells) fun h16 r17=>
 withStr h16 fun s18=>
 withCons r17 fun h19 r20=>
 withInt .i64 h19 fun x21=>
 withCons r20 fun h22 r23=>
 withStr h22 fun s24=>
 let y25:Bool:=!((s9==s18)&&((x12==x21)&&((s15==s24)&&true)))
 bif y25 then (some false) else (c (.z4 (IntKind.i64.wrap (z1+1)) z2 z3 z4 z5 z6 z7 z8 z9 z10 z11 z12 z13 z14 z15 z16 z17))) else none) else none) else (c (.z9 0 z2 z3 z4 z5 z6 z7 z8 z9 z10 z11 z12 z13 z14 z15 z16 z17))
def Q35.r9 (n:Nat) (c:Q35.Z→Option Bool) (z1:Int) (z2 z3:ByteArray) (z4 z5 z6 z7:List AV) (z8:Bool) (z9:List AV) (z10 z11:ByteArray) (z12 z13 z14 z15:List AV) (z16:Bool) (z17:List AV):Option Bool:=
 let y26:Bool:=decide (z1 < ((z6.length:Nat):Int))
 bif y26 then (bif decide ((0:Int)≤z1)&&decide (z1 < ((z6.length:Nat):Int)) then (withCons ((z6.getD ((z1).toNat) .undef).cells) fun h27 r28=>
 withInt .i64 h27 fun x29=>
 withCons r28 fun h30 r31=>
 withStr h30 fun s32=>
 withCons r31 fun h33 r34=>
 withInt .i64 h33 fun x35=>
 withCons r34 fun h36 r37=>
 withStr h36 fun s38=>
 bif decide ((0:Int)≤z1)&&decide (z1 < ((z14.length:Nat):Int)) then (withCons ((z14.getD ((z1).toNat) .undef).cells) fun h39 r40=>
 withInt .i64 h39 fun x41=>
 withCons r40 fun h42 r43=>
 withStr h42 fun s44=>
 withCons r43 fun h45 r46=>
 withInt .i64 h45 fun x47=>
 withCons r46 fun h48 r49=>
 withStr h48 fun s50=>
 let y51:Bool:=!((x29==x41)&&((s32==s44)&&((x35==x47)&&((s38==s50)&&true))))
 bif y51 then (some false) else (c (.z9 (IntKind.i64.wrap (z1+1)) z2 z3 z4 z5 z6 z7 z8 z9 z10 z11 z12 z13 z14 z15 z16 z17))) else none) else none) else (c (.z14 0 z2 z3 z4 z5 z6 z7 z8 z9 z10 z11 z12 z13 z14 z15 z16 z17))
def Q35.r14 (n:Nat) (c:Q35.Z→Option Bool) (z1:Int) (z2 z3:ByteArray) (z4 z5 z6 z7:List AV) (z8:Bool) (z9:List AV) (z10 z11:ByteArray) (z12 z13 z14 z15:List AV) (z16:Bool) (z17:List AV):Option Bool:=
 let y52:Bool:=decide (z1 < ((z9.length:Nat):Int))
 bif y52 then (bif decide ((0:Int)≤z1)&&decide (z1 < ((z9.length:Nat):Int)) then (withCons ((z9.getD ((z1).toNat) .undef).cells) fun h53 r54=>
 withBool h53 fun b55=>
 withCons r54 fun h56 r57=>
 withSl ⟨true,104⟩ 4 h56 fun xs58=>
 bif decide ((0:Int)≤z1)&&decide (z1 < ((z17.length:Nat):Int)) then (withCons ((z17.getD ((z1).toNat) .undef).cells) fun h59 r60=>
 withBool h59 fun b61=>
 withCons r60 fun h62 r63=>
 withSl ⟨true,104⟩ 4 h62 fun xs64=>
 bif !(b55==b61) then (some false) else (let y65:Bool:=((xs58.length:Nat):Int) != ((xs64.length:Nat):Int)
 bif y65 then (some false) else (c (.z20 z1 0 z2 z3 z4 z5 z6 z7 z8 z9 z10 z11 z12 z13 z14 z15 z16 z17 b55 xs58 b61 xs64)))) else none) else none) else (some true)
def Q35.r20 (n:Nat) (c:Q35.Z→Option Bool) (z1 z2:Int) (z3 z4:ByteArray) (z5 z6 z7 z8:List AV) (z9:Bool) (z10:List AV) (z11 z12:ByteArray) (z13 z14 z15 z16:List AV) (z17:Bool) (z18:List AV) (z19:Bool) (z20:List AV) (z21:Bool) (z22:List AV):Option Bool:=
 let y66:Bool:=decide (z2 < ((z20.length:Nat):Int))
 bif y66 then (bif decide ((0:Int)≤z2)&&decide (z2 < ((z20.length:Nat):Int)) then (withCons ((z20.getD ((z2).toNat) .undef).cells) fun h67 r68=>
 withStr h67 fun s69=>
 withCons r68 fun h70 r71=>
 withInt .i64 h70 fun x72=>
 withCons r71 fun h73 r74=>
 withInt .i64 h73 fun x75=>
 withCons r74 fun h76 r77=>
 withStr h76 fun s78=>
 bif decide ((0:Int)≤z2)&&decide (z2 < ((z22.length:Nat):Int)) then (withCons ((z22.getD ((z2).toNat) .undef).cells) fun h79 r80=>
 withStr h79 fun s81=>
 withCons r80 fun h82 r83=>
 withInt .i64 h82 fun x84=>
 withCons r83 fun h85 r86=>
 withInt .i64 h85 fun x87=>
 withCons r86 fun h88 r89=>
 withStr h88 fun s90=>
 let y91:Bool:=!((s69==s81)&&((x72==x84)&&((x75==x87)&&((s78==s90)&&true))))
 bif y91 then (some false) else (c (.z20 z1 (IntKind.i64.wrap (z2+1)) z3 z4 z5 z6 z7 z8 z9 z10 z11 z12 z13 z14 z15 z16 z17 z18 z19 z20 z21 z22))) else none) else none) else (c (.z14 (IntKind.i64.wrap (z1+1)) z3 z4 z5 z6 z7 z8 z9 z10 z11 z12 z13 z14 z15 z16 z17 z18))
def Q35.r (n:Nat) (c:Q35.Z→Option Bool):Q35.Z→Option Bool
 | .z2=>Q35.r2 n c
 | .z4 z1 z2 z3 z4 z5 z6 z7 z8 z9 z10 z11 z12 z13 z14 z15 z16 z17=>Q35.r4 n c z1 z2 z3 z4 z5 z6 z7 z8 z9 z10 z11 z12 z13 z14 z15 z16 z17
 | .z9 z1 z2 z3 z4 z5 z6 z7 z8 z9 z10 z11 z12 z13 z14 z15 z16 z17=>Q35.r9 n c z1 z2 z3 z4 z5 z6 z7 z8 z9 z10 z11 z12 z13 z14 z15 z16 z17
 | .z14 z1 z2 z3 z4 z5 z6 z7 z8 z9 z10 z11 z12 z13 z14 z15 z16 z17=>Q35.r14 n c z1 z2 z3 z4 z5 z6 z7 z8 z9 z10 z11 z12 z13 z14 z15 z16 z17
 | .z20 z1 z2 z3 z4 z5 z6 z7 z8 z9 z10 z11 z12 z13 z14 z15 z16 z17 z18 z19 z20 z21 z22=>Q35.r20 n c z1 z2 z3 z4 z5 z6 z7 z8 z9 z10 z11 z12 z13 z14 z15 z16 z17 z18 z19 z20 z21 z22
def Q35.e (n:Nat) (c:Q35.Z→Option Bool) (a0 a1:ByteArray) (a2 a3 a4 a5:List AV) (a6:Bool) (a7:List AV) (a8 a9:ByteArray) (a10 a11 a12 a13:List AV) (a14:Bool) (a15:List AV):Option Bool:=
 bif !(a0.toList==a8.toList) then (c .z2) else (bif !(a1.toList==a9.toList) then (c .z2) else ((Q1y.F n a2 a10).bind fun p1=>
 bif !p1 then (c .z2) else (let y2:Bool:=((a3.length:Nat):Int) != ((a11.length:Nat):Int)
 bif y2 then (c .z2) else (let y3:Bool:=((a4.length:Nat):Int) != ((a12.length:Nat):Int)
 bif y3 then (c .z2) else ((Q3m.F n a5 a13).bind fun p4=>
 bif !p4 then (c .z2) else (bif !(a6==a14) then (c .z2) else (let y5:Bool:=((a7.length:Nat):Int) != ((a15.length:Nat):Int)
 bif y5 then (c .z2) else (c (.z4 0 a0 a1 a2 a3 a4 a5 a6 a7 a8 a9 a10 a11 a12 a13 a14 a15)))))))))
def Q35.E (n:Nat) (c:Q35.Z→Option Bool):Q35.A→Option Q35.T:=fun (a0,a1,a2,a3,a4,a5,a6,a7,a8,a9,a10,a11,a12,a13,a14,a15)=>Q35.e n c a0 a1 a2 a3 a4 a5 a6 a7 a8 a9 a10 a11 a12 a13 a14 a15
def Q35.l (n:Nat):Nat→Q35.Z→Option Bool:=loopL (Q35.r n)
def Q35.F (n:Nat) (a0 a1:ByteArray) (a2 a3 a4 a5:List AV) (a6:Bool) (a7:List AV) (a8 a9:ByteArray) (a10 a11 a12 a13:List AV) (a14:Bool) (a15:List AV):Option Bool:=Q35.e n (Q35.l n n) a0 a1 a2 a3 a4 a5 a6 a7 a8 a9 a10 a11 a12 a13 a14 a15
def Q35.FA (n:Nat):Q35.A→Option Q35.T:=Q35.E n (Q35.l n n)
theorem Q35.hands (n:Nat):∀ a p,Q35.FA n a=some p→HandsIn Tryz.prog 70 (Q35.i a) (Q35.p p):=
 pf_hands (C:=Q35.C n) (cut:=Q35.cut) (t:=Q35.t) (s:=Q35.s) (e:=Q35.E n) (r:=Q35.r n) (n:=n) cfg mixed globs rfl Q35.qi (Q35.tells n) Tryz.func70 (by kernel_rfl) (by kernel_rfl) (fun rec a=>by kernel_rfl) (fun rec z=>by cases z <;> kernel_rfl)
def Q35.via {R:Type} (n:Nat):List AV→(AV→Option R)→Option R:=viaK (Q35.FA n) Q35.o Q35.p
theorem Q35.tells1 {R:Type} (n:Nat) (xs:List AV):Tells1 (R:=R) Tryz.prog 70 xs (Q35.via n xs):=tells_via Q35.oi (fun a=>by kernel_rfl) (Q35.hands n) xs
end Go.Proofs.YtmpglmcjoelciaaGreatDoor.Ev
namespace Go.Proofs.YtmpglmcjoelciaaGreatDoor.Ev
open Go Go.Proofs Go.Proofs.Ev
set_option linter.unusedVariables false
set_option maxRecDepth 100000
abbrev Q36.A:=Bool × ByteArray × ByteArray × List AV × List AV × Bool × ByteArray × ByteArray × List AV × List AV × List AV × List AV × Bool × List AV × Bool × ByteArray × ByteArray × List AV × List AV × Bool × ByteArray × ByteArray × List AV × List AV × List AV × List AV × Bool × List AV
abbrev Q36.T:=Bool
def Q36.i:Q36.A→List AV:=fun (a0,a1,a2,a3,a4,a5,a6,a7,a8,a9,a10,a11,a12,a13,a14,a15,a16,a17,a18,a19,a20,a21,a22,a23,a24,a25,a26,a27)=>[AV.agg [vb a0,vs a1,vs a2,.sl ⟨true,125⟩ 4 a3,.sl ⟨true,111⟩ 2 a4,vb a5,vs a6,vs a7,.sl ⟨true,9⟩ 1 a8,.sl ⟨true,95⟩ 3 a9,.sl ⟨true,97⟩ 4 a10,.sl ⟨true,111⟩ 2 a11,vb a12,.sl ⟨false,100⟩ 2 a13],AV.agg [vb a14,vs a15,vs a16,.sl ⟨true,125⟩ 4 a17,.sl ⟨true,111⟩ 2 a18,vb a19,vs a20,vs a21,.sl ⟨true,9⟩ 1 a22,.sl ⟨true,95⟩ 3 a23,.sl ⟨true,97⟩ 4 a24,.sl ⟨true,111⟩ 2 a25,vb a26,.sl ⟨false,100⟩ 2 a27]]
def Q36.o (xs:List AV):Option Q36.A:=match xs with | [.agg [.v (.bool a0),.v (.string a1),.v (.string a2),.sl ⟨true,125⟩ 4 a3,.sl ⟨true,111⟩ 2 a4,.v (.bool a5),.v (.string a6),.v (.string a7),.sl ⟨true,9⟩ 1 a8,.sl ⟨true,95⟩ 3 a9,.sl ⟨true,97⟩ 4 a10,.sl ⟨true,111⟩ 2 a11,.v (.bool a12),.sl ⟨false,100⟩ 2 a13],.agg [.v (.bool a14),.v (.string a15),.v (.string a16),.sl ⟨true,125⟩ 4 a17,.sl ⟨true,111⟩ 2 a18,.v (.bool a19),.v (.string a20),.v (.string a21),.sl ⟨true,9⟩ 1 a22,.sl ⟨true,95⟩ 3 a23,.sl ⟨true,97⟩ 4 a24,.sl ⟨true,111⟩ 2 a25,.v (.bool a26),.sl ⟨false,100⟩ 2 a27]]=>some (a0,a1,a2,a3,a4,a5,a6,a7,a8,a9,a10,a11,a12,a13,a14,a15,a16,a17,a18,a19,a20,a21,a22,a23,a24,a25,a26,a27) | _=>none
theorem Q36.oi:∀ xs a,Q36.o xs=some a→xs=Q36.i a:=by
 intro xs a h
 unfold Q36.o at h
 split at h
 ·cases h; rfl
 ·cases h
def Q36.p (p:Q36.T):AV:=vb p
def Q36.q (x:AV):Option Q36.T:=match x with | .v (.bool p0)=>some p0 | _=>none
theorem Q36.qi:∀ x p,Q36.q x=some p→x=Q36.p p:=by
 intro x p h
 unfold Q36.q at h
 split at h
 ·cases h; rfl
 ·cases h
def Q36.C {R:Type} (n:Nat) (f:FuncId) (xs:List AV):(AV→Option R)→Option R:=
 bif Nat.beq f 69 then Q33.via n xs else bif Nat.beq f 70 then Q35.via n xs else fun _=>none
theorem Q36.tells {R:Type} (n:Nat):Tells (R:=R) Tryz.prog (Q36.C n):=fun _ xs=>tells_at (Q33.tells1 n xs) (tells_at (Q35.tells1 n xs) (Tells1.none))
def Q36.cut (r:Nat):Option Keep:=match r with  | _=>none
def Q36.e (n:Nat) (a0:Bool) (a1 a2:ByteArray) (a3 a4:List AV) (a5:Bool) (a6 a7:ByteArray) (a8 a9 a10 a11:List AV) (a12:Bool) (a13:List AV) (a14:Bool) (a15 a16:ByteArray) (a17 a18:List AV) (a19:Bool) (a20 a21:ByteArray) (a22 a23 a24 a25:List AV) (a26:Bool) (a27:List AV):Option Bool:=
 bif a0==a14 then ((Q33.F n a1 a2 a3 a4 a5 a15 a16 a17 a18 a19).bind fun p1=>
 bif p1 then ((Q35.F n a6 a7 a8 a9 a10 a11 a12 a13 a20 a21 a22 a23 a24 a25 a26 a27).bind fun p2=>
 some p2) else (some false)) else (some false)
def Q36.E (n:Nat):Q36.A→Option Q36.T:=fun (a0,a1,a2,a3,a4,a5,a6,a7,a8,a9,a10,a11,a12,a13,a14,a15,a16,a17,a18,a19,a20,a21,a22,a23,a24,a25,a26,a27)=>Q36.e n a0 a1 a2 a3 a4 a5 a6 a7 a8 a9 a10 a11 a12 a13 a14 a15 a16 a17 a18 a19 a20 a21 a22 a23 a24 a25 a26 a27
def Q36.F (n:Nat) (a0:Bool) (a1 a2:ByteArray) (a3 a4:List AV) (a5:Bool) (a6 a7:ByteArray) (a8 a9 a10 a11:List AV) (a12:Bool) (a13:List AV) (a14:Bool) (a15 a16:ByteArray) (a17 a18:List AV) (a19:Bool) (a20 a21:ByteArray) (a22 a23 a24 a25:List AV) (a26:Bool) (a27:List AV):Option Bool:=Q36.e n a0 a1 a2 a3 a4 a5 a6 a7 a8 a9 a10 a11 a12 a13 a14 a15 a16 a17 a18 a19 a20 a21 a22 a23 a24 a25 a26 a27
def Q36.FA (n:Nat):Q36.A→Option Q36.T:=Q36.E n
theorem Q36.hands (n:Nat):∀ a p,Q36.FA n a=some p→HandsIn Tryz.prog 24 (Q36.i a) (Q36.p p):=
 pf_hands (C:=Q36.C n) (cut:=Q36.cut) (Z:=Empty) (t:=nofun) (s:=nofun) (e:=fun _=>Q36.E n) (r:=fun _ z=>nomatch z) (n:=n) cfg mixed globs rfl Q36.qi (Q36.tells n) Tryz.func24 (by kernel_rfl) (by kernel_rfl) (fun rec a=>by kernel_rfl) (fun rec z=>nomatch z)
def Q36.via {R:Type} (n:Nat):List AV→(AV→Option R)→Option R:=viaK (Q36.FA n) Q36.o Q36.p
theorem Q36.tells1 {R:Type} (n:Nat) (xs:List AV):Tells1 (R:=R) Tryz.prog 24 xs (Q36.via n xs):=tells_via Q36.oi (fun a=>by kernel_rfl) (Q36.hands n) xs
end Go.Proofs.YtmpglmcjoelciaaGreatDoor.Ev
namespace Go.Proofs.YtmpglmcjoelciaaGreatDoor.Ev
open Go Go.Proofs Go.Proofs.Ev
set_option linter.unusedVariables false
set_option maxRecDepth 100000
abbrev Q2g.A:=ByteArray × ByteArray × List AV × List AV × Bool
abbrev Q2g.T:=Bool
def Q2g.i:Q2g.A→List AV:=fun (a0,a1,a2,a3,a4)=>[AV.agg [vs a0,vs a1,.sl ⟨true,125⟩ 4 a2,.sl ⟨true,111⟩ 2 a3,vb a4]]
def Q2g.o (xs:List AV):Option Q2g.A:=match xs with | [.agg [.v (.string a0),.v (.string a1),.sl ⟨true,125⟩ 4 a2,.sl ⟨true,111⟩ 2 a3,.v (.bool a4)]]=>some (a0,a1,a2,a3,a4) | _=>none
theorem Q2g.oi:∀ xs a,Q2g.o xs=some a→xs=Q2g.i a:=by
 intro xs a h
 unfold Q2g.o at h
 split at h
 ·cases h; rfl
 ·cases h
def Q2g.p (p:Q2g.T):AV:=vb p
def Q2g.q (x:AV):Option Q2g.T:=match x with | .v (.bool p0)=>some p0 | _=>none
theorem Q2g.qi:∀ x p,Q2g.q x=some p→x=Q2g.p p:=by
 intro x p h
 unfold Q2g.q at h
 split at h
 ·cases h; rfl
 ·cases h
inductive Q2g.Z where
 | z2
 | z4 (z1:Int) (z2 z3:ByteArray) (z4 z5:List AV) (z6:Bool)
def Q2g.C {R:Type} (n:Nat) (f:FuncId) (xs:List AV):(AV→Option R)→Option R:=
 bif Nat.beq f 50 then Q2k.via n xs else fun _=>none
theorem Q2g.tells {R:Type} (n:Nat):Tells (R:=R) Tryz.prog (Q2g.C n):=fun _ xs=>tells_at (Q2k.tells1 n xs) (Tells1.none)
def Q2g.cut (r:Nat):Option Keep:=match r with | 2=>some ⟨[],[]⟩ | 4=>some ⟨[1,3],[]⟩ | _=>none
def Q2g.t (z:Q2g.Z):List Item:=(todoOf (match z with | .z2=>2 | .z4 _ _ _ _ _ _=>4) 1000 [.code (Tryz.f71.body.getD .skip)]).getD []
def Q2g.s:Q2g.Z→St
 | .z2=>⟨spr 48 0 [],Mem.ofList [],0⟩
 | .z4 z1 z2 z3 z4 z5 z6=>⟨spr 48 0 [(1,.ptr 0 0),(3,vi z1)],Mem.ofList [.box 48 [vs z2,vs z3,.sl ⟨true,125⟩ 4 z4,.sl ⟨true,111⟩ 2 z5,vb z6]],1⟩
def Q2g.r2 (n:Nat) (c:Q2g.Z→Option Bool)  : Option Bool:=
 some false
def Q2g.r4 (n:Nat) (c:Q2g.Z→Option Bool) (z1:Int) (z2 z3:ByteArray) (z4 z5:List AV) (z6:Bool):Option Bool:=
 let y5:Bool:=decide (z1 < ((z4.length:Nat):Int))
 bif y5 then (bif decide ((0:Int)≤z1)&&decide (z1 < ((z4.length:Nat):Int)) then (withCons ((z4.getD ((z1).toNat) .undef).cells) fun h6 r7=>
 withStr h6 fun s8=>
 let y9:Bool:=decide (((s8.size:Nat):Int) > 100)
 bif y9 then (some false) else (c (.z4 (IntKind.i64.wrap (z1+1)) z2 z3 z4 z5 z6))) else none) else ((Q2k.F n z5).bind fun p10=>
 some p10)
def Q2g.r (n:Nat) (c:Q2g.Z→Option Bool):Q2g.Z→Option Bool
 | .z2=>Q2g.r2 n c
 | .z4 z1 z2 z3 z4 z5 z6=>Q2g.r4 n c z1 z2 z3 z4 z5 z6
def Q2g.e (n:Nat) (c:Q2g.Z→Option Bool) (a0 a1:ByteArray) (a2 a3:List AV) (a4:Bool):Option Bool:=
 let y1:Bool:=decide (((a0.size:Nat):Int) > 100)
 bif y1 then (c .z2) else (let y2:Bool:=decide (((a1.size:Nat):Int) > 100)
 bif y2 then (c .z2) else (let y3:Bool:=decide (((a2.length:Nat):Int) > 40)
 bif y3 then (c .z2) else (let y4:Bool:=decide (((a3.length:Nat):Int) > 40)
 bif y4 then (c .z2) else (c (.z4 0 a0 a1 a2 a3 a4)))))
def Q2g.E (n:Nat) (c:Q2g.Z→Option Bool):Q2g.A→Option Q2g.T:=fun (a0,a1,a2,a3,a4)=>Q2g.e n c a0 a1 a2 a3 a4
def Q2g.l (n:Nat):Nat→Q2g.Z→Option Bool:=loopL (Q2g.r n)
def Q2g.F (n:Nat) (a0 a1:ByteArray) (a2 a3:List AV) (a4:Bool):Option Bool:=Q2g.e n (Q2g.l n n) a0 a1 a2 a3 a4
def Q2g.FA (n:Nat):Q2g.A→Option Q2g.T:=Q2g.E n (Q2g.l n n)
theorem Q2g.hands (n:Nat):∀ a p,Q2g.FA n a=some p→HandsIn Tryz.prog 71 (Q2g.i a) (Q2g.p p):=
 pf_hands (C:=Q2g.C n) (cut:=Q2g.cut) (t:=Q2g.t) (s:=Q2g.s) (e:=Q2g.E n) (r:=Q2g.r n) (n:=n) cfg mixed globs rfl Q2g.qi (Q2g.tells n) Tryz.func71 (by kernel_rfl) (by kernel_rfl) (fun rec a=>by kernel_rfl) (fun rec z=>by cases z <;> kernel_rfl)
def Q2g.via {R:Type} (n:Nat):List AV→(AV→Option R)→Option R:=viaK (Q2g.FA n) Q2g.o Q2g.p
theorem Q2g.tells1 {R:Type} (n:Nat) (xs:List AV):Tells1 (R:=R) Tryz.prog 71 xs (Q2g.via n xs):=tells_via Q2g.oi (fun a=>by kernel_rfl) (Q2g.hands n) xs
end Go.Proofs.YtmpglmcjoelciaaGreatDoor.Ev
namespace Go.Proofs.YtmpglmcjoelciaaGreatDoor.Ev
open Go Go.Proofs Go.Proofs.Ev
set_option linter.unusedVariables false
set_option maxRecDepth 100000
abbrev Q2m.A:=Bool × ByteArray × ByteArray × List AV × List AV × Bool × ByteArray × ByteArray × List AV × List AV × List AV × List AV × Bool × List AV
abbrev Q2m.T:=Bool
def Q2m.i:Q2m.A→List AV:=fun (a0,a1,a2,a3,a4,a5,a6,a7,a8,a9,a10,a11,a12,a13)=>[AV.agg [vb a0,vs a1,vs a2,.sl ⟨true,125⟩ 4 a3,.sl ⟨true,111⟩ 2 a4,vb a5,vs a6,vs a7,.sl ⟨true,9⟩ 1 a8,.sl ⟨true,95⟩ 3 a9,.sl ⟨true,97⟩ 4 a10,.sl ⟨true,111⟩ 2 a11,vb a12,.sl ⟨false,100⟩ 2 a13]]
def Q2m.o (xs:List AV):Option Q2m.A:=match xs with | [.agg [.v (.bool a0),.v (.string a1),.v (.string a2),.sl ⟨true,125⟩ 4 a3,.sl ⟨true,111⟩ 2 a4,.v (.bool a5),.v (.string a6),.v (.string a7),.sl ⟨true,9⟩ 1 a8,.sl ⟨true,95⟩ 3 a9,.sl ⟨true,97⟩ 4 a10,.sl ⟨true,111⟩ 2 a11,.v (.bool a12),.sl ⟨false,100⟩ 2 a13]]=>some (a0,a1,a2,a3,a4,a5,a6,a7,a8,a9,a10,a11,a12,a13) | _=>none
theorem Q2m.oi:∀ xs a,Q2m.o xs=some a→xs=Q2m.i a:=by
 intro xs a h
 unfold Q2m.o at h
 split at h
 ·cases h; rfl
 ·cases h
def Q2m.p (p:Q2m.T):AV:=vb p
def Q2m.q (x:AV):Option Q2m.T:=match x with | .v (.bool p0)=>some p0 | _=>none
theorem Q2m.qi:∀ x p,Q2m.q x=some p→x=Q2m.p p:=by
 intro x p h
 unfold Q2m.q at h
 split at h
 ·cases h; rfl
 ·cases h
def Q2m.C {R:Type} (n:Nat) (f:FuncId) (xs:List AV):(AV→Option R)→Option R:=
 bif Nat.beq f 16 then Q2i.via n xs else bif Nat.beq f 71 then Q2g.via n xs else fun _=>none
theorem Q2m.tells {R:Type} (n:Nat):Tells (R:=R) Tryz.prog (Q2m.C n):=fun _ xs=>tells_at (Q2i.tells1 n xs) (tells_at (Q2g.tells1 n xs) (Tells1.none))
def Q2m.cut (r:Nat):Option Keep:=match r with  | _=>none
def Q2m.e (n:Nat) (a0:Bool) (a1 a2:ByteArray) (a3 a4:List AV) (a5:Bool) (a6 a7:ByteArray) (a8 a9 a10 a11:List AV) (a12:Bool) (a13:List AV):Option Bool:=
 (Q2g.F n a1 a2 a3 a4 a5).bind fun p1=>
 bif p1 then ((Q2i.F n a6 a7 a8 a9 a10 a11 a12 a13).bind fun p2=>
 some p2) else (some false)
def Q2m.E (n:Nat):Q2m.A→Option Q2m.T:=fun (a0,a1,a2,a3,a4,a5,a6,a7,a8,a9,a10,a11,a12,a13)=>Q2m.e n a0 a1 a2 a3 a4 a5 a6 a7 a8 a9 a10 a11 a12 a13
def Q2m.F (n:Nat) (a0:Bool) (a1 a2:ByteArray) (a3 a4:List AV) (a5:Bool) (a6 a7:ByteArray) (a8 a9 a10 a11:List AV) (a12:Bool) (a13:List AV):Option Bool:=Q2m.e n a0 a1 a2 a3 a4 a5 a6 a7 a8 a9 a10 a11 a12 a13
def Q2m.FA (n:Nat):Q2m.A→Option Q2m.T:=Q2m.E n
theorem Q2m.hands (n:Nat):∀ a p,Q2m.FA n a=some p→HandsIn Tryz.prog 25 (Q2m.i a) (Q2m.p p):=
 pf_hands (C:=Q2m.C n) (cut:=Q2m.cut) (Z:=Empty) (t:=nofun) (s:=nofun) (e:=fun _=>Q2m.E n) (r:=fun _ z=>nomatch z) (n:=n) cfg mixed globs rfl Q2m.qi (Q2m.tells n) Tryz.func25 (by kernel_rfl) (by kernel_rfl) (fun rec a=>by kernel_rfl) (fun rec z=>nomatch z)
def Q2m.via {R:Type} (n:Nat):List AV→(AV→Option R)→Option R:=viaK (Q2m.FA n) Q2m.o Q2m.p
theorem Q2m.tells1 {R:Type} (n:Nat) (xs:List AV):Tells1 (R:=R) Tryz.prog 25 xs (Q2m.via n xs):=tells_via Q2m.oi (fun a=>by kernel_rfl) (Q2m.hands n) xs
end Go.Proofs.YtmpglmcjoelciaaGreatDoor.Ev
namespace Go.Proofs.YtmpglmcjoelciaaGreatDoor.Ev
open Go Go.Proofs Go.Proofs.Ev
set_option linter.unusedVariables false
set_option maxRecDepth 100000
abbrev Q0t.A:=Bool × ByteArray × ByteArray × List AV × List AV × Bool × ByteArray × ByteArray × List AV × List AV × List AV × List AV × Bool × List AV
abbrev Q0t.T:=Bool
def Q0t.i:Q0t.A→List AV:=fun (a0,a1,a2,a3,a4,a5,a6,a7,a8,a9,a10,a11,a12,a13)=>[AV.agg [vb a0,vs a1,vs a2,.sl ⟨true,125⟩ 4 a3,.sl ⟨true,111⟩ 2 a4,vb a5,vs a6,vs a7,.sl ⟨true,9⟩ 1 a8,.sl ⟨true,95⟩ 3 a9,.sl ⟨true,97⟩ 4 a10,.sl ⟨true,111⟩ 2 a11,vb a12,.sl ⟨false,100⟩ 2 a13]]
def Q0t.o (xs:List AV):Option Q0t.A:=match xs with | [.agg [.v (.bool a0),.v (.string a1),.v (.string a2),.sl ⟨true,125⟩ 4 a3,.sl ⟨true,111⟩ 2 a4,.v (.bool a5),.v (.string a6),.v (.string a7),.sl ⟨true,9⟩ 1 a8,.sl ⟨true,95⟩ 3 a9,.sl ⟨true,97⟩ 4 a10,.sl ⟨true,111⟩ 2 a11,.v (.bool a12),.sl ⟨false,100⟩ 2 a13]]=>some (a0,a1,a2,a3,a4,a5,a6,a7,a8,a9,a10,a11,a12,a13) | _=>none
theorem Q0t.oi:∀ xs a,Q0t.o xs=some a→xs=Q0t.i a:=by
 intro xs a h
 unfold Q0t.o at h
 split at h
 ·cases h; rfl
 ·cases h
def Q0t.p (p:Q0t.T):AV:=vb p
def Q0t.q (x:AV):Option Q0t.T:=match x with | .v (.bool p0)=>some p0 | _=>none
theorem Q0t.qi:∀ x p,Q0t.q x=some p→x=Q0t.p p:=by
 intro x p h
 unfold Q0t.q at h
 split at h
 ·cases h; rfl
 ·cases h
def Q0t.C {R:Type} (n:Nat) (f:FuncId) (xs:List AV):(AV→Option R)→Option R:=
 fun _=>none
theorem Q0t.tells {R:Type} (n:Nat):Tells (R:=R) Tryz.prog (Q0t.C n):=fun _ xs=>Tells1.none
def Q0t.cut (r:Nat):Option Keep:=match r with  | _=>none
def Q0t.e (n:Nat) (a0:Bool) (a1 a2:ByteArray) (a3 a4:List AV) (a5:Bool) (a6 a7:ByteArray) (a8 a9 a10 a11:List AV) (a12:Bool) (a13:List AV):Option Bool:=
 bif a0 then (let y1:Bool:=a1.toList==(⟨#[]⟩ : ByteArray).toList
 bif y1 then (let y2:Bool:=a2.toList==(⟨#[]⟩ : ByteArray).toList
 bif y2 then (let y3:Bool:=((a3.length:Nat):Int)==0
 bif y3 then (let y4:Bool:=((a4.length:Nat):Int)==0
 bif y4 then (some (!a5)) else (some false)) else (some false)) else (some false)) else (some false)) else (let y5:Bool:=a6.toList==(⟨#[]⟩ : ByteArray).toList
 bif y5 then (let y6:Bool:=a7.toList==(⟨#[]⟩ : ByteArray).toList
 bif y6 then (let y7:Bool:=((a8.length:Nat):Int)==0
 bif y7 then (let y8:Bool:=((a9.length:Nat):Int)==0
 bif y8 then (let y9:Bool:=((a10.length:Nat):Int)==0
 bif y9 then (let y10:Bool:=((a11.length:Nat):Int)==0
 bif y10 then (bif !a12 then (let y11:Bool:=((a13.length:Nat):Int)==0
 some y11) else (some false)) else (some false)) else (some false)) else (some false)) else (some false)) else (some false)) else (some false))
def Q0t.E (n:Nat):Q0t.A→Option Q0t.T:=fun (a0,a1,a2,a3,a4,a5,a6,a7,a8,a9,a10,a11,a12,a13)=>Q0t.e n a0 a1 a2 a3 a4 a5 a6 a7 a8 a9 a10 a11 a12 a13
def Q0t.F (n:Nat) (a0:Bool) (a1 a2:ByteArray) (a3 a4:List AV) (a5:Bool) (a6 a7:ByteArray) (a8 a9 a10 a11:List AV) (a12:Bool) (a13:List AV):Option Bool:=Q0t.e n a0 a1 a2 a3 a4 a5 a6 a7 a8 a9 a10 a11 a12 a13
def Q0t.FA (n:Nat):Q0t.A→Option Q0t.T:=Q0t.E n
theorem Q0t.hands (n:Nat):∀ a p,Q0t.FA n a=some p→HandsIn Tryz.prog 72 (Q0t.i a) (Q0t.p p):=
 pf_hands (C:=Q0t.C n) (cut:=Q0t.cut) (Z:=Empty) (t:=nofun) (s:=nofun) (e:=fun _=>Q0t.E n) (r:=fun _ z=>nomatch z) (n:=n) cfg mixed globs rfl Q0t.qi (Q0t.tells n) Tryz.func72 (by kernel_rfl) (by kernel_rfl) (fun rec a=>by kernel_rfl) (fun rec z=>nomatch z)
def Q0t.via {R:Type} (n:Nat):List AV→(AV→Option R)→Option R:=viaK (Q0t.FA n) Q0t.o Q0t.p
theorem Q0t.tells1 {R:Type} (n:Nat) (xs:List AV):Tells1 (R:=R) Tryz.prog 72 xs (Q0t.via n xs):=tells_via Q0t.oi (fun a=>by kernel_rfl) (Q0t.hands n) xs
end Go.Proofs.YtmpglmcjoelciaaGreatDoor.Ev
namespace Go.Proofs.YtmpglmcjoelciaaGreatDoor.Ev
open Go Go.Proofs Go.Proofs.Ev
set_option linter.unusedVariables false
set_option maxRecDepth 100000
abbrev Q0n.A:=ByteArray × ByteArray × ByteArray × Bool
abbrev Q0n.T:=List AV
def Q0n.i:Q0n.A→List AV:=fun (a0,a1,a2,a3)=>[vs a0,vs a1,vs a2,vb a3]
def Q0n.o (xs:List AV):Option Q0n.A:=match xs with | [.v (.string a0),.v (.string a1),.v (.string a2),.v (.bool a3)]=>some (a0,a1,a2,a3) | _=>none
theorem Q0n.oi:∀ xs a,Q0n.o xs=some a→xs=Q0n.i a:=by
 intro xs a h
 unfold Q0n.o at h
 split at h
 ·cases h; rfl
 ·cases h
def Q0n.p (p:Q0n.T):AV:=.fr ⟨true,9⟩ 1 p
def Q0n.q (x:AV):Option Q0n.T:=match x with | .fr ⟨true,9⟩ 1 p0=>some p0 | _=>none
theorem Q0n.qi:∀ x p,Q0n.q x=some p→x=Q0n.p p:=by
 intro x p h
 unfold Q0n.q at h
 split at h
 ·cases h; rfl
 ·cases h
def Q0n.C {R:Type} (n:Nat) (f:FuncId) (xs:List AV):(AV→Option R)→Option R:=
 fun _=>none
theorem Q0n.tells {R:Type} (n:Nat):Tells (R:=R) Tryz.prog (Q0n.C n):=fun _ xs=>Tells1.none
def Q0n.cut (r:Nat):Option Keep:=match r with  | _=>none
def Q0n.e (n:Nat) (a0 a1 a2:ByteArray) (a3:Bool):Option (List AV):=
 chk (decide (a0.size+1≤9223372036854775807)) (chk (decide ((a0++(⟨#[32]⟩ : ByteArray)).size+a1.size≤9223372036854775807)) (let y1:ByteArray:=(a0++(⟨#[32]⟩ : ByteArray))++a1
 bif a3 then (chk (decide (y1.size+7≤9223372036854775807)) (let y2:ByteArray:=y1++(⟨#[32,85,78,73,81,85,69]⟩ : ByteArray)
 chk (decide (2+a2.size≤9223372036854775807)) (let y3:ByteArray:=(⟨#[82,32]⟩ : ByteArray)++a2
 some [vs y2,vs y3]))) else (chk (decide (2+a2.size≤9223372036854775807)) (let y4:ByteArray:=(⟨#[82,32]⟩ : ByteArray)++a2
 some [vs y1,vs y4]))))
def Q0n.E (n:Nat):Q0n.A→Option Q0n.T:=fun (a0,a1,a2,a3)=>Q0n.e n a0 a1 a2 a3
def Q0n.F (n:Nat) (a0 a1 a2:ByteArray) (a3:Bool):Option (List AV):=Q0n.e n a0 a1 a2 a3
def Q0n.FA (n:Nat):Q0n.A→Option Q0n.T:=Q0n.E n
theorem Q0n.hands (n:Nat):∀ a p,Q0n.FA n a=some p→HandsIn Tryz.prog 73 (Q0n.i a) (Q0n.p p):=
 pf_hands (C:=Q0n.C n) (cut:=Q0n.cut) (Z:=Empty) (t:=nofun) (s:=nofun) (e:=fun _=>Q0n.E n) (r:=fun _ z=>nomatch z) (n:=n) cfg mixed globs rfl Q0n.qi (Q0n.tells n) Tryz.func73 (by kernel_rfl) (by kernel_rfl) (fun rec a=>by kernel_rfl) (fun rec z=>nomatch z)
def Q0n.via {R:Type} (n:Nat):List AV→(AV→Option R)→Option R:=viaK (Q0n.FA n) Q0n.o Q0n.p
theorem Q0n.tells1 {R:Type} (n:Nat) (xs:List AV):Tells1 (R:=R) Tryz.prog 73 xs (Q0n.via n xs):=tells_via Q0n.oi (fun a=>by kernel_rfl) (Q0n.hands n) xs
end Go.Proofs.YtmpglmcjoelciaaGreatDoor.Ev
namespace Go.Proofs.YtmpglmcjoelciaaGreatDoor.Ev
open Go Go.Proofs Go.Proofs.Ev
set_option linter.unusedVariables false
set_option maxRecDepth 100000
abbrev Q0v.A:=List AV
abbrev Q0v.T:=List AV
def Q0v.i:Q0v.A→List AV:=fun a0=>[.sl ⟨true,111⟩ 2 a0]
def Q0v.o (xs:List AV):Option Q0v.A:=match xs with | [.sl ⟨true,111⟩ 2 a0]=>some a0 | _=>none
theorem Q0v.oi:∀ xs a,Q0v.o xs=some a→xs=Q0v.i a:=by
 intro xs a h
 unfold Q0v.o at h
 split at h
 ·cases h; rfl
 ·cases h
def Q0v.p (p:Q0v.T):AV:=.fr ⟨true,9⟩ 1 p
def Q0v.q (x:AV):Option Q0v.T:=match x with | .fr ⟨true,9⟩ 1 p0=>some p0 | _=>none
theorem Q0v.qi:∀ x p,Q0v.q x=some p→x=Q0v.p p:=by
 intro x p h
 unfold Q0v.q at h
 split at h
 ·cases h; rfl
 ·cases h
inductive Q0v.Z where
 | z3 (z1:List AV) (z2 z3:Int) (z4:List AV)
def Q0v.C {R:Type} (n:Nat) (f:FuncId) (xs:List AV):(AV→Option R)→Option R:=
 fun _=>none
theorem Q0v.tells {R:Type} (n:Nat):Tells (R:=R) Tryz.prog (Q0v.C n):=fun _ xs=>Tells1.none
def Q0v.cut (r:Nat):Option Keep:=match r with | 3=>some ⟨[3,7,8,9],[(3,none,⟨true,9⟩,1)]⟩ | _=>none
def Q0v.t (z:Q0v.Z):List Item:=(todoOf (match z with | .z3 _ _ _ _=>3) 1000 [.code (Tryz.f75.body.getD .skip)]).getD []
def Q0v.s:Q0v.Z→St
 | .z3 z1 z2 z3 z4=>⟨spr 26 0 [(3,.own 0 0 none),(7,.sl ⟨true,111⟩ 2 z1),(8,vi z2),(9,vi z3)],Mem.ofList [.row ⟨true,9⟩ 1 z4],1⟩
def Q0v.r3 (n:Nat) (c:Q0v.Z→Option (List AV)) (z1:List AV) (z2 z3:Int) (z4:List AV):Option (List AV):=
 bif decide (z3 < z2) then (bif decide ((0:Int)≤z3)&&decide (z3 < ((z1.length:Nat):Int)) then (withCons ((z1.getD ((z3).toNat) .undef).cells) fun h1 r2=>
 withStr h1 fun s3=>
 withCons r2 fun h4 r5=>
 withBool h4 fun b6=>
 chk (decide (2+s3.size≤9223372036854775807)) (let y7:ByteArray:=(⟨#[75,32]⟩ : ByteArray)++s3
 bif b6 then (chk (decide (y7.size+8≤9223372036854775807)) (let y8:ByteArray:=y7++(⟨#[32,68,69,83,67,69,78,68]⟩ : ByteArray)
 bif decide (z4.length+[vs y8].length≤most) then (c (.z3 z1 z2 (IntKind.i64.wrap (z3+1)) (z4++[vs y8]))) else none)) else (bif decide (z4.length+[vs y7].length≤most) then (c (.z3 z1 z2 (IntKind.i64.wrap (z3+1)) (z4++[vs y7]))) else none))) else none) else (some z4)
def Q0v.r (n:Nat) (c:Q0v.Z→Option (List AV)):Q0v.Z→Option (List AV)
 | .z3 z1 z2 z3 z4=>Q0v.r3 n c z1 z2 z3 z4
def Q0v.e (n:Nat) (c:Q0v.Z→Option (List AV)) (a0:List AV):Option (List AV):=
 c (.z3 a0 ((a0.length:Nat):Int) 0 [])
def Q0v.E (n:Nat) (c:Q0v.Z→Option (List AV)):Q0v.A→Option Q0v.T:=fun a0=>Q0v.e n c a0
def Q0v.l (n:Nat):Nat→Q0v.Z→Option (List AV):=loopL (Q0v.r n)
def Q0v.F (n:Nat) (a0:List AV):Option (List AV):=Q0v.e n (Q0v.l n n) a0
def Q0v.FA (n:Nat):Q0v.A→Option Q0v.T:=Q0v.E n (Q0v.l n n)
theorem Q0v.hands (n:Nat):∀ a p,Q0v.FA n a=some p→HandsIn Tryz.prog 75 (Q0v.i a) (Q0v.p p):=
 pf_hands (C:=Q0v.C n) (cut:=Q0v.cut) (t:=Q0v.t) (s:=Q0v.s) (e:=Q0v.E n) (r:=Q0v.r n) (n:=n) cfg mixed globs rfl Q0v.qi (Q0v.tells n) Tryz.func75 (by kernel_rfl) (by kernel_rfl) (fun rec a=>by kernel_rfl) (fun rec z=>by cases z <;> kernel_rfl)
def Q0v.via {R:Type} (n:Nat):List AV→(AV→Option R)→Option R:=viaK (Q0v.FA n) Q0v.o Q0v.p
theorem Q0v.tells1 {R:Type} (n:Nat) (xs:List AV):Tells1 (R:=R) Tryz.prog 75 xs (Q0v.via n xs):=tells_via Q0v.oi (fun a=>by kernel_rfl) (Q0v.hands n) xs
end Go.Proofs.YtmpglmcjoelciaaGreatDoor.Ev
namespace Go.Proofs.YtmpglmcjoelciaaGreatDoor.Ev
open Go Go.Proofs Go.Proofs.Ev
set_option linter.unusedVariables false
set_option maxRecDepth 100000
abbrev Q15.A:=Bool × List AV
abbrev Q15.T:=ByteArray × Bool
def Q15.i:Q15.A→List AV:=fun (a0,a1)=>[AV.agg [vb a0,.sl ⟨true,104⟩ 4 a1]]
def Q15.o (xs:List AV):Option Q15.A:=match xs with | [.agg [.v (.bool a0),.sl ⟨true,104⟩ 4 a1]]=>some (a0,a1) | _=>none
theorem Q15.oi:∀ xs a,Q15.o xs=some a→xs=Q15.i a:=by
 intro xs a h
 unfold Q15.o at h
 split at h
 ·cases h; rfl
 ·cases h
def Q15.p (p:Q15.T):AV:=.tup [vs p.1,vb p.2]
def Q15.q (x:AV):Option Q15.T:=match x with | .tup [.v (.string p0),.v (.bool p1)]=>some (p0,p1) | _=>none
theorem Q15.qi:∀ x p,Q15.q x=some p→x=Q15.p p:=by
 intro x p h
 unfold Q15.q at h
 split at h
 ·cases h; rfl
 ·cases h
inductive Q15.Z where
 | z5 (z1:ByteArray) (z2:Bool) (z3:List AV) (z4 z5:Int)
 | z12 (z1:ByteArray) (z2:Bool) (z3:ByteArray) (z4:List AV) (z5 z6:Int) (z7:ByteArray) (z8 z9:Int) (z10:ByteArray)
def Q15.C {R:Type} (n:Nat) (f:FuncId) (xs:List AV):(AV→Option R)→Option R:=
 bif Nat.beq f 46 then Q0s.via n xs else bif Nat.beq f 76 then Q4e.via n xs else bif Nat.beq f 122 then Q4j.via n xs else fun _=>none
theorem Q15.tells {R:Type} (n:Nat):Tells (R:=R) Tryz.prog (Q15.C n):=fun _ xs=>tells_at (Q0s.tells1 n xs) (tells_at (Q4e.tells1 n xs) (tells_at (Q4j.tells1 n xs) (Tells1.none)))
def Q15.cut (r:Nat):Option Keep:=match r with | 5=>some ⟨[4,5,12,13,14],[]⟩ | 12=>some ⟨[4,5,7,8,12,13,14],[]⟩ | _=>none
def Q15.t (z:Q15.Z):List Item:=(todoOf (match z with | .z5 _ _ _ _ _=>5 | .z12 _ _ _ _ _ _ _ _ _ _=>12) 1000 [.code (Tryz.f77.body.getD .skip)]).getD []
def Q15.s:Q15.Z→St
 | .z5 z1 z2 z3 z4 z5=>⟨spr 62 0 [(4,vs z1),(5,vb z2),(12,.sl ⟨true,104⟩ 4 z3),(13,vi z4),(14,vi z5)],Mem.ofList [],0⟩
 | .z12 z1 z2 z3 z4 z5 z6 z7 z8 z9 z10=>⟨spr 62 0 [(4,vs z1),(5,vb z2),(7,.ptr 0 0),(8,vs z3),(12,.sl ⟨true,104⟩ 4 z4),(13,vi z5),(14,vi z6)],Mem.ofList [.box 104 [vs z7,vi z8,vi z9,vs z10]],1⟩
def Q15.r5 (n:Nat) (c:Q15.Z→Option (ByteArray × Bool)) (z1:ByteArray) (z2:Bool) (z3:List AV) (z4 z5:Int):Option (ByteArray × Bool):=
 bif decide (z5 < z4) then (bif decide ((0:Int)≤z5)&&decide (z5 < ((z3.length:Nat):Int)) then (withCons ((z3.getD ((z5).toNat) .undef).cells) fun h1 r2=>
 withStr h1 fun s3=>
 withCons r2 fun h4 r5=>
 withInt .i64 h4 fun x6=>
 withCons r5 fun h7 r8=>
 withInt .i64 h7 fun x9=>
 withCons r8 fun h10 r11=>
 withStr h10 fun s12=>
 bif decide (z5 > 0) then (chk (decide (z1.size+4≤9223372036854775807)) (let y13:ByteArray:=z1++(⟨#[32,65,78,68]⟩ : ByteArray)
 (Q4e.F n x9).bind fun p14=>
 let y15:Bool:=!(s12.toList==(⟨#[]⟩ : ByteArray).toList)
 bif y15 then ((Q4j.F n s12 (⟨#[39]⟩ : ByteArray) (⟨#[39,39]⟩ : ByteArray)).bind fun p16=>
 chk (decide (1+p16.size≤9223372036854775807)) (chk (decide (((⟨#[39]⟩ : ByteArray)++p16).size+1≤9223372036854775807)) (let y17:ByteArray:=((⟨#[39]⟩ : ByteArray)++p16)++(⟨#[39]⟩ : ByteArray)
 c (.z12 y13 z2 y17 z3 z4 z5 s3 x6 x9 s12)))) else (c (.z12 y13 z2 p14 z3 z4 z5 s3 x6 x9 s12)))) else ((Q4e.F n x9).bind fun p18=>
 let y19:Bool:=!(s12.toList==(⟨#[]⟩ : ByteArray).toList)
 bif y19 then ((Q4j.F n s12 (⟨#[39]⟩ : ByteArray) (⟨#[39,39]⟩ : ByteArray)).bind fun p20=>
 chk (decide (1+p20.size≤9223372036854775807)) (chk (decide (((⟨#[39]⟩ : ByteArray)++p20).size+1≤9223372036854775807)) (let y21:ByteArray:=((⟨#[39]⟩ : ByteArray)++p20)++(⟨#[39]⟩ : ByteArray)
 c (.z12 z1 z2 y21 z3 z4 z5 s3 x6 x9 s12)))) else (c (.z12 z1 z2 p18 z3 z4 z5 s3 x6 x9 s12)))) else none) else (some (z1,z2))
def Q15.r12 (n:Nat) (c:Q15.Z→Option (ByteArray × Bool)) (z1:ByteArray) (z2:Bool) (z3:ByteArray) (z4:List AV) (z5 z6:Int) (z7:ByteArray) (z8 z9:Int) (z10:ByteArray):Option (ByteArray × Bool):=
 chk (decide (1+z7.size≤9223372036854775807)) (chk (decide (((⟨#[32]⟩ : ByteArray)++z7).size+1≤9223372036854775807)) (let y22:ByteArray:=((⟨#[32]⟩ : ByteArray)++z7)++(⟨#[32]⟩ : ByteArray)
 bif decide ((0:Int)≤z8)&&decide (z8 < ((gr0.length:Nat):Int)) then (withCons ((gr0.getD ((z8).toNat) .undef).cells) fun h23 r24=>
 withStr h23 fun s25=>
 chk (decide (y22.size+s25.size≤9223372036854775807)) (chk (decide ((y22++s25).size+1≤9223372036854775807)) (let y26:ByteArray:=(y22++s25)++(⟨#[32]⟩ : ByteArray)
 chk (decide (y26.size+z3.size≤9223372036854775807)) (chk (decide (z1.size+(y26++z3).size≤9223372036854775807)) (bif z2 then ((Q0s.F n z10).bind fun p27=>
 c (.z5 (z1++(y26++z3)) p27 z4 z5 (IntKind.i64.wrap (z6+1)))) else (c (.z5 (z1++(y26++z3)) false z4 z5 (IntKind.i64.wrap (z6+1))))))))) else none))
def Q15.r (n:Nat) (c:Q15.Z→Option (ByteArray × Bool)):Q15.Z→Option (ByteArray × Bool)
 | .z5 z1 z2 z3 z4 z5=>Q15.r5 n c z1 z2 z3 z4 z5
 | .z12 z1 z2 z3 z4 z5 z6 z7 z8 z9 z10=>Q15.r12 n c z1 z2 z3 z4 z5 z6 z7 z8 z9 z10
def Q15.e (n:Nat) (c:Q15.Z→Option (ByteArray × Bool)) (a0:Bool) (a1:List AV):Option (ByteArray × Bool):=
 bif a0 then (c (.z5 (⟨#[79]⟩ : ByteArray) true a1 ((a1.length:Nat):Int) 0)) else (c (.z5 (⟨#[83]⟩ : ByteArray) true a1 ((a1.length:Nat):Int) 0))
def Q15.E (n:Nat) (c:Q15.Z→Option (ByteArray × Bool)):Q15.A→Option Q15.T:=fun (a0,a1)=>Q15.e n c a0 a1
def Q15.l (n:Nat):Nat→Q15.Z→Option (ByteArray × Bool):=loopL (Q15.r n)
def Q15.F (n:Nat) (a0:Bool) (a1:List AV):Option (ByteArray × Bool):=Q15.e n (Q15.l n n) a0 a1
def Q15.FA (n:Nat):Q15.A→Option Q15.T:=Q15.E n (Q15.l n n)
theorem Q15.hands (n:Nat):∀ a p,Q15.FA n a=some p→HandsIn Tryz.prog 77 (Q15.i a) (Q15.p p):=
 pf_hands (C:=Q15.C n) (cut:=Q15.cut) (t:=Q15.t) (s:=Q15.s) (e:=Q15.E n) (r:=Q15.r n) (n:=n) cfg mixed globs rfl Q15.qi (Q15.tells n) Tryz.func77 (by kernel_rfl) (by kernel_rfl) (fun rec a=>by kernel_rfl) (fun rec z=>by cases z <;> kernel_rfl)
def Q15.via {R:Type} (n:Nat):List AV→(AV→Option R)→Option R:=viaK (Q15.FA n) Q15.o Q15.p
theorem Q15.tells1 {R:Type} (n:Nat) (xs:List AV):Tells1 (R:=R) Tryz.prog 77 xs (Q15.via n xs):=tells_via Q15.oi (fun a=>by kernel_rfl) (Q15.hands n) xs
end Go.Proofs.YtmpglmcjoelciaaGreatDoor.Ev
namespace Go.Proofs.YtmpglmcjoelciaaGreatDoor.Ev
open Go Go.Proofs Go.Proofs.Ev
set_option linter.unusedVariables false
set_option maxRecDepth 100000
abbrev Q0b.A:=ByteArray
abbrev Q0b.T:=Bool
def Q0b.i:Q0b.A→List AV:=fun a0=>[vs a0]
def Q0b.o (xs:List AV):Option Q0b.A:=match xs with | [.v (.string a0)]=>some a0 | _=>none
theorem Q0b.oi:∀ xs a,Q0b.o xs=some a→xs=Q0b.i a:=by
 intro xs a h
 unfold Q0b.o at h
 split at h
 ·cases h; rfl
 ·cases h
def Q0b.p (p:Q0b.T):AV:=vb p
def Q0b.q (x:AV):Option Q0b.T:=match x with | .v (.bool p0)=>some p0 | _=>none
theorem Q0b.qi:∀ x p,Q0b.q x=some p→x=Q0b.p p:=by
 intro x p h
 unfold Q0b.q at h
 split at h
 ·cases h; rfl
 ·cases h
def Q0b.C {R:Type} (n:Nat) (f:FuncId) (xs:List AV):(AV→Option R)→Option R:=
 fun _=>none
theorem Q0b.tells {R:Type} (n:Nat):Tells (R:=R) Tryz.prog (Q0b.C n):=fun _ xs=>Tells1.none
def Q0b.cut (r:Nat):Option Keep:=match r with  | _=>none
def Q0b.e (n:Nat) (a0:ByteArray):Option Bool:=
 let y1:Bool:=decide (((a0.size:Nat):Int) > 240)
 some y1
def Q0b.E (n:Nat):Q0b.A→Option Q0b.T:=fun a0=>Q0b.e n a0
def Q0b.F (n:Nat) (a0:ByteArray):Option Bool:=Q0b.e n a0
def Q0b.FA (n:Nat):Q0b.A→Option Q0b.T:=Q0b.E n
theorem Q0b.hands (n:Nat):∀ a p,Q0b.FA n a=some p→HandsIn Tryz.prog 79 (Q0b.i a) (Q0b.p p):=
 pf_hands (C:=Q0b.C n) (cut:=Q0b.cut) (Z:=Empty) (t:=nofun) (s:=nofun) (e:=fun _=>Q0b.E n) (r:=fun _ z=>nomatch z) (n:=n) cfg mixed globs rfl Q0b.qi (Q0b.tells n) Tryz.func79 (by kernel_rfl) (by kernel_rfl) (fun rec a=>by kernel_rfl) (fun rec z=>nomatch z)
def Q0b.via {R:Type} (n:Nat):List AV→(AV→Option R)→Option R:=viaK (Q0b.FA n) Q0b.o Q0b.p
theorem Q0b.tells1 {R:Type} (n:Nat) (xs:List AV):Tells1 (R:=R) Tryz.prog 79 xs (Q0b.via n xs):=tells_via Q0b.oi (fun a=>by kernel_rfl) (Q0b.hands n) xs
end Go.Proofs.YtmpglmcjoelciaaGreatDoor.Ev
namespace Go.Proofs.YtmpglmcjoelciaaGreatDoor.Ev
open Go Go.Proofs Go.Proofs.Ev
set_option linter.unusedVariables false
set_option maxRecDepth 100000
abbrev Q49.A:=List AV
abbrev Q49.T:=Int
def Q49.i:Q49.A→List AV:=fun a0=>[.sl ⟨true,9⟩ 1 a0,.fn 79 []]
def Q49.o (xs:List AV):Option Q49.A:=match xs with | [.sl ⟨true,9⟩ 1 a0,.fn 79 []]=>some a0 | _=>none
theorem Q49.oi:∀ xs a,Q49.o xs=some a→xs=Q49.i a:=by
 intro xs a h
 unfold Q49.o at h
 split at h
 ·cases h; rfl
 ·cases h
def Q49.p (p:Q49.T):AV:=vi p
def Q49.q (x:AV):Option Q49.T:=match x with | .v (.int .i64 p0)=>some p0 | _=>none
theorem Q49.qi:∀ x p,Q49.q x=some p→x=Q49.p p:=by
 intro x p h
 unfold Q49.q at h
 split at h
 ·cases h; rfl
 ·cases h
inductive Q49.Z where
 | z2 (z1:List AV) (z2 z3:Int)
def Q49.C {R:Type} (n:Nat) (f:FuncId) (xs:List AV):(AV→Option R)→Option R:=
 bif Nat.beq f 79 then Q0b.via n xs else fun _=>none
theorem Q49.tells {R:Type} (n:Nat):Tells (R:=R) Tryz.prog (Q49.C n):=fun _ xs=>tells_at (Q0b.tells1 n xs) (Tells1.none)
def Q49.cut (r:Nat):Option Keep:=match r with | 2=>some ⟨[0,1,7,8],[]⟩ | _=>none
def Q49.t (z:Q49.Z):List Item:=(todoOf (match z with | .z2 _ _ _=>2) 1000 [.code (Tryz.f123.body.getD .skip)]).getD []
def Q49.s:Q49.Z→St
 | .z2 z1 z2 z3=>⟨spr 19 0 [(0,.sl ⟨true,9⟩ 1 z1),(1,.fn 79 []),(7,vi z2),(8,vi z3)],Mem.ofList [],0⟩
def Q49.r2 (n:Nat) (c:Q49.Z→Option Int) (z1:List AV) (z2 z3:Int):Option Int:=
 bif decide (z3 < z2) then (bif decide ((0:Int)≤z3)&&decide (z3 < ((z1.length:Nat):Int)) then (withCons ((z1.getD ((z3).toNat) .undef).cells) fun h1 r2=>
 withStr h1 fun s3=>
 (Q0b.F n s3).bind fun p4=>
 bif p4 then (some z3) else (c (.z2 z1 z2 (IntKind.i64.wrap (z3+1))))) else none) else (some (-1))
def Q49.r (n:Nat) (c:Q49.Z→Option Int):Q49.Z→Option Int
 | .z2 z1 z2 z3=>Q49.r2 n c z1 z2 z3
def Q49.e (n:Nat) (c:Q49.Z→Option Int) (a0:List AV):Option Int:=
 c (.z2 a0 ((a0.length:Nat):Int) 0)
def Q49.E (n:Nat) (c:Q49.Z→Option Int):Q49.A→Option Q49.T:=fun a0=>Q49.e n c a0
def Q49.l (n:Nat):Nat→Q49.Z→Option Int:=loopL (Q49.r n)
def Q49.F (n:Nat) (a0:List AV):Option Int:=Q49.e n (Q49.l n n) a0
def Q49.FA (n:Nat):Q49.A→Option Q49.T:=Q49.E n (Q49.l n n)
theorem Q49.hands (n:Nat):∀ a p,Q49.FA n a=some p→HandsIn Tryz.prog 123 (Q49.i a) (Q49.p p):=
 pf_hands (C:=Q49.C n) (cut:=Q49.cut) (t:=Q49.t) (s:=Q49.s) (e:=Q49.E n) (r:=Q49.r n) (n:=n) cfg mixed globs rfl Q49.qi (Q49.tells n) Tryz.func123 (by kernel_rfl) (by kernel_rfl) (fun rec a=>by kernel_rfl) (fun rec z=>by cases z <;> kernel_rfl)
def Q49.via {R:Type} (n:Nat):List AV→(AV→Option R)→Option R:=viaK (Q49.FA n) Q49.o Q49.p
theorem Q49.tells1 {R:Type} (n:Nat) (xs:List AV):Tells1 (R:=R) Tryz.prog 123 xs (Q49.via n xs):=tells_via Q49.oi (fun a=>by kernel_rfl) (Q49.hands n) xs
end Go.Proofs.YtmpglmcjoelciaaGreatDoor.Ev
namespace Go.Proofs.YtmpglmcjoelciaaGreatDoor.Ev
open Go Go.Proofs Go.Proofs.Ev
set_option linter.unusedVariables false
set_option maxRecDepth 100000
abbrev Q46.A:=List AV
abbrev Q46.T:=Bool
def Q46.i:Q46.A→List AV:=fun a0=>[.sl ⟨true,9⟩ 1 a0,.fn 79 []]
def Q46.o (xs:List AV):Option Q46.A:=match xs with | [.sl ⟨true,9⟩ 1 a0,.fn 79 []]=>some a0 | _=>none
theorem Q46.oi:∀ xs a,Q46.o xs=some a→xs=Q46.i a:=by
 intro xs a h
 unfold Q46.o at h
 split at h
 ·cases h; rfl
 ·cases h
def Q46.p (p:Q46.T):AV:=vb p
def Q46.q (x:AV):Option Q46.T:=match x with | .v (.bool p0)=>some p0 | _=>none
theorem Q46.qi:∀ x p,Q46.q x=some p→x=Q46.p p:=by
 intro x p h
 unfold Q46.q at h
 split at h
 ·cases h; rfl
 ·cases h
def Q46.C {R:Type} (n:Nat) (f:FuncId) (xs:List AV):(AV→Option R)→Option R:=
 bif Nat.beq f 123 then Q49.via n xs else fun _=>none
theorem Q46.tells {R:Type} (n:Nat):Tells (R:=R) Tryz.prog (Q46.C n):=fun _ xs=>tells_at (Q49.tells1 n xs) (Tells1.none)
def Q46.cut (r:Nat):Option Keep:=match r with  | _=>none
def Q46.e (n:Nat) (a0:List AV):Option Bool:=
 (Q49.F n a0).bind fun p1=>
 some (decide (p1≥0))
def Q46.E (n:Nat):Q46.A→Option Q46.T:=fun a0=>Q46.e n a0
def Q46.F (n:Nat) (a0:List AV):Option Bool:=Q46.e n a0
def Q46.FA (n:Nat):Q46.A→Option Q46.T:=Q46.E n
theorem Q46.hands (n:Nat):∀ a p,Q46.FA n a=some p→HandsIn Tryz.prog 78 (Q46.i a) (Q46.p p):=
 pf_hands (C:=Q46.C n) (cut:=Q46.cut) (Z:=Empty) (t:=nofun) (s:=nofun) (e:=fun _=>Q46.E n) (r:=fun _ z=>nomatch z) (n:=n) cfg mixed globs rfl Q46.qi (Q46.tells n) Tryz.func78 (by kernel_rfl) (by kernel_rfl) (fun rec a=>by kernel_rfl) (fun rec z=>nomatch z)
def Q46.via {R:Type} (n:Nat):List AV→(AV→Option R)→Option R:=viaK (Q46.FA n) Q46.o Q46.p
theorem Q46.tells1 {R:Type} (n:Nat) (xs:List AV):Tells1 (R:=R) Tryz.prog 78 xs (Q46.via n xs):=tells_via Q46.oi (fun a=>by kernel_rfl) (Q46.hands n) xs
end Go.Proofs.YtmpglmcjoelciaaGreatDoor.Ev
namespace Go.Proofs.YtmpglmcjoelciaaGreatDoor.Ev
open Go Go.Proofs Go.Proofs.Ev
set_option linter.unusedVariables false
set_option maxRecDepth 100000
abbrev Q0a.A:=Bool × ByteArray × ByteArray × List AV × List AV × Bool × ByteArray × ByteArray × List AV × List AV × List AV × List AV × Bool × List AV
abbrev Q0a.T:=List AV × Int
def Q0a.i:Q0a.A→List AV:=fun (a0,a1,a2,a3,a4,a5,a6,a7,a8,a9,a10,a11,a12,a13)=>[AV.agg [vb a0,vs a1,vs a2,.sl ⟨true,125⟩ 4 a3,.sl ⟨true,111⟩ 2 a4,vb a5,vs a6,vs a7,.sl ⟨true,9⟩ 1 a8,.sl ⟨true,95⟩ 3 a9,.sl ⟨true,97⟩ 4 a10,.sl ⟨true,111⟩ 2 a11,vb a12,.sl ⟨false,100⟩ 2 a13]]
def Q0a.o (xs:List AV):Option Q0a.A:=match xs with | [.agg [.v (.bool a0),.v (.string a1),.v (.string a2),.sl ⟨true,125⟩ 4 a3,.sl ⟨true,111⟩ 2 a4,.v (.bool a5),.v (.string a6),.v (.string a7),.sl ⟨true,9⟩ 1 a8,.sl ⟨true,95⟩ 3 a9,.sl ⟨true,97⟩ 4 a10,.sl ⟨true,111⟩ 2 a11,.v (.bool a12),.sl ⟨false,100⟩ 2 a13]]=>some (a0,a1,a2,a3,a4,a5,a6,a7,a8,a9,a10,a11,a12,a13) | _=>none
theorem Q0a.oi:∀ xs a,Q0a.o xs=some a→xs=Q0a.i a:=by
 intro xs a h
 unfold Q0a.o at h
 split at h
 ·cases h; rfl
 ·cases h
def Q0a.p (p:Q0a.T):AV:=.tup [.fr ⟨true,9⟩ 1 p.1,vi p.2]
def Q0a.q (x:AV):Option Q0a.T:=match x with | .tup [.fr ⟨true,9⟩ 1 p0,.v (.int .i64 p1)]=>some (p0,p1) | _=>none
theorem Q0a.qi:∀ x p,Q0a.q x=some p→x=Q0a.p p:=by
 intro x p h
 unfold Q0a.q at h
 split at h
 ·cases h; rfl
 ·cases h
inductive Q0a.Z where
 | z7 (z1:List AV) (z2 z3:Int) (z4:Bool) (z5 z6:ByteArray) (z7 z8:List AV) (z9:Bool) (z10 z11:ByteArray) (z12 z13 z14 z15:List AV) (z16:Bool) (z17 z18:List AV)
 | z15 (z1:List AV) (z2 z3:Int) (z4 z5:ByteArray) (z6 z7 z8 z9:List AV) (z10:Bool) (z11 z12:List AV)
 | z20 (z1:List AV) (z2 z3:Int) (z4 z5:ByteArray) (z6 z7 z8 z9:List AV) (z10:Bool) (z11 z12:List AV)
 | z25 (z1:List AV) (z2 z3:Int) (z4 z5:ByteArray) (z6 z7 z8 z9:List AV) (z10:Bool) (z11 z12:List AV)
 | z31 (z1:List AV) (z2 z3:Int) (z4:List AV)
def Q0a.C {R:Type} (n:Nat) (f:FuncId) (xs:List AV):(AV→Option R)→Option R:=
 bif Nat.beq f 44 then Q0m.via n xs else bif Nat.beq f 45 then Q0f.via n xs else bif Nat.beq f 66 then Q0h.via n xs else bif Nat.beq f 72 then Q0t.via n xs else bif Nat.beq f 73 then Q0n.via n xs else bif Nat.beq f 74 then Q1j.via n xs else bif Nat.beq f 75 then Q0v.via n xs else bif Nat.beq f 76 then Q4e.via n xs else bif Nat.beq f 77 then Q15.via n xs else bif Nat.beq f 78 then Q46.via n xs else fun _=>none
theorem Q0a.tells {R:Type} (n:Nat):Tells (R:=R) Tryz.prog (Q0a.C n):=fun _ xs=>tells_at (Q0m.tells1 n xs) (tells_at (Q0f.tells1 n xs) (tells_at (Q0h.tells1 n xs) (tells_at (Q0t.tells1 n xs) (tells_at (Q0n.tells1 n xs) (tells_at (Q1j.tells1 n xs) (tells_at (Q0v.tells1 n xs) (tells_at (Q4e.tells1 n xs) (tells_at (Q15.tells1 n xs) (tells_at (Q46.tells1 n xs) (Tells1.none))))))))))
def Q0a.cut (r:Nat):Option Keep:=match r with | 7=>some ⟨[1,5,49,50,51],[]⟩ | 15=>some ⟨[8,9,83,84,85],[]⟩ | 20=>some ⟨[8,9,96,97,98],[]⟩ | 25=>some ⟨[8,9,124,125,126],[]⟩ | 31=>some ⟨[9,152,153,154],[]⟩ | _=>none
def Q0a.t (z:Q0a.Z):List Item:=(todoOf (match z with | .z7 _ _ _ _ _ _ _ _ _ _ _ _ _ _ _ _ _ _=>7 | .z15 _ _ _ _ _ _ _ _ _ _ _ _=>15 | .z20 _ _ _ _ _ _ _ _ _ _ _ _=>20 | .z25 _ _ _ _ _ _ _ _ _ _ _ _=>25 | .z31 _ _ _ _=>31) 1000 [.code (Tryz.f26.body.getD .skip)]).getD []
def Q0a.s:Q0a.Z→St
 | .z7 z1 z2 z3 z4 z5 z6 z7 z8 z9 z10 z11 z12 z13 z14 z15 z16 z17 z18=>⟨spr 174 0 [(1,.ptr 0 0),(5,.own 1 0 none),(49,.sl ⟨true,125⟩ 4 z1),(50,vi z2),(51,vi z3)],Mem.ofList [.box 50 [vb z4,vs z5,vs z6,.sl ⟨true,125⟩ 4 z7,.sl ⟨true,111⟩ 2 z8,vb z9,vs z10,vs z11,.sl ⟨true,9⟩ 1 z12,.sl ⟨true,95⟩ 3 z13,.sl ⟨true,97⟩ 4 z14,.sl ⟨true,111⟩ 2 z15,vb z16,.sl ⟨false,100⟩ 2 z17],.row ⟨true,9⟩ 1 z18],2⟩
 | .z15 z1 z2 z3 z4 z5 z6 z7 z8 z9 z10 z11 z12=>⟨spr 174 0 [(8,.ptr 0 0),(9,.own 1 0 none),(83,.sl ⟨true,9⟩ 1 z1),(84,vi z2),(85,vi z3)],Mem.ofList [.box 36 [vs z4,vs z5,.sl ⟨true,9⟩ 1 z6,.sl ⟨true,95⟩ 3 z7,.sl ⟨true,97⟩ 4 z8,.sl ⟨true,111⟩ 2 z9,vb z10,.sl ⟨false,100⟩ 2 z11],.row ⟨true,9⟩ 1 z12],2⟩
 | .z20 z1 z2 z3 z4 z5 z6 z7 z8 z9 z10 z11 z12=>⟨spr 174 0 [(8,.ptr 0 0),(9,.own 1 0 none),(96,.sl ⟨true,97⟩ 4 z1),(97,vi z2),(98,vi z3)],Mem.ofList [.box 36 [vs z4,vs z5,.sl ⟨true,9⟩ 1 z6,.sl ⟨true,95⟩ 3 z7,.sl ⟨true,97⟩ 4 z8,.sl ⟨true,111⟩ 2 z9,vb z10,.sl ⟨false,100⟩ 2 z11],.row ⟨true,9⟩ 1 z12],2⟩
 | .z25 z1 z2 z3 z4 z5 z6 z7 z8 z9 z10 z11 z12=>⟨spr 174 0 [(8,.ptr 0 0),(9,.own 1 0 none),(124,.sl ⟨true,95⟩ 3 z1),(125,vi z2),(126,vi z3)],Mem.ofList [.box 36 [vs z4,vs z5,.sl ⟨true,9⟩ 1 z6,.sl ⟨true,95⟩ 3 z7,.sl ⟨true,97⟩ 4 z8,.sl ⟨true,111⟩ 2 z9,vb z10,.sl ⟨false,100⟩ 2 z11],.row ⟨true,9⟩ 1 z12],2⟩
 | .z31 z1 z2 z3 z4=>⟨spr 174 0 [(9,.own 0 0 none),(152,.sl ⟨false,100⟩ 2 z1),(153,vi z2),(154,vi z3)],Mem.ofList [.row ⟨true,9⟩ 1 z4],1⟩
def Q0a.r7 (n:Nat) (c:Q0a.Z→Option (List AV × Int)) (z1:List AV) (z2 z3:Int) (z4:Bool) (z5 z6:ByteArray) (z7 z8:List AV) (z9:Bool) (z10 z11:ByteArray) (z12 z13 z14 z15:List AV) (z16:Bool) (z17 z18:List AV):Option (List AV × Int):=
 bif decide (z3 < z2) then (bif decide ((0:Int)≤z3)&&decide (z3 < ((z1.length:Nat):Int)) then (withCons ((z1.getD ((z3).toNat) .undef).cells) fun h7 r8=>
 withStr h7 fun s9=>
 withCons r8 fun h10 r11=>
 withInt .i64 h10 fun x12=>
 withCons r11 fun h13 r14=>
 withInt .i64 h13 fun x15=>
 withCons r14 fun h16 r17=>
 withInt .i64 h16 fun x18=>
 chk (decide (2+s9.size≤9223372036854775807)) (let y19:ByteArray:=(⟨#[70,32]⟩ : ByteArray)++s9
 chk (decide (y19.size+1≤9223372036854775807)) ((Q1j.F n x12 x15 x18).bind fun p20=>
 chk (decide ((y19++(⟨#[32]⟩ : ByteArray)).size+p20.size≤9223372036854775807)) (let y21:ByteArray:=(y19++(⟨#[32]⟩ : ByteArray))++p20
 bif decide (z18.length+[vs y21].length≤most) then (c (.z7 z1 z2 (IntKind.i64.wrap (z3+1)) z4 z5 z6 z7 z8 z9 z10 z11 z12 z13 z14 z15 z16 z17 (z18++[vs y21]))) else none)))) else none) else ((Q0v.F n z8).bind fun p22=>
 bif decide (z18.length+p22.length≤most) then (some (z18++p22,0)) else none)
def Q0a.r15 (n:Nat) (c:Q0a.Z→Option (List AV × Int)) (z1:List AV) (z2 z3:Int) (z4 z5:ByteArray) (z6 z7 z8 z9:List AV) (z10:Bool) (z11 z12:List AV):Option (List AV × Int):=
 bif decide (z3 < z2) then (bif decide ((0:Int)≤z3)&&decide (z3 < ((z1.length:Nat):Int)) then (withCons ((z1.getD ((z3).toNat) .undef).cells) fun h23 r24=>
 withStr h23 fun s25=>
 chk (decide (2+s25.size≤9223372036854775807)) (let y26:ByteArray:=(⟨#[66,32]⟩ : ByteArray)++s25
 bif decide (z12.length+[vs y26].length≤most) then (c (.z15 z1 z2 (IntKind.i64.wrap (z3+1)) z4 z5 z6 z7 z8 z9 z10 z11 (z12++[vs y26]))) else none)) else none) else (c (.z20 z8 ((z8.length:Nat):Int) 0 z4 z5 z6 z7 z8 z9 z10 z11 z12))
def Q0a.r20 (n:Nat) (c:Q0a.Z→Option (List AV × Int)) (z1:List AV) (z2 z3:Int) (z4 z5:ByteArray) (z6 z7 z8 z9:List AV) (z10:Bool) (z11 z12:List AV):Option (List AV × Int):=
 bif decide (z3 < z2) then (bif decide ((0:Int)≤z3)&&decide (z3 < ((z1.length:Nat):Int)) then (withCons ((z1.getD ((z3).toNat) .undef).cells) fun h27 r28=>
 withInt .i64 h27 fun x29=>
 withCons r28 fun h30 r31=>
 withStr h30 fun s32=>
 withCons r31 fun h33 r34=>
 withInt .i64 h33 fun x35=>
 withCons r34 fun h36 r37=>
 withStr h36 fun s38=>
 (Q4e.F n x29).bind fun p39=>
 chk (decide (2+p39.size≤9223372036854775807)) (let y40:ByteArray:=(⟨#[74,32]⟩ : ByteArray)++p39
 chk (decide (y40.size+1≤9223372036854775807)) (chk (decide ((y40++(⟨#[32]⟩ : ByteArray)).size+s32.size≤9223372036854775807)) (let y41:ByteArray:=(y40++(⟨#[32]⟩ : ByteArray))++s32
 chk (decide (y41.size+1≤9223372036854775807)) ((Q4e.F n x35).bind fun p42=>
 chk (decide ((y41++(⟨#[32]⟩ : ByteArray)).size+p42.size≤9223372036854775807)) (let y43:ByteArray:=(y41++(⟨#[32]⟩ : ByteArray))++p42
 chk (decide (y43.size+1≤9223372036854775807)) (chk (decide ((y43++(⟨#[32]⟩ : ByteArray)).size+s38.size≤9223372036854775807)) (let y44:ByteArray:=(y43++(⟨#[32]⟩ : ByteArray))++s38
 bif decide (z12.length+[vs y44].length≤most) then (c (.z20 z1 z2 (IntKind.i64.wrap (z3+1)) z4 z5 z6 z7 z8 z9 z10 z11 (z12++[vs y44]))) else none)))))))) else none) else (c (.z25 z7 ((z7.length:Nat):Int) 0 z4 z5 z6 z7 z8 z9 z10 z11 z12))
def Q0a.r25 (n:Nat) (c:Q0a.Z→Option (List AV × Int)) (z1:List AV) (z2 z3:Int) (z4 z5:ByteArray) (z6 z7 z8 z9:List AV) (z10:Bool) (z11 z12:List AV):Option (List AV × Int):=
 bif decide (z3 < z2) then (bif decide ((0:Int)≤z3)&&decide (z3 < ((z1.length:Nat):Int)) then (withCons ((z1.getD ((z3).toNat) .undef).cells) fun h45 r46=>
 withStr h45 fun s47=>
 withCons r46 fun h48 r49=>
 withInt .i64 h48 fun x50=>
 withCons r49 fun h51 r52=>
 withStr h51 fun s53=>
 chk (decide (2+s47.size≤9223372036854775807)) (let y54:ByteArray:=(⟨#[70,32]⟩ : ByteArray)++s47
 chk (decide (y54.size+1≤9223372036854775807)) ((Q4e.F n x50).bind fun p55=>
 chk (decide ((y54++(⟨#[32]⟩ : ByteArray)).size+p55.size≤9223372036854775807)) (let y56:ByteArray:=(y54++(⟨#[32]⟩ : ByteArray))++p55
 chk (decide (y56.size+1≤9223372036854775807)) (chk (decide ((y56++(⟨#[32]⟩ : ByteArray)).size+s53.size≤9223372036854775807)) (let y57:ByteArray:=(y56++(⟨#[32]⟩ : ByteArray))++s53
 bif decide (z12.length+[vs y57].length≤most) then (c (.z25 z1 z2 (IntKind.i64.wrap (z3+1)) z4 z5 z6 z7 z8 z9 z10 z11 (z12++[vs y57]))) else none)))))) else none) else ((Q0v.F n z9).bind fun p58=>
 bif decide (z12.length+p58.length≤most) then (c (.z31 z11 ((z11.length:Nat):Int) 0 (z12++p58))) else none)
def Q0a.r31 (n:Nat) (c:Q0a.Z→Option (List AV × Int)) (z1:List AV) (z2 z3:Int) (z4:List AV):Option (List AV × Int):=
 bif decide (z3 < z2) then (bif decide ((0:Int)≤z3)&&decide (z3 < ((z1.length:Nat):Int)) then (withCons ((z1.getD ((z3).toNat) .undef).cells) fun h59 r60=>
 withBool h59 fun b61=>
 withCons r60 fun h62 r63=>
 withSl ⟨true,104⟩ 4 h62 fun xs64=>
 (Q15.F n b61 xs64).bind fun p65=>
 bif !p65.2 then (some ([],39)) else (bif decide (z4.length+[vs p65.1].length≤most) then (c (.z31 z1 z2 (IntKind.i64.wrap (z3+1)) (z4++[vs p65.1]))) else none)) else none) else ((Q46.F n z4).bind fun p66=>
 bif p66 then (some ([],2)) else (some (z4,0)))
def Q0a.r (n:Nat) (c:Q0a.Z→Option (List AV × Int)):Q0a.Z→Option (List AV × Int)
 | .z7 z1 z2 z3 z4 z5 z6 z7 z8 z9 z10 z11 z12 z13 z14 z15 z16 z17 z18=>Q0a.r7 n c z1 z2 z3 z4 z5 z6 z7 z8 z9 z10 z11 z12 z13 z14 z15 z16 z17 z18
 | .z15 z1 z2 z3 z4 z5 z6 z7 z8 z9 z10 z11 z12=>Q0a.r15 n c z1 z2 z3 z4 z5 z6 z7 z8 z9 z10 z11 z12
 | .z20 z1 z2 z3 z4 z5 z6 z7 z8 z9 z10 z11 z12=>Q0a.r20 n c z1 z2 z3 z4 z5 z6 z7 z8 z9 z10 z11 z12
 | .z25 z1 z2 z3 z4 z5 z6 z7 z8 z9 z10 z11 z12=>Q0a.r25 n c z1 z2 z3 z4 z5 z6 z7 z8 z9 z10 z11 z12
 | .z31 z1 z2 z3 z4=>Q0a.r31 n c z1 z2 z3 z4
def Q0a.e (n:Nat) (c:Q0a.Z→Option (List AV × Int)) (a0:Bool) (a1 a2:ByteArray) (a3 a4:List AV) (a5:Bool) (a6 a7:ByteArray) (a8 a9 a10 a11:List AV) (a12:Bool) (a13:List AV):Option (List AV × Int):=
 (Q0t.F n a0 a1 a2 a3 a4 a5 a6 a7 a8 a9 a10 a11 a12 a13).bind fun p1=>
 (Q0f.F n (!p1) 5).bind fun p2=>
 (Q0h.F n a0 a1 a2 a3 a4 a5 a6 a7 a8 a9 a10 a11 a12 a13).bind fun p3=>
 (Q0m.F n [vi p2,vi p3]).bind fun p4=>
 bif p4 != 0 then (some ([],p4)) else (bif !a0 then ((Q0n.F n (⟨#[80,70]⟩ : ByteArray) a1 a2 a5).bind fun p5=>
 c (.z7 a3 ((a3.length:Nat):Int) 0 a0 a1 a2 a3 a4 a5 a6 a7 a8 a9 a10 a11 a12 a13 p5)) else ((Q0n.F n (⟨#[76,70]⟩ : ByteArray) a6 a7 a12).bind fun p6=>
 c (.z15 a8 ((a8.length:Nat):Int) 0 a6 a7 a8 a9 a10 a11 a12 a13 p6)))
def Q0a.E (n:Nat) (c:Q0a.Z→Option (List AV × Int)):Q0a.A→Option Q0a.T:=fun (a0,a1,a2,a3,a4,a5,a6,a7,a8,a9,a10,a11,a12,a13)=>Q0a.e n c a0 a1 a2 a3 a4 a5 a6 a7 a8 a9 a10 a11 a12 a13
def Q0a.l (n:Nat):Nat→Q0a.Z→Option (List AV × Int):=loopL (Q0a.r n)
def Q0a.F (n:Nat) (a0:Bool) (a1 a2:ByteArray) (a3 a4:List AV) (a5:Bool) (a6 a7:ByteArray) (a8 a9 a10 a11:List AV) (a12:Bool) (a13:List AV):Option (List AV × Int):=Q0a.e n (Q0a.l n n) a0 a1 a2 a3 a4 a5 a6 a7 a8 a9 a10 a11 a12 a13
def Q0a.FA (n:Nat):Q0a.A→Option Q0a.T:=Q0a.E n (Q0a.l n n)
theorem Q0a.hands (n:Nat):∀ a p,Q0a.FA n a=some p→HandsIn Tryz.prog 26 (Q0a.i a) (Q0a.p p):=
 pf_hands (C:=Q0a.C n) (cut:=Q0a.cut) (t:=Q0a.t) (s:=Q0a.s) (e:=Q0a.E n) (r:=Q0a.r n) (n:=n) cfg mixed globs rfl Q0a.qi (Q0a.tells n) Tryz.func26 (by kernel_rfl) (by kernel_rfl) (fun rec a=>by kernel_rfl) (fun rec z=>by cases z <;> kernel_rfl)
def Q0a.via {R:Type} (n:Nat):List AV→(AV→Option R)→Option R:=viaK (Q0a.FA n) Q0a.o Q0a.p
theorem Q0a.tells1 {R:Type} (n:Nat) (xs:List AV):Tells1 (R:=R) Tryz.prog 26 xs (Q0a.via n xs):=tells_via Q0a.oi (fun a=>by kernel_rfl) (Q0a.hands n) xs
end Go.Proofs.YtmpglmcjoelciaaGreatDoor.Ev
namespace Go.Proofs.YtmpglmcjoelciaaGreatDoor.Ev
open Go Go.Proofs Go.Proofs.Ev
set_option linter.unusedVariables false
set_option maxRecDepth 100000
abbrev Q2y.A:=ByteArray × ByteArray × List AV × List AV × Bool
abbrev Q2y.T:=ByteArray × ByteArray × List AV × List AV × Bool
def Q2y.i:Q2y.A→List AV:=fun (a0,a1,a2,a3,a4)=>[AV.agg [vs a0,vs a1,.sl ⟨true,125⟩ 4 a2,.sl ⟨true,111⟩ 2 a3,vb a4]]
def Q2y.o (xs:List AV):Option Q2y.A:=match xs with | [.agg [.v (.string a0),.v (.string a1),.sl ⟨true,125⟩ 4 a2,.sl ⟨true,111⟩ 2 a3,.v (.bool a4)]]=>some (a0,a1,a2,a3,a4) | _=>none
theorem Q2y.oi:∀ xs a,Q2y.o xs=some a→xs=Q2y.i a:=by
 intro xs a h
 unfold Q2y.o at h
 split at h
 ·cases h; rfl
 ·cases h
def Q2y.p (p:Q2y.T):AV:=AV.agg [vs p.1,vs p.2.1,.fr ⟨true,125⟩ 4 p.2.2.1,.fr ⟨true,111⟩ 2 p.2.2.2.1,vb p.2.2.2.2]
def Q2y.q (x:AV):Option Q2y.T:=match x with | .agg [.v (.string p0),.v (.string p1),.fr ⟨true,125⟩ 4 p2,.fr ⟨true,111⟩ 2 p3,.v (.bool p4)]=>some (p0,p1,p2,p3,p4) | _=>none
theorem Q2y.qi:∀ x p,Q2y.q x=some p→x=Q2y.p p:=by
 intro x p h
 unfold Q2y.q at h
 split at h
 ·cases h; rfl
 ·cases h
def Q2y.C {R:Type} (n:Nat) (f:FuncId) (xs:List AV):(AV→Option R)→Option R:=
 fun _=>none
theorem Q2y.tells {R:Type} (n:Nat):Tells (R:=R) Tryz.prog (Q2y.C n):=fun _ xs=>Tells1.none
def Q2y.cut (r:Nat):Option Keep:=match r with  | _=>none
def Q2y.e (n:Nat) (a0 a1:ByteArray) (a2 a3:List AV) (a4:Bool):Option (ByteArray × ByteArray × List AV × List AV × Bool):=
 bif decide (a2.length≤most) then (bif decide (a3.length≤most) then (some (a0,a1,a2,a3,a4)) else none) else none
def Q2y.E (n:Nat):Q2y.A→Option Q2y.T:=fun (a0,a1,a2,a3,a4)=>Q2y.e n a0 a1 a2 a3 a4
def Q2y.F (n:Nat) (a0 a1:ByteArray) (a2 a3:List AV) (a4:Bool):Option (ByteArray × ByteArray × List AV × List AV × Bool):=Q2y.e n a0 a1 a2 a3 a4
def Q2y.FA (n:Nat):Q2y.A→Option Q2y.T:=Q2y.E n
theorem Q2y.hands (n:Nat):∀ a p,Q2y.FA n a=some p→HandsIn Tryz.prog 80 (Q2y.i a) (Q2y.p p):=
 pf_hands (C:=Q2y.C n) (cut:=Q2y.cut) (Z:=Empty) (t:=nofun) (s:=nofun) (e:=fun _=>Q2y.E n) (r:=fun _ z=>nomatch z) (n:=n) cfg mixed globs rfl Q2y.qi (Q2y.tells n) Tryz.func80 (by kernel_rfl) (by kernel_rfl) (fun rec a=>by kernel_rfl) (fun rec z=>nomatch z)
def Q2y.via {R:Type} (n:Nat):List AV→(AV→Option R)→Option R:=viaK (Q2y.FA n) Q2y.o Q2y.p
theorem Q2y.tells1 {R:Type} (n:Nat) (xs:List AV):Tells1 (R:=R) Tryz.prog 80 xs (Q2y.via n xs):=tells_via Q2y.oi (fun a=>by kernel_rfl) (Q2y.hands n) xs
end Go.Proofs.YtmpglmcjoelciaaGreatDoor.Ev
namespace Go.Proofs.YtmpglmcjoelciaaGreatDoor.Ev
open Go Go.Proofs Go.Proofs.Ev
set_option linter.unusedVariables false
set_option maxRecDepth 100000
abbrev Q31.A:=Bool × ByteArray × ByteArray × List AV × List AV × Bool × ByteArray × ByteArray × List AV × List AV × List AV × List AV × Bool × List AV
abbrev Q31.T:=Bool × ByteArray × ByteArray × List AV × List AV × Bool × ByteArray × ByteArray × List AV × List AV × List AV × List AV × Bool × List AV
def Q31.i:Q31.A→List AV:=fun (a0,a1,a2,a3,a4,a5,a6,a7,a8,a9,a10,a11,a12,a13)=>[AV.agg [vb a0,vs a1,vs a2,.sl ⟨true,125⟩ 4 a3,.sl ⟨true,111⟩ 2 a4,vb a5,vs a6,vs a7,.sl ⟨true,9⟩ 1 a8,.sl ⟨true,95⟩ 3 a9,.sl ⟨true,97⟩ 4 a10,.sl ⟨true,111⟩ 2 a11,vb a12,.sl ⟨false,100⟩ 2 a13]]
def Q31.o (xs:List AV):Option Q31.A:=match xs with | [.agg [.v (.bool a0),.v (.string a1),.v (.string a2),.sl ⟨true,125⟩ 4 a3,.sl ⟨true,111⟩ 2 a4,.v (.bool a5),.v (.string a6),.v (.string a7),.sl ⟨true,9⟩ 1 a8,.sl ⟨true,95⟩ 3 a9,.sl ⟨true,97⟩ 4 a10,.sl ⟨true,111⟩ 2 a11,.v (.bool a12),.sl ⟨false,100⟩ 2 a13]]=>some (a0,a1,a2,a3,a4,a5,a6,a7,a8,a9,a10,a11,a12,a13) | _=>none
theorem Q31.oi:∀ xs a,Q31.o xs=some a→xs=Q31.i a:=by
 intro xs a h
 unfold Q31.o at h
 split at h
 ·cases h; rfl
 ·cases h
def Q31.p (p:Q31.T):AV:=AV.agg [vb p.1,vs p.2.1,vs p.2.2.1,.fr ⟨true,125⟩ 4 p.2.2.2.1,.fr ⟨true,111⟩ 2 p.2.2.2.2.1,vb p.2.2.2.2.2.1,vs p.2.2.2.2.2.2.1,vs p.2.2.2.2.2.2.2.1,.fr ⟨true,9⟩ 1 p.2.2.2.2.2.2.2.2.1,.fr ⟨true,95⟩ 3 p.2.2.2.2.2.2.2.2.2.1,.fr ⟨true,97⟩ 4 p.2.2.2.2.2.2.2.2.2.2.1,.fr ⟨true,111⟩ 2 p.2.2.2.2.2.2.2.2.2.2.2.1,vb p.2.2.2.2.2.2.2.2.2.2.2.2.1,.fr ⟨false,100⟩ 2 p.2.2.2.2.2.2.2.2.2.2.2.2.2]
def Q31.q (x:AV):Option Q31.T:=match x with | .agg [.v (.bool p0),.v (.string p1),.v (.string p2),.fr ⟨true,125⟩ 4 p3,.fr ⟨true,111⟩ 2 p4,.v (.bool p5),.v (.string p6),.v (.string p7),.fr ⟨true,9⟩ 1 p8,.fr ⟨true,95⟩ 3 p9,.fr ⟨true,97⟩ 4 p10,.fr ⟨true,111⟩ 2 p11,.v (.bool p12),.fr ⟨false,100⟩ 2 p13]=>some (p0,p1,p2,p3,p4,p5,p6,p7,p8,p9,p10,p11,p12,p13) | _=>none
theorem Q31.qi:∀ x p,Q31.q x=some p→x=Q31.p p:=by
 intro x p h
 unfold Q31.q at h
 split at h
 ·cases h; rfl
 ·cases h
def Q31.C {R:Type} (n:Nat) (f:FuncId) (xs:List AV):(AV→Option R)→Option R:=
 bif Nat.beq f 18 then Q30.via n xs else bif Nat.beq f 80 then Q2y.via n xs else fun _=>none
theorem Q31.tells {R:Type} (n:Nat):Tells (R:=R) Tryz.prog (Q31.C n):=fun _ xs=>tells_at (Q30.tells1 n xs) (tells_at (Q2y.tells1 n xs) (Tells1.none))
def Q31.cut (r:Nat):Option Keep:=match r with  | _=>none
def Q31.e (n:Nat) (a0:Bool) (a1 a2:ByteArray) (a3 a4:List AV) (a5:Bool) (a6 a7:ByteArray) (a8 a9 a10 a11:List AV) (a12:Bool) (a13:List AV):Option Q31.T:=
 (Q2y.F n a1 a2 a3 a4 a5).bind fun p1=>
 (Q30.F n a6 a7 a8 a9 a10 a11 a12 a13).bind fun p2=>
 some (a0,p1.1,p1.2.1,p1.2.2.1,p1.2.2.2.1,p1.2.2.2.2,p2.1,p2.2.1,p2.2.2.1,p2.2.2.2.1,p2.2.2.2.2.1,p2.2.2.2.2.2.1,p2.2.2.2.2.2.2.1,p2.2.2.2.2.2.2.2)
def Q31.E (n:Nat):Q31.A→Option Q31.T:=fun (a0,a1,a2,a3,a4,a5,a6,a7,a8,a9,a10,a11,a12,a13)=>Q31.e n a0 a1 a2 a3 a4 a5 a6 a7 a8 a9 a10 a11 a12 a13
def Q31.F (n:Nat) (a0:Bool) (a1 a2:ByteArray) (a3 a4:List AV) (a5:Bool) (a6 a7:ByteArray) (a8 a9 a10 a11:List AV) (a12:Bool) (a13:List AV):Option Q31.T:=Q31.e n a0 a1 a2 a3 a4 a5 a6 a7 a8 a9 a10 a11 a12 a13
def Q31.FA (n:Nat):Q31.A→Option Q31.T:=Q31.E n
theorem Q31.hands (n:Nat):∀ a p,Q31.FA n a=some p→HandsIn Tryz.prog 27 (Q31.i a) (Q31.p p):=
 pf_hands (C:=Q31.C n) (cut:=Q31.cut) (Z:=Empty) (t:=nofun) (s:=nofun) (e:=fun _=>Q31.E n) (r:=fun _ z=>nomatch z) (n:=n) cfg mixed globs rfl Q31.qi (Q31.tells n) Tryz.func27 (by kernel_rfl) (by kernel_rfl) (fun rec a=>by kernel_rfl) (fun rec z=>nomatch z)
def Q31.via {R:Type} (n:Nat):List AV→(AV→Option R)→Option R:=viaK (Q31.FA n) Q31.o Q31.p
theorem Q31.tells1 {R:Type} (n:Nat) (xs:List AV):Tells1 (R:=R) Tryz.prog 27 xs (Q31.via n xs):=tells_via Q31.oi (fun a=>by kernel_rfl) (Q31.hands n) xs
end Go.Proofs.YtmpglmcjoelciaaGreatDoor.Ev
namespace Go.Proofs.YtmpglmcjoelciaaGreatDoor.Ev
open Go Go.Proofs Go.Proofs.Ev
set_option linter.unusedVariables false
set_option maxRecDepth 100000
abbrev Q2n.A:=Bool × ByteArray × ByteArray × List AV × List AV × Bool × ByteArray × ByteArray × List AV × List AV × List AV × List AV × Bool × List AV
abbrev Q2n.T:=Bool
def Q2n.i:Q2n.A→List AV:=fun (a0,a1,a2,a3,a4,a5,a6,a7,a8,a9,a10,a11,a12,a13)=>[AV.agg [vb a0,vs a1,vs a2,.sl ⟨true,125⟩ 4 a3,.sl ⟨true,111⟩ 2 a4,vb a5,vs a6,vs a7,.sl ⟨true,9⟩ 1 a8,.sl ⟨true,95⟩ 3 a9,.sl ⟨true,97⟩ 4 a10,.sl ⟨true,111⟩ 2 a11,vb a12,.sl ⟨false,100⟩ 2 a13]]
def Q2n.o (xs:List AV):Option Q2n.A:=match xs with | [.agg [.v (.bool a0),.v (.string a1),.v (.string a2),.sl ⟨true,125⟩ 4 a3,.sl ⟨true,111⟩ 2 a4,.v (.bool a5),.v (.string a6),.v (.string a7),.sl ⟨true,9⟩ 1 a8,.sl ⟨true,95⟩ 3 a9,.sl ⟨true,97⟩ 4 a10,.sl ⟨true,111⟩ 2 a11,.v (.bool a12),.sl ⟨false,100⟩ 2 a13]]=>some (a0,a1,a2,a3,a4,a5,a6,a7,a8,a9,a10,a11,a12,a13) | _=>none
theorem Q2n.oi:∀ xs a,Q2n.o xs=some a→xs=Q2n.i a:=by
 intro xs a h
 unfold Q2n.o at h
 split at h
 ·cases h; rfl
 ·cases h
def Q2n.p (p:Q2n.T):AV:=vb p
def Q2n.q (x:AV):Option Q2n.T:=match x with | .v (.bool p0)=>some p0 | _=>none
theorem Q2n.qi:∀ x p,Q2n.q x=some p→x=Q2n.p p:=by
 intro x p h
 unfold Q2n.q at h
 split at h
 ·cases h; rfl
 ·cases h
def Q2n.C {R:Type} (n:Nat) (f:FuncId) (xs:List AV):(AV→Option R)→Option R:=
 bif Nat.beq f 24 then Q36.via n xs else fun _=>none
theorem Q2n.tells {R:Type} (n:Nat):Tells (R:=R) Tryz.prog (Q2n.C n):=fun _ xs=>tells_at (Q36.tells1 n xs) (Tells1.none)
def Q2n.cut (r:Nat):Option Keep:=match r with  | _=>none
def Q2n.e (n:Nat) (a0:Bool) (a1 a2:ByteArray) (a3 a4:List AV) (a5:Bool) (a6 a7:ByteArray) (a8 a9 a10 a11:List AV) (a12:Bool) (a13:List AV):Option Bool:=
 (Q36.F n a0 a1 a2 a3 a4 a5 a6 a7 a8 a9 a10 a11 a12 a13 false (⟨#[]⟩ : ByteArray) (⟨#[]⟩ : ByteArray) [] [] false (⟨#[]⟩ : ByteArray) (⟨#[]⟩ : ByteArray) [] [] [] [] false []).bind fun p1=>
 some p1
def Q2n.E (n:Nat):Q2n.A→Option Q2n.T:=fun (a0,a1,a2,a3,a4,a5,a6,a7,a8,a9,a10,a11,a12,a13)=>Q2n.e n a0 a1 a2 a3 a4 a5 a6 a7 a8 a9 a10 a11 a12 a13
def Q2n.F (n:Nat) (a0:Bool) (a1 a2:ByteArray) (a3 a4:List AV) (a5:Bool) (a6 a7:ByteArray) (a8 a9 a10 a11:List AV) (a12:Bool) (a13:List AV):Option Bool:=Q2n.e n a0 a1 a2 a3 a4 a5 a6 a7 a8 a9 a10 a11 a12 a13
def Q2n.FA (n:Nat):Q2n.A→Option Q2n.T:=Q2n.E n
theorem Q2n.hands (n:Nat):∀ a p,Q2n.FA n a=some p→HandsIn Tryz.prog 29 (Q2n.i a) (Q2n.p p):=
 pf_hands (C:=Q2n.C n) (cut:=Q2n.cut) (Z:=Empty) (t:=nofun) (s:=nofun) (e:=fun _=>Q2n.E n) (r:=fun _ z=>nomatch z) (n:=n) cfg mixed globs rfl Q2n.qi (Q2n.tells n) Tryz.func29 (by kernel_rfl) (by kernel_rfl) (fun rec a=>by kernel_rfl) (fun rec z=>nomatch z)
def Q2n.via {R:Type} (n:Nat):List AV→(AV→Option R)→Option R:=viaK (Q2n.FA n) Q2n.o Q2n.p
theorem Q2n.tells1 {R:Type} (n:Nat) (xs:List AV):Tells1 (R:=R) Tryz.prog 29 xs (Q2n.via n xs):=tells_via Q2n.oi (fun a=>by kernel_rfl) (Q2n.hands n) xs
end Go.Proofs.YtmpglmcjoelciaaGreatDoor.Ev
namespace Go.Proofs.YtmpglmcjoelciaaGreatDoor.Ev
open Go Go.Proofs Go.Proofs.Ev
set_option linter.unusedVariables false
set_option maxRecDepth 100000
abbrev Q28.A:=Bool × ByteArray × ByteArray × List AV × List AV × Bool × ByteArray × ByteArray × List AV × List AV × List AV × List AV × Bool × List AV × List AV
abbrev Q28.T:=Bool
def Q28.i:Q28.A→List AV:=fun (a0,a1,a2,a3,a4,a5,a6,a7,a8,a9,a10,a11,a12,a13,a14)=>[AV.agg [vb a0,vs a1,vs a2,.sl ⟨true,125⟩ 4 a3,.sl ⟨true,111⟩ 2 a4,vb a5,vs a6,vs a7,.sl ⟨true,9⟩ 1 a8,.sl ⟨true,95⟩ 3 a9,.sl ⟨true,97⟩ 4 a10,.sl ⟨true,111⟩ 2 a11,vb a12,.sl ⟨false,100⟩ 2 a13],.sl ⟨true,9⟩ 1 a14]
def Q28.o (xs:List AV):Option Q28.A:=match xs with | [.agg [.v (.bool a0),.v (.string a1),.v (.string a2),.sl ⟨true,125⟩ 4 a3,.sl ⟨true,111⟩ 2 a4,.v (.bool a5),.v (.string a6),.v (.string a7),.sl ⟨true,9⟩ 1 a8,.sl ⟨true,95⟩ 3 a9,.sl ⟨true,97⟩ 4 a10,.sl ⟨true,111⟩ 2 a11,.v (.bool a12),.sl ⟨false,100⟩ 2 a13],.sl ⟨true,9⟩ 1 a14]=>some (a0,a1,a2,a3,a4,a5,a6,a7,a8,a9,a10,a11,a12,a13,a14) | _=>none
def Q28.p (p:Q28.T):AV:=vb p
def Q28.q (x:AV):Option Q28.T:=match x with | .v (.bool p0)=>some p0 | _=>none
theorem Q28.qi:∀ x p,Q28.q x=some p→x=Q28.p p:=by
 intro x p h
 unfold Q28.q at h
 split at h
 ·cases h; rfl
 ·cases h
inductive Q28.Z where
 | z9
 | z13 (z1:Bool) (z2 z3:ByteArray) (z4 z5:List AV) (z6:Bool) (z7 z8:ByteArray) (z9 z10 z11 z12:List AV) (z13:Bool) (z14:List AV)
def Q28.C {R:Type} (n:Nat) (f:FuncId) (xs:List AV):(AV→Option R)→Option R:=
 bif Nat.beq f 12 then Q2j.via n xs else bif Nat.beq f 20 then Q2l.via n xs else bif Nat.beq f 21 then Q0c.via n xs else bif Nat.beq f 22 then Q1o.via n xs else bif Nat.beq f 24 then Q36.via n xs else bif Nat.beq f 25 then Q2m.via n xs else bif Nat.beq f 26 then Q0a.via n xs else bif Nat.beq f 27 then Q31.via n xs else bif Nat.beq f 29 then Q2n.via n xs else fun _=>none
theorem Q28.tells {R:Type} (n:Nat):Tells (R:=R) Tryz.prog (Q28.C n):=fun _ xs=>tells_at (Q2j.tells1 n xs) (tells_at (Q2l.tells1 n xs) (tells_at (Q0c.tells1 n xs) (tells_at (Q1o.tells1 n xs) (tells_at (Q36.tells1 n xs) (tells_at (Q2m.tells1 n xs) (tells_at (Q0a.tells1 n xs) (tells_at (Q31.tells1 n xs) (tells_at (Q2n.tells1 n xs) (Tells1.none)))))))))
def Q28.cut (r:Nat):Option Keep:=match r with | 9=>some ⟨[],[]⟩ | 13=>some ⟨[10],[(10,some 1000000,⟨true,0⟩,0)]⟩ | _=>none
def Q28.t (z:Q28.Z):List Item:=(todoOf (match z with | .z9=>9 | .z13 _ _ _ _ _ _ _ _ _ _ _ _ _ _=>13) 1000 [.code (Tryz.f7.body.getD .skip)]).getD []
def Q28.s:Q28.Z→St
 | .z9=>⟨spr 93 0 [],Mem.ofList [],0⟩
 | .z13 z1 z2 z3 z4 z5 z6 z7 z8 z9 z10 z11 z12 z13 z14=>⟨spr 93 0 [(10,.rd [vb z1,vs z2,vs z3,.sl ⟨true,125⟩ 4 z4,.sl ⟨true,111⟩ 2 z5,vb z6,vs z7,vs z8,.sl ⟨true,9⟩ 1 z9,.sl ⟨true,95⟩ 3 z10,.sl ⟨true,97⟩ 4 z11,.sl ⟨true,111⟩ 2 z12,vb z13,.sl ⟨false,100⟩ 2 z14])],Mem.ofList [],0⟩
def Q28.r9 (n:Nat) (c:Q28.Z→Option Bool)  : Option Bool:=
 some false
def Q28.r13 (n:Nat) (c:Q28.Z→Option Bool) (z1:Bool) (z2 z3:ByteArray) (z4 z5:List AV) (z6:Bool) (z7 z8:ByteArray) (z9 z10 z11 z12:List AV) (z13:Bool) (z14:List AV):Option Bool:=
 (Q31.F n z1 z2 z3 z4 z5 z6 z7 z8 z9 z10 z11 z12 z13 z14).bind fun p18=>
 (Q0a.F n p18.1 p18.2.1 p18.2.2.1 p18.2.2.2.1 p18.2.2.2.2.1 p18.2.2.2.2.2.1 p18.2.2.2.2.2.2.1 p18.2.2.2.2.2.2.2.1 p18.2.2.2.2.2.2.2.2.1 p18.2.2.2.2.2.2.2.2.2.1 p18.2.2.2.2.2.2.2.2.2.2.1 p18.2.2.2.2.2.2.2.2.2.2.2.1 p18.2.2.2.2.2.2.2.2.2.2.2.2.1 p18.2.2.2.2.2.2.2.2.2.2.2.2.2).bind fun p19=>
 bif p19.2==2 then (let y20:Bool:=((p19.1.length:Nat):Int)==0
 some y20) else ((Q0c.F n p19.1).bind fun p21=>
 bif p19.2==0 then (let y22:Bool:=p21.2.2.2.2.2.2.2.2.2.2.2.2.2.2.2==0
 bif y22 then ((Q36.F n z1 z2 z3 z4 z5 z6 z7 z8 z9 z10 z11 z12 z13 z14 p21.1 p21.2.1 p21.2.2.1 p21.2.2.2.1 p21.2.2.2.2.1 p21.2.2.2.2.2.1 p21.2.2.2.2.2.2.1 p21.2.2.2.2.2.2.2.1 p21.2.2.2.2.2.2.2.2.1 p21.2.2.2.2.2.2.2.2.2.1 p21.2.2.2.2.2.2.2.2.2.2.1 p21.2.2.2.2.2.2.2.2.2.2.2.1 p21.2.2.2.2.2.2.2.2.2.2.2.2.1 p21.2.2.2.2.2.2.2.2.2.2.2.2.2.1).bind fun p23=>
 some p23) else (some false)) else (some false))
def Q28.r (n:Nat) (c:Q28.Z→Option Bool):Q28.Z→Option Bool
 | .z9=>Q28.r9 n c
 | .z13 z1 z2 z3 z4 z5 z6 z7 z8 z9 z10 z11 z12 z13 z14=>Q28.r13 n c z1 z2 z3 z4 z5 z6 z7 z8 z9 z10 z11 z12 z13 z14
def Q28.e (n:Nat) (c:Q28.Z→Option Bool) (a0:Bool) (a1 a2:ByteArray) (a3 a4:List AV) (a5:Bool) (a6 a7:ByteArray) (a8 a9 a10 a11:List AV) (a12:Bool) (a13 a14:List AV):Option Bool:=
 (Q2j.F n ).bind fun p1=>
 bif !p1 then (some false) else ((Q2m.F n a0 a1 a2 a3 a4 a5 a6 a7 a8 a9 a10 a11 a12 a13).bind fun p2=>
 bif !p2 then (some true) else ((Q2l.F n a14).bind fun p3=>
 bif !p3 then (some true) else ((Q31.F n a0 a1 a2 a3 a4 a5 a6 a7 a8 a9 a10 a11 a12 a13).bind fun p4=>
 (Q0a.F n p4.1 p4.2.1 p4.2.2.1 p4.2.2.2.1 p4.2.2.2.2.1 p4.2.2.2.2.2.1 p4.2.2.2.2.2.2.1 p4.2.2.2.2.2.2.2.1 p4.2.2.2.2.2.2.2.2.1 p4.2.2.2.2.2.2.2.2.2.1 p4.2.2.2.2.2.2.2.2.2.2.1 p4.2.2.2.2.2.2.2.2.2.2.2.1 p4.2.2.2.2.2.2.2.2.2.2.2.2.1 p4.2.2.2.2.2.2.2.2.2.2.2.2.2).bind fun p5=>
 bif p5.2==0 then ((Q0c.F n p5.1).bind fun p6=>
 let y7:Bool:=p6.2.2.2.2.2.2.2.2.2.2.2.2.2.2.2 != 0
 bif y7 then (c .z9) else (let y8:Bool:=p6.2.2.2.2.2.2.2.2.2.2.2.2.2.2.1 != 0
 bif y8 then (c .z9) else ((Q36.F n p6.1 p6.2.1 p6.2.2.1 p6.2.2.2.1 p6.2.2.2.2.1 p6.2.2.2.2.2.1 p6.2.2.2.2.2.2.1 p6.2.2.2.2.2.2.2.1 p6.2.2.2.2.2.2.2.2.1 p6.2.2.2.2.2.2.2.2.2.1 p6.2.2.2.2.2.2.2.2.2.2.1 p6.2.2.2.2.2.2.2.2.2.2.2.1 p6.2.2.2.2.2.2.2.2.2.2.2.2.1 p6.2.2.2.2.2.2.2.2.2.2.2.2.2.1 a0 a1 a2 a3 a4 a5 a6 a7 a8 a9 a10 a11 a12 a13).bind fun p9=>
 bif !p9 then (c .z9) else ((Q1o.F n a14).bind fun p10=>
 (Q0c.F n p10).bind fun p11=>
 let y12:Bool:=p11.2.2.2.2.2.2.2.2.2.2.2.2.2.2.2 != 0
 bif y12 then ((Q2n.F n p11.1 p11.2.1 p11.2.2.1 p11.2.2.2.1 p11.2.2.2.2.1 p11.2.2.2.2.2.1 p11.2.2.2.2.2.2.1 p11.2.2.2.2.2.2.2.1 p11.2.2.2.2.2.2.2.2.1 p11.2.2.2.2.2.2.2.2.2.1 p11.2.2.2.2.2.2.2.2.2.2.1 p11.2.2.2.2.2.2.2.2.2.2.2.1 p11.2.2.2.2.2.2.2.2.2.2.2.2.1 p11.2.2.2.2.2.2.2.2.2.2.2.2.2.1).bind fun p13=>
 some p13) else (c (.z13 p11.1 p11.2.1 p11.2.2.1 p11.2.2.2.1 p11.2.2.2.2.1 p11.2.2.2.2.2.1 p11.2.2.2.2.2.2.1 p11.2.2.2.2.2.2.2.1 p11.2.2.2.2.2.2.2.2.1 p11.2.2.2.2.2.2.2.2.2.1 p11.2.2.2.2.2.2.2.2.2.2.1 p11.2.2.2.2.2.2.2.2.2.2.2.1 p11.2.2.2.2.2.2.2.2.2.2.2.2.1 p11.2.2.2.2.2.2.2.2.2.2.2.2.2.1)))))) else ((Q1o.F n a14).bind fun p14=>
 (Q0c.F n p14).bind fun p15=>
 let y16:Bool:=p15.2.2.2.2.2.2.2.2.2.2.2.2.2.2.2 != 0
 bif y16 then ((Q2n.F n p15.1 p15.2.1 p15.2.2.1 p15.2.2.2.1 p15.2.2.2.2.1 p15.2.2.2.2.2.1 p15.2.2.2.2.2.2.1 p15.2.2.2.2.2.2.2.1 p15.2.2.2.2.2.2.2.2.1 p15.2.2.2.2.2.2.2.2.2.1 p15.2.2.2.2.2.2.2.2.2.2.1 p15.2.2.2.2.2.2.2.2.2.2.2.1 p15.2.2.2.2.2.2.2.2.2.2.2.2.1 p15.2.2.2.2.2.2.2.2.2.2.2.2.2.1).bind fun p17=>
 some p17) else (c (.z13 p15.1 p15.2.1 p15.2.2.1 p15.2.2.2.1 p15.2.2.2.2.1 p15.2.2.2.2.2.1 p15.2.2.2.2.2.2.1 p15.2.2.2.2.2.2.2.1 p15.2.2.2.2.2.2.2.2.1 p15.2.2.2.2.2.2.2.2.2.1 p15.2.2.2.2.2.2.2.2.2.2.1 p15.2.2.2.2.2.2.2.2.2.2.2.1 p15.2.2.2.2.2.2.2.2.2.2.2.2.1 p15.2.2.2.2.2.2.2.2.2.2.2.2.2.1))))))
def Q28.E (n:Nat) (c:Q28.Z→Option Bool):Q28.A→Option Q28.T:=fun (a0,a1,a2,a3,a4,a5,a6,a7,a8,a9,a10,a11,a12,a13,a14)=>Q28.e n c a0 a1 a2 a3 a4 a5 a6 a7 a8 a9 a10 a11 a12 a13 a14
def Q28.l (n:Nat):Nat→Q28.Z→Option Bool:=loopL (Q28.r n)
def Q28.F (n:Nat) (a0:Bool) (a1 a2:ByteArray) (a3 a4:List AV) (a5:Bool) (a6 a7:ByteArray) (a8 a9 a10 a11:List AV) (a12:Bool) (a13 a14:List AV):Option Bool:=Q28.e n (Q28.l n n) a0 a1 a2 a3 a4 a5 a6 a7 a8 a9 a10 a11 a12 a13 a14
def Q28.FA (n:Nat):Q28.A→Option Q28.T:=Q28.E n (Q28.l n n)
theorem Q28.hands (n:Nat):∀ a p,Q28.FA n a=some p→HandsIn Tryz.prog 7 (Q28.i a) (Q28.p p):=
 pf_hands (C:=Q28.C n) (cut:=Q28.cut) (t:=Q28.t) (s:=Q28.s) (e:=Q28.E n) (r:=Q28.r n) (n:=n) cfg mixed globs rfl Q28.qi (Q28.tells n) Tryz.func7 (by kernel_rfl) (by kernel_rfl) (fun rec a=>by kernel_rfl) (fun rec z=>by cases z <;> kernel_rfl)
end Go.Proofs.YtmpglmcjoelciaaGreatDoor.Ev
namespace Go.Proofs.YtmpglmcjoelciaaGreatDoor.Ev
open Go Go.Proofs Go.Proofs.Ev
theorem Q2l.at4 (n m z1 z2):Q2l.l n (m+1) (.z4 z1 z2)=Q2l.r4 n (Q2l.l n m) z1 z2:=rfl
theorem Q4a.at2 (n m z1 z2 z3):Q4a.l n (m+1) (.z2 z1 z2 z3)=Q4a.r2 n (Q4a.l n m) z1 z2 z3:=rfl
theorem Q43.at5 (n m z1 z2):Q43.l n (m+1) (.z5 z1 z2)=Q43.r5 n (Q43.l n m) z1 z2:=rfl
theorem Q41.at8 (n m z1 z2 z3):Q41.l n (m+1) (.z8 z1 z2 z3)=Q41.r8 n (Q41.l n m) z1 z2 z3:=rfl
theorem Q3v.at13 (n m z1 z2 z3 z4 z5 z6 z7 z8 z9):Q3v.l n (m+1) (.z13 z1 z2 z3 z4 z5 z6 z7 z8 z9)=Q3v.r13 n (Q3v.l n m) z1 z2 z3 z4 z5 z6 z7 z8 z9:=rfl
theorem Q1d.at4 (n m z1 z2 z3 z4 z5 z6 z7 z8 z9 z10 z11 z12 z13 z14 z15 z16 z17):Q1d.l n (m+1) (.z4 z1 z2 z3 z4 z5 z6 z7 z8 z9 z10 z11 z12 z13 z14 z15 z16 z17)=Q1d.r4 n (Q1d.l n m) z1 z2 z3 z4 z5 z6 z7 z8 z9 z10 z11 z12 z13 z14 z15 z16 z17:=rfl
theorem Q1f.at5 (n m z1 z2 z3 z4 z5 z6 z7 z8 z9 z10 z11 z12 z13 z14 z15 z16 z17 z18):Q1f.l n (m+1) (.z5 z1 z2 z3 z4 z5 z6 z7 z8 z9 z10 z11 z12 z13 z14 z15 z16 z17 z18)=Q1f.r5 n (Q1f.l n m) z1 z2 z3 z4 z5 z6 z7 z8 z9 z10 z11 z12 z13 z14 z15 z16 z17 z18:=rfl
theorem Q1e.at9 (n m z1 z2 z3 z4 z5 z6 z7 z8 z9 z10 z11 z12 z13 z14 z15 z16 z17):Q1e.l n (m+1) (.z9 z1 z2 z3 z4 z5 z6 z7 z8 z9 z10 z11 z12 z13 z14 z15 z16 z17)=Q1e.r9 n (Q1e.l n m) z1 z2 z3 z4 z5 z6 z7 z8 z9 z10 z11 z12 z13 z14 z15 z16 z17:=rfl
theorem Q1b.at4 (n m z1 z2 z3 z4 z5 z6 z7 z8 z9 z10 z11 z12 z13 z14 z15 z16 z17):Q1b.l n (m+1) (.z4 z1 z2 z3 z4 z5 z6 z7 z8 z9 z10 z11 z12 z13 z14 z15 z16 z17)=Q1b.r4 n (Q1b.l n m) z1 z2 z3 z4 z5 z6 z7 z8 z9 z10 z11 z12 z13 z14 z15 z16 z17:=rfl
theorem Q17.at3 (n m z1 z2 z3 z4):Q17.l n (m+1) (.z3 z1 z2 z3 z4)=Q17.r3 n (Q17.l n m) z1 z2 z3 z4:=rfl
theorem Q0j.at7 (n m z1 z2 z3 z4 z5 z6 z7 z8 z9 z10):Q0j.l n (m+1) (.z7 z1 z2 z3 z4 z5 z6 z7 z8 z9 z10)=Q0j.r7 n (Q0j.l n m) z1 z2 z3 z4 z5 z6 z7 z8 z9 z10:=rfl
theorem Q0c.at6 (n m z1 z2 z3 z4 z5 z6 z7 z8 z9 z10 z11 z12 z13 z14 z15 z16 z17 z18 z19 z20 z21 z22 z23 z24 z25 z26):Q0c.l n (m+1) (.z6 z1 z2 z3 z4 z5 z6 z7 z8 z9 z10 z11 z12 z13 z14 z15 z16 z17 z18 z19 z20 z21 z22 z23 z24 z25 z26)=Q0c.r6 n (Q0c.l n m) z1 z2 z3 z4 z5 z6 z7 z8 z9 z10 z11 z12 z13 z14 z15 z16 z17 z18 z19 z20 z21 z22 z23 z24 z25 z26:=rfl
theorem Q34.at4 (n m z1 z2 z3 z4 z5):Q34.l n (m+1) (.z4 z1 z2 z3 z4 z5)=Q34.r4 n (Q34.l n m) z1 z2 z3 z4 z5:=rfl
theorem Q3m.at4 (n m z1 z2 z3):Q3m.l n (m+1) (.z4 z1 z2 z3)=Q3m.r4 n (Q3m.l n m) z1 z2 z3:=rfl
theorem Q1y.at4 (n m z1 z2 z3):Q1y.l n (m+1) (.z4 z1 z2 z3)=Q1y.r4 n (Q1y.l n m) z1 z2 z3:=rfl
theorem Q35.at4 (n m z1 z2 z3 z4 z5 z6 z7 z8 z9 z10 z11 z12 z13 z14 z15 z16 z17):Q35.l n (m+1) (.z4 z1 z2 z3 z4 z5 z6 z7 z8 z9 z10 z11 z12 z13 z14 z15 z16 z17)=Q35.r4 n (Q35.l n m) z1 z2 z3 z4 z5 z6 z7 z8 z9 z10 z11 z12 z13 z14 z15 z16 z17:=rfl
theorem Q35.at9 (n m z1 z2 z3 z4 z5 z6 z7 z8 z9 z10 z11 z12 z13 z14 z15 z16 z17):Q35.l n (m+1) (.z9 z1 z2 z3 z4 z5 z6 z7 z8 z9 z10 z11 z12 z13 z14 z15 z16 z17)=Q35.r9 n (Q35.l n m) z1 z2 z3 z4 z5 z6 z7 z8 z9 z10 z11 z12 z13 z14 z15 z16 z17:=rfl
theorem Q35.at14 (n m z1 z2 z3 z4 z5 z6 z7 z8 z9 z10 z11 z12 z13 z14 z15 z16 z17):Q35.l n (m+1) (.z14 z1 z2 z3 z4 z5 z6 z7 z8 z9 z10 z11 z12 z13 z14 z15 z16 z17)=Q35.r14 n (Q35.l n m) z1 z2 z3 z4 z5 z6 z7 z8 z9 z10 z11 z12 z13 z14 z15 z16 z17:=rfl
theorem Q35.at20 (n m z1 z2 z3 z4 z5 z6 z7 z8 z9 z10 z11 z12 z13 z14 z15 z16 z17 z18 z19 z20 z21 z22):Q35.l n (m+1) (.z20 z1 z2 z3 z4 z5 z6 z7 z8 z9 z10 z11 z12 z13 z14 z15 z16 z17 z18 z19 z20 z21 z22)=Q35.r20 n (Q35.l n m) z1 z2 z3 z4 z5 z6 z7 z8 z9 z10 z11 z12 z13 z14 z15 z16 z17 z18 z19 z20 z21 z22:=rfl
theorem Q2g.at4 (n m z1 z2 z3 z4 z5 z6):Q2g.l n (m+1) (.z4 z1 z2 z3 z4 z5 z6)=Q2g.r4 n (Q2g.l n m) z1 z2 z3 z4 z5 z6:=rfl
theorem Q0v.at3 (n m z1 z2 z3 z4):Q0v.l n (m+1) (.z3 z1 z2 z3 z4)=Q0v.r3 n (Q0v.l n m) z1 z2 z3 z4:=rfl
theorem Q15.at5 (n m z1 z2 z3 z4 z5):Q15.l n (m+1) (.z5 z1 z2 z3 z4 z5)=Q15.r5 n (Q15.l n m) z1 z2 z3 z4 z5:=rfl
theorem Q15.at12 (n m z1 z2 z3 z4 z5 z6 z7 z8 z9 z10):Q15.l n (m+1) (.z12 z1 z2 z3 z4 z5 z6 z7 z8 z9 z10)=Q15.r12 n (Q15.l n m) z1 z2 z3 z4 z5 z6 z7 z8 z9 z10:=rfl
theorem Q49.at2 (n m z1 z2 z3):Q49.l n (m+1) (.z2 z1 z2 z3)=Q49.r2 n (Q49.l n m) z1 z2 z3:=rfl
theorem Q0a.at7 (n m z1 z2 z3 z4 z5 z6 z7 z8 z9 z10 z11 z12 z13 z14 z15 z16 z17 z18):Q0a.l n (m+1) (.z7 z1 z2 z3 z4 z5 z6 z7 z8 z9 z10 z11 z12 z13 z14 z15 z16 z17 z18)=Q0a.r7 n (Q0a.l n m) z1 z2 z3 z4 z5 z6 z7 z8 z9 z10 z11 z12 z13 z14 z15 z16 z17 z18:=rfl
theorem Q0a.at15 (n m z1 z2 z3 z4 z5 z6 z7 z8 z9 z10 z11 z12):Q0a.l n (m+1) (.z15 z1 z2 z3 z4 z5 z6 z7 z8 z9 z10 z11 z12)=Q0a.r15 n (Q0a.l n m) z1 z2 z3 z4 z5 z6 z7 z8 z9 z10 z11 z12:=rfl
theorem Q0a.at20 (n m z1 z2 z3 z4 z5 z6 z7 z8 z9 z10 z11 z12):Q0a.l n (m+1) (.z20 z1 z2 z3 z4 z5 z6 z7 z8 z9 z10 z11 z12)=Q0a.r20 n (Q0a.l n m) z1 z2 z3 z4 z5 z6 z7 z8 z9 z10 z11 z12:=rfl
theorem Q0a.at25 (n m z1 z2 z3 z4 z5 z6 z7 z8 z9 z10 z11 z12):Q0a.l n (m+1) (.z25 z1 z2 z3 z4 z5 z6 z7 z8 z9 z10 z11 z12)=Q0a.r25 n (Q0a.l n m) z1 z2 z3 z4 z5 z6 z7 z8 z9 z10 z11 z12:=rfl
theorem Q0a.at31 (n m z1 z2 z3 z4):Q0a.l n (m+1) (.z31 z1 z2 z3 z4)=Q0a.r31 n (Q0a.l n m) z1 z2 z3 z4:=rfl
theorem Q28.at13 (n m z1 z2 z3 z4 z5 z6 z7 z8 z9 z10 z11 z12 z13 z14):Q28.l n (m+1) (.z13 z1 z2 z3 z4 z5 z6 z7 z8 z9 z10 z11 z12 z13 z14)=Q28.r13 n (Q28.l n m) z1 z2 z3 z4 z5 z6 z7 z8 z9 z10 z11 z12 z13 z14:=rfl
end Go.Proofs.YtmpglmcjoelciaaGreatDoor.Ev
namespace Go.Proofs.YtmpglmcjoelciaaGreatDoor.Ev
open Go Go.Proofs Go.Proofs.Ev
set_option linter.unusedVariables false
def run (l:List UInt8):Nat:=(l.takeWhile (fun x=>x != 32&&x != 39)).length
theorem wordsP_len:∀ (g:Nat) (l:List UInt8) (ws:List (List UInt8)),wordsP g l=some ws→ws.length≤l.length+1
 | 0,_,_,h=>by cases h
 | g+1,l,ws,h=>by
  unfold wordsP at h
  split at h
  ·cases h
  ·split at h
   ·cases h; simp
   ·rename_i h1 h2
    rw [Option.map_eq_some_iff] at h
    obtain ⟨w,hw,rfl⟩:=h
    have:=wordsP_len g _ _ hw
    rw [List.length_drop] at this
    have:=wrd_le l
    simp only [List.length_cons]
    omega
end Go.Proofs.YtmpglmcjoelciaaGreatDoor.Ev
namespace Go.Proofs.YtmpglmcjoelciaaGreatDoor.Ev
open Go Go.Proofs Go.Proofs.Ev
set_option linter.unusedVariables false
section
variable {n:Nat} {nm fm:ByteArray} {a3 a4 a5 a7:List AV} {uq:Bool}
theorem din_eq (n:Nat) (a b c:Int):Q0o.F n a b c=some (decide (b≤a∧a≤c)):=by
 unfold Q0o.F Q0o.e
 by_cases h:b≤a
 ·rw [cond_t h]; simp [h]
 ·rw [cond_f h]; simp [h]
theorem bif_ne {α:Type} (e:Int) (x y:α):(bif e != 0 then x else y)=if e≠0 then x else y:=by
 by_cases h:e=0
 ·have h1:(e != 0)=false:=by simp [h]
  rw [h1,if_neg (by simp [h])]; rfl
 ·have h1:(e != 0)=true:=by simp [h]
  rw [h1,if_pos h]; rfl
theorem cond_yes {α:Type} {b:Bool} (h:b=true) (x y:α):(bif b then x else y)=x:=by rw [h]; rfl
theorem some_ite {α:Type} {p:Prop} [Decidable p] (x y:α):(if p then some x else some y)=some (if p then x else y):=by split <;> rfl
theorem Bl_getD {ts:List Bool} {i:Nat} (hi:i < ts.length):(Bl ts).getD (((i:Nat):Int)).toNat AV.undef=vb ts[i]:=by simp [Bl,List.getD_eq_getElem?_getD,hi]
theorem indexB_l (n:Nat) (ts:List Bool) (hw:ts.length≤1000):∀ (d i m:Nat),i+d=ts.length→d < m→∃ q,Q4b.l n m (.z2 (Bl ts) false ts.length i)=some q∧decide (q≥0)=(ts.drop i).contains false
 | _,_,0,_,h=>absurd h (by omega)
 | 0,i,m+1,h,_=>by
  refine ⟨-1,?_,by rw [List.drop_of_length_le (by omega)]; rfl⟩
  rw [Q4b.at2]
  unfold Q4b.r2
  rw [cond_f (by omega)]
 | d+1,i,m+1,h,hm=>by
  have hi:i < ts.length:=by omega
  obtain ⟨q,h1,h2⟩:=indexB_l n ts hw d (i+1) m (by omega) (by omega)
  rw [Q4b.at2]
  unfold Q4b.r2
  rw [cond_t (by omega),Bl_length,within_t hi,cond_true,Bl_getD hi,List.drop_eq_getElem_cons hi,List.contains_cons]
  show ∃ q,(bif (false==ts[i]) then some (i:Int) else _)=some q∧_
  cases ts[i] with
  | false=>exact ⟨i,rfl,by simp⟩
  | true=>
   refine ⟨q,?_,by rw [h2]; rfl⟩
   show Q4b.l n m (.z2 (Bl ts) false ts.length (IntKind.i64.wrap ((i:Int)+1)))=_
   rw [wsucc (by omega)]
   exact h1
theorem containsB {n:Nat} (hn:1001≤n) (ts:List Bool) (hw:ts.length≤1000):Q47.F n (Bl ts) false=some (ts.contains false):=by
 unfold Q47.F Q47.e Q4b.F Q4b.e
 obtain ⟨q,h1,h2⟩:=indexB_l n ts hw ts.length 0 n (by omega) (by omega)
 rw [List.drop_zero] at h2
 rw [Bl_length,show (0:Int)=((0:Nat):Int) from rfl,h1,Option.bind_some]
 exact congrArg some h2
theorem Bl_drop (ts:List Bool) (k:Nat):(Bl ts).drop k=Bl (ts.drop k):=by simp [Bl,List.map_drop]
theorem Bl_set (ts:List Bool) (k:Nat) (b:Bool):(Bl ts).set k (vb b)=Bl (ts.set k b):=by simp [Bl,List.map_set]
theorem joins_l (hn:1001≤n) (ws:List (List UInt8)) (hw:1≤ws.length∧ws.length≤1000) (js:List JP) (hj:js.length≤1000):∀ (d i m:Nat) (last:Int) (ts:List Bool),i+d=js.length→d < m→ts.length=ws.length→
  Q0u.l n m (.z6 last (js.map JP.av) js.length i nm fm (Ws ws) a3 (js.map JP.av) a5 uq a7 (Bl ts))=some (jErr ((ws.length:Int) - 1) (js.drop i) i last ts)
 | _,_,0,_,_,_,h,_=>absurd h (by omega)
 | 0,i,m+1,last,ts,h,_,ht=>by
  rw [Q0u.at6]
  unfold Q0u.r6
  rw [cond_f (by omega),Bl_length,cond_yes (by rw [Bool.and_eq_true,decide_eq_true_eq,decide_eq_true_eq]; omega),Bl_drop,containsB hn _ (by rw [List.length_drop]; omega),Option.bind_some,cond_eq,Option.bind_some,List.drop_of_length_le (show js.length≤i by omega)]
  rfl
 | d+1,i,m+1,last,ts,h,hm,ht=>by
  have hi:i < js.length:=by omega
  rw [Q0u.at6]
  unfold Q0u.r6
  rw [cond_t (by omega),List.length_map,within_t hi,cond_true,at_map JP.av hi,List.drop_eq_getElem_cons hi]
  show ((Q0o.F n js[i].b 1 (IntKind.i64.wrap ((((Ws ws).length:Nat):Int) - 1))).bind fun p16=>(Q0f.F n (!p16) 3).bind fun p17=>(Q0o.F n js[i].fr 0 (IntKind.i64.wrap (js[i].b - 1))).bind fun p18=>
   (Q0f.F n (!p18) 3).bind fun p19=>(Q0r.F n (bs js[i].lf)).bind fun p20=>(Q0f.F n (!p20) 7).bind fun p21=>(Q0r.F n (bs js[i].rt)).bind fun p22=>(Q0f.F n (!p22) 7).bind fun p23=>
   (Q0f.F n (decide (js[i].b < last)) 14).bind fun p24=>(Q0m.F n ([p17,p19,p21,p23,p24].map vi)).bind fun p25=>
   bif p25 != 0 then (some ((i:Int),p25)) else (bif decide ((0:Int)≤js[i].b)&&decide (js[i].b < (((Bl ts).length:Nat):Int)) then
    (Q0u.l n m (.z6 js[i].b (js.map JP.av) js.length (IntKind.i64.wrap ((i:Int)+1)) nm fm (Ws ws) a3 (js.map JP.av) a5 uq a7 ((Bl ts).set ((js[i].b).toNat) (vb true)))) else none))=_
  simp only [Ws_length,din_eq,Option.bind_some,cond_eq,isName_eq hn,first_eq (n:=n) [_,_,_,_,_] (by simp) hn]
  rw [w64 (x:=(ws.length:Int) - 1) (by omega) (by omega),bif_ne]
  rw [jErr_cons]
  have e:fz [(if (!decide (1≤js[i].b∧js[i].b≤(ws.length:Int) - 1))=true then 3 else 0),(if (!decide (0≤js[i].fr∧js[i].fr≤IntKind.i64.wrap (js[i].b - 1)))=true then 3 else 0),(if (!isNm js[i].lf)=true then 7 else 0),(if (!isNm js[i].rt)=true then 7 else 0),(if decide (js[i].b < last)=true then 14 else 0)]=je ((ws.length:Int) - 1) last js[i]:=by
   unfold je
   by_cases h1:1≤js[i].b∧js[i].b≤(ws.length:Int) - 1
   ·rw [w64 (x:=js[i].b - 1) (by omega) (by omega)]
    by_cases h2:0≤js[i].fr∧js[i].fr≤js[i].b - 1
    ·cases h3:isNm js[i].lf
     ·simp [fz,h1,h2]
     ·cases h4:isNm js[i].rt
      ·simp [fz,h1,h2]
      ·simp [fz,h1,h2]
    ·simp [fz,h1,h2]
   ·simp [fz,h1]
  rw [e]
  by_cases h0:je ((ws.length:Int) - 1) last js[i]=0
  ·rw [if_neg (by simp [h0]),if_neg (by simp [h0])]
   have hb:1≤js[i].b∧js[i].b≤(ws.length:Int) - 1:=by
    unfold je at h0
    by_cases h1:1≤js[i].b∧js[i].b≤(ws.length:Int) - 1
    ·exact h1
    ·rw [if_pos h1] at h0; omega
   have e2:(decide ((0:Int)≤js[i].b)&&decide (js[i].b < (((Bl ts).length:Nat):Int)))=true:=by
    rw [Bl_length,Bool.and_eq_true,decide_eq_true_eq,decide_eq_true_eq]; omega
   rw [e2,cond_true,wsucc (by omega),Bl_set]
   exact joins_l hn ws hw js hj d (i+1) m js[i].b (ts.set js[i].b.toNat true) (by omega) (by omega) (by simp [ht])
  ·rw [if_pos h0,if_pos h0]
def jErrT (ws:List (List UInt8)) (js:List JP):Int × Int:=if js.length > 20 then (0,2) else jErr ((ws.length:Int) - 1) js 0 0 (List.replicate ws.length false)
theorem joins_eq (hn:1001≤n) (ws:List (List UInt8)) (hw:1≤ws.length∧ws.length≤1000) (js:List JP) (hj:js.length≤1000):Q0u.F n nm fm (Ws ws) a3 (js.map JP.av) a5 uq a7=some (jErrT ws js):=by
 unfold Q0u.F Q0u.e jErrT
 simp only [List.length_map,Ws_length]
 by_cases h:js.length > 20
 ·rw [cond_t (by omega),if_pos h]
 ·rw [cond_f (by omega),if_neg h,cond_yes (by have:most=1000000000:=rfl; simp [this]; omega),Int.toNat_natCast]
  have e:List.replicate ws.length (vb false)=Bl (List.replicate ws.length false):=by simp [Bl]
  rw [e]
  have:=joins_l (nm:=nm) (fm:=fm) (a3:=a3) (a5:=a5) (uq:=uq) (a7:=a7) hn ws hw js hj js.length 0 n 0 (List.replicate ws.length false) (by omega) (by omega) (by simp)
  rw [List.drop_zero] at this
  exact this
theorem keys_l (hn:1001≤n) (ns:List (List UInt8)) (hs:ns.length≤1000) (ks:List KF) (hk:ks.length≤1000):∀ (d i m:Nat),i+d=ks.length→d < m→
  Q0w.l n m (.z5 (Ws ns) (ks.map KF.av) ks.length i (Ws ((knames ks).take i)))=some (kErr ns (knames ks) (ks.drop i) i)
 | _,_,0,_,h=>absurd h (by omega)
 | 0,i,m+1,h,_=>by
  rw [Q0w.at5]
  unfold Q0w.r5
  rw [cond_f (by omega),List.drop_of_length_le (by omega)]
  rfl
 | d+1,i,m+1,h,hm=>by
  have hi:i < ks.length:=by omega
  have hni:(knames ks).length=ks.length:=by simp [knames]
  have hni' : i < (knames ks).length:=by omega
  have hmost:most=1000000000:=rfl
  have e2:(knames ks)[i]=ks[i].nm:=by simp [knames]
  have ih:=keys_l hn ns hs ks hk d (i+1) m (by omega) (by omega)
  rw [Q0w.at5]
  unfold Q0w.r5
  rw [cond_t (by omega),List.length_map,within_t hi,cond_true,at_map KF.av hi,List.drop_eq_getElem_cons hi]
  show ((Q48.F n (Ws ns) (bs ks[i].nm)).bind fun p8=>(Q0f.F n (!p8) 11).bind fun p9=>(Q48.F n (Ws ((knames ks).take i)) (bs ks[i].nm)).bind fun p10=>(Q0f.F n p10 13).bind fun p11=>
   (Q0m.F n [vi p9,vi p11]).bind fun p12=>bif p12 != 0 then (some ((i:Int),p12)) else (bif decide ((Ws ((knames ks).take i)).length+1≤most) then
    (Q0w.l n m (.z5 (Ws ns) (ks.map KF.av) ks.length (IntKind.i64.wrap ((i:Int)+1)) (Ws ((knames ks).take i)++[vs (bs ks[i].nm)]))) else none))=_
  rw [contains_str hn ns hs,Option.bind_some,cond_eq,Option.bind_some,contains_str hn _ (by rw [List.length_take]; omega),Option.bind_some,cond_eq,Option.bind_some,first2 hn,Option.bind_some,bif_ne,
   cond_t (by rw [Ws_length,List.length_take]; omega),wsucc (by omega),Ws_snoc,← e2,← List.take_succ_eq_append_getElem hni',ih]
  rw [kErr_cons]
  have e:(if (if (!ns.contains (knames ks)[i])=true then (11:Int) else 0)≠0 then (if (!ns.contains (knames ks)[i])=true then (11:Int) else 0) else (if ((knames ks).take i).contains (knames ks)[i]=true then 13 else 0))=ke ns ((knames ks).take i) ks[i]:=by
   unfold ke
   rw [e2]
   cases ns.contains ks[i].nm <;> cases ((knames ks).take i).contains ks[i].nm <;> rfl
  rw [e,some_ite]
def kErrT (ns:List (List UInt8)) (ks:List KF):Int × Int:=if ks.length > 4 then (0,2) else kErr ns (knames ks) ks 0
theorem keysErr_eq (hn:1001≤n) (ns:List (List UInt8)) (hs:ns.length≤1000) (ks:List KF) (hk:ks.length≤1000):Q0w.F n (ks.map KF.av) (Ws ns)=some (kErrT ns ks):=by
 unfold Q0w.F Q0w.e kErrT
 simp only [List.length_map]
 by_cases h:ks.length > 4
 ·rw [cond_t (by omega),if_pos h]
 ·rw [cond_f (by omega),if_neg h]
  have:=keys_l hn ns hs ks hk ks.length 0 n (by omega) (by omega)
  rw [List.drop_zero] at this
  exact this
theorem condErr_eq (hn:1001≤n) (ns:List (List UInt8)) (hs:ns.length≤1000) (c:CN):Q0g.F n (bs c.fd) c.op c.n (bs c.s) (Ws ns)=some (ce ns c):=by
 unfold Q0g.F Q0g.e
 simp only [contains_str hn ns hs,Option.bind_some,cond_eq,din_eq,bs_size,empty_eq]
 have e5:∀ a b c d e:Int,Q0m.F n [vi a,vi b,vi c,vi d,vi e]=some (fz [a,b,c,d,e]):=fun a b c d e=>first_eq [a,b,c,d,e] (by simp) hn
 simp only [e5,Option.bind_some]
 rw [bif_ne]
 unfold ce
 have hsz:decide (((c.s.length:Nat):Int) > 256)=decide (c.s.length > 256):=by rw [decide_eq_decide]; omega
 rw [hsz]
 cases h1:ns.contains c.fd
 ·by_cases h0:c.n=0 <;> simp [fz,h0]
 ·by_cases h2:0≤c.op∧c.op≤5
  ·by_cases h3 : -999999999999999≤c.n∧c.n≤999999999999999
   ·by_cases h4:c.s.length > 256
    ·by_cases h0:c.n=0 <;> simp [fz,h0,h2,h3,h4]
    ·by_cases h0:c.n=0 <;> by_cases h5:c.s=[] <;> simp [fz,h0,h2,h3,h4,h5]
   ·by_cases h0:c.n=0 <;> simp [fz,h0,h2,h3]
  ·by_cases h0:c.n=0 <;> simp [fz,h0,h2]
theorem rules_l (hn:1001≤n) (ns:List (List UInt8)) (hs:ns.length≤1000) (rs:List RL) (hr:rs.length≤1000):∀ (d i m:Nat),i+d=rs.length→10*d+1≤m→
  Q16.l n m (.z5 (rs.map RL.av) rs.length i (Ws ns))=some (rErr ns (rs.drop i) i)
 | 0,i,m,h,hm=>by
  obtain ⟨m,rfl⟩ : ∃ q,m=q+1:=⟨m - 1,by omega⟩
  rw [Q16.at5]
  unfold Q16.r5
  rw [cond_f (by omega),List.drop_of_length_le (by omega)]
  rfl
 | d+1,i,m,h,hm=>by
  obtain ⟨m,rfl⟩ : ∃ q,m=q+1:=⟨m - 1,by omega⟩
  have hi:i < rs.length:=by omega
  -- the conditions of a rule
  have inner:∀ (e j q:Nat),rs[i].cs.length≤4→j+e=rs[i].cs.length→10*d+2+e≤q→
    Q16.l n q (.z10 i (rs.map RL.av) rs.length i (rs[i].cs.map CN.av) rs[i].cs.length j (Ws ns))=some (if cErr ns (rs[i].cs.drop j)≠0 then ((i:Int),cErr ns (rs[i].cs.drop j)) else rErr ns (rs.drop (i+1)) (i+1)):=by
   intro e
   induction e with
   | zero=>
    intro j q h4 hj hq
    obtain ⟨q,rfl⟩ : ∃ r,q=r+1:=⟨q - 1,by omega⟩
    rw [Q16.at10]
    unfold Q16.r10
    rw [cond_f (by omega),wsucc (by omega),rules_l hn ns hs rs hr d (i+1) q (by omega) (by omega),List.drop_of_length_le (show rs[i].cs.length≤j by omega)]
    rfl
   | succ e ih=>
    intro j q h4 hj hq
    obtain ⟨q,rfl⟩ : ∃ r,q=r+1:=⟨q - 1,by omega⟩
    have hjl:j < rs[i].cs.length:=by omega
    have ih':=ih (j+1) q h4 (by omega) (by omega)
    rw [Q16.at10]
    unfold Q16.r10
    rw [cond_t (by omega),List.length_map,within_t hjl,cond_true,at_map CN.av hjl,List.drop_eq_getElem_cons hjl]
    show ((Q0g.F n (bs rs[i].cs[j].fd) rs[i].cs[j].op rs[i].cs[j].n (bs rs[i].cs[j].s) (Ws ns)).bind fun p22=>bif p22 != 0 then (some ((i:Int),p22)) else
     Q16.l n q (.z10 i (rs.map RL.av) rs.length i (rs[i].cs.map CN.av) rs[i].cs.length (IntKind.i64.wrap ((j:Int)+1)) (Ws ns)))=_
    rw [condErr_eq hn ns hs,Option.bind_some,bif_ne,wsucc (by omega),ih']
    rw [cErr_cons]
    by_cases h0:ce ns rs[i].cs[j]=0
    ·simp only [h0,ne_eq,not_true_eq_false,if_false]
    ·simp only [h0,ne_eq,not_false_eq_true,if_true]
  rw [Q16.at5]
  unfold Q16.r5
  rw [cond_t (by omega),List.length_map,within_t hi,cond_true,at_map RL.av hi,List.drop_eq_getElem_cons hi]
  show (bif decide ((((rs[i].cs.map CN.av).length:Nat):Int) > 4) then (some ((i:Int),2)) else Q16.l n m (.z10 i (rs.map RL.av) rs.length i (rs[i].cs.map CN.av) (((rs[i].cs.map CN.av).length:Nat):Int) 0 (Ws ns)))=_
  rw [List.length_map]
  rw [rErr_cons]
  unfold re
  by_cases h4:rs[i].cs.length > 4
  ·rw [cond_t (by omega),if_pos h4,if_pos (by decide)]
  ·rw [cond_f (by omega),if_neg h4]
   have:=inner rs[i].cs.length 0 m (by omega) (by omega) (by omega)
   rw [List.drop_zero] at this
   exact this
def rErrT (ns:List (List UInt8)) (rs:List RL):Int × Int:=if rs.length > 8 then (0,2) else rErr ns rs 0
theorem rulesErr_eq (hn:20001≤n) (fs:List LF) (hf:fs.length≤1000) (rs:List RL) (hr:rs.length≤1000) {a2:List AV}:Q16.F n nm fm a2 (fs.map LF.av) a4 a5 uq (rs.map RL.av)=some (rErrT (names fs) rs):=by
 unfold Q16.F Q16.e rErrT
 simp only [List.length_map]
 by_cases h:rs.length > 8
 ·rw [cond_t (by omega),if_pos h]
 ·rw [cond_f (by omega),if_neg h,namesOf_eq (by omega) fs hf,Option.bind_some]
  have:=rules_l (n:=n) (by omega) (names fs) (by simp [names]; omega) rs hr rs.length 0 n (by omega) (by omega)
  rw [List.drop_zero] at this
  exact this
def chkL (nm fm:List UInt8) (ws:List (List UInt8)) (fs:List LF) (js:List JP) (ks:List KF) (uq:Bool) (rs:List RL):Int × Int:=
 if isNm nm=false then (0,7) else if isNm fm=false then (0,7)
 else if (bErrT ws).2≠0 then bErrT ws
 else if (fErrT ws fs).2≠0 then fErrT ws fs
 else if (jErrT ws js).2≠0 then jErrT ws js
 else if (kErrT (names fs) ks).2≠0 then kErrT (names fs) ks
 else if (rErrT (names fs) rs).2≠0 then rErrT (names fs) rs
 else (0,if ws.length > 1∧(rs.length > 0∨uq=true) then 15 else 0)
theorem checkLogical_eq (hn:20010≤n) (nm fm:List UInt8) (ws:List (List UInt8)) (hw:ws.length≤1000) (fs:List LF) (hf:fs.length≤1000) (js:List JP) (hj:js.length≤1000) (ks:List KF) (hk:ks.length≤1000) (uq:Bool) (rs:List RL) (hr:rs.length≤1000) :
  Q04.F n (bs nm) (bs fm) (Ws ws) (fs.map LF.av) (js.map JP.av) (ks.map KF.av) uq (rs.map RL.av)=some (chkL nm fm ws fs js ks uq rs):=by
 have hnl:(names fs).length≤1000:=by simp [names]; omega
 -- behind a part
 have h7:∀ (m:Nat) (p:Int × Int) (i:Nat),i≤5→Q04.l n (m+1) (.z7 p.1 p.2 5 i (bs nm) (bs fm) (Ws ws) (fs.map LF.av) (js.map JP.av) (ks.map KF.av) uq (rs.map RL.av)) =
   if p.2≠0 then some p else Q04.l n m (.z4 5 ((i+1:Nat):Int) (bs nm) (bs fm) (Ws ws) (fs.map LF.av) (js.map JP.av) (ks.map KF.av) uq (rs.map RL.av)):=by
  intro m p i hi
  rw [Q04.at7]
  unfold Q04.r7
  rw [bif_ne,wsucc (by omega)]
 have h5:∀ m,Q04.l n (m+1) (.z4 5 ((5:Nat):Int) (bs nm) (bs fm) (Ws ws) (fs.map LF.av) (js.map JP.av) (ks.map KF.av) uq (rs.map RL.av))=some (0,if ws.length > 1∧(rs.length > 0∨uq=true) then 15 else 0):=by
  intro m
  rw [Q04.at4]
  unfold Q04.r4
  simp only [Ws_length,List.length_map,cond_eq,Option.bind_some]
  rw [cond_f (by omega)]
  by_cases h1:ws.length > 1
  ·rw [cond_t (by omega)]
   by_cases h2:rs.length > 0
   ·rw [cond_t (by omega)]; simp [h1,h2]
   ·rw [cond_f (by omega)]; simp [h1,h2]
  ·rw [cond_f (by omega)]; simp [h1]
 have h4:∀ m,Q04.l n (m+4) (.z4 5 ((4:Nat):Int) (bs nm) (bs fm) (Ws ws) (fs.map LF.av) (js.map JP.av) (ks.map KF.av) uq (rs.map RL.av))=if (rErrT (names fs) rs).2≠0 then some (rErrT (names fs) rs) else some (0,if ws.length > 1∧(rs.length > 0∨uq=true) then 15 else 0):=by
  intro m
  rw [Q04.at4]
  unfold Q04.r4
  rw [cond_t (by omega),cond_t (by omega),Q04.at6]
  unfold Q04.r6
  rw [rulesErr_eq (by omega) fs hf rs hr,Option.bind_some,h7 _ _ 4 (by omega),h5]
 have h3:∀ m,Q04.l n (m+7) (.z4 5 ((3:Nat):Int) (bs nm) (bs fm) (Ws ws) (fs.map LF.av) (js.map JP.av) (ks.map KF.av) uq (rs.map RL.av))=if (kErrT (names fs) ks).2≠0 then some (kErrT (names fs) ks) else
   if (rErrT (names fs) rs).2≠0 then some (rErrT (names fs) rs) else some (0,if ws.length > 1∧(rs.length > 0∨uq=true) then 15 else 0):=by
  intro m
  rw [Q04.at4]
  unfold Q04.r4
  rw [cond_t (by omega),cond_f (by omega),cond_t (by omega),Q04.at6x1]
  unfold Q04.r6x1 Q05.F Q05.e
  rw [namesOf_eq (by omega) fs hf,Option.bind_some,keysErr_eq (by omega) _ hnl ks hk,Option.bind_some,Option.bind_some,h7 _ _ 3 (by omega),h4]
 have h2:1≤ws.length→∀ m,Q04.l n (m+10) (.z4 5 ((2:Nat):Int) (bs nm) (bs fm) (Ws ws) (fs.map LF.av) (js.map JP.av) (ks.map KF.av) uq (rs.map RL.av))=if (jErrT ws js).2≠0 then some (jErrT ws js) else
   if (kErrT (names fs) ks).2≠0 then some (kErrT (names fs) ks) else if (rErrT (names fs) rs).2≠0 then some (rErrT (names fs) rs) else some (0,if ws.length > 1∧(rs.length > 0∨uq=true) then 15 else 0):=by
  intro h1 m
  rw [Q04.at4]
  unfold Q04.r4
  rw [cond_t (by omega),cond_f (by omega),cond_f (by omega),cond_t (by omega),Q04.at6x2]
  unfold Q04.r6x2
  rw [joins_eq (by omega) ws ⟨h1,hw⟩ js hj,Option.bind_some,h7 _ _ 2 (by omega),h3]
 have h1:1≤ws.length→∀ m,Q04.l n (m+13) (.z4 5 ((1:Nat):Int) (bs nm) (bs fm) (Ws ws) (fs.map LF.av) (js.map JP.av) (ks.map KF.av) uq (rs.map RL.av))=if (fErrT ws fs).2≠0 then some (fErrT ws fs) else if (jErrT ws js).2≠0 then some (jErrT ws js) else
   if (kErrT (names fs) ks).2≠0 then some (kErrT (names fs) ks) else if (rErrT (names fs) rs).2≠0 then some (rErrT (names fs) rs) else some (0,if ws.length > 1∧(rs.length > 0∨uq=true) then 15 else 0):=by
  intro h1 m
  rw [Q04.at4]
  unfold Q04.r4
  rw [cond_t (by omega),cond_f (by omega),cond_f (by omega),cond_f (by omega),cond_t (by omega),Q04.at6x3]
  unfold Q04.r6x3
  rw [fieldsErr_eq (by omega) ws hw fs hf,Option.bind_some,h7 _ _ 1 (by omega),h2 h1]
 unfold Q04.F Q04.e chkL
 rw [isName_eq (by omega),Option.bind_some,isName_eq (by omega),Option.bind_some]
 cases hnm:isNm nm with
 | false=>rfl
 | true=>
  cases hfm:isNm fm with
  | false=>rfl
  | true=>
   simp only [Bool.not_true,cond_false,Bool.true_eq_false,if_false]
   obtain ⟨m,rfl⟩ : ∃ m,n=m+16:=⟨n - 16,by omega⟩
   rw [show (0:Int)=((0:Nat):Int) from rfl,Q04.at4]
   unfold Q04.r4
   rw [cond_t (by omega),cond_f (by omega),cond_f (by omega),cond_f (by omega),cond_f (by omega),cond_t (by omega),Q04.at6x4]
   unfold Q04.r6x4
   rw [basesErr_eq (by omega) ws hw,Option.bind_some,h7 _ _ 0 (by omega)]
   by_cases hb:(bErrT ws).2=0
   ·have hlen:1≤ws.length:=by
     unfold bErrT at hb
     by_cases h0:ws.length=0
     ·rw [if_pos h0] at hb; cases hb
     ·omega
    rw [if_neg (by simp [hb]),if_neg (by simp [hb]),h1 hlen]
    (try simp only [some_ite]); (try simp only [if_false])
    rfl
   ·rw [if_pos hb]
    show _=some (if (bErrT ws).2≠0 then _ else _)
    rw [if_pos hb]
end
end Go.Proofs.YtmpglmcjoelciaaGreatDoor.Ev
namespace Go.Proofs.YtmpglmcjoelciaaGreatDoor.Ev
open Go Go.Proofs Go.Proofs.Ev
set_option linter.unusedVariables false
set_option linter.unusedSimpArgs false
structure FD where
 nm:List UInt8
 k:Int
 l:Int
 s:Int
def FD.av (x:FD):AV:=.agg [vs (bs x.nm),vi x.k,vi x.l,vi x.s]
def dnames (ds:List FD):List (List UInt8):=ds.map FD.nm
theorem dnames_length (ds:List FD):(dnames ds).length=ds.length:=by simp [dnames]
theorem dnames_get {ds:List FD} {i:Nat} (hi:i < ds.length):(dnames ds)[i]'(by rw [dnames_length]; exact hi)=ds[i].nm:=by simp [dnames]
def szT (k l:Int):Int:=if k=1 then l / 2+1 else if k=3 then (if l=9 then 4 else 2) else if k=4 then 16 else l
theorem chkT_cases {k l s:Int} (h:chkT k l s=0):(k=0∧1≤l∧l≤256)∨((k=1∨k=2)∧1≤l∧l≤15)∨(k=3∧(l=4∨l=9))∨(k=4∧l=0):=by
 unfold chkT at h
 by_cases h0:k=0
 ·rw [if_pos h0] at h
  by_cases h1:1≤l∧l≤256
  ·exact .inl ⟨h0,h1⟩
  ·rw [if_pos h1] at h; cases h
 ·rw [if_neg h0] at h
  by_cases h1:k=1∨k=2
  ·rw [if_pos h1] at h
   by_cases h2:1≤l∧l≤15
   ·exact .inr (.inl ⟨h1,h2⟩)
   ·rw [if_pos h2] at h; cases h
  ·rw [if_neg h1] at h
   by_cases h3:k=3
   ·rw [if_pos h3] at h
    by_cases h2:l=4∨l=9
    ·exact .inr (.inr (.inl ⟨h3,h2⟩))
    ·rw [if_pos h2] at h; cases h
   ·rw [if_neg h3] at h
    by_cases h4:k=4
    ·rw [if_pos h4] at h
     by_cases h2:l=0
     ·exact .inr (.inr (.inr ⟨h4,h2⟩))
     ·rw [if_pos h2] at h; cases h
    ·rw [if_neg h4] at h; cases h
theorem szT_range {k l s:Int} (h:chkT k l s=0):0≤szT k l∧szT k l≤256:=by
 unfold szT
 rcases chkT_cases h with ⟨h1,h2⟩ | ⟨h1,h2⟩ | ⟨h1,h2⟩ | ⟨h1,h2⟩ <;> (repeat' split) <;> omega
theorem nsize_eq (n:Nat) {k l s:Int} (h:chkT k l s=0):Q44.F n k l s=some (szT k l):=by
 unfold Q44.F Q44.e szT
 have hc:=chkT_cases h
 have h0:0≤l∧l≤256:=by omega
 simp only [bif_eq0]
 rw [Int.tdiv_eq_ediv_of_nonneg h0.1,Int.tdiv_eq_ediv_of_nonneg h0.1]
 by_cases h1:k=1
 ·rw [if_pos h1,if_pos h1,w64 (x:=l / 2) (by omega) (by omega),w64 (by omega) (by omega)]
 ·rw [if_neg h1,if_neg h1]
  by_cases h3:k=3
  ·rw [if_pos h3,if_pos h3]
   have:l=4∨l=9:=by omega
   rcases this with rfl | rfl <;> rfl
  ·rw [if_neg h3,if_neg h3]
   split <;> rfl
theorem sizeOf_eq {n:Nat} (hn:1001≤n) {k l s:Int} (h:chkT k l s=0):Q3w.F n k l s=some (szT k l,0):=by
 unfold Q3w.F Q3w.e
 rw [check_eq hn,Option.bind_some,h]
 show ((Q44.F n k l s).bind fun p=>some (p,0))=_
 rw [nsize_eq n h]
 rfl
def szs:List FD→Int
 | []=>0
 | f::r=>szT f.k f.l+szs r
def okD (ds:List FD):Prop:=∀ f∈ds,chkT f.k f.l f.s=0
section
variable {n:Nat} {nm fm:ByteArray}
theorem dsize_l (hn:1001≤n) (ds:List FD) (hd:ds.length≤1000) (ho:okD ds) (B:Int) (hB:B≤10000000):∀ (d i m:Nat) (a:Int),i+d=ds.length→d < m→0≤a→a+256*d≤B→Q17.l n m (.z3 a (ds.map FD.av) ds.length i)=some (a+szs (ds.drop i))
 | _,_,0,_,_,h,_,_=>absurd h (by omega)
 | 0,i,m+1,a,h,_,h1,h2=>by
  rw [Q17.at3]
  unfold Q17.r3
  rw [cond_f (by omega),List.drop_of_length_le (by omega)]
  simp [szs]
 | d+1,i,m+1,a,h,hm,h1,h2=>by
  have hi:i < ds.length:=by omega
  have hok:=ho ds[i] (List.getElem_mem hi)
  have hr:=szT_range hok
  have ih:=dsize_l hn ds hd ho B hB d (i+1) m (a+szT ds[i].k ds[i].l) (by omega) (by omega) (by omega) (by omega)
  rw [Q17.at3]
  unfold Q17.r3
  simp (disch:=omega) only [Option.bind_some,Option.bind_none,cond_true,cond_false,Bool.not_true,Bool.not_false,List.length_map,Ws_length,bs_size,within_t,upto_t,wsucc,Int.toNat_natCast,at_mapN,Ws_getDN,cells_agg,cells_v,withCons_cons,withInt_mk,withStr_mk,withBool_mk,withSl_mk,cond_t,cond_f,FD.av]
  rw [sizeOf_eq hn hok]
  simp (disch:=omega) only [Option.bind_some,Option.bind_none,cond_true,cond_false,Bool.not_true,Bool.not_false,List.length_map,Ws_length,bs_size,within_t,upto_t,wsucc,Int.toNat_natCast,at_mapN,Ws_getDN,cells_agg,cells_v,withCons_cons,withInt_mk,withStr_mk,withBool_mk,withSl_mk,cond_t,cond_f]
  rw [w64 (x:=a+szT ds[i].k ds[i].l) (by omega) (by omega),ih,List.drop_eq_getElem_cons hi]
  simp only [szs,Int.add_assoc]
theorem dsize_eq (hn:1001≤n) (ds:List FD) (hd:ds.length≤1000) (ho:okD ds):Q17.F n (ds.map FD.av)=some (szs ds):=by
 unfold Q17.F Q17.e
 have:=dsize_l hn ds hd ho 1000000 (by omega) ds.length 0 n 0 (by omega) (by omega) (by omega) (by omega)
 rw [List.drop_zero,Int.zero_add] at this
 rw [List.length_map]
 exact this
def de (before:List (List UInt8)) (f:FD):Int:=if ne before f.nm≠0 then ne before f.nm else if chkT f.k f.l f.s≠0 then chkT f.k f.l f.s else if f.k=4 then 17 else 0
def dErr (ns:List (List UInt8)):List FD→Nat→Int × Int
 | [],_=>(0,0)
 | f::r,i=>if de (ns.take i) f≠0 then ((i:Int),de (ns.take i) f) else dErr ns r (i+1)
theorem dErr_cons (ns:List (List UInt8)) (f:FD) (r:List FD) (i:Nat):dErr ns (f::r) i=if de (ns.take i) f≠0 then ((i:Int),de (ns.take i) f) else dErr ns r (i+1):=rfl
theorem dErr_ok {ns:List (List UInt8)}:∀ {ds:List FD} {i:Nat},(dErr ns ds i).2=0→okD ds∧∀ f∈ds,f.k≠4
 | [],_,_=>⟨fun _ h=>by simp at h,fun _ h=>by simp at h⟩
 | f::r,i,h=>by
  rw [dErr_cons] at h
  by_cases h0:de (ns.take i) f=0
  ·rw [if_neg (by simp [h0])] at h
   obtain ⟨h1,h2⟩:=dErr_ok h
   unfold de at h0
   by_cases ha:ne (ns.take i) f.nm=0
   ·rw [if_neg (by simp [ha])] at h0
    by_cases hb:chkT f.k f.l f.s=0
    ·rw [if_neg (by simp [hb])] at h0
     by_cases hc:f.k=4
     ·rw [if_pos hc] at h0; cases h0
     ·refine ⟨fun g hg=>?_,fun g hg=>?_⟩
      ·rcases List.mem_cons.1 hg with rfl | hg
       ·exact hb
       ·exact h1 g hg
      ·rcases List.mem_cons.1 hg with rfl | hg
       ·exact hc
       ·exact h2 g hg
    ·rw [if_pos hb] at h0; exact absurd h0 hb
   ·rw [if_pos ha] at h0; exact absurd h0 ha
  ·rw [if_pos h0] at h; exact absurd h h0
def fileT (ds:List FD) (ks:List KF):Int:=
 if (dErr (dnames ds) ds 0).2≠0 then (dErr (dnames ds) ds 0).2 else if szs ds > 200 then 18 else (kErrT (dnames ds) ks).2
def fileE (nm fm:List UInt8) (ds:List FD) (ks:List KF):Int:=
 if isNm nm=false then 7 else if isNm fm=false then 7 else if ds.length=0 then 1 else if ds.length > 20 then 2 else fileT ds ks
theorem fErr_l (hn:1001≤n) (ds:List FD) (hd:ds.length≤1000) (ks:List KF) (hk:ks.length≤1000) (uq:Bool) (hok:(dErr (dnames ds) ds 0).2=0→okD ds):∀ (d i m:Nat),i+d=ds.length→d < m→((dErr (dnames ds) (ds.drop i) i).2=0→(dErr (dnames ds) ds 0).2=0)→
  Q0j.l n m (.z7 (ds.map FD.av) (ds.map FD.av) ds.length i nm fm (ds.map FD.av) (ks.map KF.av) uq (Ws ((dnames ds).take i))) =
   some (if (dErr (dnames ds) (ds.drop i) i).2≠0 then (dErr (dnames ds) (ds.drop i) i).2 else if szs ds > 200 then 18 else (kErrT (dnames ds) ks).2)
 | _,_,0,_,h,_=>absurd h (by omega)
 | 0,i,m+1,h,_,hz=>by
  have hl:=dnames_length ds
  rw [List.drop_of_length_le (by omega)] at hz ⊢
  have ho:=hok (hz rfl)
  rw [Q0j.at7]
  unfold Q0j.r7
  rw [cond_f (by omega),dsize_eq hn ds hd ho,Option.bind_some,List.take_of_length_le (by omega),keysErr_eq hn _ (by omega) ks hk,Option.bind_some,bif_ite,some_ite]
  rfl
 | d+1,i,m+1,h,hm,hz=>by
  have hi:i < ds.length:=by omega
  have hl:=dnames_length ds
  have hl' : i < (dnames ds).length:=by omega
  have hmost:most=1000000000:=rfl
  have ih:=fErr_l hn ds hd ks hk uq hok d (i+1) m (by omega) (by omega)
  rw [List.drop_eq_getElem_cons hi,dErr_cons] at hz ⊢
  rw [Q0j.at7]
  unfold Q0j.r7
  simp (disch:=omega) only [Option.bind_some,Option.bind_none,cond_true,cond_false,Bool.not_true,Bool.not_false,List.length_map,Ws_length,bs_size,within_t,upto_t,wsucc,Int.toNat_natCast,at_mapN,Ws_getDN,cells_agg,cells_v,withCons_cons,withInt_mk,withStr_mk,withBool_mk,withSl_mk,cond_t,cond_f,FD.av]
  rw [nameErr_eq hn _ (by rw [List.length_take]; omega),Option.bind_some,check_eq hn,Option.bind_some,cond_eq,Option.bind_some]
  have hfz:=first_eq (n:=n) [ne ((dnames ds).take i) ds[i].nm,chkT ds[i].k ds[i].l ds[i].s,(if (ds[i].k==4)=true then 17 else 0)] (by simp) hn
  have e:fz [ne ((dnames ds).take i) ds[i].nm,chkT ds[i].k ds[i].l ds[i].s,(if (ds[i].k==4)=true then 17 else 0)]=de ((dnames ds).take i) ds[i]:=by
   unfold de
   by_cases h1:ne ((dnames ds).take i) ds[i].nm=0
   ·by_cases h2:chkT ds[i].k ds[i].l ds[i].s=0
    ·by_cases h3:ds[i].k=4 <;> simp [fz,h1,h2,h3]
    ·simp [fz,h1,h2]
   ·simp [fz,h1]
  rw [e] at hfz
  show ((Q0m.F n ([ne ((dnames ds).take i) ds[i].nm,chkT ds[i].k ds[i].l ds[i].s,(if (ds[i].k==4)=true then 17 else 0)].map vi)).bind _)=_
  rw [hfz,Option.bind_some,bif_ne]
  by_cases h0:de ((dnames ds).take i) ds[i]=0
  ·simp only [h0,ne_eq,not_true_eq_false,if_false] at hz ih ⊢
   rw [cond_t (by rw [List.length_take,List.length_singleton]; omega),Ws_snoc,← dnames_get hi,← List.take_succ_eq_append_getElem hl']
   exact ih hz
  ·simp only [h0,ne_eq,not_false_eq_true,if_true]
theorem fileErr_eq (hn:1001≤n) (nm fm:List UInt8) (ds:List FD) (hd:ds.length≤1000) (ks:List KF) (hk:ks.length≤1000) (uq:Bool) :
  Q0j.F n (bs nm) (bs fm) (ds.map FD.av) (ks.map KF.av) uq=some (fileE nm fm ds ks):=by
 unfold Q0j.F Q0j.e
 rw [isName_eq hn,Option.bind_some,cond_eq,Option.bind_some,isName_eq hn,Option.bind_some,cond_eq,Option.bind_some]
 simp only [cond_eq,Option.bind_some,List.length_map]
 have hfz:=first_eq (n:=n) [(if (!isNm nm)=true then 7 else 0),(if (!isNm fm)=true then 7 else 0),(if ((((ds.length:Nat):Int))==0)=true then 1 else 0),(if decide (((ds.length:Nat):Int) > 20)=true then 2 else 0)] (by simp) hn
 show ((Q0m.F n ([(if (!isNm nm)=true then 7 else 0),(if (!isNm fm)=true then 7 else 0),(if ((((ds.length:Nat):Int))==0)=true then 1 else 0),(if decide (((ds.length:Nat):Int) > 20)=true then 2 else 0)].map vi)).bind _)=_
 rw [hfz,Option.bind_some,bif_ne]
 unfold fileE
 cases h1:isNm nm
 ·simp [fz]
 ·cases h2:isNm fm
  ·simp [fz]
  ·by_cases h3:ds.length=0
   ·simp [fz,h3]
   ·have h3' : ¬ ((ds.length:Nat):Int)=0:=by omega
    by_cases h4:ds.length > 20
    ·have h4' : ((ds.length:Nat):Int) > 20:=by omega
     have:decide (((ds.length:Nat):Int) > 20)=true:=by simpa using h4'
     simp only [fz,h3,h3',h4,beq_int,this]; simp
    ·have:decide (((ds.length:Nat):Int) > 20)=false:=by rw [decide_eq_false_iff_not]; omega
     have e:fz [(if (!true)=true then 7 else 0),(if (!true)=true then 7 else 0),(if ((((ds.length:Nat):Int))==0)=true then 1 else 0),(if decide (((ds.length:Nat):Int) > 20)=true then 2 else 0)]=0:=by
      rw [this]; simp [fz,h3]
     rw [e,if_neg (by simp)]
     simp only [Bool.true_eq_false,if_false,h3,h4]
     have:=fErr_l (nm:=bs nm) (fm:=bs fm) hn ds hd ks hk uq (fun h=>(dErr_ok h).1) ds.length 0 n (by omega) (by omega) (fun h=>h)
     exact this
end
end Go.Proofs.YtmpglmcjoelciaaGreatDoor.Ev
namespace Go.Proofs.YtmpglmcjoelciaaGreatDoor.Ev
open Go Go.Proofs Go.Proofs.Ev
set_option linter.unusedVariables false
set_option linter.unusedSimpArgs false
theorem lit1 (a:UInt8):(⟨#[a]⟩ : ByteArray)=bs [a]:=rfl
theorem lit2 (a b:UInt8):(⟨#[a,b]⟩ : ByteArray)=bs [a,b]:=rfl
theorem lit3 (a b c:UInt8):(⟨#[a,b,c]⟩ : ByteArray)=bs [a,b,c]:=rfl
theorem lit4 (a b c d:UInt8):(⟨#[a,b,c,d]⟩ : ByteArray)=bs [a,b,c,d]:=rfl
theorem lit7 (a b c d e f g:UInt8):(⟨#[a,b,c,d,e,f,g]⟩ : ByteArray)=bs [a,b,c,d,e,f,g]:=rfl
theorem lit8 (a b c d e f g h:UInt8):(⟨#[a,b,c,d,e,f,g,h]⟩ : ByteArray)=bs [a,b,c,d,e,f,g,h]:=rfl
section
variable {n:Nat}
theorem itoaI_eq (k:Int) (h1 : -1000000000000000≤k) (h2:k≤1000000000000000):Q4e.F n k=some (bs (Lib.itoa k)):=by
 unfold Q4e.F
 have:(decide ((-9223372036854775808:Int)≤k)&&decide (k≤9223372036854775807))=true:=by rw [Bool.and_eq_true,decide_eq_true_eq,decide_eq_true_eq]; omega
 rw [this,cond_true]
theorem itoa_len (k:Int) (h1 : -1000000000000000≤k) (h2:k≤1000000000000000):(Lib.itoa k).length≤20:=by
 unfold Lib.itoa
 split
 ·have:=(dec_len 16 k.natAbs (by omega)).2
  simp only [List.length_cons]
  omega
 ·have:=(dec_len 16 k.toNat (by omega)).2
  omega
def dbl (s:List UInt8):List UInt8:=s.flatMap fun c=>if c=39 then [39,39] else [c]
theorem dbl_cons (c:UInt8) (s:List UInt8):dbl (c::s)=(if c=39 then [39,39] else [c])++dbl s:=rfl
theorem dbl_len:∀ s:List UInt8,(dbl s).length≤2*s.length
 | []=>by simp [dbl]
 | c::s=>by
  have:=dbl_len s
  rw [dbl_cons,List.length_append,List.length_cons]
  split <;> simp <;> omega
def qd (s:List UInt8):List UInt8:=[39]++dbl s++[39]
theorem dbl_none:∀ s:List UInt8,s.count 39=0→dbl s=s
 | [],_=>rfl
 | c::s,h=>by
  rw [List.count_cons] at h
  have h1:¬ c=39:=by intro e; rw [e] at h; simp at h
  rw [dbl_cons,if_neg h1,dbl_none s (by omega)]
  rfl
theorem replK:∀ (s:List UInt8) (k:Nat),s.count 39≤k→Lib.replaceK [39] [39,39] k s=dbl s
 | [],0,_=>rfl
 | [],k+1,_=>rfl
 | c::s,k,h=>by
  by_cases hc:c=39
  ·subst hc
   rw [List.count_cons_self] at h
   obtain ⟨k,rfl⟩ : ∃ q,k=q+1:=⟨k - 1,by omega⟩
   have hi:Lib.index (39::s) [39]=((0:Nat):Int):=by simp [Lib.index]
   rw [Lib.replaceK_hit [39] [39,39] k (39::s) 0 hi,dbl_cons,if_pos rfl]
   have:=replK s k (by omega)
   simp only [List.take_zero,List.nil_append,List.length_singleton,Nat.zero_add,List.drop_succ_cons,List.drop_zero,this]
  ·have hcn:(39::([]:List UInt8)).isPrefixOf (c::s)=false:=by
    simp [List.isPrefixOf]
    intro e; exact hc e.symm
   have hct:(c::s).count 39=s.count 39:=by rw [List.count_cons]; simp [hc]
   rw [hct] at h
   cases k with
   | zero=>
    rw [dbl_none (c::s) (by omega)]
    rfl
   | succ k=>
    have ih:=replK s (k+1) h
    have hix:Lib.index (c::s) [39]=if Lib.index s [39]==-1 then -1 else Lib.index s [39]+1:=by
     rw [Lib.index,hcn]; rfl
    by_cases hm:Lib.index s [39]=-1
    ·rw [Lib.replaceK,if_pos (by rw [hix,hm]; rfl)]
     rw [Lib.replaceK,if_pos (by rw [hm]; rfl)] at ih
     rw [dbl_cons,if_neg hc,← ih]
     rfl
    ·have hge:=Lib.index_ge s [39]
     obtain ⟨i,hi⟩ : ∃ i:Nat,Lib.index s [39]=i:=⟨(Lib.index s [39]).toNat,by omega⟩
     have hi' : Lib.index (c::s) [39]=((i+1:Nat):Int):=by
      rw [hix,if_neg (by rw [beq_iff_eq]; exact hm),hi]; rfl
     rw [Lib.replaceK_hit _ _ k s i hi] at ih
     rw [Lib.replaceK_hit _ _ k (c::s) (i+1) hi',dbl_cons,if_neg hc,← ih]
     have:i+1+[(39:UInt8)].length=(i+[(39:UInt8)].length)+1:=by simp
     rw [this,List.drop_succ_cons,List.take_succ_cons]
     simp
theorem replaceAll_eq (s:List UInt8) (hs:s.length≤100000):Q4j.F n (bs s) (bs [39]) (bs [39,39])=some (bs (dbl s)):=by
 unfold Q4j.F
 have hc:Lib.countB (bs s) (bs [39])≤s.length:=Lib.countB_le (bs [39]) (by decide) s.length (bs s) (by rw [bs_size]; omega)
 have hg:((decide ((bs s).size < 4294967281)&&decide (1≤(bs [39]).size))&&decide ((bs s).size+Lib.countB (bs s) (bs [39])*(bs [39,39]).size≤140737488355328))=true:=by
  rw [Bool.and_eq_true,Bool.and_eq_true,decide_eq_true_eq,decide_eq_true_eq,decide_eq_true_eq,bs_size,bs_size,bs_size]
  simp only [List.length_cons,List.length_nil]
  omega
 rw [hg,cond_true]
 have:Lib.replaceAll (bs s).data.toList (bs [39]).data.toList (bs [39,39]).data.toList=dbl s:=by
  show Lib.replaceAll s [39] [39,39]=dbl s
  unfold Lib.replaceAll Lib.replace Lib.replaceNum
  rw [if_neg (by decide),if_pos (by left; decide),replK s _ (by rw [Lib.count_one]; omega)]
 rw [this]
end
end Go.Proofs.YtmpglmcjoelciaaGreatDoor.Ev
namespace Go.Proofs.YtmpglmcjoelciaaGreatDoor.Ev
open Go Go.Proofs Go.Proofs.Ev
set_option linter.unusedVariables false
set_option linter.unusedSimpArgs false
def zok (d:List UInt8):Bool:=!(decide (1 < d.length)&&d.getD 0 0==48)
def numD (d:List UInt8):Bool:=(decide (1≤d.length)&&decide (d.length≤15))&&(d.all isD&&zok d)
theorem zok_iff (d:List UInt8):zok d=true↔¬ (1 < d.length∧d.getD 0 0=48):=by
 unfold zok
 rw [Bool.not_eq_true',← Bool.not_eq_true,Bool.and_eq_true,decide_eq_true_eq,beq_iff_eq]
theorem numD_iff (d:List UInt8):numD d=true↔1≤d.length∧d.length≤15∧d.all isD=true∧¬ (1 < d.length∧d.getD 0 0=48):=by
 unfold numD
 rw [Bool.and_eq_true,Bool.and_eq_true,Bool.and_eq_true,decide_eq_true_eq,decide_eq_true_eq,zok_iff]
 constructor
 ·rintro ⟨⟨a,b⟩,c,d⟩; exact ⟨a,b,c,d⟩
 ·rintro ⟨a,b,c,d⟩; exact ⟨⟨a,b⟩,c,d⟩
def sgn (s:List UInt8):Bool:=s.getD 0 0==45
def bod (s:List UInt8):List UInt8:=if sgn s then s.drop 1 else s
def numP (s:List UInt8):Option Int:=if numD (bod s) then some (if sgn s then -(valA 0 (bod s):Int) else (valA 0 (bod s):Int)) else none
section
variable {n:Nat}
theorem sgn_byte {s:List UInt8} (h:0 < s.length):((((s[0].toNat:Nat):Int))==45)=sgn s:=by
 have e0:s.getD 0 0=s[0]:=by simp [List.getD_eq_getElem?_getD,h]
 unfold sgn
 rw [e0,beq_int]
 by_cases h1:s[0]=45
 ·rw [h1]; rfl
 ·have:(s[0]==45)=false:=by simpa using h1
  rw [this,decide_eq_false_iff_not]
  intro e
  have e2:s[0].toNat=45:=by omega
  exact h1 (UInt8.toNat_inj.1 (by rw [e2]; rfl))
end
end Go.Proofs.YtmpglmcjoelciaaGreatDoor.Ev
namespace Go.Proofs.YtmpglmcjoelciaaGreatDoor.Ev
open Go Go.Proofs Go.Proofs.Ev
set_option linter.unusedVariables false
set_option linter.unusedSimpArgs false
section
variable {n:Nat}
theorem digitAt_eq (s:List UInt8) (i:Nat):Q40.F n (bs s) i=some (decide (i < s.length)&&isD (s.getD i 0)):=by
 unfold Q40.F Q40.e isD
 rw [bs_size]
 by_cases h:i < s.length
 ·rw [cond_t (by omega),within_t h,cond_true]
  have e0:s.getD i 0=s[i]:=by simp [List.getD_eq_getElem?_getD,h]
  simp only [Int.toNat_natCast,getD_at h,e0,h,decide_true,Bool.true_and,cond_true]
  by_cases h2:48≤s[i].toNat
  ·rw [cond_t (by omega)]
   simp [h2]
   omega
  ·rw [cond_f (by omega)]
   simp [h2]
 ·rw [cond_f (by omega)]
  simp [h]
theorem lead_cons (c:UInt8) (r:List UInt8):lead (c::r)=if isD c then lead r+1 else 0:=by
 unfold lead
 rw [List.takeWhile_cons]
 split <;> simp
theorem run_l (s:List UInt8) (hs:s.length≤100000):∀ (d i m:Nat),i+d=s.length→d < m→Q43.l n m (.z5 (bs s) i)=some (((i+lead (s.drop i):Nat):Int),0)
 | _,_,0,_,h=>absurd h (by omega)
 | 0,i,m+1,h,_=>by
  rw [Q43.at5]
  unfold Q43.r5
  rw [digitAt_eq,Option.bind_some,List.drop_of_length_le (by omega)]
  simp only [show ¬ i < s.length by omega,decide_false,Bool.false_and,cond_false]
  rfl
 | d+1,i,m+1,h,hm=>by
  have hi:i < s.length:=by omega
  have ih:=run_l s hs d (i+1) m (by omega) (by omega)
  have e0:s.getD i 0=s[i]:=by simp [List.getD_eq_getElem?_getD,hi]
  rw [Q43.at5]
  unfold Q43.r5
  rw [digitAt_eq,Option.bind_some,List.drop_eq_getElem_cons hi,lead_cons,e0,wsucc (by omega),ih]
  simp only [hi,decide_true,Bool.true_and]
  cases isD s[i]
  ·rfl
  ·simp only [cond_true,if_true]
   rw [show i+1+lead (s.drop (i+1))=i+(lead (s.drop (i+1))+1) by omega]
theorem run_eq (hn:100002≤n) (s:List UInt8) (hs:s.length≤100000) (i:Nat) (hi:i≤s.length):Q43.F n (bs s) i=some (if lead (s.drop i)=0 then ((i:Int),if i < s.length then 8 else 9) else (((i+lead (s.drop i):Nat):Int),0)):=by
 unfold Q43.F Q43.e
 rw [digitAt_eq,Option.bind_some,run_l s hs (s.length - i) i n (by omega) (by omega),bs_size]
 by_cases h:i < s.length
 ·have e0:s.getD i 0=s[i]:=by simp [List.getD_eq_getElem?_getD,h]
  rw [List.drop_eq_getElem_cons h,lead_cons,e0]
  simp only [h,decide_true,Bool.true_and]
  cases isD s[i]
  ·rw [Bool.not_false,cond_true,cond_t (by omega)]
   rfl
  ·simp only [Bool.not_true,cond_false,if_true]
   rw [if_neg (by omega)]
 ·rw [List.drop_of_length_le (by omega)]
  simp only [h,decide_false,Bool.false_and,Bool.not_false,cond_true]
  rw [cond_f (by omega)]
  rfl
def frm (s:List UInt8):Nat:=if sgn s then 1 else 0
theorem drop_frm (s:List UInt8):s.drop (frm s)=bod s:=by
 unfold frm bod
 split <;> rfl
theorem lead_eq {d:List UInt8} (h:lead d=d.length):d.all isD=true:=by
 have:=lead_all d
 rw [h,List.take_length] at this
 exact this
theorem layout_tail (hn:100002≤n) (s:List UInt8) (hs:s.length≤40) (f k:Nat) (hf:f+k≤s.length):∀ m,5≤m→∃ a b e:Int,Q41.l n m (.z8 (bs s) f ((f+k:Nat):Int))=some (a,b,e)∧
  (f+k=s.length→a=f∧e=0)∧(e=0→a=f)∧(e=0→f+k < s.length→s.contains 46=true):=by
 intro m hm
 obtain ⟨m,rfl⟩ : ∃ q,m=q+2:=⟨m - 2,by omega⟩
 rw [Q41.at8]
 unfold Q41.r8
 rw [bs_size]
 by_cases h:f+k=s.length
 ·have:((((f+k:Nat):Int))==((s.length:Nat):Int))=true:=by rw [h]; simp
  simp only [this,cond_true]
  exact ⟨_,_,_,rfl,fun _=>⟨rfl,rfl⟩,fun _=>rfl,fun _ hl=>absurd hl (by omega)⟩
 ·have:((((f+k:Nat):Int))==((s.length:Nat):Int))=false:=by rw [beq_eq_false_iff_ne]; omega
  have hi:f+k < s.length:=by omega
  simp only [this,cond_false,within_t hi,cond_true,Int.toNat_natCast,getD_at hi]
  by_cases h46:s[f+k]=46
  ·have hb:(((s[f+k].toNat:Nat):Int) != 46)=false:=by rw [h46]; rfl
   have hc:s.contains 46=true:=by rw [List.contains_iff_mem,← h46]; exact List.getElem_mem hi
   rw [hb,cond_false,wsucc (by omega),run_eq hn s (by omega) (f+k+1) (by omega),Option.bind_some]
   have e15:∀ a b c d,Q41.l n (m+1) (.z15 a b c d)=bif c != 0 then some (0,d,c) else some (a,b,0):=fun a b c d=>rfl
   simp only [e15]
   by_cases hl:lead (s.drop (f+k+1))=0
   ·simp only [hl,if_true]
    by_cases hl2:f+k+1 < s.length
    ·simp only [hl2,if_true]
     exact ⟨_,_,8,rfl,fun h'=>absurd h' h,nofun,nofun⟩
    ·simp only [hl2,if_false]
     exact ⟨_,_,9,rfl,fun h'=>absurd h' h,nofun,nofun⟩
   ·simp only [hl,if_false,beq_self_eq_true,cond_true]
    by_cases hl2:(((f+k+1+lead (s.drop (f+k+1)):Nat):Int)) < ((s.length:Nat):Int)
    ·rw [cond_t hl2]
     exact ⟨_,_,8,rfl,fun h'=>absurd h' h,nofun,nofun⟩
    ·rw [cond_f hl2]
     exact ⟨_,_,0,rfl,fun h'=>absurd h' h,fun _=>rfl,fun _ _=>hc⟩
  ·have hb:(((s[f+k].toNat:Nat):Int) != 46)=true:=by
    rw [bne_iff_ne]
    intro e
    have e2:s[f+k].toNat=46:=by omega
    exact h46 (UInt8.toNat_inj.1 (by rw [e2]; rfl))
   rw [hb,cond_true]
   exact ⟨_,_,8,rfl,fun h'=>absurd h' h,nofun,nofun⟩
theorem layout_eq (hn:100002≤n) (s:List UInt8) (hs:s.length≤40) (h0:s≠[]):∃ a b e:Int,Q41.F n (bs s)=some (a,b,e)∧
  ((bod s).all isD=true∧1≤(bod s).length∧zok (bod s)=true→a=frm s∧e=0)∧(e=0→a=frm s∧((bod s).all isD=true∧1≤(bod s).length∧zok (bod s)=true∨s.contains 46=true)):=by
 have hpos:0 < s.length:=List.length_pos_iff.2 h0
 have fin:∀ f:Nat,f=frm s→f≤s.length→∃ a b e:Int,((Q43.F n (bs s) f).bind fun p2=>bif p2.2 != 0 then some (0,p2.1,p2.2) else (bif decide ((f:Int) < ((s.length:Nat):Int)) then (bif ((((bs s).data.getD f 0).toNat:Nat):Int)==48 then (bif decide (p2.1 > ((f+1:Nat):Int)) then some (0,((f+1:Nat):Int),8) else Q41.l n n (.z8 (bs s) f p2.1)) else Q41.l n n (.z8 (bs s) f p2.1)) else none))=some (a,b,e)∧
   ((bod s).all isD=true∧1≤(bod s).length∧zok (bod s)=true→a=frm s∧e=0)∧(e=0→a=frm s∧((bod s).all isD=true∧1≤(bod s).length∧zok (bod s)=true∨s.contains 46=true)):=by
  intro f hf hfl
  have hd:s.drop f=bod s:=by rw [hf,drop_frm]
  have hdl:(bod s).length=s.length - f:=by rw [← hd,List.length_drop]
  have hle:=lead_le (bod s)
  rw [run_eq hn s (by omega) f hfl,Option.bind_some,hd]
  by_cases hl:lead (bod s)=0
  ·simp only [hl,if_true]
   have nope:¬ ((bod s).all isD=true∧1≤(bod s).length∧zok (bod s)=true):=by
    rintro ⟨x,y,_⟩
    have:=lead_full _ x
    omega
   by_cases hl2:f < s.length
   ·simp only [hl2,if_true]
    exact ⟨_,_,8,rfl,fun h=>absurd h nope,nofun⟩
   ·simp only [hl2,if_false]
    exact ⟨_,_,9,rfl,fun h=>absurd h nope,nofun⟩
  ·have hfl2:f < s.length:=by omega
   have eb:s[f]=(bod s).getD 0 0:=by
    rw [← hd]
    simp [List.getD_eq_getElem?_getD,hfl2]
   simp only [hl,if_false,getD_at hfl2,bne_self_eq_false,cond_false]
   rw [cond_t (show (f:Int) < ((s.length:Nat):Int) by omega)]
   have tail:=layout_tail hn s hs f (lead (bod s)) (by omega) n (by omega)
   obtain ⟨a,b,e,t1,t2,t3,t4⟩:=tail
   have use:zok (bod s)=true→∃ a b e:Int,Q41.l n n (.z8 (bs s) f ((f+lead (bod s):Nat):Int))=some (a,b,e)∧
     ((bod s).all isD=true∧1≤(bod s).length∧zok (bod s)=true→a=frm s∧e=0)∧(e=0→a=frm s∧((bod s).all isD=true∧1≤(bod s).length∧zok (bod s)=true∨s.contains 46=true)):=by
    intro hz
    refine ⟨a,b,e,t1,?_,?_⟩
    ·rintro ⟨x,y,_⟩
     have:=lead_full _ x
     rw [← hf]
     exact t2 (by omega)
    ·intro he
     refine ⟨by rw [← hf]; exact t3 he,?_⟩
     by_cases hq:f+lead (bod s) < s.length
     ·exact .inr (t4 he hq)
     ·exact .inl ⟨lead_eq (by omega),by omega,hz⟩
   by_cases h48:s[f]=48
   ·have hb:(((s[f].toNat:Nat):Int)==48)=true:=by rw [h48]; rfl
    rw [hb,cond_true]
    by_cases h1:lead (bod s) > 1
    ·rw [cond_t (by omega)]
     refine ⟨_,_,8,rfl,?_,nofun⟩
     rintro ⟨_,_,hz⟩
     exact absurd ⟨by omega,by rw [← eb]; exact h48⟩ ((zok_iff _).1 hz)
    ·rw [cond_f (by omega)]
     by_cases hz:zok (bod s)=true
     ·exact use hz
     ·refine ⟨a,b,e,t1,fun h=>absurd h.2.2 hz,?_⟩
      intro he
      refine ⟨by rw [← hf]; exact t3 he,?_⟩
      have:f+lead (bod s) < s.length:=by
       have hx:1 < (bod s).length:=by
        refine Classical.byContradiction fun h=>hz ((zok_iff _).2 fun ⟨x,_⟩=>h x)
       omega
      exact .inr (t4 he this)
   ·have hb:(((s[f].toNat:Nat):Int)==48)=false:=by
     rw [beq_eq_false_iff_ne]
     intro e
     have e2:s[f].toNat=48:=by omega
     exact h48 (UInt8.toNat_inj.1 (by rw [e2]; rfl))
    rw [hb,cond_false]
    exact use ((zok_iff _).2 fun ⟨_,x⟩=>h48 (by rw [eb]; exact x))
 unfold Q41.F Q41.e
 rw [bs_size,cond_t (by omega)]
 simp only [getD_at hpos,sgn_byte hpos]
 cases hsg:sgn s
 ·rw [cond_false]
  have:=fin 0 (by unfold frm; rw [hsg]; rfl) (by omega)
  have w1:IntKind.i64.wrap ((0:Int)+1)=((0+1:Nat):Int):=rfl
  rw [w1]
  simp only [getD_at hpos] at this
  exact this
 ·rw [cond_true]
  have:=fin 1 (by unfold frm; rw [hsg]; rfl) (by omega)
  have w1:IntKind.i64.wrap ((1:Int)+1)=((1+1:Nat):Int):=rfl
  rw [w1]
  exact this
end
end Go.Proofs.YtmpglmcjoelciaaGreatDoor.Ev
end
