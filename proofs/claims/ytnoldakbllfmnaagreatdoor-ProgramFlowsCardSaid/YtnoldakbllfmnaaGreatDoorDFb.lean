import Derived.Test.YtnoldakbllfmnaaGreatDoorDFa
import Derived.Test.YtnoldakbllfmnaaGreatDoorDFVc
import Derived.Shelf.Spec.SlicesGrow
import Derived.Shelf.SlLaysE0
import Derived.Shelf.SlGeneric
import Derived.Ground.Names8Prog
import Derived.Ground.SlgnProg
import Derived.Test.YtnoldakbllfmnaaGreatDoorProg
import Derived.PlainAid
import Derived.IntWalk
import Derived.Laws.Strings
import Derived.Lib.AtoiTie
import Derived.Lib.IndexBytes
noncomputable section
namespace Go.Proofs.YtnoldakbllfmnaaGreatDoor.Ev
open Go Go.Proofs Go.Proofs.Ev
set_option linter.unusedVariables false
set_option maxRecDepth 100000
abbrev Q2y.A:=ByteArray
abbrev Q2y.T:=Int × Bool
def Q2y.i:Q2y.A→List AV:=fun a0=>[vs a0]
def Q2y.o (xs:List AV):Option Q2y.A:=match xs with | [.v (.string a0)]=>some a0 | _=>none
theorem Q2y.oi:∀ xs a,Q2y.o xs=some a→xs=Q2y.i a:=by
 intro xs a h
 unfold Q2y.o at h
 split at h
 ·cases h; rfl
 ·cases h
def Q2y.p (p:Q2y.T):AV:=.tup [vi p.1,vb p.2]
def Q2y.q (x:AV):Option Q2y.T:=match x with | .tup [.v (.int .i64 p0),.v (.bool p1)]=>some (p0,p1) | _=>none
theorem Q2y.qi:∀ x p,Q2y.q x=some p→x=Q2y.p p:=by
 intro x p h
 unfold Q2y.q at h
 split at h
 ·cases h; rfl
 ·cases h
def Q2y.C {R:Type} (n:Nat) (f:FuncId) (xs:List AV):(AV→Option R)→Option R:=
 bif Nat.beq f 97 then Q3m.via n xs else bif Nat.beq f 157 then Q3l.via n xs else fun _=>none
theorem Q2y.tells {R:Type} (n:Nat):Tells (R:=R) Tryz.prog (Q2y.C n):=fun _ xs=>tells_at (Q3m.tells1 n xs) (tells_at (Q3l.tells1 n xs) (Tells1.none))
def Q2y.cut (r:Nat):Option Keep:=match r with  | _=>none
def Q2y.e (n:Nat) (a0:ByteArray):Option (Int × Bool):=
 (Q3l.F n a0).bind fun p1=>
 bif !p1.2 then (let y2:Bool:=decide (((a0.size:Nat):Int)≤15)
 bif y2 then ((Q3m.F n p1.1).bind fun p3=>
 bif p3.toList==a0.toList then (some (p1.1,decide (p1.1≥0))) else (some (p1.1,false))) else (some (p1.1,false))) else (some (p1.1,false))
def Q2y.E (n:Nat):Q2y.A→Option Q2y.T:=fun a0=>Q2y.e n a0
def Q2y.F (n:Nat) (a0:ByteArray):Option (Int × Bool):=Q2y.e n a0
def Q2y.FA (n:Nat):Q2y.A→Option Q2y.T:=Q2y.E n
theorem Q2y.hands (n:Nat):∀ a p,Q2y.FA n a=some p→HandsIn Tryz.prog 108 (Q2y.i a) (Q2y.p p):=
 pf_hands (C:=Q2y.C n) (cut:=Q2y.cut) (Z:=Empty) (t:=nofun) (s:=nofun) (e:=fun _=>Q2y.E n) (r:=fun _ z=>nomatch z) (n:=n) cfg mixed globs rfl Q2y.qi (Q2y.tells n) Tryz.func108 (by kernel_rfl) (by kernel_rfl) (fun rec a=>by kernel_rfl) (fun rec z=>nomatch z)
def Q2y.via {R:Type} (n:Nat):List AV→(AV→Option R)→Option R:=viaK (Q2y.FA n) Q2y.o Q2y.p
theorem Q2y.tells1 {R:Type} (n:Nat) (xs:List AV):Tells1 (R:=R) Tryz.prog 108 xs (Q2y.via n xs):=tells_via Q2y.oi (fun a=>by kernel_rfl) (Q2y.hands n) xs
end Go.Proofs.YtnoldakbllfmnaaGreatDoor.Ev
namespace Go.Proofs.YtnoldakbllfmnaaGreatDoor.Ev
open Go Go.Proofs Go.Proofs.Ev
set_option linter.unusedVariables false
set_option maxRecDepth 100000
abbrev Q3i.A:=List AV × ByteArray
abbrev Q3i.T:=Int
def Q3i.i:Q3i.A→List AV:=fun (a0,a1)=>[.sl ⟨true,9,false⟩ 1 a0,vs a1]
def Q3i.o (xs:List AV):Option Q3i.A:=match xs with | [.sl ⟨true,9,false⟩ 1 a0,.v (.string a1)]=>some (a0,a1) | _=>none
theorem Q3i.oi:∀ xs a,Q3i.o xs=some a→xs=Q3i.i a:=by
 intro xs a h
 unfold Q3i.o at h
 split at h
 ·cases h; rfl
 ·cases h
def Q3i.p (p:Q3i.T):AV:=vi p
def Q3i.q (x:AV):Option Q3i.T:=match x with | .v (.int .i64 p0)=>some p0 | _=>none
theorem Q3i.qi:∀ x p,Q3i.q x=some p→x=Q3i.p p:=by
 intro x p h
 unfold Q3i.q at h
 split at h
 ·cases h; rfl
 ·cases h
inductive Q3i.Z where
 | z2 (z1:List AV) (z2:ByteArray) (z3 z4:Int)
def Q3i.C {R:Type} (n:Nat) (f:FuncId) (xs:List AV):(AV→Option R)→Option R:=
 fun _=>none
theorem Q3i.tells {R:Type} (n:Nat):Tells (R:=R) Tryz.prog (Q3i.C n):=fun _ xs=>Tells1.none
def Q3i.cut (r:Nat):Option Keep:=match r with | 2=>some ⟨[0,1,7,8],[]⟩ | _=>none
def Q3i.t (z:Q3i.Z):List Item:=(todoOf (match z with | .z2 _ _ _ _=>2) 1000 [.code (Tryz.f109.body.getD .skip)]).getD []
def Q3i.s:Q3i.Z→St
 | .z2 z1 z2 z3 z4=>⟨spr 19 0 [(0,.sl ⟨true,9,false⟩ 1 z1),(1,vs z2),(7,vi z3),(8,vi z4)],Mem.ofList [],0⟩
def Q3i.r2 (n:Nat) (c:Q3i.Z→Option Int) (z1:List AV) (z2:ByteArray) (z3 z4:Int):Option Int:=
 bif decide (z4 < z3) then (bif decide ((0:Int)≤z4)&&decide (z4 < ((z1.length:Nat):Int)) then (withCons ((z1.getD ((z4).toNat) .undef).cells) fun h1 r2=>
 withStr h1 fun s3=>
 bif z2.toList==s3.toList then (some z4) else (c (.z2 z1 z2 z3 (IntKind.i64.wrap (z4+1))))) else none) else (some (-1))
def Q3i.r (n:Nat) (c:Q3i.Z→Option Int):Q3i.Z→Option Int
 | .z2 z1 z2 z3 z4=>Q3i.r2 n c z1 z2 z3 z4
def Q3i.e (n:Nat) (c:Q3i.Z→Option Int) (a0:List AV) (a1:ByteArray):Option Int:=
 c (.z2 a0 a1 ((a0.length:Nat):Int) 0)
def Q3i.E (n:Nat) (c:Q3i.Z→Option Int):Q3i.A→Option Q3i.T:=fun (a0,a1)=>Q3i.e n c a0 a1
def Q3i.l (n:Nat):Nat→Q3i.Z→Option Int:=loopL (Q3i.r n)
def Q3i.F (n:Nat) (a0:List AV) (a1:ByteArray):Option Int:=Q3i.e n (Q3i.l n n) a0 a1
def Q3i.FA (n:Nat):Q3i.A→Option Q3i.T:=Q3i.E n (Q3i.l n n)
theorem Q3i.hands (n:Nat):∀ a p,Q3i.FA n a=some p→HandsIn Tryz.prog 109 (Q3i.i a) (Q3i.p p):=
 pf_hands (C:=Q3i.C n) (cut:=Q3i.cut) (t:=Q3i.t) (s:=Q3i.s) (e:=Q3i.E n) (r:=Q3i.r n) (n:=n) cfg mixed globs rfl Q3i.qi (Q3i.tells n) Tryz.func109 (by kernel_rfl) (by kernel_rfl) (fun rec a=>by kernel_rfl) (fun rec z=>by cases z <;> kernel_rfl)
def Q3i.via {R:Type} (n:Nat):List AV→(AV→Option R)→Option R:=viaK (Q3i.FA n) Q3i.o Q3i.p
theorem Q3i.tells1 {R:Type} (n:Nat) (xs:List AV):Tells1 (R:=R) Tryz.prog 109 xs (Q3i.via n xs):=tells_via Q3i.oi (fun a=>by kernel_rfl) (Q3i.hands n) xs
end Go.Proofs.YtnoldakbllfmnaaGreatDoor.Ev
namespace Go.Proofs.YtnoldakbllfmnaaGreatDoor.Ev
open Go Go.Proofs Go.Proofs.Ev
set_option linter.unusedVariables false
set_option maxRecDepth 100000
abbrev Q41.A:=ByteArray × ByteArray
abbrev Q41.T:=Bool
def Q41.i:Q41.A→List AV:=fun (a0,a1)=>[vs a0,vs a1]
def Q41.o (xs:List AV):Option Q41.A:=match xs with | [.v (.string a0),.v (.string a1)]=>some (a0,a1) | _=>none
theorem Q41.oi:∀ xs a,Q41.o xs=some a→xs=Q41.i a:=by
 intro xs a h
 unfold Q41.o at h
 split at h
 ·cases h; rfl
 ·cases h
def Q41.p (p:Q41.T):AV:=vb p
def Q41.q (x:AV):Option Q41.T:=match x with | .v (.bool p0)=>some p0 | _=>none
theorem Q41.qi:∀ x p,Q41.q x=some p→x=Q41.p p:=by
 intro x p h
 unfold Q41.q at h
 split at h
 ·cases h; rfl
 ·cases h
def Q41.C {R:Type} (n:Nat) (f:FuncId) (xs:List AV):(AV→Option R)→Option R:=
 fun _=>none
theorem Q41.tells {R:Type} (n:Nat):Tells (R:=R) Tryz.prog (Q41.C n):=fun _ xs=>Tells1.none
def Q41.cut (r:Nat):Option Keep:=match r with  | _=>none
def Q41.e (n:Nat) (a0 a1:ByteArray):Option Bool:=
 let y1:Bool:=decide (((a0.size:Nat):Int)≥((a1.size:Nat):Int))
 bif y1 then (let y2:Int:=IntKind.i64.wrap (((a0.size:Nat):Int) - ((a1.size:Nat):Int))
 bif decide ((0:Int)≤y2)&&decide ((y2:Int)≤((a0.size:Nat):Int)) then (let y3:ByteArray:=a0.extract (y2).toNat a0.size
 some (y3.toList==a1.toList)) else none) else (some false)
def Q41.E (n:Nat):Q41.A→Option Q41.T:=fun (a0,a1)=>Q41.e n a0 a1
def Q41.F (n:Nat) (a0 a1:ByteArray):Option Bool:=Q41.e n a0 a1
def Q41.FA (n:Nat):Q41.A→Option Q41.T:=Q41.E n
theorem Q41.hands (n:Nat):∀ a p,Q41.FA n a=some p→HandsIn Tryz.prog 215 (Q41.i a) (Q41.p p):=
 pf_hands (C:=Q41.C n) (cut:=Q41.cut) (Z:=Empty) (t:=nofun) (s:=nofun) (e:=fun _=>Q41.E n) (r:=fun _ z=>nomatch z) (n:=n) cfg mixed globs rfl Q41.qi (Q41.tells n) Tryz.func215 (by kernel_rfl) (by kernel_rfl) (fun rec a=>by kernel_rfl) (fun rec z=>nomatch z)
def Q41.via {R:Type} (n:Nat):List AV→(AV→Option R)→Option R:=viaK (Q41.FA n) Q41.o Q41.p
theorem Q41.tells1 {R:Type} (n:Nat) (xs:List AV):Tells1 (R:=R) Tryz.prog 215 xs (Q41.via n xs):=tells_via Q41.oi (fun a=>by kernel_rfl) (Q41.hands n) xs
end Go.Proofs.YtnoldakbllfmnaaGreatDoor.Ev
namespace Go.Proofs.YtnoldakbllfmnaaGreatDoor.Ev
open Go Go.Proofs Go.Proofs.Ev
set_option linter.unusedVariables false
set_option maxRecDepth 100000
abbrev Q3z.A:=ByteArray × ByteArray
abbrev Q3z.T:=ByteArray × Bool
def Q3z.i:Q3z.A→List AV:=fun (a0,a1)=>[vs a0,vs a1]
def Q3z.o (xs:List AV):Option Q3z.A:=match xs with | [.v (.string a0),.v (.string a1)]=>some (a0,a1) | _=>none
theorem Q3z.oi:∀ xs a,Q3z.o xs=some a→xs=Q3z.i a:=by
 intro xs a h
 unfold Q3z.o at h
 split at h
 ·cases h; rfl
 ·cases h
def Q3z.p (p:Q3z.T):AV:=.tup [vs p.1,vb p.2]
def Q3z.q (x:AV):Option Q3z.T:=match x with | .tup [.v (.string p0),.v (.bool p1)]=>some (p0,p1) | _=>none
theorem Q3z.qi:∀ x p,Q3z.q x=some p→x=Q3z.p p:=by
 intro x p h
 unfold Q3z.q at h
 split at h
 ·cases h; rfl
 ·cases h
def Q3z.C {R:Type} (n:Nat) (f:FuncId) (xs:List AV):(AV→Option R)→Option R:=
 bif Nat.beq f 215 then Q41.via n xs else fun _=>none
theorem Q3z.tells {R:Type} (n:Nat):Tells (R:=R) Tryz.prog (Q3z.C n):=fun _ xs=>tells_at (Q41.tells1 n xs) (Tells1.none)
def Q3z.cut (r:Nat):Option Keep:=match r with  | _=>none
def Q3z.e (n:Nat) (a0 a1:ByteArray):Option (ByteArray × Bool):=
 (Q41.F n a0 a1).bind fun p1=>
 bif !p1 then (some (a0,false)) else (let y2:Int:=IntKind.i64.wrap (((a0.size:Nat):Int) - ((a1.size:Nat):Int))
 bif decide ((0:Int)≤y2)&&decide ((y2:Int)≤((a0.size:Nat):Int)) then (some (a0.extract 0 (y2).toNat,true)) else none)
def Q3z.E (n:Nat):Q3z.A→Option Q3z.T:=fun (a0,a1)=>Q3z.e n a0 a1
def Q3z.F (n:Nat) (a0 a1:ByteArray):Option (ByteArray × Bool):=Q3z.e n a0 a1
def Q3z.FA (n:Nat):Q3z.A→Option Q3z.T:=Q3z.E n
theorem Q3z.hands (n:Nat):∀ a p,Q3z.FA n a=some p→HandsIn Tryz.prog 184 (Q3z.i a) (Q3z.p p):=
 pf_hands (C:=Q3z.C n) (cut:=Q3z.cut) (Z:=Empty) (t:=nofun) (s:=nofun) (e:=fun _=>Q3z.E n) (r:=fun _ z=>nomatch z) (n:=n) cfg mixed globs rfl Q3z.qi (Q3z.tells n) Tryz.func184 (by kernel_rfl) (by kernel_rfl) (fun rec a=>by kernel_rfl) (fun rec z=>nomatch z)
def Q3z.via {R:Type} (n:Nat):List AV→(AV→Option R)→Option R:=viaK (Q3z.FA n) Q3z.o Q3z.p
theorem Q3z.tells1 {R:Type} (n:Nat) (xs:List AV):Tells1 (R:=R) Tryz.prog 184 xs (Q3z.via n xs):=tells_via Q3z.oi (fun a=>by kernel_rfl) (Q3z.hands n) xs
end Go.Proofs.YtnoldakbllfmnaaGreatDoor.Ev
namespace Go.Proofs.YtnoldakbllfmnaaGreatDoor.Ev
open Go Go.Proofs Go.Proofs.Ev
set_option linter.unusedVariables false
set_option maxRecDepth 100000
abbrev Q3p.A:=ByteArray × ByteArray
abbrev Q3p.T:=ByteArray × Bool
def Q3p.i:Q3p.A→List AV:=fun (a0,a1)=>[vs a0,vs a1]
def Q3p.o (xs:List AV):Option Q3p.A:=match xs with | [.v (.string a0),.v (.string a1)]=>some (a0,a1) | _=>none
theorem Q3p.oi:∀ xs a,Q3p.o xs=some a→xs=Q3p.i a:=by
 intro xs a h
 unfold Q3p.o at h
 split at h
 ·cases h; rfl
 ·cases h
def Q3p.p (p:Q3p.T):AV:=.tup [vs p.1,vb p.2]
def Q3p.q (x:AV):Option Q3p.T:=match x with | .tup [.v (.string p0),.v (.bool p1)]=>some (p0,p1) | _=>none
theorem Q3p.qi:∀ x p,Q3p.q x=some p→x=Q3p.p p:=by
 intro x p h
 unfold Q3p.q at h
 split at h
 ·cases h; rfl
 ·cases h
def Q3p.C {R:Type} (n:Nat) (f:FuncId) (xs:List AV):(AV→Option R)→Option R:=
 bif Nat.beq f 184 then Q3z.via n xs else fun _=>none
theorem Q3p.tells {R:Type} (n:Nat):Tells (R:=R) Tryz.prog (Q3p.C n):=fun _ xs=>tells_at (Q3z.tells1 n xs) (Tells1.none)
def Q3p.cut (r:Nat):Option Keep:=match r with  | _=>none
def Q3p.e (n:Nat) (a0 a1:ByteArray):Option (ByteArray × Bool):=
 (Q3z.F n a0 a1).bind fun p1=>
 some (p1.1,p1.2)
def Q3p.E (n:Nat):Q3p.A→Option Q3p.T:=fun (a0,a1)=>Q3p.e n a0 a1
def Q3p.F (n:Nat) (a0 a1:ByteArray):Option (ByteArray × Bool):=Q3p.e n a0 a1
def Q3p.FA (n:Nat):Q3p.A→Option Q3p.T:=Q3p.E n
theorem Q3p.hands (n:Nat):∀ a p,Q3p.FA n a=some p→HandsIn Tryz.prog 154 (Q3p.i a) (Q3p.p p):=
 pf_hands (C:=Q3p.C n) (cut:=Q3p.cut) (Z:=Empty) (t:=nofun) (s:=nofun) (e:=fun _=>Q3p.E n) (r:=fun _ z=>nomatch z) (n:=n) cfg mixed globs rfl Q3p.qi (Q3p.tells n) Tryz.func154 (by kernel_rfl) (by kernel_rfl) (fun rec a=>by kernel_rfl) (fun rec z=>nomatch z)
def Q3p.via {R:Type} (n:Nat):List AV→(AV→Option R)→Option R:=viaK (Q3p.FA n) Q3p.o Q3p.p
theorem Q3p.tells1 {R:Type} (n:Nat) (xs:List AV):Tells1 (R:=R) Tryz.prog 154 xs (Q3p.via n xs):=tells_via Q3p.oi (fun a=>by kernel_rfl) (Q3p.hands n) xs
end Go.Proofs.YtnoldakbllfmnaaGreatDoor.Ev
namespace Go.Proofs.YtnoldakbllfmnaaGreatDoor.Ev
open Go Go.Proofs Go.Proofs.Ev
set_option linter.unusedVariables false
set_option maxRecDepth 100000
abbrev Q36.A:=ByteArray
abbrev Q36.T:=Int × Int × Int × Bool
def Q36.i:Q36.A→List AV:=fun a0=>[vs a0]
def Q36.o (xs:List AV):Option Q36.A:=match xs with | [.v (.string a0)]=>some a0 | _=>none
theorem Q36.oi:∀ xs a,Q36.o xs=some a→xs=Q36.i a:=by
 intro xs a h
 unfold Q36.o at h
 split at h
 ·cases h; rfl
 ·cases h
def Q36.p (p:Q36.T):AV:=.tup [AV.agg [vi p.1,vi p.2.1,vi p.2.2.1],vb p.2.2.2]
def Q36.q (x:AV):Option Q36.T:=match x with | .tup [.agg [.v (.int .i64 p0),.v (.int .i64 p1),.v (.int .i64 p2)],.v (.bool p3)]=>some (p0,p1,p2,p3) | _=>none
theorem Q36.qi:∀ x p,Q36.q x=some p→x=Q36.p p:=by
 intro x p h
 unfold Q36.q at h
 split at h
 ·cases h; rfl
 ·cases h
def Q36.C {R:Type} (n:Nat) (f:FuncId) (xs:List AV):(AV→Option R)→Option R:=
 bif Nat.beq f 60 then Q3n.via n xs else bif Nat.beq f 108 then Q2y.via n xs else bif Nat.beq f 109 then Q3i.via n xs else bif Nat.beq f 154 then Q3p.via n xs else fun _=>none
theorem Q36.tells {R:Type} (n:Nat):Tells (R:=R) Tryz.prog (Q36.C n):=fun _ xs=>tells_at (Q3n.tells1 n xs) (tells_at (Q2y.tells1 n xs) (tells_at (Q3i.tells1 n xs) (tells_at (Q3p.tells1 n xs) (Tells1.none))))
def Q36.cut (r:Nat):Option Keep:=match r with  | _=>none
def Q36.e (n:Nat) (a0:ByteArray):Option (Int × Int × Int × Bool):=
 (Q3n.F n a0 (⟨#[40]⟩ : ByteArray)).bind fun p1=>
 (Q3i.F n gr19 p1.1).bind fun p2=>
 (Q3p.F n p1.2.1 (⟨#[41]⟩ : ByteArray)).bind fun p3=>
 bif decide (p2 < 0) then (some (0,0,0,false)) else (bif !p3.2 then (some (0,0,0,false)) else (bif p2==0 then ((Q2y.F n p3.1).bind fun p4=>
 some (p2,p4.1,0,p4.2)) else ((Q3n.F n p3.1 (⟨#[44]⟩ : ByteArray)).bind fun p5=>
 (Q2y.F n p5.1).bind fun p6=>
 (Q2y.F n p5.2.1).bind fun p7=>
 bif p6.2 then (some (p2,p6.1,p7.1,p7.2)) else (some (p2,p6.1,p7.1,false)))))
def Q36.E (n:Nat):Q36.A→Option Q36.T:=fun a0=>Q36.e n a0
def Q36.F (n:Nat) (a0:ByteArray):Option (Int × Int × Int × Bool):=Q36.e n a0
def Q36.FA (n:Nat):Q36.A→Option Q36.T:=Q36.E n
theorem Q36.hands (n:Nat):∀ a p,Q36.FA n a=some p→HandsIn Tryz.prog 153 (Q36.i a) (Q36.p p):=
 pf_hands (C:=Q36.C n) (cut:=Q36.cut) (Z:=Empty) (t:=nofun) (s:=nofun) (e:=fun _=>Q36.E n) (r:=fun _ z=>nomatch z) (n:=n) cfg mixed globs rfl Q36.qi (Q36.tells n) Tryz.func153 (by kernel_rfl) (by kernel_rfl) (fun rec a=>by kernel_rfl) (fun rec z=>nomatch z)
def Q36.via {R:Type} (n:Nat):List AV→(AV→Option R)→Option R:=viaK (Q36.FA n) Q36.o Q36.p
theorem Q36.tells1 {R:Type} (n:Nat) (xs:List AV):Tells1 (R:=R) Tryz.prog 153 xs (Q36.via n xs):=tells_via Q36.oi (fun a=>by kernel_rfl) (Q36.hands n) xs
end Go.Proofs.YtnoldakbllfmnaaGreatDoor.Ev
namespace Go.Proofs.YtnoldakbllfmnaaGreatDoor.Ev
open Go Go.Proofs Go.Proofs.Ev
set_option linter.unusedVariables false
set_option maxRecDepth 100000
abbrev Q3q.A:=ByteArray × ByteArray
abbrev Q3q.T:=Bool
def Q3q.i:Q3q.A→List AV:=fun (a0,a1)=>[vs a0,vs a1]
def Q3q.o (xs:List AV):Option Q3q.A:=match xs with | [.v (.string a0),.v (.string a1)]=>some (a0,a1) | _=>none
theorem Q3q.oi:∀ xs a,Q3q.o xs=some a→xs=Q3q.i a:=by
 intro xs a h
 unfold Q3q.o at h
 split at h
 ·cases h; rfl
 ·cases h
def Q3q.p (p:Q3q.T):AV:=vb p
def Q3q.q (x:AV):Option Q3q.T:=match x with | .v (.bool p0)=>some p0 | _=>none
theorem Q3q.qi:∀ x p,Q3q.q x=some p→x=Q3q.p p:=by
 intro x p h
 unfold Q3q.q at h
 split at h
 ·cases h; rfl
 ·cases h
def Q3q.C {R:Type} (n:Nat) (f:FuncId) (xs:List AV):(AV→Option R)→Option R:=
 bif Nat.beq f 104 then Q40.via n xs else fun _=>none
theorem Q3q.tells {R:Type} (n:Nat):Tells (R:=R) Tryz.prog (Q3q.C n):=fun _ xs=>tells_at (Q40.tells1 n xs) (Tells1.none)
def Q3q.cut (r:Nat):Option Keep:=match r with  | _=>none
def Q3q.e (n:Nat) (a0 a1:ByteArray):Option Bool:=
 (Q40.F n a0 a1).bind fun p1=>
 some p1
def Q3q.E (n:Nat):Q3q.A→Option Q3q.T:=fun (a0,a1)=>Q3q.e n a0 a1
def Q3q.F (n:Nat) (a0 a1:ByteArray):Option Bool:=Q3q.e n a0 a1
def Q3q.FA (n:Nat):Q3q.A→Option Q3q.T:=Q3q.E n
theorem Q3q.hands (n:Nat):∀ a p,Q3q.FA n a=some p→HandsIn Tryz.prog 61 (Q3q.i a) (Q3q.p p):=
 pf_hands (C:=Q3q.C n) (cut:=Q3q.cut) (Z:=Empty) (t:=nofun) (s:=nofun) (e:=fun _=>Q3q.E n) (r:=fun _ z=>nomatch z) (n:=n) cfg mixed globs rfl Q3q.qi (Q3q.tells n) Tryz.func61 (by kernel_rfl) (by kernel_rfl) (fun rec a=>by kernel_rfl) (fun rec z=>nomatch z)
def Q3q.via {R:Type} (n:Nat):List AV→(AV→Option R)→Option R:=viaK (Q3q.FA n) Q3q.o Q3q.p
theorem Q3q.tells1 {R:Type} (n:Nat) (xs:List AV):Tells1 (R:=R) Tryz.prog 61 xs (Q3q.via n xs):=tells_via Q3q.oi (fun a=>by kernel_rfl) (Q3q.hands n) xs
end Go.Proofs.YtnoldakbllfmnaaGreatDoor.Ev
namespace Go.Proofs.YtnoldakbllfmnaaGreatDoor.Ev
open Go Go.Proofs Go.Proofs.Ev
set_option linter.unusedVariables false
set_option maxRecDepth 100000
abbrev Q20.A:=ByteArray × Int
abbrev Q20.T:=Bool
def Q20.i:Q20.A→List AV:=fun (a0,a1)=>[vs a0,vi a1]
def Q20.o (xs:List AV):Option Q20.A:=match xs with | [.v (.string a0),.v (.int .i64 a1)]=>some (a0,a1) | _=>none
theorem Q20.oi:∀ xs a,Q20.o xs=some a→xs=Q20.i a:=by
 intro xs a h
 unfold Q20.o at h
 split at h
 ·cases h; rfl
 ·cases h
def Q20.p (p:Q20.T):AV:=vb p
def Q20.q (x:AV):Option Q20.T:=match x with | .v (.bool p0)=>some p0 | _=>none
theorem Q20.qi:∀ x p,Q20.q x=some p→x=Q20.p p:=by
 intro x p h
 unfold Q20.q at h
 split at h
 ·cases h; rfl
 ·cases h
def Q20.C {R:Type} (n:Nat) (f:FuncId) (xs:List AV):(AV→Option R)→Option R:=
 fun _=>none
theorem Q20.tells {R:Type} (n:Nat):Tells (R:=R) Tryz.prog (Q20.C n):=fun _ xs=>Tells1.none
def Q20.cut (r:Nat):Option Keep:=match r with  | _=>none
def Q20.e (n:Nat) (a0:ByteArray) (a1:Int):Option Bool:=
 let y1:Bool:=decide (a1 < ((a0.size:Nat):Int))
 bif y1 then (bif decide ((0:Int)≤a1)&&decide (a1 < ((a0.size:Nat):Int)) then (let y2:Int:=(((a0.data.getD ((a1).toNat) 0).toNat:Nat):Int)
 bif decide ((48:Int)≤y2) then (bif decide ((0:Int)≤a1)&&decide (a1 < ((a0.size:Nat):Int)) then (let y3:Int:=(((a0.data.getD ((a1).toNat) 0).toNat:Nat):Int)
 some (decide (y3≤57))) else none) else (some false)) else none) else (some false)
def Q20.E (n:Nat):Q20.A→Option Q20.T:=fun (a0,a1)=>Q20.e n a0 a1
def Q20.F (n:Nat) (a0:ByteArray) (a1:Int):Option Bool:=Q20.e n a0 a1
def Q20.FA (n:Nat):Q20.A→Option Q20.T:=Q20.E n
theorem Q20.hands (n:Nat):∀ a p,Q20.FA n a=some p→HandsIn Tryz.prog 251 (Q20.i a) (Q20.p p):=
 pf_hands (C:=Q20.C n) (cut:=Q20.cut) (Z:=Empty) (t:=nofun) (s:=nofun) (e:=fun _=>Q20.E n) (r:=fun _ z=>nomatch z) (n:=n) cfg mixed globs rfl Q20.qi (Q20.tells n) Tryz.func251 (by kernel_rfl) (by kernel_rfl) (fun rec a=>by kernel_rfl) (fun rec z=>nomatch z)
def Q20.via {R:Type} (n:Nat):List AV→(AV→Option R)→Option R:=viaK (Q20.FA n) Q20.o Q20.p
theorem Q20.tells1 {R:Type} (n:Nat) (xs:List AV):Tells1 (R:=R) Tryz.prog 251 xs (Q20.via n xs):=tells_via Q20.oi (fun a=>by kernel_rfl) (Q20.hands n) xs
end Go.Proofs.YtnoldakbllfmnaaGreatDoor.Ev
namespace Go.Proofs.YtnoldakbllfmnaaGreatDoor.Ev
open Go Go.Proofs Go.Proofs.Ev
set_option linter.unusedVariables false
set_option maxRecDepth 100000
abbrev Q24.A:=ByteArray × Int
abbrev Q24.T:=Int × Int
def Q24.i:Q24.A→List AV:=fun (a0,a1)=>[vs a0,vi a1]
def Q24.o (xs:List AV):Option Q24.A:=match xs with | [.v (.string a0),.v (.int .i64 a1)]=>some (a0,a1) | _=>none
theorem Q24.oi:∀ xs a,Q24.o xs=some a→xs=Q24.i a:=by
 intro xs a h
 unfold Q24.o at h
 split at h
 ·cases h; rfl
 ·cases h
def Q24.p (p:Q24.T):AV:=.tup [vi p.1,vi p.2]
def Q24.q (x:AV):Option Q24.T:=match x with | .tup [.v (.int .i64 p0),.v (.int .i64 p1)]=>some (p0,p1) | _=>none
theorem Q24.qi:∀ x p,Q24.q x=some p→x=Q24.p p:=by
 intro x p h
 unfold Q24.q at h
 split at h
 ·cases h; rfl
 ·cases h
inductive Q24.Z where
 | z5 (z1:ByteArray) (z2:Int)
def Q24.C {R:Type} (n:Nat) (f:FuncId) (xs:List AV):(AV→Option R)→Option R:=
 bif Nat.beq f 251 then Q20.via n xs else fun _=>none
theorem Q24.tells {R:Type} (n:Nat):Tells (R:=R) Tryz.prog (Q24.C n):=fun _ xs=>tells_at (Q20.tells1 n xs) (Tells1.none)
def Q24.cut (r:Nat):Option Keep:=match r with | 5=>some ⟨[0,1],[]⟩ | _=>none
def Q24.t (z:Q24.Z):List Item:=(todoOf (match z with | .z5 _ _=>5) 1000 [.code (Tryz.f240.body.getD .skip)]).getD []
def Q24.s:Q24.Z→St
 | .z5 z1 z2=>⟨spr 22 0 [(0,vs z1),(1,vi z2)],Mem.ofList [],0⟩
def Q24.r5 (n:Nat) (c:Q24.Z→Option (Int × Int)) (z1:ByteArray) (z2:Int):Option (Int × Int):=
 (Q20.F n z1 z2).bind fun p3=>
 bif p3 then (c (.z5 z1 (IntKind.i64.wrap (z2+1)))) else (some (z2,0))
def Q24.r (n:Nat) (c:Q24.Z→Option (Int × Int)):Q24.Z→Option (Int × Int)
 | .z5 z1 z2=>Q24.r5 n c z1 z2
def Q24.e (n:Nat) (c:Q24.Z→Option (Int × Int)) (a0:ByteArray) (a1:Int):Option (Int × Int):=
 (Q20.F n a0 a1).bind fun p1=>
 bif !p1 then (let y2:Bool:=decide (a1 < ((a0.size:Nat):Int))
 bif y2 then (some (a1,8)) else (some (a1,9))) else (c (.z5 a0 a1))
def Q24.E (n:Nat) (c:Q24.Z→Option (Int × Int)):Q24.A→Option Q24.T:=fun (a0,a1)=>Q24.e n c a0 a1
def Q24.l (n:Nat):Nat→Q24.Z→Option (Int × Int):=loopL (Q24.r n)
def Q24.F (n:Nat) (a0:ByteArray) (a1:Int):Option (Int × Int):=Q24.e n (Q24.l n n) a0 a1
def Q24.FA (n:Nat):Q24.A→Option Q24.T:=Q24.E n (Q24.l n n)
theorem Q24.hands (n:Nat):∀ a p,Q24.FA n a=some p→HandsIn Tryz.prog 240 (Q24.i a) (Q24.p p):=
 pf_hands (C:=Q24.C n) (cut:=Q24.cut) (t:=Q24.t) (s:=Q24.s) (e:=Q24.E n) (r:=Q24.r n) (n:=n) cfg mixed globs rfl Q24.qi (Q24.tells n) Tryz.func240 (by kernel_rfl) (by kernel_rfl) (fun rec a=>by kernel_rfl) (fun rec z=>by cases z <;> kernel_rfl)
def Q24.via {R:Type} (n:Nat):List AV→(AV→Option R)→Option R:=viaK (Q24.FA n) Q24.o Q24.p
theorem Q24.tells1 {R:Type} (n:Nat) (xs:List AV):Tells1 (R:=R) Tryz.prog 240 xs (Q24.via n xs):=tells_via Q24.oi (fun a=>by kernel_rfl) (Q24.hands n) xs
end Go.Proofs.YtnoldakbllfmnaaGreatDoor.Ev
namespace Go.Proofs.YtnoldakbllfmnaaGreatDoor.Ev
open Go Go.Proofs Go.Proofs.Ev
set_option linter.unusedVariables false
set_option maxRecDepth 100000
abbrev Q21.A:=ByteArray
abbrev Q21.T:=Int × Int × Int
def Q21.i:Q21.A→List AV:=fun a0=>[vs a0]
def Q21.o (xs:List AV):Option Q21.A:=match xs with | [.v (.string a0)]=>some a0 | _=>none
theorem Q21.oi:∀ xs a,Q21.o xs=some a→xs=Q21.i a:=by
 intro xs a h
 unfold Q21.o at h
 split at h
 ·cases h; rfl
 ·cases h
def Q21.p (p:Q21.T):AV:=.tup [vi p.1,vi p.2.1,vi p.2.2]
def Q21.q (x:AV):Option Q21.T:=match x with | .tup [.v (.int .i64 p0),.v (.int .i64 p1),.v (.int .i64 p2)]=>some (p0,p1,p2) | _=>none
theorem Q21.qi:∀ x p,Q21.q x=some p→x=Q21.p p:=by
 intro x p h
 unfold Q21.q at h
 split at h
 ·cases h; rfl
 ·cases h
inductive Q21.Z where
 | z8 (z1:ByteArray) (z2 z3:Int)
 | z15 (z1 z2 z3 z4:Int)
def Q21.C {R:Type} (n:Nat) (f:FuncId) (xs:List AV):(AV→Option R)→Option R:=
 bif Nat.beq f 240 then Q24.via n xs else fun _=>none
theorem Q21.tells {R:Type} (n:Nat):Tells (R:=R) Tryz.prog (Q21.C n):=fun _ xs=>tells_at (Q24.tells1 n xs) (Tells1.none)
def Q21.cut (r:Nat):Option Keep:=match r with | 8=>some ⟨[0,2,3],[]⟩ | 15=>some ⟨[2,3,4,5],[]⟩ | _=>none
def Q21.t (z:Q21.Z):List Item:=(todoOf (match z with | .z8 _ _ _=>8 | .z15 _ _ _ _=>15) 1000 [.code (Tryz.f216.body.getD .skip)]).getD []
def Q21.s:Q21.Z→St
 | .z8 z1 z2 z3=>⟨spr 63 0 [(0,vs z1),(2,vi z2),(3,vi z3)],Mem.ofList [],0⟩
 | .z15 z1 z2 z3 z4=>⟨spr 63 0 [(2,vi z1),(3,vi z2),(4,vi z3),(5,vi z4)],Mem.ofList [],0⟩
def Q21.r8 (n:Nat) (c:Q21.Z→Option (Int × Int × Int)) (z1:ByteArray) (z2 z3:Int):Option (Int × Int × Int):=
 let y10:Bool:=z3==((z1.size:Nat):Int)
 bif y10 then (some (z2,z3,0)) else (bif decide ((0:Int)≤z3)&&decide (z3 < ((z1.size:Nat):Int)) then (let y11:Int:=(((z1.data.getD ((z3).toNat) 0).toNat:Nat):Int)
 bif y11 != 46 then (some (0,z3,8)) else ((Q24.F n z1 (IntKind.i64.wrap (z3+1))).bind fun p12=>
 bif p12.2==0 then (let y13:Bool:=decide (p12.1 < ((z1.size:Nat):Int))
 bif y13 then (c (.z15 z2 z3 8 p12.1)) else (c (.z15 z2 z3 p12.2 p12.1))) else (c (.z15 z2 z3 p12.2 p12.1)))) else none)
def Q21.r15 (n:Nat) (c:Q21.Z→Option (Int × Int × Int)) (z1 z2 z3 z4:Int):Option (Int × Int × Int):=
 bif z3 != 0 then (some (0,z4,z3)) else (some (z1,z2,0))
def Q21.r (n:Nat) (c:Q21.Z→Option (Int × Int × Int)):Q21.Z→Option (Int × Int × Int)
 | .z8 z1 z2 z3=>Q21.r8 n c z1 z2 z3
 | .z15 z1 z2 z3 z4=>Q21.r15 n c z1 z2 z3 z4
def Q21.e (n:Nat) (c:Q21.Z→Option (Int × Int × Int)) (a0:ByteArray):Option (Int × Int × Int):=
 bif decide ((0:Int) < (a0.size:Nat)) then (let y1:Int:=(((a0.data.getD 0 0).toNat:Nat):Int)
 bif y1==45 then ((Q24.F n a0 1).bind fun p2=>
 bif p2.2 != 0 then (some (0,p2.1,p2.2)) else (bif decide ((1:Int) < (a0.size:Nat)) then (let y3:Int:=(((a0.data.getD 1 0).toNat:Nat):Int)
 bif y3==48 then (let y4:Int:=IntKind.i64.wrap ((1:Int)+1)
 bif decide (p2.1 > y4) then (let y5:Int:=IntKind.i64.wrap ((1:Int)+1)
 some (0,y5,8)) else (c (.z8 a0 1 p2.1))) else (c (.z8 a0 1 p2.1))) else none)) else ((Q24.F n a0 0).bind fun p6=>
 bif p6.2 != 0 then (some (0,p6.1,p6.2)) else (bif decide ((0:Int) < (a0.size:Nat)) then (let y7:Int:=(((a0.data.getD 0 0).toNat:Nat):Int)
 bif y7==48 then (let y8:Int:=IntKind.i64.wrap ((0:Int)+1)
 bif decide (p6.1 > y8) then (let y9:Int:=IntKind.i64.wrap ((0:Int)+1)
 some (0,y9,8)) else (c (.z8 a0 0 p6.1))) else (c (.z8 a0 0 p6.1))) else none))) else none
def Q21.E (n:Nat) (c:Q21.Z→Option (Int × Int × Int)):Q21.A→Option Q21.T:=fun a0=>Q21.e n c a0
def Q21.l (n:Nat):Nat→Q21.Z→Option (Int × Int × Int):=loopL (Q21.r n)
def Q21.F (n:Nat) (a0:ByteArray):Option (Int × Int × Int):=Q21.e n (Q21.l n n) a0
def Q21.FA (n:Nat):Q21.A→Option Q21.T:=Q21.E n (Q21.l n n)
theorem Q21.hands (n:Nat):∀ a p,Q21.FA n a=some p→HandsIn Tryz.prog 216 (Q21.i a) (Q21.p p):=
 pf_hands (C:=Q21.C n) (cut:=Q21.cut) (t:=Q21.t) (s:=Q21.s) (e:=Q21.E n) (r:=Q21.r n) (n:=n) cfg mixed globs rfl Q21.qi (Q21.tells n) Tryz.func216 (by kernel_rfl) (by kernel_rfl) (fun rec a=>by kernel_rfl) (fun rec z=>by cases z <;> kernel_rfl)
def Q21.via {R:Type} (n:Nat):List AV→(AV→Option R)→Option R:=viaK (Q21.FA n) Q21.o Q21.p
theorem Q21.tells1 {R:Type} (n:Nat) (xs:List AV):Tells1 (R:=R) Tryz.prog 216 xs (Q21.via n xs):=tells_via Q21.oi (fun a=>by kernel_rfl) (Q21.hands n) xs
end Go.Proofs.YtnoldakbllfmnaaGreatDoor.Ev
namespace Go.Proofs.YtnoldakbllfmnaaGreatDoor.Ev
open Go Go.Proofs Go.Proofs.Ev
set_option linter.unusedVariables false
set_option maxRecDepth 100000
def Q3w.F (n:Nat) (s:ByteArray) (t:ByteArray):Option (ByteArray):=bif Nat.beq t.data.toList.length 1&&decide ((t.data.toList.headD 0).toNat < 128) then Option.some (⟨(Lib.trimLeftB s.data.toList (t.data.toList.headD 0)).toArray⟩) else none
theorem Q3w.hands (n:Nat) (s:ByteArray) (t:ByteArray) {p:ByteArray} (h:Q3w.F n s t=some p):HandsIn Tryz.prog 217 [.v (.string s),.v (.string t)] (.v (.string p)):=by
 unfold Q3w.F at h
 cases hc:(Nat.beq t.data.toList.length 1&&decide ((t.data.toList.headD 0).toNat < 128)) with
 | false=>rw [hc] at h; cases h
 | true=>
  rw [hc] at h
  cases h
  refine hands_calls (fn:=Tryz.f217) Tryz.func217 (by kernel_rfl) (by kernel_rfl) fun w F vals hQ hF hl hr=>?_
  obtain ⟨u0,u1,rfl,h0,h1⟩:=vals2 hl hr
  obtain rfl:=rel_v h0
  obtain rfl:=rel_v h1
  rw [Bool.and_eq_true] at hc
  have ht:=one_byte (Nat.eq_of_beq_eq_true hc.1)
  have:=Tryz.strings_TrimLeft_one s (t.data.toList.headD 0) (of_decide_eq_true hc.2) w
  rw [← ht] at this
  refine this.mono ?_
  rintro e w' ⟨rfl,rfl⟩
  exact ⟨F,fun _=>none,Came.same hF,.v _ rfl⟩
def Q3w.via {R:Type} (n:Nat) (ys:List AV):(AV→Option R)→Option R:=match ys with | [.v (.string s),.v (.string t)]=>fun K=>(Q3w.F n s t).bind fun p=>K (.v (.string p)) | _=>fun _=>none
theorem Q3w.tells1 {R:Type} (n:Nat) (ys:List AV):Tells1 (R:=R) Tryz.prog 217 ys (Q3w.via n ys):=by
 unfold Q3w.via
 split
 ·exact Tells1.of (fun p hp=>(Q3w.hands n _ _ hp).hands rfl)
 ·exact Tells1.none
end Go.Proofs.YtnoldakbllfmnaaGreatDoor.Ev
namespace Go.Proofs.YtnoldakbllfmnaaGreatDoor.Ev
open Go Go.Proofs Go.Proofs.Ev
set_option linter.unusedVariables false
set_option maxRecDepth 100000
abbrev Q1t.A:=ByteArray
abbrev Q1t.T:=Int × Int × Int × Int
def Q1t.i:Q1t.A→List AV:=fun a0=>[vs a0]
def Q1t.o (xs:List AV):Option Q1t.A:=match xs with | [.v (.string a0)]=>some a0 | _=>none
theorem Q1t.oi:∀ xs a,Q1t.o xs=some a→xs=Q1t.i a:=by
 intro xs a h
 unfold Q1t.o at h
 split at h
 ·cases h; rfl
 ·cases h
def Q1t.p (p:Q1t.T):AV:=.tup [AV.agg [vi p.1,vi p.2.1],vi p.2.2.1,vi p.2.2.2]
def Q1t.q (x:AV):Option Q1t.T:=match x with | .tup [.agg [.v (.int .i64 p0),.v (.int .i64 p1)],.v (.int .i64 p2),.v (.int .i64 p3)]=>some (p0,p1,p2,p3) | _=>none
theorem Q1t.qi:∀ x p,Q1t.q x=some p→x=Q1t.p p:=by
 intro x p h
 unfold Q1t.q at h
 split at h
 ·cases h; rfl
 ·cases h
inductive Q1t.Z where
 | z13 (z1:ByteArray) (z2:Int) (z3:ByteArray) (z4 z5 z6 z7 z8:Int) (z9:List AV)
def Q1t.C {R:Type} (n:Nat) (f:FuncId) (xs:List AV):(AV→Option R)→Option R:=
 bif Nat.beq f 60 then Q3n.via n xs else bif Nat.beq f 132 then Q1y.via n xs else bif Nat.beq f 133 then Q1v.via n xs else bif Nat.beq f 216 then Q21.via n xs else bif Nat.beq f 217 then Q3w.via n xs else fun _=>none
theorem Q1t.tells {R:Type} (n:Nat):Tells (R:=R) Tryz.prog (Q1t.C n):=fun _ xs=>tells_at (Q3n.tells1 n xs) (tells_at (Q1y.tells1 n xs) (tells_at (Q1v.tells1 n xs) (tells_at (Q21.tells1 n xs) (tells_at (Q3w.tells1 n xs) (Tells1.none)))))
def Q1t.cut (r:Nat):Option Keep:=match r with | 13=>some ⟨[0,2,6,10,13,57,58,59],[]⟩ | _=>none
def Q1t.t (z:Q1t.Z):List Item:=(todoOf (match z with | .z13 _ _ _ _ _ _ _ _ _=>13) 1000 [.code (Tryz.f185.body.getD .skip)]).getD []
def Q1t.s:Q1t.Z→St
 | .z13 z1 z2 z3 z4 z5 z6 z7 z8 z9=>⟨spr 80 0 [(0,vs z1),(2,.ptr 0 0),(6,vi z2),(10,vs z3),(13,vi z4),(57,.own 1 0 none),(58,vi z5),(59,vi z6)],Mem.ofList [.box 183 [vi z7,vi z8],.row ⟨true,5,false⟩ 1 z9],2⟩
def Q1t.r13 (n:Nat) (c:Q1t.Z→Option (Int × Int × Int × Int)) (z1:ByteArray) (z2:Int) (z3:ByteArray) (z4 z5 z6 z7 z8:Int) (z9:List AV):Option (Int × Int × Int × Int):=
 bif decide (z6 < z5) then (bif decide ((0:Int)≤z6)&&decide (z6 < ((z9.length:Nat):Int)) then (withCons ((z9.getD ((z6).toNat) .undef).cells) fun h12 r13=>
 withInt .u8 h12 fun x14=>
 let y15:Int:=IntKind.i64.wrap (IntKind.u8.wrap (x14 - 48))
 let y16:Int:=IntKind.i64.wrap ((IntKind.i64.wrap (z4*10))+y15)
 c (.z13 z1 z2 z3 y16 z5 (IntKind.i64.wrap (z6+1)) z7 z8 z9)) else none) else (bif z2==1 then (some (IntKind.i64.wrap (0 - z4),((z3.size:Nat):Int),((z1.size:Nat):Int),0)) else (some (z4,((z3.size:Nat):Int),((z1.size:Nat):Int),0)))
def Q1t.r (n:Nat) (c:Q1t.Z→Option (Int × Int × Int × Int)):Q1t.Z→Option (Int × Int × Int × Int)
 | .z13 z1 z2 z3 z4 z5 z6 z7 z8 z9=>Q1t.r13 n c z1 z2 z3 z4 z5 z6 z7 z8 z9
def Q1t.e (n:Nat) (c:Q1t.Z→Option (Int × Int × Int × Int)) (a0:ByteArray):Option (Int × Int × Int × Int):=
 let y1:Bool:=decide (((a0.size:Nat):Int) > 40)
 (Q1v.F n y1 2).bind fun p2=>
 let y3:Bool:=a0.toList==(⟨#[]⟩ : ByteArray).toList
 (Q1v.F n y3 1).bind fun p4=>
 (Q1y.F n [vi p2,vi p4]).bind fun p5=>
 bif p5 != 0 then (some (0,0,0,p5)) else ((Q21.F n a0).bind fun p6=>
 bif p6.2.2 != 0 then (some (0,0,p6.2.1,p6.2.2)) else (bif decide ((0:Int)≤p6.1)&&decide ((p6.1:Int)≤((a0.size:Nat):Int)) then (let y7:ByteArray:=a0.extract (p6.1).toNat a0.size
 (Q3n.F n y7 (⟨#[46]⟩ : ByteArray)).bind fun p8=>
 (Q3w.F n p8.1 (⟨#[48]⟩ : ByteArray)).bind fun p9=>
 chk (decide (p9.size+p8.2.1.size≤9223372036854775807)) (let y10:Bool:=decide ((((p9++p8.2.1).size:Nat):Int) > 15)
 bif y10 then (some (0,0,0,19)) else (let y11:List AV:=(p9++p8.2.1).toList.map fun b=>vu b.toNat
 c (.z13 a0 p6.1 p8.2.1 0 ((y11.length:Nat):Int) 0 0 0 y11)))) else none))
def Q1t.E (n:Nat) (c:Q1t.Z→Option (Int × Int × Int × Int)):Q1t.A→Option Q1t.T:=fun a0=>Q1t.e n c a0
def Q1t.l (n:Nat):Nat→Q1t.Z→Option (Int × Int × Int × Int):=loopL (Q1t.r n)
def Q1t.F (n:Nat) (a0:ByteArray):Option (Int × Int × Int × Int):=Q1t.e n (Q1t.l n n) a0
def Q1t.FA (n:Nat):Q1t.A→Option Q1t.T:=Q1t.E n (Q1t.l n n)
theorem Q1t.hands (n:Nat):∀ a p,Q1t.FA n a=some p→HandsIn Tryz.prog 185 (Q1t.i a) (Q1t.p p):=
 pf_hands (C:=Q1t.C n) (cut:=Q1t.cut) (t:=Q1t.t) (s:=Q1t.s) (e:=Q1t.E n) (r:=Q1t.r n) (n:=n) cfg mixed globs rfl Q1t.qi (Q1t.tells n) Tryz.func185 (by kernel_rfl) (by kernel_rfl) (fun rec a=>by kernel_rfl) (fun rec z=>by cases z <;> kernel_rfl)
def Q1t.via {R:Type} (n:Nat):List AV→(AV→Option R)→Option R:=viaK (Q1t.FA n) Q1t.o Q1t.p
theorem Q1t.tells1 {R:Type} (n:Nat) (xs:List AV):Tells1 (R:=R) Tryz.prog 185 xs (Q1t.via n xs):=tells_via Q1t.oi (fun a=>by kernel_rfl) (Q1t.hands n) xs
end Go.Proofs.YtnoldakbllfmnaaGreatDoor.Ev
namespace Go.Proofs.YtnoldakbllfmnaaGreatDoor.Ev
open Go Go.Proofs Go.Proofs.Ev
set_option linter.unusedVariables false
set_option maxRecDepth 100000
abbrev Q42.A:=ByteArray × ByteArray
abbrev Q42.T:=ByteArray
def Q42.i:Q42.A→List AV:=fun (a0,a1)=>[vs a0,vs a1]
def Q42.o (xs:List AV):Option Q42.A:=match xs with | [.v (.string a0),.v (.string a1)]=>some (a0,a1) | _=>none
theorem Q42.oi:∀ xs a,Q42.o xs=some a→xs=Q42.i a:=by
 intro xs a h
 unfold Q42.o at h
 split at h
 ·cases h; rfl
 ·cases h
def Q42.p (p:Q42.T):AV:=vs p
def Q42.q (x:AV):Option Q42.T:=match x with | .v (.string p0)=>some p0 | _=>none
theorem Q42.qi:∀ x p,Q42.q x=some p→x=Q42.p p:=by
 intro x p h
 unfold Q42.q at h
 split at h
 ·cases h; rfl
 ·cases h
def Q42.C {R:Type} (n:Nat) (f:FuncId) (xs:List AV):(AV→Option R)→Option R:=
 bif Nat.beq f 104 then Q40.via n xs else fun _=>none
theorem Q42.tells {R:Type} (n:Nat):Tells (R:=R) Tryz.prog (Q42.C n):=fun _ xs=>tells_at (Q40.tells1 n xs) (Tells1.none)
def Q42.cut (r:Nat):Option Keep:=match r with  | _=>none
def Q42.e (n:Nat) (a0 a1:ByteArray):Option ByteArray:=
 (Q40.F n a0 a1).bind fun p1=>
 bif p1 then (bif decide ((0:Int)≤((a1.size:Nat):Int))&&decide ((((a1.size:Nat):Int):Int)≤((a0.size:Nat):Int)) then (let y2:ByteArray:=a0.extract (((a1.size:Nat):Int)).toNat a0.size
 some y2) else none) else (some a0)
def Q42.E (n:Nat):Q42.A→Option Q42.T:=fun (a0,a1)=>Q42.e n a0 a1
def Q42.F (n:Nat) (a0 a1:ByteArray):Option ByteArray:=Q42.e n a0 a1
def Q42.FA (n:Nat):Q42.A→Option Q42.T:=Q42.E n
theorem Q42.hands (n:Nat):∀ a p,Q42.FA n a=some p→HandsIn Tryz.prog 218 (Q42.i a) (Q42.p p):=
 pf_hands (C:=Q42.C n) (cut:=Q42.cut) (Z:=Empty) (t:=nofun) (s:=nofun) (e:=fun _=>Q42.E n) (r:=fun _ z=>nomatch z) (n:=n) cfg mixed globs rfl Q42.qi (Q42.tells n) Tryz.func218 (by kernel_rfl) (by kernel_rfl) (fun rec a=>by kernel_rfl) (fun rec z=>nomatch z)
def Q42.via {R:Type} (n:Nat):List AV→(AV→Option R)→Option R:=viaK (Q42.FA n) Q42.o Q42.p
theorem Q42.tells1 {R:Type} (n:Nat) (xs:List AV):Tells1 (R:=R) Tryz.prog 218 xs (Q42.via n xs):=tells_via Q42.oi (fun a=>by kernel_rfl) (Q42.hands n) xs
end Go.Proofs.YtnoldakbllfmnaaGreatDoor.Ev
namespace Go.Proofs.YtnoldakbllfmnaaGreatDoor.Ev
open Go Go.Proofs Go.Proofs.Ev
set_option linter.unusedVariables false
set_option maxRecDepth 100000
abbrev Q3x.A:=ByteArray × ByteArray
abbrev Q3x.T:=ByteArray
def Q3x.i:Q3x.A→List AV:=fun (a0,a1)=>[vs a0,vs a1]
def Q3x.o (xs:List AV):Option Q3x.A:=match xs with | [.v (.string a0),.v (.string a1)]=>some (a0,a1) | _=>none
theorem Q3x.oi:∀ xs a,Q3x.o xs=some a→xs=Q3x.i a:=by
 intro xs a h
 unfold Q3x.o at h
 split at h
 ·cases h; rfl
 ·cases h
def Q3x.p (p:Q3x.T):AV:=vs p
def Q3x.q (x:AV):Option Q3x.T:=match x with | .v (.string p0)=>some p0 | _=>none
theorem Q3x.qi:∀ x p,Q3x.q x=some p→x=Q3x.p p:=by
 intro x p h
 unfold Q3x.q at h
 split at h
 ·cases h; rfl
 ·cases h
def Q3x.C {R:Type} (n:Nat) (f:FuncId) (xs:List AV):(AV→Option R)→Option R:=
 bif Nat.beq f 218 then Q42.via n xs else fun _=>none
theorem Q3x.tells {R:Type} (n:Nat):Tells (R:=R) Tryz.prog (Q3x.C n):=fun _ xs=>tells_at (Q42.tells1 n xs) (Tells1.none)
def Q3x.cut (r:Nat):Option Keep:=match r with  | _=>none
def Q3x.e (n:Nat) (a0 a1:ByteArray):Option ByteArray:=
 (Q42.F n a0 a1).bind fun p1=>
 some p1
def Q3x.E (n:Nat):Q3x.A→Option Q3x.T:=fun (a0,a1)=>Q3x.e n a0 a1
def Q3x.F (n:Nat) (a0 a1:ByteArray):Option ByteArray:=Q3x.e n a0 a1
def Q3x.FA (n:Nat):Q3x.A→Option Q3x.T:=Q3x.E n
theorem Q3x.hands (n:Nat):∀ a p,Q3x.FA n a=some p→HandsIn Tryz.prog 186 (Q3x.i a) (Q3x.p p):=
 pf_hands (C:=Q3x.C n) (cut:=Q3x.cut) (Z:=Empty) (t:=nofun) (s:=nofun) (e:=fun _=>Q3x.E n) (r:=fun _ z=>nomatch z) (n:=n) cfg mixed globs rfl Q3x.qi (Q3x.tells n) Tryz.func186 (by kernel_rfl) (by kernel_rfl) (fun rec a=>by kernel_rfl) (fun rec z=>nomatch z)
def Q3x.via {R:Type} (n:Nat):List AV→(AV→Option R)→Option R:=viaK (Q3x.FA n) Q3x.o Q3x.p
theorem Q3x.tells1 {R:Type} (n:Nat) (xs:List AV):Tells1 (R:=R) Tryz.prog 186 xs (Q3x.via n xs):=tells_via Q3x.oi (fun a=>by kernel_rfl) (Q3x.hands n) xs
end Go.Proofs.YtnoldakbllfmnaaGreatDoor.Ev
namespace Go.Proofs.YtnoldakbllfmnaaGreatDoor.Ev
open Go Go.Proofs Go.Proofs.Ev
set_option linter.unusedVariables false
set_option maxRecDepth 100000
def Q3r.F (n:Nat) (s:ByteArray) (c:Int):Option (Int):=bif true then Option.some (Lib.indexByte s.data.toList c.toNat.toUInt8) else none
theorem Q3r.hands (n:Nat) (s:ByteArray) (c:Int) {p:Int} (h:Q3r.F n s c=some p):HandsIn Tryz.prog 219 [.v (.string s),.v (.int .u8 c)] (.v (.int .i64 p)):=by
 unfold Q3r.F at h
 cases hc:(true) with
 | false=>rw [hc] at h; cases h
 | true=>
  rw [hc] at h
  cases h
  refine hands_calls (fn:=Tryz.f219) Tryz.func219 (by kernel_rfl) (by kernel_rfl) fun w F vals hQ hF hl hr=>?_
  obtain ⟨u0,u1,rfl,h0,h1⟩:=vals2 hl hr
  obtain rfl:=rel_v h0
  obtain rfl:=rel_v h1
  refine (Tryz.strings_IndexByte s c w).mono ?_
  rintro e w' ⟨rfl,rfl⟩
  exact ⟨F,fun _=>none,Came.same hF,.v _ rfl⟩
def Q3r.via {R:Type} (n:Nat) (ys:List AV):(AV→Option R)→Option R:=match ys with | [.v (.string s),.v (.int .u8 c)]=>fun K=>(Q3r.F n s c).bind fun p=>K (.v (.int .i64 p)) | _=>fun _=>none
theorem Q3r.tells1 {R:Type} (n:Nat) (ys:List AV):Tells1 (R:=R) Tryz.prog 219 ys (Q3r.via n ys):=by
 unfold Q3r.via
 split
 ·exact Tells1.of (fun p hp=>(Q3r.hands n _ _ hp).hands rfl)
 ·exact Tells1.none
end Go.Proofs.YtnoldakbllfmnaaGreatDoor.Ev
namespace Go.Proofs.YtnoldakbllfmnaaGreatDoor.Ev
open Go Go.Proofs Go.Proofs.Ev
set_option linter.unusedVariables false
set_option maxRecDepth 100000
abbrev Q2f.A:=ByteArray
abbrev Q2f.T:=ByteArray × Bool
def Q2f.i:Q2f.A→List AV:=fun a0=>[vs a0]
def Q2f.o (xs:List AV):Option Q2f.A:=match xs with | [.v (.string a0)]=>some a0 | _=>none
theorem Q2f.oi:∀ xs a,Q2f.o xs=some a→xs=Q2f.i a:=by
 intro xs a h
 unfold Q2f.o at h
 split at h
 ·cases h; rfl
 ·cases h
def Q2f.p (p:Q2f.T):AV:=.tup [vs p.1,vb p.2]
def Q2f.q (x:AV):Option Q2f.T:=match x with | .tup [.v (.string p0),.v (.bool p1)]=>some (p0,p1) | _=>none
theorem Q2f.qi:∀ x p,Q2f.q x=some p→x=Q2f.p p:=by
 intro x p h
 unfold Q2f.q at h
 split at h
 ·cases h; rfl
 ·cases h
inductive Q2f.Z where
 | z2 (z1:ByteArray) (z2:List AV)
def Q2f.C {R:Type} (n:Nat) (f:FuncId) (xs:List AV):(AV→Option R)→Option R:=
 bif Nat.beq f 219 then Q3r.via n xs else fun _=>none
theorem Q2f.tells {R:Type} (n:Nat):Tells (R:=R) Tryz.prog (Q2f.C n):=fun _ xs=>tells_at (Q3r.tells1 n xs) (Tells1.none)
def Q2f.cut (r:Nat):Option Keep:=match r with | 2=>some ⟨[0,4],[(4,none,⟨true,5,false⟩,1)]⟩ | _=>none
def Q2f.t (z:Q2f.Z):List Item:=(todoOf (match z with | .z2 _ _=>2) 1000 [.code (Tryz.f187.body.getD .skip)]).getD []
def Q2f.s:Q2f.Z→St
 | .z2 z1 z2=>⟨spr 36 0 [(0,vs z1),(4,.own 0 0 none)],Mem.ofList [.row ⟨true,5,false⟩ 1 z2],1⟩
def Q2f.r2 (n:Nat) (c:Q2f.Z→Option (ByteArray × Bool)) (z1:ByteArray) (z2:List AV):Option (ByteArray × Bool):=
 let y1:Bool:=decide (((z1.size:Nat):Int)≥2)
 bif y1 then (bif decide ((0:Int) < (z1.size:Nat)) then (let y2:Int:=(((z1.data.getD 0 0).toNat:Nat):Int)
 (Q3r.F n (⟨#[48,49,50,51,52,53,54,55,56,57,65,66,67,68,69,70]⟩ : ByteArray) y2).bind fun p3=>
 bif decide ((1:Int) < (z1.size:Nat)) then (let y4:Int:=(((z1.data.getD 1 0).toNat:Nat):Int)
 (Q3r.F n (⟨#[48,49,50,51,52,53,54,55,56,57,65,66,67,68,69,70]⟩ : ByteArray) y4).bind fun p5=>
 bif decide (p3 < 0) then (some ((⟨#[]⟩ : ByteArray),false)) else (bif decide (p5 < 0) then (some ((⟨#[]⟩ : ByteArray),false)) else (let y6:Int:=IntKind.i64.wrap (p3*2 ^ min (4:Int).toNat 64)
 let y7:Int:=IntKind.i64.wrap (BitVec.ofInt 64 y6 ||| BitVec.ofInt 64 p5).toNat
 bif decide (z2.length+[vu (IntKind.u8.wrap y7)].length≤most) then (let y8:List AV:=z2++[vu (IntKind.u8.wrap y7)]
 bif decide ((0:Int)≤2)&&decide ((2:Int)≤((z1.size:Nat):Int)) then (c (.z2 (z1.extract 2 z1.size) y8)) else none) else none))) else none) else none) else (withSome (strOf z2) fun bs9=>
 let y10:Bool:=z1.toList==(⟨#[]⟩ : ByteArray).toList
 some ((⟨bs9.toArray⟩ : ByteArray),y10))
def Q2f.r (n:Nat) (c:Q2f.Z→Option (ByteArray × Bool)):Q2f.Z→Option (ByteArray × Bool)
 | .z2 z1 z2=>Q2f.r2 n c z1 z2
def Q2f.e (n:Nat) (c:Q2f.Z→Option (ByteArray × Bool)) (a0:ByteArray):Option (ByteArray × Bool):=
 c (.z2 a0 [])
def Q2f.E (n:Nat) (c:Q2f.Z→Option (ByteArray × Bool)):Q2f.A→Option Q2f.T:=fun a0=>Q2f.e n c a0
def Q2f.l (n:Nat):Nat→Q2f.Z→Option (ByteArray × Bool):=loopL (Q2f.r n)
def Q2f.F (n:Nat) (a0:ByteArray):Option (ByteArray × Bool):=Q2f.e n (Q2f.l n n) a0
def Q2f.FA (n:Nat):Q2f.A→Option Q2f.T:=Q2f.E n (Q2f.l n n)
theorem Q2f.hands (n:Nat):∀ a p,Q2f.FA n a=some p→HandsIn Tryz.prog 187 (Q2f.i a) (Q2f.p p):=
 pf_hands (C:=Q2f.C n) (cut:=Q2f.cut) (t:=Q2f.t) (s:=Q2f.s) (e:=Q2f.E n) (r:=Q2f.r n) (n:=n) cfg mixed globs rfl Q2f.qi (Q2f.tells n) Tryz.func187 (by kernel_rfl) (by kernel_rfl) (fun rec a=>by kernel_rfl) (fun rec z=>by cases z <;> kernel_rfl)
def Q2f.via {R:Type} (n:Nat):List AV→(AV→Option R)→Option R:=viaK (Q2f.FA n) Q2f.o Q2f.p
theorem Q2f.tells1 {R:Type} (n:Nat) (xs:List AV):Tells1 (R:=R) Tryz.prog 187 xs (Q2f.via n xs):=tells_via Q2f.oi (fun a=>by kernel_rfl) (Q2f.hands n) xs
end Go.Proofs.YtnoldakbllfmnaaGreatDoor.Ev
namespace Go.Proofs.YtnoldakbllfmnaaGreatDoor.Ev
open Go Go.Proofs Go.Proofs.Ev
set_option linter.unusedVariables false
set_option maxRecDepth 100000
abbrev Q38.A:=Int × Int × Int × ByteArray
abbrev Q38.T:=Int × ByteArray × Bool
def Q38.i:Q38.A→List AV:=fun (a0,a1,a2,a3)=>[AV.agg [vi a0,vi a1,vi a2],vs a3]
def Q38.o (xs:List AV):Option Q38.A:=match xs with | [.agg [.v (.int .i64 a0),.v (.int .i64 a1),.v (.int .i64 a2)],.v (.string a3)]=>some (a0,a1,a2,a3) | _=>none
theorem Q38.oi:∀ xs a,Q38.o xs=some a→xs=Q38.i a:=by
 intro xs a h
 unfold Q38.o at h
 split at h
 ·cases h; rfl
 ·cases h
def Q38.p (p:Q38.T):AV:=.tup [AV.agg [vi p.1,vs p.2.1],vb p.2.2]
def Q38.q (x:AV):Option Q38.T:=match x with | .tup [.agg [.v (.int .i64 p0),.v (.string p1)],.v (.bool p2)]=>some (p0,p1,p2) | _=>none
theorem Q38.qi:∀ x p,Q38.q x=some p→x=Q38.p p:=by
 intro x p h
 unfold Q38.q at h
 split at h
 ·cases h; rfl
 ·cases h
inductive Q38.Z where
 | z7 (z1:Int) (z2:ByteArray)
def Q38.C {R:Type} (n:Nat) (f:FuncId) (xs:List AV):(AV→Option R)→Option R:=
 bif Nat.beq f 61 then Q3q.via n xs else bif Nat.beq f 144 then Q3u.via n xs else bif Nat.beq f 185 then Q1t.via n xs else bif Nat.beq f 186 then Q3x.via n xs else bif Nat.beq f 187 then Q2f.via n xs else fun _=>none
theorem Q38.tells {R:Type} (n:Nat):Tells (R:=R) Tryz.prog (Q38.C n):=fun _ xs=>tells_at (Q3q.tells1 n xs) (tells_at (Q3u.tells1 n xs) (tells_at (Q1t.tells1 n xs) (tells_at (Q3x.tells1 n xs) (tells_at (Q2f.tells1 n xs) (Tells1.none)))))
def Q38.cut (r:Nat):Option Keep:=match r with | 7=>some ⟨[4],[]⟩ | _=>none
def Q38.t (z:Q38.Z):List Item:=(todoOf (match z with | .z7 _ _=>7) 1000 [.code (Tryz.f155.body.getD .skip)]).getD []
def Q38.s:Q38.Z→St
 | .z7 z1 z2=>⟨spr 71 0 [(4,.ptr 0 0)],Mem.ofList [.box 72 [vi z1,vs z2]],1⟩
def Q38.r7 (n:Nat) (c:Q38.Z→Option (Int × ByteArray × Bool)) (z1:Int) (z2:ByteArray):Option (Int × ByteArray × Bool):=
 some (0,(⟨#[]⟩ : ByteArray),false)
def Q38.r (n:Nat) (c:Q38.Z→Option (Int × ByteArray × Bool)):Q38.Z→Option (Int × ByteArray × Bool)
 | .z7 z1 z2=>Q38.r7 n c z1 z2
def Q38.e (n:Nat) (c:Q38.Z→Option (Int × ByteArray × Bool)) (a0 a1 a2:Int) (a3:ByteArray):Option (Int × ByteArray × Bool):=
 bif a0 != 0 then ((Q1t.F n a3).bind fun p1=>
 bif p1.2.2.2==0 then (some (p1.1,(⟨#[]⟩ : ByteArray),p1.2.1==a2)) else (some (p1.1,(⟨#[]⟩ : ByteArray),false))) else ((Q3q.F n a3 (⟨#[88]⟩ : ByteArray)).bind fun p2=>
 (Q3x.F n a3 (⟨#[88]⟩ : ByteArray)).bind fun p3=>
 let y4:Bool:=decide (((p3.size:Nat):Int) < 2)
 bif y4 then (c (.z7 0 (⟨#[]⟩ : ByteArray))) else (bif decide ((0:Int) < (p3.size:Nat)) then (let y5:Int:=(((p3.data.getD 0 0).toNat:Nat):Int)
 bif y5 != 39 then (c (.z7 0 (⟨#[]⟩ : ByteArray))) else (let y6:Int:=IntKind.i64.wrap (((p3.size:Nat):Int) - 1)
 bif decide ((0:Int)≤y6)&&decide (y6 < ((p3.size:Nat):Int)) then (let y7:Int:=(((p3.data.getD ((y6).toNat) 0).toNat:Nat):Int)
 bif y7 != 39 then (c (.z7 0 (⟨#[]⟩ : ByteArray))) else (let y8:Int:=IntKind.i64.wrap (((p3.size:Nat):Int) - 1)
 bif decide ((0:Int)≤y8)&&decide ((y8:Int)≤((p3.size:Nat):Int)) then (bif decide ((0:Int)≤1)&&decide ((1:Int)≤y8) then (bif p2 then ((Q2f.F n (p3.extract 1 (y8).toNat)).bind fun p9=>
 some (0,p9.1,p9.2)) else ((Q3u.F n (p3.extract 1 (y8).toNat) (⟨#[39,39]⟩ : ByteArray) (⟨#[39]⟩ : ByteArray)).bind fun p10=>
 some (0,p10,true))) else none) else none)) else none)) else none))
def Q38.E (n:Nat) (c:Q38.Z→Option (Int × ByteArray × Bool)):Q38.A→Option Q38.T:=fun (a0,a1,a2,a3)=>Q38.e n c a0 a1 a2 a3
def Q38.l (n:Nat):Nat→Q38.Z→Option (Int × ByteArray × Bool):=loopL (Q38.r n)
def Q38.F (n:Nat) (a0 a1 a2:Int) (a3:ByteArray):Option (Int × ByteArray × Bool):=Q38.e n (Q38.l n n) a0 a1 a2 a3
def Q38.FA (n:Nat):Q38.A→Option Q38.T:=Q38.E n (Q38.l n n)
theorem Q38.hands (n:Nat):∀ a p,Q38.FA n a=some p→HandsIn Tryz.prog 155 (Q38.i a) (Q38.p p):=
 pf_hands (C:=Q38.C n) (cut:=Q38.cut) (t:=Q38.t) (s:=Q38.s) (e:=Q38.E n) (r:=Q38.r n) (n:=n) cfg mixed globs rfl Q38.qi (Q38.tells n) Tryz.func155 (by kernel_rfl) (by kernel_rfl) (fun rec a=>by kernel_rfl) (fun rec z=>by cases z <;> kernel_rfl)
def Q38.via {R:Type} (n:Nat):List AV→(AV→Option R)→Option R:=viaK (Q38.FA n) Q38.o Q38.p
theorem Q38.tells1 {R:Type} (n:Nat) (xs:List AV):Tells1 (R:=R) Tryz.prog 155 xs (Q38.via n xs):=tells_via Q38.oi (fun a=>by kernel_rfl) (Q38.hands n) xs
end Go.Proofs.YtnoldakbllfmnaaGreatDoor.Ev
namespace Go.Proofs.YtnoldakbllfmnaaGreatDoor.Ev
open Go Go.Proofs Go.Proofs.Ev
set_option linter.unusedVariables false
set_option maxRecDepth 100000
abbrev Q2h.A:=ByteArray
abbrev Q2h.T:=ByteArray × Int × Int × Int × Int × Int × ByteArray × ByteArray × Int × Int × Bool
def Q2h.i:Q2h.A→List AV:=fun a0=>[vs a0]
def Q2h.o (xs:List AV):Option Q2h.A:=match xs with | [.v (.string a0)]=>some a0 | _=>none
theorem Q2h.oi:∀ xs a,Q2h.o xs=some a→xs=Q2h.i a:=by
 intro xs a h
 unfold Q2h.o at h
 split at h
 ·cases h; rfl
 ·cases h
def Q2h.p (p:Q2h.T):AV:=.tup [AV.agg [vs p.1,vi p.2.1,vi p.2.2.1,vi p.2.2.2.1,vi p.2.2.2.2.1,vi p.2.2.2.2.2.1,vs p.2.2.2.2.2.2.1,vs p.2.2.2.2.2.2.2.1,vi p.2.2.2.2.2.2.2.2.1,vi p.2.2.2.2.2.2.2.2.2.1],vb p.2.2.2.2.2.2.2.2.2.2]
def Q2h.q (x:AV):Option Q2h.T:=match x with | .tup [.agg [.v (.string p0),.v (.int .i64 p1),.v (.int .i64 p2),.v (.int .i64 p3),.v (.int .i64 p4),.v (.int .i64 p5),.v (.string p6),.v (.string p7),.v (.int .i64 p8),.v (.int .i64 p9)],.v (.bool p10)]=>some (p0,p1,p2,p3,p4,p5,p6,p7,p8,p9,p10) | _=>none
theorem Q2h.qi:∀ x p,Q2h.q x=some p→x=Q2h.p p:=by
 intro x p h
 unfold Q2h.q at h
 split at h
 ·cases h; rfl
 ·cases h
inductive Q2h.Z where
 | z22 (z1:ByteArray) (z2 z3 z4 z5 z6:Int) (z7 z8:ByteArray) (z9 z10:Int) (z11:ByteArray) (z12 z13 z14 z15 z16:Int) (z17 z18:ByteArray) (z19 z20:Int)
 | z26 (z1 z2:ByteArray) (z3 z4 z5 z6 z7:Int) (z8 z9:ByteArray) (z10 z11:Int) (z12:ByteArray) (z13 z14 z15 z16 z17:Int) (z18 z19:ByteArray) (z20 z21 z22 z23 z24:Int)
 | z36 (z1:ByteArray) (z2:Bool) (z3 z4:ByteArray) (z5 z6 z7 z8 z9:Int) (z10 z11:ByteArray) (z12 z13:Int) (z14:ByteArray) (z15 z16 z17 z18 z19:Int) (z20 z21:ByteArray) (z22 z23:Int)
def Q2h.C {R:Type} (n:Nat) (f:FuncId) (xs:List AV):(AV→Option R)→Option R:=
 bif Nat.beq f 60 then Q3n.via n xs else bif Nat.beq f 78 then Q2o.via n xs else bif Nat.beq f 108 then Q2y.via n xs else bif Nat.beq f 153 then Q36.via n xs else bif Nat.beq f 154 then Q3p.via n xs else bif Nat.beq f 155 then Q38.via n xs else fun _=>none
theorem Q2h.tells {R:Type} (n:Nat):Tells (R:=R) Tryz.prog (Q2h.C n):=fun _ xs=>tells_at (Q3n.tells1 n xs) (tells_at (Q2o.tells1 n xs) (tells_at (Q2y.tells1 n xs) (tells_at (Q36.tells1 n xs) (tells_at (Q3p.tells1 n xs) (tells_at (Q38.tells1 n xs) (Tells1.none))))))
def Q2h.cut (r:Nat):Option Keep:=match r with | 22=>some ⟨[2,9],[]⟩ | 26=>some ⟨[2,9,13,16],[]⟩ | 36=>some ⟨[2,4,9,14,19],[]⟩ | _=>none
def Q2h.t (z:Q2h.Z):List Item:=(todoOf (match z with | .z22 _ _ _ _ _ _ _ _ _ _ _ _ _ _ _ _ _ _ _ _=>22 | .z26 _ _ _ _ _ _ _ _ _ _ _ _ _ _ _ _ _ _ _ _ _ _ _ _=>26 | .z36 _ _ _ _ _ _ _ _ _ _ _ _ _ _ _ _ _ _ _ _ _ _ _=>36) 1000 [.code (Tryz.f106.body.getD .skip)]).getD []
def Q2h.s:Q2h.Z→St
 | .z22 z1 z2 z3 z4 z5 z6 z7 z8 z9 z10 z11 z12 z13 z14 z15 z16 z17 z18 z19 z20=>⟨spr 139 0 [(2,.ptr 0 0),(9,.ptr 1 0)],Mem.ofList [.box 74 [vs z1,vi z2,vi z3,vi z4,vi z5,vi z6,vs z7,vs z8,vi z9,vi z10],.box 74 [vs z11,vi z12,vi z13,vi z14,vi z15,vi z16,vs z17,vs z18,vi z19,vi z20]],2⟩
 | .z26 z1 z2 z3 z4 z5 z6 z7 z8 z9 z10 z11 z12 z13 z14 z15 z16 z17 z18 z19 z20 z21 z22 z23 z24=>⟨spr 139 0 [(2,.ptr 0 0),(9,.ptr 1 0),(13,.ptr 2 0),(16,vs z1)],Mem.ofList [.box 74 [vs z2,vi z3,vi z4,vi z5,vi z6,vi z7,vs z8,vs z9,vi z10,vi z11],.box 74 [vs z12,vi z13,vi z14,vi z15,vi z16,vi z17,vs z18,vs z19,vi z20,vi z21],.box 70 [vi z22,vi z23,vi z24]],3⟩
 | .z36 z1 z2 z3 z4 z5 z6 z7 z8 z9 z10 z11 z12 z13 z14 z15 z16 z17 z18 z19 z20 z21 z22 z23=>⟨spr 139 0 [(2,.ptr 0 0),(4,vs z1),(9,.ptr 1 0),(14,vb z2),(19,vs z3)],Mem.ofList [.box 74 [vs z4,vi z5,vi z6,vi z7,vi z8,vi z9,vs z10,vs z11,vi z12,vi z13],.box 74 [vs z14,vi z15,vi z16,vi z17,vi z18,vi z19,vs z20,vs z21,vi z22,vi z23]],2⟩
def Q2h.r22 (n:Nat) (c:Q2h.Z→Option Q2h.T) (z1:ByteArray) (z2 z3 z4 z5 z6:Int) (z7 z8:ByteArray) (z9 z10:Int) (z11:ByteArray) (z12 z13 z14 z15 z16:Int) (z17 z18:ByteArray) (z19 z20:Int):Option Q2h.T:=
 some (z11,z12,z13,z14,z15,z16,z17,z18,z19,z20,false)
def Q2h.r26 (n:Nat) (c:Q2h.Z→Option Q2h.T) (z1 z2:ByteArray) (z3 z4 z5 z6 z7:Int) (z8 z9:ByteArray) (z10 z11:Int) (z12:ByteArray) (z13 z14 z15 z16 z17:Int) (z18 z19:ByteArray) (z20 z21 z22 z23 z24:Int):Option Q2h.T:=
 (Q38.F n z22 z23 z24 z1).bind fun p28=>
 some (z12,z13,z14,z15,z16,p28.1,p28.2.1,z19,z20,z21,p28.2.2)
def Q2h.r36 (n:Nat) (c:Q2h.Z→Option Q2h.T) (z1:ByteArray) (z2:Bool) (z3 z4:ByteArray) (z5 z6 z7 z8 z9:Int) (z10 z11:ByteArray) (z12 z13:Int) (z14:ByteArray) (z15 z16 z17 z18 z19:Int) (z20 z21:ByteArray) (z22 z23:Int):Option Q2h.T:=
 bif z2 then (let y29:Bool:=z1.toList==(⟨#[68,68]⟩ : ByteArray).toList
 bif y29 then (bif z15 != 0 then ((Q2o.F n z3).bind fun p30=>
 some (z14,z15,z16,z17,z18,z19,z20,z21,z22,z23,p30)) else (some (z14,z15,z16,z17,z18,z19,z20,z21,z22,z23,false))) else (some (z14,z15,z16,z17,z18,z19,z20,z21,z22,z23,false))) else (some (z14,z15,z16,z17,z18,z19,z20,z21,z22,z23,false))
def Q2h.r (n:Nat) (c:Q2h.Z→Option Q2h.T):Q2h.Z→Option Q2h.T
 | .z22 z1 z2 z3 z4 z5 z6 z7 z8 z9 z10 z11 z12 z13 z14 z15 z16 z17 z18 z19 z20=>Q2h.r22 n c z1 z2 z3 z4 z5 z6 z7 z8 z9 z10 z11 z12 z13 z14 z15 z16 z17 z18 z19 z20
 | .z26 z1 z2 z3 z4 z5 z6 z7 z8 z9 z10 z11 z12 z13 z14 z15 z16 z17 z18 z19 z20 z21 z22 z23 z24=>Q2h.r26 n c z1 z2 z3 z4 z5 z6 z7 z8 z9 z10 z11 z12 z13 z14 z15 z16 z17 z18 z19 z20 z21 z22 z23 z24
 | .z36 z1 z2 z3 z4 z5 z6 z7 z8 z9 z10 z11 z12 z13 z14 z15 z16 z17 z18 z19 z20 z21 z22 z23=>Q2h.r36 n c z1 z2 z3 z4 z5 z6 z7 z8 z9 z10 z11 z12 z13 z14 z15 z16 z17 z18 z19 z20 z21 z22 z23
def Q2h.e (n:Nat) (c:Q2h.Z→Option Q2h.T) (a0:ByteArray):Option Q2h.T:=
 (Q3n.F n a0 (⟨#[32]⟩ : ByteArray)).bind fun p1=>
 (Q3n.F n p1.2.1 (⟨#[32]⟩ : ByteArray)).bind fun p2=>
 let y3:Bool:=p1.1.toList==(⟨#[80,84,82]⟩ : ByteArray).toList
 bif y3 then (some (p2.1,3,0,0,0,0,(⟨#[]⟩ : ByteArray),(⟨#[]⟩ : ByteArray),0,0,!p2.2.2)) else (let y4:Bool:=p1.1.toList==(⟨#[76,65,66,69,76]⟩ : ByteArray).toList
 bif y4 then ((Q2y.F n p2.2.1).bind fun p5=>
 some (p2.1,5,0,0,0,0,(⟨#[]⟩ : ByteArray),(⟨#[]⟩ : ByteArray),0,p5.1,p5.2)) else (let y6:Bool:=p1.1.toList==(⟨#[68,68]⟩ : ByteArray).toList
 bif y6 then ((Q3n.F n p2.2.1 (⟨#[32]⟩ : ByteArray)).bind fun p7=>
 (Q36.F n p7.1).bind fun p8=>
 (Q3n.F n p7.2.1 (⟨#[40]⟩ : ByteArray)).bind fun p9=>
 (Q3p.F n p9.2.1 (⟨#[41]⟩ : ByteArray)).bind fun p10=>
 bif !p8.2.2.2 then (c (.z22 (⟨#[]⟩ : ByteArray) 0 0 0 0 0 (⟨#[]⟩ : ByteArray) (⟨#[]⟩ : ByteArray) 0 0 p2.1 0 p8.1 p8.2.1 p8.2.2.1 0 (⟨#[]⟩ : ByteArray) (⟨#[]⟩ : ByteArray) 0 0)) else (bif !p10.2 then (c (.z22 (⟨#[]⟩ : ByteArray) 0 0 0 0 0 (⟨#[]⟩ : ByteArray) (⟨#[]⟩ : ByteArray) 0 0 p2.1 0 p8.1 p8.2.1 p8.2.2.1 0 (⟨#[]⟩ : ByteArray) (⟨#[]⟩ : ByteArray) 0 0)) else (let y11:Bool:=p9.1.toList==(⟨#[73,78,73,84]⟩ : ByteArray).toList
 bif y11 then (let y12:Bool:=p1.1.toList==(⟨#[67,79,78]⟩ : ByteArray).toList
 bif y12 then (c (.z26 p10.1 (⟨#[]⟩ : ByteArray) 0 0 0 0 0 (⟨#[]⟩ : ByteArray) (⟨#[]⟩ : ByteArray) 0 0 p2.1 4 p8.1 p8.2.1 p8.2.2.1 0 (⟨#[]⟩ : ByteArray) (⟨#[]⟩ : ByteArray) 0 0 p8.1 p8.2.1 p8.2.2.1)) else (c (.z26 p10.1 (⟨#[]⟩ : ByteArray) 0 0 0 0 0 (⟨#[]⟩ : ByteArray) (⟨#[]⟩ : ByteArray) 0 0 p2.1 0 p8.1 p8.2.1 p8.2.2.1 0 (⟨#[]⟩ : ByteArray) (⟨#[]⟩ : ByteArray) 0 0 p8.1 p8.2.1 p8.2.2.1))) else ((Q3n.F n p10.1 (⟨#[44]⟩ : ByteArray)).bind fun p13=>
 (Q2y.F n p13.2.1).bind fun p14=>
 let y15:Bool:=p9.1.toList==(⟨#[68,69,70]⟩ : ByteArray).toList
 bif y15 then (c (.z36 p1.1 p14.2 p13.1 (⟨#[]⟩ : ByteArray) 0 0 0 0 0 (⟨#[]⟩ : ByteArray) (⟨#[]⟩ : ByteArray) 0 0 p2.1 1 p8.1 p8.2.1 p8.2.2.1 0 (⟨#[]⟩ : ByteArray) p13.1 p14.1 0)) else (let y16:Bool:=p9.1.toList==(⟨#[66,65,83]⟩ : ByteArray).toList
 bif y16 then (c (.z36 p1.1 p14.2 p13.1 (⟨#[]⟩ : ByteArray) 0 0 0 0 0 (⟨#[]⟩ : ByteArray) (⟨#[]⟩ : ByteArray) 0 0 p2.1 2 p8.1 p8.2.1 p8.2.2.1 0 (⟨#[]⟩ : ByteArray) p13.1 p14.1 0)) else (c (.z36 p1.1 p14.2 p13.1 (⟨#[]⟩ : ByteArray) 0 0 0 0 0 (⟨#[]⟩ : ByteArray) (⟨#[]⟩ : ByteArray) 0 0 p2.1 0 p8.1 p8.2.1 p8.2.2.1 0 (⟨#[]⟩ : ByteArray) p13.1 p14.1 0))))))) else (let y17:Bool:=p1.1.toList==(⟨#[67,79,78]⟩ : ByteArray).toList
 bif y17 then ((Q3n.F n p2.2.1 (⟨#[32]⟩ : ByteArray)).bind fun p18=>
 (Q36.F n p18.1).bind fun p19=>
 (Q3n.F n p18.2.1 (⟨#[40]⟩ : ByteArray)).bind fun p20=>
 (Q3p.F n p20.2.1 (⟨#[41]⟩ : ByteArray)).bind fun p21=>
 bif !p19.2.2.2 then (c (.z22 (⟨#[]⟩ : ByteArray) 0 0 0 0 0 (⟨#[]⟩ : ByteArray) (⟨#[]⟩ : ByteArray) 0 0 p2.1 0 p19.1 p19.2.1 p19.2.2.1 0 (⟨#[]⟩ : ByteArray) (⟨#[]⟩ : ByteArray) 0 0)) else (bif !p21.2 then (c (.z22 (⟨#[]⟩ : ByteArray) 0 0 0 0 0 (⟨#[]⟩ : ByteArray) (⟨#[]⟩ : ByteArray) 0 0 p2.1 0 p19.1 p19.2.1 p19.2.2.1 0 (⟨#[]⟩ : ByteArray) (⟨#[]⟩ : ByteArray) 0 0)) else (let y22:Bool:=p20.1.toList==(⟨#[73,78,73,84]⟩ : ByteArray).toList
 bif y22 then (let y23:Bool:=p1.1.toList==(⟨#[67,79,78]⟩ : ByteArray).toList
 bif y23 then (c (.z26 p21.1 (⟨#[]⟩ : ByteArray) 0 0 0 0 0 (⟨#[]⟩ : ByteArray) (⟨#[]⟩ : ByteArray) 0 0 p2.1 4 p19.1 p19.2.1 p19.2.2.1 0 (⟨#[]⟩ : ByteArray) (⟨#[]⟩ : ByteArray) 0 0 p19.1 p19.2.1 p19.2.2.1)) else (c (.z26 p21.1 (⟨#[]⟩ : ByteArray) 0 0 0 0 0 (⟨#[]⟩ : ByteArray) (⟨#[]⟩ : ByteArray) 0 0 p2.1 0 p19.1 p19.2.1 p19.2.2.1 0 (⟨#[]⟩ : ByteArray) (⟨#[]⟩ : ByteArray) 0 0 p19.1 p19.2.1 p19.2.2.1))) else ((Q3n.F n p21.1 (⟨#[44]⟩ : ByteArray)).bind fun p24=>
 (Q2y.F n p24.2.1).bind fun p25=>
 let y26:Bool:=p20.1.toList==(⟨#[68,69,70]⟩ : ByteArray).toList
 bif y26 then (c (.z36 p1.1 p25.2 p24.1 (⟨#[]⟩ : ByteArray) 0 0 0 0 0 (⟨#[]⟩ : ByteArray) (⟨#[]⟩ : ByteArray) 0 0 p2.1 1 p19.1 p19.2.1 p19.2.2.1 0 (⟨#[]⟩ : ByteArray) p24.1 p25.1 0)) else (let y27:Bool:=p20.1.toList==(⟨#[66,65,83]⟩ : ByteArray).toList
 bif y27 then (c (.z36 p1.1 p25.2 p24.1 (⟨#[]⟩ : ByteArray) 0 0 0 0 0 (⟨#[]⟩ : ByteArray) (⟨#[]⟩ : ByteArray) 0 0 p2.1 2 p19.1 p19.2.1 p19.2.2.1 0 (⟨#[]⟩ : ByteArray) p24.1 p25.1 0)) else (c (.z36 p1.1 p25.2 p24.1 (⟨#[]⟩ : ByteArray) 0 0 0 0 0 (⟨#[]⟩ : ByteArray) (⟨#[]⟩ : ByteArray) 0 0 p2.1 0 p19.1 p19.2.1 p19.2.2.1 0 (⟨#[]⟩ : ByteArray) p24.1 p25.1 0))))))) else (some (p2.1,0,0,0,0,0,(⟨#[]⟩ : ByteArray),(⟨#[]⟩ : ByteArray),0,0,false)))))
def Q2h.E (n:Nat) (c:Q2h.Z→Option Q2h.T):Q2h.A→Option Q2h.T:=fun a0=>Q2h.e n c a0
def Q2h.l (n:Nat):Nat→Q2h.Z→Option Q2h.T:=loopL (Q2h.r n)
def Q2h.F (n:Nat) (a0:ByteArray):Option Q2h.T:=Q2h.e n (Q2h.l n n) a0
def Q2h.FA (n:Nat):Q2h.A→Option Q2h.T:=Q2h.E n (Q2h.l n n)
theorem Q2h.hands (n:Nat):∀ a p,Q2h.FA n a=some p→HandsIn Tryz.prog 106 (Q2h.i a) (Q2h.p p):=
 pf_hands (C:=Q2h.C n) (cut:=Q2h.cut) (t:=Q2h.t) (s:=Q2h.s) (e:=Q2h.E n) (r:=Q2h.r n) (n:=n) cfg mixed globs rfl Q2h.qi (Q2h.tells n) Tryz.func106 (by kernel_rfl) (by kernel_rfl) (fun rec a=>by kernel_rfl) (fun rec z=>by cases z <;> kernel_rfl)
def Q2h.via {R:Type} (n:Nat):List AV→(AV→Option R)→Option R:=viaK (Q2h.FA n) Q2h.o Q2h.p
theorem Q2h.tells1 {R:Type} (n:Nat) (xs:List AV):Tells1 (R:=R) Tryz.prog 106 xs (Q2h.via n xs):=tells_via Q2h.oi (fun a=>by kernel_rfl) (Q2h.hands n) xs
end Go.Proofs.YtnoldakbllfmnaaGreatDoor.Ev
namespace Go.Proofs.YtnoldakbllfmnaaGreatDoor.Ev
open Go Go.Proofs Go.Proofs.Ev
set_option linter.unusedVariables false
set_option maxRecDepth 100000
def Q3v.F (n:Nat) (s:ByteArray) (t:ByteArray):Option (List AV):=bif (decide (s.size < 4294967281)&&decide (1≤t.size))&&(Nat.beq (Lib.splitB t 0 (Lib.countB s t) s).length (Lib.countB s t+1)&&decide (Lib.countB s t+1≤most)) then Option.some ((Lib.splitB t 0 (Lib.countB s t) s).map fun x=>vs x) else none
theorem Q3v.hands (n:Nat) (s:ByteArray) (t:ByteArray) {p:List AV} (h:Q3v.F n s t=some p):HandsIn Tryz.prog 107 [.v (.string s),.v (.string t)] (.fr ⟨true,9,false⟩ 1 p):=by
 unfold Q3v.F at h
 cases hc:((decide (s.size < 4294967281)&&decide (1≤t.size))&&(Nat.beq (Lib.splitB t 0 (Lib.countB s t) s).length (Lib.countB s t+1)&&decide (Lib.countB s t+1≤most))) with
 | false=>rw [hc] at h; cases h
 | true=>
  rw [hc] at h
  cases h
  refine hands_calls (fn:=Tryz.f107) Tryz.func107 (by kernel_rfl) (by kernel_rfl) fun w F vals hQ hF hl hr=>?_
  obtain ⟨u0,u1,rfl,h0,h1⟩:=vals2 hl hr
  obtain rfl:=rel_v h0
  obtain rfl:=rel_v h1
  rw [Bool.and_eq_true,Bool.and_eq_true,Bool.and_eq_true] at hc
  refine (Tryz.strings_Split_shaped s t w (Rooted.opened _ hQ) (of_decide_eq_true hc.1.1) (of_decide_eq_true hc.1.2)).mono ?_
  rintro e w' ⟨rfl,rfl⟩
  exact strs_res rfl hF (Nat.eq_of_beq_eq_true hc.2.1) (of_decide_eq_true hc.2.2)
def Q3v.via {R:Type} (n:Nat) (ys:List AV):(AV→Option R)→Option R:=match ys with | [.v (.string s),.v (.string t)]=>fun K=>(Q3v.F n s t).bind fun p=>K (.fr ⟨true,9,false⟩ 1 p) | _=>fun _=>none
theorem Q3v.tells1 {R:Type} (n:Nat) (ys:List AV):Tells1 (R:=R) Tryz.prog 107 ys (Q3v.via n ys):=by
 unfold Q3v.via
 split
 ·exact Tells1.of (fun p hp=>(Q3v.hands n _ _ hp).hands rfl)
 ·exact Tells1.none
end Go.Proofs.YtnoldakbllfmnaaGreatDoor.Ev
namespace Go.Proofs.YtnoldakbllfmnaaGreatDoor.Ev
open Go Go.Proofs Go.Proofs.Ev
set_option linter.unusedVariables false
set_option maxRecDepth 100000
abbrev Q33.A:=ByteArray
abbrev Q33.T:=Bool
def Q33.i:Q33.A→List AV:=fun a0=>[vs a0]
def Q33.o (xs:List AV):Option Q33.A:=match xs with | [.v (.string a0)]=>some a0 | _=>none
theorem Q33.oi:∀ xs a,Q33.o xs=some a→xs=Q33.i a:=by
 intro xs a h
 unfold Q33.o at h
 split at h
 ·cases h; rfl
 ·cases h
def Q33.p (p:Q33.T):AV:=vb p
def Q33.q (x:AV):Option Q33.T:=match x with | .v (.bool p0)=>some p0 | _=>none
theorem Q33.qi:∀ x p,Q33.q x=some p→x=Q33.p p:=by
 intro x p h
 unfold Q33.q at h
 split at h
 ·cases h; rfl
 ·cases h
def Q33.C {R:Type} (n:Nat) (f:FuncId) (xs:List AV):(AV→Option R)→Option R:=
 bif Nat.beq f 78 then Q2o.via n xs else fun _=>none
theorem Q33.tells {R:Type} (n:Nat):Tells (R:=R) Tryz.prog (Q33.C n):=fun _ xs=>tells_at (Q2o.tells1 n xs) (Tells1.none)
def Q33.cut (r:Nat):Option Keep:=match r with  | _=>none
def Q33.e (n:Nat) (a0:ByteArray):Option Bool:=
 (Q2o.F n a0).bind fun p1=>
 some (!p1)
def Q33.E (n:Nat):Q33.A→Option Q33.T:=fun a0=>Q33.e n a0
def Q33.F (n:Nat) (a0:ByteArray):Option Bool:=Q33.e n a0
def Q33.FA (n:Nat):Q33.A→Option Q33.T:=Q33.E n
theorem Q33.hands (n:Nat):∀ a p,Q33.FA n a=some p→HandsIn Tryz.prog 111 (Q33.i a) (Q33.p p):=
 pf_hands (C:=Q33.C n) (cut:=Q33.cut) (Z:=Empty) (t:=nofun) (s:=nofun) (e:=fun _=>Q33.E n) (r:=fun _ z=>nomatch z) (n:=n) cfg mixed globs rfl Q33.qi (Q33.tells n) Tryz.func111 (by kernel_rfl) (by kernel_rfl) (fun rec a=>by kernel_rfl) (fun rec z=>nomatch z)
def Q33.via {R:Type} (n:Nat):List AV→(AV→Option R)→Option R:=viaK (Q33.FA n) Q33.o Q33.p
theorem Q33.tells1 {R:Type} (n:Nat) (xs:List AV):Tells1 (R:=R) Tryz.prog 111 xs (Q33.via n xs):=tells_via Q33.oi (fun a=>by kernel_rfl) (Q33.hands n) xs
end Go.Proofs.YtnoldakbllfmnaaGreatDoor.Ev
namespace Go.Proofs.YtnoldakbllfmnaaGreatDoor.Ev
open Go Go.Proofs Go.Proofs.Ev
set_option linter.unusedVariables false
set_option maxRecDepth 100000
abbrev Q3g.A:=List AV
abbrev Q3g.T:=Int
def Q3g.i:Q3g.A→List AV:=fun a0=>[.sl ⟨true,9,false⟩ 1 a0,.fn 111 []]
def Q3g.o (xs:List AV):Option Q3g.A:=match xs with | [.sl ⟨true,9,false⟩ 1 a0,.fn 111 []]=>some a0 | _=>none
theorem Q3g.oi:∀ xs a,Q3g.o xs=some a→xs=Q3g.i a:=by
 intro xs a h
 unfold Q3g.o at h
 split at h
 ·cases h; rfl
 ·cases h
def Q3g.p (p:Q3g.T):AV:=vi p
def Q3g.q (x:AV):Option Q3g.T:=match x with | .v (.int .i64 p0)=>some p0 | _=>none
theorem Q3g.qi:∀ x p,Q3g.q x=some p→x=Q3g.p p:=by
 intro x p h
 unfold Q3g.q at h
 split at h
 ·cases h; rfl
 ·cases h
inductive Q3g.Z where
 | z2 (z1:List AV) (z2 z3:Int)
def Q3g.C {R:Type} (n:Nat) (f:FuncId) (xs:List AV):(AV→Option R)→Option R:=
 bif Nat.beq f 111 then Q33.via n xs else fun _=>none
theorem Q3g.tells {R:Type} (n:Nat):Tells (R:=R) Tryz.prog (Q3g.C n):=fun _ xs=>tells_at (Q33.tells1 n xs) (Tells1.none)
def Q3g.cut (r:Nat):Option Keep:=match r with | 2=>some ⟨[0,1,7,8],[]⟩ | _=>none
def Q3g.t (z:Q3g.Z):List Item:=(todoOf (match z with | .z2 _ _ _=>2) 1000 [.code (Tryz.f158.body.getD .skip)]).getD []
def Q3g.s:Q3g.Z→St
 | .z2 z1 z2 z3=>⟨spr 19 0 [(0,.sl ⟨true,9,false⟩ 1 z1),(1,.fn 111 []),(7,vi z2),(8,vi z3)],Mem.ofList [],0⟩
def Q3g.r2 (n:Nat) (c:Q3g.Z→Option Int) (z1:List AV) (z2 z3:Int):Option Int:=
 bif decide (z3 < z2) then (bif decide ((0:Int)≤z3)&&decide (z3 < ((z1.length:Nat):Int)) then (withCons ((z1.getD ((z3).toNat) .undef).cells) fun h1 r2=>
 withStr h1 fun s3=>
 (Q33.F n s3).bind fun p4=>
 bif p4 then (some z3) else (c (.z2 z1 z2 (IntKind.i64.wrap (z3+1))))) else none) else (some (-1))
def Q3g.r (n:Nat) (c:Q3g.Z→Option Int):Q3g.Z→Option Int
 | .z2 z1 z2 z3=>Q3g.r2 n c z1 z2 z3
def Q3g.e (n:Nat) (c:Q3g.Z→Option Int) (a0:List AV):Option Int:=
 c (.z2 a0 ((a0.length:Nat):Int) 0)
def Q3g.E (n:Nat) (c:Q3g.Z→Option Int):Q3g.A→Option Q3g.T:=fun a0=>Q3g.e n c a0
def Q3g.l (n:Nat):Nat→Q3g.Z→Option Int:=loopL (Q3g.r n)
def Q3g.F (n:Nat) (a0:List AV):Option Int:=Q3g.e n (Q3g.l n n) a0
def Q3g.FA (n:Nat):Q3g.A→Option Q3g.T:=Q3g.E n (Q3g.l n n)
theorem Q3g.hands (n:Nat):∀ a p,Q3g.FA n a=some p→HandsIn Tryz.prog 158 (Q3g.i a) (Q3g.p p):=
 pf_hands (C:=Q3g.C n) (cut:=Q3g.cut) (t:=Q3g.t) (s:=Q3g.s) (e:=Q3g.E n) (r:=Q3g.r n) (n:=n) cfg mixed globs rfl Q3g.qi (Q3g.tells n) Tryz.func158 (by kernel_rfl) (by kernel_rfl) (fun rec a=>by kernel_rfl) (fun rec z=>by cases z <;> kernel_rfl)
def Q3g.via {R:Type} (n:Nat):List AV→(AV→Option R)→Option R:=viaK (Q3g.FA n) Q3g.o Q3g.p
theorem Q3g.tells1 {R:Type} (n:Nat) (xs:List AV):Tells1 (R:=R) Tryz.prog 158 xs (Q3g.via n xs):=tells_via Q3g.oi (fun a=>by kernel_rfl) (Q3g.hands n) xs
end Go.Proofs.YtnoldakbllfmnaaGreatDoor.Ev
namespace Go.Proofs.YtnoldakbllfmnaaGreatDoor.Ev
open Go Go.Proofs Go.Proofs.Ev
set_option linter.unusedVariables false
set_option maxRecDepth 100000
abbrev Q3d.A:=List AV
abbrev Q3d.T:=Bool
def Q3d.i:Q3d.A→List AV:=fun a0=>[.sl ⟨true,9,false⟩ 1 a0,.fn 111 []]
def Q3d.o (xs:List AV):Option Q3d.A:=match xs with | [.sl ⟨true,9,false⟩ 1 a0,.fn 111 []]=>some a0 | _=>none
theorem Q3d.oi:∀ xs a,Q3d.o xs=some a→xs=Q3d.i a:=by
 intro xs a h
 unfold Q3d.o at h
 split at h
 ·cases h; rfl
 ·cases h
def Q3d.p (p:Q3d.T):AV:=vb p
def Q3d.q (x:AV):Option Q3d.T:=match x with | .v (.bool p0)=>some p0 | _=>none
theorem Q3d.qi:∀ x p,Q3d.q x=some p→x=Q3d.p p:=by
 intro x p h
 unfold Q3d.q at h
 split at h
 ·cases h; rfl
 ·cases h
def Q3d.C {R:Type} (n:Nat) (f:FuncId) (xs:List AV):(AV→Option R)→Option R:=
 bif Nat.beq f 158 then Q3g.via n xs else fun _=>none
theorem Q3d.tells {R:Type} (n:Nat):Tells (R:=R) Tryz.prog (Q3d.C n):=fun _ xs=>tells_at (Q3g.tells1 n xs) (Tells1.none)
def Q3d.cut (r:Nat):Option Keep:=match r with  | _=>none
def Q3d.e (n:Nat) (a0:List AV):Option Bool:=
 (Q3g.F n a0).bind fun p1=>
 some (decide (p1≥0))
def Q3d.E (n:Nat):Q3d.A→Option Q3d.T:=fun a0=>Q3d.e n a0
def Q3d.F (n:Nat) (a0:List AV):Option Bool:=Q3d.e n a0
def Q3d.FA (n:Nat):Q3d.A→Option Q3d.T:=Q3d.E n
theorem Q3d.hands (n:Nat):∀ a p,Q3d.FA n a=some p→HandsIn Tryz.prog 110 (Q3d.i a) (Q3d.p p):=
 pf_hands (C:=Q3d.C n) (cut:=Q3d.cut) (Z:=Empty) (t:=nofun) (s:=nofun) (e:=fun _=>Q3d.E n) (r:=fun _ z=>nomatch z) (n:=n) cfg mixed globs rfl Q3d.qi (Q3d.tells n) Tryz.func110 (by kernel_rfl) (by kernel_rfl) (fun rec a=>by kernel_rfl) (fun rec z=>nomatch z)
def Q3d.via {R:Type} (n:Nat):List AV→(AV→Option R)→Option R:=viaK (Q3d.FA n) Q3d.o Q3d.p
theorem Q3d.tells1 {R:Type} (n:Nat) (xs:List AV):Tells1 (R:=R) Tryz.prog 110 xs (Q3d.via n xs):=tells_via Q3d.oi (fun a=>by kernel_rfl) (Q3d.hands n) xs
end Go.Proofs.YtnoldakbllfmnaaGreatDoor.Ev
namespace Go.Proofs.YtnoldakbllfmnaaGreatDoor.Ev
open Go Go.Proofs Go.Proofs.Ev
set_option linter.unusedVariables false
set_option maxRecDepth 100000
abbrev Q32.A:=ByteArray
abbrev Q32.T:=Int × Int × ByteArray × Int × Int × Int × Int × Int × ByteArray × ByteArray × Int × Int × Int × List AV × Int × Int × Int × Int × Bool
def Q32.i:Q32.A→List AV:=fun a0=>[vs a0]
def Q32.o (xs:List AV):Option Q32.A:=match xs with | [.v (.string a0)]=>some a0 | _=>none
theorem Q32.oi:∀ xs a,Q32.o xs=some a→xs=Q32.i a:=by
 intro xs a h
 unfold Q32.o at h
 split at h
 ·cases h; rfl
 ·cases h
def Q32.p (p:Q32.T):AV:=.tup [AV.agg [vi p.1,vi p.2.1,vs p.2.2.1,vi p.2.2.2.1,vi p.2.2.2.2.1,vi p.2.2.2.2.2.1,vi p.2.2.2.2.2.2.1,vi p.2.2.2.2.2.2.2.1,vs p.2.2.2.2.2.2.2.2.1,vs p.2.2.2.2.2.2.2.2.2.1,vi p.2.2.2.2.2.2.2.2.2.2.1,vi p.2.2.2.2.2.2.2.2.2.2.2.1,vi p.2.2.2.2.2.2.2.2.2.2.2.2.1,.fr ⟨true,9,false⟩ 1 p.2.2.2.2.2.2.2.2.2.2.2.2.2.1,vi p.2.2.2.2.2.2.2.2.2.2.2.2.2.2.1,vi p.2.2.2.2.2.2.2.2.2.2.2.2.2.2.2.1,vi p.2.2.2.2.2.2.2.2.2.2.2.2.2.2.2.2.1,vi p.2.2.2.2.2.2.2.2.2.2.2.2.2.2.2.2.2.1],vb p.2.2.2.2.2.2.2.2.2.2.2.2.2.2.2.2.2.2]
def Q32.q (x:AV):Option Q32.T:=match x with | .tup [.agg [.v (.int .i64 p0),.v (.int .i64 p1),.v (.string p2),.v (.int .i64 p3),.v (.int .i64 p4),.v (.int .i64 p5),.v (.int .i64 p6),.v (.int .i64 p7),.v (.string p8),.v (.string p9),.v (.int .i64 p10),.v (.int .i64 p11),.v (.int .i64 p12),.fr ⟨true,9,false⟩ 1 p13,.v (.int .i64 p14),.v (.int .i64 p15),.v (.int .i64 p16),.v (.int .i64 p17)],.v (.bool p18)]=>some (p0,p1,p2,p3,p4,p5,p6,p7,p8,p9,p10,p11,p12,p13,p14,p15,p16,p17,p18) | _=>none
theorem Q32.qi:∀ x p,Q32.q x=some p→x=Q32.p p:=by
 intro x p h
 unfold Q32.q at h
 split at h
 ·cases h; rfl
 ·cases h
inductive Q32.Z where
 | z9 (z1 z2 z3 z4:Int) (z5:ByteArray) (z6 z7 z8 z9 z10:Int) (z11 z12:ByteArray) (z13 z14 z15 z16 z17 z18 z19:Int) (z20 z21:List AV)
def Q32.C {R:Type} (n:Nat) (f:FuncId) (xs:List AV):(AV→Option R)→Option R:=
 bif Nat.beq f 53 then Q30.via n xs else bif Nat.beq f 60 then Q3n.via n xs else bif Nat.beq f 78 then Q2o.via n xs else bif Nat.beq f 105 then Q3o.via n xs else bif Nat.beq f 106 then Q2h.via n xs else bif Nat.beq f 107 then Q3v.via n xs else bif Nat.beq f 108 then Q2y.via n xs else bif Nat.beq f 109 then Q3i.via n xs else bif Nat.beq f 110 then Q3d.via n xs else fun _=>none
theorem Q32.tells {R:Type} (n:Nat):Tells (R:=R) Tryz.prog (Q32.C n):=fun _ xs=>tells_at (Q30.tells1 n xs) (tells_at (Q3n.tells1 n xs) (tells_at (Q2o.tells1 n xs) (tells_at (Q3o.tells1 n xs) (tells_at (Q2h.tells1 n xs) (tells_at (Q3v.tells1 n xs) (tells_at (Q2y.tells1 n xs) (tells_at (Q3i.tells1 n xs) (tells_at (Q3d.tells1 n xs) (Tells1.none)))))))))
def Q32.cut (r:Nat):Option Keep:=match r with | 9=>some ⟨[2,11,51,52,53],[(11,none,⟨true,3,false⟩,1)]⟩ | _=>none
def Q32.t (z:Q32.Z):List Item:=(todoOf (match z with | .z9 _ _ _ _ _ _ _ _ _ _ _ _ _ _ _ _ _ _ _ _ _=>9) 1000 [.code (Tryz.f62.body.getD .skip)]).getD []
def Q32.s:Q32.Z→St
 | .z9 z1 z2 z3 z4 z5 z6 z7 z8 z9 z10 z11 z12 z13 z14 z15 z16 z17 z18 z19 z20 z21=>⟨spr 106 0 [(2,.ptr 0 0),(11,.own 1 0 none),(51,.own 2 0 none),(52,vi z1),(53,vi z2)],Mem.ofList [.box 109 [vi z3,vi z4,vs z5,vi z6,vi z7,vi z8,vi z9,vi z10,vs z11,vs z12,vi z13,vi z14,vi z15,.v (.slice none 0 0),vi z16,vi z17,vi z18,vi z19],.row ⟨true,3,false⟩ 1 z20,.row ⟨true,9,false⟩ 1 z21],3⟩
def Q32.r9 (n:Nat) (c:Q32.Z→Option Q32.T) (z1 z2 z3 z4:Int) (z5:ByteArray) (z6 z7 z8 z9 z10:Int) (z11 z12:ByteArray) (z13 z14 z15 z16 z17 z18 z19:Int) (z20 z21:List AV):Option Q32.T:=
 bif decide (z2 < z1) then (bif decide ((0:Int)≤z2)&&decide (z2 < ((z21.length:Nat):Int)) then (withCons ((z21.getD ((z2).toNat) .undef).cells) fun h12 r13=>
 withStr h12 fun s14=>
 (Q2y.F n s14).bind fun p15=>
 bif !p15.2 then (some (0,0,(⟨#[]⟩ : ByteArray),0,0,0,0,0,(⟨#[]⟩ : ByteArray),(⟨#[]⟩ : ByteArray),0,0,0,[],0,0,0,0,false)) else (bif decide (z20.length+[vi p15.1].length≤most) then (c (.z9 z1 (IntKind.i64.wrap (z2+1)) z3 z4 z5 z6 z7 z8 z9 z10 z11 z12 z13 z14 z15 z16 z17 z18 z19 (z20++[vi p15.1]) z21)) else none)) else none) else (let y16:Bool:=((z20.length:Nat):Int) != 4
 bif y16 then (some (0,0,(⟨#[]⟩ : ByteArray),0,0,0,0,0,(⟨#[]⟩ : ByteArray),(⟨#[]⟩ : ByteArray),0,0,0,[],0,0,0,0,false)) else (bif decide ((0:Int) < (z20.length:Nat)) then (withCons ((z20.getD 0 .undef).cells) fun h17 r18=>
 withInt .i64 h17 fun x19=>
 bif decide ((1:Int) < (z20.length:Nat)) then (withCons ((z20.getD 1 .undef).cells) fun h20 r21=>
 withInt .i64 h20 fun x22=>
 bif decide ((2:Int) < (z20.length:Nat)) then (withCons ((z20.getD 2 .undef).cells) fun h23 r24=>
 withInt .i64 h23 fun x25=>
 bif decide ((3:Int) < (z20.length:Nat)) then (withCons ((z20.getD 3 .undef).cells) fun h26 r27=>
 withInt .i64 h26 fun x28=>
 some (0,3,(⟨#[]⟩ : ByteArray),0,0,0,0,0,(⟨#[]⟩ : ByteArray),(⟨#[]⟩ : ByteArray),0,0,0,[],x19,x22,x25,x28,true)) else none) else none) else none) else none))
def Q32.r (n:Nat) (c:Q32.Z→Option Q32.T):Q32.Z→Option Q32.T
 | .z9 z1 z2 z3 z4 z5 z6 z7 z8 z9 z10 z11 z12 z13 z14 z15 z16 z17 z18 z19 z20 z21=>Q32.r9 n c z1 z2 z3 z4 z5 z6 z7 z8 z9 z10 z11 z12 z13 z14 z15 z16 z17 z18 z19 z20 z21
def Q32.e (n:Nat) (c:Q32.Z→Option Q32.T) (a0:ByteArray):Option Q32.T:=
 (Q3o.F n a0 (⟨#[68,67,76,32]⟩ : ByteArray)).bind fun p1=>
 bif p1.2 then ((Q2h.F n p1.1).bind fun p2=>
 bif p2.2.2.2.2.2.2.2.2.2.2 then ((Q2o.F n p2.1).bind fun p3=>
 bif p3 then ((Q30.F n p2.1 p2.2.1 p2.2.2.1 p2.2.2.2.1 p2.2.2.2.2.1 p2.2.2.2.2.2.1 p2.2.2.2.2.2.2.1 p2.2.2.2.2.2.2.2.1 p2.2.2.2.2.2.2.2.2.1 p2.2.2.2.2.2.2.2.2.2.1).bind fun p4=>
 some (0,1,p2.1,p2.2.1,p2.2.2.1,p2.2.2.2.1,p2.2.2.2.2.1,p2.2.2.2.2.2.1,p2.2.2.2.2.2.2.1,p2.2.2.2.2.2.2.2.1,p2.2.2.2.2.2.2.2.2.1,p2.2.2.2.2.2.2.2.2.2.1,0,[],0,0,0,0,p4.toList==a0.toList)) else (some (0,1,p2.1,p2.2.1,p2.2.2.1,p2.2.2.2.1,p2.2.2.2.2.1,p2.2.2.2.2.2.1,p2.2.2.2.2.2.2.1,p2.2.2.2.2.2.2.2.1,p2.2.2.2.2.2.2.2.2.1,p2.2.2.2.2.2.2.2.2.2.1,0,[],0,0,0,0,false))) else (some (0,1,p2.1,p2.2.1,p2.2.2.1,p2.2.2.2.1,p2.2.2.2.2.1,p2.2.2.2.2.2.1,p2.2.2.2.2.2.2.1,p2.2.2.2.2.2.2.2.1,p2.2.2.2.2.2.2.2.2.1,p2.2.2.2.2.2.2.2.2.2.1,0,[],0,0,0,0,false))) else ((Q3n.F n a0 (⟨#[32]⟩ : ByteArray)).bind fun p5=>
 let y6:Bool:=p5.1.toList==(⟨#[77,79,78,73,84,79,82]⟩ : ByteArray).toList
 bif y6 then ((Q3v.F n p5.2.1 (⟨#[32]⟩ : ByteArray)).bind fun p7=>
 c (.z9 ((p7.length:Nat):Int) 0 0 0 (⟨#[]⟩ : ByteArray) 0 0 0 0 0 (⟨#[]⟩ : ByteArray) (⟨#[]⟩ : ByteArray) 0 0 0 0 0 0 0 [] p7)) else ((Q3i.F n [vs (⟨#[77,79,86,69]⟩ : ByteArray),vs (⟨#[77,79,86,69,72]⟩ : ByteArray),vs (⟨#[65,68,68]⟩ : ByteArray),vs (⟨#[83,85,66]⟩ : ByteArray),vs (⟨#[77,85,76]⟩ : ByteArray),vs (⟨#[68,73,86]⟩ : ByteArray),vs (⟨#[82,69,77]⟩ : ByteArray),vs (⟨#[73,70,69,81]⟩ : ByteArray),vs (⟨#[73,70,76,84]⟩ : ByteArray),vs (⟨#[71,79,84,79]⟩ : ByteArray),vs (⟨#[65,68,68,82]⟩ : ByteArray),vs (⟨#[77,79,86,69,80]⟩ : ByteArray),vs (⟨#[65,68,86,65,78,67,69]⟩ : ByteArray),vs (⟨#[67,65,76,76]⟩ : ByteArray),vs (⟨#[82,69,84,85,82,78]⟩ : ByteArray),vs (⟨#[83,73,71,78,65,76]⟩ : ByteArray),vs (⟨#[69,88,67,69,80,84,73,79,78]⟩ : ByteArray),vs (⟨#[80,82,73,78,84]⟩ : ByteArray),vs (⟨#[69,78,68]⟩ : ByteArray)] p5.1).bind fun p8=>
 bif p5.2.2 then ((Q3v.F n p5.2.1 (⟨#[44]⟩ : ByteArray)).bind fun p9=>
 bif decide (p8≥0) then ((Q3d.F n p9).bind fun p10=>
 some (0,2,(⟨#[]⟩ : ByteArray),0,0,0,0,0,(⟨#[]⟩ : ByteArray),(⟨#[]⟩ : ByteArray),0,0,p8,p9,0,0,0,0,!p10)) else (some (0,2,(⟨#[]⟩ : ByteArray),0,0,0,0,0,(⟨#[]⟩ : ByteArray),(⟨#[]⟩ : ByteArray),0,0,p8,p9,0,0,0,0,false))) else (bif decide (p8≥0) then ((Q3d.F n []).bind fun p11=>
 some (0,2,(⟨#[]⟩ : ByteArray),0,0,0,0,0,(⟨#[]⟩ : ByteArray),(⟨#[]⟩ : ByteArray),0,0,p8,[],0,0,0,0,!p11)) else (some (0,2,(⟨#[]⟩ : ByteArray),0,0,0,0,0,(⟨#[]⟩ : ByteArray),(⟨#[]⟩ : ByteArray),0,0,p8,[],0,0,0,0,false)))))
def Q32.E (n:Nat) (c:Q32.Z→Option Q32.T):Q32.A→Option Q32.T:=fun a0=>Q32.e n c a0
def Q32.l (n:Nat):Nat→Q32.Z→Option Q32.T:=loopL (Q32.r n)
def Q32.FA (n:Nat):Q32.A→Option Q32.T:=Q32.E n (Q32.l n n)
theorem Q32.hands (n:Nat):∀ a p,Q32.FA n a=some p→HandsIn Tryz.prog 62 (Q32.i a) (Q32.p p):=
 pf_hands (C:=Q32.C n) (cut:=Q32.cut) (t:=Q32.t) (s:=Q32.s) (e:=Q32.E n) (r:=Q32.r n) (n:=n) cfg mixed globs rfl Q32.qi (Q32.tells n) Tryz.func62 (by kernel_rfl) (by kernel_rfl) (fun rec a=>by kernel_rfl) (fun rec z=>by cases z <;> kernel_rfl)
def Q32.via {R:Type} (n:Nat):List AV→(AV→Option R)→Option R:=viaK (Q32.FA n) Q32.o Q32.p
theorem Q32.tells1 {R:Type} (n:Nat) (xs:List AV):Tells1 (R:=R) Tryz.prog 62 xs (Q32.via n xs):=tells_via Q32.oi (fun a=>by kernel_rfl) (Q32.hands n) xs
end Go.Proofs.YtnoldakbllfmnaaGreatDoor.Ev
namespace Go.Proofs.YtnoldakbllfmnaaGreatDoor.Ev
open Go Go.Proofs Go.Proofs.Ev
set_option linter.unusedVariables false
set_option maxRecDepth 100000
def Q0r.own (f:FuncId):Bool:=Nat.beq f 14||Nat.beq f 17||Nat.beq f 22||Nat.beq f 60||Nat.beq f 62
def Q0r.C0 {R:Type} (f:FuncId) (xs:List AV):(AV→Option R)→Option R:=bif Nat.beq f 14 then Q26.via 1000 xs else bif Nat.beq f 17 then Q27.via 1000 xs else bif Nat.beq f 22 then Q1a.via 1000 xs else bif Nat.beq f 60 then Q3n.via 1000 xs else bif Nat.beq f 62 then Q32.via 1000 xs else fun _=>none
theorem Q0r.tells0 {R:Type}:Tells (R:=R) Tryz.prog Q0r.C0:=fun _ xs=>tells_at (Q26.tells1 1000 xs) (tells_at (Q27.tells1 1000 xs) (tells_at (Q1a.tells1 1000 xs) (tells_at (Q3n.tells1 1000 xs) (tells_at (Q32.tells1 1000 xs) (Tells1.none)))))
def Q0r.F (n:Nat):Option Bool:=Option.some true
theorem Q0r.run:interp Tryz.prog G Q0r.own Q0r.C0 (fun _ _=>none) 1000 100 12 []=Option.some (vb true):=by kernel_rfl
def Q0r.via {R:Type} (n:Nat) (ys:List AV):(AV→Option R)→Option R:=match ys with | []=>fun K=>(Q0r.F n).bind fun p=>K (.v (.bool p)) | _=>fun _=>none
theorem Q0r.tells1 {R:Type} (n:Nat) (ys:List AV):Tells1 (R:=R) Tryz.prog 12 ys (Q0r.via n ys):=by
 unfold Q0r.via
 split
 ·exact Tells1.of (fun p hp=>by cases hp; exact interp_tells cfg mixed globs rfl Q0r.tells0 100 _ _ _ Q0r.run)
 ·exact Tells1.none
end Go.Proofs.YtnoldakbllfmnaaGreatDoor.Ev
namespace Go.Proofs.YtnoldakbllfmnaaGreatDoor.Ev
open Go Go.Proofs Go.Proofs.Ev
set_option linter.unusedVariables false
set_option maxRecDepth 100000
abbrev Q0j.A:=List AV × List AV × List AV
abbrev Q0j.T:=Bool
def Q0j.i:Q0j.A→List AV:=fun (a0,a1,a2)=>[AV.agg [.sl ⟨true,74,false⟩ 10 a0,.sl ⟨false,86,false⟩ 2 a1,.sl ⟨true,82,false⟩ 4 a2]]
def Q0j.o (xs:List AV):Option Q0j.A:=match xs with | [.agg [.sl ⟨true,74,false⟩ 10 a0,.sl ⟨false,86,false⟩ 2 a1,.sl ⟨true,82,false⟩ 4 a2]]=>some (a0,a1,a2) | _=>none
theorem Q0j.oi:∀ xs a,Q0j.o xs=some a→xs=Q0j.i a:=by
 intro xs a h
 unfold Q0j.o at h
 split at h
 ·cases h; rfl
 ·cases h
def Q0j.p (p:Q0j.T):AV:=vb p
def Q0j.q (x:AV):Option Q0j.T:=match x with | .v (.bool p0)=>some p0 | _=>none
theorem Q0j.qi:∀ x p,Q0j.q x=some p→x=Q0j.p p:=by
 intro x p h
 unfold Q0j.q at h
 split at h
 ·cases h; rfl
 ·cases h
inductive Q0j.Z where
 | z2
 | z4 (z1:Int) (z2 z3 z4:List AV)
 | z8
 | z10 (z1:Int) (z2 z3 z4:List AV)
def Q0j.C {R:Type} (n:Nat) (f:FuncId) (xs:List AV):(AV→Option R)→Option R:=
 fun _=>none
theorem Q0j.tells {R:Type} (n:Nat):Tells (R:=R) Tryz.prog (Q0j.C n):=fun _ xs=>Tells1.none
def Q0j.cut (r:Nat):Option Keep:=match r with | 2=>some ⟨[],[]⟩ | 4=>some ⟨[1,3],[]⟩ | 8=>some ⟨[],[]⟩ | 10=>some ⟨[1,5],[]⟩ | _=>none
def Q0j.t (z:Q0j.Z):List Item:=(todoOf (match z with | .z2=>2 | .z4 _ _ _ _=>4 | .z8=>8 | .z10 _ _ _ _=>10) 1000 [.code (Tryz.f13.body.getD .skip)]).getD []
def Q0j.s:Q0j.Z→St
 | .z2=>⟨spr 66 0 [],Mem.ofList [],0⟩
 | .z4 z1 z2 z3 z4=>⟨spr 66 0 [(1,.ptr 0 0),(3,vi z1)],Mem.ofList [.box 26 [.sl ⟨true,74,false⟩ 10 z2,.sl ⟨false,86,false⟩ 2 z3,.sl ⟨true,82,false⟩ 4 z4]],1⟩
 | .z8=>⟨spr 66 0 [],Mem.ofList [],0⟩
 | .z10 z1 z2 z3 z4=>⟨spr 66 0 [(1,.ptr 0 0),(5,vi z1)],Mem.ofList [.box 26 [.sl ⟨true,74,false⟩ 10 z2,.sl ⟨false,86,false⟩ 2 z3,.sl ⟨true,82,false⟩ 4 z4]],1⟩
def Q0j.r2 (n:Nat) (c:Q0j.Z→Option Bool)  : Option Bool:=
 some false
def Q0j.r4 (n:Nat) (c:Q0j.Z→Option Bool) (z1:Int) (z2 z3 z4:List AV):Option Bool:=
 let y4:Bool:=decide (z1 < ((z2.length:Nat):Int))
 bif y4 then (bif decide ((0:Int)≤z1)&&decide (z1 < ((z2.length:Nat):Int)) then (withCons ((z2.getD ((z1).toNat) .undef).cells) fun h5 r6=>
 withStr h5 fun s7=>
 withCons r6 fun h8 r9=>
 withInt .i64 h8 fun x10=>
 withCons r9 fun h11 r12=>
 withInt .i64 h11 fun x13=>
 withCons r12 fun h14 r15=>
 withInt .i64 h14 fun x16=>
 withCons r15 fun h17 r18=>
 withInt .i64 h17 fun x19=>
 withCons r18 fun h20 r21=>
 withInt .i64 h20 fun x22=>
 withCons r21 fun h23 r24=>
 withStr h23 fun s25=>
 withCons r24 fun h26 r27=>
 withStr h26 fun s28=>
 withCons r27 fun h29 r30=>
 withInt .i64 h29 fun x31=>
 withCons r30 fun h32 r33=>
 withInt .i64 h32 fun x34=>
 let y35:Bool:=decide (((s7.size:Nat):Int) > 100)
 bif y35 then (c .z8) else (let y36:Bool:=decide (((s28.size:Nat):Int) > 100)
 bif y36 then (c .z8) else (let y37:Bool:=decide (((s25.size:Nat):Int) > 600)
 bif y37 then (c .z8) else (c (.z4 (IntKind.i64.wrap (z1+1)) z2 z3 z4))))) else none) else (c (.z10 0 z2 z3 z4))
def Q0j.r8 (n:Nat) (c:Q0j.Z→Option Bool)  : Option Bool:=
 some false
def Q0j.r10 (n:Nat) (c:Q0j.Z→Option Bool) (z1:Int) (z2 z3 z4:List AV):Option Bool:=
 let y38:Bool:=decide (z1 < ((z3.length:Nat):Int))
 bif y38 then (bif decide ((0:Int)≤z1)&&decide (z1 < ((z3.length:Nat):Int)) then (withCons (((z3.getD ((z1).toNat) .undef).cells).drop 1) fun h39 r40=>
 withSl ⟨true,3,false⟩ 1 h39 fun xs41=>
 let y42:Bool:=decide (((xs41.length:Nat):Int) > 6)
 bif y42 then (some false) else (c (.z10 (IntKind.i64.wrap (z1+1)) z2 z3 z4))) else none) else (some true)
def Q0j.r (n:Nat) (c:Q0j.Z→Option Bool):Q0j.Z→Option Bool
 | .z2=>Q0j.r2 n c
 | .z4 z1 z2 z3 z4=>Q0j.r4 n c z1 z2 z3 z4
 | .z8=>Q0j.r8 n c
 | .z10 z1 z2 z3 z4=>Q0j.r10 n c z1 z2 z3 z4
def Q0j.e (n:Nat) (c:Q0j.Z→Option Bool) (a0 a1 a2:List AV):Option Bool:=
 let y1:Bool:=decide (((a0.length:Nat):Int) > 28)
 bif y1 then (c .z2) else (let y2:Bool:=decide (((a1.length:Nat):Int) > 44)
 bif y2 then (c .z2) else (let y3:Bool:=decide (((a2.length:Nat):Int) > 9)
 bif y3 then (c .z2) else (c (.z4 0 a0 a1 a2))))
def Q0j.E (n:Nat) (c:Q0j.Z→Option Bool):Q0j.A→Option Q0j.T:=fun (a0,a1,a2)=>Q0j.e n c a0 a1 a2
def Q0j.l (n:Nat):Nat→Q0j.Z→Option Bool:=loopL (Q0j.r n)
def Q0j.F (n:Nat) (a0 a1 a2:List AV):Option Bool:=Q0j.e n (Q0j.l n n) a0 a1 a2
def Q0j.FA (n:Nat):Q0j.A→Option Q0j.T:=Q0j.E n (Q0j.l n n)
theorem Q0j.hands (n:Nat):∀ a p,Q0j.FA n a=some p→HandsIn Tryz.prog 13 (Q0j.i a) (Q0j.p p):=
 pf_hands (C:=Q0j.C n) (cut:=Q0j.cut) (t:=Q0j.t) (s:=Q0j.s) (e:=Q0j.E n) (r:=Q0j.r n) (n:=n) cfg mixed globs rfl Q0j.qi (Q0j.tells n) Tryz.func13 (by kernel_rfl) (by kernel_rfl) (fun rec a=>by kernel_rfl) (fun rec z=>by cases z <;> kernel_rfl)
def Q0j.via {R:Type} (n:Nat):List AV→(AV→Option R)→Option R:=viaK (Q0j.FA n) Q0j.o Q0j.p
theorem Q0j.tells1 {R:Type} (n:Nat) (xs:List AV):Tells1 (R:=R) Tryz.prog 13 xs (Q0j.via n xs):=tells_via Q0j.oi (fun a=>by kernel_rfl) (Q0j.hands n) xs
end Go.Proofs.YtnoldakbllfmnaaGreatDoor.Ev
namespace Go.Proofs.YtnoldakbllfmnaaGreatDoor.Ev
open Go Go.Proofs Go.Proofs.Ev
set_option linter.unusedVariables false
set_option maxRecDepth 100000
abbrev Q05.A:=List AV
abbrev Q05.T:=List AV
def Q05.i:Q05.A→List AV:=fun a0=>[.sl ⟨true,3,false⟩ 1 a0]
def Q05.o (xs:List AV):Option Q05.A:=match xs with | [.sl ⟨true,3,false⟩ 1 a0]=>some a0 | _=>none
theorem Q05.oi:∀ xs a,Q05.o xs=some a→xs=Q05.i a:=by
 intro xs a h
 unfold Q05.o at h
 split at h
 ·cases h; rfl
 ·cases h
def Q05.p (p:Q05.T):AV:=.fr ⟨true,3,false⟩ 1 p
def Q05.q (x:AV):Option Q05.T:=match x with | .fr ⟨true,3,false⟩ 1 p0=>some p0 | _=>none
theorem Q05.qi:∀ x p,Q05.q x=some p→x=Q05.p p:=by
 intro x p h
 unfold Q05.q at h
 split at h
 ·cases h; rfl
 ·cases h
def Q05.C {R:Type} (n:Nat) (f:FuncId) (xs:List AV):(AV→Option R)→Option R:=
 fun _=>none
theorem Q05.tells {R:Type} (n:Nat):Tells (R:=R) Tryz.prog (Q05.C n):=fun _ xs=>Tells1.none
def Q05.cut (r:Nat):Option Keep:=match r with  | _=>none
def Q05.e (n:Nat) (a0:List AV):Option (List AV):=
 bif decide (a0.length≤most) then (some a0) else none
def Q05.E (n:Nat):Q05.A→Option Q05.T:=fun a0=>Q05.e n a0
def Q05.F (n:Nat) (a0:List AV):Option (List AV):=Q05.e n a0
def Q05.FA (n:Nat):Q05.A→Option Q05.T:=Q05.E n
theorem Q05.hands (n:Nat):∀ a p,Q05.FA n a=some p→HandsIn Tryz.prog 49 (Q05.i a) (Q05.p p):=
 pf_hands (C:=Q05.C n) (cut:=Q05.cut) (Z:=Empty) (t:=nofun) (s:=nofun) (e:=fun _=>Q05.E n) (r:=fun _ z=>nomatch z) (n:=n) cfg mixed globs rfl Q05.qi (Q05.tells n) Tryz.func49 (by kernel_rfl) (by kernel_rfl) (fun rec a=>by kernel_rfl) (fun rec z=>nomatch z)
def Q05.via {R:Type} (n:Nat):List AV→(AV→Option R)→Option R:=viaK (Q05.FA n) Q05.o Q05.p
theorem Q05.tells1 {R:Type} (n:Nat) (xs:List AV):Tells1 (R:=R) Tryz.prog 49 xs (Q05.via n xs):=tells_via Q05.oi (fun a=>by kernel_rfl) (Q05.hands n) xs
end Go.Proofs.YtnoldakbllfmnaaGreatDoor.Ev
namespace Go.Proofs.YtnoldakbllfmnaaGreatDoor.Ev
open Go Go.Proofs Go.Proofs.Ev
set_option linter.unusedVariables false
set_option maxRecDepth 100000
abbrev Q18.A:=List AV × List AV × List AV
abbrev Q18.T:=List AV × List AV × List AV
def Q18.i:Q18.A→List AV:=fun (a0,a1,a2)=>[AV.agg [.sl ⟨true,74,false⟩ 10 a0,.sl ⟨false,86,false⟩ 2 a1,.sl ⟨true,82,false⟩ 4 a2]]
def Q18.o (xs:List AV):Option Q18.A:=match xs with | [.agg [.sl ⟨true,74,false⟩ 10 a0,.sl ⟨false,86,false⟩ 2 a1,.sl ⟨true,82,false⟩ 4 a2]]=>some (a0,a1,a2) | _=>none
theorem Q18.oi:∀ xs a,Q18.o xs=some a→xs=Q18.i a:=by
 intro xs a h
 unfold Q18.o at h
 split at h
 ·cases h; rfl
 ·cases h
def Q18.p (p:Q18.T):AV:=AV.agg [.fr ⟨true,74,false⟩ 10 p.1,.fr ⟨false,86,false⟩ 2 p.2.1,.fr ⟨true,82,false⟩ 4 p.2.2]
def Q18.q (x:AV):Option Q18.T:=match x with | .agg [.fr ⟨true,74,false⟩ 10 p0,.fr ⟨false,86,false⟩ 2 p1,.fr ⟨true,82,false⟩ 4 p2]=>some (p0,p1,p2) | _=>none
theorem Q18.qi:∀ x p,Q18.q x=some p→x=Q18.p p:=by
 intro x p h
 unfold Q18.q at h
 split at h
 ·cases h; rfl
 ·cases h
inductive Q18.Z where
 | z3 (z1:Int) (z2 z3 z4 z5 z6 z7:List AV)
def Q18.C {R:Type} (n:Nat) (f:FuncId) (xs:List AV):(AV→Option R)→Option R:=
 bif Nat.beq f 49 then Q05.via n xs else fun _=>none
theorem Q18.tells {R:Type} (n:Nat):Tells (R:=R) Tryz.prog (Q18.C n):=fun _ xs=>tells_at (Q05.tells1 n xs) (Tells1.none)
def Q18.cut (r:Nat):Option Keep:=match r with | 3=>some ⟨[1,2,3,4],[(3,some 1,⟨false,86,false⟩,2)]⟩ | _=>none
def Q18.t (z:Q18.Z):List Item:=(todoOf (match z with | .z3 _ _ _ _ _ _ _=>3) 1000 [.code (Tryz.f15.body.getD .skip)]).getD []
def Q18.s:Q18.Z→St
 | .z3 z1 z2 z3 z4 z5 z6 z7=>⟨spr 39 0 [(1,.ptr 0 0),(2,.ptr 1 0),(3,.ptr 2 0),(4,vi z1)],Mem.ofList [.box 26 [.sl ⟨true,74,false⟩ 10 z2,.sl ⟨false,86,false⟩ 2 z3,.sl ⟨true,82,false⟩ 4 z4],.box 26 [.v (.slice none 0 0),.v (.slice none 0 0),.v (.slice none 0 0)],.box 26 [.own 3 0 none,.own 4 0 none,.own 5 0 none],.row ⟨true,74,false⟩ 10 z5,.row ⟨false,86,false⟩ 2 z6,.row ⟨true,82,false⟩ 4 z7],6⟩
def Q18.r3 (n:Nat) (c:Q18.Z→Option (List AV × List AV × List AV)) (z1:Int) (z2 z3 z4 z5 z6 z7:List AV):Option (List AV × List AV × List AV):=
 let y1:Bool:=decide (z1 < ((z3.length:Nat):Int))
 bif y1 then (bif decide ((0:Int)≤z1)&&decide (z1 < ((z3.length:Nat):Int)) then (withCons ((z3.getD ((z1).toNat) .undef).cells) fun h2 r3=>
 withInt .i64 h2 fun x4=>
 bif decide ((0:Int)≤z1)&&decide (z1 < ((z3.length:Nat):Int)) then (withCons (((z3.getD ((z1).toNat) .undef).cells).drop 1) fun h5 r6=>
 withSl ⟨true,3,false⟩ 1 h5 fun xs7=>
 (Q05.F n xs7).bind fun p8=>
 let y9:List AV:=[AV.agg [vi x4,.sl ⟨true,3,false⟩ 1 p8]]
 bif decide (z6.length+y9.length≤most) then (c (.z3 (IntKind.i64.wrap (z1+1)) z2 z3 z4 z5 (z6++y9) z7)) else none) else none) else none) else (some (z5,z6,z7))
def Q18.r (n:Nat) (c:Q18.Z→Option (List AV × List AV × List AV)):Q18.Z→Option (List AV × List AV × List AV)
 | .z3 z1 z2 z3 z4 z5 z6 z7=>Q18.r3 n c z1 z2 z3 z4 z5 z6 z7
def Q18.e (n:Nat) (c:Q18.Z→Option (List AV × List AV × List AV)) (a0 a1 a2:List AV):Option (List AV × List AV × List AV):=
 bif decide (a0.length≤most) then (bif decide (a2.length≤most) then (c (.z3 0 a0 a1 a2 a0 [] a2)) else none) else none
def Q18.E (n:Nat) (c:Q18.Z→Option (List AV × List AV × List AV)):Q18.A→Option Q18.T:=fun (a0,a1,a2)=>Q18.e n c a0 a1 a2
def Q18.l (n:Nat):Nat→Q18.Z→Option (List AV × List AV × List AV):=loopL (Q18.r n)
def Q18.F (n:Nat) (a0 a1 a2:List AV):Option (List AV × List AV × List AV):=Q18.e n (Q18.l n n) a0 a1 a2
def Q18.FA (n:Nat):Q18.A→Option Q18.T:=Q18.E n (Q18.l n n)
theorem Q18.hands (n:Nat):∀ a p,Q18.FA n a=some p→HandsIn Tryz.prog 15 (Q18.i a) (Q18.p p):=
 pf_hands (C:=Q18.C n) (cut:=Q18.cut) (t:=Q18.t) (s:=Q18.s) (e:=Q18.E n) (r:=Q18.r n) (n:=n) cfg mixed globs rfl Q18.qi (Q18.tells n) Tryz.func15 (by kernel_rfl) (by kernel_rfl) (fun rec a=>by kernel_rfl) (fun rec z=>by cases z <;> kernel_rfl)
def Q18.via {R:Type} (n:Nat):List AV→(AV→Option R)→Option R:=viaK (Q18.FA n) Q18.o Q18.p
theorem Q18.tells1 {R:Type} (n:Nat) (xs:List AV):Tells1 (R:=R) Tryz.prog 15 xs (Q18.via n xs):=tells_via Q18.oi (fun a=>by kernel_rfl) (Q18.hands n) xs
end Go.Proofs.YtnoldakbllfmnaaGreatDoor.Ev
namespace Go.Proofs.YtnoldakbllfmnaaGreatDoor.Ev
open Go Go.Proofs Go.Proofs.Ev
set_option linter.unusedVariables false
set_option maxRecDepth 100000
abbrev Q0i.A:=Int × Int × Int
abbrev Q0i.T:=Bool
def Q0i.i:Q0i.A→List AV:=fun (a0,a1,a2)=>[vi a0,vi a1,vi a2]
def Q0i.o (xs:List AV):Option Q0i.A:=match xs with | [.v (.int .i64 a0),.v (.int .i64 a1),.v (.int .i64 a2)]=>some (a0,a1,a2) | _=>none
theorem Q0i.oi:∀ xs a,Q0i.o xs=some a→xs=Q0i.i a:=by
 intro xs a h
 unfold Q0i.o at h
 split at h
 ·cases h; rfl
 ·cases h
def Q0i.p (p:Q0i.T):AV:=vb p
def Q0i.q (x:AV):Option Q0i.T:=match x with | .v (.bool p0)=>some p0 | _=>none
theorem Q0i.qi:∀ x p,Q0i.q x=some p→x=Q0i.p p:=by
 intro x p h
 unfold Q0i.q at h
 split at h
 ·cases h; rfl
 ·cases h
def Q0i.C {R:Type} (n:Nat) (f:FuncId) (xs:List AV):(AV→Option R)→Option R:=
 fun _=>none
theorem Q0i.tells {R:Type} (n:Nat):Tells (R:=R) Tryz.prog (Q0i.C n):=fun _ xs=>Tells1.none
def Q0i.cut (r:Nat):Option Keep:=match r with  | _=>none
def Q0i.e (n:Nat) (a0 a1 a2:Int):Option Bool:=
 bif decide (a1≤a0) then (some (decide (a0≤a2))) else (some false)
def Q0i.E (n:Nat):Q0i.A→Option Q0i.T:=fun (a0,a1,a2)=>Q0i.e n a0 a1 a2
def Q0i.F (n:Nat) (a0 a1 a2:Int):Option Bool:=Q0i.e n a0 a1 a2
def Q0i.FA (n:Nat):Q0i.A→Option Q0i.T:=Q0i.E n
theorem Q0i.hands (n:Nat):∀ a p,Q0i.FA n a=some p→HandsIn Tryz.prog 27 (Q0i.i a) (Q0i.p p):=
 pf_hands (C:=Q0i.C n) (cut:=Q0i.cut) (Z:=Empty) (t:=nofun) (s:=nofun) (e:=fun _=>Q0i.E n) (r:=fun _ z=>nomatch z) (n:=n) cfg mixed globs rfl Q0i.qi (Q0i.tells n) Tryz.func27 (by kernel_rfl) (by kernel_rfl) (fun rec a=>by kernel_rfl) (fun rec z=>nomatch z)
def Q0i.via {R:Type} (n:Nat):List AV→(AV→Option R)→Option R:=viaK (Q0i.FA n) Q0i.o Q0i.p
theorem Q0i.tells1 {R:Type} (n:Nat) (xs:List AV):Tells1 (R:=R) Tryz.prog 27 xs (Q0i.via n xs):=tells_via Q0i.oi (fun a=>by kernel_rfl) (Q0i.hands n) xs
end Go.Proofs.YtnoldakbllfmnaaGreatDoor.Ev
namespace Go.Proofs.YtnoldakbllfmnaaGreatDoor.Ev
open Go Go.Proofs Go.Proofs.Ev
set_option linter.unusedVariables false
set_option maxRecDepth 100000
abbrev Q10.A:=List AV × List AV × List AV × ByteArray
abbrev Q10.T:=Int
def Q10.i:Q10.A→List AV:=fun (a0,a1,a2,a3)=>[AV.agg [.sl ⟨true,74,false⟩ 10 a0,.sl ⟨false,86,false⟩ 2 a1,.sl ⟨true,82,false⟩ 4 a2],vs a3]
def Q10.o (xs:List AV):Option Q10.A:=match xs with | [.agg [.sl ⟨true,74,false⟩ 10 a0,.sl ⟨false,86,false⟩ 2 a1,.sl ⟨true,82,false⟩ 4 a2],.v (.string a3)]=>some (a0,a1,a2,a3) | _=>none
theorem Q10.oi:∀ xs a,Q10.o xs=some a→xs=Q10.i a:=by
 intro xs a h
 unfold Q10.o at h
 split at h
 ·cases h; rfl
 ·cases h
def Q10.p (p:Q10.T):AV:=vi p
def Q10.q (x:AV):Option Q10.T:=match x with | .v (.int .i64 p0)=>some p0 | _=>none
theorem Q10.qi:∀ x p,Q10.q x=some p→x=Q10.p p:=by
 intro x p h
 unfold Q10.q at h
 split at h
 ·cases h; rfl
 ·cases h
inductive Q10.Z where
 | z2 (z1:ByteArray) (z2:Int) (z3 z4 z5:List AV)
def Q10.C {R:Type} (n:Nat) (f:FuncId) (xs:List AV):(AV→Option R)→Option R:=
 fun _=>none
theorem Q10.tells {R:Type} (n:Nat):Tells (R:=R) Tryz.prog (Q10.C n):=fun _ xs=>Tells1.none
def Q10.cut (r:Nat):Option Keep:=match r with | 2=>some ⟨[1,2,5],[]⟩ | _=>none
def Q10.t (z:Q10.Z):List Item:=(todoOf (match z with | .z2 _ _ _ _ _=>2) 1000 [.code (Tryz.f26.body.getD .skip)]).getD []
def Q10.s:Q10.Z→St
 | .z2 z1 z2 z3 z4 z5=>⟨spr 22 0 [(1,vs z1),(2,.ptr 0 0),(5,vi z2)],Mem.ofList [.box 26 [.sl ⟨true,74,false⟩ 10 z3,.sl ⟨false,86,false⟩ 2 z4,.sl ⟨true,82,false⟩ 4 z5]],1⟩
def Q10.r2 (n:Nat) (c:Q10.Z→Option Int) (z1:ByteArray) (z2:Int) (z3 z4 z5:List AV):Option Int:=
 let y1:Bool:=decide (z2 < ((z3.length:Nat):Int))
 bif y1 then (bif decide ((0:Int)≤z2)&&decide (z2 < ((z3.length:Nat):Int)) then (withCons ((z3.getD ((z2).toNat) .undef).cells) fun h2 r3=>
 withStr h2 fun s4=>
 bif s4.toList==z1.toList then (some z2) else (c (.z2 z1 (IntKind.i64.wrap (z2+1)) z3 z4 z5))) else none) else (some (-1))
def Q10.r (n:Nat) (c:Q10.Z→Option Int):Q10.Z→Option Int
 | .z2 z1 z2 z3 z4 z5=>Q10.r2 n c z1 z2 z3 z4 z5
def Q10.e (n:Nat) (c:Q10.Z→Option Int) (a0 a1 a2:List AV) (a3:ByteArray):Option Int:=
 c (.z2 a3 0 a0 a1 a2)
def Q10.E (n:Nat) (c:Q10.Z→Option Int):Q10.A→Option Q10.T:=fun (a0,a1,a2,a3)=>Q10.e n c a0 a1 a2 a3
def Q10.l (n:Nat):Nat→Q10.Z→Option Int:=loopL (Q10.r n)
def Q10.F (n:Nat) (a0 a1 a2:List AV) (a3:ByteArray):Option Int:=Q10.e n (Q10.l n n) a0 a1 a2 a3
def Q10.FA (n:Nat):Q10.A→Option Q10.T:=Q10.E n (Q10.l n n)
theorem Q10.hands (n:Nat):∀ a p,Q10.FA n a=some p→HandsIn Tryz.prog 26 (Q10.i a) (Q10.p p):=
 pf_hands (C:=Q10.C n) (cut:=Q10.cut) (t:=Q10.t) (s:=Q10.s) (e:=Q10.E n) (r:=Q10.r n) (n:=n) cfg mixed globs rfl Q10.qi (Q10.tells n) Tryz.func26 (by kernel_rfl) (by kernel_rfl) (fun rec a=>by kernel_rfl) (fun rec z=>by cases z <;> kernel_rfl)
def Q10.via {R:Type} (n:Nat):List AV→(AV→Option R)→Option R:=viaK (Q10.FA n) Q10.o Q10.p
theorem Q10.tells1 {R:Type} (n:Nat) (xs:List AV):Tells1 (R:=R) Tryz.prog 26 xs (Q10.via n xs):=tells_via Q10.oi (fun a=>by kernel_rfl) (Q10.hands n) xs
end Go.Proofs.YtnoldakbllfmnaaGreatDoor.Ev
namespace Go.Proofs.YtnoldakbllfmnaaGreatDoor.Ev
open Go Go.Proofs Go.Proofs.Ev
set_option linter.unusedVariables false
set_option maxRecDepth 100000
abbrev Q06.A:=Bool
abbrev Q06.T:=Int
def Q06.i:Q06.A→List AV:=fun a0=>[vb a0]
def Q06.o (xs:List AV):Option Q06.A:=match xs with | [.v (.bool a0)]=>some a0 | _=>none
theorem Q06.oi:∀ xs a,Q06.o xs=some a→xs=Q06.i a:=by
 intro xs a h
 unfold Q06.o at h
 split at h
 ·cases h; rfl
 ·cases h
def Q06.p (p:Q06.T):AV:=vi p
def Q06.q (x:AV):Option Q06.T:=match x with | .v (.int .i64 p0)=>some p0 | _=>none
theorem Q06.qi:∀ x p,Q06.q x=some p→x=Q06.p p:=by
 intro x p h
 unfold Q06.q at h
 split at h
 ·cases h; rfl
 ·cases h
def Q06.C {R:Type} (n:Nat) (f:FuncId) (xs:List AV):(AV→Option R)→Option R:=
 fun _=>none
theorem Q06.tells {R:Type} (n:Nat):Tells (R:=R) Tryz.prog (Q06.C n):=fun _ xs=>Tells1.none
def Q06.cut (r:Nat):Option Keep:=match r with  | _=>none
def Q06.e (n:Nat) (a0:Bool):Option Int:=
 bif a0 then (some 1) else (some 0)
def Q06.E (n:Nat):Q06.A→Option Q06.T:=fun a0=>Q06.e n a0
def Q06.F (n:Nat) (a0:Bool):Option Int:=Q06.e n a0
def Q06.FA (n:Nat):Q06.A→Option Q06.T:=Q06.E n
theorem Q06.hands (n:Nat):∀ a p,Q06.FA n a=some p→HandsIn Tryz.prog 76 (Q06.i a) (Q06.p p):=
 pf_hands (C:=Q06.C n) (cut:=Q06.cut) (Z:=Empty) (t:=nofun) (s:=nofun) (e:=fun _=>Q06.E n) (r:=fun _ z=>nomatch z) (n:=n) cfg mixed globs rfl Q06.qi (Q06.tells n) Tryz.func76 (by kernel_rfl) (by kernel_rfl) (fun rec a=>by kernel_rfl) (fun rec z=>nomatch z)
def Q06.via {R:Type} (n:Nat):List AV→(AV→Option R)→Option R:=viaK (Q06.FA n) Q06.o Q06.p
theorem Q06.tells1 {R:Type} (n:Nat) (xs:List AV):Tells1 (R:=R) Tryz.prog 76 xs (Q06.via n xs):=tells_via Q06.oi (fun a=>by kernel_rfl) (Q06.hands n) xs
end Go.Proofs.YtnoldakbllfmnaaGreatDoor.Ev
namespace Go.Proofs.YtnoldakbllfmnaaGreatDoor.Ev
open Go Go.Proofs Go.Proofs.Ev
set_option linter.unusedVariables false
set_option maxRecDepth 100000
abbrev Q0h.A:=Int × Int × Int
abbrev Q0h.T:=Int
def Q0h.i:Q0h.A→List AV:=fun (a0,a1,a2)=>[AV.agg [vi a0,vi a1,vi a2]]
def Q0h.o (xs:List AV):Option Q0h.A:=match xs with | [.agg [.v (.int .i64 a0),.v (.int .i64 a1),.v (.int .i64 a2)]]=>some (a0,a1,a2) | _=>none
theorem Q0h.oi:∀ xs a,Q0h.o xs=some a→xs=Q0h.i a:=by
 intro xs a h
 unfold Q0h.o at h
 split at h
 ·cases h; rfl
 ·cases h
def Q0h.p (p:Q0h.T):AV:=vi p
def Q0h.q (x:AV):Option Q0h.T:=match x with | .v (.int .i64 p0)=>some p0 | _=>none
theorem Q0h.qi:∀ x p,Q0h.q x=some p→x=Q0h.p p:=by
 intro x p h
 unfold Q0h.q at h
 split at h
 ·cases h; rfl
 ·cases h
def Q0h.C {R:Type} (n:Nat) (f:FuncId) (xs:List AV):(AV→Option R)→Option R:=
 bif Nat.beq f 76 then Q06.via n xs else fun _=>none
theorem Q0h.tells {R:Type} (n:Nat):Tells (R:=R) Tryz.prog (Q0h.C n):=fun _ xs=>tells_at (Q06.tells1 n xs) (Tells1.none)
def Q0h.cut (r:Nat):Option Keep:=match r with  | _=>none
def Q0h.e (n:Nat) (a0 a1 a2:Int):Option Int:=
 bif a0==1 then (let y1:Int:=IntKind.i64.wrap (Int.tdiv a1 2)
 some (IntKind.i64.wrap (y1+1))) else (bif a0==3 then ((Q06.F n (a1==9)).bind fun p2=>
 let y3:Int:=IntKind.i64.wrap ((2:Int)*p2)
 let y4:Int:=IntKind.i64.wrap ((2:Int)+y3)
 some y4) else (bif a0==4 then (some 16) else (some a1)))
def Q0h.E (n:Nat):Q0h.A→Option Q0h.T:=fun (a0,a1,a2)=>Q0h.e n a0 a1 a2
def Q0h.F (n:Nat) (a0 a1 a2:Int):Option Int:=Q0h.e n a0 a1 a2
def Q0h.FA (n:Nat):Q0h.A→Option Q0h.T:=Q0h.E n
theorem Q0h.hands (n:Nat):∀ a p,Q0h.FA n a=some p→HandsIn Tryz.prog 35 (Q0h.i a) (Q0h.p p):=
 pf_hands (C:=Q0h.C n) (cut:=Q0h.cut) (Z:=Empty) (t:=nofun) (s:=nofun) (e:=fun _=>Q0h.E n) (r:=fun _ z=>nomatch z) (n:=n) cfg mixed globs rfl Q0h.qi (Q0h.tells n) Tryz.func35 (by kernel_rfl) (by kernel_rfl) (fun rec a=>by kernel_rfl) (fun rec z=>nomatch z)
def Q0h.via {R:Type} (n:Nat):List AV→(AV→Option R)→Option R:=viaK (Q0h.FA n) Q0h.o Q0h.p
theorem Q0h.tells1 {R:Type} (n:Nat) (xs:List AV):Tells1 (R:=R) Tryz.prog 35 xs (Q0h.via n xs):=tells_via Q0h.oi (fun a=>by kernel_rfl) (Q0h.hands n) xs
end Go.Proofs.YtnoldakbllfmnaaGreatDoor.Ev
namespace Go.Proofs.YtnoldakbllfmnaaGreatDoor.Ev
open Go Go.Proofs Go.Proofs.Ev
set_option linter.unusedVariables false
set_option maxRecDepth 100000
abbrev Q17.A:=List AV × List AV × List AV
abbrev Q17.T:=List AV × Int
def Q17.i:Q17.A→List AV:=fun (a0,a1,a2)=>[AV.agg [.sl ⟨true,74,false⟩ 10 a0,.sl ⟨false,86,false⟩ 2 a1,.sl ⟨true,82,false⟩ 4 a2]]
def Q17.o (xs:List AV):Option Q17.A:=match xs with | [.agg [.sl ⟨true,74,false⟩ 10 a0,.sl ⟨false,86,false⟩ 2 a1,.sl ⟨true,82,false⟩ 4 a2]]=>some (a0,a1,a2) | _=>none
theorem Q17.oi:∀ xs a,Q17.o xs=some a→xs=Q17.i a:=by
 intro xs a h
 unfold Q17.o at h
 split at h
 ·cases h; rfl
 ·cases h
def Q17.p (p:Q17.T):AV:=.tup [.fr ⟨true,3,false⟩ 1 p.1,vi p.2]
def Q17.q (x:AV):Option Q17.T:=match x with | .tup [.fr ⟨true,3,false⟩ 1 p0,.v (.int .i64 p1)]=>some (p0,p1) | _=>none
theorem Q17.qi:∀ x p,Q17.q x=some p→x=Q17.p p:=by
 intro x p h
 unfold Q17.q at h
 split at h
 ·cases h; rfl
 ·cases h
inductive Q17.Z where
 | z4 (z1 z2:Int) (z3 z4 z5 z6:List AV)
 | z11 (z1 z2:Int) (z3 z4 z5 z6:List AV)
 | z18 (z1 z2:Int) (z3 z4 z5 z6:List AV)
def Q17.C {R:Type} (n:Nat) (f:FuncId) (xs:List AV):(AV→Option R)→Option R:=
 bif Nat.beq f 26 then Q10.via n xs else bif Nat.beq f 35 then Q0h.via n xs else fun _=>none
theorem Q17.tells {R:Type} (n:Nat):Tells (R:=R) Tryz.prog (Q17.C n):=fun _ xs=>tells_at (Q10.tells1 n xs) (tells_at (Q0h.tells1 n xs) (Tells1.none))
def Q17.cut (r:Nat):Option Keep:=match r with | 4=>some ⟨[1,4,5,6],[]⟩ | 11=>some ⟨[1,4,5,7],[]⟩ | 18=>some ⟨[1,4,5,9],[]⟩ | _=>none
def Q17.t (z:Q17.Z):List Item:=(todoOf (match z with | .z4 _ _ _ _ _ _=>4 | .z11 _ _ _ _ _ _=>11 | .z18 _ _ _ _ _ _=>18) 1000 [.code (Tryz.f32.body.getD .skip)]).getD []
def Q17.s:Q17.Z→St
 | .z4 z1 z2 z3 z4 z5 z6=>⟨spr 95 0 [(1,.ptr 0 0),(4,.own 1 0 none),(5,vi z1),(6,vi z2)],Mem.ofList [.box 26 [.sl ⟨true,74,false⟩ 10 z3,.sl ⟨false,86,false⟩ 2 z4,.sl ⟨true,82,false⟩ 4 z5],.row ⟨true,3,false⟩ 1 z6],2⟩
 | .z11 z1 z2 z3 z4 z5 z6=>⟨spr 95 0 [(1,.ptr 0 0),(4,.own 1 0 none),(5,vi z1),(7,vi z2)],Mem.ofList [.box 26 [.sl ⟨true,74,false⟩ 10 z3,.sl ⟨false,86,false⟩ 2 z4,.sl ⟨true,82,false⟩ 4 z5],.row ⟨true,3,false⟩ 1 z6],2⟩
 | .z18 z1 z2 z3 z4 z5 z6=>⟨spr 95 0 [(1,.ptr 0 0),(4,.own 1 0 none),(5,vi z1),(9,vi z2)],Mem.ofList [.box 26 [.sl ⟨true,74,false⟩ 10 z3,.sl ⟨false,86,false⟩ 2 z4,.sl ⟨true,82,false⟩ 4 z5],.row ⟨true,3,false⟩ 1 z6],2⟩
def Q17.r4 (n:Nat) (c:Q17.Z→Option (List AV × Int)) (z1 z2:Int) (z3 z4 z5 z6:List AV):Option (List AV × Int):=
 let y2:Bool:=decide (z2 < ((z3.length:Nat):Int))
 bif y2 then (bif decide ((0:Int)≤z2)&&decide (z2 < ((z6.length:Nat):Int)) then (let y3:List AV:=z6.set ((z2).toNat) (vi (-1))
 bif decide ((0:Int)≤z2)&&decide (z2 < ((z3.length:Nat):Int)) then (withCons (((z3.getD ((z2).toNat) .undef).cells).drop 1) fun h4 r5=>
 withInt .i64 h4 fun x6=>
 bif x6==3 then (bif decide ((0:Int)≤z2)&&decide (z2 < ((y3.length:Nat):Int)) then (c (.z4 (IntKind.i64.wrap (z1+16)) (IntKind.i64.wrap (z2+1)) z3 z4 z5 (y3.set ((z2).toNat) (vi z1)))) else none) else (c (.z4 z1 (IntKind.i64.wrap (z2+1)) z3 z4 z5 y3))) else none) else none) else (c (.z11 z1 0 z3 z4 z5 z6))
def Q17.r11 (n:Nat) (c:Q17.Z→Option (List AV × Int)) (z1 z2:Int) (z3 z4 z5 z6:List AV):Option (List AV × Int):=
 let y7:Bool:=decide (z2 < ((z3.length:Nat):Int))
 bif y7 then (bif decide ((0:Int)≤z2)&&decide (z2 < ((z3.length:Nat):Int)) then (withCons ((z3.getD ((z2).toNat) .undef).cells) fun h8 r9=>
 withStr h8 fun s10=>
 withCons r9 fun h11 r12=>
 withInt .i64 h11 fun x13=>
 withCons r12 fun h14 r15=>
 withInt .i64 h14 fun x16=>
 withCons r15 fun h17 r18=>
 withInt .i64 h17 fun x19=>
 withCons r18 fun h20 r21=>
 withInt .i64 h20 fun x22=>
 withCons r21 fun h23 r24=>
 withInt .i64 h23 fun x25=>
 withCons r24 fun h26 r27=>
 withStr h26 fun s28=>
 withCons r27 fun h29 r30=>
 withStr h29 fun s31=>
 withCons r30 fun h32 r33=>
 withInt .i64 h32 fun x34=>
 withCons r33 fun h35 r36=>
 withInt .i64 h35 fun x37=>
 bif x13==0 then (bif decide ((0:Int)≤z2)&&decide (z2 < ((z6.length:Nat):Int)) then ((Q0h.F n x16 x19 x22).bind fun p38=>
 c (.z11 (IntKind.i64.wrap (z1+p38)) (IntKind.i64.wrap (z2+1)) z3 z4 z5 (z6.set ((z2).toNat) (vi z1)))) else none) else (c (.z11 z1 (IntKind.i64.wrap (z2+1)) z3 z4 z5 z6))) else none) else (c (.z18 z1 0 z3 z4 z5 z6))
def Q17.r18 (n:Nat) (c:Q17.Z→Option (List AV × Int)) (z1 z2:Int) (z3 z4 z5 z6:List AV):Option (List AV × Int):=
 let y39:Bool:=decide (z2 < ((z3.length:Nat):Int))
 bif y39 then (bif decide ((0:Int)≤z2)&&decide (z2 < ((z3.length:Nat):Int)) then (withCons ((z3.getD ((z2).toNat) .undef).cells) fun h40 r41=>
 withStr h40 fun s42=>
 withCons r41 fun h43 r44=>
 withInt .i64 h43 fun x45=>
 withCons r44 fun h46 r47=>
 withInt .i64 h46 fun x48=>
 withCons r47 fun h49 r50=>
 withInt .i64 h49 fun x51=>
 withCons r50 fun h52 r53=>
 withInt .i64 h52 fun x54=>
 withCons r53 fun h55 r56=>
 withInt .i64 h55 fun x57=>
 withCons r56 fun h58 r59=>
 withStr h58 fun s60=>
 withCons r59 fun h61 r62=>
 withStr h61 fun s63=>
 withCons r62 fun h64 r65=>
 withInt .i64 h64 fun x66=>
 withCons r65 fun h67 r68=>
 withInt .i64 h67 fun x69=>
 bif x45==1 then ((Q10.F n z3 z4 z5 s63).bind fun p70=>
 bif decide ((0:Int)≤p70)&&decide (p70 < ((z6.length:Nat):Int)) then (withCons ((z6.getD ((p70).toNat) .undef).cells) fun h71 r72=>
 withInt .i64 h71 fun x73=>
 bif decide ((0:Int)≤z2)&&decide (z2 < ((z6.length:Nat):Int)) then (let y74:List AV:=z6.set ((z2).toNat) (vi (IntKind.i64.wrap (x73+x66)))
 c (.z18 z1 (IntKind.i64.wrap (z2+1)) z3 z4 z5 y74)) else none) else none) else (c (.z18 z1 (IntKind.i64.wrap (z2+1)) z3 z4 z5 z6))) else none) else (let y75:Int:=IntKind.i64.wrap ((IntKind.i64.wrap (z1+16)) - 1)
 let y76:Int:=IntKind.i64.wrap (Int.tdiv y75 16)
 some (z6,y76))
def Q17.r (n:Nat) (c:Q17.Z→Option (List AV × Int)):Q17.Z→Option (List AV × Int)
 | .z4 z1 z2 z3 z4 z5 z6=>Q17.r4 n c z1 z2 z3 z4 z5 z6
 | .z11 z1 z2 z3 z4 z5 z6=>Q17.r11 n c z1 z2 z3 z4 z5 z6
 | .z18 z1 z2 z3 z4 z5 z6=>Q17.r18 n c z1 z2 z3 z4 z5 z6
def Q17.e (n:Nat) (c:Q17.Z→Option (List AV × Int)) (a0 a1 a2:List AV):Option (List AV × Int):=
 bif (decide ((0:Int)≤((a0.length:Nat):Int))&&decide ((((a0.length:Nat):Int):Int)≤most))&&decide ((((a0.length:Nat):Int):Int)=((a0.length:Nat):Int))&&true&&true then (let y1:List AV:=List.replicate (((a0.length:Nat):Int)).toNat (vi 0)
 c (.z4 0 0 a0 a1 a2 y1)) else none
def Q17.E (n:Nat) (c:Q17.Z→Option (List AV × Int)):Q17.A→Option Q17.T:=fun (a0,a1,a2)=>Q17.e n c a0 a1 a2
def Q17.l (n:Nat):Nat→Q17.Z→Option (List AV × Int):=loopL (Q17.r n)
def Q17.F (n:Nat) (a0 a1 a2:List AV):Option (List AV × Int):=Q17.e n (Q17.l n n) a0 a1 a2
def Q17.FA (n:Nat):Q17.A→Option Q17.T:=Q17.E n (Q17.l n n)
theorem Q17.hands (n:Nat):∀ a p,Q17.FA n a=some p→HandsIn Tryz.prog 32 (Q17.i a) (Q17.p p):=
 pf_hands (C:=Q17.C n) (cut:=Q17.cut) (t:=Q17.t) (s:=Q17.s) (e:=Q17.E n) (r:=Q17.r n) (n:=n) cfg mixed globs rfl Q17.qi (Q17.tells n) Tryz.func32 (by kernel_rfl) (by kernel_rfl) (fun rec a=>by kernel_rfl) (fun rec z=>by cases z <;> kernel_rfl)
def Q17.via {R:Type} (n:Nat):List AV→(AV→Option R)→Option R:=viaK (Q17.FA n) Q17.o Q17.p
theorem Q17.tells1 {R:Type} (n:Nat) (xs:List AV):Tells1 (R:=R) Tryz.prog 32 xs (Q17.via n xs):=tells_via Q17.oi (fun a=>by kernel_rfl) (Q17.hands n) xs
end Go.Proofs.YtnoldakbllfmnaaGreatDoor.Ev
namespace Go.Proofs.YtnoldakbllfmnaaGreatDoor.Ev
open Go Go.Proofs Go.Proofs.Ev
set_option linter.unusedVariables false
set_option maxRecDepth 100000
abbrev Q0c.A:=Int
abbrev Q0c.T:=Bool
def Q0c.i:Q0c.A→List AV:=fun a0=>[vu a0]
def Q0c.o (xs:List AV):Option Q0c.A:=match xs with | [.v (.int .u8 a0)]=>some a0 | _=>none
theorem Q0c.oi:∀ xs a,Q0c.o xs=some a→xs=Q0c.i a:=by
 intro xs a h
 unfold Q0c.o at h
 split at h
 ·cases h; rfl
 ·cases h
def Q0c.p (p:Q0c.T):AV:=vb p
def Q0c.q (x:AV):Option Q0c.T:=match x with | .v (.bool p0)=>some p0 | _=>none
theorem Q0c.qi:∀ x p,Q0c.q x=some p→x=Q0c.p p:=by
 intro x p h
 unfold Q0c.q at h
 split at h
 ·cases h; rfl
 ·cases h
def Q0c.C {R:Type} (n:Nat) (f:FuncId) (xs:List AV):(AV→Option R)→Option R:=
 fun _=>none
theorem Q0c.tells {R:Type} (n:Nat):Tells (R:=R) Tryz.prog (Q0c.C n):=fun _ xs=>Tells1.none
def Q0c.cut (r:Nat):Option Keep:=match r with  | _=>none
def Q0c.e (n:Nat) (a0:Int):Option Bool:=
 bif decide ((65:Int)≤a0) then (some (decide (a0≤90))) else (some false)
def Q0c.E (n:Nat):Q0c.A→Option Q0c.T:=fun a0=>Q0c.e n a0
def Q0c.F (n:Nat) (a0:Int):Option Bool:=Q0c.e n a0
def Q0c.FA (n:Nat):Q0c.A→Option Q0c.T:=Q0c.E n
theorem Q0c.hands (n:Nat):∀ a p,Q0c.FA n a=some p→HandsIn Tryz.prog 138 (Q0c.i a) (Q0c.p p):=
 pf_hands (C:=Q0c.C n) (cut:=Q0c.cut) (Z:=Empty) (t:=nofun) (s:=nofun) (e:=fun _=>Q0c.E n) (r:=fun _ z=>nomatch z) (n:=n) cfg mixed globs rfl Q0c.qi (Q0c.tells n) Tryz.func138 (by kernel_rfl) (by kernel_rfl) (fun rec a=>by kernel_rfl) (fun rec z=>nomatch z)
def Q0c.via {R:Type} (n:Nat):List AV→(AV→Option R)→Option R:=viaK (Q0c.FA n) Q0c.o Q0c.p
theorem Q0c.tells1 {R:Type} (n:Nat) (xs:List AV):Tells1 (R:=R) Tryz.prog 138 xs (Q0c.via n xs):=tells_via Q0c.oi (fun a=>by kernel_rfl) (Q0c.hands n) xs
end Go.Proofs.YtnoldakbllfmnaaGreatDoor.Ev
namespace Go.Proofs.YtnoldakbllfmnaaGreatDoor.Ev
open Go Go.Proofs Go.Proofs.Ev
set_option linter.unusedVariables false
set_option maxRecDepth 100000
abbrev Q0a.A:=Int
abbrev Q0a.T:=Bool
def Q0a.i:Q0a.A→List AV:=fun a0=>[vu a0]
def Q0a.o (xs:List AV):Option Q0a.A:=match xs with | [.v (.int .u8 a0)]=>some a0 | _=>none
theorem Q0a.oi:∀ xs a,Q0a.o xs=some a→xs=Q0a.i a:=by
 intro xs a h
 unfold Q0a.o at h
 split at h
 ·cases h; rfl
 ·cases h
def Q0a.p (p:Q0a.T):AV:=vb p
def Q0a.q (x:AV):Option Q0a.T:=match x with | .v (.bool p0)=>some p0 | _=>none
theorem Q0a.qi:∀ x p,Q0a.q x=some p→x=Q0a.p p:=by
 intro x p h
 unfold Q0a.q at h
 split at h
 ·cases h; rfl
 ·cases h
def Q0a.C {R:Type} (n:Nat) (f:FuncId) (xs:List AV):(AV→Option R)→Option R:=
 fun _=>none
theorem Q0a.tells {R:Type} (n:Nat):Tells (R:=R) Tryz.prog (Q0a.C n):=fun _ xs=>Tells1.none
def Q0a.cut (r:Nat):Option Keep:=match r with  | _=>none
def Q0a.e (n:Nat) (a0:Int):Option Bool:=
 bif decide ((48:Int)≤a0) then (some (decide (a0≤57))) else (some false)
def Q0a.E (n:Nat):Q0a.A→Option Q0a.T:=fun a0=>Q0a.e n a0
def Q0a.F (n:Nat) (a0:Int):Option Bool:=Q0a.e n a0
def Q0a.FA (n:Nat):Q0a.A→Option Q0a.T:=Q0a.E n
theorem Q0a.hands (n:Nat):∀ a p,Q0a.FA n a=some p→HandsIn Tryz.prog 139 (Q0a.i a) (Q0a.p p):=
 pf_hands (C:=Q0a.C n) (cut:=Q0a.cut) (Z:=Empty) (t:=nofun) (s:=nofun) (e:=fun _=>Q0a.E n) (r:=fun _ z=>nomatch z) (n:=n) cfg mixed globs rfl Q0a.qi (Q0a.tells n) Tryz.func139 (by kernel_rfl) (by kernel_rfl) (fun rec a=>by kernel_rfl) (fun rec z=>nomatch z)
def Q0a.via {R:Type} (n:Nat):List AV→(AV→Option R)→Option R:=viaK (Q0a.FA n) Q0a.o Q0a.p
theorem Q0a.tells1 {R:Type} (n:Nat) (xs:List AV):Tells1 (R:=R) Tryz.prog 139 xs (Q0a.via n xs):=tells_via Q0a.oi (fun a=>by kernel_rfl) (Q0a.hands n) xs
end Go.Proofs.YtnoldakbllfmnaaGreatDoor.Ev
namespace Go.Proofs.YtnoldakbllfmnaaGreatDoor.Ev
open Go Go.Proofs Go.Proofs.Ev
set_option linter.unusedVariables false
set_option maxRecDepth 100000
abbrev Q0b.A:=ByteArray
abbrev Q0b.T:=Bool
def Q0b.i:Q0b.A→List AV:=fun a0=>[vs a0]
def Q0b.o (xs:List AV):Option Q0b.A:=match xs with | [.v (.string a0)]=>some a0 | _=>none
theorem Q0b.oi:∀ xs a,Q0b.o xs=some a→xs=Q0b.i a:=by
 intro xs a h
 unfold Q0b.o at h
 split at h
 ·cases h; rfl
 ·cases h
def Q0b.p (p:Q0b.T):AV:=vb p
def Q0b.q (x:AV):Option Q0b.T:=match x with | .v (.bool p0)=>some p0 | _=>none
theorem Q0b.qi:∀ x p,Q0b.q x=some p→x=Q0b.p p:=by
 intro x p h
 unfold Q0b.q at h
 split at h
 ·cases h; rfl
 ·cases h
inductive Q0b.Z where
 | z4 (z1:ByteArray) (z2:Int)
 | z5 (z1:ByteArray) (z2:Int)
 | z8 (z1:ByteArray) (z2 z3:Int) (z4:Bool)
def Q0b.C {R:Type} (n:Nat) (f:FuncId) (xs:List AV):(AV→Option R)→Option R:=
 bif Nat.beq f 27 then Q0i.via n xs else bif Nat.beq f 138 then Q0c.via n xs else bif Nat.beq f 139 then Q0a.via n xs else fun _=>none
theorem Q0b.tells {R:Type} (n:Nat):Tells (R:=R) Tryz.prog (Q0b.C n):=fun _ xs=>tells_at (Q0i.tells1 n xs) (tells_at (Q0c.tells1 n xs) (tells_at (Q0a.tells1 n xs) (Tells1.none)))
def Q0b.cut (r:Nat):Option Keep:=match r with | 4=>some ⟨[0,3],[]⟩ | 5=>some ⟨[0,3],[]⟩ | 8=>some ⟨[0,3,4,5],[]⟩ | _=>none
def Q0b.t (z:Q0b.Z):List Item:=(todoOf (match z with | .z4 _ _=>4 | .z5 _ _=>5 | .z8 _ _ _ _=>8) 1000 [.code (Tryz.f87.body.getD .skip)]).getD []
def Q0b.s:Q0b.Z→St
 | .z4 z1 z2=>⟨spr 52 0 [(0,vs z1),(3,vi z2)],Mem.ofList [],0⟩
 | .z5 z1 z2=>⟨spr 52 0 [(0,vs z1),(3,vi z2)],Mem.ofList [],0⟩
 | .z8 z1 z2 z3 z4=>⟨spr 52 0 [(0,vs z1),(3,vi z2),(4,vu z3),(5,vb z4)],Mem.ofList [],0⟩
def Q0b.r4 (n:Nat) (c:Q0b.Z→Option Bool) (z1:ByteArray) (z2:Int):Option Bool:=
 let y2:Bool:=decide (z2 < ((z1.size:Nat):Int))
 bif y2 then (bif decide ((0:Int)≤z2)&&decide (z2 < ((z1.size:Nat):Int)) then (let y3:Int:=(((z1.data.getD ((z2).toNat) 0).toNat:Nat):Int)
 (Q0c.F n y3).bind fun p4=>
 bif p4 then (c (.z8 z1 z2 y3 true)) else (bif y3==36 then (c (.z8 z1 z2 y3 true)) else (bif y3==35 then (c (.z8 z1 z2 y3 true)) else (c (.z8 z1 z2 y3 (y3==64)))))) else none) else (some true)
def Q0b.r5 (n:Nat) (c:Q0b.Z→Option Bool) (z1:ByteArray) (z2:Int):Option Bool:=
 c (.z4 z1 (IntKind.i64.wrap (z2+1)))
def Q0b.r8 (n:Nat) (c:Q0b.Z→Option Bool) (z1:ByteArray) (z2 z3:Int) (z4:Bool):Option Bool:=
 bif !z4 then (bif z2==0 then (some false) else ((Q0a.F n z3).bind fun p5=>
 bif !p5 then (bif z3 != 95 then (bif z3 != 46 then (some false) else (c (.z5 z1 z2))) else (c (.z5 z1 z2))) else (c (.z5 z1 z2)))) else (c (.z5 z1 z2))
def Q0b.r (n:Nat) (c:Q0b.Z→Option Bool):Q0b.Z→Option Bool
 | .z4 z1 z2=>Q0b.r4 n c z1 z2
 | .z5 z1 z2=>Q0b.r5 n c z1 z2
 | .z8 z1 z2 z3 z4=>Q0b.r8 n c z1 z2 z3 z4
def Q0b.e (n:Nat) (c:Q0b.Z→Option Bool) (a0:ByteArray):Option Bool:=
 (Q0i.F n ((a0.size:Nat):Int) 1 10).bind fun p1=>
 bif !p1 then (some false) else (c (.z4 a0 0))
def Q0b.E (n:Nat) (c:Q0b.Z→Option Bool):Q0b.A→Option Q0b.T:=fun a0=>Q0b.e n c a0
def Q0b.l (n:Nat):Nat→Q0b.Z→Option Bool:=loopL (Q0b.r n)
def Q0b.F (n:Nat) (a0:ByteArray):Option Bool:=Q0b.e n (Q0b.l n n) a0
def Q0b.FA (n:Nat):Q0b.A→Option Q0b.T:=Q0b.E n (Q0b.l n n)
theorem Q0b.hands (n:Nat):∀ a p,Q0b.FA n a=some p→HandsIn Tryz.prog 87 (Q0b.i a) (Q0b.p p):=
 pf_hands (C:=Q0b.C n) (cut:=Q0b.cut) (t:=Q0b.t) (s:=Q0b.s) (e:=Q0b.E n) (r:=Q0b.r n) (n:=n) cfg mixed globs rfl Q0b.qi (Q0b.tells n) Tryz.func87 (by kernel_rfl) (by kernel_rfl) (fun rec a=>by kernel_rfl) (fun rec z=>by cases z <;> kernel_rfl)
def Q0b.via {R:Type} (n:Nat):List AV→(AV→Option R)→Option R:=viaK (Q0b.FA n) Q0b.o Q0b.p
theorem Q0b.tells1 {R:Type} (n:Nat) (xs:List AV):Tells1 (R:=R) Tryz.prog 87 xs (Q0b.via n xs):=tells_via Q0b.oi (fun a=>by kernel_rfl) (Q0b.hands n) xs
end Go.Proofs.YtnoldakbllfmnaaGreatDoor.Ev
namespace Go.Proofs.YtnoldakbllfmnaaGreatDoor.Ev
open Go Go.Proofs Go.Proofs.Ev
set_option linter.unusedVariables false
set_option maxRecDepth 100000
abbrev Q1d.A:=ByteArray × Int × Int × Int × Int × Int × ByteArray × ByteArray × Int × Int
abbrev Q1d.T:=Bool
def Q1d.i:Q1d.A→List AV:=fun (a0,a1,a2,a3,a4,a5,a6,a7,a8,a9)=>[AV.agg [vs a0,vi a1,vi a2,vi a3,vi a4,vi a5,vs a6,vs a7,vi a8,vi a9]]
def Q1d.o (xs:List AV):Option Q1d.A:=match xs with | [.agg [.v (.string a0),.v (.int .i64 a1),.v (.int .i64 a2),.v (.int .i64 a3),.v (.int .i64 a4),.v (.int .i64 a5),.v (.string a6),.v (.string a7),.v (.int .i64 a8),.v (.int .i64 a9)]]=>some (a0,a1,a2,a3,a4,a5,a6,a7,a8,a9) | _=>none
theorem Q1d.oi:∀ xs a,Q1d.o xs=some a→xs=Q1d.i a:=by
 intro xs a h
 unfold Q1d.o at h
 split at h
 ·cases h; rfl
 ·cases h
def Q1d.p (p:Q1d.T):AV:=vb p
def Q1d.q (x:AV):Option Q1d.T:=match x with | .v (.bool p0)=>some p0 | _=>none
theorem Q1d.qi:∀ x p,Q1d.q x=some p→x=Q1d.p p:=by
 intro x p h
 unfold Q1d.q at h
 split at h
 ·cases h; rfl
 ·cases h
inductive Q1d.Z where
 | z5 (z1:Bool) (z2:ByteArray) (z3 z4 z5 z6 z7:Int) (z8 z9:ByteArray) (z10 z11:Int)
 | z8 (z1:Bool) (z2:ByteArray) (z3 z4 z5 z6 z7:Int) (z8 z9:ByteArray) (z10 z11:Int)
def Q1d.C {R:Type} (n:Nat) (f:FuncId) (xs:List AV):(AV→Option R)→Option R:=
 fun _=>none
theorem Q1d.tells {R:Type} (n:Nat):Tells (R:=R) Tryz.prog (Q1d.C n):=fun _ xs=>Tells1.none
def Q1d.cut (r:Nat):Option Keep:=match r with | 5=>some ⟨[1,4],[]⟩ | 8=>some ⟨[1,3],[]⟩ | _=>none
def Q1d.t (z:Q1d.Z):List Item:=(todoOf (match z with | .z5 _ _ _ _ _ _ _ _ _ _ _=>5 | .z8 _ _ _ _ _ _ _ _ _ _ _=>8) 1000 [.code (Tryz.f88.body.getD .skip)]).getD []
def Q1d.s:Q1d.Z→St
 | .z5 z1 z2 z3 z4 z5 z6 z7 z8 z9 z10 z11=>⟨spr 70 0 [(1,.ptr 0 0),(4,vb z1)],Mem.ofList [.box 74 [vs z2,vi z3,vi z4,vi z5,vi z6,vi z7,vs z8,vs z9,vi z10,vi z11]],1⟩
 | .z8 z1 z2 z3 z4 z5 z6 z7 z8 z9 z10 z11=>⟨spr 70 0 [(1,.ptr 0 0),(3,vb z1)],Mem.ofList [.box 74 [vs z2,vi z3,vi z4,vi z5,vi z6,vi z7,vs z8,vs z9,vi z10,vi z11]],1⟩
def Q1d.r5 (n:Nat) (c:Q1d.Z→Option Bool) (z1:Bool) (z2:ByteArray) (z3 z4 z5 z6 z7:Int) (z8 z9:ByteArray) (z10 z11:Int):Option Bool:=
 bif !z1 then (some true) else (some (z11 != 0))
def Q1d.r8 (n:Nat) (c:Q1d.Z→Option Bool) (z1:Bool) (z2:ByteArray) (z3 z4 z5 z6 z7:Int) (z8 z9:ByteArray) (z10 z11:Int):Option Bool:=
 bif !z1 then (some true) else (some (z11 != 0))
def Q1d.r (n:Nat) (c:Q1d.Z→Option Bool):Q1d.Z→Option Bool
 | .z5 z1 z2 z3 z4 z5 z6 z7 z8 z9 z10 z11=>Q1d.r5 n c z1 z2 z3 z4 z5 z6 z7 z8 z9 z10 z11
 | .z8 z1 z2 z3 z4 z5 z6 z7 z8 z9 z10 z11=>Q1d.r8 n c z1 z2 z3 z4 z5 z6 z7 z8 z9 z10 z11
def Q1d.e (n:Nat) (c:Q1d.Z→Option Bool) (a0:ByteArray) (a1 a2 a3 a4 a5:Int) (a6 a7:ByteArray) (a8 a9:Int):Option Bool:=
 let y1:Bool:=((a5==0)&&((a6==(⟨#[]⟩ : ByteArray))&&true))
 let y2:Bool:=a7.toList==(⟨#[]⟩ : ByteArray).toList
 bif y2 then (bif a1==0 then (c (.z5 (a8==0) a0 a1 a2 a3 a4 a5 a6 a7 a8 a9)) else (bif a1==4 then (c (.z5 (a8==0) a0 a1 a2 a3 a4 a5 a6 a7 a8 a9)) else (bif a1==1 then (c (.z8 y1 a0 a1 a2 a3 a4 a5 a6 a7 a8 a9)) else (bif a1==2 then (c (.z8 y1 a0 a1 a2 a3 a4 a5 a6 a7 a8 a9)) else (bif a1==3 then (let y3:Bool:=!((a2==0)&&((a3==0)&&((a4==0)&&true)))
 bif y3 then (some true) else (bif !y1 then (some true) else (bif !(a8==0) then (some true) else (some (a9 != 0))))) else (let y4:Bool:=!((a2==0)&&((a3==0)&&((a4==0)&&true)))
 bif y4 then (some true) else (bif !y1 then (some true) else (some (!(a8==0)))))))))) else (bif a1==0 then (c (.z5 false a0 a1 a2 a3 a4 a5 a6 a7 a8 a9)) else (bif a1==4 then (c (.z5 false a0 a1 a2 a3 a4 a5 a6 a7 a8 a9)) else (bif a1==1 then (c (.z8 y1 a0 a1 a2 a3 a4 a5 a6 a7 a8 a9)) else (bif a1==2 then (c (.z8 y1 a0 a1 a2 a3 a4 a5 a6 a7 a8 a9)) else (bif a1==3 then (let y5:Bool:=!((a2==0)&&((a3==0)&&((a4==0)&&true)))
 bif y5 then (some true) else (bif !y1 then (some true) else (some true))) else (let y6:Bool:=!((a2==0)&&((a3==0)&&((a4==0)&&true)))
 bif y6 then (some true) else (bif !y1 then (some true) else (some true))))))))
def Q1d.E (n:Nat) (c:Q1d.Z→Option Bool):Q1d.A→Option Q1d.T:=fun (a0,a1,a2,a3,a4,a5,a6,a7,a8,a9)=>Q1d.e n c a0 a1 a2 a3 a4 a5 a6 a7 a8 a9
def Q1d.l (n:Nat):Nat→Q1d.Z→Option Bool:=loopL (Q1d.r n)
def Q1d.F (n:Nat) (a0:ByteArray) (a1 a2 a3 a4 a5:Int) (a6 a7:ByteArray) (a8 a9:Int):Option Bool:=Q1d.e n (Q1d.l n n) a0 a1 a2 a3 a4 a5 a6 a7 a8 a9
def Q1d.FA (n:Nat):Q1d.A→Option Q1d.T:=Q1d.E n (Q1d.l n n)
theorem Q1d.hands (n:Nat):∀ a p,Q1d.FA n a=some p→HandsIn Tryz.prog 88 (Q1d.i a) (Q1d.p p):=
 pf_hands (C:=Q1d.C n) (cut:=Q1d.cut) (t:=Q1d.t) (s:=Q1d.s) (e:=Q1d.E n) (r:=Q1d.r n) (n:=n) cfg mixed globs rfl Q1d.qi (Q1d.tells n) Tryz.func88 (by kernel_rfl) (by kernel_rfl) (fun rec a=>by kernel_rfl) (fun rec z=>by cases z <;> kernel_rfl)
def Q1d.via {R:Type} (n:Nat):List AV→(AV→Option R)→Option R:=viaK (Q1d.FA n) Q1d.o Q1d.p
theorem Q1d.tells1 {R:Type} (n:Nat) (xs:List AV):Tells1 (R:=R) Tryz.prog 88 xs (Q1d.via n xs):=tells_via Q1d.oi (fun a=>by kernel_rfl) (Q1d.hands n) xs
end Go.Proofs.YtnoldakbllfmnaaGreatDoor.Ev
namespace Go.Proofs.YtnoldakbllfmnaaGreatDoor.Ev
open Go Go.Proofs Go.Proofs.Ev
set_option linter.unusedVariables false
set_option maxRecDepth 100000
abbrev Q16.A:=Int
abbrev Q16.T:=Bool
def Q16.i:Q16.A→List AV:=fun a0=>[vi a0]
def Q16.o (xs:List AV):Option Q16.A:=match xs with | [.v (.int .i64 a0)]=>some a0 | _=>none
theorem Q16.oi:∀ xs a,Q16.o xs=some a→xs=Q16.i a:=by
 intro xs a h
 unfold Q16.o at h
 split at h
 ·cases h; rfl
 ·cases h
def Q16.p (p:Q16.T):AV:=vb p
def Q16.q (x:AV):Option Q16.T:=match x with | .v (.bool p0)=>some p0 | _=>none
theorem Q16.qi:∀ x p,Q16.q x=some p→x=Q16.p p:=by
 intro x p h
 unfold Q16.q at h
 split at h
 ·cases h; rfl
 ·cases h
def Q16.C {R:Type} (n:Nat) (f:FuncId) (xs:List AV):(AV→Option R)→Option R:=
 fun _=>none
theorem Q16.tells {R:Type} (n:Nat):Tells (R:=R) Tryz.prog (Q16.C n):=fun _ xs=>Tells1.none
def Q16.cut (r:Nat):Option Keep:=match r with  | _=>none
def Q16.e (n:Nat) (a0:Int):Option Bool:=
 bif a0==0 then (some true) else (bif a0==1 then (some true) else (some (a0==2)))
def Q16.E (n:Nat):Q16.A→Option Q16.T:=fun a0=>Q16.e n a0
def Q16.F (n:Nat) (a0:Int):Option Bool:=Q16.e n a0
def Q16.FA (n:Nat):Q16.A→Option Q16.T:=Q16.E n
theorem Q16.hands (n:Nat):∀ a p,Q16.FA n a=some p→HandsIn Tryz.prog 93 (Q16.i a) (Q16.p p):=
 pf_hands (C:=Q16.C n) (cut:=Q16.cut) (Z:=Empty) (t:=nofun) (s:=nofun) (e:=fun _=>Q16.E n) (r:=fun _ z=>nomatch z) (n:=n) cfg mixed globs rfl Q16.qi (Q16.tells n) Tryz.func93 (by kernel_rfl) (by kernel_rfl) (fun rec a=>by kernel_rfl) (fun rec z=>nomatch z)
def Q16.via {R:Type} (n:Nat):List AV→(AV→Option R)→Option R:=viaK (Q16.FA n) Q16.o Q16.p
theorem Q16.tells1 {R:Type} (n:Nat) (xs:List AV):Tells1 (R:=R) Tryz.prog 93 xs (Q16.via n xs):=tells_via Q16.oi (fun a=>by kernel_rfl) (Q16.hands n) xs
end Go.Proofs.YtnoldakbllfmnaaGreatDoor.Ev
namespace Go.Proofs.YtnoldakbllfmnaaGreatDoor.Ev
open Go Go.Proofs Go.Proofs.Ev
set_option linter.unusedVariables false
set_option maxRecDepth 100000
abbrev Q15.A:=Int
abbrev Q15.T:=Bool
def Q15.i:Q15.A→List AV:=fun a0=>[vi a0]
def Q15.o (xs:List AV):Option Q15.A:=match xs with | [.v (.int .i64 a0)]=>some a0 | _=>none
theorem Q15.oi:∀ xs a,Q15.o xs=some a→xs=Q15.i a:=by
 intro xs a h
 unfold Q15.o at h
 split at h
 ·cases h; rfl
 ·cases h
def Q15.p (p:Q15.T):AV:=vb p
def Q15.q (x:AV):Option Q15.T:=match x with | .v (.bool p0)=>some p0 | _=>none
theorem Q15.qi:∀ x p,Q15.q x=some p→x=Q15.p p:=by
 intro x p h
 unfold Q15.q at h
 split at h
 ·cases h; rfl
 ·cases h
def Q15.C {R:Type} (n:Nat) (f:FuncId) (xs:List AV):(AV→Option R)→Option R:=
 bif Nat.beq f 93 then Q16.via n xs else fun _=>none
theorem Q15.tells {R:Type} (n:Nat):Tells (R:=R) Tryz.prog (Q15.C n):=fun _ xs=>tells_at (Q16.tells1 n xs) (Tells1.none)
def Q15.cut (r:Nat):Option Keep:=match r with  | _=>none
def Q15.e (n:Nat) (a0:Int):Option Bool:=
 (Q16.F n a0).bind fun p1=>
 bif p1 then (some true) else (some (a0==4))
def Q15.E (n:Nat):Q15.A→Option Q15.T:=fun a0=>Q15.e n a0
def Q15.F (n:Nat) (a0:Int):Option Bool:=Q15.e n a0
def Q15.FA (n:Nat):Q15.A→Option Q15.T:=Q15.E n
theorem Q15.hands (n:Nat):∀ a p,Q15.FA n a=some p→HandsIn Tryz.prog 89 (Q15.i a) (Q15.p p):=
 pf_hands (C:=Q15.C n) (cut:=Q15.cut) (Z:=Empty) (t:=nofun) (s:=nofun) (e:=fun _=>Q15.E n) (r:=fun _ z=>nomatch z) (n:=n) cfg mixed globs rfl Q15.qi (Q15.tells n) Tryz.func89 (by kernel_rfl) (by kernel_rfl) (fun rec a=>by kernel_rfl) (fun rec z=>nomatch z)
def Q15.via {R:Type} (n:Nat):List AV→(AV→Option R)→Option R:=viaK (Q15.FA n) Q15.o Q15.p
theorem Q15.tells1 {R:Type} (n:Nat) (xs:List AV):Tells1 (R:=R) Tryz.prog 89 xs (Q15.via n xs):=tells_via Q15.oi (fun a=>by kernel_rfl) (Q15.hands n) xs
end Go.Proofs.YtnoldakbllfmnaaGreatDoor.Ev
namespace Go.Proofs.YtnoldakbllfmnaaGreatDoor.Ev
open Go Go.Proofs Go.Proofs.Ev
set_option linter.unusedVariables false
set_option maxRecDepth 100000
abbrev Q0u.A:=Int
abbrev Q0u.T:=Bool
def Q0u.i:Q0u.A→List AV:=fun a0=>[vi a0]
def Q0u.o (xs:List AV):Option Q0u.A:=match xs with | [.v (.int .i64 a0)]=>some a0 | _=>none
theorem Q0u.oi:∀ xs a,Q0u.o xs=some a→xs=Q0u.i a:=by
 intro xs a h
 unfold Q0u.o at h
 split at h
 ·cases h; rfl
 ·cases h
def Q0u.p (p:Q0u.T):AV:=vb p
def Q0u.q (x:AV):Option Q0u.T:=match x with | .v (.bool p0)=>some p0 | _=>none
theorem Q0u.qi:∀ x p,Q0u.q x=some p→x=Q0u.p p:=by
 intro x p h
 unfold Q0u.q at h
 split at h
 ·cases h; rfl
 ·cases h
def Q0u.C {R:Type} (n:Nat) (f:FuncId) (xs:List AV):(AV→Option R)→Option R:=
 bif Nat.beq f 27 then Q0i.via n xs else fun _=>none
theorem Q0u.tells {R:Type} (n:Nat):Tells (R:=R) Tryz.prog (Q0u.C n):=fun _ xs=>tells_at (Q0i.tells1 n xs) (Tells1.none)
def Q0u.cut (r:Nat):Option Keep:=match r with  | _=>none
def Q0u.e (n:Nat) (a0:Int):Option Bool:=
 (Q0i.F n a0 1 3).bind fun p1=>
 some p1
def Q0u.E (n:Nat):Q0u.A→Option Q0u.T:=fun a0=>Q0u.e n a0
def Q0u.F (n:Nat) (a0:Int):Option Bool:=Q0u.e n a0
def Q0u.FA (n:Nat):Q0u.A→Option Q0u.T:=Q0u.E n
theorem Q0u.hands (n:Nat):∀ a p,Q0u.FA n a=some p→HandsIn Tryz.prog 140 (Q0u.i a) (Q0u.p p):=
 pf_hands (C:=Q0u.C n) (cut:=Q0u.cut) (Z:=Empty) (t:=nofun) (s:=nofun) (e:=fun _=>Q0u.E n) (r:=fun _ z=>nomatch z) (n:=n) cfg mixed globs rfl Q0u.qi (Q0u.tells n) Tryz.func140 (by kernel_rfl) (by kernel_rfl) (fun rec a=>by kernel_rfl) (fun rec z=>nomatch z)
def Q0u.via {R:Type} (n:Nat):List AV→(AV→Option R)→Option R:=viaK (Q0u.FA n) Q0u.o Q0u.p
theorem Q0u.tells1 {R:Type} (n:Nat) (xs:List AV):Tells1 (R:=R) Tryz.prog 140 xs (Q0u.via n xs):=tells_via Q0u.oi (fun a=>by kernel_rfl) (Q0u.hands n) xs
end Go.Proofs.YtnoldakbllfmnaaGreatDoor.Ev
namespace Go.Proofs.YtnoldakbllfmnaaGreatDoor.Ev
open Go Go.Proofs Go.Proofs.Ev
set_option linter.unusedVariables false
set_option maxRecDepth 100000
abbrev Q0x.A:=Int × Int × Int
abbrev Q0x.T:=Int
def Q0x.i:Q0x.A→List AV:=fun (a0,a1,a2)=>[AV.agg [vi a0,vi a1,vi a2]]
def Q0x.o (xs:List AV):Option Q0x.A:=match xs with | [.agg [.v (.int .i64 a0),.v (.int .i64 a1),.v (.int .i64 a2)]]=>some (a0,a1,a2) | _=>none
theorem Q0x.oi:∀ xs a,Q0x.o xs=some a→xs=Q0x.i a:=by
 intro xs a h
 unfold Q0x.o at h
 split at h
 ·cases h; rfl
 ·cases h
def Q0x.p (p:Q0x.T):AV:=vi p
def Q0x.q (x:AV):Option Q0x.T:=match x with | .v (.int .i64 p0)=>some p0 | _=>none
theorem Q0x.qi:∀ x p,Q0x.q x=some p→x=Q0x.p p:=by
 intro x p h
 unfold Q0x.q at h
 split at h
 ·cases h; rfl
 ·cases h
inductive Q0x.Z where
 | z12 (z1:Bool) (z2 z3 z4:Int)
def Q0x.C {R:Type} (n:Nat) (f:FuncId) (xs:List AV):(AV→Option R)→Option R:=
 bif Nat.beq f 27 then Q0i.via n xs else bif Nat.beq f 76 then Q06.via n xs else bif Nat.beq f 140 then Q0u.via n xs else fun _=>none
theorem Q0x.tells {R:Type} (n:Nat):Tells (R:=R) Tryz.prog (Q0x.C n):=fun _ xs=>tells_at (Q0i.tells1 n xs) (tells_at (Q06.tells1 n xs) (tells_at (Q0u.tells1 n xs) (Tells1.none)))
def Q0x.cut (r:Nat):Option Keep:=match r with | 12=>some ⟨[1,3],[]⟩ | _=>none
def Q0x.t (z:Q0x.Z):List Item:=(todoOf (match z with | .z12 _ _ _ _=>12) 1000 [.code (Tryz.f90.body.getD .skip)]).getD []
def Q0x.s:Q0x.Z→St
 | .z12 z1 z2 z3 z4=>⟨spr 49 0 [(1,.ptr 0 0),(3,vb z1)],Mem.ofList [.box 70 [vi z2,vi z3,vi z4]],1⟩
def Q0x.r12 (n:Nat) (c:Q0x.Z→Option Int) (z1:Bool) (z2 z3 z4:Int):Option Int:=
 bif !z1 then (some 18) else ((Q0u.F n z2).bind fun p5=>
 bif p5 then ((Q0i.F n z4 0 z3).bind fun p6=>
 (Q06.F n (!p6)).bind fun p7=>
 let y8:Int:=IntKind.i64.wrap ((3:Int)*p7)
 some y8) else ((Q0i.F n z4 0 0).bind fun p9=>
 (Q06.F n (!p9)).bind fun p10=>
 let y11:Int:=IntKind.i64.wrap ((3:Int)*p10)
 some y11))
def Q0x.r (n:Nat) (c:Q0x.Z→Option Int):Q0x.Z→Option Int
 | .z12 z1 z2 z3 z4=>Q0x.r12 n c z1 z2 z3 z4
def Q0x.e (n:Nat) (c:Q0x.Z→Option Int) (a0 a1 a2:Int):Option Int:=
 (Q0i.F n a0 0 4).bind fun p1=>
 bif !p1 then (some 4) else (bif a0==0 then ((Q0i.F n a1 1 256).bind fun p2=>
 c (.z12 p2 a0 a1 a2)) else (bif a0==1 then ((Q0i.F n a1 1 15).bind fun p3=>
 c (.z12 p3 a0 a1 a2)) else (bif a0==2 then ((Q0i.F n a1 1 15).bind fun p4=>
 c (.z12 p4 a0 a1 a2)) else (bif a0==3 then (bif a1==4 then (c (.z12 true a0 a1 a2)) else (c (.z12 (a1==9) a0 a1 a2))) else (c (.z12 (a1==0) a0 a1 a2))))))
def Q0x.E (n:Nat) (c:Q0x.Z→Option Int):Q0x.A→Option Q0x.T:=fun (a0,a1,a2)=>Q0x.e n c a0 a1 a2
def Q0x.l (n:Nat):Nat→Q0x.Z→Option Int:=loopL (Q0x.r n)
def Q0x.F (n:Nat) (a0 a1 a2:Int):Option Int:=Q0x.e n (Q0x.l n n) a0 a1 a2
def Q0x.FA (n:Nat):Q0x.A→Option Q0x.T:=Q0x.E n (Q0x.l n n)
theorem Q0x.hands (n:Nat):∀ a p,Q0x.FA n a=some p→HandsIn Tryz.prog 90 (Q0x.i a) (Q0x.p p):=
 pf_hands (C:=Q0x.C n) (cut:=Q0x.cut) (t:=Q0x.t) (s:=Q0x.s) (e:=Q0x.E n) (r:=Q0x.r n) (n:=n) cfg mixed globs rfl Q0x.qi (Q0x.tells n) Tryz.func90 (by kernel_rfl) (by kernel_rfl) (fun rec a=>by kernel_rfl) (fun rec z=>by cases z <;> kernel_rfl)
def Q0x.via {R:Type} (n:Nat):List AV→(AV→Option R)→Option R:=viaK (Q0x.FA n) Q0x.o Q0x.p
theorem Q0x.tells1 {R:Type} (n:Nat) (xs:List AV):Tells1 (R:=R) Tryz.prog 90 xs (Q0x.via n xs):=tells_via Q0x.oi (fun a=>by kernel_rfl) (Q0x.hands n) xs
end Go.Proofs.YtnoldakbllfmnaaGreatDoor.Ev
namespace Go.Proofs.YtnoldakbllfmnaaGreatDoor.Ev
open Go Go.Proofs Go.Proofs.Ev
set_option linter.unusedVariables false
set_option maxRecDepth 100000
abbrev Q0e.A:=Int
abbrev Q0e.T:=Int
def Q0e.i:Q0e.A→List AV:=fun a0=>[vi a0]
def Q0e.o (xs:List AV):Option Q0e.A:=match xs with | [.v (.int .i64 a0)]=>some a0 | _=>none
theorem Q0e.oi:∀ xs a,Q0e.o xs=some a→xs=Q0e.i a:=by
 intro xs a h
 unfold Q0e.o at h
 split at h
 ·cases h; rfl
 ·cases h
def Q0e.p (p:Q0e.T):AV:=vi p
def Q0e.q (x:AV):Option Q0e.T:=match x with | .v (.int .i64 p0)=>some p0 | _=>none
theorem Q0e.qi:∀ x p,Q0e.q x=some p→x=Q0e.p p:=by
 intro x p h
 unfold Q0e.q at h
 split at h
 ·cases h; rfl
 ·cases h
inductive Q0e.Z where
 | z3 (z1 z2 z3:Int)
def Q0e.C {R:Type} (n:Nat) (f:FuncId) (xs:List AV):(AV→Option R)→Option R:=
 fun _=>none
theorem Q0e.tells {R:Type} (n:Nat):Tells (R:=R) Tryz.prog (Q0e.C n):=fun _ xs=>Tells1.none
def Q0e.cut (r:Nat):Option Keep:=match r with | 3=>some ⟨[0,3,4],[]⟩ | _=>none
def Q0e.t (z:Q0e.Z):List Item:=(todoOf (match z with | .z3 _ _ _=>3) 1000 [.code (Tryz.f172.body.getD .skip)]).getD []
def Q0e.s:Q0e.Z→St
 | .z3 z1 z2 z3=>⟨spr 13 0 [(0,vi z1),(3,vi z2),(4,vi z3)],Mem.ofList [],0⟩
def Q0e.r3 (n:Nat) (c:Q0e.Z→Option Int) (z1 z2 z3:Int):Option Int:=
 bif decide (z3 < z1) then (c (.z3 z1 (IntKind.i64.wrap (z2*10)) (IntKind.i64.wrap (z3+1)))) else (some z2)
def Q0e.r (n:Nat) (c:Q0e.Z→Option Int):Q0e.Z→Option Int
 | .z3 z1 z2 z3=>Q0e.r3 n c z1 z2 z3
def Q0e.e (n:Nat) (c:Q0e.Z→Option Int) (a0:Int):Option Int:=
 c (.z3 a0 1 0)
def Q0e.E (n:Nat) (c:Q0e.Z→Option Int):Q0e.A→Option Q0e.T:=fun a0=>Q0e.e n c a0
def Q0e.l (n:Nat):Nat→Q0e.Z→Option Int:=loopL (Q0e.r n)
def Q0e.F (n:Nat) (a0:Int):Option Int:=Q0e.e n (Q0e.l n n) a0
def Q0e.FA (n:Nat):Q0e.A→Option Q0e.T:=Q0e.E n (Q0e.l n n)
theorem Q0e.hands (n:Nat):∀ a p,Q0e.FA n a=some p→HandsIn Tryz.prog 172 (Q0e.i a) (Q0e.p p):=
 pf_hands (C:=Q0e.C n) (cut:=Q0e.cut) (t:=Q0e.t) (s:=Q0e.s) (e:=Q0e.E n) (r:=Q0e.r n) (n:=n) cfg mixed globs rfl Q0e.qi (Q0e.tells n) Tryz.func172 (by kernel_rfl) (by kernel_rfl) (fun rec a=>by kernel_rfl) (fun rec z=>by cases z <;> kernel_rfl)
def Q0e.via {R:Type} (n:Nat):List AV→(AV→Option R)→Option R:=viaK (Q0e.FA n) Q0e.o Q0e.p
theorem Q0e.tells1 {R:Type} (n:Nat) (xs:List AV):Tells1 (R:=R) Tryz.prog 172 xs (Q0e.via n xs):=tells_via Q0e.oi (fun a=>by kernel_rfl) (Q0e.hands n) xs
end Go.Proofs.YtnoldakbllfmnaaGreatDoor.Ev
namespace Go.Proofs.YtnoldakbllfmnaaGreatDoor.Ev
open Go Go.Proofs Go.Proofs.Ev
set_option linter.unusedVariables false
set_option maxRecDepth 100000
abbrev Q0v.A:=Int × Int × Int
abbrev Q0v.T:=Int
def Q0v.i:Q0v.A→List AV:=fun (a0,a1,a2)=>[AV.agg [vi a0,vi a1,vi a2]]
def Q0v.o (xs:List AV):Option Q0v.A:=match xs with | [.agg [.v (.int .i64 a0),.v (.int .i64 a1),.v (.int .i64 a2)]]=>some (a0,a1,a2) | _=>none
theorem Q0v.oi:∀ xs a,Q0v.o xs=some a→xs=Q0v.i a:=by
 intro xs a h
 unfold Q0v.o at h
 split at h
 ·cases h; rfl
 ·cases h
def Q0v.p (p:Q0v.T):AV:=vi p
def Q0v.q (x:AV):Option Q0v.T:=match x with | .v (.int .i64 p0)=>some p0 | _=>none
theorem Q0v.qi:∀ x p,Q0v.q x=some p→x=Q0v.p p:=by
 intro x p h
 unfold Q0v.q at h
 split at h
 ·cases h; rfl
 ·cases h
def Q0v.C {R:Type} (n:Nat) (f:FuncId) (xs:List AV):(AV→Option R)→Option R:=
 bif Nat.beq f 172 then Q0e.via n xs else fun _=>none
theorem Q0v.tells {R:Type} (n:Nat):Tells (R:=R) Tryz.prog (Q0v.C n):=fun _ xs=>tells_at (Q0e.tells1 n xs) (Tells1.none)
def Q0v.cut (r:Nat):Option Keep:=match r with  | _=>none
def Q0v.e (n:Nat) (a0 a1 a2:Int):Option Int:=
 (Q0e.F n a1).bind fun p1=>
 some (IntKind.i64.wrap (p1 - 1))
def Q0v.E (n:Nat):Q0v.A→Option Q0v.T:=fun (a0,a1,a2)=>Q0v.e n a0 a1 a2
def Q0v.F (n:Nat) (a0 a1 a2:Int):Option Int:=Q0v.e n a0 a1 a2
def Q0v.FA (n:Nat):Q0v.A→Option Q0v.T:=Q0v.E n
theorem Q0v.hands (n:Nat):∀ a p,Q0v.FA n a=some p→HandsIn Tryz.prog 141 (Q0v.i a) (Q0v.p p):=
 pf_hands (C:=Q0v.C n) (cut:=Q0v.cut) (Z:=Empty) (t:=nofun) (s:=nofun) (e:=fun _=>Q0v.E n) (r:=fun _ z=>nomatch z) (n:=n) cfg mixed globs rfl Q0v.qi (Q0v.tells n) Tryz.func141 (by kernel_rfl) (by kernel_rfl) (fun rec a=>by kernel_rfl) (fun rec z=>nomatch z)
def Q0v.via {R:Type} (n:Nat):List AV→(AV→Option R)→Option R:=viaK (Q0v.FA n) Q0v.o Q0v.p
theorem Q0v.tells1 {R:Type} (n:Nat) (xs:List AV):Tells1 (R:=R) Tryz.prog 141 xs (Q0v.via n xs):=tells_via Q0v.oi (fun a=>by kernel_rfl) (Q0v.hands n) xs
end Go.Proofs.YtnoldakbllfmnaaGreatDoor.Ev
namespace Go.Proofs.YtnoldakbllfmnaaGreatDoor.Ev
open Go Go.Proofs Go.Proofs.Ev
set_option linter.unusedVariables false
set_option maxRecDepth 100000
abbrev Q0y.A:=Int × Int × Int × Int × ByteArray
abbrev Q0y.T:=Int
def Q0y.i:Q0y.A→List AV:=fun (a0,a1,a2,a3,a4)=>[AV.agg [vi a0,vi a1,vi a2],AV.agg [vi a3,vs a4]]
def Q0y.o (xs:List AV):Option Q0y.A:=match xs with | [.agg [.v (.int .i64 a0),.v (.int .i64 a1),.v (.int .i64 a2)],.agg [.v (.int .i64 a3),.v (.string a4)]]=>some (a0,a1,a2,a3,a4) | _=>none
theorem Q0y.oi:∀ xs a,Q0y.o xs=some a→xs=Q0y.i a:=by
 intro xs a h
 unfold Q0y.o at h
 split at h
 ·cases h; rfl
 ·cases h
def Q0y.p (p:Q0y.T):AV:=vi p
def Q0y.q (x:AV):Option Q0y.T:=match x with | .v (.int .i64 p0)=>some p0 | _=>none
theorem Q0y.qi:∀ x p,Q0y.q x=some p→x=Q0y.p p:=by
 intro x p h
 unfold Q0y.q at h
 split at h
 ·cases h; rfl
 ·cases h
inductive Q0y.Z where
 | z7
 | z8 (z1 z2 z3 z4:Int) (z5:ByteArray)
def Q0y.C {R:Type} (n:Nat) (f:FuncId) (xs:List AV):(AV→Option R)→Option R:=
 bif Nat.beq f 27 then Q0i.via n xs else bif Nat.beq f 76 then Q06.via n xs else bif Nat.beq f 90 then Q0x.via n xs else bif Nat.beq f 141 then Q0v.via n xs else fun _=>none
theorem Q0y.tells {R:Type} (n:Nat):Tells (R:=R) Tryz.prog (Q0y.C n):=fun _ xs=>tells_at (Q0i.tells1 n xs) (tells_at (Q06.tells1 n xs) (tells_at (Q0x.tells1 n xs) (tells_at (Q0v.tells1 n xs) (Tells1.none))))
def Q0y.cut (r:Nat):Option Keep:=match r with | 7=>some ⟨[],[]⟩ | 8=>some ⟨[2,3],[]⟩ | _=>none
def Q0y.t (z:Q0y.Z):List Item:=(todoOf (match z with | .z7=>7 | .z8 _ _ _ _ _=>8) 1000 [.code (Tryz.f91.body.getD .skip)]).getD []
def Q0y.s:Q0y.Z→St
 | .z7=>⟨spr 54 0 [],Mem.ofList [],0⟩
 | .z8 z1 z2 z3 z4 z5=>⟨spr 54 0 [(2,.ptr 0 0),(3,.ptr 1 0)],Mem.ofList [.box 70 [vi z1,vi z2,vi z3],.box 72 [vi z4,vs z5]],2⟩
def Q0y.r7 (n:Nat) (c:Q0y.Z→Option Int)  : Option Int:=
 some 5
def Q0y.r8 (n:Nat) (c:Q0y.Z→Option Int) (z1 z2 z3 z4:Int) (z5:ByteArray):Option Int:=
 bif z1==0 then (let y4:Bool:=((z5.size:Nat):Int) != z2
 (Q06.F n y4).bind fun p5=>
 let y6:Int:=IntKind.i64.wrap ((18:Int)*p5)
 some y6) else ((Q0v.F n z1 z2 z3).bind fun p7=>
 (Q0v.F n z1 z2 z3).bind fun p8=>
 (Q0i.F n z4 (IntKind.i64.wrap (0 - p7)) p8).bind fun p9=>
 (Q06.F n (!p9)).bind fun p10=>
 let y11:Int:=IntKind.i64.wrap ((19:Int)*p10)
 some y11)
def Q0y.r (n:Nat) (c:Q0y.Z→Option Int):Q0y.Z→Option Int
 | .z7=>Q0y.r7 n c
 | .z8 z1 z2 z3 z4 z5=>Q0y.r8 n c z1 z2 z3 z4 z5
def Q0y.e (n:Nat) (c:Q0y.Z→Option Int) (a0 a1 a2 a3:Int) (a4:ByteArray):Option Int:=
 (Q0x.F n a0 a1 a2).bind fun p1=>
 bif p1 != 0 then (some p1) else (bif a0==4 then (some 17) else (bif a0==0 then (bif a3 != 0 then (c .z7) else (bif a0 != 0 then (let y2:Bool:=!(a4.toList==(⟨#[]⟩ : ByteArray).toList)
 bif y2 then (c .z7) else (c (.z8 a0 a1 a2 a3 a4))) else (c (.z8 a0 a1 a2 a3 a4)))) else (bif a0 != 0 then (let y3:Bool:=!(a4.toList==(⟨#[]⟩ : ByteArray).toList)
 bif y3 then (c .z7) else (c (.z8 a0 a1 a2 a3 a4))) else (c (.z8 a0 a1 a2 a3 a4)))))
def Q0y.E (n:Nat) (c:Q0y.Z→Option Int):Q0y.A→Option Q0y.T:=fun (a0,a1,a2,a3,a4)=>Q0y.e n c a0 a1 a2 a3 a4
def Q0y.l (n:Nat):Nat→Q0y.Z→Option Int:=loopL (Q0y.r n)
def Q0y.F (n:Nat) (a0 a1 a2 a3:Int) (a4:ByteArray):Option Int:=Q0y.e n (Q0y.l n n) a0 a1 a2 a3 a4
def Q0y.FA (n:Nat):Q0y.A→Option Q0y.T:=Q0y.E n (Q0y.l n n)
theorem Q0y.hands (n:Nat):∀ a p,Q0y.FA n a=some p→HandsIn Tryz.prog 91 (Q0y.i a) (Q0y.p p):=
 pf_hands (C:=Q0y.C n) (cut:=Q0y.cut) (t:=Q0y.t) (s:=Q0y.s) (e:=Q0y.E n) (r:=Q0y.r n) (n:=n) cfg mixed globs rfl Q0y.qi (Q0y.tells n) Tryz.func91 (by kernel_rfl) (by kernel_rfl) (fun rec a=>by kernel_rfl) (fun rec z=>by cases z <;> kernel_rfl)
def Q0y.via {R:Type} (n:Nat):List AV→(AV→Option R)→Option R:=viaK (Q0y.FA n) Q0y.o Q0y.p
theorem Q0y.tells1 {R:Type} (n:Nat) (xs:List AV):Tells1 (R:=R) Tryz.prog 91 xs (Q0y.via n xs):=tells_via Q0y.oi (fun a=>by kernel_rfl) (Q0y.hands n) xs
end Go.Proofs.YtnoldakbllfmnaaGreatDoor.Ev
namespace Go.Proofs.YtnoldakbllfmnaaGreatDoor.Ev
open Go Go.Proofs Go.Proofs.Ev
set_option linter.unusedVariables false
set_option maxRecDepth 100000
abbrev Q1j.A:=List AV × List AV × List AV × Int
abbrev Q1j.T:=Int
def Q1j.i:Q1j.A→List AV:=fun (a0,a1,a2,a3)=>[AV.agg [.sl ⟨true,74,false⟩ 10 a0,.sl ⟨false,86,false⟩ 2 a1,.sl ⟨true,82,false⟩ 4 a2],vi a3]
def Q1j.o (xs:List AV):Option Q1j.A:=match xs with | [.agg [.sl ⟨true,74,false⟩ 10 a0,.sl ⟨false,86,false⟩ 2 a1,.sl ⟨true,82,false⟩ 4 a2],.v (.int .i64 a3)]=>some (a0,a1,a2,a3) | _=>none
theorem Q1j.oi:∀ xs a,Q1j.o xs=some a→xs=Q1j.i a:=by
 intro xs a h
 unfold Q1j.o at h
 split at h
 ·cases h; rfl
 ·cases h
def Q1j.p (p:Q1j.T):AV:=vi p
def Q1j.q (x:AV):Option Q1j.T:=match x with | .v (.int .i64 p0)=>some p0 | _=>none
theorem Q1j.qi:∀ x p,Q1j.q x=some p→x=Q1j.p p:=by
 intro x p h
 unfold Q1j.q at h
 split at h
 ·cases h; rfl
 ·cases h
inductive Q1j.Z where
 | z20 (z1:ByteArray) (z2 z3 z4 z5 z6:Int) (z7 z8:ByteArray) (z9 z10:Int)
 | z23 (z1 z2:Int) (z3 z4 z5:List AV) (z6:ByteArray) (z7 z8 z9 z10 z11:Int) (z12 z13:ByteArray) (z14 z15:Int)
 | z27
 | z28 (z1:ByteArray) (z2 z3 z4 z5 z6:Int) (z7 z8:ByteArray) (z9 z10:Int) (z11:ByteArray) (z12 z13 z14 z15 z16:Int) (z17 z18:ByteArray) (z19 z20:Int)
 | z36
def Q1j.C {R:Type} (n:Nat) (f:FuncId) (xs:List AV):(AV→Option R)→Option R:=
 bif Nat.beq f 26 then Q10.via n xs else bif Nat.beq f 27 then Q0i.via n xs else bif Nat.beq f 35 then Q0h.via n xs else bif Nat.beq f 87 then Q0b.via n xs else bif Nat.beq f 88 then Q1d.via n xs else bif Nat.beq f 89 then Q15.via n xs else bif Nat.beq f 90 then Q0x.via n xs else bif Nat.beq f 91 then Q0y.via n xs else fun _=>none
theorem Q1j.tells {R:Type} (n:Nat):Tells (R:=R) Tryz.prog (Q1j.C n):=fun _ xs=>tells_at (Q10.tells1 n xs) (tells_at (Q0i.tells1 n xs) (tells_at (Q0h.tells1 n xs) (tells_at (Q0b.tells1 n xs) (tells_at (Q1d.tells1 n xs) (tells_at (Q15.tells1 n xs) (tells_at (Q0x.tells1 n xs) (tells_at (Q0y.tells1 n xs) (Tells1.none))))))))
def Q1j.cut (r:Nat):Option Keep:=match r with | 20=>some ⟨[5],[]⟩ | 23=>some ⟨[1,2,5,7],[]⟩ | 27=>some ⟨[],[]⟩ | 28=>some ⟨[5,8],[]⟩ | 36=>some ⟨[],[]⟩ | _=>none
def Q1j.t (z:Q1j.Z):List Item:=(todoOf (match z with | .z20 _ _ _ _ _ _ _ _ _ _=>20 | .z23 _ _ _ _ _ _ _ _ _ _ _ _ _ _ _=>23 | .z27=>27 | .z28 _ _ _ _ _ _ _ _ _ _ _ _ _ _ _ _ _ _ _ _=>28 | .z36=>36) 1000 [.code (Tryz.f50.body.getD .skip)]).getD []
def Q1j.s:Q1j.Z→St
 | .z20 z1 z2 z3 z4 z5 z6 z7 z8 z9 z10=>⟨spr 120 0 [(5,.ptr 0 0)],Mem.ofList [.box 74 [vs z1,vi z2,vi z3,vi z4,vi z5,vi z6,vs z7,vs z8,vi z9,vi z10]],1⟩
 | .z23 z1 z2 z3 z4 z5 z6 z7 z8 z9 z10 z11 z12 z13 z14 z15=>⟨spr 120 0 [(1,vi z1),(2,.ptr 0 0),(5,.ptr 1 0),(7,vi z2)],Mem.ofList [.box 26 [.sl ⟨true,74,false⟩ 10 z3,.sl ⟨false,86,false⟩ 2 z4,.sl ⟨true,82,false⟩ 4 z5],.box 74 [vs z6,vi z7,vi z8,vi z9,vi z10,vi z11,vs z12,vs z13,vi z14,vi z15]],2⟩
 | .z27=>⟨spr 120 0 [],Mem.ofList [],0⟩
 | .z28 z1 z2 z3 z4 z5 z6 z7 z8 z9 z10 z11 z12 z13 z14 z15 z16 z17 z18 z19 z20=>⟨spr 120 0 [(5,.ptr 0 0),(8,.ptr 1 0)],Mem.ofList [.box 74 [vs z1,vi z2,vi z3,vi z4,vi z5,vi z6,vs z7,vs z8,vi z9,vi z10],.box 74 [vs z11,vi z12,vi z13,vi z14,vi z15,vi z16,vs z17,vs z18,vi z19,vi z20]],2⟩
 | .z36=>⟨spr 120 0 [],Mem.ofList [],0⟩
def Q1j.r20 (n:Nat) (c:Q1j.Z→Option Int) (z1:ByteArray) (z2 z3 z4 z5 z6:Int) (z7 z8:ByteArray) (z9 z10:Int):Option Int:=
 (Q0y.F n z3 z4 z5 z6 z7).bind fun p43=>
 some p43
def Q1j.r23 (n:Nat) (c:Q1j.Z→Option Int) (z1 z2:Int) (z3 z4 z5:List AV) (z6:ByteArray) (z7 z8 z9 z10 z11:Int) (z12 z13:ByteArray) (z14 z15:Int):Option Int:=
 bif z2==(-1) then (some 11) else (bif decide (z2≥z1) then (some 11) else (bif decide ((0:Int)≤z2)&&decide (z2 < ((z3.length:Nat):Int)) then (withCons ((z3.getD ((z2).toNat) .undef).cells) fun h44 r45=>
 withStr h44 fun s46=>
 withCons r45 fun h47 r48=>
 withInt .i64 h47 fun x49=>
 withCons r48 fun h50 r51=>
 withInt .i64 h50 fun x52=>
 withCons r51 fun h53 r54=>
 withInt .i64 h53 fun x55=>
 withCons r54 fun h56 r57=>
 withInt .i64 h56 fun x58=>
 withCons r57 fun h59 r60=>
 withInt .i64 h59 fun x61=>
 withCons r60 fun h62 r63=>
 withStr h62 fun s64=>
 withCons r63 fun h65 r66=>
 withStr h65 fun s67=>
 withCons r66 fun h68 r69=>
 withInt .i64 h68 fun x70=>
 withCons r69 fun h71 r72=>
 withInt .i64 h71 fun x73=>
 bif z7==1 then (bif x49 != 0 then (c .z27) else (bif z7==2 then (bif x49 != 3 then (c .z27) else (c (.z28 z6 z7 z8 z9 z10 z11 z12 z13 z14 z15 s46 x49 x52 x55 x58 x61 s64 s67 x70 x73))) else (c (.z28 z6 z7 z8 z9 z10 z11 z12 z13 z14 z15 s46 x49 x52 x55 x58 x61 s64 s67 x70 x73)))) else (bif z7==2 then (bif x49 != 3 then (c .z27) else (c (.z28 z6 z7 z8 z9 z10 z11 z12 z13 z14 z15 s46 x49 x52 x55 x58 x61 s64 s67 x70 x73))) else (c (.z28 z6 z7 z8 z9 z10 z11 z12 z13 z14 z15 s46 x49 x52 x55 x58 x61 s64 s67 x70 x73)))) else none))
def Q1j.r27 (n:Nat) (c:Q1j.Z→Option Int)  : Option Int:=
 some 17
def Q1j.r28 (n:Nat) (c:Q1j.Z→Option Int) (z1:ByteArray) (z2 z3 z4 z5 z6:Int) (z7 z8:ByteArray) (z9 z10:Int) (z11:ByteArray) (z12 z13 z14 z15 z16:Int) (z17 z18:ByteArray) (z19 z20:Int):Option Int:=
 bif z2==1 then ((Q0h.F n z13 z14 z15).bind fun p74=>
 (Q0h.F n z3 z4 z5).bind fun p75=>
 (Q0i.F n z9 0 (IntKind.i64.wrap (p74 - p75))).bind fun p76=>
 bif !p76 then (some 3) else (c .z36)) else ((Q0i.F n z9 0 256).bind fun p77=>
 bif !p77 then (some 3) else (c .z36))
def Q1j.r36 (n:Nat) (c:Q1j.Z→Option Int)  : Option Int:=
 some 0
def Q1j.r (n:Nat) (c:Q1j.Z→Option Int):Q1j.Z→Option Int
 | .z20 z1 z2 z3 z4 z5 z6 z7 z8 z9 z10=>Q1j.r20 n c z1 z2 z3 z4 z5 z6 z7 z8 z9 z10
 | .z23 z1 z2 z3 z4 z5 z6 z7 z8 z9 z10 z11 z12 z13 z14 z15=>Q1j.r23 n c z1 z2 z3 z4 z5 z6 z7 z8 z9 z10 z11 z12 z13 z14 z15
 | .z27=>Q1j.r27 n c
 | .z28 z1 z2 z3 z4 z5 z6 z7 z8 z9 z10 z11 z12 z13 z14 z15 z16 z17 z18 z19 z20=>Q1j.r28 n c z1 z2 z3 z4 z5 z6 z7 z8 z9 z10 z11 z12 z13 z14 z15 z16 z17 z18 z19 z20
 | .z36=>Q1j.r36 n c
def Q1j.e (n:Nat) (c:Q1j.Z→Option Int) (a0 a1 a2:List AV) (a3:Int):Option Int:=
 bif decide ((0:Int)≤a3)&&decide (a3 < ((a0.length:Nat):Int)) then (withCons ((a0.getD ((a3).toNat) .undef).cells) fun h1 r2=>
 withStr h1 fun s3=>
 withCons r2 fun h4 r5=>
 withInt .i64 h4 fun x6=>
 withCons r5 fun h7 r8=>
 withInt .i64 h7 fun x9=>
 withCons r8 fun h10 r11=>
 withInt .i64 h10 fun x12=>
 withCons r11 fun h13 r14=>
 withInt .i64 h13 fun x15=>
 withCons r14 fun h16 r17=>
 withInt .i64 h16 fun x18=>
 withCons r17 fun h19 r20=>
 withStr h19 fun s21=>
 withCons r20 fun h22 r23=>
 withStr h22 fun s24=>
 withCons r23 fun h25 r26=>
 withInt .i64 h25 fun x27=>
 withCons r26 fun h28 r29=>
 withInt .i64 h28 fun x30=>
 (Q0b.F n s3).bind fun p31=>
 bif !p31 then (some 7) else ((Q10.F n a0 a1 a2 s3).bind fun p32=>
 bif decide (p32 < a3) then (some 13) else ((Q0i.F n x6 0 5).bind fun p33=>
 bif !p33 then (some 4) else ((Q1d.F n s3 x6 x9 x12 x15 x18 s21 s24 x27 x30).bind fun p34=>
 bif p34 then (some 5) else ((Q15.F n x6).bind fun p35=>
 bif p35 then ((Q0x.F n x9 x12 x15).bind fun p36=>
 bif p36 != 0 then (some p36) else (bif x9==4 then (some 17) else ((Q10.F n a0 a1 a2 s24).bind fun p37=>
 bif x6==0 then (c (.z20 s3 x6 x9 x12 x15 x18 s21 s24 x27 x30)) else (bif x6==4 then (c (.z20 s3 x6 x9 x12 x15 x18 s21 s24 x27 x30)) else (bif x6==1 then (c (.z23 a3 p37 a0 a1 a2 s3 x6 x9 x12 x15 x18 s21 s24 x27 x30)) else (bif x6==2 then (c (.z23 a3 p37 a0 a1 a2 s3 x6 x9 x12 x15 x18 s21 s24 x27 x30)) else (bif x6==5 then (let y38:Int:=IntKind.i64.wrap (((a1.length:Nat):Int) - 1)
 (Q0i.F n x30 0 y38).bind fun p39=>
 bif !p39 then (some 3) else (c .z36)) else (c .z36)))))))) else ((Q10.F n a0 a1 a2 s24).bind fun p40=>
 bif x6==0 then (c (.z20 s3 x6 x9 x12 x15 x18 s21 s24 x27 x30)) else (bif x6==4 then (c (.z20 s3 x6 x9 x12 x15 x18 s21 s24 x27 x30)) else (bif x6==1 then (c (.z23 a3 p40 a0 a1 a2 s3 x6 x9 x12 x15 x18 s21 s24 x27 x30)) else (bif x6==2 then (c (.z23 a3 p40 a0 a1 a2 s3 x6 x9 x12 x15 x18 s21 s24 x27 x30)) else (bif x6==5 then (let y41:Int:=IntKind.i64.wrap (((a1.length:Nat):Int) - 1)
 (Q0i.F n x30 0 y41).bind fun p42=>
 bif !p42 then (some 3) else (c .z36)) else (c .z36))))))))))) else none
def Q1j.E (n:Nat) (c:Q1j.Z→Option Int):Q1j.A→Option Q1j.T:=fun (a0,a1,a2,a3)=>Q1j.e n c a0 a1 a2 a3
def Q1j.l (n:Nat):Nat→Q1j.Z→Option Int:=loopL (Q1j.r n)
def Q1j.F (n:Nat) (a0 a1 a2:List AV) (a3:Int):Option Int:=Q1j.e n (Q1j.l n n) a0 a1 a2 a3
def Q1j.FA (n:Nat):Q1j.A→Option Q1j.T:=Q1j.E n (Q1j.l n n)
theorem Q1j.hands (n:Nat):∀ a p,Q1j.FA n a=some p→HandsIn Tryz.prog 50 (Q1j.i a) (Q1j.p p):=
 pf_hands (C:=Q1j.C n) (cut:=Q1j.cut) (t:=Q1j.t) (s:=Q1j.s) (e:=Q1j.E n) (r:=Q1j.r n) (n:=n) cfg mixed globs rfl Q1j.qi (Q1j.tells n) Tryz.func50 (by kernel_rfl) (by kernel_rfl) (fun rec a=>by kernel_rfl) (fun rec z=>by cases z <;> kernel_rfl)
def Q1j.via {R:Type} (n:Nat):List AV→(AV→Option R)→Option R:=viaK (Q1j.FA n) Q1j.o Q1j.p
theorem Q1j.tells1 {R:Type} (n:Nat) (xs:List AV):Tells1 (R:=R) Tryz.prog 50 xs (Q1j.via n xs):=tells_via Q1j.oi (fun a=>by kernel_rfl) (Q1j.hands n) xs
end Go.Proofs.YtnoldakbllfmnaaGreatDoor.Ev
namespace Go.Proofs.YtnoldakbllfmnaaGreatDoor.Ev
open Go Go.Proofs Go.Proofs.Ev
set_option linter.unusedVariables false
set_option maxRecDepth 100000
abbrev Q1l.A:=Int
abbrev Q1l.T:=List AV
def Q1l.i:Q1l.A→List AV:=fun a0=>[vi a0]
def Q1l.o (xs:List AV):Option Q1l.A:=match xs with | [.v (.int .i64 a0)]=>some a0 | _=>none
theorem Q1l.oi:∀ xs a,Q1l.o xs=some a→xs=Q1l.i a:=by
 intro xs a h
 unfold Q1l.o at h
 split at h
 ·cases h; rfl
 ·cases h
def Q1l.p (p:Q1l.T):AV:=.fr ⟨true,3,false⟩ 1 p
def Q1l.q (x:AV):Option Q1l.T:=match x with | .fr ⟨true,3,false⟩ 1 p0=>some p0 | _=>none
theorem Q1l.qi:∀ x p,Q1l.q x=some p→x=Q1l.p p:=by
 intro x p h
 unfold Q1l.q at h
 split at h
 ·cases h; rfl
 ·cases h
inductive Q1l.Z where
 | z11
def Q1l.C {R:Type} (n:Nat) (f:FuncId) (xs:List AV):(AV→Option R)→Option R:=
 fun _=>none
theorem Q1l.tells {R:Type} (n:Nat):Tells (R:=R) Tryz.prog (Q1l.C n):=fun _ xs=>Tells1.none
def Q1l.cut (r:Nat):Option Keep:=match r with | 11=>some ⟨[],[]⟩ | _=>none
def Q1l.t (z:Q1l.Z):List Item:=(todoOf (match z with | .z11=>11) 1000 [.code (Tryz.f92.body.getD .skip)]).getD []
def Q1l.s:Q1l.Z→St
 | .z11=>⟨spr 43 0 [],Mem.ofList [],0⟩
def Q1l.r11 (n:Nat) (c:Q1l.Z→Option (List AV))  : Option (List AV):=
 some [vi 1,vi 3,vi 3]
def Q1l.r (n:Nat) (c:Q1l.Z→Option (List AV)):Q1l.Z→Option (List AV)
 | .z11=>Q1l.r11 n c
def Q1l.e (n:Nat) (c:Q1l.Z→Option (List AV)) (a0:Int):Option (List AV):=
 bif a0==0 then (some [vi 0,vi 4]) else (bif a0==1 then (some [vi 1,vi 3]) else (bif a0==2 then (c .z11) else (bif a0==3 then (c .z11) else (bif a0==4 then (c .z11) else (bif a0==5 then (c .z11) else (bif a0==6 then (c .z11) else (bif a0==7 then (some [vi 2,vi 4,vi 6]) else (bif a0==8 then (some [vi 2,vi 4,vi 6]) else (bif a0==9 then (some [vi 6]) else (bif a0==13 then (some [vi 6]) else (bif a0==10 then (some [vi 5,vi 0]) else (bif a0==11 then (some [vi 5,vi 5]) else (bif a0==12 then (some [vi 5,vi 3]) else (bif a0==15 then (some [vi 3]) else (bif a0==16 then (some [vi 1]) else (bif a0==17 then (some [vi 2]) else (some [])))))))))))))))))
def Q1l.E (n:Nat) (c:Q1l.Z→Option (List AV)):Q1l.A→Option Q1l.T:=fun a0=>Q1l.e n c a0
def Q1l.l (n:Nat):Nat→Q1l.Z→Option (List AV):=loopL (Q1l.r n)
def Q1l.F (n:Nat) (a0:Int):Option (List AV):=Q1l.e n (Q1l.l n n) a0
def Q1l.FA (n:Nat):Q1l.A→Option Q1l.T:=Q1l.E n (Q1l.l n n)
theorem Q1l.hands (n:Nat):∀ a p,Q1l.FA n a=some p→HandsIn Tryz.prog 92 (Q1l.i a) (Q1l.p p):=
 pf_hands (C:=Q1l.C n) (cut:=Q1l.cut) (t:=Q1l.t) (s:=Q1l.s) (e:=Q1l.E n) (r:=Q1l.r n) (n:=n) cfg mixed globs rfl Q1l.qi (Q1l.tells n) Tryz.func92 (by kernel_rfl) (by kernel_rfl) (fun rec a=>by kernel_rfl) (fun rec z=>by cases z <;> kernel_rfl)
def Q1l.via {R:Type} (n:Nat):List AV→(AV→Option R)→Option R:=viaK (Q1l.FA n) Q1l.o Q1l.p
theorem Q1l.tells1 {R:Type} (n:Nat) (xs:List AV):Tells1 (R:=R) Tryz.prog 92 xs (Q1l.via n xs):=tells_via Q1l.oi (fun a=>by kernel_rfl) (Q1l.hands n) xs
end Go.Proofs.YtnoldakbllfmnaaGreatDoor.Ev
namespace Go.Proofs.YtnoldakbllfmnaaGreatDoor.Ev
open Go Go.Proofs Go.Proofs.Ev
set_option linter.unusedVariables false
set_option maxRecDepth 100000
abbrev Q1g.A:=ByteArray × Int × Int × Int × Int × Int × ByteArray × ByteArray × Int × Int
abbrev Q1g.T:=Bool
def Q1g.i:Q1g.A→List AV:=fun (a0,a1,a2,a3,a4,a5,a6,a7,a8,a9)=>[AV.agg [vs a0,vi a1,vi a2,vi a3,vi a4,vi a5,vs a6,vs a7,vi a8,vi a9]]
def Q1g.o (xs:List AV):Option Q1g.A:=match xs with | [.agg [.v (.string a0),.v (.int .i64 a1),.v (.int .i64 a2),.v (.int .i64 a3),.v (.int .i64 a4),.v (.int .i64 a5),.v (.string a6),.v (.string a7),.v (.int .i64 a8),.v (.int .i64 a9)]]=>some (a0,a1,a2,a3,a4,a5,a6,a7,a8,a9) | _=>none
theorem Q1g.oi:∀ xs a,Q1g.o xs=some a→xs=Q1g.i a:=by
 intro xs a h
 unfold Q1g.o at h
 split at h
 ·cases h; rfl
 ·cases h
def Q1g.p (p:Q1g.T):AV:=vb p
def Q1g.q (x:AV):Option Q1g.T:=match x with | .v (.bool p0)=>some p0 | _=>none
theorem Q1g.qi:∀ x p,Q1g.q x=some p→x=Q1g.p p:=by
 intro x p h
 unfold Q1g.q at h
 split at h
 ·cases h; rfl
 ·cases h
def Q1g.C {R:Type} (n:Nat) (f:FuncId) (xs:List AV):(AV→Option R)→Option R:=
 bif Nat.beq f 140 then Q0u.via n xs else fun _=>none
theorem Q1g.tells {R:Type} (n:Nat):Tells (R:=R) Tryz.prog (Q1g.C n):=fun _ xs=>tells_at (Q0u.tells1 n xs) (Tells1.none)
def Q1g.cut (r:Nat):Option Keep:=match r with  | _=>none
def Q1g.e (n:Nat) (a0:ByteArray) (a1 a2 a3 a4 a5:Int) (a6 a7:ByteArray) (a8 a9:Int):Option Bool:=
 (Q0u.F n a2).bind fun p1=>
 some p1
def Q1g.E (n:Nat):Q1g.A→Option Q1g.T:=fun (a0,a1,a2,a3,a4,a5,a6,a7,a8,a9)=>Q1g.e n a0 a1 a2 a3 a4 a5 a6 a7 a8 a9
def Q1g.F (n:Nat) (a0:ByteArray) (a1 a2 a3 a4 a5:Int) (a6 a7:ByteArray) (a8 a9:Int):Option Bool:=Q1g.e n a0 a1 a2 a3 a4 a5 a6 a7 a8 a9
def Q1g.FA (n:Nat):Q1g.A→Option Q1g.T:=Q1g.E n
theorem Q1g.hands (n:Nat):∀ a p,Q1g.FA n a=some p→HandsIn Tryz.prog 94 (Q1g.i a) (Q1g.p p):=
 pf_hands (C:=Q1g.C n) (cut:=Q1g.cut) (Z:=Empty) (t:=nofun) (s:=nofun) (e:=fun _=>Q1g.E n) (r:=fun _ z=>nomatch z) (n:=n) cfg mixed globs rfl Q1g.qi (Q1g.tells n) Tryz.func94 (by kernel_rfl) (by kernel_rfl) (fun rec a=>by kernel_rfl) (fun rec z=>nomatch z)
def Q1g.via {R:Type} (n:Nat):List AV→(AV→Option R)→Option R:=viaK (Q1g.FA n) Q1g.o Q1g.p
theorem Q1g.tells1 {R:Type} (n:Nat) (xs:List AV):Tells1 (R:=R) Tryz.prog 94 xs (Q1g.via n xs):=tells_via Q1g.oi (fun a=>by kernel_rfl) (Q1g.hands n) xs
end Go.Proofs.YtnoldakbllfmnaaGreatDoor.Ev
namespace Go.Proofs.YtnoldakbllfmnaaGreatDoor.Ev
open Go Go.Proofs Go.Proofs.Ev
set_option linter.unusedVariables false
set_option maxRecDepth 100000
abbrev Q1f.A:=List AV × List AV × List AV × Int × List AV
abbrev Q1f.T:=Int
def Q1f.i:Q1f.A→List AV:=fun (a0,a1,a2,a3,a4)=>[AV.agg [.sl ⟨true,74,false⟩ 10 a0,.sl ⟨false,86,false⟩ 2 a1,.sl ⟨true,82,false⟩ 4 a2],AV.agg [vi a3,.sl ⟨true,3,false⟩ 1 a4]]
def Q1f.o (xs:List AV):Option Q1f.A:=match xs with | [.agg [.sl ⟨true,74,false⟩ 10 a0,.sl ⟨false,86,false⟩ 2 a1,.sl ⟨true,82,false⟩ 4 a2],.agg [.v (.int .i64 a3),.sl ⟨true,3,false⟩ 1 a4]]=>some (a0,a1,a2,a3,a4) | _=>none
theorem Q1f.oi:∀ xs a,Q1f.o xs=some a→xs=Q1f.i a:=by
 intro xs a h
 unfold Q1f.o at h
 split at h
 ·cases h; rfl
 ·cases h
def Q1f.p (p:Q1f.T):AV:=vi p
def Q1f.q (x:AV):Option Q1f.T:=match x with | .v (.int .i64 p0)=>some p0 | _=>none
theorem Q1f.qi:∀ x p,Q1f.q x=some p→x=Q1f.p p:=by
 intro x p h
 unfold Q1f.q at h
 split at h
 ·cases h; rfl
 ·cases h
inductive Q1f.Z where
 | z7 (z1:Int) (z2 z3 z4:List AV) (z5:Int) (z6 z7:List AV)
 | z8 (z1:Int) (z2 z3 z4:List AV) (z5:Int) (z6 z7:List AV)
 | z28 (z1:Int) (z2:Bool) (z3 z4 z5:List AV) (z6:Int) (z7 z8:List AV)
def Q1f.C {R:Type} (n:Nat) (f:FuncId) (xs:List AV):(AV→Option R)→Option R:=
 bif Nat.beq f 27 then Q0i.via n xs else bif Nat.beq f 89 then Q15.via n xs else bif Nat.beq f 92 then Q1l.via n xs else bif Nat.beq f 93 then Q16.via n xs else bif Nat.beq f 94 then Q1g.via n xs else fun _=>none
theorem Q1f.tells {R:Type} (n:Nat):Tells (R:=R) Tryz.prog (Q1f.C n):=fun _ xs=>tells_at (Q0i.tells1 n xs) (tells_at (Q15.tells1 n xs) (tells_at (Q1l.tells1 n xs) (tells_at (Q16.tells1 n xs) (tells_at (Q1g.tells1 n xs) (Tells1.none)))))
def Q1f.cut (r:Nat):Option Keep:=match r with | 7=>some ⟨[2,3,5,6],[]⟩ | 8=>some ⟨[2,3,5,6],[]⟩ | 28=>some ⟨[2,3,5,6,8],[]⟩ | _=>none
def Q1f.t (z:Q1f.Z):List Item:=(todoOf (match z with | .z7 _ _ _ _ _ _ _=>7 | .z8 _ _ _ _ _ _ _=>8 | .z28 _ _ _ _ _ _ _ _=>28) 1000 [.code (Tryz.f51.body.getD .skip)]).getD []
def Q1f.s:Q1f.Z→St
 | .z7 z1 z2 z3 z4 z5 z6 z7=>⟨spr 113 0 [(2,.ptr 0 0),(3,.ptr 1 0),(5,.own 2 0 none),(6,vi z1)],Mem.ofList [.box 26 [.sl ⟨true,74,false⟩ 10 z2,.sl ⟨false,86,false⟩ 2 z3,.sl ⟨true,82,false⟩ 4 z4],.box 86 [vi z5,.sl ⟨true,3,false⟩ 1 z6],.row ⟨true,3,false⟩ 1 z7],3⟩
 | .z8 z1 z2 z3 z4 z5 z6 z7=>⟨spr 113 0 [(2,.ptr 0 0),(3,.ptr 1 0),(5,.own 2 0 none),(6,vi z1)],Mem.ofList [.box 26 [.sl ⟨true,74,false⟩ 10 z2,.sl ⟨false,86,false⟩ 2 z3,.sl ⟨true,82,false⟩ 4 z4],.box 86 [vi z5,.sl ⟨true,3,false⟩ 1 z6],.row ⟨true,3,false⟩ 1 z7],3⟩
 | .z28 z1 z2 z3 z4 z5 z6 z7 z8=>⟨spr 113 0 [(2,.ptr 0 0),(3,.ptr 1 0),(5,.own 2 0 none),(6,vi z1),(8,vb z2)],Mem.ofList [.box 26 [.sl ⟨true,74,false⟩ 10 z3,.sl ⟨false,86,false⟩ 2 z4,.sl ⟨true,82,false⟩ 4 z5],.box 86 [vi z6,.sl ⟨true,3,false⟩ 1 z7],.row ⟨true,3,false⟩ 1 z8],3⟩
def Q1f.r7 (n:Nat) (c:Q1f.Z→Option Int) (z1:Int) (z2 z3 z4:List AV) (z5:Int) (z6 z7:List AV):Option Int:=
 let y4:Bool:=decide (z1 < ((z7.length:Nat):Int))
 bif y4 then (bif decide ((0:Int)≤z1)&&decide (z1 < ((z6.length:Nat):Int)) then (withCons ((z6.getD ((z1).toNat) .undef).cells) fun h5 r6=>
 withInt .i64 h5 fun x7=>
 let y8:Int:=IntKind.i64.wrap (((z2.length:Nat):Int) - 1)
 (Q0i.F n x7 0 y8).bind fun p9=>
 bif !p9 then (some 3) else (bif decide ((0:Int)≤z1)&&decide (z1 < ((z6.length:Nat):Int)) then (withCons ((z6.getD ((z1).toNat) .undef).cells) fun h10 r11=>
 withInt .i64 h10 fun x12=>
 bif decide ((0:Int)≤x12)&&decide (x12 < ((z2.length:Nat):Int)) then (withCons ((z2.getD ((x12).toNat) .undef).cells) fun h13 r14=>
 withStr h13 fun s15=>
 withCons r14 fun h16 r17=>
 withInt .i64 h16 fun x18=>
 withCons r17 fun h19 r20=>
 withInt .i64 h19 fun x21=>
 withCons r20 fun h22 r23=>
 withInt .i64 h22 fun x24=>
 withCons r23 fun h25 r26=>
 withInt .i64 h25 fun x27=>
 withCons r26 fun h28 r29=>
 withInt .i64 h28 fun x30=>
 withCons r29 fun h31 r32=>
 withStr h31 fun s33=>
 withCons r32 fun h34 r35=>
 withStr h34 fun s36=>
 withCons r35 fun h37 r38=>
 withInt .i64 h37 fun x39=>
 withCons r38 fun h40 r41=>
 withInt .i64 h40 fun x42=>
 bif decide ((0:Int)≤z1)&&decide (z1 < ((z7.length:Nat):Int)) then (withCons ((z7.getD ((z1).toNat) .undef).cells) fun h43 r44=>
 withInt .i64 h43 fun x45=>
 bif x45==0 then ((Q16.F n x18).bind fun p46=>
 c (.z28 z1 p46 z2 z3 z4 z5 z6 z7)) else (bif x45==1 then ((Q16.F n x18).bind fun p47=>
 bif p47 then ((Q1g.F n s15 x18 x21 x24 x27 x30 s33 s36 x39 x42).bind fun p48=>
 c (.z28 z1 p48 z2 z3 z4 z5 z6 z7)) else (c (.z28 z1 false z2 z3 z4 z5 z6 z7))) else (bif x45==2 then ((Q15.F n x18).bind fun p49=>
 c (.z28 z1 p49 z2 z3 z4 z5 z6 z7)) else (bif x45==3 then ((Q15.F n x18).bind fun p50=>
 bif p50 then ((Q1g.F n s15 x18 x21 x24 x27 x30 s33 s36 x39 x42).bind fun p51=>
 c (.z28 z1 p51 z2 z3 z4 z5 z6 z7)) else (c (.z28 z1 false z2 z3 z4 z5 z6 z7))) else (bif x45==4 then ((Q15.F n x18).bind fun p52=>
 bif p52 then ((Q1g.F n s15 x18 x21 x24 x27 x30 s33 s36 x39 x42).bind fun p53=>
 bif decide ((0:Int)≤IntKind.i64.wrap (z1 - 1))&&decide (IntKind.i64.wrap (z1 - 1) < ((z6.length:Nat):Int)) then (withCons ((z6.getD ((IntKind.i64.wrap (z1 - 1)).toNat) .undef).cells) fun h54 r55=>
 withInt .i64 h54 fun x56=>
 bif decide ((0:Int)≤x56)&&decide (x56 < ((z2.length:Nat):Int)) then (withCons ((z2.getD ((x56).toNat) .undef).cells) fun h57 r58=>
 withStr h57 fun s59=>
 withCons r58 fun h60 r61=>
 withInt .i64 h60 fun x62=>
 withCons r61 fun h63 r64=>
 withInt .i64 h63 fun x65=>
 withCons r64 fun h66 r67=>
 withInt .i64 h66 fun x68=>
 withCons r67 fun h69 r70=>
 withInt .i64 h69 fun x71=>
 withCons r70 fun h72 r73=>
 withInt .i64 h72 fun x74=>
 withCons r73 fun h75 r76=>
 withStr h75 fun s77=>
 withCons r76 fun h78 r79=>
 withStr h78 fun s80=>
 withCons r79 fun h81 r82=>
 withInt .i64 h81 fun x83=>
 withCons r82 fun h84 r85=>
 withInt .i64 h84 fun x86=>
 (Q1g.F n s59 x62 x65 x68 x71 x74 s77 s80 x83 x86).bind fun p87=>
 c (.z28 z1 (p53==p87) z2 z3 z4 z5 z6 z7)) else none) else none) else (c (.z28 z1 false z2 z3 z4 z5 z6 z7))) else (bif x45==5 then (c (.z28 z1 (x18==3) z2 z3 z4 z5 z6 z7)) else (bif x45==6 then (c (.z28 z1 (x18==5) z2 z3 z4 z5 z6 z7)) else (c (.z28 z1 false z2 z3 z4 z5 z6 z7))))))))) else none) else none) else none)) else none) else (some 0)
def Q1f.r8 (n:Nat) (c:Q1f.Z→Option Int) (z1:Int) (z2 z3 z4:List AV) (z5:Int) (z6 z7:List AV):Option Int:=
 c (.z7 (IntKind.i64.wrap (z1+1)) z2 z3 z4 z5 z6 z7)
def Q1f.r28 (n:Nat) (c:Q1f.Z→Option Int) (z1:Int) (z2:Bool) (z3 z4 z5:List AV) (z6:Int) (z7 z8:List AV):Option Int:=
 bif !z2 then (some 17) else (c (.z8 z1 z3 z4 z5 z6 z7 z8))
def Q1f.r (n:Nat) (c:Q1f.Z→Option Int):Q1f.Z→Option Int
 | .z7 z1 z2 z3 z4 z5 z6 z7=>Q1f.r7 n c z1 z2 z3 z4 z5 z6 z7
 | .z8 z1 z2 z3 z4 z5 z6 z7=>Q1f.r8 n c z1 z2 z3 z4 z5 z6 z7
 | .z28 z1 z2 z3 z4 z5 z6 z7 z8=>Q1f.r28 n c z1 z2 z3 z4 z5 z6 z7 z8
def Q1f.e (n:Nat) (c:Q1f.Z→Option Int) (a0 a1 a2:List AV) (a3:Int) (a4:List AV):Option Int:=
 (Q0i.F n a3 0 18).bind fun p1=>
 bif !p1 then (some 4) else ((Q1l.F n a3).bind fun p2=>
 let y3:Bool:=((a4.length:Nat):Int) != ((p2.length:Nat):Int)
 bif y3 then (some 37) else (c (.z7 0 a0 a1 a2 a3 a4 p2)))
def Q1f.E (n:Nat) (c:Q1f.Z→Option Int):Q1f.A→Option Q1f.T:=fun (a0,a1,a2,a3,a4)=>Q1f.e n c a0 a1 a2 a3 a4
def Q1f.l (n:Nat):Nat→Q1f.Z→Option Int:=loopL (Q1f.r n)
def Q1f.F (n:Nat) (a0 a1 a2:List AV) (a3:Int) (a4:List AV):Option Int:=Q1f.e n (Q1f.l n n) a0 a1 a2 a3 a4
def Q1f.FA (n:Nat):Q1f.A→Option Q1f.T:=Q1f.E n (Q1f.l n n)
theorem Q1f.hands (n:Nat):∀ a p,Q1f.FA n a=some p→HandsIn Tryz.prog 51 (Q1f.i a) (Q1f.p p):=
 pf_hands (C:=Q1f.C n) (cut:=Q1f.cut) (t:=Q1f.t) (s:=Q1f.s) (e:=Q1f.E n) (r:=Q1f.r n) (n:=n) cfg mixed globs rfl Q1f.qi (Q1f.tells n) Tryz.func51 (by kernel_rfl) (by kernel_rfl) (fun rec a=>by kernel_rfl) (fun rec z=>by cases z <;> kernel_rfl)
def Q1f.via {R:Type} (n:Nat):List AV→(AV→Option R)→Option R:=viaK (Q1f.FA n) Q1f.o Q1f.p
theorem Q1f.tells1 {R:Type} (n:Nat) (xs:List AV):Tells1 (R:=R) Tryz.prog 51 xs (Q1f.via n xs):=tells_via Q1f.oi (fun a=>by kernel_rfl) (Q1f.hands n) xs
end Go.Proofs.YtnoldakbllfmnaaGreatDoor.Ev
namespace Go.Proofs.YtnoldakbllfmnaaGreatDoor.Ev
open Go Go.Proofs Go.Proofs.Ev
set_option linter.unusedVariables false
set_option maxRecDepth 100000
abbrev Q11.A:=List AV × List AV × List AV
abbrev Q11.T:=Int × Int × Int
def Q11.i:Q11.A→List AV:=fun (a0,a1,a2)=>[AV.agg [.sl ⟨true,74,false⟩ 10 a0,.sl ⟨false,86,false⟩ 2 a1,.sl ⟨true,82,false⟩ 4 a2]]
def Q11.o (xs:List AV):Option Q11.A:=match xs with | [.agg [.sl ⟨true,74,false⟩ 10 a0,.sl ⟨false,86,false⟩ 2 a1,.sl ⟨true,82,false⟩ 4 a2]]=>some (a0,a1,a2) | _=>none
theorem Q11.oi:∀ xs a,Q11.o xs=some a→xs=Q11.i a:=by
 intro xs a h
 unfold Q11.o at h
 split at h
 ·cases h; rfl
 ·cases h
def Q11.p (p:Q11.T):AV:=.tup [AV.agg [vi p.1,vi p.2.1],vi p.2.2]
def Q11.q (x:AV):Option Q11.T:=match x with | .tup [.agg [.v (.int .i64 p0),.v (.int .i64 p1)],.v (.int .i64 p2)]=>some (p0,p1,p2) | _=>none
theorem Q11.qi:∀ x p,Q11.q x=some p→x=Q11.p p:=by
 intro x p h
 unfold Q11.q at h
 split at h
 ·cases h; rfl
 ·cases h
inductive Q11.Z where
 | z2 (z1 z2:Int)
 | z6 (z1:Int) (z2 z3 z4:List AV) (z5 z6:Int)
 | z15 (z1:Int) (z2 z3 z4:List AV) (z5 z6:Int)
 | z21 (z1:Int) (z2 z3 z4:List AV) (z5 z6:Int)
 | z25 (z1 z2 z3:Int)
def Q11.C {R:Type} (n:Nat) (f:FuncId) (xs:List AV):(AV→Option R)→Option R:=
 bif Nat.beq f 27 then Q0i.via n xs else bif Nat.beq f 32 then Q17.via n xs else bif Nat.beq f 50 then Q1j.via n xs else bif Nat.beq f 51 then Q1f.via n xs else fun _=>none
theorem Q11.tells {R:Type} (n:Nat):Tells (R:=R) Tryz.prog (Q11.C n):=fun _ xs=>tells_at (Q0i.tells1 n xs) (tells_at (Q17.tells1 n xs) (tells_at (Q1j.tells1 n xs) (tells_at (Q1f.tells1 n xs) (Tells1.none))))
def Q11.cut (r:Nat):Option Keep:=match r with | 2=>some ⟨[2],[]⟩ | 6=>some ⟨[1,2,4],[]⟩ | 15=>some ⟨[1,2,8],[]⟩ | 21=>some ⟨[1,2,10],[]⟩ | 25=>some ⟨[2,10],[]⟩ | _=>none
def Q11.t (z:Q11.Z):List Item:=(todoOf (match z with | .z2 _ _=>2 | .z6 _ _ _ _ _ _=>6 | .z15 _ _ _ _ _ _=>15 | .z21 _ _ _ _ _ _=>21 | .z25 _ _ _=>25) 1000 [.code (Tryz.f16.body.getD .skip)]).getD []
def Q11.s:Q11.Z→St
 | .z2 z1 z2=>⟨spr 125 0 [(2,.ptr 0 0)],Mem.ofList [.box 30 [vi z1,vi z2]],1⟩
 | .z6 z1 z2 z3 z4 z5 z6=>⟨spr 125 0 [(1,.ptr 0 0),(2,.ptr 1 0),(4,vi z1)],Mem.ofList [.box 26 [.sl ⟨true,74,false⟩ 10 z2,.sl ⟨false,86,false⟩ 2 z3,.sl ⟨true,82,false⟩ 4 z4],.box 30 [vi z5,vi z6]],2⟩
 | .z15 z1 z2 z3 z4 z5 z6=>⟨spr 125 0 [(1,.ptr 0 0),(2,.ptr 1 0),(8,vi z1)],Mem.ofList [.box 26 [.sl ⟨true,74,false⟩ 10 z2,.sl ⟨false,86,false⟩ 2 z3,.sl ⟨true,82,false⟩ 4 z4],.box 30 [vi z5,vi z6]],2⟩
 | .z21 z1 z2 z3 z4 z5 z6=>⟨spr 125 0 [(1,.ptr 0 0),(2,.ptr 1 0),(10,vi z1)],Mem.ofList [.box 26 [.sl ⟨true,74,false⟩ 10 z2,.sl ⟨false,86,false⟩ 2 z3,.sl ⟨true,82,false⟩ 4 z4],.box 30 [vi z5,vi z6]],2⟩
 | .z25 z1 z2 z3=>⟨spr 125 0 [(2,.ptr 0 0),(10,vi z1)],Mem.ofList [.box 30 [vi z2,vi z3]],1⟩
def Q11.r2 (n:Nat) (c:Q11.Z→Option (Int × Int × Int)) (z1 z2:Int):Option (Int × Int × Int):=
 some (0,0,2)
def Q11.r6 (n:Nat) (c:Q11.Z→Option (Int × Int × Int)) (z1:Int) (z2 z3 z4:List AV) (z5 z6:Int):Option (Int × Int × Int):=
 let y5:Bool:=decide (z1 < ((z2.length:Nat):Int))
 bif y5 then ((Q1j.F n z2 z3 z4 z1).bind fun p6=>
 bif p6 != 0 then (some (1,z1,p6)) else (c (.z6 (IntKind.i64.wrap (z1+1)) z2 z3 z4 z5 z6))) else ((Q17.F n z2 z3 z4).bind fun p7=>
 bif decide (p7.2 > 24) then (some (0,0,30)) else (c (.z15 0 z2 z3 z4 z5 z6)))
def Q11.r15 (n:Nat) (c:Q11.Z→Option (Int × Int × Int)) (z1:Int) (z2 z3 z4:List AV) (z5 z6:Int):Option (Int × Int × Int):=
 let y8:Bool:=decide (z1 < ((z3.length:Nat):Int))
 bif y8 then (bif decide ((0:Int)≤z1)&&decide (z1 < ((z3.length:Nat):Int)) then (withCons ((z3.getD ((z1).toNat) .undef).cells) fun h9 r10=>
 withInt .i64 h9 fun x11=>
 withCons r10 fun h12 r13=>
 withSl ⟨true,3,false⟩ 1 h12 fun xs14=>
 (Q1f.F n z2 z3 z4 x11 xs14).bind fun p15=>
 bif p15 != 0 then (some (2,z1,p15)) else (c (.z15 (IntKind.i64.wrap (z1+1)) z2 z3 z4 z5 z6))) else none) else (c (.z21 0 z2 z3 z4 z5 z6))
def Q11.r21 (n:Nat) (c:Q11.Z→Option (Int × Int × Int)) (z1:Int) (z2 z3 z4:List AV) (z5 z6:Int):Option (Int × Int × Int):=
 let y16:Bool:=decide (z1 < ((z4.length:Nat):Int))
 bif y16 then (bif decide ((0:Int)≤z1)&&decide (z1 < ((z4.length:Nat):Int)) then (withCons ((z4.getD ((z1).toNat) .undef).cells) fun h17 r18=>
 withInt .i64 h17 fun x19=>
 withCons r18 fun h20 r21=>
 withInt .i64 h20 fun x22=>
 withCons r21 fun h23 r24=>
 withInt .i64 h23 fun x25=>
 withCons r24 fun h26 r27=>
 withInt .i64 h26 fun x28=>
 bif decide (x19 < 0) then (c (.z25 z1 z5 z6)) else (bif decide (x19≥x22) then (c (.z25 z1 z5 z6)) else (let y29:Bool:=decide (x22 > ((z3.length:Nat):Int))
 bif y29 then (c (.z25 z1 z5 z6)) else ((Q0i.F n x25 0 999).bind fun p30=>
 bif !p30 then (c (.z25 z1 z5 z6)) else (let y31:Int:=IntKind.i64.wrap (((z3.length:Nat):Int) - 1)
 (Q0i.F n x28 0 y31).bind fun p32=>
 bif !p32 then (c (.z25 z1 z5 z6)) else (c (.z21 (IntKind.i64.wrap (z1+1)) z2 z3 z4 z5 z6))))))) else none) else (some (0,0,0))
def Q11.r25 (n:Nat) (c:Q11.Z→Option (Int × Int × Int)) (z1 z2 z3:Int):Option (Int × Int × Int):=
 some (3,z1,3)
def Q11.r (n:Nat) (c:Q11.Z→Option (Int × Int × Int)):Q11.Z→Option (Int × Int × Int)
 | .z2 z1 z2=>Q11.r2 n c z1 z2
 | .z6 z1 z2 z3 z4 z5 z6=>Q11.r6 n c z1 z2 z3 z4 z5 z6
 | .z15 z1 z2 z3 z4 z5 z6=>Q11.r15 n c z1 z2 z3 z4 z5 z6
 | .z21 z1 z2 z3 z4 z5 z6=>Q11.r21 n c z1 z2 z3 z4 z5 z6
 | .z25 z1 z2 z3=>Q11.r25 n c z1 z2 z3
def Q11.e (n:Nat) (c:Q11.Z→Option (Int × Int × Int)) (a0 a1 a2:List AV):Option (Int × Int × Int):=
 let y1:Bool:=decide (((a0.length:Nat):Int) > 24)
 bif y1 then (c (.z2 0 0)) else (let y2:Bool:=decide (((a1.length:Nat):Int) > 40)
 bif y2 then (c (.z2 0 0)) else (let y3:Bool:=decide (((a2.length:Nat):Int) > 6)
 bif y3 then (c (.z2 0 0)) else (let y4:Bool:=((a1.length:Nat):Int)==0
 bif y4 then (some (0,0,1)) else (c (.z6 0 a0 a1 a2 0 0)))))
def Q11.E (n:Nat) (c:Q11.Z→Option (Int × Int × Int)):Q11.A→Option Q11.T:=fun (a0,a1,a2)=>Q11.e n c a0 a1 a2
def Q11.l (n:Nat):Nat→Q11.Z→Option (Int × Int × Int):=loopL (Q11.r n)
def Q11.F (n:Nat) (a0 a1 a2:List AV):Option (Int × Int × Int):=Q11.e n (Q11.l n n) a0 a1 a2
def Q11.FA (n:Nat):Q11.A→Option Q11.T:=Q11.E n (Q11.l n n)
theorem Q11.hands (n:Nat):∀ a p,Q11.FA n a=some p→HandsIn Tryz.prog 16 (Q11.i a) (Q11.p p):=
 pf_hands (C:=Q11.C n) (cut:=Q11.cut) (t:=Q11.t) (s:=Q11.s) (e:=Q11.E n) (r:=Q11.r n) (n:=n) cfg mixed globs rfl Q11.qi (Q11.tells n) Tryz.func16 (by kernel_rfl) (by kernel_rfl) (fun rec a=>by kernel_rfl) (fun rec z=>by cases z <;> kernel_rfl)
def Q11.via {R:Type} (n:Nat):List AV→(AV→Option R)→Option R:=viaK (Q11.FA n) Q11.o Q11.p
theorem Q11.tells1 {R:Type} (n:Nat) (xs:List AV):Tells1 (R:=R) Tryz.prog 16 xs (Q11.via n xs):=tells_via Q11.oi (fun a=>by kernel_rfl) (Q11.hands n) xs
end Go.Proofs.YtnoldakbllfmnaaGreatDoor.Ev
namespace Go.Proofs.YtnoldakbllfmnaaGreatDoor.Ev
open Go Go.Proofs Go.Proofs.Ev
set_option linter.unusedVariables false
set_option maxRecDepth 100000
abbrev Q12.A:=List AV × List AV × List AV
abbrev Q12.T:=Int
def Q12.i:Q12.A→List AV:=fun (a0,a1,a2)=>[AV.agg [.sl ⟨true,74,false⟩ 10 a0,.sl ⟨false,86,false⟩ 2 a1,.sl ⟨true,82,false⟩ 4 a2]]
def Q12.o (xs:List AV):Option Q12.A:=match xs with | [.agg [.sl ⟨true,74,false⟩ 10 a0,.sl ⟨false,86,false⟩ 2 a1,.sl ⟨true,82,false⟩ 4 a2]]=>some (a0,a1,a2) | _=>none
theorem Q12.oi:∀ xs a,Q12.o xs=some a→xs=Q12.i a:=by
 intro xs a h
 unfold Q12.o at h
 split at h
 ·cases h; rfl
 ·cases h
def Q12.p (p:Q12.T):AV:=vi p
def Q12.q (x:AV):Option Q12.T:=match x with | .v (.int .i64 p0)=>some p0 | _=>none
theorem Q12.qi:∀ x p,Q12.q x=some p→x=Q12.p p:=by
 intro x p h
 unfold Q12.q at h
 split at h
 ·cases h; rfl
 ·cases h
def Q12.C {R:Type} (n:Nat) (f:FuncId) (xs:List AV):(AV→Option R)→Option R:=
 bif Nat.beq f 16 then Q11.via n xs else fun _=>none
theorem Q12.tells {R:Type} (n:Nat):Tells (R:=R) Tryz.prog (Q12.C n):=fun _ xs=>tells_at (Q11.tells1 n xs) (Tells1.none)
def Q12.cut (r:Nat):Option Keep:=match r with  | _=>none
def Q12.e (n:Nat) (a0 a1 a2:List AV):Option Int:=
 (Q11.F n a0 a1 a2).bind fun p1=>
 some p1.2.2
def Q12.E (n:Nat):Q12.A→Option Q12.T:=fun (a0,a1,a2)=>Q12.e n a0 a1 a2
def Q12.F (n:Nat) (a0 a1 a2:List AV):Option Int:=Q12.e n a0 a1 a2
def Q12.FA (n:Nat):Q12.A→Option Q12.T:=Q12.E n
theorem Q12.hands (n:Nat):∀ a p,Q12.FA n a=some p→HandsIn Tryz.prog 18 (Q12.i a) (Q12.p p):=
 pf_hands (C:=Q12.C n) (cut:=Q12.cut) (Z:=Empty) (t:=nofun) (s:=nofun) (e:=fun _=>Q12.E n) (r:=fun _ z=>nomatch z) (n:=n) cfg mixed globs rfl Q12.qi (Q12.tells n) Tryz.func18 (by kernel_rfl) (by kernel_rfl) (fun rec a=>by kernel_rfl) (fun rec z=>nomatch z)
def Q12.via {R:Type} (n:Nat):List AV→(AV→Option R)→Option R:=viaK (Q12.FA n) Q12.o Q12.p
theorem Q12.tells1 {R:Type} (n:Nat) (xs:List AV):Tells1 (R:=R) Tryz.prog 18 xs (Q12.via n xs):=tells_via Q12.oi (fun a=>by kernel_rfl) (Q12.hands n) xs
end Go.Proofs.YtnoldakbllfmnaaGreatDoor.Ev
namespace Go.Proofs.YtnoldakbllfmnaaGreatDoor.Ev
open Go Go.Proofs Go.Proofs.Ev
set_option linter.unusedVariables false
set_option maxRecDepth 100000
inductive Q3h.Z where
 | z2 (z1:List AV) (z2 z3 z4:Int)
def Q3h.r2 (n:Nat) (c:Q3h.Z→Option Int) (z1:List AV) (z2 z3 z4:Int):Option Int:=
 bif decide (z4 < z3) then (bif decide ((0:Int)≤z4)&&decide (z4 < ((z1.length:Nat):Int)) then (withCons ((z1.getD ((z4).toNat) .undef).cells) fun h1 r2=>
 withInt .i64 h1 fun x3=>
 bif z2==x3 then (some z4) else (c (.z2 z1 z2 z3 (IntKind.i64.wrap (z4+1))))) else none) else (some (-1))
def Q3h.r (n:Nat) (c:Q3h.Z→Option Int):Q3h.Z→Option Int
 | .z2 z1 z2 z3 z4=>Q3h.r2 n c z1 z2 z3 z4
def Q3h.e (n:Nat) (c:Q3h.Z→Option Int) (a0:List AV) (a1:Int):Option Int:=
 c (.z2 a0 a1 ((a0.length:Nat):Int) 0)
def Q3h.l (n:Nat):Nat→Q3h.Z→Option Int:=loopL (Q3h.r n)
def Q3h.F (n:Nat) (a0:List AV) (a1:Int):Option Int:=Q3h.e n (Q3h.l n n) a0 a1
end Go.Proofs.YtnoldakbllfmnaaGreatDoor.Ev
namespace Go.Proofs.YtnoldakbllfmnaaGreatDoor.Ev
open Go Go.Proofs Go.Proofs.Ev
set_option linter.unusedVariables false
set_option maxRecDepth 100000
def Q3e.e (n:Nat) (a0:List AV) (a1:Int):Option Bool:=
 (Q3h.F n a0 a1).bind fun p1=>
 some (decide (p1≥0))
def Q3e.F (n:Nat) (a0:List AV) (a1:Int):Option Bool:=Q3e.e n a0 a1
end Go.Proofs.YtnoldakbllfmnaaGreatDoor.Ev
namespace Go.Proofs.YtnoldakbllfmnaaGreatDoor.Ev
open Go Go.Proofs Go.Proofs.Ev
set_option linter.unusedVariables false
set_option maxRecDepth 100000
abbrev Q04.A:=List AV × List AV
abbrev Q04.T:=Bool
def Q04.i:Q04.A→List AV:=fun (a0,a1)=>[.sl ⟨true,4,false⟩ 1 a0,.sl ⟨true,4,false⟩ 1 a1]
def Q04.o (xs:List AV):Option Q04.A:=match xs with | [.sl ⟨true,4,false⟩ 1 a0,.sl ⟨true,4,false⟩ 1 a1]=>some (a0,a1) | _=>none
theorem Q04.oi:∀ xs a,Q04.o xs=some a→xs=Q04.i a:=by
 intro xs a h
 unfold Q04.o at h
 split at h
 ·cases h; rfl
 ·cases h
def Q04.p (p:Q04.T):AV:=vb p
def Q04.q (x:AV):Option Q04.T:=match x with | .v (.bool p0)=>some p0 | _=>none
theorem Q04.qi:∀ x p,Q04.q x=some p→x=Q04.p p:=by
 intro x p h
 unfold Q04.q at h
 split at h
 ·cases h; rfl
 ·cases h
inductive Q04.Z where
 | z4 (z1 z2:List AV) (z3:Int)
def Q04.C {R:Type} (n:Nat) (f:FuncId) (xs:List AV):(AV→Option R)→Option R:=
 fun _=>none
theorem Q04.tells {R:Type} (n:Nat):Tells (R:=R) Tryz.prog (Q04.C n):=fun _ xs=>Tells1.none
def Q04.cut (r:Nat):Option Keep:=match r with | 4=>some ⟨[0,1,5],[]⟩ | _=>none
def Q04.t (z:Q04.Z):List Item:=(todoOf (match z with | .z4 _ _ _=>4) 1000 [.code (Tryz.f38.body.getD .skip)]).getD []
def Q04.s:Q04.Z→St
 | .z4 z1 z2 z3=>⟨spr 26 0 [(0,.sl ⟨true,4,false⟩ 1 z1),(1,.sl ⟨true,4,false⟩ 1 z2),(5,vi z3)],Mem.ofList [],0⟩
def Q04.r4 (n:Nat) (c:Q04.Z→Option Bool) (z1 z2:List AV) (z3:Int):Option Bool:=
 let y2:Bool:=decide (z3 < ((z1.length:Nat):Int))
 bif y2 then (bif decide ((0:Int)≤z3)&&decide (z3 < ((z1.length:Nat):Int)) then (withCons ((z1.getD ((z3).toNat) .undef).cells) fun h3 r4=>
 withBool h3 fun b5=>
 bif decide ((0:Int)≤z3)&&decide (z3 < ((z2.length:Nat):Int)) then (withCons ((z2.getD ((z3).toNat) .undef).cells) fun h6 r7=>
 withBool h6 fun b8=>
 bif !(b5==b8) then (some false) else (c (.z4 z1 z2 (IntKind.i64.wrap (z3+1))))) else none) else none) else (some true)
def Q04.r (n:Nat) (c:Q04.Z→Option Bool):Q04.Z→Option Bool
 | .z4 z1 z2 z3=>Q04.r4 n c z1 z2 z3
def Q04.e (n:Nat) (c:Q04.Z→Option Bool) (a0 a1:List AV):Option Bool:=
 let y1:Bool:=((a0.length:Nat):Int) != ((a1.length:Nat):Int)
 bif y1 then (some false) else (c (.z4 a0 a1 0))
def Q04.E (n:Nat) (c:Q04.Z→Option Bool):Q04.A→Option Q04.T:=fun (a0,a1)=>Q04.e n c a0 a1
def Q04.l (n:Nat):Nat→Q04.Z→Option Bool:=loopL (Q04.r n)
def Q04.F (n:Nat) (a0 a1:List AV):Option Bool:=Q04.e n (Q04.l n n) a0 a1
def Q04.FA (n:Nat):Q04.A→Option Q04.T:=Q04.E n (Q04.l n n)
theorem Q04.hands (n:Nat):∀ a p,Q04.FA n a=some p→HandsIn Tryz.prog 38 (Q04.i a) (Q04.p p):=
 pf_hands (C:=Q04.C n) (cut:=Q04.cut) (t:=Q04.t) (s:=Q04.s) (e:=Q04.E n) (r:=Q04.r n) (n:=n) cfg mixed globs rfl Q04.qi (Q04.tells n) Tryz.func38 (by kernel_rfl) (by kernel_rfl) (fun rec a=>by kernel_rfl) (fun rec z=>by cases z <;> kernel_rfl)
def Q04.via {R:Type} (n:Nat):List AV→(AV→Option R)→Option R:=viaK (Q04.FA n) Q04.o Q04.p
theorem Q04.tells1 {R:Type} (n:Nat) (xs:List AV):Tells1 (R:=R) Tryz.prog 38 xs (Q04.via n xs):=tells_via Q04.oi (fun a=>by kernel_rfl) (Q04.hands n) xs
end Go.Proofs.YtnoldakbllfmnaaGreatDoor.Ev
namespace Go.Proofs.YtnoldakbllfmnaaGreatDoor.Ev
open Go Go.Proofs Go.Proofs.Ev
theorem Q00.at2 (n m z1 z2 z3 z4):Q00.l n (m+1) (.z2 z1 z2 z3 z4)=Q00.r2 n (Q00.l n m) z1 z2 z3 z4:=rfl
theorem Q2o.at4 (n m z1 z2 z3):Q2o.l n (m+1) (.z4 z1 z2 z3)=Q2o.r4 n (Q2o.l n m) z1 z2 z3:=rfl
theorem Q2o.at7 (n m z1 z2 z3 z4 z5 z6):Q2o.l n (m+1) (.z7 z1 z2 z3 z4 z5 z6)=Q2o.r7 n (Q2o.l n m) z1 z2 z3 z4 z5 z6:=rfl
theorem Q2o.at8 (n m z1 z2 z3 z4 z5 z6):Q2o.l n (m+1) (.z8 z1 z2 z3 z4 z5 z6)=Q2o.r8 n (Q2o.l n m) z1 z2 z3 z4 z5 z6:=rfl
theorem Q2s.at7 (n m z1 z2 z3 z4 z5 z6 z7 z8 z9 z10 z11 z12 z13 z14 z15 z16 z17 z18 z19 z20 z21 z22 z23 z24 z25 z26 z27 z28 z29 z30):Q2s.l n (m+1) (.z7 z1 z2 z3 z4 z5 z6 z7 z8 z9 z10 z11 z12 z13 z14 z15 z16 z17 z18 z19 z20 z21 z22 z23 z24 z25 z26 z27 z28 z29 z30)=Q2s.r7 n (Q2s.l n m) z1 z2 z3 z4 z5 z6 z7 z8 z9 z10 z11 z12 z13 z14 z15 z16 z17 z18 z19 z20 z21 z22 z23 z24 z25 z26 z27 z28 z29 z30:=rfl
theorem Q2s.at10 (n m z1 z2 z3 z4 z5 z6 z7 z8 z9 z10 z11 z12 z13 z14 z15 z16 z17 z18 z19 z20 z21 z22 z23 z24 z25 z26 z27 z28 z29 z30):Q2s.l n (m+1) (.z10 z1 z2 z3 z4 z5 z6 z7 z8 z9 z10 z11 z12 z13 z14 z15 z16 z17 z18 z19 z20 z21 z22 z23 z24 z25 z26 z27 z28 z29 z30)=Q2s.r10 n (Q2s.l n m) z1 z2 z3 z4 z5 z6 z7 z8 z9 z10 z11 z12 z13 z14 z15 z16 z17 z18 z19 z20 z21 z22 z23 z24 z25 z26 z27 z28 z29 z30:=rfl
theorem Q2s.at13 (n m z1 z2 z3 z4 z5 z6 z7 z8 z9 z10 z11 z12 z13 z14 z15 z16 z17 z18 z19 z20):Q2s.l n (m+1) (.z13 z1 z2 z3 z4 z5 z6 z7 z8 z9 z10 z11 z12 z13 z14 z15 z16 z17 z18 z19 z20)=Q2s.r13 n (Q2s.l n m) z1 z2 z3 z4 z5 z6 z7 z8 z9 z10 z11 z12 z13 z14 z15 z16 z17 z18 z19 z20:=rfl
theorem Q23.at3 (n m z1 z2 z3):Q23.l n (m+1) (.z3 z1 z2 z3)=Q23.r3 n (Q23.l n m) z1 z2 z3:=rfl
theorem Q2z.at12 (n m z1 z2 z3 z4 z5 z6 z7 z8 z9 z10):Q2z.l n (m+1) (.z12 z1 z2 z3 z4 z5 z6 z7 z8 z9 z10)=Q2z.r12 n (Q2z.l n m) z1 z2 z3 z4 z5 z6 z7 z8 z9 z10:=rfl
theorem Q2z.at15 (n m z1 z2 z3 z4 z5 z6 z7 z8 z9 z10 z11):Q2z.l n (m+1) (.z15 z1 z2 z3 z4 z5 z6 z7 z8 z9 z10 z11)=Q2z.r15 n (Q2z.l n m) z1 z2 z3 z4 z5 z6 z7 z8 z9 z10 z11:=rfl
theorem Q2t.at4 (n m z1 z2 z3 z4 z5 z6):Q2t.l n (m+1) (.z4 z1 z2 z3 z4 z5 z6)=Q2t.r4 n (Q2t.l n m) z1 z2 z3 z4 z5 z6:=rfl
theorem Q2t.at10 (n m z1 z2 z3 z4 z5 z6):Q2t.l n (m+1) (.z10 z1 z2 z3 z4 z5 z6)=Q2t.r10 n (Q2t.l n m) z1 z2 z3 z4 z5 z6:=rfl
theorem Q2t.at16 (n m z1 z2 z3 z4 z5 z6):Q2t.l n (m+1) (.z16 z1 z2 z3 z4 z5 z6)=Q2t.r16 n (Q2t.l n m) z1 z2 z3 z4 z5 z6:=rfl
theorem Q2j.at8 (n m z1 z2 z3 z4 z5 z6 z7 z8 z9 z10 z11 z12 z13 z14 z15 z16 z17 z18 z19 z20 z21 z22 z23):Q2j.l n (m+1) (.z8 z1 z2 z3 z4 z5 z6 z7 z8 z9 z10 z11 z12 z13 z14 z15 z16 z17 z18 z19 z20 z21 z22 z23)=Q2j.r8 n (Q2j.l n m) z1 z2 z3 z4 z5 z6 z7 z8 z9 z10 z11 z12 z13 z14 z15 z16 z17 z18 z19 z20 z21 z22 z23:=rfl
theorem Q2l.at7 (n m z1 z2 z3 z4 z5 z6 z7 z8 z9 z10 z11 z12 z13 z14 z15 z16 z17 z18):Q2l.l n (m+1) (.z7 z1 z2 z3 z4 z5 z6 z7 z8 z9 z10 z11 z12 z13 z14 z15 z16 z17 z18)=Q2l.r7 n (Q2l.l n m) z1 z2 z3 z4 z5 z6 z7 z8 z9 z10 z11 z12 z13 z14 z15 z16 z17 z18:=rfl
theorem Q2u.at3 (n m z1):Q2u.l n (m+1) (.z3 z1)=Q2u.r3 n (Q2u.l n m) z1:=rfl
theorem Q26.at2 (n m z1 z2 z3 z4 z5 z6):Q26.l n (m+1) (.z2 z1 z2 z3 z4 z5 z6)=Q26.r2 n (Q26.l n m) z1 z2 z3 z4 z5 z6:=rfl
theorem Q26.at6 (n m z1 z2 z3 z4 z5 z6 z7):Q26.l n (m+1) (.z6 z1 z2 z3 z4 z5 z6 z7)=Q26.r6 n (Q26.l n m) z1 z2 z3 z4 z5 z6 z7:=rfl
theorem Q26.at16 (n m z1 z2 z3 z4 z5 z6 z7 z8):Q26.l n (m+1) (.z16 z1 z2 z3 z4 z5 z6 z7 z8)=Q26.r16 n (Q26.l n m) z1 z2 z3 z4 z5 z6 z7 z8:=rfl
theorem Q26.at23 (n m z1 z2 z3 z4 z5 z6 z7 z8):Q26.l n (m+1) (.z23 z1 z2 z3 z4 z5 z6 z7 z8)=Q26.r23 n (Q26.l n m) z1 z2 z3 z4 z5 z6 z7 z8:=rfl
theorem Q09.at4 (n m z1 z2 z3):Q09.l n (m+1) (.z4 z1 z2 z3)=Q09.r4 n (Q09.l n m) z1 z2 z3:=rfl
theorem Q0j.at4 (n m z1 z2 z3 z4):Q0j.l n (m+1) (.z4 z1 z2 z3 z4)=Q0j.r4 n (Q0j.l n m) z1 z2 z3 z4:=rfl
theorem Q0j.at10 (n m z1 z2 z3 z4):Q0j.l n (m+1) (.z10 z1 z2 z3 z4)=Q0j.r10 n (Q0j.l n m) z1 z2 z3 z4:=rfl
theorem Q18.at3 (n m z1 z2 z3 z4 z5 z6 z7):Q18.l n (m+1) (.z3 z1 z2 z3 z4 z5 z6 z7)=Q18.r3 n (Q18.l n m) z1 z2 z3 z4 z5 z6 z7:=rfl
theorem Q10.at2 (n m z1 z2 z3 z4 z5):Q10.l n (m+1) (.z2 z1 z2 z3 z4 z5)=Q10.r2 n (Q10.l n m) z1 z2 z3 z4 z5:=rfl
theorem Q17.at4 (n m z1 z2 z3 z4 z5 z6):Q17.l n (m+1) (.z4 z1 z2 z3 z4 z5 z6)=Q17.r4 n (Q17.l n m) z1 z2 z3 z4 z5 z6:=rfl
theorem Q17.at11 (n m z1 z2 z3 z4 z5 z6):Q17.l n (m+1) (.z11 z1 z2 z3 z4 z5 z6)=Q17.r11 n (Q17.l n m) z1 z2 z3 z4 z5 z6:=rfl
theorem Q17.at18 (n m z1 z2 z3 z4 z5 z6):Q17.l n (m+1) (.z18 z1 z2 z3 z4 z5 z6)=Q17.r18 n (Q17.l n m) z1 z2 z3 z4 z5 z6:=rfl
theorem Q0b.at4 (n m z1 z2):Q0b.l n (m+1) (.z4 z1 z2)=Q0b.r4 n (Q0b.l n m) z1 z2:=rfl
theorem Q0b.at5 (n m z1 z2):Q0b.l n (m+1) (.z5 z1 z2)=Q0b.r5 n (Q0b.l n m) z1 z2:=rfl
theorem Q0b.at8 (n m z1 z2 z3 z4):Q0b.l n (m+1) (.z8 z1 z2 z3 z4)=Q0b.r8 n (Q0b.l n m) z1 z2 z3 z4:=rfl
theorem Q1d.at5 (n m z1 z2 z3 z4 z5 z6 z7 z8 z9 z10 z11):Q1d.l n (m+1) (.z5 z1 z2 z3 z4 z5 z6 z7 z8 z9 z10 z11)=Q1d.r5 n (Q1d.l n m) z1 z2 z3 z4 z5 z6 z7 z8 z9 z10 z11:=rfl
theorem Q1d.at8 (n m z1 z2 z3 z4 z5 z6 z7 z8 z9 z10 z11):Q1d.l n (m+1) (.z8 z1 z2 z3 z4 z5 z6 z7 z8 z9 z10 z11)=Q1d.r8 n (Q1d.l n m) z1 z2 z3 z4 z5 z6 z7 z8 z9 z10 z11:=rfl
theorem Q0e.at3 (n m z1 z2 z3):Q0e.l n (m+1) (.z3 z1 z2 z3)=Q0e.r3 n (Q0e.l n m) z1 z2 z3:=rfl
theorem Q0y.at7 (n m):Q0y.l n (m+1) .z7=Q0y.r7 n (Q0y.l n m):=rfl
theorem Q0y.at8 (n m z1 z2 z3 z4 z5):Q0y.l n (m+1) (.z8 z1 z2 z3 z4 z5)=Q0y.r8 n (Q0y.l n m) z1 z2 z3 z4 z5:=rfl
theorem Q1j.at20 (n m z1 z2 z3 z4 z5 z6 z7 z8 z9 z10):Q1j.l n (m+1) (.z20 z1 z2 z3 z4 z5 z6 z7 z8 z9 z10)=Q1j.r20 n (Q1j.l n m) z1 z2 z3 z4 z5 z6 z7 z8 z9 z10:=rfl
theorem Q1j.at23 (n m z1 z2 z3 z4 z5 z6 z7 z8 z9 z10 z11 z12 z13 z14 z15):Q1j.l n (m+1) (.z23 z1 z2 z3 z4 z5 z6 z7 z8 z9 z10 z11 z12 z13 z14 z15)=Q1j.r23 n (Q1j.l n m) z1 z2 z3 z4 z5 z6 z7 z8 z9 z10 z11 z12 z13 z14 z15:=rfl
theorem Q1j.at28 (n m z1 z2 z3 z4 z5 z6 z7 z8 z9 z10 z11 z12 z13 z14 z15 z16 z17 z18 z19 z20):Q1j.l n (m+1) (.z28 z1 z2 z3 z4 z5 z6 z7 z8 z9 z10 z11 z12 z13 z14 z15 z16 z17 z18 z19 z20)=Q1j.r28 n (Q1j.l n m) z1 z2 z3 z4 z5 z6 z7 z8 z9 z10 z11 z12 z13 z14 z15 z16 z17 z18 z19 z20:=rfl
theorem Q1l.at11 (n m):Q1l.l n (m+1) .z11=Q1l.r11 n (Q1l.l n m):=rfl
theorem Q1f.at7 (n m z1 z2 z3 z4 z5 z6 z7):Q1f.l n (m+1) (.z7 z1 z2 z3 z4 z5 z6 z7)=Q1f.r7 n (Q1f.l n m) z1 z2 z3 z4 z5 z6 z7:=rfl
theorem Q1f.at8 (n m z1 z2 z3 z4 z5 z6 z7):Q1f.l n (m+1) (.z8 z1 z2 z3 z4 z5 z6 z7)=Q1f.r8 n (Q1f.l n m) z1 z2 z3 z4 z5 z6 z7:=rfl
theorem Q1f.at28 (n m z1 z2 z3 z4 z5 z6 z7 z8):Q1f.l n (m+1) (.z28 z1 z2 z3 z4 z5 z6 z7 z8)=Q1f.r28 n (Q1f.l n m) z1 z2 z3 z4 z5 z6 z7 z8:=rfl
theorem Q11.at6 (n m z1 z2 z3 z4 z5 z6):Q11.l n (m+1) (.z6 z1 z2 z3 z4 z5 z6)=Q11.r6 n (Q11.l n m) z1 z2 z3 z4 z5 z6:=rfl
theorem Q11.at15 (n m z1 z2 z3 z4 z5 z6):Q11.l n (m+1) (.z15 z1 z2 z3 z4 z5 z6)=Q11.r15 n (Q11.l n m) z1 z2 z3 z4 z5 z6:=rfl
theorem Q11.at21 (n m z1 z2 z3 z4 z5 z6):Q11.l n (m+1) (.z21 z1 z2 z3 z4 z5 z6)=Q11.r21 n (Q11.l n m) z1 z2 z3 z4 z5 z6:=rfl
theorem Q3h.at2 (n m z1 z2 z3 z4):Q3h.l n (m+1) (.z2 z1 z2 z3 z4)=Q3h.r2 n (Q3h.l n m) z1 z2 z3 z4:=rfl
theorem Q04.at4 (n m z1 z2 z3):Q04.l n (m+1) (.z4 z1 z2 z3)=Q04.r4 n (Q04.l n m) z1 z2 z3:=rfl
end Go.Proofs.YtnoldakbllfmnaaGreatDoor.Ev
namespace Go.Proofs.YtnoldakbllfmnaaGreatDoor.Ev
open Go Go.Proofs Go.Proofs.Ev
set_option linter.unusedVariables false
set_option linter.unusedSimpArgs false
variable {R:Type}
theorem w64 {x:Int} (h1 : -9223372036854775808≤x) (h2:x≤9223372036854775807):IntKind.i64.wrap x=x:=by rw [IntKind.wrap_i64]; omega
theorem cond_t {α:Type} {p:Prop} [Decidable p] (h:p) (x y:α):(bif decide p then x else y)=x:=by simp [h]
theorem cond_f {α:Type} {p:Prop} [Decidable p] (h:¬ p) (x y:α):(bif decide p then x else y)=y:=by simp [h]
theorem within_t {i:Nat} {len:Nat} (h:i < len):(decide ((0:Int)≤(i:Int))&&decide ((i:Int) < (len:Int)))=true:=by
 rw [Bool.and_eq_true,decide_eq_true_eq,decide_eq_true_eq]; omega
theorem upto_t {i:Nat} {len:Nat} (h:i≤len):(decide ((0:Int)≤(i:Int))&&decide ((i:Int)≤(len:Int)))=true:=by
 rw [Bool.and_eq_true,decide_eq_true_eq,decide_eq_true_eq]; omega
theorem wsucc {i:Nat} (h:i≤1000000000):IntKind.i64.wrap ((i:Int)+1)=((i+1:Nat):Int):=by rw [w64] <;> omega
abbrev bs (l:List UInt8):ByteArray:=⟨l.toArray⟩
theorem bs_size (l:List UInt8):(bs l).size=l.length:=rfl
theorem bs_getD (l:List UInt8) (i:Nat):(bs l).data.getD i 0=l.getD i 0:=by
 rw [Array.getD_eq_getD_getElem?,List.getD_eq_getElem?_getD]
 simp
theorem getD_at {l:List UInt8} {i:Nat} (hi:i < l.length):(bs l).data.getD i 0=l[i]:=by
 rw [bs_getD]; simp [List.getD_eq_getElem?_getD,hi]
theorem bs_toList (l:List UInt8):(bs l).toList=l:=by rw [ByteArray.toList_eq]
def isD (c:UInt8):Bool:=decide (48≤c.toNat)&&decide (c.toNat≤57)
def valA (a:Nat) (l:List UInt8):Nat:=l.foldl (fun a b=>a*10+(b.toNat - 48)) a
def lead (l:List UInt8):Nat:=(l.takeWhile isD).length
theorem cond_eq (n:Nat) (b:Bool) (e:Int):Q2g.F n b e=some (if b then e else 0):=by cases b <;> rfl
theorem ncond_eq (n:Nat) (b:Bool) (e:Int):Q1v.F n b e=some (if b then e else 0):=by cases b <;> rfl
theorem in_eq (n:Nat) (a b c:Int):Q1z.F n a b c=some (decide (b≤a∧a≤c)):=by
 unfold Q1z.F Q1z.e
 by_cases h:b≤a
 ·rw [cond_t h]; simp [h]
 ·rw [cond_f h]; simp [h]
theorem Within_eq (n:Nat) (a b c:Int):Q0i.F n a b c=some (decide (b≤a∧a≤c)):=by
 unfold Q0i.F Q0i.e
 by_cases h:b≤a
 ·rw [cond_t h]; simp [h]
 ·rw [cond_f h]; simp [h]
def fz:List Int→Int
 | []=>0
 | x::r=>if x≠0 then x else fz r
theorem first_l (n:Nat) (xs:List Int) (hx:xs.length≤1000):∀ (d i m:Nat),i+d=xs.length→d < m→Q2i.l n m (.z2 (xs.map vi) xs.length i)=some (fz (xs.drop i))
 | _,_,0,_,h=>absurd h (by omega)
 | 0,i,m+1,h,_=>by
  show Q2i.r2 n (Q2i.l n m) _ _ _=_
  unfold Q2i.r2
  rw [cond_f (by omega),List.drop_of_length_le (by omega)]
  rfl
 | d+1,i,m+1,h,hm=>by
  have hi:i < xs.length:=by omega
  have ih:=first_l n xs hx d (i+1) m (by omega) (by omega)
  show Q2i.r2 n (Q2i.l n m) _ _ _=_
  unfold Q2i.r2
  rw [cond_t (by omega),List.length_map,within_t hi,cond_true]
  have e:(xs.map vi).getD (((i:Nat):Int)).toNat AV.undef=vi xs[i]:=by simp [List.getD_eq_getElem?_getD,hi]
  rw [e,List.drop_eq_getElem_cons hi]
  show (bif xs[i] != 0 then some xs[i] else _)=_
  by_cases h0:xs[i]=0
  ·have:(xs[i] != 0)=false:=by simp [h0]
   rw [this,cond_false,wsucc (by omega),ih]
   simp [fz,h0]
  ·have:(xs[i] != 0)=true:=by simp [h0]
   rw [this,cond_true]
   simp [fz,h0]
theorem first_eq {n:Nat} (xs:List Int) (hx:xs.length≤1000) (hn:1001≤n):Q2i.F n (xs.map vi)=some (fz xs):=by
 unfold Q2i.F Q2i.e
 rw [List.length_map]
 exact first_l n xs hx xs.length 0 n (by omega) (by omega)
theorem first2 {n:Nat} (hn:1001≤n) (a b:Int):Q2i.F n [vi a,vi b]=some (if a≠0 then a else b):=by
 have:=first_eq (n:=n) [a,b] (by simp) hn
 rw [show ([a,b]:List Int).map vi=[vi a,vi b] from rfl] at this
 rw [this]
 by_cases h:a=0 <;> by_cases h2:b=0 <;> simp [fz,h,h2]
theorem nfirst_l (n:Nat) (xs:List Int) (hx:xs.length≤1000):∀ (d i m:Nat),i+d=xs.length→d < m→Q1y.l n m (.z2 (xs.map vi) xs.length i)=some (fz (xs.drop i))
 | _,_,0,_,h=>absurd h (by omega)
 | 0,i,m+1,h,_=>by
  show Q1y.r2 n (Q1y.l n m) _ _ _=_
  unfold Q1y.r2
  rw [cond_f (by omega),List.drop_of_length_le (by omega)]
  rfl
 | d+1,i,m+1,h,hm=>by
  have hi:i < xs.length:=by omega
  have ih:=nfirst_l n xs hx d (i+1) m (by omega) (by omega)
  show Q1y.r2 n (Q1y.l n m) _ _ _=_
  unfold Q1y.r2
  rw [cond_t (by omega),List.length_map,within_t hi,cond_true]
  have e:(xs.map vi).getD (((i:Nat):Int)).toNat AV.undef=vi xs[i]:=by simp [List.getD_eq_getElem?_getD,hi]
  rw [e,List.drop_eq_getElem_cons hi]
  show (bif xs[i] != 0 then some xs[i] else _)=_
  by_cases h0:xs[i]=0
  ·have:(xs[i] != 0)=false:=by simp [h0]
   rw [this,cond_false,wsucc (by omega),ih]
   simp [fz,h0]
  ·have:(xs[i] != 0)=true:=by simp [h0]
   rw [this,cond_true]
   simp [fz,h0]
theorem nfirst_eq {n:Nat} (xs:List Int) (hx:xs.length≤1000) (hn:1001≤n):Q1y.F n (xs.map vi)=some (fz xs):=by
 unfold Q1y.F Q1y.e
 rw [List.length_map]
 exact nfirst_l n xs hx xs.length 0 n (by omega) (by omega)
theorem nfirst2 {n:Nat} (hn:1001≤n) (a b:Int):Q1y.F n [vi a,vi b]=some (if a≠0 then a else b):=by
 have:=nfirst_eq (n:=n) [a,b] (by simp) hn
 rw [show ([a,b]:List Int).map vi=[vi a,vi b] from rfl] at this
 rw [this]
 by_cases h:a=0 <;> by_cases h2:b=0 <;> simp [fz,h,h2]
def chkT (k a b:Int):Int:=
 if k=0 then (if ¬ (1≤a∧a≤256) then 18 else if b≠0 then 3 else 0)
 else if k=1∨k=2 then (if ¬ (1≤a∧a≤15) then 18 else if ¬ (0≤b∧b≤a) then 3 else 0)
 else if k=3 then (if ¬ (a=4∨a=9) then 18 else if ¬ (0≤b∧b≤a) then 3 else 0)
 else if k=4 then (if a≠0 then 18 else if b≠0 then 3 else 0)
 else 4
theorem beq_int (a b:Int):(a==b)=decide (a=b):=rfl
theorem r13_eq {n:Nat} (hn:1001≤n) (c:Q1p.Z→Option Int) (x y:Bool):Q1p.r13 n c x y=some (if !x then 18 else if !y then 3 else 0):=by
 unfold Q1p.r13
 rw [ncond_eq,Option.bind_some,ncond_eq,Option.bind_some,nfirst2 hn,Option.bind_some]
 cases x <;> cases y <;> rfl
theorem check_eq {n:Nat} (hn:1001≤n) (k a b:Int):Q1p.F n k a b=some (chkT k a b):=by
 obtain ⟨m,rfl⟩ : ∃ m,n=m+1:=⟨n - 1,by omega⟩
 unfold Q1p.F Q1p.e chkT
 have hl:∀ x y,Q1p.l (m+1) (m+1) (.z13 x y)=some (if !x then 18 else if !y then 3 else 0):=fun x y=>r13_eq hn (Q1p.l (m+1) m) x y
 simp only [hl,in_eq,Option.bind_some,beq_int]
 by_cases h0:k=0
 ·rw [cond_t h0]
  by_cases h1:1≤a∧a≤256 <;> by_cases h2:b=0 <;> simp only [h0,h1,h2] <;> (try simp) <;> (try (first | omega | (split <;> split <;> omega)))
 ·rw [cond_f h0]
  by_cases h1:k=1
  ·rw [cond_t h1]
   by_cases h2:1≤a∧a≤15 <;> by_cases h3:0≤b∧b≤a <;> simp only [h1,h2,h3] <;> (try simp) <;> (try (first | omega | (split <;> split <;> omega)))
  ·rw [cond_f h1]
   by_cases h2:k=2
   ·rw [cond_t h2]
    by_cases h4:1≤a∧a≤15 <;> by_cases h3:0≤b∧b≤a <;> simp only [h2,h4,h3] <;> (try simp) <;> (try (first | omega | (split <;> split <;> omega)))
   ·rw [cond_f h2]
    by_cases h3:k=3
    ·rw [cond_t h3]
     by_cases ha:a=4
     ·rw [cond_t ha]
      by_cases h5:0≤b∧b≤a <;> simp only [h3,h5] <;> (try simp [ha]) <;> (try (first | omega | (split <;> split <;> omega)))
     ·rw [cond_f ha]
      by_cases h6:a=9 <;> by_cases h5:0≤b∧b≤a <;> simp only [h3,h5,h6,ha] <;> (try simp) <;> (try (first | omega | (split <;> split <;> omega)))
    ·rw [cond_f h3]
     by_cases h4:k=4
     ·rw [cond_t h4]
      by_cases h5:a=0 <;> by_cases h6:b=0 <;> simp only [h4,h5,h6] <;> (try simp) <;> (try (first | omega | (split <;> split <;> omega)))
     ·rw [cond_f h4]
      simp [h0,h1,h2,h3,h4]
theorem count_eq (n:Nat) (b:Bool):Q06.F n b=some (if b then 1 else 0):=by cases b <;> rfl
theorem typeErr_eq {n:Nat} (hn:3≤n) (k a b:Int):Q0x.F n k a b=some (chkT k a b):=by
 obtain ⟨m,rfl⟩ : ∃ m,n=m+1:=⟨n - 1,by omega⟩
 unfold Q0x.F Q0x.e
 have hl:∀ x k a b,Q0x.l (m+1) (m+1) (.z12 x k a b)=some (if !x then 18 else if 1≤k∧k≤3 then (if 0≤b∧b≤a then 0 else 3) else (if b=0 then 0 else 3)):=by
  intro x k a b
  show Q0x.r12 (m+1) (Q0x.l (m+1) m) x k a b=_
  unfold Q0x.r12 Q0u.F Q0u.e
  cases x with
  | false=>rfl
  | true=>
   simp only [Within_eq,Option.bind_some,count_eq,Bool.not_true,cond_false]
   by_cases h:1≤k∧k≤3
   ·rw [cond_t h]
    simp only [Bool.false_eq_true,if_false,if_pos h]
    by_cases h2:0≤b∧b≤a
    ·simp only [h2,and_self,decide_true,Bool.not_true,Bool.false_eq_true,if_false,if_true]; rfl
    ·simp only [h2,decide_false,Bool.not_false,if_true,if_false]; rfl
   ·rw [cond_f h]
    simp only [Bool.false_eq_true,if_false,if_neg h]
    by_cases h2:b=0
    ·subst h2; rfl
    ·have:¬ (0≤b∧b≤0):=by omega
     simp only [h2,this,decide_false,Bool.not_false,if_true,if_false]; rfl
 simp only [hl,Within_eq,Option.bind_some,beq_int]
 unfold chkT
 by_cases hk:0≤k∧k≤4
 ·have:(!decide (0≤k∧k≤4))=false:=by simp [hk]
  rw [this,cond_false]
  by_cases h0:k=0
  ·rw [cond_t h0]
   by_cases h1:1≤a∧a≤256 <;> by_cases h2:b=0 <;> simp only [h0,h1,h2] <;> (try simp) <;> (try (first | omega | (split <;> split <;> omega)))
  ·rw [cond_f h0]
   by_cases h1:k=1
   ·rw [cond_t h1]
    by_cases h2:1≤a∧a≤15 <;> by_cases h3:0≤b∧b≤a <;> simp only [h1,h2,h3] <;> (try simp) <;> (try (first | omega | (split <;> split <;> omega)))
   ·rw [cond_f h1]
    by_cases h2:k=2
    ·rw [cond_t h2]
     by_cases h4:1≤a∧a≤15 <;> by_cases h3:0≤b∧b≤a <;> simp only [h2,h4,h3] <;> (try simp) <;> (try (first | omega | (split <;> split <;> omega)))
    ·rw [cond_f h2]
     by_cases h3:k=3
     ·rw [cond_t h3]
      by_cases ha:a=4
      ·rw [cond_t ha]
       by_cases h5:0≤b∧b≤a <;> simp only [h3,h5] <;> (try simp [ha]) <;> (try (first | omega | (split <;> split <;> omega)))
      ·rw [cond_f ha]
       by_cases h6:a=9 <;> by_cases h5:0≤b∧b≤a <;> simp only [h3,h5,h6,ha] <;> (try simp) <;> (try (first | omega | (split <;> split <;> omega)))
     ·rw [cond_f h3]
      have h4:k=4:=by omega
      by_cases h5:a=0 <;> by_cases h6:b=0 <;> simp only [h4,h5,h6] <;> (try simp) <;> (try (first | omega | (split <;> split <;> omega)))
 ·have:(!decide (0≤k∧k≤4))=true:=by simp; omega
  rw [this,cond_true,if_neg (by omega),if_neg (by omega),if_neg (by omega),if_neg (by omega)]
theorem empty_eq (l:List UInt8):((bs l).toList==(⟨#[]⟩ : ByteArray).toList)=decide (l=[]):=by
 rw [bs_toList,show (⟨#[]⟩ : ByteArray).toList=([]:List UInt8) from bs_toList []]
 cases l <;> rfl
theorem byte_ne (c u:UInt8) (k:Nat) (hu:u.toNat=k):((((c.toNat:Nat):Int)) != ((k:Nat):Int))=decide (c≠u):=by
 have:(((c.toNat:Nat):Int)=((k:Nat):Int))↔c=u:=by
  constructor
  ·intro h
   apply UInt8.toNat_inj.1
   omega
  ·rintro rfl
   omega
 rw [Bool.eq_iff_iff,bne_iff_ne,decide_eq_true_eq]
 exact not_congr this
theorem byte_eq (c u:UInt8) (k:Nat) (hu:u.toNat=k):((((c.toNat:Nat):Int))==((k:Nat):Int))=decide (c=u):=by
 have:(((c.toNat:Nat):Int)=((k:Nat):Int))↔c=u:=by
  constructor
  ·intro h
   apply UInt8.toNat_inj.1
   omega
  ·rintro rfl
   omega
 rw [Bool.eq_iff_iff,beq_iff_eq,decide_eq_true_eq]
 exact this
def Ws (ws:List (List UInt8)):List AV:=ws.map fun w=>vs (bs w)
theorem Ws_length (a:List (List UInt8)):(Ws a).length=a.length:=by simp [Ws]
def nmL (c:UInt8):Bool:=(decide (65≤c.toNat)&&decide (c.toNat≤90))||(decide (c=35)||(decide (c=36)||decide (c=64)))
def nmO (c:UInt8):Bool:=isD c||(decide (c=95)||decide (c=46))
def chkN:Nat→List UInt8→Bool
 | _,[]=>true
 | i,c::r=>(nmL c||(decide (i≠0)&&nmO c))&&chkN (i+1) r
theorem chkN_cons (i:Nat) (c:UInt8) (r:List UInt8):chkN i (c::r)=((nmL c||(decide (i≠0)&&nmO c))&&chkN (i+1) r):=rfl
def isNm (l:List UInt8):Bool:=(decide (1≤l.length)&&decide (l.length≤10))&&chkN 0 l
theorem let3 {α:Type} (f:Bool→α) (a b c d e:Bool):(bif a then (bif b then f true else (bif c then f true else (bif d then f true else f e))) else (bif c then f true else (bif d then f true else f e)))=f ((a&&b)||(c||(d||e))):=by
 cases a <;> cases b <;> cases c <;> cases d <;> rfl
theorem let2 {α:Type} (g:Bool→α) (a b c d:Bool):(bif a then (bif b then g true else (bif c then g true else g d)) else (bif c then g true else g d))=g ((a&&b)||(c||d)):=by
 cases a <;> cases b <;> cases c <;> rfl
theorem le_byte (c:UInt8) (k:Nat):decide ((k:Int)≤((c.toNat:Nat):Int))=decide (k≤c.toNat):=by rw [decide_eq_decide]; omega
theorem byte_le2 (c:UInt8) (k:Nat):decide (((c.toNat:Nat):Int)≤(k:Int))=decide (c.toNat≤k):=by rw [decide_eq_decide]; omega
theorem isName_l (n:Nat) (l:List UInt8) (hl:l.length≤1000):∀ (d i m:Nat),i+d=l.length→3*d < m→Q2o.l n m (.z4 l.length i (l.map fun b=>vu b.toNat))=some (chkN i (l.drop i))
 | _,_,0,_,h=>absurd h (by omega)
 | 0,i,m+1,h,_=>by
  rw [Q2o.at4]
  unfold Q2o.r4
  rw [cond_f (by omega),List.drop_of_length_le (by omega)]
  rfl
 | d+1,i,m+1,h,hm=>by
  have hi:i < l.length:=by omega
  obtain ⟨m,rfl⟩ : ∃ q,m=q+2:=⟨m - 2,by omega⟩
  have ih:=isName_l n l hl d (i+1) m (by omega) (by omega)
  have e:(l.map fun b=>vu b.toNat).getD (((i:Nat):Int)).toNat AV.undef=vu l[i].toNat:=by simp [List.getD_eq_getElem?_getD,hi]
  have h8:∀ z2 z3,Q2o.l n (m+1) (.z8 i z2 z3 l.length i (l.map fun b=>vu b.toNat))=some ((z2||(decide (i≠0)&&z3))&&chkN (i+1) (l.drop (i+1))):=by
   intro z2 z3
   rw [Q2o.at8]
   unfold Q2o.r8
   rw [wsucc (by omega),ih,beq_int]
   cases z2 with
   | true=>rfl
   | false=>
    by_cases h0:i=0
    ·subst h0; rfl
    ·rw [Bool.not_false,cond_true,cond_f (by omega)]
     cases z3 <;> simp [h0]
  have h7:∀ b,Q2o.l n (m+2) (.z7 i ((l[i].toNat:Nat):Int) b l.length i (l.map fun b=>vu b.toNat))=some ((b||(decide (i≠0)&&nmO l[i]))&&chkN (i+1) (l.drop (i+1))):=by
   intro b
   rw [Q2o.at7]
   unfold Q2o.r7
   rw [let2 (fun q=>Q2o.l n (m+1) (.z8 i b q l.length i (l.map fun b=>vu b.toNat))),h8]
   unfold nmO isD
   rw [show (48:Int)=((48:Nat):Int) from rfl,le_byte,show (57:Int)=((57:Nat):Int) from rfl,byte_le2,show (95:Int)=((95:Nat):Int) from rfl,byte_eq _ 95 95 rfl,show (46:Int)=((46:Nat):Int) from rfl,byte_eq _ 46 46 rfl]
  rw [Q2o.at4]
  unfold Q2o.r4
  rw [cond_t (by omega),List.length_map,within_t hi,cond_true,e,List.drop_eq_getElem_cons hi]
  show (bif decide ((65:Int)≤((l[i].toNat:Nat):Int)) then _ else _)=_
  rw [let3 (fun q=>Q2o.l n (m+2) (.z7 i ((l[i].toNat:Nat):Int) q l.length i (l.map fun b=>vu b.toNat))),h7]
  rw [chkN_cons]
  unfold nmL
  rw [show (65:Int)=((65:Nat):Int) from rfl,le_byte,show (90:Int)=((90:Nat):Int) from rfl,byte_le2,show (35:Int)=((35:Nat):Int) from rfl,byte_eq _ 35 35 rfl,show (36:Int)=((36:Nat):Int) from rfl,byte_eq _ 36 36 rfl,
   show (64:Int)=((64:Nat):Int) from rfl,byte_eq _ 64 64 rfl]
theorem isName_eq {n:Nat} (hn:1001≤n) (l:List UInt8):Q2o.F n (bs l)=some (isNm l):=by
 unfold Q2o.F Q2o.e isNm
 rw [empty_eq]
 simp only [bs_size,bs_toList,List.length_map]
 by_cases h0:l=[]
 ·rw [cond_t h0]
  subst h0
  rfl
 ·have hpos:0 < l.length:=List.length_pos_iff.2 h0
  rw [cond_f h0]
  by_cases h1:l.length > 10
  ·rw [cond_t (by omega)]
   have:decide (l.length≤10)=false:=by rw [decide_eq_false_iff_not]; omega
   rw [this]; simp
  ·rw [cond_f (by omega)]
   have h2:decide (l.length≤10)=true:=by rw [decide_eq_true_eq]; omega
   have h3:decide (1≤l.length)=true:=by rw [decide_eq_true_eq]; omega
   rw [h2,h3]
   have:=isName_l n l (by omega) l.length 0 n (by omega) (by omega)
   rw [List.drop_zero] at this
   exact this
theorem isUpper_eq (n:Nat) (c:UInt8):Q0c.F n ((c.toNat:Nat):Int)=some (decide (65≤c.toNat)&&decide (c.toNat≤90)):=by
 unfold Q0c.F Q0c.e
 rw [show (65:Int)=((65:Nat):Int) from rfl,le_byte,show (90:Int)=((90:Nat):Int) from rfl,byte_le2]
 cases decide (65≤c.toNat) <;> rfl
theorem isDig_eq (n:Nat) (c:UInt8):Q0a.F n ((c.toNat:Nat):Int)=some (isD c):=by
 unfold Q0a.F Q0a.e isD
 rw [show (48:Int)=((48:Nat):Int) from rfl,le_byte,show (57:Int)=((57:Nat):Int) from rfl,byte_le2]
 cases decide (48≤c.toNat) <;> rfl
theorem let3' {α:Type} (f:Bool→α) (p c d e:Bool):(bif p then f true else (bif c then f true else (bif d then f true else f e)))=f (p||(d||(c||e))):=by
 cases p <;> cases c <;> cases d <;> rfl
theorem isNameR_l (n:Nat) (l:List UInt8) (hl:l.length≤1000):∀ (d i m:Nat),i+d=l.length→3*d < m→Q0b.l n m (.z4 (bs l) i)=some (chkN i (l.drop i))
 | _,_,0,_,h=>absurd h (by omega)
 | 0,i,m+1,h,_=>by
  rw [Q0b.at4]
  unfold Q0b.r4
  simp only [bs_size]
  rw [cond_f (by omega),List.drop_of_length_le (by omega)]
  rfl
 | d+1,i,m+1,h,hm=>by
  have hi:i < l.length:=by omega
  obtain ⟨m,rfl⟩ : ∃ q,m=q+2:=⟨m - 2,by omega⟩
  have ih:=isNameR_l n l hl d (i+1) m (by omega) (by omega)
  have h5:Q0b.l n (m+1) (.z5 (bs l) i)=some (chkN (i+1) (l.drop (i+1))):=by
   rw [Q0b.at5]
   unfold Q0b.r5
   rw [wsucc (by omega),ih]
  have h8:∀ b,Q0b.l n (m+2) (.z8 (bs l) i ((l[i].toNat:Nat):Int) b)=some ((b||(decide (i≠0)&&nmO l[i]))&&chkN (i+1) (l.drop (i+1))):=by
   intro b
   rw [Q0b.at8]
   unfold Q0b.r8
   rw [isDig_eq,Option.bind_some,h5,beq_int,show (95:Int)=((95:Nat):Int) from rfl,byte_ne _ 95 95 rfl,show (46:Int)=((46:Nat):Int) from rfl,byte_ne _ 46 46 rfl]
   unfold nmO
   cases b with
   | true=>rfl
   | false=>
    by_cases h0:i=0
    ·subst h0; rfl
    ·rw [Bool.not_false,cond_true,cond_f (by omega)]
     by_cases h1:l[i]=95 <;> by_cases h2:l[i]=46 <;> cases isD l[i] <;> simp [h0,h1,h2]
  rw [Q0b.at4]
  unfold Q0b.r4
  simp only [bs_size,within_t hi,Int.toNat_natCast,getD_at hi,cond_true]
  rw [cond_t (by omega),isUpper_eq,Option.bind_some,let3' (fun q=>Q0b.l n (m+2) (.z8 (bs l) i ((l[i].toNat:Nat):Int) q)),h8,List.drop_eq_getElem_cons hi]
  rw [chkN_cons]
  unfold nmL
  rw [show (35:Int)=((35:Nat):Int) from rfl,byte_eq _ 35 35 rfl,show (36:Int)=((36:Nat):Int) from rfl,byte_eq _ 36 36 rfl,
   show (64:Int)=((64:Nat):Int) from rfl,byte_eq _ 64 64 rfl]
theorem isNameR_eq {n:Nat} (hn:1001≤n) (l:List UInt8):Q0b.F n (bs l)=some (isNm l):=by
 unfold Q0b.F Q0b.e isNm
 rw [Within_eq,Option.bind_some,bs_size]
 have e:decide ((1:Int)≤((l.length:Nat):Int)∧((l.length:Nat):Int)≤10)=(decide (1≤l.length)&&decide (l.length≤10)):=by
  rw [← Bool.decide_and,decide_eq_decide]; omega
 rw [e]
 cases h:(decide (1≤l.length)&&decide (l.length≤10)) with
 | false=>rfl
 | true=>
  rw [Bool.and_eq_true,decide_eq_true_eq,decide_eq_true_eq] at h
  have:=isNameR_l n l (by omega) l.length 0 n (by omega) (by omega)
  rw [List.drop_zero] at this
  exact this
theorem str_eq (a b:List UInt8):((bs a).toList==(bs b).toList)=decide (a=b):=by
 rw [bs_toList,bs_toList]
 by_cases h:a=b <;> simp [h]
def ixs:List (List UInt8)→List UInt8→Nat→Int
 | [],_,_=>-1
 | w::r,s,i=>if w=s then (i:Int) else ixs r s (i+1)
theorem ixs_cons (w:List UInt8) (r:List (List UInt8)) (s:List UInt8) (i:Nat):ixs (w::r) s i=if w=s then (i:Int) else ixs r s (i+1):=rfl
theorem ixs_has:∀ (ws:List (List UInt8)) (s:List UInt8) (i:Nat),decide (ixs ws s i≥0)=ws.contains s
 | [],s,i=>by simp [ixs]
 | w::r,s,i=>by
  unfold ixs
  rw [List.contains_cons]
  by_cases h:w=s
  ·subst h; simp
  ·have:(s==w)=false:=by simpa using fun e=>h e.symm
   rw [if_neg h,this,Bool.false_or,ixs_has r s (i+1)]
theorem ixs_lt:∀ (ws:List (List UInt8)) (s:List UInt8) (i k:Nat),k < ws.length→ws[k]?=some s→decide (ixs ws s i < ((i+k:Nat):Int))=(ws.take k).contains s
 | w::r,s,i,0,_,h=>by
  simp at h
  subst h
  simp [ixs]
 | w::r,s,i,k+1,hk,h=>by
  unfold ixs
  rw [List.take_succ_cons,List.contains_cons]
  by_cases e:w=s
  ·subst e; simp; omega
  ·have:(s==w)=false:=by simpa using fun e'=>e e'.symm
   rw [if_neg e,this,Bool.false_or,← ixs_lt r s (i+1) k (by simpa using hk) (by simpa using h),show i+(k+1)=i+1+k by omega]
theorem cells_agg (cs:List AV):(AV.agg cs).cells=cs:=rfl
theorem cells_v (x:Value):(AV.v x).cells=[.v x]:=rfl
theorem withCons_cons (c:AV) (r:List AV) (K:AV→List AV→Option R):withCons (c::r) K=K c r:=rfl
theorem withInt_mk (k:IntKind) (n:Int) (K:Int→Option R):withInt k (.v (.int k n)) K=K n:=by simp [withInt]
theorem withStr_mk (s:ByteArray) (K:ByteArray→Option R):withStr (.v (.string s)) K=K s:=rfl
theorem withBool_mk (b:Bool) (K:Bool→Option R):withBool (.v (.bool b)) K=K b:=rfl
theorem withSl_mk (fl:Fl) (sz:Nat) (xs:List AV) (K:List AV→Option R):withSl fl sz (.sl fl sz xs) K=K xs:=by
 have:(fl==fl)=true:=by simp
 simp [withSl]
theorem bif_ite {p:Prop} [Decidable p] (x y:R):(bif decide p then x else y)=if p then x else y:=by by_cases h:p <;> simp [h]
theorem bif_eq0 (a b:Int) (x y:R):(bif a==b then x else y)=if a=b then x else y:=by
 show (bif decide (a=b) then x else y)=_
 exact bif_ite x y
theorem bif_not (b:Bool) (x y:R):(bif !b then x else y)=if b=false then x else y:=by cases b <;> rfl
theorem at_mapN {α:Type} (f:α→AV) {l:List α} {i:Nat} (hi:i < l.length):(l.map f).getD i AV.undef=f l[i]:=by simp [List.getD_eq_getElem?_getD,hi]
theorem Ws_getDN {ws:List (List UInt8)} {i:Nat} (hi:i < ws.length):(Ws ws).getD i AV.undef=vs (bs ws[i]):=by simp [Ws,List.getD_eq_getElem?_getD,hi]
def szT (k l:Int):Int:=if k=1 then l / 2+1 else if k=3 then (if l=9 then 4 else 2) else if k=4 then 16 else l
theorem chkT_cases {k l s:Int} (h:chkT k l s=0):(k=0∧1≤l∧l≤256)∨((k=1∨k=2)∧1≤l∧l≤15)∨(k=3∧(l=4∨l=9))∨(k=4∧l=0):=by
 unfold chkT at h
 by_cases h0:k=0
 ·rw [if_pos h0] at h
  by_cases h1:1≤l∧l≤256
  ·exact .inl ⟨h0,h1⟩
  ·rw [if_pos h1] at h; cases h
 ·rw [if_neg h0] at h
  by_cases h1:k=1∨k=2
  ·rw [if_pos h1] at h
   by_cases h2:1≤l∧l≤15
   ·exact .inr (.inl ⟨h1,h2⟩)
   ·rw [if_pos h2] at h; cases h
  ·rw [if_neg h1] at h
   by_cases h3:k=3
   ·rw [if_pos h3] at h
    by_cases h2:l=4∨l=9
    ·exact .inr (.inr (.inl ⟨h3,h2⟩))
    ·rw [if_pos h2] at h; cases h
   ·rw [if_neg h3] at h
    by_cases h4:k=4
    ·rw [if_pos h4] at h
     by_cases h2:l=0
     ·exact .inr (.inr (.inr ⟨h4,h2⟩))
     ·rw [if_pos h2] at h; cases h
    ·rw [if_neg h4] at h; cases h
theorem szT_range {k l s:Int} (h:chkT k l s=0):0≤szT k l∧szT k l≤256:=by
 unfold szT
 rcases chkT_cases h with ⟨h1,h2⟩ | ⟨h1,h2⟩ | ⟨h1,h2⟩ | ⟨h1,h2⟩ <;> (repeat' split) <;> omega
theorem nsize_eq (n:Nat) {k l s:Int} (h:chkT k l s=0):Q25.F n k l s=some (szT k l):=by
 unfold Q25.F Q25.e szT
 have hc:=chkT_cases h
 have h0:0≤l∧l≤256:=by omega
 simp only [bif_eq0]
 rw [Int.tdiv_eq_ediv_of_nonneg h0.1,Int.tdiv_eq_ediv_of_nonneg h0.1]
 by_cases h1:k=1
 ·rw [if_pos h1,if_pos h1,w64 (x:=l / 2) (by omega) (by omega),w64 (by omega) (by omega)]
 ·rw [if_neg h1,if_neg h1]
  by_cases h3:k=3
  ·rw [if_pos h3,if_pos h3]
   have:l=4∨l=9:=by omega
   rcases this with rfl | rfl <;> rfl
  ·rw [if_neg h3,if_neg h3]
   split <;> rfl
theorem bsize_eq (n:Nat) {k l s:Int} (h:chkT k l s=0):Q0h.F n k l s=some (szT k l):=by
 unfold Q0h.F Q0h.e szT
 have hc:=chkT_cases h
 have h0:0≤l∧l≤256:=by omega
 simp only [bif_eq0]
 rw [Int.tdiv_eq_ediv_of_nonneg h0.1]
 by_cases h1:k=1
 ·rw [if_pos h1,if_pos h1,w64 (x:=l / 2) (by omega) (by omega),w64 (by omega) (by omega)]
 ·rw [if_neg h1,if_neg h1]
  by_cases h3:k=3
  ·rw [if_pos h3,if_pos h3,count_eq]
   have:l=4∨l=9:=by omega
   rcases this with rfl | rfl <;> rfl
  ·rw [if_neg h3,if_neg h3]
   split <;> rfl
theorem sizeOf_eq {n:Nat} (hn:1001≤n) {k l s:Int} (h:chkT k l s=0):Q1u.F n k l s=some (szT k l,0):=by
 unfold Q1u.F Q1u.e
 rw [check_eq hn,Option.bind_some,h]
 show ((Q25.F n k l s).bind fun p=>some (p,0))=_
 rw [nsize_eq n h]
 rfl
end Go.Proofs.YtnoldakbllfmnaaGreatDoor.Ev
namespace Go.Proofs.YtnoldakbllfmnaaGreatDoor.Ev
open Go Go.Proofs Go.Proofs.Ev
set_option linter.unusedVariables false
set_option linter.unusedSimpArgs false
theorem map_of {α:Type} (f:α→AV) (P:AV→Prop) (h:∀ y,P y→∃ a,y=f a):∀ xs:List AV,(∀ y∈xs,P y)→∃ l:List α,xs=l.map f
 | [],_=>⟨[],rfl⟩
 | x::xs,hx=>by
  obtain ⟨a,rfl⟩:=h x (hx x (by simp))
  obtain ⟨l,rfl⟩:=map_of f P h xs (fun y hy=>hx y (by simp [hy]))
  exact ⟨a::l,rfl⟩
theorem map_of' {α:Type} {f:α→AV} {P:AV→Prop} {xs:List AV} (hx:∀ y∈xs,P y) (h:∀ y,P y→∃ a,y=f a):∃ l:List α,xs=l.map f:=map_of f P h xs hx
structure OP where
 nm:List UInt8
 kd:Int
 k:Int
 l:Int
 s:Int
 vn:Int
 vx:List UInt8
 ba:List UInt8
 of:Int
 tg:Int
structure IN where
 op:Int
 ar:List Int
structure MN where
 fr:Int
 tt:Int
 ex:Int
 hd:Int
def OP.av (x:OP):AV:=.agg [vs (bs x.nm),vi x.kd,vi x.k,vi x.l,vi x.s,vi x.vn,vs (bs x.vx),vs (bs x.ba),vi x.of,vi x.tg]
def IN.av (x:IN):AV:=.agg [vi x.op,.sl ⟨true,3,false⟩ 1 (x.ar.map vi)]
def MN.av (x:MN):AV:=.agg [vi x.fr,vi x.tt,vi x.ex,vi x.hd]
def onames (os:List OP):List (List UInt8):=os.map OP.nm
theorem onames_length (os:List OP):(onames os).length=os.length:=by simp [onames]
theorem onames_get {os:List OP} {i:Nat} (hi:i < os.length):(onames os)[i]'(by rw [onames_length]; exact hi)=os[i].nm:=by simp [onames]
theorem onames_take (os:List OP) (i:Nat):onames (os.take i)=(onames os).take i:=by simp [onames,List.map_take]
theorem take_snocL {α β:Type} (f:α→β) {l:List α} {i:Nat} (hi:i < l.length):(l.take (i+1)).map f=(l.take i).map f++[f l[i]]:=by
 rw [List.take_succ_eq_append_getElem hi,List.map_append]; rfl
section
variable {n:Nat} {a1 a2:List AV}
theorem named_l (hn:1001≤n) (os:List OP) (ho:os.length≤1000) (s:List UInt8):∀ (d i m:Nat),i+d=os.length→d < m→Q00.l n m (.z2 (os.map OP.av) os.length i (bs s))=some (ixs ((onames os).drop i) s i,bs s)
 | _,_,0,_,h=>absurd h (by omega)
 | 0,i,m+1,h,_=>by
  have hl:=onames_length os
  rw [Q00.at2]
  unfold Q00.r2
  rw [cond_f (by omega),List.drop_of_length_le (by omega)]
  rfl
 | d+1,i,m+1,h,hm=>by
  have hi:i < os.length:=by omega
  have hl:=onames_length os
  have ih:=named_l hn os ho s d (i+1) m (by omega) (by omega)
  rw [Q00.at2]
  unfold Q00.r2
  simp (disch:=omega) only [Option.bind_some,Option.bind_none,cond_true,cond_false,Bool.not_true,Bool.not_false,List.length_map,Ws_length,bs_size,within_t,upto_t,wsucc,Int.toNat_natCast,at_mapN,Ws_getDN,cells_agg,cells_v,withCons_cons,withInt_mk,withStr_mk,withBool_mk,withSl_mk,cond_t,cond_f,OP.av]
  unfold Q2x.F Q2x.e
  simp (disch:=omega) only [Option.bind_some,Option.bind_none,cond_true,cond_false,Bool.not_true,Bool.not_false,List.length_map,Ws_length,bs_size,within_t,upto_t,wsucc,Int.toNat_natCast,at_mapN,Ws_getDN,cells_agg,cells_v,withCons_cons,withInt_mk,withStr_mk,withBool_mk,withSl_mk,cond_t,cond_f]
  rw [ih,List.drop_eq_getElem_cons (by omega:i < (onames os).length),ixs_cons,onames_get hi,str_eq]
  by_cases h1:os[i].nm=s
  ·rw [cond_t h1,if_pos h1]
  ·rw [cond_f h1,if_neg h1]
theorem named_eq (hn:1001≤n) (os:List OP) (ho:os.length≤1000) (s:List UInt8):Q2w.F n (os.map OP.av) (bs s)=some (ixs (onames os) s 0):=by
 unfold Q2w.F Q2w.e Q00.F Q00.e
 have:=named_l hn os ho s os.length 0 n (by omega) (by omega)
 rw [List.drop_zero] at this
 rw [List.length_map,show ((0:Int))=((0:Nat):Int) from rfl,this]
 rfl
theorem at_l (hn:1001≤n) (os:List OP) (ho:os.length≤1000) (s:List UInt8):∀ (d i m:Nat),i+d=os.length→d < m→Q10.l n m (.z2 (bs s) i (os.map OP.av) a1 a2)=some (ixs ((onames os).drop i) s i)
 | _,_,0,_,h=>absurd h (by omega)
 | 0,i,m+1,h,_=>by
  have hl:=onames_length os
  rw [Q10.at2]
  unfold Q10.r2
  simp only [List.length_map]
  rw [cond_f (by omega),List.drop_of_length_le (by omega)]
  rfl
 | d+1,i,m+1,h,hm=>by
  have hi:i < os.length:=by omega
  have hl:=onames_length os
  have ih:=at_l hn os ho s d (i+1) m (by omega) (by omega)
  rw [Q10.at2]
  unfold Q10.r2
  simp (disch:=omega) only [Option.bind_some,Option.bind_none,cond_true,cond_false,Bool.not_true,Bool.not_false,List.length_map,Ws_length,bs_size,within_t,upto_t,wsucc,Int.toNat_natCast,at_mapN,Ws_getDN,cells_agg,cells_v,withCons_cons,withInt_mk,withStr_mk,withBool_mk,withSl_mk,cond_t,cond_f,OP.av]
  rw [ih,List.drop_eq_getElem_cons (by omega:i < (onames os).length),ixs_cons,onames_get hi,str_eq]
  by_cases h1:os[i].nm=s
  ·rw [cond_t h1,if_pos h1]
  ·rw [cond_f h1,if_neg h1]
theorem at_eq (hn:1001≤n) (os:List OP) (ho:os.length≤1000) (s:List UInt8):Q10.F n (os.map OP.av) a1 a2 (bs s)=some (ixs (onames os) s 0):=by
 unfold Q10.F Q10.e
 have:=at_l (a1:=a1) (a2:=a2) hn os ho s os.length 0 n (by omega) (by omega)
 rw [List.drop_zero] at this
 rw [show ((0:Int))=((0:Nat):Int) from rfl,this]
def fewO (os:List OP):Bool:=os.all fun o=>!(decide (o.nm.length > 100)||decide (o.ba.length > 100)||decide (o.vx.length > 600))
def fewI (is:List IN):Bool:=is.all fun x=>decide (x.ar.length≤6)
theorem few_i (hn:1001≤n) (os:List OP) (ho:os.length≤1000) (is:List IN) (hi' : is.length≤1000) (ms:List MN):∀ (d i m:Nat),i+d=is.length→d < m→Q0j.l n m (.z10 i (os.map OP.av) (is.map IN.av) (ms.map MN.av))=some (fewI (is.drop i))
 | _,_,0,_,h=>absurd h (by omega)
 | 0,i,m+1,h,_=>by
  rw [Q0j.at10]
  unfold Q0j.r10
  simp only [List.length_map]
  rw [cond_f (by omega),List.drop_of_length_le (by omega)]
  rfl
 | d+1,i,m+1,h,hm=>by
  have hi:i < is.length:=by omega
  have ih:=few_i hn os ho is hi' ms d (i+1) m (by omega) (by omega)
  rw [Q0j.at10]
  unfold Q0j.r10
  simp (disch:=omega) only [Option.bind_some,Option.bind_none,cond_true,cond_false,Bool.not_true,Bool.not_false,List.length_map,Ws_length,bs_size,within_t,upto_t,wsucc,Int.toNat_natCast,at_mapN,Ws_getDN,cells_agg,cells_v,withCons_cons,withInt_mk,withStr_mk,withBool_mk,withSl_mk,cond_t,cond_f,IN.av,List.drop_succ_cons,List.drop_zero]
  rw [ih,List.drop_eq_getElem_cons hi]
  show _=some (decide (is[i].ar.length≤6)&&fewI (is.drop (i+1)))
  by_cases h1:is[i].ar.length≤6
  ·rw [cond_f (by omega),show decide (is[i].ar.length≤6)=true by simpa using h1,Bool.true_and]
  ·rw [cond_t (by omega),show decide (is[i].ar.length≤6)=false by simpa using h1,Bool.false_and]
theorem few_o (hn:1001≤n) (os:List OP) (ho:os.length≤100) (is:List IN) (hi' : is.length≤100) (ms:List MN):∀ (d i m:Nat),i+d=os.length→d+200 < m→Q0j.l n m (.z4 i (os.map OP.av) (is.map IN.av) (ms.map MN.av))=some (fewO (os.drop i)&&fewI is)
 | _,_,0,_,h=>absurd h (by omega)
 | 0,i,m+1,h,_=>by
  rw [Q0j.at4]
  unfold Q0j.r4
  simp only [List.length_map]
  rw [cond_f (by omega),List.drop_of_length_le (by omega)]
  have:=few_i hn os (by omega) is (by omega) ms is.length 0 m (by omega) (by omega)
  rw [List.drop_zero] at this
  rw [show ((0:Int))=((0:Nat):Int) from rfl,this]
  rfl
 | d+1,i,m+1,h,hm=>by
  have hi:i < os.length:=by omega
  obtain ⟨m',rfl⟩ : ∃ m',m=m'+1:=⟨m - 1,by omega⟩
  have ih:=few_o hn os ho is hi' ms d (i+1) (m'+1) (by omega) (by omega)
  have h8:Q0j.l n (m'+1) .z8=some false:=rfl
  rw [Q0j.at4]
  unfold Q0j.r4
  simp (disch:=omega) only [Option.bind_some,Option.bind_none,cond_true,cond_false,Bool.not_true,Bool.not_false,List.length_map,Ws_length,bs_size,within_t,upto_t,wsucc,Int.toNat_natCast,at_mapN,Ws_getDN,cells_agg,cells_v,withCons_cons,withInt_mk,withStr_mk,withBool_mk,withSl_mk,cond_t,cond_f,OP.av]
  rw [ih,h8,List.drop_eq_getElem_cons hi]
  show _=some ((!(decide (os[i].nm.length > 100)||decide (os[i].ba.length > 100)||decide (os[i].vx.length > 600))&&fewO (os.drop (i+1)))&&fewI is)
  have e1:∀ (a b:Nat),decide (((a:Nat):Int) > (b:Int))=decide (a > b):=fun a b=>by rw [decide_eq_decide]; omega
  rw [show (100:Int)=((100:Nat):Int) from rfl,show (600:Int)=((600:Nat):Int) from rfl,e1,e1,e1]
  cases decide (os[i].nm.length > 100) <;> cases decide (os[i].ba.length > 100) <;> cases decide (os[i].vx.length > 600) <;> simp
def fewP (os:List OP) (is:List IN) (ms:List MN):Bool:=(decide (os.length≤28)&&decide (is.length≤44)&&decide (ms.length≤9))&&(fewO os&&fewI is)
theorem few_eq (hn:1001≤n) (os:List OP) (is:List IN) (ms:List MN):Q0j.F n (os.map OP.av) (is.map IN.av) (ms.map MN.av)=some (fewP os is ms):=by
 unfold Q0j.F Q0j.e fewP
 obtain ⟨m,rfl⟩ : ∃ m,n=m+1:=⟨n - 1,by omega⟩
 have h2:Q0j.l (m+1) (m+1) .z2=some false:=rfl
 simp only [List.length_map,h2]
 by_cases h1:os.length≤28
 ·rw [cond_f (by omega)]
  by_cases h3:is.length≤44
  ·rw [cond_f (by omega)]
   by_cases h4:ms.length≤9
   ·rw [cond_f (by omega)]
    have:=few_o hn os (by omega) is (by omega) ms os.length 0 (m+1) (by omega) (by omega)
    rw [List.drop_zero] at this
    rw [show ((0:Int))=((0:Nat):Int) from rfl,this]
    simp [h1,h3,h4]
   ·rw [cond_t (by omega)]; simp [h4]
  ·rw [cond_t (by omega)]; simp [h3]
 ·rw [cond_t (by omega)]; simp [h1]
theorem fewP_spec {os:List OP} {is:List IN} {ms:List MN} (h:fewP os is ms=true):os.length≤28∧is.length≤44∧ms.length≤9∧(∀ o∈os,o.nm.length≤100∧o.ba.length≤100∧o.vx.length≤600)∧∀ x∈is,x.ar.length≤6:=by
 unfold fewP fewO fewI at h
 simp only [Bool.and_eq_true,decide_eq_true_eq,List.all_eq_true,Bool.not_eq_true',Bool.or_eq_false_iff,decide_eq_false_iff_not] at h
 refine ⟨h.1.1.1,h.1.1.2,h.1.2,fun o ho=>?_,h.2.2⟩
 have:=h.2.1 o ho
 omega
theorem own_l (hn:1001≤n) (is:List IN) (hi' : is.length≤1000) (hx:∀ x∈is,x.ar.length≤1000) (z2 z4 z5 z7:List AV):∀ (d i m:Nat),i+d=is.length→d < m→Q18.l n m (.z3 i z2 (is.map IN.av) z4 z5 ((is.take i).map IN.av) z7)=some (z5,is.map IN.av,z7)
 | _,_,0,_,h=>absurd h (by omega)
 | 0,i,m+1,h,_=>by
  rw [Q18.at3]
  unfold Q18.r3
  simp only [List.length_map]
  rw [cond_f (by omega),List.take_of_length_le (by omega)]
 | d+1,i,m+1,h,hm=>by
  have hi:i < is.length:=by omega
  have hmost:most=1000000000:=rfl
  have hxi:=hx is[i] (List.getElem_mem hi)
  have ih:=own_l hn is hi' hx z2 z4 z5 z7 d (i+1) m (by omega) (by omega)
  have hc:Q05.F n (is[i].ar.map vi)=some (is[i].ar.map vi):=by
   unfold Q05.F Q05.e
   rw [List.length_map,cond_t (by omega)]
  rw [Q18.at3]
  unfold Q18.r3
  simp (disch:=omega) only [Option.bind_some,Option.bind_none,cond_true,cond_false,Bool.not_true,Bool.not_false,List.length_map,Ws_length,bs_size,within_t,upto_t,wsucc,Int.toNat_natCast,at_mapN,Ws_getDN,cells_agg,cells_v,withCons_cons,withInt_mk,withStr_mk,withBool_mk,withSl_mk,cond_t,cond_f,IN.av,List.drop_succ_cons,List.drop_zero,hc,List.length_take,List.length_cons,List.length_nil]
  rw [take_snocL IN.av hi] at ih
  exact ih
theorem own_eq (hn:1001≤n) (os:List OP) (ho:os.length≤1000) (is:List IN) (hi' : is.length≤1000) (hx:∀ x∈is,x.ar.length≤1000) (ms:List MN) (hm:ms.length≤1000):Q18.F n (os.map OP.av) (is.map IN.av) (ms.map MN.av)=some (os.map OP.av,is.map IN.av,ms.map MN.av):=by
 unfold Q18.F Q18.e
 have hmost:most=1000000000:=rfl
 rw [List.length_map,List.length_map,cond_t (by omega),cond_t (by omega)]
 exact own_l hn is hi' hx _ _ _ _ is.length 0 n (by omega) (by omega)
end
end Go.Proofs.YtnoldakbllfmnaaGreatDoor.Ev
namespace Go.Proofs.YtnoldakbllfmnaaGreatDoor.Ev
open Go Go.Proofs Go.Proofs.Ev
set_option linter.unusedVariables false
set_option linter.unusedSimpArgs false
theorem bs_beq (a b:List UInt8):(bs a==bs b)=decide (a=b):=by
 show (a.toArray==b.toArray)=_
 by_cases h:a=b
 ·subst h; simp
 ·simp [h]
theorem bs_emp (a:List UInt8):(bs a==(⟨#[]⟩ : ByteArray))=decide (a=[]):=bs_beq a []
theorem emp_bs (a:List UInt8):((⟨#[]⟩ : ByteArray)==bs a)=decide (a=[]):=by
 have:=bs_beq [] a
 rw [show bs []=(⟨#[]⟩ : ByteArray) from rfl] at this
 rw [this,decide_eq_decide]
 exact ⟨fun h=>h.symm,fun h=>h.symm⟩
theorem ixs_app:∀ (a b:List (List UInt8)) (s:List UInt8) (j:Nat),ixs (a++b) s j=if a.contains s=true then ixs a s j else ixs b s (j+a.length)
 | [],b,s,j=>by simp
 | w::a,b,s,j=>by
  rw [List.cons_append,ixs_cons,ixs_cons,ixs_app a b s (j+1),List.contains_cons]
  by_cases h:w=s
  ·subst h; simp
  ·have:(s==w)=false:=by simpa using fun e=>h e.symm
   rw [if_neg h,this,Bool.false_or,List.length_cons,show j+1+a.length=j+(a.length+1) by omega]
   by_cases h2:a.contains s=true
   ·rw [if_pos h2,if_pos h2,if_neg h]
   ·rw [if_neg h2,if_neg h2]
theorem ixs_low:∀ (b:List (List UInt8)) (s:List UInt8) (j:Nat),ixs b s j=-1∨(j:Int)≤ixs b s j
 | [],s,j=>.inl rfl
 | w::b,s,j=>by
  rw [ixs_cons]
  by_cases h:w=s
  ·rw [if_pos h]; exact .inr (Int.le_refl _)
  ·rw [if_neg h]
   rcases ixs_low b s (j+1) with h1 | h1
   ·exact .inl h1
   ·exact .inr (by omega)
theorem ixs_in:∀ (b:List (List UInt8)) (s:List UInt8) (j:Nat),b.contains s=true→∃ k,k < b.length∧ixs b s j=((j+k:Nat):Int)∧b[k]?=some s
 | [],s,j,h=>by simp at h
 | w::b,s,j,h=>by
  rw [ixs_cons]
  by_cases e:w=s
  ·rw [if_pos e]; exact ⟨0,by simp,rfl,by simp [e]⟩
  ·rw [List.contains_cons,show (s==w)=false by simpa using fun e'=>e e'.symm,Bool.false_or] at h
   obtain ⟨k,h1,h2,h3⟩:=ixs_in b s (j+1) h
   rw [if_neg e,h2]
   exact ⟨k+1,by simpa using h1,by rw [show j+1+k=j+(k+1) by omega],by simpa using h3⟩
theorem ixs_out {b:List (List UInt8)} {s:List UInt8} (h:b.contains s=false) (j:Nat):ixs b s j=-1:=by
 have h1:=ixs_has b s j
 rw [h,decide_eq_false_iff_not] at h1
 rcases ixs_low b s j with h2 | h2
 ·exact h2
 ·omega
def isDt (k:Int):Bool:=decide (k=0∨k=1∨k=2∨k=4)
section
variable {n:Nat}
theorem pData_eq (n:Nat) (a0:ByteArray) (a1 a2 a3 a4 a5:Int) (a6 a7:ByteArray) (a8 a9:Int):Q2n.F n a0 a1 a2 a3 a4 a5 a6 a7 a8 a9=some (isDt a1):=by
 unfold Q2n.F Q2n.e isDt
 simp only [bif_eq0]
 by_cases h0:a1=0
 ·simp [h0]
 ·by_cases h1:a1=1
  ·simp [h1]
  ·by_cases h2:a1=2
   ·simp [h2]
   ·simp [h0,h1,h2,beq_int]
theorem rScalar_eq (n:Nat) (a:Int):Q16.F n a=some (decide (a=0∨a=1∨a=2)):=by
 unfold Q16.F Q16.e
 simp only [bif_eq0]
 by_cases h0:a=0
 ·simp [h0]
 ·by_cases h1:a=1
  ·simp [h1]
  ·simp [h0,h1,beq_int]
theorem rData_eq (n:Nat) (a:Int):Q15.F n a=some (isDt a):=by
 unfold Q15.F Q15.e isDt
 rw [rScalar_eq,Option.bind_some]
 by_cases h:a=0∨a=1∨a=2
 ·rw [cond_t h]
  have:a=0∨a=1∨a=2∨a=4:=by omega
  simp [this]
 ·rw [cond_f h,beq_int]
  congr 1
  rw [decide_eq_decide]
  omega
theorem pin_eq (n:Nat) (a b c:Int):Q2k.F n a b c=some (decide (b≤a∧a≤c)):=by
 unfold Q2k.F Q2k.e
 by_cases h:b≤a
 ·rw [cond_t h]; simp [h]
 ·rw [cond_f h]; simp [h]
def exV (o:OP):Bool:=!(decide (o.vn=0)&&decide (o.vx=[]))
def exB (o:OP):Bool:=!(decide (o.ba=[])&&decide (o.of=0))
def exT (o:OP):Bool:=!(decide (o.k=0)&&(decide (o.l=0)&&decide (o.s=0)))
def exG (o:OP):Bool:=!decide (o.tg=0)
def extra (o:OP):Bool:=if o.kd=0∨o.kd=4 then exB o||exG o else if o.kd=1∨o.kd=2 then exV o||exG o else if o.kd=3 then exT o||(exV o||(exB o||exG o)) else exT o||(exV o||exB o)
def kEq (p:Q2s.T) (o:OP):Bool:=!((p.1==bs o.nm)&&((p.2.1==o.kd)&&((p.2.2.1==o.k)&&((p.2.2.2.1==o.l)&&((p.2.2.2.2.1==o.s)&&((p.2.2.2.2.2.1==o.vn)&&((p.2.2.2.2.2.2.1==bs o.vx)&&((p.2.2.2.2.2.2.2.1==bs o.ba)&&((p.2.2.2.2.2.2.2.2.1==o.of)&&((p.2.2.2.2.2.2.2.2.2==o.tg)&&true))))))))))
theorem z_eq (a:Int):((0:Int)==a)=decide (a=0):=by rw [beq_int,decide_eq_decide]; omega
theorem kept_eq (hn:1001≤n) (o:OP):∃ p,Q2s.F n (bs o.nm) o.kd o.k o.l o.s o.vn (bs o.vx) (bs o.ba) o.of o.tg=some p∧(0≤o.kd∧o.kd≤5→kEq p o=extra o):=by
 obtain ⟨m,rfl⟩ : ∃ m,n=m+2:=⟨n - 2,by omega⟩
 obtain ⟨nm,kd,k,l,s,vn,vx,ba,of,tg⟩:=o
 unfold Q2s.F Q2s.e
 simp only [pData_eq,Option.bind_some,bif_eq0,Q2s.at7,Q2s.at10,Q2s.at13]
 unfold Q2s.r7 Q2s.r10
 simp only [Q2s.at13]
 unfold Q2s.r13 isDt extra kEq exV exB exT exG
 by_cases h0:kd=0
 ·subst h0
  refine ⟨_,by simp; rfl,fun _=>?_⟩
  simp [bs_beq,bs_emp,emp_bs,z_eq,Bool.not_and,Bool.or_assoc]
 ·by_cases h4:kd=4
  ·subst h4
   refine ⟨_,by simp; rfl,fun _=>?_⟩
   simp [bs_beq,bs_emp,emp_bs,z_eq,Bool.not_and,Bool.or_assoc]
  ·by_cases h1:kd=1
   ·subst h1
    refine ⟨_,by simp; rfl,fun _=>?_⟩
    simp [bs_beq,bs_emp,emp_bs,z_eq,Bool.not_and,Bool.or_assoc]
   ·by_cases h2:kd=2
    ·subst h2
     refine ⟨_,by simp; rfl,fun _=>?_⟩
     simp [bs_beq,bs_emp,emp_bs,z_eq,Bool.not_and,Bool.or_assoc]
    ·by_cases h5:kd=5
     ·subst h5
      refine ⟨_,by simp; rfl,fun _=>?_⟩
      simp [bs_beq,bs_emp,emp_bs,z_eq,Bool.not_and,Bool.or_assoc]
     ·refine ⟨_,by simp [h0,h1,h2,h4,h5]; rfl,fun hh=>?_⟩
      obtain rfl:kd=3:=by omega
      simp [bs_beq,bs_emp,emp_bs,z_eq,Bool.not_and,Bool.or_assoc]
theorem hasExtra_eq (hn:1001≤n) (o:OP) (hk:0≤o.kd∧o.kd≤5):Q1d.F n (bs o.nm) o.kd o.k o.l o.s o.vn (bs o.vx) (bs o.ba) o.of o.tg=some (extra o):=by
 obtain ⟨m,rfl⟩ : ∃ m,n=m+2:=⟨n - 2,by omega⟩
 obtain ⟨nm,kd,k,l,s,vn,vx,ba,of,tg⟩:=o
 simp only at hk
 unfold Q1d.F Q1d.e
 simp only [bif_eq0,Q1d.at5,Q1d.at8,empty_eq]
 unfold Q1d.r5 Q1d.r8 extra exV exB exT exG
 simp only [bs_emp,beq_int]
 have hd:kd=0∨kd=1∨kd=2∨kd=3∨kd=4∨kd=5:=by omega
 rcases hd with rfl | rfl | rfl | rfl | rfl | rfl <;> by_cases e1:ba=[] <;> by_cases e2:of=0 <;> by_cases e3:vn=0 <;> by_cases e4:vx=[] <;> by_cases e5:tg=0 <;> by_cases e6:k=0 <;> by_cases e7:l=0 <;> by_cases e8:s=0 <;> simp [e1,e2,e3,e4,e5,e6,e7,e8]
end
end Go.Proofs.YtnoldakbllfmnaaGreatDoor.Ev
namespace Go.Proofs.YtnoldakbllfmnaaGreatDoor.Ev
open Go Go.Proofs Go.Proofs.Ev
set_option linter.unusedVariables false
set_option linter.unusedSimpArgs false
section
variable {n:Nat}
theorem bifne {α:Type} (a b:Int) (x y:α):(bif a != b then x else y)=if a=b then y else x:=by
 by_cases h:a=b
 ·subst h; simp
 ·rw [if_neg h,bne_iff_ne.2 h,cond_true]
theorem pw_l (n L:Nat) (hL:L≤18):∀ (d i m:Nat),i+d=L→d < m→Q23.l n m (.z3 ((10 ^ i:Nat):Int) (L:Int) (i:Int))=some ((10 ^ L:Nat):Int)
 | _,_,0,_,h=>absurd h (by omega)
 | 0,i,m+1,h,_=>by
  obtain rfl:i=L:=by omega
  rw [Q23.at3]
  unfold Q23.r3
  rw [cond_f (by omega)]
 | d+1,i,m+1,h,hm=>by
  have ih:=pw_l n L hL d (i+1) m (by omega) (by omega)
  have hp:10 ^ (i+1)≤10 ^ 18:=Nat.pow_le_pow_right (by omega) (by omega)
  have he:10 ^ (i+1)=10 ^ i*10:=Nat.pow_succ ..
  rw [Q23.at3]
  unfold Q23.r3
  rw [cond_t (by omega),wsucc (by omega),w64 (by omega) (by omega),show ((10 ^ i:Nat):Int)*10=((10 ^ (i+1):Nat):Int) by omega]
  exact ih
theorem power_eq (hn:1001≤n) {l:Int} (h0:0≤l) (h1:l≤18):Q23.F n l=some ((10 ^ l.toNat:Nat):Int):=by
 unfold Q23.F Q23.e
 have:=pw_l n l.toNat (by omega) l.toNat 0 n (by omega) (by omega)
 rw [if_neg (by omega)]
 rw [show ((l.toNat:Nat):Int)=l by omega] at this
 exact this
theorem pwR_l (n L:Nat) (hL:L≤18):∀ (d i m:Nat),i+d=L→d < m→Q0e.l n m (.z3 (L:Int) ((10 ^ i:Nat):Int) (i:Int))=some ((10 ^ L:Nat):Int)
 | _,_,0,_,h=>absurd h (by omega)
 | 0,i,m+1,h,_=>by
  obtain rfl:i=L:=by omega
  rw [Q0e.at3]
  unfold Q0e.r3
  rw [cond_f (by omega)]
 | d+1,i,m+1,h,hm=>by
  have ih:=pwR_l n L hL d (i+1) m (by omega) (by omega)
  have hp:10 ^ (i+1)≤10 ^ 18:=Nat.pow_le_pow_right (by omega) (by omega)
  have he:10 ^ (i+1)=10 ^ i*10:=Nat.pow_succ ..
  rw [Q0e.at3]
  unfold Q0e.r3
  rw [cond_t (by omega),wsucc (by omega),w64 (by omega) (by omega),show ((10 ^ i:Nat):Int)*10=((10 ^ (i+1):Nat):Int) by omega]
  exact ih
theorem powerR_eq (hn:1001≤n) {l:Int} (h0:0≤l) (h1:l≤18):Q0e.F n l=some ((10 ^ l.toNat:Nat):Int):=by
 unfold Q0e.F Q0e.e
 have:=pwR_l n l.toNat (by omega) l.toNat 0 n (by omega) (by omega)
 rw [show ((l.toNat:Nat):Int)=l by omega] at this
 exact this
def mostT (l:Int):Int:=((10 ^ l.toNat:Nat):Int) - 1
def valE (k l vn:Int) (vx:List UInt8):Int:=
 if k=0 then (if vn≠0 then 5 else if (vx.length:Int)≠l then 18 else 0) else (if vx≠[] then 5 else if ¬ (-(mostT l)≤vn∧vn≤mostT l) then 19 else 0)
theorem mostT_range {l:Int} (h1:l≤18):0≤mostT l∧mostT l≤1000000000000000000:=by
 unfold mostT
 have hp:10 ^ l.toNat≤10 ^ 18:=Nat.pow_le_pow_right (by omega) (by omega)
 have hq:0 < 10 ^ l.toNat:=Nat.pow_pos (by omega)
 omega
theorem checkValue_eq (hn:1001≤n) {k l s vn:Int} {vx:List UInt8} (ht:chkT k l s=0) (h4:k≠4):Q1q.F n k l s vn (bs vx)=some (valE k l vn vx):=by
 unfold Q1q.F Q1q.e valE
 have hc:=chkT_cases ht
 simp only [check_eq hn,ncond_eq,nfirst2 hn,Option.bind_some,ht,beq_int,h4,decide_false,Bool.false_eq_true,if_false,ne_eq,not_true_eq_false,bifne,if_true,bif_ite,empty_eq]
 by_cases h0:k=0
 ·rw [if_pos h0,if_pos h0]
  by_cases h1:vn=0 <;> by_cases h2:((vx.length:Nat):Int)=l <;> simp [h1,h2,bs_size]
 ·rw [if_neg h0,if_neg h0,power_eq hn (by omega) (by omega),Option.bind_some]
  have hm:=mostT_range (l:=l) (by omega)
  have e:IntKind.i64.wrap (((10 ^ l.toNat:Nat):Int) - 1)=mostT l:=by
   unfold mostT at hm ⊢
   rw [w64 (by omega) (by omega)]
  rw [e,w64 (x:=0 - mostT l) (by omega) (by omega),in_eq,Option.bind_some,show (0:Int) - mostT l=-(mostT l) by omega]
  by_cases h1:vx=[] <;> by_cases h2 : -(mostT l)≤vn∧vn≤mostT l <;> simp [h1,h2]
theorem valueErr_eq (hn:1001≤n) {k l s vn:Int} {vx:List UInt8} (ht:chkT k l s=0) (h4:k≠4):Q0y.F n k l s vn (bs vx)=some (valE k l vn vx):=by
 obtain ⟨m,rfl⟩ : ∃ m,n=m+2:=⟨n - 2,by omega⟩
 unfold Q0y.F Q0y.e valE
 have hc:=chkT_cases ht
 simp only [typeErr_eq (show 3≤m+2 by omega),Option.bind_some,ht,bif_eq0,h4,if_false,bifne,if_true,empty_eq,Q0y.at7,Q0y.at8,bif_not]
 unfold Q0y.r7 Q0y.r8
 simp only [bif_eq0,count_eq,Option.bind_some]
 by_cases h0:k=0
 ·simp only [if_pos h0]
  by_cases h1:vn=0 <;> by_cases h2:((vx.length:Nat):Int)=l <;> simp [h1,h2,bs_size] <;> decide
 ·simp only [if_neg h0]
  have hm:=mostT_range (l:=l) (by omega)
  have hM:Q0v.F (m+2) k l s=some (mostT l):=by
   unfold Q0v.F Q0v.e
   rw [powerR_eq hn (by omega) (by omega),Option.bind_some]
   unfold mostT at hm ⊢
   rw [w64 (by omega) (by omega)]
  simp only [hM,Option.bind_some]
  rw [w64 (x:=0 - mostT l) (by omega) (by omega),Within_eq,Option.bind_some,show (0:Int) - mostT l=-(mostT l) by omega]
  by_cases h1:vx=[] <;> by_cases h2 : -(mostT l)≤vn∧vn≤mostT l <;> simp [h1,h2] <;> decide
def zOP:OP:=⟨[],0,0,0,0,0,[],[],0,0⟩
def okT (os:List OP):Prop:=∀ o∈os,isDt o.kd=true→chkT o.k o.l o.s=0
def under (before:List OP) (o:OP):OP:=before.getD (ixs (onames before) o.ba 0).toNat zOP
def baE (before:List OP) (o:OP):Int:=
 if (onames before).contains o.ba=false then 11
 else if o.kd=2 then (if (under before o).kd≠3 then 17 else if ¬ (0≤o.of∧o.of≤256) then 3 else 0)
 else if (under before o).kd≠0 then 17 else if ¬ (0≤o.of∧o.of≤szT (under before o).k (under before o).l - szT o.k o.l) then 3 else 0
theorem under_in {before:List OP} {o:OP} (h:(onames before).contains o.ba=true):∃ j,∃ hj:j < before.length,ixs (onames before) o.ba 0=(j:Int)∧under before o=before[j]:=by
 obtain ⟨j,h1,h2,h3⟩:=ixs_in (onames before) o.ba 0 h
 rw [onames_length] at h1
 refine ⟨j,h1,by rw [h2,Nat.zero_add],?_⟩
 unfold under
 rw [h2,Nat.zero_add,Int.toNat_natCast,List.getD_eq_getElem?_getD,List.getElem?_eq_getElem h1,Option.getD_some]
theorem bif_none {b:Bool} (h:b=true) {α:Type} (x:Option α):(bif b then x else none)=x:=by rw [h]; rfl
theorem baseErr_eq (hn:1001≤n) (before:List OP) (hb:before.length≤1000) (hok:okT before) (o:OP) (hk:o.kd=1∨o.kd=2) (ht:chkT o.k o.l o.s=0) :
  Q2e.F n (bs o.nm) o.kd o.k o.l o.s o.vn (bs o.vx) (bs o.ba) o.of o.tg (before.map OP.av)=some (baE before o):=by
 unfold Q2e.F Q2e.e baE
 rw [named_eq hn before hb,Option.bind_some]
 by_cases hc:(onames before).contains o.ba=true
 ·obtain ⟨j,hj,e1,e2⟩:=under_in hc
  rw [e1,e2,if_neg (by rw [hc]; simp),cond_f (by omega)]
  simp (disch:=omega) only [Option.bind_some,Option.bind_none,cond_true,cond_false,Bool.not_true,Bool.not_false,List.length_map,Ws_length,bs_size,within_t,upto_t,wsucc,Int.toNat_natCast,at_mapN,Ws_getDN,cells_agg,cells_v,withCons_cons,withInt_mk,withStr_mk,withBool_mk,withSl_mk,cond_t,cond_f,OP.av]
  rw [bif_eq0]
  by_cases h2:o.kd=2
  ·rw [if_pos h2,if_pos h2,cond_eq,Option.bind_some,pin_eq,Option.bind_some,cond_eq,Option.bind_some]
   rw [first2 hn,Option.bind_some]
   by_cases h3:before[j].kd=3 <;> by_cases h4:0≤o.of∧o.of≤256 <;> simp [h3,h4]
  ·rw [if_neg h2,if_neg h2,bifne]
   by_cases h0:before[j].kd=0
   ·have hd:isDt before[j].kd=true:=by simp [isDt,h0]
    have hu:=hok _ (List.getElem_mem hj) hd
    have r1:=szT_range hu
    have r2:=szT_range ht
    rw [if_pos h0,if_neg (by simp [h0])]
    unfold Q34.F Q34.e
    rw [sizeOf_eq hn hu,Option.bind_some,Option.bind_some,sizeOf_eq hn ht,Option.bind_some,Option.bind_some,w64 (by omega) (by omega),pin_eq,Option.bind_some,cond_eq,Option.bind_some]
    by_cases h4:0≤o.of∧o.of≤szT before[j].k before[j].l - szT o.k o.l <;> simp [h4]
   ·rw [if_neg h0,if_pos h0]
 ·rw [Bool.not_eq_true] at hc
  rw [ixs_out hc,if_pos hc,cond_t (by omega)]
def opE (before:List OP) (o:OP) (nI:Nat):Int:=
 if isNm o.nm=false then 7 else if (onames before).contains o.nm=true then 13 else if ¬ (0≤o.kd∧o.kd≤5) then 4 else if extra o=true then 5
 else if isDt o.kd=true∧chkT o.k o.l o.s≠0 then chkT o.k o.l o.s else if isDt o.kd=true∧o.k=4 then 17
 else if o.kd=0∨o.kd=4 then valE o.k o.l o.vn o.vx else if o.kd=1∨o.kd=2 then baE before o else if o.kd=5 then (if 0≤o.tg∧o.tg≤(nI:Int) - 1 then 0 else 3) else 0
theorem opErr_eq (hn:1001≤n) (os:List OP) (ho:os.length≤1000) (is:List IN) (hi' : is.length≤1000) (a2:List AV) (i:Nat) (hi:i < os.length) (hok:okT (os.take i)) :
  Q2z.F n (os.map OP.av) (is.map IN.av) a2 (i:Int)=some (opE (os.take i) os[i] is.length):=by
 obtain ⟨m,rfl⟩ : ∃ m,n=m+2:=⟨n - 2,by omega⟩
 unfold Q2z.F Q2z.e
 simp (disch:=omega) only [Option.bind_some,Option.bind_none,cond_true,cond_false,Bool.not_true,Bool.not_false,List.length_map,Ws_length,bs_size,within_t,upto_t,wsucc,Int.toNat_natCast,at_mapN,Ws_getDN,cells_agg,cells_v,withCons_cons,withInt_mk,withStr_mk,withBool_mk,withSl_mk,cond_t,cond_f,OP.av]
 rw [show ((os.map OP.av).take i).drop 0=(os.take i).map OP.av by simp [List.map_take]]
 obtain ⟨p,hp1,hp2⟩:=kept_eq hn os[i]
 simp only [isName_eq hn,cond_eq,Option.bind_some,named_eq hn (os.take i) (by rw [List.length_take]; omega),pin_eq,hp1,pData_eq]
 have hfz:=first_eq (n:=m+2) [(if (!isNm os[i].nm)=true then 7 else 0),(if decide (ixs (onames (os.take i)) os[i].nm 0≥0)=true then 13 else 0),(if (!decide (0≤os[i].kd∧os[i].kd≤5))=true then 4 else 0),(if kEq p os[i]=true then 5 else 0)] (by simp) hn
 have hfz' : Q2i.F (m+2) [vi (if (!isNm os[i].nm)=true then 7 else 0),vi (if decide (ixs (onames (os.take i)) os[i].nm 0≥0)=true then 13 else 0),vi (if (!decide (0≤os[i].kd∧os[i].kd≤5))=true then 4 else 0),vi (if kEq p os[i]=true then 5 else 0)]=_:=hfz
 rw [ixs_has] at hfz'
 simp only [ixs_has,ge_iff_le] at hfz' ⊢
 unfold kEq at hfz'
 rw [hfz']
 show (some (fz [(if (!isNm os[i].nm)=true then 7 else 0),(if (onames (os.take i)).contains os[i].nm=true then 13 else 0),(if (!decide (0≤os[i].kd∧os[i].kd≤5))=true then 4 else 0),(if kEq p os[i]=true then 5 else 0)])).bind _=_
 rw [Option.bind_some]
 clear hfz hfz' hp1
 unfold opE
 cases h1:isNm os[i].nm with
 | false=>simp [fz]
 | true=>
  cases h2:(onames (os.take i)).contains os[i].nm with
  | true=>simp [fz]
  | false=>
   by_cases hk:0≤os[i].kd∧os[i].kd≤5
   ·rw [hp2 hk]
    cases he:extra os[i] with
    | true=>simp [fz,hk]
    | false=>
     have hz:fz [(if (!true)=true then 7 else 0),(if false=true then 13 else 0),(if (!decide (0≤os[i].kd∧os[i].kd≤5))=true then 4 else 0),(if false=true then 5 else 0)]=0:=by simp [fz,hk]
     rw [hz,bifne,if_pos rfl]
     simp only [if_neg (show ¬ (true=false) by simp),if_neg (show ¬ (false=true) by simp),if_neg (not_not_intro hk)]
     simp only [check_eq hn,Option.bind_some,first2 hn,bif_eq0,bifne,Q2z.at12,Q2z.at15]
     unfold Q2z.r12 Q2z.r15
     have hd:os[i].kd=0∨os[i].kd=1∨os[i].kd=2∨os[i].kd=3∨os[i].kd=4∨os[i].kd=5:=by omega
     cases hdt:isDt os[i].kd with
     | true=>
      rw [cond_true]
      by_cases ht:chkT os[i].k os[i].l os[i].s=0
      ·by_cases h4:os[i].k=4
       ·have ht':=ht
        rw [h4] at ht'
        simp [ht',h4]
       ·simp only [isDt,decide_eq_true_eq] at hdt
        have hv:=checkValue_eq (vn:=os[i].vn) (vx:=os[i].vx) hn ht h4
        rcases hdt with h | h | h | h
        ·simp [h,ht,h4,hv]
        ·have hb:=baseErr_eq hn (os.take i) (by rw [List.length_take]; omega) hok os[i] (.inl h) ht
         rw [h] at hb
         simp [h,ht,h4,← List.map_take,hb]
        ·have hb:=baseErr_eq hn (os.take i) (by rw [List.length_take]; omega) hok os[i] (.inr h) ht
         rw [h] at hb
         simp [h,ht,h4,← List.map_take,hb]
        ·simp [h,ht,h4,hv]
      ·simp [ht]
     | false=>
      rw [cond_false]
      simp only [isDt,decide_eq_false_iff_not] at hdt
      have hd2:os[i].kd=3∨os[i].kd=5:=by omega
      rcases hd2 with h | h
      ·simp [h]
      ·rw [w64 (by omega) (by omega)]
       by_cases h6:0≤os[i].tg∧os[i].tg≤(is.length:Int) - 1 <;> simp [h,h6]
   ·have hk' : decide (0≤os[i].kd∧os[i].kd≤5)=false:=by rw [decide_eq_false_iff_not]; exact hk
    rw [hk',if_pos hk]
    simp [fz]
theorem ixs_split {os:List OP} {i:Nat} (hi:i < os.length) (s:List UInt8):ixs (onames os) s 0=if (onames (os.take i)).contains s=true then ixs (onames (os.take i)) s 0 else ixs ((onames os).drop i) s i:=by
 have h:=ixs_app ((onames os).take i) ((onames os).drop i) s 0
 rw [List.take_append_drop,List.length_take,onames_length,Nat.min_eq_left (by omega),Nat.zero_add] at h
 rw [onames_take]
 exact h
theorem opErrR_eq (hn:1001≤n) (os:List OP) (ho:os.length≤1000) (is:List IN) (hi' : is.length≤1000) (a2:List AV) (i:Nat) (hi:i < os.length) (hok:okT (os.take i)) :
  Q1j.F n (os.map OP.av) (is.map IN.av) a2 (i:Int)=some (opE (os.take i) os[i] is.length):=by
 obtain ⟨m,rfl⟩ : ∃ m,n=m+4:=⟨n - 4,by omega⟩
 have h36:∀ q,Q1j.l (m+4) (q+1) .z36=some 0:=fun _=>rfl
 have h27:∀ q,Q1j.l (m+4) (q+1) .z27=some 17:=fun _=>rfl
 unfold Q1j.F Q1j.e
 simp (disch:=omega) only [Option.bind_some,Option.bind_none,cond_true,cond_false,Bool.not_true,Bool.not_false,List.length_map,Ws_length,bs_size,within_t,upto_t,wsucc,Int.toNat_natCast,at_mapN,Ws_getDN,cells_agg,cells_v,withCons_cons,withInt_mk,withStr_mk,withBool_mk,withSl_mk,cond_t,cond_f,OP.av]
 simp only [isNameR_eq hn,Option.bind_some,at_eq hn os ho,Within_eq,rData_eq,bif_not,bif_eq0,bifne,typeErr_eq (show 3≤m+4 by omega)]
 unfold opE
 cases h1:isNm os[i].nm with
 | false=>simp
 | true=>
  have hlt:decide (ixs (onames os) os[i].nm 0 < (i:Int))=(onames (os.take i)).contains os[i].nm:=by
   have:=ixs_lt (onames os) os[i].nm 0 i (by rw [onames_length]; exact hi) (by rw [List.getElem?_eq_getElem (by rw [onames_length]; exact hi),onames_get hi])
   rw [Nat.zero_add] at this
   rw [this,onames_take]
  rw [hlt]
  cases h2:(onames (os.take i)).contains os[i].nm with
  | true=>simp
  | false=>
   by_cases hk:0≤os[i].kd∧os[i].kd≤5
   ·rw [hasExtra_eq hn os[i] hk,Option.bind_some]
    cases he:extra os[i] with
    | true=>simp [hk]
    | false=>
     simp only [if_neg (show ¬ (true=false) by simp),if_neg (show ¬ (false=true) by simp),if_neg (not_not_intro hk),decide_eq_true hk,cond_false,if_false]
     simp only [Q1j.at20,Q1j.at23,h36]
     unfold Q1j.r20 Q1j.r23
     cases hdt:isDt os[i].kd with
     | true=>
      rw [cond_true]
      by_cases ht:chkT os[i].k os[i].l os[i].s=0
      ·by_cases h4:os[i].k=4
       ·have ht':=ht
        rw [h4] at ht'
        simp [ht',h4]
       ·simp only [isDt,decide_eq_true_eq] at hdt
        have hv:=valueErr_eq (vn:=os[i].vn) (vx:=os[i].vx) hn ht h4
        have hb:(os[i].kd=1∨os[i].kd=2)→(bif ixs (onames os) os[i].ba 0==(-1) then some 11 else (bif decide (ixs (onames os) os[i].ba 0≥(i:Int)) then some 11 else (bif decide ((0:Int)≤ixs (onames os) os[i].ba 0)&&decide (ixs (onames os) os[i].ba 0 < (((os.map OP.av).length:Nat):Int)) then (withCons (((os.map OP.av).getD ((ixs (onames os) os[i].ba 0).toNat) .undef).cells) fun h44 r45=>
 withStr h44 fun s46=>
 withCons r45 fun h47 r48=>
 withInt .i64 h47 fun x49=>
 withCons r48 fun h50 r51=>
 withInt .i64 h50 fun x52=>
 withCons r51 fun h53 r54=>
 withInt .i64 h53 fun x55=>
 withCons r54 fun h56 r57=>
 withInt .i64 h56 fun x58=>
 withCons r57 fun h59 r60=>
 withInt .i64 h59 fun x61=>
 withCons r60 fun h62 r63=>
 withStr h62 fun s64=>
 withCons r63 fun h65 r66=>
 withStr h65 fun s67=>
 withCons r66 fun h68 r69=>
 withInt .i64 h68 fun x70=>
 withCons r69 fun h71 r72=>
 withInt .i64 h71 fun x73=>
 bif os[i].kd==1 then (bif x49 != 0 then (Q1j.l (m+4) (m+3) .z27) else (bif os[i].kd==2 then (bif x49 != 3 then (Q1j.l (m+4) (m+3) .z27) else (Q1j.l (m+4) (m+3) (.z28 (bs os[i].nm) os[i].kd os[i].k os[i].l os[i].s os[i].vn (bs os[i].vx) (bs os[i].ba) os[i].of os[i].tg s46 x49 x52 x55 x58 x61 s64 s67 x70 x73))) else (Q1j.l (m+4) (m+3) (.z28 (bs os[i].nm) os[i].kd os[i].k os[i].l os[i].s os[i].vn (bs os[i].vx) (bs os[i].ba) os[i].of os[i].tg s46 x49 x52 x55 x58 x61 s64 s67 x70 x73)))) else (bif os[i].kd==2 then (bif x49 != 3 then (Q1j.l (m+4) (m+3) .z27) else (Q1j.l (m+4) (m+3) (.z28 (bs os[i].nm) os[i].kd os[i].k os[i].l os[i].s os[i].vn (bs os[i].vx) (bs os[i].ba) os[i].of os[i].tg s46 x49 x52 x55 x58 x61 s64 s67 x70 x73))) else (Q1j.l (m+4) (m+3) (.z28 (bs os[i].nm) os[i].kd os[i].k os[i].l os[i].s os[i].vn (bs os[i].vx) (bs os[i].ba) os[i].of os[i].tg s46 x49 x52 x55 x58 x61 s64 s67 x70 x73)))) else none)))=some (baE (os.take i) os[i]):=by
         intro hkd
         unfold baE
         rw [ixs_split hi]
         cases hc:(onames (os.take i)).contains os[i].ba with
         | false=>
          rw [if_neg (by simp),if_pos rfl]
          rcases ixs_low ((onames os).drop i) os[i].ba i with h5 | h5
          ·rw [h5]; rfl
          ·rw [bif_eq0,cond_t (by omega)]; simp
         | true=>
          obtain ⟨j,hj,e1,e2⟩:=under_in hc
          rw [if_pos rfl,if_neg (by simp),e1,e2]
          have hj' : j < i:=by rw [List.length_take] at hj; omega
          have e3:(os.take i)[j]=os[j]:=by simp
          rw [e3,bif_eq0,if_neg (by omega),cond_f (by omega)]
          simp (disch:=omega) only [Option.bind_some,Option.bind_none,cond_true,cond_false,Bool.not_true,Bool.not_false,List.length_map,Ws_length,bs_size,within_t,upto_t,wsucc,Int.toNat_natCast,at_mapN,Ws_getDN,cells_agg,cells_v,withCons_cons,withInt_mk,withStr_mk,withBool_mk,withSl_mk,cond_t,cond_f,OP.av,h27,bifne,bif_eq0,Q1j.at28]
          unfold Q1j.r28
          simp only [bif_eq0,h36,Within_eq,Option.bind_some,bif_not]
          rcases hkd with h | h
          ·rw [if_pos h,if_neg (show ¬ os[i].kd=2 by omega),if_neg (show ¬ os[i].kd=2 by omega)]
           by_cases h0:os[j].kd=0
           ·have hd:isDt os[j].kd=true:=by simp [isDt,h0]
            have hu:=hok os[j] (by rw [← e3]; exact List.getElem_mem hj) hd
            have r1:=szT_range hu
            have r2:=szT_range ht
            rw [if_pos h0,if_neg (show ¬ (os[j].kd≠0) by simp [h0]),if_pos h,bsize_eq _ hu,Option.bind_some,bsize_eq _ ht,Option.bind_some,w64 (by omega) (by omega)]
            by_cases h5:0≤os[i].of∧os[i].of≤szT os[j].k os[j].l - szT os[i].k os[i].l <;> simp [h5]
           ·rw [if_neg h0,if_pos h0]
          ·rw [if_neg (show ¬ os[i].kd=1 by omega),if_pos h,if_pos h,if_neg (show ¬ os[i].kd=1 by omega)]
           by_cases h3:os[j].kd=3
           ·by_cases h5:0≤os[i].of∧os[i].of≤256 <;> simp [h3,h5]
           ·rw [if_neg h3,if_pos h3]
        simp only [ht,h4,if_true,if_false,ne_eq,not_true_eq_false,and_false]
        rcases hdt with h | h | h | h
        ·simp [h,hv]
        ·rw [if_neg (by omega),if_neg (by omega),if_pos h,if_neg (by omega),if_pos (.inl h)]
         exact hb (.inl h)
        ·rw [if_neg (by omega),if_neg (by omega),if_neg (by omega),if_pos h,if_neg (by omega),if_pos (.inr h)]
         exact hb (.inr h)
        ·simp [h,hv]
      ·simp [ht]
     | false=>
      rw [cond_false]
      simp only [isDt,decide_eq_false_iff_not] at hdt
      have hd2:os[i].kd=3∨os[i].kd=5:=by omega
      rcases hd2 with h | h
      ·simp [h]
      ·rw [List.length_map,w64 (by omega) (by omega)]
       by_cases h6:0≤os[i].tg∧os[i].tg≤(is.length:Int) - 1 <;> simp [h,h6]
   ·have hk' : decide (0≤os[i].kd∧os[i].kd≤5)=false:=by rw [decide_eq_false_iff_not]; exact hk
    rw [hk',if_pos hk]
    simp
end
end Go.Proofs.YtnoldakbllfmnaaGreatDoor.Ev
namespace Go.Proofs.YtnoldakbllfmnaaGreatDoor.Ev
open Go Go.Proofs Go.Proofs.Ev
set_option linter.unusedVariables false
set_option linter.unusedSimpArgs false
theorem rep_eq (m k:Nat) (hk:k≤28):Q3j.F (m+40) [vi (-1)] ((k:Nat):Int)=some (List.replicate k (vi (-1))):=by
 have hd:k=0∨k=1∨k=2∨k=3∨k=4∨k=5∨k=6∨k=7∨k=8∨k=9∨k=10∨k=11∨k=12∨k=13∨k=14∨k=15∨k=16∨k=17∨k=18∨k=19∨k=20∨k=21∨k=22∨k=23∨k=24∨k=25∨k=26∨k=27∨k=28:=by omega
 rcases hd with rfl | rfl | rfl | rfl | rfl | rfl | rfl | rfl | rfl | rfl | rfl | rfl | rfl | rfl | rfl | rfl | rfl | rfl | rfl | rfl | rfl | rfl | rfl | rfl | rfl | rfl | rfl | rfl | rfl <;> (show _=_; kernel_rfl)
def r1:List OP→Int→List Int
 | [],_=>[]
 | o::r,a=>if o.kd=3 then a::r1 r (IntKind.i64.wrap (a+16)) else -1::r1 r a
def e1:List OP→Int→Int
 | [],a=>a
 | o::r,a=>e1 r (if o.kd=3 then IntKind.i64.wrap (a+16) else a)
def p2:List OP→Nat→List Int→Int→List Int × Int
 | [],_,row,a=>(row,a)
 | o::r,i,row,a=>if o.kd=0 then p2 r (i+1) (row.set i a) (IntKind.i64.wrap (a+szT o.k o.l)) else p2 r (i+1) row a
def p3 (os:List OP):List OP→Nat→List Int→List Int
 | [],_,row=>row
 | o::r,i,row=>if o.kd=1 then p3 os r (i+1) (row.set i (IntKind.i64.wrap (row.getD (ixs (onames os) o.ba 0).toNat 0+o.of))) else p3 os r (i+1) row
def layX (os:List OP):List Int × Int:=(p3 os os 0 (p2 os 0 (r1 os 0) (e1 os 0)).1,IntKind.i64.wrap (Int.tdiv (IntKind.i64.wrap (IntKind.i64.wrap ((p2 os 0 (r1 os 0) (e1 os 0)).2+16) - 1)) 16))
theorem r1_snoc:∀ (xs:List OP) (o:OP) (a:Int),r1 (xs++[o]) a=r1 xs a++[if o.kd=3 then e1 xs a else -1]
 | [],o,a=>by by_cases h:o.kd=3 <;> simp [r1,e1,h]
 | x::xs,o,a=>by by_cases h:x.kd=3 <;> simp [r1,e1,h,r1_snoc xs o]
theorem e1_snoc:∀ (xs:List OP) (o:OP) (a:Int),e1 (xs++[o]) a=if o.kd=3 then IntKind.i64.wrap (e1 xs a+16) else e1 xs a
 | [],o,a=>rfl
 | x::xs,o,a=>by simp [e1,e1_snoc xs o]
theorem r1_length:∀ (xs:List OP) (a:Int),(r1 xs a).length=xs.length
 | [],a=>rfl
 | x::xs,a=>by by_cases h:x.kd=3 <;> simp [r1,h,r1_length xs]
def okL (os:List OP):Prop:=okT os∧∀ o∈os,o.kd=1→(onames os).contains o.ba=true
theorem set_mid {α:Type} (f:Int→α) (A B:List Int) (b x:Int) {i:Nat} (h:A.length=i):((A++b::B).map f).set i (f x)=((A++[x])++B).map f:=by
 subst h
 simp [List.set_append]
theorem map_set_i (row:List Int) (i:Nat) (x:Int):(row.map vi).set i (vi x)=(row.set i x).map vi:=by rw [List.map_set]
section
variable {n:Nat}
theorem lay4 (os:List OP) (ho:os.length≤1000) (zo:List AV) (K:Option (List AV × Int)) (hK:∀ m,2*os.length+40≤m→Q2t.l n m (.z10 zo (e1 os 0) zo ((zo.length:Nat):Int) 0 ((r1 os 0).map vi))=K):∀ (d i m:Nat),i+d=os.length→d+(2*os.length+40) < m→
  Q2t.l n m (.z4 zo (e1 (os.take i) 0) (os.map OP.av) os.length i ((r1 (os.take i) 0++List.replicate d (-1)).map vi))=K
 | _,_,0,_,h=>absurd h (by omega)
 | 0,i,m+1,h,hm=>by
  rw [Q2t.at4]
  unfold Q2t.r4
  rw [cond_f (by omega),List.take_of_length_le (by omega)]
  simp only [List.replicate_zero,List.append_nil]
  exact hK m (by omega)
 | d+1,i,m+1,h,hm=>by
  have hi:i < os.length:=by omega
  have ih:=lay4 os ho zo K hK d (i+1) m (by omega) (by omega)
  have hl:(r1 (os.take i) 0).length=i:=by rw [r1_length,List.length_take]; omega
  rw [Q2t.at4]
  unfold Q2t.r4
  simp (disch:=omega) only [Option.bind_some,Option.bind_none,cond_true,cond_false,Bool.not_true,Bool.not_false,List.length_map,Ws_length,bs_size,within_t,upto_t,wsucc,Int.toNat_natCast,at_mapN,Ws_getDN,cells_agg,cells_v,withCons_cons,withInt_mk,withStr_mk,withBool_mk,withSl_mk,cond_t,cond_f,OP.av,List.length_append,List.length_replicate,hl]
  rw [List.take_succ_eq_append_getElem hi,r1_snoc,e1_snoc] at ih
  rw [bif_eq0]
  by_cases h3:os[i].kd=3
  ·rw [if_pos h3,if_pos h3] at ih
   rw [if_pos h3,List.replicate_succ,set_mid vi _ _ _ _ hl]
   exact ih
  ·rw [if_neg h3,if_neg h3] at ih
   rw [if_neg h3,List.replicate_succ,← ih]
   simp
theorem lay10 (hn:1001≤n) (os:List OP) (ho:os.length≤1000) (hok:okT os) (zo:List AV) (G:List Int × Int→Option (List AV × Int)) (hK:∀ m row a,os.length+10≤m→row.length=os.length→Q2t.l n m (.z16 zo a zo ((zo.length:Nat):Int) 0 (row.map vi))=G (row,a)):∀ (d i m:Nat) (row:List Int) (a:Int),i+d=os.length→d+(os.length+10) < m→row.length=os.length→
  Q2t.l n m (.z10 zo a (os.map OP.av) os.length i (row.map vi))=G (p2 (os.drop i) i row a)
 | _,_,0,_,_,_,h,_=>absurd h (by omega)
 | 0,i,m+1,row,a,h,hm,hr=>by
  rw [Q2t.at10]
  unfold Q2t.r10
  rw [cond_f (by omega),List.drop_of_length_le (by omega)]
  exact hK m row a (by omega) hr
 | d+1,i,m+1,row,a,h,hm,hr=>by
  have hi:i < os.length:=by omega
  have ih:=fun row' a' hr'=>lay10 hn os ho hok zo G hK d (i+1) m row' a' (by omega) (by omega) hr'
  rw [Q2t.at10]
  unfold Q2t.r10
  simp (disch:=omega) only [Option.bind_some,Option.bind_none,cond_true,cond_false,Bool.not_true,Bool.not_false,List.length_map,Ws_length,bs_size,within_t,upto_t,wsucc,Int.toNat_natCast,at_mapN,Ws_getDN,cells_agg,cells_v,withCons_cons,withInt_mk,withStr_mk,withBool_mk,withSl_mk,cond_t,cond_f,OP.av,hr]
  rw [List.drop_eq_getElem_cons hi,bif_eq0]
  unfold p2
  by_cases h0:os[i].kd=0
  ·have hd:isDt os[i].kd=true:=by simp [isDt,h0]
   rw [if_pos h0,if_pos h0]
   unfold Q34.F Q34.e
   rw [sizeOf_eq hn (hok _ (List.getElem_mem hi) hd),Option.bind_some,Option.bind_some,map_set_i,ih _ _ (by simpa using hr)]
  ·rw [if_neg h0,if_neg h0,ih _ _ hr]
theorem lay16 (hn:1001≤n) (os:List OP) (ho:os.length≤1000) (hok:∀ o∈os,o.kd=1→(onames os).contains o.ba=true) (a:Int):∀ (d i m:Nat) (row:List Int),i+d=os.length→d < m→row.length=os.length→
  Q2t.l n m (.z16 (os.map OP.av) a (os.map OP.av) os.length i (row.map vi))=some ((p3 os (os.drop i) i row).map vi,IntKind.i64.wrap (Int.tdiv (IntKind.i64.wrap (IntKind.i64.wrap (a+16) - 1)) 16))
 | _,_,0,_,_,h,_=>absurd h (by omega)
 | 0,i,m+1,row,h,hm,hr=>by
  rw [Q2t.at16]
  unfold Q2t.r16
  rw [cond_f (by omega),List.drop_of_length_le (by omega)]
  rfl
 | d+1,i,m+1,row,h,hm,hr=>by
  have hi:i < os.length:=by omega
  have ih:=fun row' hr'=>lay16 hn os ho hok a d (i+1) m row' (by omega) (by omega) hr'
  rw [Q2t.at16]
  unfold Q2t.r16
  simp (disch:=omega) only [Option.bind_some,Option.bind_none,cond_true,cond_false,Bool.not_true,Bool.not_false,List.length_map,Ws_length,bs_size,within_t,upto_t,wsucc,Int.toNat_natCast,at_mapN,Ws_getDN,cells_agg,cells_v,withCons_cons,withInt_mk,withStr_mk,withBool_mk,withSl_mk,cond_t,cond_f,OP.av,hr]
  rw [List.drop_eq_getElem_cons hi,bif_eq0]
  unfold p3
  by_cases h1:os[i].kd=1
  ·obtain ⟨k,hk,e,_⟩:=ixs_in (onames os) os[i].ba 0 (hok _ (List.getElem_mem hi) h1)
   rw [onames_length] at hk
   rw [if_pos h1,if_pos h1,named_eq hn os ho,Option.bind_some,e,Nat.zero_add]
   have hkr:k < row.length:=by omega
   simp (disch:=omega) only [Option.bind_some,Option.bind_none,cond_true,cond_false,Bool.not_true,Bool.not_false,List.length_map,Ws_length,bs_size,within_t,upto_t,wsucc,Int.toNat_natCast,at_mapN,Ws_getDN,cells_agg,cells_v,withCons_cons,withInt_mk,withStr_mk,withBool_mk,withSl_mk,cond_t,cond_f,hr]
   rw [map_set_i,ih _ (by simpa using hr)]
   simp [List.getD_eq_getElem?_getD,hkr]
  ·rw [if_neg h1,if_neg h1,ih _ hr]
theorem layout_eq (hn:1001≤n) (os:List OP) (ho:os.length≤28) (hok:okL os):Q2t.F n (os.map OP.av)=some ((layX os).1.map vi,(layX os).2):=by
 obtain ⟨m,rfl⟩ : ∃ m,n=m+40:=⟨n - 40,by omega⟩
 unfold Q2t.F Q2t.e
 rw [List.length_map,rep_eq m _ ho,Option.bind_some]
 have h:=lay4 (n:=m+40) os (by omega) (os.map OP.av) (some ((layX os).1.map vi,(layX os).2)) (fun q hq=>by
  rw [List.length_map]
  have h10:=lay10 (n:=m+40) hn os (by omega) hok.1 (os.map OP.av) (fun x=>some ((p3 os os 0 x.1).map vi,IntKind.i64.wrap (Int.tdiv (IntKind.i64.wrap (IntKind.i64.wrap (x.2+16) - 1)) 16))) (fun q' row a hq' hr=>by
   rw [List.length_map]
   have h16:=lay16 (n:=m+40) hn os (by omega) hok.2 a os.length 0 q' row (by omega) (by omega) hr
   rw [List.drop_zero] at h16
   exact h16) os.length 0 q (r1 os 0) (e1 os 0) (by omega) (by omega) (r1_length os 0)
  rw [List.drop_zero] at h10
  exact h10) os.length 0 (m+40) (by omega) (by omega)
 simpa [r1,e1] using h
theorem layR4 (os:List OP) (ho:os.length≤1000) (a1 a2:List AV) (K:Option (List AV × Int)) (hK:∀ m,2*os.length+40≤m→Q17.l n m (.z11 (e1 os 0) 0 (os.map OP.av) a1 a2 ((r1 os 0).map vi))=K):∀ (d i m:Nat),i+d=os.length→d+(2*os.length+40) < m→
  Q17.l n m (.z4 (e1 (os.take i) 0) i (os.map OP.av) a1 a2 ((r1 (os.take i) 0++List.replicate d 0).map vi))=K
 | _,_,0,_,h=>absurd h (by omega)
 | 0,i,m+1,h,hm=>by
  rw [Q17.at4]
  unfold Q17.r4
  simp only [List.length_map]
  rw [cond_f (by omega),List.take_of_length_le (by omega)]
  simp only [List.replicate_zero,List.append_nil]
  exact hK m (by omega)
 | d+1,i,m+1,h,hm=>by
  have hi:i < os.length:=by omega
  have ih:=layR4 os ho a1 a2 K hK d (i+1) m (by omega) (by omega)
  have hl:(r1 (os.take i) 0).length=i:=by rw [r1_length,List.length_take]; omega
  rw [Q17.at4]
  unfold Q17.r4
  simp (disch:=omega) only [Option.bind_some,Option.bind_none,cond_true,cond_false,Bool.not_true,Bool.not_false,List.length_map,Ws_length,bs_size,within_t,upto_t,wsucc,Int.toNat_natCast,at_mapN,Ws_getDN,cells_agg,cells_v,withCons_cons,withInt_mk,withStr_mk,withBool_mk,withSl_mk,cond_t,cond_f,OP.av,List.length_append,List.length_replicate,hl,List.drop_succ_cons,List.drop_zero,List.length_set]
  rw [List.take_succ_eq_append_getElem hi,r1_snoc,e1_snoc] at ih
  rw [bif_eq0]
  by_cases h3:os[i].kd=3
  ·rw [if_pos h3,if_pos h3] at ih
   rw [if_pos h3,List.replicate_succ,List.set_set,set_mid vi _ _ _ _ hl]
   exact ih
  ·rw [if_neg h3,if_neg h3] at ih
   rw [if_neg h3,List.replicate_succ,set_mid vi _ _ _ _ hl]
   exact ih
theorem layR11 (hn:1001≤n) (os:List OP) (ho:os.length≤1000) (hok:okT os) (a1 a2:List AV) (G:List Int × Int→Option (List AV × Int)) (hK:∀ m row a,os.length+10≤m→row.length=os.length→Q17.l n m (.z18 a 0 (os.map OP.av) a1 a2 (row.map vi))=G (row,a)):∀ (d i m:Nat) (row:List Int) (a:Int),i+d=os.length→d+(os.length+10) < m→row.length=os.length→
  Q17.l n m (.z11 a i (os.map OP.av) a1 a2 (row.map vi))=G (p2 (os.drop i) i row a)
 | _,_,0,_,_,_,h,_=>absurd h (by omega)
 | 0,i,m+1,row,a,h,hm,hr=>by
  rw [Q17.at11]
  unfold Q17.r11
  simp only [List.length_map]
  rw [cond_f (by omega),List.drop_of_length_le (by omega)]
  exact hK m row a (by omega) hr
 | d+1,i,m+1,row,a,h,hm,hr=>by
  have hi:i < os.length:=by omega
  have ih:=fun row' a' hr'=>layR11 hn os ho hok a1 a2 G hK d (i+1) m row' a' (by omega) (by omega) hr'
  rw [Q17.at11]
  unfold Q17.r11
  simp (disch:=omega) only [Option.bind_some,Option.bind_none,cond_true,cond_false,Bool.not_true,Bool.not_false,List.length_map,Ws_length,bs_size,within_t,upto_t,wsucc,Int.toNat_natCast,at_mapN,Ws_getDN,cells_agg,cells_v,withCons_cons,withInt_mk,withStr_mk,withBool_mk,withSl_mk,cond_t,cond_f,OP.av,hr]
  rw [List.drop_eq_getElem_cons hi,bif_eq0]
  unfold p2
  by_cases h0:os[i].kd=0
  ·have hd:isDt os[i].kd=true:=by simp [isDt,h0]
   rw [if_pos h0,if_pos h0,bsize_eq n (hok _ (List.getElem_mem hi) hd),Option.bind_some,map_set_i,ih _ _ (by simpa using hr)]
  ·rw [if_neg h0,if_neg h0,ih _ _ hr]
theorem layR18 (hn:1001≤n) (os:List OP) (ho:os.length≤1000) (hok:∀ o∈os,o.kd=1→(onames os).contains o.ba=true) (a1 a2:List AV) (a:Int):∀ (d i m:Nat) (row:List Int),i+d=os.length→d < m→row.length=os.length→
  Q17.l n m (.z18 a i (os.map OP.av) a1 a2 (row.map vi))=some ((p3 os (os.drop i) i row).map vi,IntKind.i64.wrap (Int.tdiv (IntKind.i64.wrap (IntKind.i64.wrap (a+16) - 1)) 16))
 | _,_,0,_,_,h,_=>absurd h (by omega)
 | 0,i,m+1,row,h,hm,hr=>by
  rw [Q17.at18]
  unfold Q17.r18
  simp only [List.length_map]
  rw [cond_f (by omega),List.drop_of_length_le (by omega)]
  rfl
 | d+1,i,m+1,row,h,hm,hr=>by
  have hi:i < os.length:=by omega
  have ih:=fun row' hr'=>layR18 hn os ho hok a1 a2 a d (i+1) m row' (by omega) (by omega) hr'
  rw [Q17.at18]
  unfold Q17.r18
  simp (disch:=omega) only [Option.bind_some,Option.bind_none,cond_true,cond_false,Bool.not_true,Bool.not_false,List.length_map,Ws_length,bs_size,within_t,upto_t,wsucc,Int.toNat_natCast,at_mapN,Ws_getDN,cells_agg,cells_v,withCons_cons,withInt_mk,withStr_mk,withBool_mk,withSl_mk,cond_t,cond_f,OP.av,hr]
  rw [List.drop_eq_getElem_cons hi,bif_eq0]
  unfold p3
  by_cases h1:os[i].kd=1
  ·obtain ⟨k,hk,e,_⟩:=ixs_in (onames os) os[i].ba 0 (hok _ (List.getElem_mem hi) h1)
   rw [onames_length] at hk
   rw [if_pos h1,if_pos h1,at_eq hn os ho,Option.bind_some,e,Nat.zero_add]
   have hkr:k < row.length:=by omega
   simp (disch:=omega) only [Option.bind_some,Option.bind_none,cond_true,cond_false,Bool.not_true,Bool.not_false,List.length_map,Ws_length,bs_size,within_t,upto_t,wsucc,Int.toNat_natCast,at_mapN,Ws_getDN,cells_agg,cells_v,withCons_cons,withInt_mk,withStr_mk,withBool_mk,withSl_mk,cond_t,cond_f,hr]
   rw [map_set_i,ih _ (by simpa using hr)]
   simp [List.getD_eq_getElem?_getD,hkr]
  ·rw [if_neg h1,if_neg h1,ih _ hr]
theorem layoutR_eq (hn:1001≤n) (os:List OP) (ho:os.length≤28) (hok:okL os) (a1 a2:List AV):Q17.F n (os.map OP.av) a1 a2=some ((layX os).1.map vi,(layX os).2):=by
 unfold Q17.F Q17.e
 have hmost:(most:Int)=1000000000:=rfl
 have e1' : ((decide ((0:Int)≤((os.length:Nat):Int))&&decide ((((os.length:Nat):Int):Int)≤most))&&decide ((((os.length:Nat):Int):Int)=((os.length:Nat):Int))&&true&&true)=true:=by
  rw [decide_eq_true (by omega),decide_eq_true (by omega),decide_eq_true rfl]; rfl
 rw [List.length_map,bif_none e1']
 have h:=layR4 (n:=n) os (by omega) a1 a2 (some ((layX os).1.map vi,(layX os).2)) (fun q hq=>by
  have h10:=layR11 (n:=n) hn os (by omega) hok.1 a1 a2 (fun x=>some ((p3 os os 0 x.1).map vi,IntKind.i64.wrap (Int.tdiv (IntKind.i64.wrap (IntKind.i64.wrap (x.2+16) - 1)) 16))) (fun q' row a hq' hr=>by
   have h16:=layR18 (n:=n) hn os (by omega) hok.2 a1 a2 a os.length 0 q' row (by omega) (by omega) hr
   rw [List.drop_zero] at h16
   exact h16) os.length 0 q (r1 os 0) (e1 os 0) (by omega) (by omega) (r1_length os 0)
  rw [List.drop_zero] at h10
  exact h10) os.length 0 n (by omega) (by omega)
 simpa [r1,e1] using h
end
end Go.Proofs.YtnoldakbllfmnaaGreatDoor.Ev
namespace Go.Proofs.YtnoldakbllfmnaaGreatDoor.Ev
open Go Go.Proofs Go.Proofs.Ev
set_option linter.unusedVariables false
set_option linter.unusedSimpArgs false
def cls (op:Int):List Int:=
 if op=0 then [0,4] else if op=1 then [2,3] else if op=2∨op=3∨op=4∨op=5∨op=6 then [2,3,3] else if op=7∨op=8 then [1,4,6] else if op=9∨op=13 then [6] else if op=10 then [5,0]
 else if op=11 then [5,5] else if op=12 then [5,3] else if op=15 then [3] else if op=16 then [2] else if op=17 then [1] else []
theorem op_cases {op:Int} (h:0≤op∧op≤18):op=0∨op=1∨op=2∨op=3∨op=4∨op=5∨op=6∨op=7∨op=8∨op=9∨op=10∨op=11∨op=12∨op=13∨op=14∨op=15∨op=16∨op=17∨op=18:=by omega
theorem cls_range {op:Int} (h:0≤op∧op≤18):∀ c∈cls op,0≤c∧c≤6:=by
 rcases op_cases h with rfl | rfl | rfl | rfl | rfl | rfl | rfl | rfl | rfl | rfl | rfl | rfl | rfl | rfl | rfl | rfl | rfl | rfl | rfl <;> decide
theorem cls_len {op:Int} (h:0≤op∧op≤18):(cls op).length≤3:=by
 rcases op_cases h with rfl | rfl | rfl | rfl | rfl | rfl | rfl | rfl | rfl | rfl | rfl | rfl | rfl | rfl | rfl | rfl | rfl | rfl | rfl <;> decide
theorem cls_alike {op:Int} (h:0≤op∧op≤18) (i:Nat) (hi:(cls op)[i]?=some 4):i=1∧((cls op)[0]?=some 0∨(cls op)[0]?=some 1):=by
 have hl:=cls_len h
 have hlt:i < 3:=by have:=(List.getElem?_eq_some_iff.1 hi).1; omega
 have hi3:i=0∨i=1∨i=2:=by omega
 revert hi
 rcases op_cases h with rfl | rfl | rfl | rfl | rfl | rfl | rfl | rfl | rfl | rfl | rfl | rfl | rfl | rfl | rfl | rfl | rfl | rfl | rfl <;> rcases hi3 with rfl | rfl | rfl <;> decide
def fitX (o b:OP) (c:Int):Bool:=
 if c=5 then decide (o.kd=3) else if c=6 then decide (o.kd=5)
 else isDt o.kd&&(!(decide (c=0∨c=2)&&decide (o.kd=4))&&(!(decide (c=2∨c=3)&&decide (o.k=0))&&!(decide (c=4)&&(decide (o.k=0) != decide (b.k=0)))))
theorem fit_dt {o b:OP} {c:Int} (hc:c=0∨c=1) (h:fitX o b c=true):isDt o.kd=true:=by
 cases hd:isDt o.kd with
 | true=>rfl
 | false=>rcases hc with rfl | rfl <;> simp [fitX,hd] at h
section
variable {n:Nat}
theorem pNum_eq (n:Nat) (a0:ByteArray) (a1 a2 a3 a4 a5:Int) (a6 a7:ByteArray) (a8 a9:Int):Q2p.F n a0 a1 a2 a3 a4 a5 a6 a7 a8 a9=some (!decide (a2=0)):=rfl
theorem fits_eq (hn:1001≤n) (o b:OP) (c:Int) (hc:0≤c∧c≤6):Q2j.F n (bs o.nm) o.kd o.k o.l o.s o.vn (bs o.vx) (bs o.ba) o.of o.tg (bs b.nm) b.kd b.k b.l b.s b.vn (bs b.vx) (bs b.ba) b.of b.tg c=some (fitX o b c):=by
 obtain ⟨m,rfl⟩ : ∃ m,n=m+1:=⟨n - 1,by omega⟩
 unfold Q2j.F Q2j.e
 simp only [Q2j.at8]
 unfold Q2j.r8 fitX
 simp only [pData_eq,pNum_eq,Option.bind_some,bif_eq0]
 have hd:c=0∨c=1∨c=2∨c=3∨c=4∨c=5∨c=6:=by omega
 rcases hd with rfl | rfl | rfl | rfl | rfl | rfl | rfl <;> cases isDt o.kd <;> by_cases h4:o.kd=4 <;> by_cases h0:o.k=0 <;> by_cases hb:b.k=0 <;> simp [h4,h0,hb,beq_int]
def inE (os:List OP):List Int→List Int→OP→Int
 | c::cs,a::ar,b=>if ¬ (0≤a∧a≤(os.length:Int) - 1) then 3 else if fitX (os.getD a.toNat zOP) b c=false then 17 else inE os cs ar (os.getD a.toNat zOP)
 | _,_,_=>0
def insX (os:List OP) (x:IN):Int:=if ¬ (0≤x.op∧x.op≤18) then 4 else if x.ar.length≠(cls x.op).length then 37 else inE os (cls x.op) x.ar zOP
theorem chop_ops {op:Int} (h:0≤op∧op≤18):∃ r,chop (op.toNat*1) [.sl ⟨true,3,false⟩ 1 gr0,.sl ⟨true,3,false⟩ 1 gr1,.sl ⟨true,3,false⟩ 1 gr2,.sl ⟨true,3,false⟩ 1 gr3,.sl ⟨true,3,false⟩ 1 gr4,.sl ⟨true,3,false⟩ 1 gr5,.sl ⟨true,3,false⟩ 1 gr6,.sl ⟨true,3,false⟩ 1 gr7,.sl ⟨true,3,false⟩ 1 gr8,.sl ⟨true,3,false⟩ 1 gr9,.sl ⟨true,3,false⟩ 1 gr10,.sl ⟨true,3,false⟩ 1 gr11,.sl ⟨true,3,false⟩ 1 gr12,.sl ⟨true,3,false⟩ 1 gr13,.sl ⟨true,3,false⟩ 1 gr14,.sl ⟨true,3,false⟩ 1 gr15,.sl ⟨true,3,false⟩ 1 gr16,.sl ⟨true,3,false⟩ 1 gr17,.sl ⟨true,3,false⟩ 1 gr18]=.sl ⟨true,3,false⟩ 1 ((cls op).map vi)::r:=by
 rcases op_cases h with rfl | rfl | rfl | rfl | rfl | rfl | rfl | rfl | rfl | rfl | rfl | rfl | rfl | rfl | rfl | rfl | rfl | rfl | rfl <;> exact ⟨_,rfl⟩
theorem op19 {op:Int} (h:0≤op∧op≤18):(decide ((0:Int)≤op)&&decide (op < ((19:Nat):Int)))=true:=by
 rw [Bool.and_eq_true,decide_eq_true_eq,decide_eq_true_eq]; omega
theorem getD_av {os:List OP} {a:Int} (h:0≤a∧a≤(os.length:Int) - 1):(os.map OP.av).getD a.toNat AV.undef=(os.getD a.toNat zOP).av:=by
 have:a.toNat < os.length:=by omega
 simp [List.getD_eq_getElem?_getD,this]
theorem rng {len:Nat} {a:Int} (h:0≤a∧a≤(len:Int) - 1):(decide ((0:Int)≤a)&&decide (a < ((len:Nat):Int)))=true:=by
 rw [Bool.and_eq_true,decide_eq_true_eq,decide_eq_true_eq]; omega
theorem ins_l (hn:1001≤n) (os:List OP) (ho:os.length≤1000) (is:List AV) (ms:List AV) (op:Int) (hop:0≤op∧op≤18) (ar:List Int) (har:ar.length=(cls op).length):∀ (d i m:Nat) (b:OP),i+d=ar.length→d < m→
  Q2l.l n m (.z7 (ar.map vi) ar.length i (os.map OP.av) is ms op (ar.map vi) (bs b.nm) b.kd b.k b.l b.s b.vn (bs b.vx) (bs b.ba) b.of b.tg)=some (inE os ((cls op).drop i) (ar.drop i) b)
 | _,_,0,_,_,h=>absurd h (by omega)
 | 0,i,m+1,b,h,_=>by
  rw [Q2l.at7]
  unfold Q2l.r7
  rw [cond_f (by omega),List.drop_of_length_le (by omega),List.drop_of_length_le (by omega)]
  rfl
 | d+1,i,m+1,b,h,hm=>by
  have hi:i < ar.length:=by omega
  have hic:i < (cls op).length:=by omega
  have hl3:=cls_len hop
  have ih:=fun b=>ins_l hn os ho is ms op hop ar har d (i+1) m b (by omega) (by omega)
  obtain ⟨r,hr⟩:=chop_ops hop
  rw [Q2l.at7]
  unfold Q2l.r7
  rw [hr,List.drop_eq_getElem_cons hi,List.drop_eq_getElem_cons hic]
  unfold inE
  simp (disch:=omega) only [Option.bind_some,Option.bind_none,cond_true,cond_false,Bool.not_true,Bool.not_false,List.length_map,Ws_length,bs_size,within_t,upto_t,wsucc,Int.toNat_natCast,at_mapN,Ws_getDN,cells_agg,cells_v,withCons_cons,withInt_mk,withStr_mk,withBool_mk,withSl_mk,cond_t,cond_f,pin_eq]
  rw [w64 (by omega) (by omega)]
  by_cases hr:0≤ar[i]∧ar[i]≤(os.length:Int) - 1
  ·rw [if_neg (not_not_intro hr),decide_eq_true hr,Bool.not_true,cond_false,bif_none (rng hr),getD_av hr]
   simp only [op19 hop,rng hr,cond_true]
   simp (disch:=omega) only [Option.bind_some,Option.bind_none,cond_true,cond_false,Bool.not_true,Bool.not_false,List.length_map,Ws_length,bs_size,within_t,upto_t,wsucc,Int.toNat_natCast,at_mapN,Ws_getDN,cells_agg,cells_v,withCons_cons,withInt_mk,withStr_mk,withBool_mk,withSl_mk,cond_t,cond_f,OP.av,fits_eq hn (os.getD ar[i].toNat zOP) b _ (cls_range hop _ (List.getElem_mem hic))]
   rw [bif_not]
   cases hf:fitX (os.getD ar[i].toNat zOP) b (cls op)[i] with
   | false=>rfl
   | true=>
    rw [if_neg (by simp),if_neg (by simp)]
    exact ih _
  ·rw [if_pos hr,show decide (0≤ar[i]∧ar[i]≤(os.length:Int) - 1)=false by rw [decide_eq_false_iff_not]; exact hr]
   rfl
theorem insErr_eq (hn:1001≤n) (os:List OP) (ho:os.length≤1000) (is ms:List AV) (x:IN) (hx:x.ar.length≤1000):Q2l.F n (os.map OP.av) is ms x.op (x.ar.map vi)=some (insX os x):=by
 unfold Q2l.F Q2l.e insX
 rw [pin_eq,Option.bind_some,bif_not]
 by_cases hop:0≤x.op∧x.op≤18
 ·obtain ⟨r,hr⟩:=chop_ops hop
  rw [if_neg (by simpa using hop),if_neg (not_not_intro hop),bif_none (op19 hop),hr]
  simp (disch:=omega) only [Option.bind_some,Option.bind_none,cond_true,cond_false,Bool.not_true,Bool.not_false,List.length_map,Ws_length,bs_size,within_t,upto_t,wsucc,Int.toNat_natCast,at_mapN,Ws_getDN,cells_agg,cells_v,withCons_cons,withInt_mk,withStr_mk,withBool_mk,withSl_mk,cond_t,cond_f]
  rw [bifne]
  by_cases hl:x.ar.length=(cls x.op).length
  ·rw [if_pos (by omega),if_neg (by simpa using hl)]
   have h:=ins_l hn os ho is ms x.op hop x.ar hl x.ar.length 0 n zOP (by omega) (by have:=cls_len hop; omega)
   rw [List.drop_zero,List.drop_zero] at h
   exact h
  ·rw [if_neg (by omega),if_pos hl]
 ·rw [if_pos (by simpa using hop),if_pos hop]
def role (c:Int):Int:=if c=1 then 2 else if c=2 then 1 else c
theorem roles_eq (hn:1001≤n) {op:Int} (h:0≤op∧op≤18):Q1l.F n op=some ((cls op).map fun c=>vi (role c)):=by
 obtain ⟨m,rfl⟩ : ∃ m,n=m+1:=⟨n - 1,by omega⟩
 unfold Q1l.F Q1l.e
 simp only [Q1l.at11]
 unfold Q1l.r11
 rcases op_cases h with rfl | rfl | rfl | rfl | rfl | rfl | rfl | rfl | rfl | rfl | rfl | rfl | rfl | rfl | rfl | rfl | rfl | rfl | rfl <;> rfl
def ok4 (os:List OP):Prop:=∀ o∈os,isDt o.kd=true→chkT o.k o.l o.s=0∧o.k≠4
theorem rNum_eq (n:Nat) (o:OP) (h:isDt o.kd=true→chkT o.k o.l o.s=0∧o.k≠4) (hd:isDt o.kd=true):Q1g.F n (bs o.nm) o.kd o.k o.l o.s o.vn (bs o.vx) (bs o.ba) o.of o.tg=some (!decide (o.k=0)):=by
 unfold Q1g.F Q1g.e Q0u.F Q0u.e
 rw [Within_eq,Option.bind_some,Option.bind_some]
 have h1:=chkT_cases (h hd).1
 have h2:=(h hd).2
 congr 1
 by_cases h0:o.k=0
 ·simp [h0]
 ·have:1≤o.k∧o.k≤3:=by omega
  simp [h0,this]
theorem insR_l (hn:1001≤n) (os:List OP) (ho:os.length≤1000) (hok:ok4 os) (is:List AV) (ms:List AV) (op:Int) (hop:0≤op∧op≤18) (ar:List Int) (har:ar.length=(cls op).length):∀ (d i m:Nat) (b:OP),i+d=ar.length→3*d < m→
  (1≤i→∃ a,ar[i - 1]?=some a∧(0≤a∧a≤(os.length:Int) - 1)∧b=os.getD a.toNat zOP∧(((cls op)[i - 1]?=some 0∨(cls op)[i - 1]?=some 1)→isDt b.kd=true))→
  Q1f.l n m (.z7 i (os.map OP.av) is ms op (ar.map vi) ((cls op).map fun c=>vi (role c)))=some (inE os ((cls op).drop i) (ar.drop i) b)
 | _,_,0,_,_,h,_=>absurd h (by omega)
 | 0,i,m+1,b,h,_,_=>by
  rw [Q1f.at7]
  unfold Q1f.r7
  simp only [List.length_map]
  rw [cond_f (by omega),List.drop_of_length_le (by omega),List.drop_of_length_le (by omega)]
  rfl
 | d+1,i,m+1,b,h,hm,hb=>by
  obtain ⟨m,rfl⟩ : ∃ q,m=q+2:=⟨m - 2,by omega⟩
  have hi:i < ar.length:=by omega
  have hic:i < (cls op).length:=by omega
  have hl3:=cls_len hop
  have ih:=fun b=>insR_l hn os ho hok is ms op hop ar har d (i+1) m b (by omega) (by omega)
  rw [Q1f.at7]
  unfold Q1f.r7
  rw [List.drop_eq_getElem_cons hi,List.drop_eq_getElem_cons hic]
  unfold inE
  simp (disch:=omega) only [Option.bind_some,Option.bind_none,cond_true,cond_false,Bool.not_true,Bool.not_false,List.length_map,Ws_length,bs_size,within_t,upto_t,wsucc,Int.toNat_natCast,at_mapN,Ws_getDN,cells_agg,cells_v,withCons_cons,withInt_mk,withStr_mk,withBool_mk,withSl_mk,cond_t,cond_f,Within_eq]
  rw [w64 (by omega) (by omega)]
  by_cases hr:0≤ar[i]∧ar[i]≤(os.length:Int) - 1
  ·have hmem:os.getD ar[i].toNat zOP∈os:=by
    have:ar[i].toNat < os.length:=by omega
    rw [List.getD_eq_getElem?_getD,List.getElem?_eq_getElem this,Option.getD_some]
    exact List.getElem_mem this
   have h28:∀ z,(z=fitX (os.getD ar[i].toNat zOP) b (cls op)[i])→Q1f.l n (m+2) (.z28 i z (os.map OP.av) is ms op (ar.map vi) ((cls op).map fun c=>vi (role c)))=some (if fitX (os.getD ar[i].toNat zOP) b (cls op)[i]=false then 17 else inE os ((cls op).drop (i+1)) (ar.drop (i+1)) (os.getD ar[i].toNat zOP)):=by
    rintro z rfl
    rw [Q1f.at28]
    unfold Q1f.r28
    rw [bif_not]
    cases hf:fitX (os.getD ar[i].toNat zOP) b (cls op)[i] with
    | false=>rfl
    | true=>
     rw [if_neg (by simp),if_neg (by simp),Q1f.at8]
     unfold Q1f.r8
     rw [wsucc (by omega)]
     refine ih _ fun _=>⟨ar[i],by simp,hr,rfl,fun hc=>?_⟩
     rw [Nat.add_sub_cancel,List.getElem?_eq_getElem hic] at hc
     exact fit_dt (by rcases hc with hc | hc; exact .inl (Option.some.inj hc); exact .inr (Option.some.inj hc)) hf
   rw [if_neg (not_not_intro hr),decide_eq_true hr,Bool.not_true,cond_false,bif_none (rng hr),getD_av hr]
   have hnum:isDt (os.getD ar[i].toNat zOP).kd=true→Q1g.F n (bs (os.getD ar[i].toNat zOP).nm) (os.getD ar[i].toNat zOP).kd (os.getD ar[i].toNat zOP).k (os.getD ar[i].toNat zOP).l (os.getD ar[i].toNat zOP).s (os.getD ar[i].toNat zOP).vn (bs (os.getD ar[i].toNat zOP).vx) (bs (os.getD ar[i].toNat zOP).ba) (os.getD ar[i].toNat zOP).of (os.getD ar[i].toNat zOP).tg=some (!decide ((os.getD ar[i].toNat zOP).k=0)):=rNum_eq n _ (hok _ hmem)
   have hcr:=cls_range hop _ (List.getElem_mem hic)
   have hcd:(cls op)[i]=0∨(cls op)[i]=1∨(cls op)[i]=2∨(cls op)[i]=3∨(cls op)[i]=4∨(cls op)[i]=5∨(cls op)[i]=6:=by omega
   generalize hO:os.getD ar[i].toNat zOP=O at *
   have gl:(decide ((0:Int)≤(i:Int))&&decide ((i:Int) < (((cls op).length:Nat):Int)))=true:=within_t hic
   simp only [OP.av,cells_agg,cells_v,withCons_cons,withInt_mk,withStr_mk,gl,cond_true,Int.toNat_natCast,at_mapN (fun c=>vi (role c)) hic,bif_eq0]
   have hdt:isDt O.kd=decide (O.kd=0∨O.kd=1∨O.kd=2∨O.kd=4):=rfl
   rcases hcd with hc | hc | hc | hc | hc | hc | hc
   ·rw [show role (cls op)[i]=0 by rw [hc]; rfl,if_pos rfl,rScalar_eq,Option.bind_some]
    refine h28 _ ?_
    rw [hc]
    unfold fitX
    rw [hdt]
    by_cases h0:O.kd=0 <;> by_cases h1:O.kd=1 <;> by_cases h2:O.kd=2 <;> by_cases h4:O.kd=4 <;> simp [h0,h1,h2,h4]
   ·rw [show role (cls op)[i]=2 by rw [hc]; rfl,if_neg (by decide),if_neg (by decide),if_pos rfl,rData_eq,Option.bind_some]
    refine h28 _ ?_
    rw [hc]
    simp [fitX]
   ·rw [show role (cls op)[i]=1 by rw [hc]; rfl,if_neg (by decide),if_pos rfl,rScalar_eq,Option.bind_some]
    by_cases hs:O.kd=0∨O.kd=1∨O.kd=2
    ·have hd:isDt O.kd=true:=by rw [hdt,decide_eq_true_eq]; omega
     rw [cond_t hs,hnum hd,Option.bind_some]
     refine h28 _ ?_
     rw [hc]
     have h4:¬ O.kd=4:=by omega
     simp [fitX,hd,h4]
    ·rw [cond_f hs]
     refine h28 _ ?_
     rw [hc]
     by_cases h4:O.kd=4
     ·simp [fitX,h4]
     ·have hd:isDt O.kd=false:=by rw [hdt,decide_eq_false_iff_not]; omega
      simp [fitX,hd]
   ·rw [show role (cls op)[i]=3 by rw [hc]; rfl,if_neg (by decide),if_neg (by decide),if_neg (by decide),if_pos rfl,rData_eq,Option.bind_some]
    cases hd:isDt O.kd with
    | true=>
     rw [cond_true,hnum hd,Option.bind_some]
     refine h28 _ ?_
     rw [hc]
     simp [fitX,hd]
    | false=>
     rw [cond_false]
     refine h28 _ ?_
     rw [hc]
     simp [fitX,hd]
   ·rw [show role (cls op)[i]=4 by rw [hc]; rfl,if_neg (by decide),if_neg (by decide),if_neg (by decide),if_neg (by decide),if_pos rfl,rData_eq,Option.bind_some]
    obtain ⟨i1,hp⟩:=cls_alike hop i (by rw [List.getElem?_eq_getElem hic,hc])
    obtain ⟨a',ha1,ha2,ha3,ha4⟩:=hb (by omega)
    have hbd:=ha4 (by rw [i1]; exact hp)
    have hbm:b∈os:=by
     have:a'.toNat < os.length:=by omega
     rw [ha3,List.getD_eq_getElem?_getD,List.getElem?_eq_getElem this,Option.getD_some]
     exact List.getElem_mem this
    cases hd:isDt O.kd with
    | true=>
     have hlt0:0 < ar.length:=by omega
     have hw:IntKind.i64.wrap ((i:Int) - 1)=((0:Nat):Int):=by rw [i1,w64 (by omega) (by omega)]; rfl
     have hg:(ar.map vi).getD 0 AV.undef=vi a':=by
      rw [i1] at ha1
      rw [List.getD_eq_getElem?_getD,List.getElem?_map,show ar[0]?=some a' from ha1]
      rfl
     rw [cond_true,hnum hd,Option.bind_some,hw,within_t hlt0,cond_true,Int.toNat_natCast,hg]
     simp only [cells_v,withCons_cons,withInt_mk]
     rw [bif_none (rng ha2),getD_av ha2,← ha3]
     simp only [OP.av,cells_agg,cells_v,withCons_cons,withInt_mk,withStr_mk]
     rw [rNum_eq n b (hok b hbm) hbd,Option.bind_some]
     refine h28 _ ?_
     rw [hc]
     by_cases k1:O.k=0 <;> by_cases k2:b.k=0 <;> simp [fitX,hd,k1,k2]
    | false=>
     rw [cond_false]
     refine h28 _ ?_
     rw [hc]
     simp [fitX,hd]
   ·rw [show role (cls op)[i]=5 by rw [hc]; rfl,if_neg (by decide),if_neg (by decide),if_neg (by decide),if_neg (by decide),if_neg (by decide),if_pos rfl]
    refine h28 _ ?_
    rw [hc]
    simp [fitX,beq_int]
   ·rw [show role (cls op)[i]=6 by rw [hc]; rfl,if_neg (by decide),if_neg (by decide),if_neg (by decide),if_neg (by decide),if_neg (by decide),if_neg (by decide),if_pos rfl]
    refine h28 _ ?_
    rw [hc]
    simp [fitX,beq_int]
  ·rw [if_pos hr,show decide (0≤ar[i]∧ar[i]≤(os.length:Int) - 1)=false by rw [decide_eq_false_iff_not]; exact hr]
   rfl
theorem insErrR_eq (hn:1001≤n) (os:List OP) (ho:os.length≤1000) (hok:ok4 os) (is ms:List AV) (x:IN) (hx:x.ar.length≤1000):Q1f.F n (os.map OP.av) is ms x.op (x.ar.map vi)=some (insX os x):=by
 unfold Q1f.F Q1f.e insX
 rw [Within_eq,Option.bind_some,bif_not]
 by_cases hop:0≤x.op∧x.op≤18
 ·rw [if_neg (by simpa using hop),if_neg (not_not_intro hop),roles_eq hn hop,Option.bind_some]
  simp only [List.length_map]
  rw [bifne]
  by_cases hl:x.ar.length=(cls x.op).length
  ·rw [if_pos (by omega),if_neg (by simpa using hl)]
   have h:=insR_l hn os ho hok is ms x.op hop x.ar hl x.ar.length 0 n zOP (by omega) (by have:=cls_len hop; omega) (fun h=>by omega)
   rw [List.drop_zero,List.drop_zero] at h
   exact h
  ·rw [if_neg (by omega),if_pos hl]
 ·rw [if_pos (by simpa using hop),if_pos hop]
def monX (nI:Nat) (m:MN):Int:=if 0≤m.fr∧m.fr < m.tt∧m.tt≤(nI:Int)∧(0≤m.ex∧m.ex≤999)∧(0≤m.hd∧m.hd≤(nI:Int) - 1) then 0 else 3
theorem monErr_eq (hn:1001≤n) (os:List AV) (is:List IN) (hi' : is.length≤1000) (ms:List AV) (x:MN):Q2u.F n os (is.map IN.av) ms x.fr x.tt x.ex x.hd=some (monX is.length x):=by
 obtain ⟨m,rfl⟩ : ∃ m,n=m+1:=⟨n - 1,by omega⟩
 unfold Q2u.F Q2u.e monX
 simp only [Q2u.at3]
 unfold Q2u.r3
 simp only [pin_eq,cond_eq,Option.bind_some,List.length_map,ge_iff_le]
 rw [w64 (by omega) (by omega)]
 by_cases h1:0≤x.fr <;> by_cases h2:x.fr < x.tt <;> by_cases h3:x.tt≤(is.length:Int) <;> by_cases h4:0≤x.ex∧x.ex≤999 <;> by_cases h5:0≤x.hd∧x.hd≤(is.length:Int) - 1 <;> simp [h1,h2,h3,h4,h5]
end
end Go.Proofs.YtnoldakbllfmnaaGreatDoor.Ev
end
