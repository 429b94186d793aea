import Derived.Test.YtnoldakbllfmnaaGreatDoorDAa
import Derived.Test.YtnoldakbllfmnaaGreatDoorDAVc
import Derived.Shelf.Spec.SlicesGrow
import Derived.Shelf.SlLaysE0
import Derived.Shelf.SlGeneric
import Derived.Ground.Names8Prog
import Derived.Ground.SlgnProg
import Derived.Test.YtnoldakbllfmnaaGreatDoorProg
import Derived.PlainAid
import Derived.IntWalk
import Derived.Laws.Strings
import Derived.Lib.AtoiTie
import Derived.Lib.IndexBytes
noncomputable section
namespace Go.Proofs.YtnoldakbllfmnaaGreatDoor.Ev
open Go Go.Proofs Go.Proofs.Ev
set_option linter.unusedVariables false
set_option maxRecDepth 100000
abbrev Q3s.A:=ByteArray × ByteArray
abbrev Q3s.T:=Bool
def Q3s.i:Q3s.A→List AV:=fun (a0,a1)=>[vs a0,vs a1]
def Q3s.o (xs:List AV):Option Q3s.A:=match xs with | [.v (.string a0),.v (.string a1)]=>some (a0,a1) | _=>none
theorem Q3s.oi:∀ xs a,Q3s.o xs=some a→xs=Q3s.i a:=by
 intro xs a h
 unfold Q3s.o at h
 split at h
 ·cases h; rfl
 ·cases h
def Q3s.p (p:Q3s.T):AV:=vb p
def Q3s.q (x:AV):Option Q3s.T:=match x with | .v (.bool p0)=>some p0 | _=>none
theorem Q3s.qi:∀ x p,Q3s.q x=some p→x=Q3s.p p:=by
 intro x p h
 unfold Q3s.q at h
 split at h
 ·cases h; rfl
 ·cases h
def Q3s.C {R:Type} (n:Nat) (f:FuncId) (xs:List AV):(AV→Option R)→Option R:=
 fun _=>none
theorem Q3s.tells {R:Type} (n:Nat):Tells (R:=R) Tryz.prog (Q3s.C n):=fun _ xs=>Tells1.none
def Q3s.cut (r:Nat):Option Keep:=match r with  | _=>none
def Q3s.e (n:Nat) (a0 a1:ByteArray):Option Bool:=
 let y1:Bool:=decide (((a0.size:Nat):Int)≥((a1.size:Nat):Int))
 bif y1 then (let y2:Int:=IntKind.i64.wrap (((a0.size:Nat):Int) - ((a1.size:Nat):Int))
 bif decide ((0:Int)≤y2)&&decide ((y2:Int)≤((a0.size:Nat):Int)) then (let y3:ByteArray:=a0.extract (y2).toNat a0.size
 some (y3.toList==a1.toList)) else none) else (some false)
def Q3s.E (n:Nat):Q3s.A→Option Q3s.T:=fun (a0,a1)=>Q3s.e n a0 a1
def Q3s.F (n:Nat) (a0 a1:ByteArray):Option Bool:=Q3s.e n a0 a1
def Q3s.FA (n:Nat):Q3s.A→Option Q3s.T:=Q3s.E n
theorem Q3s.hands (n:Nat):∀ a p,Q3s.FA n a=some p→HandsIn Tryz.prog 215 (Q3s.i a) (Q3s.p p):=
 pf_hands (C:=Q3s.C n) (cut:=Q3s.cut) (Z:=Empty) (t:=nofun) (s:=nofun) (e:=fun _=>Q3s.E n) (r:=fun _ z=>nomatch z) (n:=n) cfg mixed globs rfl Q3s.qi (Q3s.tells n) Tryz.func215 (by kernel_rfl) (by kernel_rfl) (fun rec a=>by kernel_rfl) (fun rec z=>nomatch z)
def Q3s.via {R:Type} (n:Nat):List AV→(AV→Option R)→Option R:=viaK (Q3s.FA n) Q3s.o Q3s.p
theorem Q3s.tells1 {R:Type} (n:Nat) (xs:List AV):Tells1 (R:=R) Tryz.prog 215 xs (Q3s.via n xs):=tells_via Q3s.oi (fun a=>by kernel_rfl) (Q3s.hands n) xs
end Go.Proofs.YtnoldakbllfmnaaGreatDoor.Ev
namespace Go.Proofs.YtnoldakbllfmnaaGreatDoor.Ev
open Go Go.Proofs Go.Proofs.Ev
set_option linter.unusedVariables false
set_option maxRecDepth 100000
abbrev Q3q.A:=ByteArray × ByteArray
abbrev Q3q.T:=ByteArray × Bool
def Q3q.i:Q3q.A→List AV:=fun (a0,a1)=>[vs a0,vs a1]
def Q3q.o (xs:List AV):Option Q3q.A:=match xs with | [.v (.string a0),.v (.string a1)]=>some (a0,a1) | _=>none
theorem Q3q.oi:∀ xs a,Q3q.o xs=some a→xs=Q3q.i a:=by
 intro xs a h
 unfold Q3q.o at h
 split at h
 ·cases h; rfl
 ·cases h
def Q3q.p (p:Q3q.T):AV:=.tup [vs p.1,vb p.2]
def Q3q.q (x:AV):Option Q3q.T:=match x with | .tup [.v (.string p0),.v (.bool p1)]=>some (p0,p1) | _=>none
theorem Q3q.qi:∀ x p,Q3q.q x=some p→x=Q3q.p p:=by
 intro x p h
 unfold Q3q.q at h
 split at h
 ·cases h; rfl
 ·cases h
def Q3q.C {R:Type} (n:Nat) (f:FuncId) (xs:List AV):(AV→Option R)→Option R:=
 bif Nat.beq f 215 then Q3s.via n xs else fun _=>none
theorem Q3q.tells {R:Type} (n:Nat):Tells (R:=R) Tryz.prog (Q3q.C n):=fun _ xs=>tells_at (Q3s.tells1 n xs) (Tells1.none)
def Q3q.cut (r:Nat):Option Keep:=match r with  | _=>none
def Q3q.e (n:Nat) (a0 a1:ByteArray):Option (ByteArray × Bool):=
 (Q3s.F n a0 a1).bind fun p1=>
 bif !p1 then (some (a0,false)) else (let y2:Int:=IntKind.i64.wrap (((a0.size:Nat):Int) - ((a1.size:Nat):Int))
 bif decide ((0:Int)≤y2)&&decide ((y2:Int)≤((a0.size:Nat):Int)) then (some (a0.extract 0 (y2).toNat,true)) else none)
def Q3q.E (n:Nat):Q3q.A→Option Q3q.T:=fun (a0,a1)=>Q3q.e n a0 a1
def Q3q.F (n:Nat) (a0 a1:ByteArray):Option (ByteArray × Bool):=Q3q.e n a0 a1
def Q3q.FA (n:Nat):Q3q.A→Option Q3q.T:=Q3q.E n
theorem Q3q.hands (n:Nat):∀ a p,Q3q.FA n a=some p→HandsIn Tryz.prog 184 (Q3q.i a) (Q3q.p p):=
 pf_hands (C:=Q3q.C n) (cut:=Q3q.cut) (Z:=Empty) (t:=nofun) (s:=nofun) (e:=fun _=>Q3q.E n) (r:=fun _ z=>nomatch z) (n:=n) cfg mixed globs rfl Q3q.qi (Q3q.tells n) Tryz.func184 (by kernel_rfl) (by kernel_rfl) (fun rec a=>by kernel_rfl) (fun rec z=>nomatch z)
def Q3q.via {R:Type} (n:Nat):List AV→(AV→Option R)→Option R:=viaK (Q3q.FA n) Q3q.o Q3q.p
theorem Q3q.tells1 {R:Type} (n:Nat) (xs:List AV):Tells1 (R:=R) Tryz.prog 184 xs (Q3q.via n xs):=tells_via Q3q.oi (fun a=>by kernel_rfl) (Q3q.hands n) xs
end Go.Proofs.YtnoldakbllfmnaaGreatDoor.Ev
namespace Go.Proofs.YtnoldakbllfmnaaGreatDoor.Ev
open Go Go.Proofs Go.Proofs.Ev
set_option linter.unusedVariables false
set_option maxRecDepth 100000
abbrev Q3g.A:=ByteArray × ByteArray
abbrev Q3g.T:=ByteArray × Bool
def Q3g.i:Q3g.A→List AV:=fun (a0,a1)=>[vs a0,vs a1]
def Q3g.o (xs:List AV):Option Q3g.A:=match xs with | [.v (.string a0),.v (.string a1)]=>some (a0,a1) | _=>none
theorem Q3g.oi:∀ xs a,Q3g.o xs=some a→xs=Q3g.i a:=by
 intro xs a h
 unfold Q3g.o at h
 split at h
 ·cases h; rfl
 ·cases h
def Q3g.p (p:Q3g.T):AV:=.tup [vs p.1,vb p.2]
def Q3g.q (x:AV):Option Q3g.T:=match x with | .tup [.v (.string p0),.v (.bool p1)]=>some (p0,p1) | _=>none
theorem Q3g.qi:∀ x p,Q3g.q x=some p→x=Q3g.p p:=by
 intro x p h
 unfold Q3g.q at h
 split at h
 ·cases h; rfl
 ·cases h
def Q3g.C {R:Type} (n:Nat) (f:FuncId) (xs:List AV):(AV→Option R)→Option R:=
 bif Nat.beq f 184 then Q3q.via n xs else fun _=>none
theorem Q3g.tells {R:Type} (n:Nat):Tells (R:=R) Tryz.prog (Q3g.C n):=fun _ xs=>tells_at (Q3q.tells1 n xs) (Tells1.none)
def Q3g.cut (r:Nat):Option Keep:=match r with  | _=>none
def Q3g.e (n:Nat) (a0 a1:ByteArray):Option (ByteArray × Bool):=
 (Q3q.F n a0 a1).bind fun p1=>
 some (p1.1,p1.2)
def Q3g.E (n:Nat):Q3g.A→Option Q3g.T:=fun (a0,a1)=>Q3g.e n a0 a1
def Q3g.F (n:Nat) (a0 a1:ByteArray):Option (ByteArray × Bool):=Q3g.e n a0 a1
def Q3g.FA (n:Nat):Q3g.A→Option Q3g.T:=Q3g.E n
theorem Q3g.hands (n:Nat):∀ a p,Q3g.FA n a=some p→HandsIn Tryz.prog 154 (Q3g.i a) (Q3g.p p):=
 pf_hands (C:=Q3g.C n) (cut:=Q3g.cut) (Z:=Empty) (t:=nofun) (s:=nofun) (e:=fun _=>Q3g.E n) (r:=fun _ z=>nomatch z) (n:=n) cfg mixed globs rfl Q3g.qi (Q3g.tells n) Tryz.func154 (by kernel_rfl) (by kernel_rfl) (fun rec a=>by kernel_rfl) (fun rec z=>nomatch z)
def Q3g.via {R:Type} (n:Nat):List AV→(AV→Option R)→Option R:=viaK (Q3g.FA n) Q3g.o Q3g.p
theorem Q3g.tells1 {R:Type} (n:Nat) (xs:List AV):Tells1 (R:=R) Tryz.prog 154 xs (Q3g.via n xs):=tells_via Q3g.oi (fun a=>by kernel_rfl) (Q3g.hands n) xs
end Go.Proofs.YtnoldakbllfmnaaGreatDoor.Ev
namespace Go.Proofs.YtnoldakbllfmnaaGreatDoor.Ev
open Go Go.Proofs Go.Proofs.Ev
set_option linter.unusedVariables false
set_option maxRecDepth 100000
abbrev Q2z.A:=ByteArray
abbrev Q2z.T:=Int × Int × Int × Bool
def Q2z.i:Q2z.A→List AV:=fun a0=>[vs a0]
def Q2z.o (xs:List AV):Option Q2z.A:=match xs with | [.v (.string a0)]=>some a0 | _=>none
theorem Q2z.oi:∀ xs a,Q2z.o xs=some a→xs=Q2z.i a:=by
 intro xs a h
 unfold Q2z.o at h
 split at h
 ·cases h; rfl
 ·cases h
def Q2z.p (p:Q2z.T):AV:=.tup [AV.agg [vi p.1,vi p.2.1,vi p.2.2.1],vb p.2.2.2]
def Q2z.q (x:AV):Option Q2z.T:=match x with | .tup [.agg [.v (.int .i64 p0),.v (.int .i64 p1),.v (.int .i64 p2)],.v (.bool p3)]=>some (p0,p1,p2,p3) | _=>none
theorem Q2z.qi:∀ x p,Q2z.q x=some p→x=Q2z.p p:=by
 intro x p h
 unfold Q2z.q at h
 split at h
 ·cases h; rfl
 ·cases h
def Q2z.C {R:Type} (n:Nat) (f:FuncId) (xs:List AV):(AV→Option R)→Option R:=
 bif Nat.beq f 60 then Q3e.via n xs else bif Nat.beq f 108 then Q2s.via n xs else bif Nat.beq f 109 then Q3a.via n xs else bif Nat.beq f 154 then Q3g.via n xs else fun _=>none
theorem Q2z.tells {R:Type} (n:Nat):Tells (R:=R) Tryz.prog (Q2z.C n):=fun _ xs=>tells_at (Q3e.tells1 n xs) (tells_at (Q2s.tells1 n xs) (tells_at (Q3a.tells1 n xs) (tells_at (Q3g.tells1 n xs) (Tells1.none))))
def Q2z.cut (r:Nat):Option Keep:=match r with  | _=>none
def Q2z.e (n:Nat) (a0:ByteArray):Option (Int × Int × Int × Bool):=
 (Q3e.F n a0 (⟨#[40]⟩ : ByteArray)).bind fun p1=>
 (Q3a.F n gr19 p1.1).bind fun p2=>
 (Q3g.F n p1.2.1 (⟨#[41]⟩ : ByteArray)).bind fun p3=>
 bif decide (p2 < 0) then (some (0,0,0,false)) else (bif !p3.2 then (some (0,0,0,false)) else (bif p2==0 then ((Q2s.F n p3.1).bind fun p4=>
 some (p2,p4.1,0,p4.2)) else ((Q3e.F n p3.1 (⟨#[44]⟩ : ByteArray)).bind fun p5=>
 (Q2s.F n p5.1).bind fun p6=>
 (Q2s.F n p5.2.1).bind fun p7=>
 bif p6.2 then (some (p2,p6.1,p7.1,p7.2)) else (some (p2,p6.1,p7.1,false)))))
def Q2z.E (n:Nat):Q2z.A→Option Q2z.T:=fun a0=>Q2z.e n a0
def Q2z.F (n:Nat) (a0:ByteArray):Option (Int × Int × Int × Bool):=Q2z.e n a0
def Q2z.FA (n:Nat):Q2z.A→Option Q2z.T:=Q2z.E n
theorem Q2z.hands (n:Nat):∀ a p,Q2z.FA n a=some p→HandsIn Tryz.prog 153 (Q2z.i a) (Q2z.p p):=
 pf_hands (C:=Q2z.C n) (cut:=Q2z.cut) (Z:=Empty) (t:=nofun) (s:=nofun) (e:=fun _=>Q2z.E n) (r:=fun _ z=>nomatch z) (n:=n) cfg mixed globs rfl Q2z.qi (Q2z.tells n) Tryz.func153 (by kernel_rfl) (by kernel_rfl) (fun rec a=>by kernel_rfl) (fun rec z=>nomatch z)
def Q2z.via {R:Type} (n:Nat):List AV→(AV→Option R)→Option R:=viaK (Q2z.FA n) Q2z.o Q2z.p
theorem Q2z.tells1 {R:Type} (n:Nat) (xs:List AV):Tells1 (R:=R) Tryz.prog 153 xs (Q2z.via n xs):=tells_via Q2z.oi (fun a=>by kernel_rfl) (Q2z.hands n) xs
end Go.Proofs.YtnoldakbllfmnaaGreatDoor.Ev
namespace Go.Proofs.YtnoldakbllfmnaaGreatDoor.Ev
open Go Go.Proofs Go.Proofs.Ev
set_option linter.unusedVariables false
set_option maxRecDepth 100000
abbrev Q3h.A:=ByteArray × ByteArray
abbrev Q3h.T:=Bool
def Q3h.i:Q3h.A→List AV:=fun (a0,a1)=>[vs a0,vs a1]
def Q3h.o (xs:List AV):Option Q3h.A:=match xs with | [.v (.string a0),.v (.string a1)]=>some (a0,a1) | _=>none
theorem Q3h.oi:∀ xs a,Q3h.o xs=some a→xs=Q3h.i a:=by
 intro xs a h
 unfold Q3h.o at h
 split at h
 ·cases h; rfl
 ·cases h
def Q3h.p (p:Q3h.T):AV:=vb p
def Q3h.q (x:AV):Option Q3h.T:=match x with | .v (.bool p0)=>some p0 | _=>none
theorem Q3h.qi:∀ x p,Q3h.q x=some p→x=Q3h.p p:=by
 intro x p h
 unfold Q3h.q at h
 split at h
 ·cases h; rfl
 ·cases h
def Q3h.C {R:Type} (n:Nat) (f:FuncId) (xs:List AV):(AV→Option R)→Option R:=
 bif Nat.beq f 104 then Q3r.via n xs else fun _=>none
theorem Q3h.tells {R:Type} (n:Nat):Tells (R:=R) Tryz.prog (Q3h.C n):=fun _ xs=>tells_at (Q3r.tells1 n xs) (Tells1.none)
def Q3h.cut (r:Nat):Option Keep:=match r with  | _=>none
def Q3h.e (n:Nat) (a0 a1:ByteArray):Option Bool:=
 (Q3r.F n a0 a1).bind fun p1=>
 some p1
def Q3h.E (n:Nat):Q3h.A→Option Q3h.T:=fun (a0,a1)=>Q3h.e n a0 a1
def Q3h.F (n:Nat) (a0 a1:ByteArray):Option Bool:=Q3h.e n a0 a1
def Q3h.FA (n:Nat):Q3h.A→Option Q3h.T:=Q3h.E n
theorem Q3h.hands (n:Nat):∀ a p,Q3h.FA n a=some p→HandsIn Tryz.prog 61 (Q3h.i a) (Q3h.p p):=
 pf_hands (C:=Q3h.C n) (cut:=Q3h.cut) (Z:=Empty) (t:=nofun) (s:=nofun) (e:=fun _=>Q3h.E n) (r:=fun _ z=>nomatch z) (n:=n) cfg mixed globs rfl Q3h.qi (Q3h.tells n) Tryz.func61 (by kernel_rfl) (by kernel_rfl) (fun rec a=>by kernel_rfl) (fun rec z=>nomatch z)
def Q3h.via {R:Type} (n:Nat):List AV→(AV→Option R)→Option R:=viaK (Q3h.FA n) Q3h.o Q3h.p
theorem Q3h.tells1 {R:Type} (n:Nat) (xs:List AV):Tells1 (R:=R) Tryz.prog 61 xs (Q3h.via n xs):=tells_via Q3h.oi (fun a=>by kernel_rfl) (Q3h.hands n) xs
end Go.Proofs.YtnoldakbllfmnaaGreatDoor.Ev
namespace Go.Proofs.YtnoldakbllfmnaaGreatDoor.Ev
open Go Go.Proofs Go.Proofs.Ev
set_option linter.unusedVariables false
set_option maxRecDepth 100000
abbrev Q1w.A:=ByteArray × Int
abbrev Q1w.T:=Bool
def Q1w.i:Q1w.A→List AV:=fun (a0,a1)=>[vs a0,vi a1]
def Q1w.o (xs:List AV):Option Q1w.A:=match xs with | [.v (.string a0),.v (.int .i64 a1)]=>some (a0,a1) | _=>none
theorem Q1w.oi:∀ xs a,Q1w.o xs=some a→xs=Q1w.i a:=by
 intro xs a h
 unfold Q1w.o at h
 split at h
 ·cases h; rfl
 ·cases h
def Q1w.p (p:Q1w.T):AV:=vb p
def Q1w.q (x:AV):Option Q1w.T:=match x with | .v (.bool p0)=>some p0 | _=>none
theorem Q1w.qi:∀ x p,Q1w.q x=some p→x=Q1w.p p:=by
 intro x p h
 unfold Q1w.q at h
 split at h
 ·cases h; rfl
 ·cases h
def Q1w.C {R:Type} (n:Nat) (f:FuncId) (xs:List AV):(AV→Option R)→Option R:=
 fun _=>none
theorem Q1w.tells {R:Type} (n:Nat):Tells (R:=R) Tryz.prog (Q1w.C n):=fun _ xs=>Tells1.none
def Q1w.cut (r:Nat):Option Keep:=match r with  | _=>none
def Q1w.e (n:Nat) (a0:ByteArray) (a1:Int):Option Bool:=
 let y1:Bool:=decide (a1 < ((a0.size:Nat):Int))
 bif y1 then (bif decide ((0:Int)≤a1)&&decide (a1 < ((a0.size:Nat):Int)) then (let y2:Int:=(((a0.data.getD ((a1).toNat) 0).toNat:Nat):Int)
 bif decide ((48:Int)≤y2) then (bif decide ((0:Int)≤a1)&&decide (a1 < ((a0.size:Nat):Int)) then (let y3:Int:=(((a0.data.getD ((a1).toNat) 0).toNat:Nat):Int)
 some (decide (y3≤57))) else none) else (some false)) else none) else (some false)
def Q1w.E (n:Nat):Q1w.A→Option Q1w.T:=fun (a0,a1)=>Q1w.e n a0 a1
def Q1w.F (n:Nat) (a0:ByteArray) (a1:Int):Option Bool:=Q1w.e n a0 a1
def Q1w.FA (n:Nat):Q1w.A→Option Q1w.T:=Q1w.E n
theorem Q1w.hands (n:Nat):∀ a p,Q1w.FA n a=some p→HandsIn Tryz.prog 251 (Q1w.i a) (Q1w.p p):=
 pf_hands (C:=Q1w.C n) (cut:=Q1w.cut) (Z:=Empty) (t:=nofun) (s:=nofun) (e:=fun _=>Q1w.E n) (r:=fun _ z=>nomatch z) (n:=n) cfg mixed globs rfl Q1w.qi (Q1w.tells n) Tryz.func251 (by kernel_rfl) (by kernel_rfl) (fun rec a=>by kernel_rfl) (fun rec z=>nomatch z)
def Q1w.via {R:Type} (n:Nat):List AV→(AV→Option R)→Option R:=viaK (Q1w.FA n) Q1w.o Q1w.p
theorem Q1w.tells1 {R:Type} (n:Nat) (xs:List AV):Tells1 (R:=R) Tryz.prog 251 xs (Q1w.via n xs):=tells_via Q1w.oi (fun a=>by kernel_rfl) (Q1w.hands n) xs
end Go.Proofs.YtnoldakbllfmnaaGreatDoor.Ev
namespace Go.Proofs.YtnoldakbllfmnaaGreatDoor.Ev
open Go Go.Proofs Go.Proofs.Ev
set_option linter.unusedVariables false
set_option maxRecDepth 100000
abbrev Q20.A:=ByteArray × Int
abbrev Q20.T:=Int × Int
def Q20.i:Q20.A→List AV:=fun (a0,a1)=>[vs a0,vi a1]
def Q20.o (xs:List AV):Option Q20.A:=match xs with | [.v (.string a0),.v (.int .i64 a1)]=>some (a0,a1) | _=>none
theorem Q20.oi:∀ xs a,Q20.o xs=some a→xs=Q20.i a:=by
 intro xs a h
 unfold Q20.o at h
 split at h
 ·cases h; rfl
 ·cases h
def Q20.p (p:Q20.T):AV:=.tup [vi p.1,vi p.2]
def Q20.q (x:AV):Option Q20.T:=match x with | .tup [.v (.int .i64 p0),.v (.int .i64 p1)]=>some (p0,p1) | _=>none
theorem Q20.qi:∀ x p,Q20.q x=some p→x=Q20.p p:=by
 intro x p h
 unfold Q20.q at h
 split at h
 ·cases h; rfl
 ·cases h
inductive Q20.Z where
 | z5 (z1:ByteArray) (z2:Int)
def Q20.C {R:Type} (n:Nat) (f:FuncId) (xs:List AV):(AV→Option R)→Option R:=
 bif Nat.beq f 251 then Q1w.via n xs else fun _=>none
theorem Q20.tells {R:Type} (n:Nat):Tells (R:=R) Tryz.prog (Q20.C n):=fun _ xs=>tells_at (Q1w.tells1 n xs) (Tells1.none)
def Q20.cut (r:Nat):Option Keep:=match r with | 5=>some ⟨[0,1],[]⟩ | _=>none
def Q20.t (z:Q20.Z):List Item:=(todoOf (match z with | .z5 _ _=>5) 1000 [.code (Tryz.f240.body.getD .skip)]).getD []
def Q20.s:Q20.Z→St
 | .z5 z1 z2=>⟨spr 22 0 [(0,vs z1),(1,vi z2)],Mem.ofList [],0⟩
def Q20.r5 (n:Nat) (c:Q20.Z→Option (Int × Int)) (z1:ByteArray) (z2:Int):Option (Int × Int):=
 (Q1w.F n z1 z2).bind fun p3=>
 bif p3 then (c (.z5 z1 (IntKind.i64.wrap (z2+1)))) else (some (z2,0))
def Q20.r (n:Nat) (c:Q20.Z→Option (Int × Int)):Q20.Z→Option (Int × Int)
 | .z5 z1 z2=>Q20.r5 n c z1 z2
def Q20.e (n:Nat) (c:Q20.Z→Option (Int × Int)) (a0:ByteArray) (a1:Int):Option (Int × Int):=
 (Q1w.F n a0 a1).bind fun p1=>
 bif !p1 then (let y2:Bool:=decide (a1 < ((a0.size:Nat):Int))
 bif y2 then (some (a1,8)) else (some (a1,9))) else (c (.z5 a0 a1))
def Q20.E (n:Nat) (c:Q20.Z→Option (Int × Int)):Q20.A→Option Q20.T:=fun (a0,a1)=>Q20.e n c a0 a1
def Q20.l (n:Nat):Nat→Q20.Z→Option (Int × Int):=loopL (Q20.r n)
def Q20.F (n:Nat) (a0:ByteArray) (a1:Int):Option (Int × Int):=Q20.e n (Q20.l n n) a0 a1
def Q20.FA (n:Nat):Q20.A→Option Q20.T:=Q20.E n (Q20.l n n)
theorem Q20.hands (n:Nat):∀ a p,Q20.FA n a=some p→HandsIn Tryz.prog 240 (Q20.i a) (Q20.p p):=
 pf_hands (C:=Q20.C n) (cut:=Q20.cut) (t:=Q20.t) (s:=Q20.s) (e:=Q20.E n) (r:=Q20.r n) (n:=n) cfg mixed globs rfl Q20.qi (Q20.tells n) Tryz.func240 (by kernel_rfl) (by kernel_rfl) (fun rec a=>by kernel_rfl) (fun rec z=>by cases z <;> kernel_rfl)
def Q20.via {R:Type} (n:Nat):List AV→(AV→Option R)→Option R:=viaK (Q20.FA n) Q20.o Q20.p
theorem Q20.tells1 {R:Type} (n:Nat) (xs:List AV):Tells1 (R:=R) Tryz.prog 240 xs (Q20.via n xs):=tells_via Q20.oi (fun a=>by kernel_rfl) (Q20.hands n) xs
end Go.Proofs.YtnoldakbllfmnaaGreatDoor.Ev
namespace Go.Proofs.YtnoldakbllfmnaaGreatDoor.Ev
open Go Go.Proofs Go.Proofs.Ev
set_option linter.unusedVariables false
set_option maxRecDepth 100000
abbrev Q1x.A:=ByteArray
abbrev Q1x.T:=Int × Int × Int
def Q1x.i:Q1x.A→List AV:=fun a0=>[vs a0]
def Q1x.o (xs:List AV):Option Q1x.A:=match xs with | [.v (.string a0)]=>some a0 | _=>none
theorem Q1x.oi:∀ xs a,Q1x.o xs=some a→xs=Q1x.i a:=by
 intro xs a h
 unfold Q1x.o at h
 split at h
 ·cases h; rfl
 ·cases h
def Q1x.p (p:Q1x.T):AV:=.tup [vi p.1,vi p.2.1,vi p.2.2]
def Q1x.q (x:AV):Option Q1x.T:=match x with | .tup [.v (.int .i64 p0),.v (.int .i64 p1),.v (.int .i64 p2)]=>some (p0,p1,p2) | _=>none
theorem Q1x.qi:∀ x p,Q1x.q x=some p→x=Q1x.p p:=by
 intro x p h
 unfold Q1x.q at h
 split at h
 ·cases h; rfl
 ·cases h
inductive Q1x.Z where
 | z8 (z1:ByteArray) (z2 z3:Int)
 | z15 (z1 z2 z3 z4:Int)
def Q1x.C {R:Type} (n:Nat) (f:FuncId) (xs:List AV):(AV→Option R)→Option R:=
 bif Nat.beq f 240 then Q20.via n xs else fun _=>none
theorem Q1x.tells {R:Type} (n:Nat):Tells (R:=R) Tryz.prog (Q1x.C n):=fun _ xs=>tells_at (Q20.tells1 n xs) (Tells1.none)
def Q1x.cut (r:Nat):Option Keep:=match r with | 8=>some ⟨[0,2,3],[]⟩ | 15=>some ⟨[2,3,4,5],[]⟩ | _=>none
def Q1x.t (z:Q1x.Z):List Item:=(todoOf (match z with | .z8 _ _ _=>8 | .z15 _ _ _ _=>15) 1000 [.code (Tryz.f216.body.getD .skip)]).getD []
def Q1x.s:Q1x.Z→St
 | .z8 z1 z2 z3=>⟨spr 63 0 [(0,vs z1),(2,vi z2),(3,vi z3)],Mem.ofList [],0⟩
 | .z15 z1 z2 z3 z4=>⟨spr 63 0 [(2,vi z1),(3,vi z2),(4,vi z3),(5,vi z4)],Mem.ofList [],0⟩
def Q1x.r8 (n:Nat) (c:Q1x.Z→Option (Int × Int × Int)) (z1:ByteArray) (z2 z3:Int):Option (Int × Int × Int):=
 let y10:Bool:=z3==((z1.size:Nat):Int)
 bif y10 then (some (z2,z3,0)) else (bif decide ((0:Int)≤z3)&&decide (z3 < ((z1.size:Nat):Int)) then (let y11:Int:=(((z1.data.getD ((z3).toNat) 0).toNat:Nat):Int)
 bif y11 != 46 then (some (0,z3,8)) else ((Q20.F n z1 (IntKind.i64.wrap (z3+1))).bind fun p12=>
 bif p12.2==0 then (let y13:Bool:=decide (p12.1 < ((z1.size:Nat):Int))
 bif y13 then (c (.z15 z2 z3 8 p12.1)) else (c (.z15 z2 z3 p12.2 p12.1))) else (c (.z15 z2 z3 p12.2 p12.1)))) else none)
def Q1x.r15 (n:Nat) (c:Q1x.Z→Option (Int × Int × Int)) (z1 z2 z3 z4:Int):Option (Int × Int × Int):=
 bif z3 != 0 then (some (0,z4,z3)) else (some (z1,z2,0))
def Q1x.r (n:Nat) (c:Q1x.Z→Option (Int × Int × Int)):Q1x.Z→Option (Int × Int × Int)
 | .z8 z1 z2 z3=>Q1x.r8 n c z1 z2 z3
 | .z15 z1 z2 z3 z4=>Q1x.r15 n c z1 z2 z3 z4
def Q1x.e (n:Nat) (c:Q1x.Z→Option (Int × Int × Int)) (a0:ByteArray):Option (Int × Int × Int):=
 bif decide ((0:Int) < (a0.size:Nat)) then (let y1:Int:=(((a0.data.getD 0 0).toNat:Nat):Int)
 bif y1==45 then ((Q20.F n a0 1).bind fun p2=>
 bif p2.2 != 0 then (some (0,p2.1,p2.2)) else (bif decide ((1:Int) < (a0.size:Nat)) then (let y3:Int:=(((a0.data.getD 1 0).toNat:Nat):Int)
 bif y3==48 then (let y4:Int:=IntKind.i64.wrap ((1:Int)+1)
 bif decide (p2.1 > y4) then (let y5:Int:=IntKind.i64.wrap ((1:Int)+1)
 some (0,y5,8)) else (c (.z8 a0 1 p2.1))) else (c (.z8 a0 1 p2.1))) else none)) else ((Q20.F n a0 0).bind fun p6=>
 bif p6.2 != 0 then (some (0,p6.1,p6.2)) else (bif decide ((0:Int) < (a0.size:Nat)) then (let y7:Int:=(((a0.data.getD 0 0).toNat:Nat):Int)
 bif y7==48 then (let y8:Int:=IntKind.i64.wrap ((0:Int)+1)
 bif decide (p6.1 > y8) then (let y9:Int:=IntKind.i64.wrap ((0:Int)+1)
 some (0,y9,8)) else (c (.z8 a0 0 p6.1))) else (c (.z8 a0 0 p6.1))) else none))) else none
def Q1x.E (n:Nat) (c:Q1x.Z→Option (Int × Int × Int)):Q1x.A→Option Q1x.T:=fun a0=>Q1x.e n c a0
def Q1x.l (n:Nat):Nat→Q1x.Z→Option (Int × Int × Int):=loopL (Q1x.r n)
def Q1x.F (n:Nat) (a0:ByteArray):Option (Int × Int × Int):=Q1x.e n (Q1x.l n n) a0
def Q1x.FA (n:Nat):Q1x.A→Option Q1x.T:=Q1x.E n (Q1x.l n n)
theorem Q1x.hands (n:Nat):∀ a p,Q1x.FA n a=some p→HandsIn Tryz.prog 216 (Q1x.i a) (Q1x.p p):=
 pf_hands (C:=Q1x.C n) (cut:=Q1x.cut) (t:=Q1x.t) (s:=Q1x.s) (e:=Q1x.E n) (r:=Q1x.r n) (n:=n) cfg mixed globs rfl Q1x.qi (Q1x.tells n) Tryz.func216 (by kernel_rfl) (by kernel_rfl) (fun rec a=>by kernel_rfl) (fun rec z=>by cases z <;> kernel_rfl)
def Q1x.via {R:Type} (n:Nat):List AV→(AV→Option R)→Option R:=viaK (Q1x.FA n) Q1x.o Q1x.p
theorem Q1x.tells1 {R:Type} (n:Nat) (xs:List AV):Tells1 (R:=R) Tryz.prog 216 xs (Q1x.via n xs):=tells_via Q1x.oi (fun a=>by kernel_rfl) (Q1x.hands n) xs
end Go.Proofs.YtnoldakbllfmnaaGreatDoor.Ev
namespace Go.Proofs.YtnoldakbllfmnaaGreatDoor.Ev
open Go Go.Proofs Go.Proofs.Ev
set_option linter.unusedVariables false
set_option maxRecDepth 100000
def Q3n.F (n:Nat) (s:ByteArray) (t:ByteArray):Option (ByteArray):=bif Nat.beq t.data.toList.length 1&&decide ((t.data.toList.headD 0).toNat < 128) then Option.some (⟨(Lib.trimLeftB s.data.toList (t.data.toList.headD 0)).toArray⟩) else none
theorem Q3n.hands (n:Nat) (s:ByteArray) (t:ByteArray) {p:ByteArray} (h:Q3n.F n s t=some p):HandsIn Tryz.prog 217 [.v (.string s),.v (.string t)] (.v (.string p)):=by
 unfold Q3n.F at h
 cases hc:(Nat.beq t.data.toList.length 1&&decide ((t.data.toList.headD 0).toNat < 128)) with
 | false=>rw [hc] at h; cases h
 | true=>
  rw [hc] at h
  cases h
  refine hands_calls (fn:=Tryz.f217) Tryz.func217 (by kernel_rfl) (by kernel_rfl) fun w F vals hQ hF hl hr=>?_
  obtain ⟨u0,u1,rfl,h0,h1⟩:=vals2 hl hr
  obtain rfl:=rel_v h0
  obtain rfl:=rel_v h1
  rw [Bool.and_eq_true] at hc
  have ht:=one_byte (Nat.eq_of_beq_eq_true hc.1)
  have:=Tryz.strings_TrimLeft_one s (t.data.toList.headD 0) (of_decide_eq_true hc.2) w
  rw [← ht] at this
  refine this.mono ?_
  rintro e w' ⟨rfl,rfl⟩
  exact ⟨F,fun _=>none,Came.same hF,.v _ rfl⟩
def Q3n.via {R:Type} (n:Nat) (ys:List AV):(AV→Option R)→Option R:=match ys with | [.v (.string s),.v (.string t)]=>fun K=>(Q3n.F n s t).bind fun p=>K (.v (.string p)) | _=>fun _=>none
theorem Q3n.tells1 {R:Type} (n:Nat) (ys:List AV):Tells1 (R:=R) Tryz.prog 217 ys (Q3n.via n ys):=by
 unfold Q3n.via
 split
 ·exact Tells1.of (fun p hp=>(Q3n.hands n _ _ hp).hands rfl)
 ·exact Tells1.none
end Go.Proofs.YtnoldakbllfmnaaGreatDoor.Ev
namespace Go.Proofs.YtnoldakbllfmnaaGreatDoor.Ev
open Go Go.Proofs Go.Proofs.Ev
set_option linter.unusedVariables false
set_option maxRecDepth 100000
abbrev Q1p.A:=ByteArray
abbrev Q1p.T:=Int × Int × Int × Int
def Q1p.i:Q1p.A→List AV:=fun a0=>[vs a0]
def Q1p.o (xs:List AV):Option Q1p.A:=match xs with | [.v (.string a0)]=>some a0 | _=>none
theorem Q1p.oi:∀ xs a,Q1p.o xs=some a→xs=Q1p.i a:=by
 intro xs a h
 unfold Q1p.o at h
 split at h
 ·cases h; rfl
 ·cases h
def Q1p.p (p:Q1p.T):AV:=.tup [AV.agg [vi p.1,vi p.2.1],vi p.2.2.1,vi p.2.2.2]
def Q1p.q (x:AV):Option Q1p.T:=match x with | .tup [.agg [.v (.int .i64 p0),.v (.int .i64 p1)],.v (.int .i64 p2),.v (.int .i64 p3)]=>some (p0,p1,p2,p3) | _=>none
theorem Q1p.qi:∀ x p,Q1p.q x=some p→x=Q1p.p p:=by
 intro x p h
 unfold Q1p.q at h
 split at h
 ·cases h; rfl
 ·cases h
inductive Q1p.Z where
 | z13 (z1:ByteArray) (z2:Int) (z3:ByteArray) (z4 z5 z6 z7 z8:Int) (z9:List AV)
def Q1p.C {R:Type} (n:Nat) (f:FuncId) (xs:List AV):(AV→Option R)→Option R:=
 bif Nat.beq f 60 then Q3e.via n xs else bif Nat.beq f 132 then Q1u.via n xs else bif Nat.beq f 133 then Q1r.via n xs else bif Nat.beq f 216 then Q1x.via n xs else bif Nat.beq f 217 then Q3n.via n xs else fun _=>none
theorem Q1p.tells {R:Type} (n:Nat):Tells (R:=R) Tryz.prog (Q1p.C n):=fun _ xs=>tells_at (Q3e.tells1 n xs) (tells_at (Q1u.tells1 n xs) (tells_at (Q1r.tells1 n xs) (tells_at (Q1x.tells1 n xs) (tells_at (Q3n.tells1 n xs) (Tells1.none)))))
def Q1p.cut (r:Nat):Option Keep:=match r with | 13=>some ⟨[0,2,6,10,13,57,58,59],[]⟩ | _=>none
def Q1p.t (z:Q1p.Z):List Item:=(todoOf (match z with | .z13 _ _ _ _ _ _ _ _ _=>13) 1000 [.code (Tryz.f185.body.getD .skip)]).getD []
def Q1p.s:Q1p.Z→St
 | .z13 z1 z2 z3 z4 z5 z6 z7 z8 z9=>⟨spr 80 0 [(0,vs z1),(2,.ptr 0 0),(6,vi z2),(10,vs z3),(13,vi z4),(57,.own 1 0 none),(58,vi z5),(59,vi z6)],Mem.ofList [.box 183 [vi z7,vi z8],.row ⟨true,5,false⟩ 1 z9],2⟩
def Q1p.r13 (n:Nat) (c:Q1p.Z→Option (Int × Int × Int × Int)) (z1:ByteArray) (z2:Int) (z3:ByteArray) (z4 z5 z6 z7 z8:Int) (z9:List AV):Option (Int × Int × Int × Int):=
 bif decide (z6 < z5) then (bif decide ((0:Int)≤z6)&&decide (z6 < ((z9.length:Nat):Int)) then (withCons ((z9.getD ((z6).toNat) .undef).cells) fun h12 r13=>
 withInt .u8 h12 fun x14=>
 let y15:Int:=IntKind.i64.wrap (IntKind.u8.wrap (x14 - 48))
 let y16:Int:=IntKind.i64.wrap ((IntKind.i64.wrap (z4*10))+y15)
 c (.z13 z1 z2 z3 y16 z5 (IntKind.i64.wrap (z6+1)) z7 z8 z9)) else none) else (bif z2==1 then (some (IntKind.i64.wrap (0 - z4),((z3.size:Nat):Int),((z1.size:Nat):Int),0)) else (some (z4,((z3.size:Nat):Int),((z1.size:Nat):Int),0)))
def Q1p.r (n:Nat) (c:Q1p.Z→Option (Int × Int × Int × Int)):Q1p.Z→Option (Int × Int × Int × Int)
 | .z13 z1 z2 z3 z4 z5 z6 z7 z8 z9=>Q1p.r13 n c z1 z2 z3 z4 z5 z6 z7 z8 z9
def Q1p.e (n:Nat) (c:Q1p.Z→Option (Int × Int × Int × Int)) (a0:ByteArray):Option (Int × Int × Int × Int):=
 let y1:Bool:=decide (((a0.size:Nat):Int) > 40)
 (Q1r.F n y1 2).bind fun p2=>
 let y3:Bool:=a0.toList==(⟨#[]⟩ : ByteArray).toList
 (Q1r.F n y3 1).bind fun p4=>
 (Q1u.F n [vi p2,vi p4]).bind fun p5=>
 bif p5 != 0 then (some (0,0,0,p5)) else ((Q1x.F n a0).bind fun p6=>
 bif p6.2.2 != 0 then (some (0,0,p6.2.1,p6.2.2)) else (bif decide ((0:Int)≤p6.1)&&decide ((p6.1:Int)≤((a0.size:Nat):Int)) then (let y7:ByteArray:=a0.extract (p6.1).toNat a0.size
 (Q3e.F n y7 (⟨#[46]⟩ : ByteArray)).bind fun p8=>
 (Q3n.F n p8.1 (⟨#[48]⟩ : ByteArray)).bind fun p9=>
 chk (decide (p9.size+p8.2.1.size≤9223372036854775807)) (let y10:Bool:=decide ((((p9++p8.2.1).size:Nat):Int) > 15)
 bif y10 then (some (0,0,0,19)) else (let y11:List AV:=(p9++p8.2.1).toList.map fun b=>vu b.toNat
 c (.z13 a0 p6.1 p8.2.1 0 ((y11.length:Nat):Int) 0 0 0 y11)))) else none))
def Q1p.E (n:Nat) (c:Q1p.Z→Option (Int × Int × Int × Int)):Q1p.A→Option Q1p.T:=fun a0=>Q1p.e n c a0
def Q1p.l (n:Nat):Nat→Q1p.Z→Option (Int × Int × Int × Int):=loopL (Q1p.r n)
def Q1p.F (n:Nat) (a0:ByteArray):Option (Int × Int × Int × Int):=Q1p.e n (Q1p.l n n) a0
def Q1p.FA (n:Nat):Q1p.A→Option Q1p.T:=Q1p.E n (Q1p.l n n)
theorem Q1p.hands (n:Nat):∀ a p,Q1p.FA n a=some p→HandsIn Tryz.prog 185 (Q1p.i a) (Q1p.p p):=
 pf_hands (C:=Q1p.C n) (cut:=Q1p.cut) (t:=Q1p.t) (s:=Q1p.s) (e:=Q1p.E n) (r:=Q1p.r n) (n:=n) cfg mixed globs rfl Q1p.qi (Q1p.tells n) Tryz.func185 (by kernel_rfl) (by kernel_rfl) (fun rec a=>by kernel_rfl) (fun rec z=>by cases z <;> kernel_rfl)
def Q1p.via {R:Type} (n:Nat):List AV→(AV→Option R)→Option R:=viaK (Q1p.FA n) Q1p.o Q1p.p
theorem Q1p.tells1 {R:Type} (n:Nat) (xs:List AV):Tells1 (R:=R) Tryz.prog 185 xs (Q1p.via n xs):=tells_via Q1p.oi (fun a=>by kernel_rfl) (Q1p.hands n) xs
end Go.Proofs.YtnoldakbllfmnaaGreatDoor.Ev
namespace Go.Proofs.YtnoldakbllfmnaaGreatDoor.Ev
open Go Go.Proofs Go.Proofs.Ev
set_option linter.unusedVariables false
set_option maxRecDepth 100000
abbrev Q3t.A:=ByteArray × ByteArray
abbrev Q3t.T:=ByteArray
def Q3t.i:Q3t.A→List AV:=fun (a0,a1)=>[vs a0,vs a1]
def Q3t.o (xs:List AV):Option Q3t.A:=match xs with | [.v (.string a0),.v (.string a1)]=>some (a0,a1) | _=>none
theorem Q3t.oi:∀ xs a,Q3t.o xs=some a→xs=Q3t.i a:=by
 intro xs a h
 unfold Q3t.o at h
 split at h
 ·cases h; rfl
 ·cases h
def Q3t.p (p:Q3t.T):AV:=vs p
def Q3t.q (x:AV):Option Q3t.T:=match x with | .v (.string p0)=>some p0 | _=>none
theorem Q3t.qi:∀ x p,Q3t.q x=some p→x=Q3t.p p:=by
 intro x p h
 unfold Q3t.q at h
 split at h
 ·cases h; rfl
 ·cases h
def Q3t.C {R:Type} (n:Nat) (f:FuncId) (xs:List AV):(AV→Option R)→Option R:=
 bif Nat.beq f 104 then Q3r.via n xs else fun _=>none
theorem Q3t.tells {R:Type} (n:Nat):Tells (R:=R) Tryz.prog (Q3t.C n):=fun _ xs=>tells_at (Q3r.tells1 n xs) (Tells1.none)
def Q3t.cut (r:Nat):Option Keep:=match r with  | _=>none
def Q3t.e (n:Nat) (a0 a1:ByteArray):Option ByteArray:=
 (Q3r.F n a0 a1).bind fun p1=>
 bif p1 then (bif decide ((0:Int)≤((a1.size:Nat):Int))&&decide ((((a1.size:Nat):Int):Int)≤((a0.size:Nat):Int)) then (let y2:ByteArray:=a0.extract (((a1.size:Nat):Int)).toNat a0.size
 some y2) else none) else (some a0)
def Q3t.E (n:Nat):Q3t.A→Option Q3t.T:=fun (a0,a1)=>Q3t.e n a0 a1
def Q3t.F (n:Nat) (a0 a1:ByteArray):Option ByteArray:=Q3t.e n a0 a1
def Q3t.FA (n:Nat):Q3t.A→Option Q3t.T:=Q3t.E n
theorem Q3t.hands (n:Nat):∀ a p,Q3t.FA n a=some p→HandsIn Tryz.prog 218 (Q3t.i a) (Q3t.p p):=
 pf_hands (C:=Q3t.C n) (cut:=Q3t.cut) (Z:=Empty) (t:=nofun) (s:=nofun) (e:=fun _=>Q3t.E n) (r:=fun _ z=>nomatch z) (n:=n) cfg mixed globs rfl Q3t.qi (Q3t.tells n) Tryz.func218 (by kernel_rfl) (by kernel_rfl) (fun rec a=>by kernel_rfl) (fun rec z=>nomatch z)
def Q3t.via {R:Type} (n:Nat):List AV→(AV→Option R)→Option R:=viaK (Q3t.FA n) Q3t.o Q3t.p
theorem Q3t.tells1 {R:Type} (n:Nat) (xs:List AV):Tells1 (R:=R) Tryz.prog 218 xs (Q3t.via n xs):=tells_via Q3t.oi (fun a=>by kernel_rfl) (Q3t.hands n) xs
end Go.Proofs.YtnoldakbllfmnaaGreatDoor.Ev
namespace Go.Proofs.YtnoldakbllfmnaaGreatDoor.Ev
open Go Go.Proofs Go.Proofs.Ev
set_option linter.unusedVariables false
set_option maxRecDepth 100000
abbrev Q3o.A:=ByteArray × ByteArray
abbrev Q3o.T:=ByteArray
def Q3o.i:Q3o.A→List AV:=fun (a0,a1)=>[vs a0,vs a1]
def Q3o.o (xs:List AV):Option Q3o.A:=match xs with | [.v (.string a0),.v (.string a1)]=>some (a0,a1) | _=>none
theorem Q3o.oi:∀ xs a,Q3o.o xs=some a→xs=Q3o.i a:=by
 intro xs a h
 unfold Q3o.o at h
 split at h
 ·cases h; rfl
 ·cases h
def Q3o.p (p:Q3o.T):AV:=vs p
def Q3o.q (x:AV):Option Q3o.T:=match x with | .v (.string p0)=>some p0 | _=>none
theorem Q3o.qi:∀ x p,Q3o.q x=some p→x=Q3o.p p:=by
 intro x p h
 unfold Q3o.q at h
 split at h
 ·cases h; rfl
 ·cases h
def Q3o.C {R:Type} (n:Nat) (f:FuncId) (xs:List AV):(AV→Option R)→Option R:=
 bif Nat.beq f 218 then Q3t.via n xs else fun _=>none
theorem Q3o.tells {R:Type} (n:Nat):Tells (R:=R) Tryz.prog (Q3o.C n):=fun _ xs=>tells_at (Q3t.tells1 n xs) (Tells1.none)
def Q3o.cut (r:Nat):Option Keep:=match r with  | _=>none
def Q3o.e (n:Nat) (a0 a1:ByteArray):Option ByteArray:=
 (Q3t.F n a0 a1).bind fun p1=>
 some p1
def Q3o.E (n:Nat):Q3o.A→Option Q3o.T:=fun (a0,a1)=>Q3o.e n a0 a1
def Q3o.F (n:Nat) (a0 a1:ByteArray):Option ByteArray:=Q3o.e n a0 a1
def Q3o.FA (n:Nat):Q3o.A→Option Q3o.T:=Q3o.E n
theorem Q3o.hands (n:Nat):∀ a p,Q3o.FA n a=some p→HandsIn Tryz.prog 186 (Q3o.i a) (Q3o.p p):=
 pf_hands (C:=Q3o.C n) (cut:=Q3o.cut) (Z:=Empty) (t:=nofun) (s:=nofun) (e:=fun _=>Q3o.E n) (r:=fun _ z=>nomatch z) (n:=n) cfg mixed globs rfl Q3o.qi (Q3o.tells n) Tryz.func186 (by kernel_rfl) (by kernel_rfl) (fun rec a=>by kernel_rfl) (fun rec z=>nomatch z)
def Q3o.via {R:Type} (n:Nat):List AV→(AV→Option R)→Option R:=viaK (Q3o.FA n) Q3o.o Q3o.p
theorem Q3o.tells1 {R:Type} (n:Nat) (xs:List AV):Tells1 (R:=R) Tryz.prog 186 xs (Q3o.via n xs):=tells_via Q3o.oi (fun a=>by kernel_rfl) (Q3o.hands n) xs
end Go.Proofs.YtnoldakbllfmnaaGreatDoor.Ev
namespace Go.Proofs.YtnoldakbllfmnaaGreatDoor.Ev
open Go Go.Proofs Go.Proofs.Ev
set_option linter.unusedVariables false
set_option maxRecDepth 100000
def Q3i.F (n:Nat) (s:ByteArray) (c:Int):Option (Int):=bif true then Option.some (Lib.indexByte s.data.toList c.toNat.toUInt8) else none
theorem Q3i.hands (n:Nat) (s:ByteArray) (c:Int) {p:Int} (h:Q3i.F n s c=some p):HandsIn Tryz.prog 219 [.v (.string s),.v (.int .u8 c)] (.v (.int .i64 p)):=by
 unfold Q3i.F at h
 cases hc:(true) with
 | false=>rw [hc] at h; cases h
 | true=>
  rw [hc] at h
  cases h
  refine hands_calls (fn:=Tryz.f219) Tryz.func219 (by kernel_rfl) (by kernel_rfl) fun w F vals hQ hF hl hr=>?_
  obtain ⟨u0,u1,rfl,h0,h1⟩:=vals2 hl hr
  obtain rfl:=rel_v h0
  obtain rfl:=rel_v h1
  refine (Tryz.strings_IndexByte s c w).mono ?_
  rintro e w' ⟨rfl,rfl⟩
  exact ⟨F,fun _=>none,Came.same hF,.v _ rfl⟩
def Q3i.via {R:Type} (n:Nat) (ys:List AV):(AV→Option R)→Option R:=match ys with | [.v (.string s),.v (.int .u8 c)]=>fun K=>(Q3i.F n s c).bind fun p=>K (.v (.int .i64 p)) | _=>fun _=>none
theorem Q3i.tells1 {R:Type} (n:Nat) (ys:List AV):Tells1 (R:=R) Tryz.prog 219 ys (Q3i.via n ys):=by
 unfold Q3i.via
 split
 ·exact Tells1.of (fun p hp=>(Q3i.hands n _ _ hp).hands rfl)
 ·exact Tells1.none
end Go.Proofs.YtnoldakbllfmnaaGreatDoor.Ev
namespace Go.Proofs.YtnoldakbllfmnaaGreatDoor.Ev
open Go Go.Proofs Go.Proofs.Ev
set_option linter.unusedVariables false
set_option maxRecDepth 100000
abbrev Q29.A:=ByteArray
abbrev Q29.T:=ByteArray × Bool
def Q29.i:Q29.A→List AV:=fun a0=>[vs a0]
def Q29.o (xs:List AV):Option Q29.A:=match xs with | [.v (.string a0)]=>some a0 | _=>none
theorem Q29.oi:∀ xs a,Q29.o xs=some a→xs=Q29.i a:=by
 intro xs a h
 unfold Q29.o at h
 split at h
 ·cases h; rfl
 ·cases h
def Q29.p (p:Q29.T):AV:=.tup [vs p.1,vb p.2]
def Q29.q (x:AV):Option Q29.T:=match x with | .tup [.v (.string p0),.v (.bool p1)]=>some (p0,p1) | _=>none
theorem Q29.qi:∀ x p,Q29.q x=some p→x=Q29.p p:=by
 intro x p h
 unfold Q29.q at h
 split at h
 ·cases h; rfl
 ·cases h
inductive Q29.Z where
 | z2 (z1:ByteArray) (z2:List AV)
def Q29.C {R:Type} (n:Nat) (f:FuncId) (xs:List AV):(AV→Option R)→Option R:=
 bif Nat.beq f 219 then Q3i.via n xs else fun _=>none
theorem Q29.tells {R:Type} (n:Nat):Tells (R:=R) Tryz.prog (Q29.C n):=fun _ xs=>tells_at (Q3i.tells1 n xs) (Tells1.none)
def Q29.cut (r:Nat):Option Keep:=match r with | 2=>some ⟨[0,4],[(4,none,⟨true,5,false⟩,1)]⟩ | _=>none
def Q29.t (z:Q29.Z):List Item:=(todoOf (match z with | .z2 _ _=>2) 1000 [.code (Tryz.f187.body.getD .skip)]).getD []
def Q29.s:Q29.Z→St
 | .z2 z1 z2=>⟨spr 36 0 [(0,vs z1),(4,.own 0 0 none)],Mem.ofList [.row ⟨true,5,false⟩ 1 z2],1⟩
def Q29.r2 (n:Nat) (c:Q29.Z→Option (ByteArray × Bool)) (z1:ByteArray) (z2:List AV):Option (ByteArray × Bool):=
 let y1:Bool:=decide (((z1.size:Nat):Int)≥2)
 bif y1 then (bif decide ((0:Int) < (z1.size:Nat)) then (let y2:Int:=(((z1.data.getD 0 0).toNat:Nat):Int)
 (Q3i.F n (⟨#[48,49,50,51,52,53,54,55,56,57,65,66,67,68,69,70]⟩ : ByteArray) y2).bind fun p3=>
 bif decide ((1:Int) < (z1.size:Nat)) then (let y4:Int:=(((z1.data.getD 1 0).toNat:Nat):Int)
 (Q3i.F n (⟨#[48,49,50,51,52,53,54,55,56,57,65,66,67,68,69,70]⟩ : ByteArray) y4).bind fun p5=>
 bif decide (p3 < 0) then (some ((⟨#[]⟩ : ByteArray),false)) else (bif decide (p5 < 0) then (some ((⟨#[]⟩ : ByteArray),false)) else (let y6:Int:=IntKind.i64.wrap (p3*2 ^ min (4:Int).toNat 64)
 let y7:Int:=IntKind.i64.wrap (BitVec.ofInt 64 y6 ||| BitVec.ofInt 64 p5).toNat
 bif decide (z2.length+[vu (IntKind.u8.wrap y7)].length≤most) then (let y8:List AV:=z2++[vu (IntKind.u8.wrap y7)]
 bif decide ((0:Int)≤2)&&decide ((2:Int)≤((z1.size:Nat):Int)) then (c (.z2 (z1.extract 2 z1.size) y8)) else none) else none))) else none) else none) else (withSome (strOf z2) fun bs9=>
 let y10:Bool:=z1.toList==(⟨#[]⟩ : ByteArray).toList
 some ((⟨bs9.toArray⟩ : ByteArray),y10))
def Q29.r (n:Nat) (c:Q29.Z→Option (ByteArray × Bool)):Q29.Z→Option (ByteArray × Bool)
 | .z2 z1 z2=>Q29.r2 n c z1 z2
def Q29.e (n:Nat) (c:Q29.Z→Option (ByteArray × Bool)) (a0:ByteArray):Option (ByteArray × Bool):=
 c (.z2 a0 [])
def Q29.E (n:Nat) (c:Q29.Z→Option (ByteArray × Bool)):Q29.A→Option Q29.T:=fun a0=>Q29.e n c a0
def Q29.l (n:Nat):Nat→Q29.Z→Option (ByteArray × Bool):=loopL (Q29.r n)
def Q29.F (n:Nat) (a0:ByteArray):Option (ByteArray × Bool):=Q29.e n (Q29.l n n) a0
def Q29.FA (n:Nat):Q29.A→Option Q29.T:=Q29.E n (Q29.l n n)
theorem Q29.hands (n:Nat):∀ a p,Q29.FA n a=some p→HandsIn Tryz.prog 187 (Q29.i a) (Q29.p p):=
 pf_hands (C:=Q29.C n) (cut:=Q29.cut) (t:=Q29.t) (s:=Q29.s) (e:=Q29.E n) (r:=Q29.r n) (n:=n) cfg mixed globs rfl Q29.qi (Q29.tells n) Tryz.func187 (by kernel_rfl) (by kernel_rfl) (fun rec a=>by kernel_rfl) (fun rec z=>by cases z <;> kernel_rfl)
def Q29.via {R:Type} (n:Nat):List AV→(AV→Option R)→Option R:=viaK (Q29.FA n) Q29.o Q29.p
theorem Q29.tells1 {R:Type} (n:Nat) (xs:List AV):Tells1 (R:=R) Tryz.prog 187 xs (Q29.via n xs):=tells_via Q29.oi (fun a=>by kernel_rfl) (Q29.hands n) xs
end Go.Proofs.YtnoldakbllfmnaaGreatDoor.Ev
namespace Go.Proofs.YtnoldakbllfmnaaGreatDoor.Ev
open Go Go.Proofs Go.Proofs.Ev
set_option linter.unusedVariables false
set_option maxRecDepth 100000
abbrev Q31.A:=Int × Int × Int × ByteArray
abbrev Q31.T:=Int × ByteArray × Bool
def Q31.i:Q31.A→List AV:=fun (a0,a1,a2,a3)=>[AV.agg [vi a0,vi a1,vi a2],vs a3]
def Q31.o (xs:List AV):Option Q31.A:=match xs with | [.agg [.v (.int .i64 a0),.v (.int .i64 a1),.v (.int .i64 a2)],.v (.string a3)]=>some (a0,a1,a2,a3) | _=>none
theorem Q31.oi:∀ xs a,Q31.o xs=some a→xs=Q31.i a:=by
 intro xs a h
 unfold Q31.o at h
 split at h
 ·cases h; rfl
 ·cases h
def Q31.p (p:Q31.T):AV:=.tup [AV.agg [vi p.1,vs p.2.1],vb p.2.2]
def Q31.q (x:AV):Option Q31.T:=match x with | .tup [.agg [.v (.int .i64 p0),.v (.string p1)],.v (.bool p2)]=>some (p0,p1,p2) | _=>none
theorem Q31.qi:∀ x p,Q31.q x=some p→x=Q31.p p:=by
 intro x p h
 unfold Q31.q at h
 split at h
 ·cases h; rfl
 ·cases h
inductive Q31.Z where
 | z7 (z1:Int) (z2:ByteArray)
def Q31.C {R:Type} (n:Nat) (f:FuncId) (xs:List AV):(AV→Option R)→Option R:=
 bif Nat.beq f 61 then Q3h.via n xs else bif Nat.beq f 144 then Q3l.via n xs else bif Nat.beq f 185 then Q1p.via n xs else bif Nat.beq f 186 then Q3o.via n xs else bif Nat.beq f 187 then Q29.via n xs else fun _=>none
theorem Q31.tells {R:Type} (n:Nat):Tells (R:=R) Tryz.prog (Q31.C n):=fun _ xs=>tells_at (Q3h.tells1 n xs) (tells_at (Q3l.tells1 n xs) (tells_at (Q1p.tells1 n xs) (tells_at (Q3o.tells1 n xs) (tells_at (Q29.tells1 n xs) (Tells1.none)))))
def Q31.cut (r:Nat):Option Keep:=match r with | 7=>some ⟨[4],[]⟩ | _=>none
def Q31.t (z:Q31.Z):List Item:=(todoOf (match z with | .z7 _ _=>7) 1000 [.code (Tryz.f155.body.getD .skip)]).getD []
def Q31.s:Q31.Z→St
 | .z7 z1 z2=>⟨spr 71 0 [(4,.ptr 0 0)],Mem.ofList [.box 72 [vi z1,vs z2]],1⟩
def Q31.r7 (n:Nat) (c:Q31.Z→Option (Int × ByteArray × Bool)) (z1:Int) (z2:ByteArray):Option (Int × ByteArray × Bool):=
 some (0,(⟨#[]⟩ : ByteArray),false)
def Q31.r (n:Nat) (c:Q31.Z→Option (Int × ByteArray × Bool)):Q31.Z→Option (Int × ByteArray × Bool)
 | .z7 z1 z2=>Q31.r7 n c z1 z2
def Q31.e (n:Nat) (c:Q31.Z→Option (Int × ByteArray × Bool)) (a0 a1 a2:Int) (a3:ByteArray):Option (Int × ByteArray × Bool):=
 bif a0 != 0 then ((Q1p.F n a3).bind fun p1=>
 bif p1.2.2.2==0 then (some (p1.1,(⟨#[]⟩ : ByteArray),p1.2.1==a2)) else (some (p1.1,(⟨#[]⟩ : ByteArray),false))) else ((Q3h.F n a3 (⟨#[88]⟩ : ByteArray)).bind fun p2=>
 (Q3o.F n a3 (⟨#[88]⟩ : ByteArray)).bind fun p3=>
 let y4:Bool:=decide (((p3.size:Nat):Int) < 2)
 bif y4 then (c (.z7 0 (⟨#[]⟩ : ByteArray))) else (bif decide ((0:Int) < (p3.size:Nat)) then (let y5:Int:=(((p3.data.getD 0 0).toNat:Nat):Int)
 bif y5 != 39 then (c (.z7 0 (⟨#[]⟩ : ByteArray))) else (let y6:Int:=IntKind.i64.wrap (((p3.size:Nat):Int) - 1)
 bif decide ((0:Int)≤y6)&&decide (y6 < ((p3.size:Nat):Int)) then (let y7:Int:=(((p3.data.getD ((y6).toNat) 0).toNat:Nat):Int)
 bif y7 != 39 then (c (.z7 0 (⟨#[]⟩ : ByteArray))) else (let y8:Int:=IntKind.i64.wrap (((p3.size:Nat):Int) - 1)
 bif decide ((0:Int)≤y8)&&decide ((y8:Int)≤((p3.size:Nat):Int)) then (bif decide ((0:Int)≤1)&&decide ((1:Int)≤y8) then (bif p2 then ((Q29.F n (p3.extract 1 (y8).toNat)).bind fun p9=>
 some (0,p9.1,p9.2)) else ((Q3l.F n (p3.extract 1 (y8).toNat) (⟨#[39,39]⟩ : ByteArray) (⟨#[39]⟩ : ByteArray)).bind fun p10=>
 some (0,p10,true))) else none) else none)) else none)) else none))
def Q31.E (n:Nat) (c:Q31.Z→Option (Int × ByteArray × Bool)):Q31.A→Option Q31.T:=fun (a0,a1,a2,a3)=>Q31.e n c a0 a1 a2 a3
def Q31.l (n:Nat):Nat→Q31.Z→Option (Int × ByteArray × Bool):=loopL (Q31.r n)
def Q31.F (n:Nat) (a0 a1 a2:Int) (a3:ByteArray):Option (Int × ByteArray × Bool):=Q31.e n (Q31.l n n) a0 a1 a2 a3
def Q31.FA (n:Nat):Q31.A→Option Q31.T:=Q31.E n (Q31.l n n)
theorem Q31.hands (n:Nat):∀ a p,Q31.FA n a=some p→HandsIn Tryz.prog 155 (Q31.i a) (Q31.p p):=
 pf_hands (C:=Q31.C n) (cut:=Q31.cut) (t:=Q31.t) (s:=Q31.s) (e:=Q31.E n) (r:=Q31.r n) (n:=n) cfg mixed globs rfl Q31.qi (Q31.tells n) Tryz.func155 (by kernel_rfl) (by kernel_rfl) (fun rec a=>by kernel_rfl) (fun rec z=>by cases z <;> kernel_rfl)
def Q31.via {R:Type} (n:Nat):List AV→(AV→Option R)→Option R:=viaK (Q31.FA n) Q31.o Q31.p
theorem Q31.tells1 {R:Type} (n:Nat) (xs:List AV):Tells1 (R:=R) Tryz.prog 155 xs (Q31.via n xs):=tells_via Q31.oi (fun a=>by kernel_rfl) (Q31.hands n) xs
end Go.Proofs.YtnoldakbllfmnaaGreatDoor.Ev
namespace Go.Proofs.YtnoldakbllfmnaaGreatDoor.Ev
open Go Go.Proofs Go.Proofs.Ev
set_option linter.unusedVariables false
set_option maxRecDepth 100000
abbrev Q2b.A:=ByteArray
abbrev Q2b.T:=ByteArray × Int × Int × Int × Int × Int × ByteArray × ByteArray × Int × Int × Bool
def Q2b.i:Q2b.A→List AV:=fun a0=>[vs a0]
def Q2b.o (xs:List AV):Option Q2b.A:=match xs with | [.v (.string a0)]=>some a0 | _=>none
theorem Q2b.oi:∀ xs a,Q2b.o xs=some a→xs=Q2b.i a:=by
 intro xs a h
 unfold Q2b.o at h
 split at h
 ·cases h; rfl
 ·cases h
def Q2b.p (p:Q2b.T):AV:=.tup [AV.agg [vs p.1,vi p.2.1,vi p.2.2.1,vi p.2.2.2.1,vi p.2.2.2.2.1,vi p.2.2.2.2.2.1,vs p.2.2.2.2.2.2.1,vs p.2.2.2.2.2.2.2.1,vi p.2.2.2.2.2.2.2.2.1,vi p.2.2.2.2.2.2.2.2.2.1],vb p.2.2.2.2.2.2.2.2.2.2]
def Q2b.q (x:AV):Option Q2b.T:=match x with | .tup [.agg [.v (.string p0),.v (.int .i64 p1),.v (.int .i64 p2),.v (.int .i64 p3),.v (.int .i64 p4),.v (.int .i64 p5),.v (.string p6),.v (.string p7),.v (.int .i64 p8),.v (.int .i64 p9)],.v (.bool p10)]=>some (p0,p1,p2,p3,p4,p5,p6,p7,p8,p9,p10) | _=>none
theorem Q2b.qi:∀ x p,Q2b.q x=some p→x=Q2b.p p:=by
 intro x p h
 unfold Q2b.q at h
 split at h
 ·cases h; rfl
 ·cases h
inductive Q2b.Z where
 | z22 (z1:ByteArray) (z2 z3 z4 z5 z6:Int) (z7 z8:ByteArray) (z9 z10:Int) (z11:ByteArray) (z12 z13 z14 z15 z16:Int) (z17 z18:ByteArray) (z19 z20:Int)
 | z26 (z1 z2:ByteArray) (z3 z4 z5 z6 z7:Int) (z8 z9:ByteArray) (z10 z11:Int) (z12:ByteArray) (z13 z14 z15 z16 z17:Int) (z18 z19:ByteArray) (z20 z21 z22 z23 z24:Int)
 | z36 (z1:ByteArray) (z2:Bool) (z3 z4:ByteArray) (z5 z6 z7 z8 z9:Int) (z10 z11:ByteArray) (z12 z13:Int) (z14:ByteArray) (z15 z16 z17 z18 z19:Int) (z20 z21:ByteArray) (z22 z23:Int)
def Q2b.C {R:Type} (n:Nat) (f:FuncId) (xs:List AV):(AV→Option R)→Option R:=
 bif Nat.beq f 60 then Q3e.via n xs else bif Nat.beq f 78 then Q2i.via n xs else bif Nat.beq f 108 then Q2s.via n xs else bif Nat.beq f 153 then Q2z.via n xs else bif Nat.beq f 154 then Q3g.via n xs else bif Nat.beq f 155 then Q31.via n xs else fun _=>none
theorem Q2b.tells {R:Type} (n:Nat):Tells (R:=R) Tryz.prog (Q2b.C n):=fun _ xs=>tells_at (Q3e.tells1 n xs) (tells_at (Q2i.tells1 n xs) (tells_at (Q2s.tells1 n xs) (tells_at (Q2z.tells1 n xs) (tells_at (Q3g.tells1 n xs) (tells_at (Q31.tells1 n xs) (Tells1.none))))))
def Q2b.cut (r:Nat):Option Keep:=match r with | 22=>some ⟨[2,9],[]⟩ | 26=>some ⟨[2,9,13,16],[]⟩ | 36=>some ⟨[2,4,9,14,19],[]⟩ | _=>none
def Q2b.t (z:Q2b.Z):List Item:=(todoOf (match z with | .z22 _ _ _ _ _ _ _ _ _ _ _ _ _ _ _ _ _ _ _ _=>22 | .z26 _ _ _ _ _ _ _ _ _ _ _ _ _ _ _ _ _ _ _ _ _ _ _ _=>26 | .z36 _ _ _ _ _ _ _ _ _ _ _ _ _ _ _ _ _ _ _ _ _ _ _=>36) 1000 [.code (Tryz.f106.body.getD .skip)]).getD []
def Q2b.s:Q2b.Z→St
 | .z22 z1 z2 z3 z4 z5 z6 z7 z8 z9 z10 z11 z12 z13 z14 z15 z16 z17 z18 z19 z20=>⟨spr 139 0 [(2,.ptr 0 0),(9,.ptr 1 0)],Mem.ofList [.box 74 [vs z1,vi z2,vi z3,vi z4,vi z5,vi z6,vs z7,vs z8,vi z9,vi z10],.box 74 [vs z11,vi z12,vi z13,vi z14,vi z15,vi z16,vs z17,vs z18,vi z19,vi z20]],2⟩
 | .z26 z1 z2 z3 z4 z5 z6 z7 z8 z9 z10 z11 z12 z13 z14 z15 z16 z17 z18 z19 z20 z21 z22 z23 z24=>⟨spr 139 0 [(2,.ptr 0 0),(9,.ptr 1 0),(13,.ptr 2 0),(16,vs z1)],Mem.ofList [.box 74 [vs z2,vi z3,vi z4,vi z5,vi z6,vi z7,vs z8,vs z9,vi z10,vi z11],.box 74 [vs z12,vi z13,vi z14,vi z15,vi z16,vi z17,vs z18,vs z19,vi z20,vi z21],.box 70 [vi z22,vi z23,vi z24]],3⟩
 | .z36 z1 z2 z3 z4 z5 z6 z7 z8 z9 z10 z11 z12 z13 z14 z15 z16 z17 z18 z19 z20 z21 z22 z23=>⟨spr 139 0 [(2,.ptr 0 0),(4,vs z1),(9,.ptr 1 0),(14,vb z2),(19,vs z3)],Mem.ofList [.box 74 [vs z4,vi z5,vi z6,vi z7,vi z8,vi z9,vs z10,vs z11,vi z12,vi z13],.box 74 [vs z14,vi z15,vi z16,vi z17,vi z18,vi z19,vs z20,vs z21,vi z22,vi z23]],2⟩
def Q2b.r22 (n:Nat) (c:Q2b.Z→Option Q2b.T) (z1:ByteArray) (z2 z3 z4 z5 z6:Int) (z7 z8:ByteArray) (z9 z10:Int) (z11:ByteArray) (z12 z13 z14 z15 z16:Int) (z17 z18:ByteArray) (z19 z20:Int):Option Q2b.T:=
 some (z11,z12,z13,z14,z15,z16,z17,z18,z19,z20,false)
def Q2b.r26 (n:Nat) (c:Q2b.Z→Option Q2b.T) (z1 z2:ByteArray) (z3 z4 z5 z6 z7:Int) (z8 z9:ByteArray) (z10 z11:Int) (z12:ByteArray) (z13 z14 z15 z16 z17:Int) (z18 z19:ByteArray) (z20 z21 z22 z23 z24:Int):Option Q2b.T:=
 (Q31.F n z22 z23 z24 z1).bind fun p28=>
 some (z12,z13,z14,z15,z16,p28.1,p28.2.1,z19,z20,z21,p28.2.2)
def Q2b.r36 (n:Nat) (c:Q2b.Z→Option Q2b.T) (z1:ByteArray) (z2:Bool) (z3 z4:ByteArray) (z5 z6 z7 z8 z9:Int) (z10 z11:ByteArray) (z12 z13:Int) (z14:ByteArray) (z15 z16 z17 z18 z19:Int) (z20 z21:ByteArray) (z22 z23:Int):Option Q2b.T:=
 bif z2 then (let y29:Bool:=z1.toList==(⟨#[68,68]⟩ : ByteArray).toList
 bif y29 then (bif z15 != 0 then ((Q2i.F n z3).bind fun p30=>
 some (z14,z15,z16,z17,z18,z19,z20,z21,z22,z23,p30)) else (some (z14,z15,z16,z17,z18,z19,z20,z21,z22,z23,false))) else (some (z14,z15,z16,z17,z18,z19,z20,z21,z22,z23,false))) else (some (z14,z15,z16,z17,z18,z19,z20,z21,z22,z23,false))
def Q2b.r (n:Nat) (c:Q2b.Z→Option Q2b.T):Q2b.Z→Option Q2b.T
 | .z22 z1 z2 z3 z4 z5 z6 z7 z8 z9 z10 z11 z12 z13 z14 z15 z16 z17 z18 z19 z20=>Q2b.r22 n c z1 z2 z3 z4 z5 z6 z7 z8 z9 z10 z11 z12 z13 z14 z15 z16 z17 z18 z19 z20
 | .z26 z1 z2 z3 z4 z5 z6 z7 z8 z9 z10 z11 z12 z13 z14 z15 z16 z17 z18 z19 z20 z21 z22 z23 z24=>Q2b.r26 n c z1 z2 z3 z4 z5 z6 z7 z8 z9 z10 z11 z12 z13 z14 z15 z16 z17 z18 z19 z20 z21 z22 z23 z24
 | .z36 z1 z2 z3 z4 z5 z6 z7 z8 z9 z10 z11 z12 z13 z14 z15 z16 z17 z18 z19 z20 z21 z22 z23=>Q2b.r36 n c z1 z2 z3 z4 z5 z6 z7 z8 z9 z10 z11 z12 z13 z14 z15 z16 z17 z18 z19 z20 z21 z22 z23
def Q2b.e (n:Nat) (c:Q2b.Z→Option Q2b.T) (a0:ByteArray):Option Q2b.T:=
 (Q3e.F n a0 (⟨#[32]⟩ : ByteArray)).bind fun p1=>
 (Q3e.F n p1.2.1 (⟨#[32]⟩ : ByteArray)).bind fun p2=>
 let y3:Bool:=p1.1.toList==(⟨#[80,84,82]⟩ : ByteArray).toList
 bif y3 then (some (p2.1,3,0,0,0,0,(⟨#[]⟩ : ByteArray),(⟨#[]⟩ : ByteArray),0,0,!p2.2.2)) else (let y4:Bool:=p1.1.toList==(⟨#[76,65,66,69,76]⟩ : ByteArray).toList
 bif y4 then ((Q2s.F n p2.2.1).bind fun p5=>
 some (p2.1,5,0,0,0,0,(⟨#[]⟩ : ByteArray),(⟨#[]⟩ : ByteArray),0,p5.1,p5.2)) else (let y6:Bool:=p1.1.toList==(⟨#[68,68]⟩ : ByteArray).toList
 bif y6 then ((Q3e.F n p2.2.1 (⟨#[32]⟩ : ByteArray)).bind fun p7=>
 (Q2z.F n p7.1).bind fun p8=>
 (Q3e.F n p7.2.1 (⟨#[40]⟩ : ByteArray)).bind fun p9=>
 (Q3g.F n p9.2.1 (⟨#[41]⟩ : ByteArray)).bind fun p10=>
 bif !p8.2.2.2 then (c (.z22 (⟨#[]⟩ : ByteArray) 0 0 0 0 0 (⟨#[]⟩ : ByteArray) (⟨#[]⟩ : ByteArray) 0 0 p2.1 0 p8.1 p8.2.1 p8.2.2.1 0 (⟨#[]⟩ : ByteArray) (⟨#[]⟩ : ByteArray) 0 0)) else (bif !p10.2 then (c (.z22 (⟨#[]⟩ : ByteArray) 0 0 0 0 0 (⟨#[]⟩ : ByteArray) (⟨#[]⟩ : ByteArray) 0 0 p2.1 0 p8.1 p8.2.1 p8.2.2.1 0 (⟨#[]⟩ : ByteArray) (⟨#[]⟩ : ByteArray) 0 0)) else (let y11:Bool:=p9.1.toList==(⟨#[73,78,73,84]⟩ : ByteArray).toList
 bif y11 then (let y12:Bool:=p1.1.toList==(⟨#[67,79,78]⟩ : ByteArray).toList
 bif y12 then (c (.z26 p10.1 (⟨#[]⟩ : ByteArray) 0 0 0 0 0 (⟨#[]⟩ : ByteArray) (⟨#[]⟩ : ByteArray) 0 0 p2.1 4 p8.1 p8.2.1 p8.2.2.1 0 (⟨#[]⟩ : ByteArray) (⟨#[]⟩ : ByteArray) 0 0 p8.1 p8.2.1 p8.2.2.1)) else (c (.z26 p10.1 (⟨#[]⟩ : ByteArray) 0 0 0 0 0 (⟨#[]⟩ : ByteArray) (⟨#[]⟩ : ByteArray) 0 0 p2.1 0 p8.1 p8.2.1 p8.2.2.1 0 (⟨#[]⟩ : ByteArray) (⟨#[]⟩ : ByteArray) 0 0 p8.1 p8.2.1 p8.2.2.1))) else ((Q3e.F n p10.1 (⟨#[44]⟩ : ByteArray)).bind fun p13=>
 (Q2s.F n p13.2.1).bind fun p14=>
 let y15:Bool:=p9.1.toList==(⟨#[68,69,70]⟩ : ByteArray).toList
 bif y15 then (c (.z36 p1.1 p14.2 p13.1 (⟨#[]⟩ : ByteArray) 0 0 0 0 0 (⟨#[]⟩ : ByteArray) (⟨#[]⟩ : ByteArray) 0 0 p2.1 1 p8.1 p8.2.1 p8.2.2.1 0 (⟨#[]⟩ : ByteArray) p13.1 p14.1 0)) else (let y16:Bool:=p9.1.toList==(⟨#[66,65,83]⟩ : ByteArray).toList
 bif y16 then (c (.z36 p1.1 p14.2 p13.1 (⟨#[]⟩ : ByteArray) 0 0 0 0 0 (⟨#[]⟩ : ByteArray) (⟨#[]⟩ : ByteArray) 0 0 p2.1 2 p8.1 p8.2.1 p8.2.2.1 0 (⟨#[]⟩ : ByteArray) p13.1 p14.1 0)) else (c (.z36 p1.1 p14.2 p13.1 (⟨#[]⟩ : ByteArray) 0 0 0 0 0 (⟨#[]⟩ : ByteArray) (⟨#[]⟩ : ByteArray) 0 0 p2.1 0 p8.1 p8.2.1 p8.2.2.1 0 (⟨#[]⟩ : ByteArray) p13.1 p14.1 0))))))) else (let y17:Bool:=p1.1.toList==(⟨#[67,79,78]⟩ : ByteArray).toList
 bif y17 then ((Q3e.F n p2.2.1 (⟨#[32]⟩ : ByteArray)).bind fun p18=>
 (Q2z.F n p18.1).bind fun p19=>
 (Q3e.F n p18.2.1 (⟨#[40]⟩ : ByteArray)).bind fun p20=>
 (Q3g.F n p20.2.1 (⟨#[41]⟩ : ByteArray)).bind fun p21=>
 bif !p19.2.2.2 then (c (.z22 (⟨#[]⟩ : ByteArray) 0 0 0 0 0 (⟨#[]⟩ : ByteArray) (⟨#[]⟩ : ByteArray) 0 0 p2.1 0 p19.1 p19.2.1 p19.2.2.1 0 (⟨#[]⟩ : ByteArray) (⟨#[]⟩ : ByteArray) 0 0)) else (bif !p21.2 then (c (.z22 (⟨#[]⟩ : ByteArray) 0 0 0 0 0 (⟨#[]⟩ : ByteArray) (⟨#[]⟩ : ByteArray) 0 0 p2.1 0 p19.1 p19.2.1 p19.2.2.1 0 (⟨#[]⟩ : ByteArray) (⟨#[]⟩ : ByteArray) 0 0)) else (let y22:Bool:=p20.1.toList==(⟨#[73,78,73,84]⟩ : ByteArray).toList
 bif y22 then (let y23:Bool:=p1.1.toList==(⟨#[67,79,78]⟩ : ByteArray).toList
 bif y23 then (c (.z26 p21.1 (⟨#[]⟩ : ByteArray) 0 0 0 0 0 (⟨#[]⟩ : ByteArray) (⟨#[]⟩ : ByteArray) 0 0 p2.1 4 p19.1 p19.2.1 p19.2.2.1 0 (⟨#[]⟩ : ByteArray) (⟨#[]⟩ : ByteArray) 0 0 p19.1 p19.2.1 p19.2.2.1)) else (c (.z26 p21.1 (⟨#[]⟩ : ByteArray) 0 0 0 0 0 (⟨#[]⟩ : ByteArray) (⟨#[]⟩ : ByteArray) 0 0 p2.1 0 p19.1 p19.2.1 p19.2.2.1 0 (⟨#[]⟩ : ByteArray) (⟨#[]⟩ : ByteArray) 0 0 p19.1 p19.2.1 p19.2.2.1))) else ((Q3e.F n p21.1 (⟨#[44]⟩ : ByteArray)).bind fun p24=>
 (Q2s.F n p24.2.1).bind fun p25=>
 let y26:Bool:=p20.1.toList==(⟨#[68,69,70]⟩ : ByteArray).toList
 bif y26 then (c (.z36 p1.1 p25.2 p24.1 (⟨#[]⟩ : ByteArray) 0 0 0 0 0 (⟨#[]⟩ : ByteArray) (⟨#[]⟩ : ByteArray) 0 0 p2.1 1 p19.1 p19.2.1 p19.2.2.1 0 (⟨#[]⟩ : ByteArray) p24.1 p25.1 0)) else (let y27:Bool:=p20.1.toList==(⟨#[66,65,83]⟩ : ByteArray).toList
 bif y27 then (c (.z36 p1.1 p25.2 p24.1 (⟨#[]⟩ : ByteArray) 0 0 0 0 0 (⟨#[]⟩ : ByteArray) (⟨#[]⟩ : ByteArray) 0 0 p2.1 2 p19.1 p19.2.1 p19.2.2.1 0 (⟨#[]⟩ : ByteArray) p24.1 p25.1 0)) else (c (.z36 p1.1 p25.2 p24.1 (⟨#[]⟩ : ByteArray) 0 0 0 0 0 (⟨#[]⟩ : ByteArray) (⟨#[]⟩ : ByteArray) 0 0 p2.1 0 p19.1 p19.2.1 p19.2.2.1 0 (⟨#[]⟩ : ByteArray) p24.1 p25.1 0))))))) else (some (p2.1,0,0,0,0,0,(⟨#[]⟩ : ByteArray),(⟨#[]⟩ : ByteArray),0,0,false)))))
def Q2b.E (n:Nat) (c:Q2b.Z→Option Q2b.T):Q2b.A→Option Q2b.T:=fun a0=>Q2b.e n c a0
def Q2b.l (n:Nat):Nat→Q2b.Z→Option Q2b.T:=loopL (Q2b.r n)
def Q2b.F (n:Nat) (a0:ByteArray):Option Q2b.T:=Q2b.e n (Q2b.l n n) a0
def Q2b.FA (n:Nat):Q2b.A→Option Q2b.T:=Q2b.E n (Q2b.l n n)
theorem Q2b.hands (n:Nat):∀ a p,Q2b.FA n a=some p→HandsIn Tryz.prog 106 (Q2b.i a) (Q2b.p p):=
 pf_hands (C:=Q2b.C n) (cut:=Q2b.cut) (t:=Q2b.t) (s:=Q2b.s) (e:=Q2b.E n) (r:=Q2b.r n) (n:=n) cfg mixed globs rfl Q2b.qi (Q2b.tells n) Tryz.func106 (by kernel_rfl) (by kernel_rfl) (fun rec a=>by kernel_rfl) (fun rec z=>by cases z <;> kernel_rfl)
def Q2b.via {R:Type} (n:Nat):List AV→(AV→Option R)→Option R:=viaK (Q2b.FA n) Q2b.o Q2b.p
theorem Q2b.tells1 {R:Type} (n:Nat) (xs:List AV):Tells1 (R:=R) Tryz.prog 106 xs (Q2b.via n xs):=tells_via Q2b.oi (fun a=>by kernel_rfl) (Q2b.hands n) xs
end Go.Proofs.YtnoldakbllfmnaaGreatDoor.Ev
namespace Go.Proofs.YtnoldakbllfmnaaGreatDoor.Ev
open Go Go.Proofs Go.Proofs.Ev
set_option linter.unusedVariables false
set_option maxRecDepth 100000
def Q3m.F (n:Nat) (s:ByteArray) (t:ByteArray):Option (List AV):=bif (decide (s.size < 4294967281)&&decide (1≤t.size))&&(Nat.beq (Lib.splitB t 0 (Lib.countB s t) s).length (Lib.countB s t+1)&&decide (Lib.countB s t+1≤most)) then Option.some ((Lib.splitB t 0 (Lib.countB s t) s).map fun x=>vs x) else none
theorem Q3m.hands (n:Nat) (s:ByteArray) (t:ByteArray) {p:List AV} (h:Q3m.F n s t=some p):HandsIn Tryz.prog 107 [.v (.string s),.v (.string t)] (.fr ⟨true,9,false⟩ 1 p):=by
 unfold Q3m.F at h
 cases hc:((decide (s.size < 4294967281)&&decide (1≤t.size))&&(Nat.beq (Lib.splitB t 0 (Lib.countB s t) s).length (Lib.countB s t+1)&&decide (Lib.countB s t+1≤most))) with
 | false=>rw [hc] at h; cases h
 | true=>
  rw [hc] at h
  cases h
  refine hands_calls (fn:=Tryz.f107) Tryz.func107 (by kernel_rfl) (by kernel_rfl) fun w F vals hQ hF hl hr=>?_
  obtain ⟨u0,u1,rfl,h0,h1⟩:=vals2 hl hr
  obtain rfl:=rel_v h0
  obtain rfl:=rel_v h1
  rw [Bool.and_eq_true,Bool.and_eq_true,Bool.and_eq_true] at hc
  refine (Tryz.strings_Split_shaped s t w (Rooted.opened _ hQ) (of_decide_eq_true hc.1.1) (of_decide_eq_true hc.1.2)).mono ?_
  rintro e w' ⟨rfl,rfl⟩
  exact strs_res rfl hF (Nat.eq_of_beq_eq_true hc.2.1) (of_decide_eq_true hc.2.2)
def Q3m.via {R:Type} (n:Nat) (ys:List AV):(AV→Option R)→Option R:=match ys with | [.v (.string s),.v (.string t)]=>fun K=>(Q3m.F n s t).bind fun p=>K (.fr ⟨true,9,false⟩ 1 p) | _=>fun _=>none
theorem Q3m.tells1 {R:Type} (n:Nat) (ys:List AV):Tells1 (R:=R) Tryz.prog 107 ys (Q3m.via n ys):=by
 unfold Q3m.via
 split
 ·exact Tells1.of (fun p hp=>(Q3m.hands n _ _ hp).hands rfl)
 ·exact Tells1.none
end Go.Proofs.YtnoldakbllfmnaaGreatDoor.Ev
namespace Go.Proofs.YtnoldakbllfmnaaGreatDoor.Ev
open Go Go.Proofs Go.Proofs.Ev
set_option linter.unusedVariables false
set_option maxRecDepth 100000
abbrev Q2x.A:=ByteArray
abbrev Q2x.T:=Bool
def Q2x.i:Q2x.A→List AV:=fun a0=>[vs a0]
def Q2x.o (xs:List AV):Option Q2x.A:=match xs with | [.v (.string a0)]=>some a0 | _=>none
theorem Q2x.oi:∀ xs a,Q2x.o xs=some a→xs=Q2x.i a:=by
 intro xs a h
 unfold Q2x.o at h
 split at h
 ·cases h; rfl
 ·cases h
def Q2x.p (p:Q2x.T):AV:=vb p
def Q2x.q (x:AV):Option Q2x.T:=match x with | .v (.bool p0)=>some p0 | _=>none
theorem Q2x.qi:∀ x p,Q2x.q x=some p→x=Q2x.p p:=by
 intro x p h
 unfold Q2x.q at h
 split at h
 ·cases h; rfl
 ·cases h
def Q2x.C {R:Type} (n:Nat) (f:FuncId) (xs:List AV):(AV→Option R)→Option R:=
 bif Nat.beq f 78 then Q2i.via n xs else fun _=>none
theorem Q2x.tells {R:Type} (n:Nat):Tells (R:=R) Tryz.prog (Q2x.C n):=fun _ xs=>tells_at (Q2i.tells1 n xs) (Tells1.none)
def Q2x.cut (r:Nat):Option Keep:=match r with  | _=>none
def Q2x.e (n:Nat) (a0:ByteArray):Option Bool:=
 (Q2i.F n a0).bind fun p1=>
 some (!p1)
def Q2x.E (n:Nat):Q2x.A→Option Q2x.T:=fun a0=>Q2x.e n a0
def Q2x.F (n:Nat) (a0:ByteArray):Option Bool:=Q2x.e n a0
def Q2x.FA (n:Nat):Q2x.A→Option Q2x.T:=Q2x.E n
theorem Q2x.hands (n:Nat):∀ a p,Q2x.FA n a=some p→HandsIn Tryz.prog 111 (Q2x.i a) (Q2x.p p):=
 pf_hands (C:=Q2x.C n) (cut:=Q2x.cut) (Z:=Empty) (t:=nofun) (s:=nofun) (e:=fun _=>Q2x.E n) (r:=fun _ z=>nomatch z) (n:=n) cfg mixed globs rfl Q2x.qi (Q2x.tells n) Tryz.func111 (by kernel_rfl) (by kernel_rfl) (fun rec a=>by kernel_rfl) (fun rec z=>nomatch z)
def Q2x.via {R:Type} (n:Nat):List AV→(AV→Option R)→Option R:=viaK (Q2x.FA n) Q2x.o Q2x.p
theorem Q2x.tells1 {R:Type} (n:Nat) (xs:List AV):Tells1 (R:=R) Tryz.prog 111 xs (Q2x.via n xs):=tells_via Q2x.oi (fun a=>by kernel_rfl) (Q2x.hands n) xs
end Go.Proofs.YtnoldakbllfmnaaGreatDoor.Ev
namespace Go.Proofs.YtnoldakbllfmnaaGreatDoor.Ev
open Go Go.Proofs Go.Proofs.Ev
set_option linter.unusedVariables false
set_option maxRecDepth 100000
abbrev Q38.A:=List AV
abbrev Q38.T:=Int
def Q38.i:Q38.A→List AV:=fun a0=>[.sl ⟨true,9,false⟩ 1 a0,.fn 111 []]
def Q38.o (xs:List AV):Option Q38.A:=match xs with | [.sl ⟨true,9,false⟩ 1 a0,.fn 111 []]=>some a0 | _=>none
theorem Q38.oi:∀ xs a,Q38.o xs=some a→xs=Q38.i a:=by
 intro xs a h
 unfold Q38.o at h
 split at h
 ·cases h; rfl
 ·cases h
def Q38.p (p:Q38.T):AV:=vi p
def Q38.q (x:AV):Option Q38.T:=match x with | .v (.int .i64 p0)=>some p0 | _=>none
theorem Q38.qi:∀ x p,Q38.q x=some p→x=Q38.p p:=by
 intro x p h
 unfold Q38.q at h
 split at h
 ·cases h; rfl
 ·cases h
inductive Q38.Z where
 | z2 (z1:List AV) (z2 z3:Int)
def Q38.C {R:Type} (n:Nat) (f:FuncId) (xs:List AV):(AV→Option R)→Option R:=
 bif Nat.beq f 111 then Q2x.via n xs else fun _=>none
theorem Q38.tells {R:Type} (n:Nat):Tells (R:=R) Tryz.prog (Q38.C n):=fun _ xs=>tells_at (Q2x.tells1 n xs) (Tells1.none)
def Q38.cut (r:Nat):Option Keep:=match r with | 2=>some ⟨[0,1,7,8],[]⟩ | _=>none
def Q38.t (z:Q38.Z):List Item:=(todoOf (match z with | .z2 _ _ _=>2) 1000 [.code (Tryz.f158.body.getD .skip)]).getD []
def Q38.s:Q38.Z→St
 | .z2 z1 z2 z3=>⟨spr 19 0 [(0,.sl ⟨true,9,false⟩ 1 z1),(1,.fn 111 []),(7,vi z2),(8,vi z3)],Mem.ofList [],0⟩
def Q38.r2 (n:Nat) (c:Q38.Z→Option Int) (z1:List AV) (z2 z3:Int):Option Int:=
 bif decide (z3 < z2) then (bif decide ((0:Int)≤z3)&&decide (z3 < ((z1.length:Nat):Int)) then (withCons ((z1.getD ((z3).toNat) .undef).cells) fun h1 r2=>
 withStr h1 fun s3=>
 (Q2x.F n s3).bind fun p4=>
 bif p4 then (some z3) else (c (.z2 z1 z2 (IntKind.i64.wrap (z3+1))))) else none) else (some (-1))
def Q38.r (n:Nat) (c:Q38.Z→Option Int):Q38.Z→Option Int
 | .z2 z1 z2 z3=>Q38.r2 n c z1 z2 z3
def Q38.e (n:Nat) (c:Q38.Z→Option Int) (a0:List AV):Option Int:=
 c (.z2 a0 ((a0.length:Nat):Int) 0)
def Q38.E (n:Nat) (c:Q38.Z→Option Int):Q38.A→Option Q38.T:=fun a0=>Q38.e n c a0
def Q38.l (n:Nat):Nat→Q38.Z→Option Int:=loopL (Q38.r n)
def Q38.F (n:Nat) (a0:List AV):Option Int:=Q38.e n (Q38.l n n) a0
def Q38.FA (n:Nat):Q38.A→Option Q38.T:=Q38.E n (Q38.l n n)
theorem Q38.hands (n:Nat):∀ a p,Q38.FA n a=some p→HandsIn Tryz.prog 158 (Q38.i a) (Q38.p p):=
 pf_hands (C:=Q38.C n) (cut:=Q38.cut) (t:=Q38.t) (s:=Q38.s) (e:=Q38.E n) (r:=Q38.r n) (n:=n) cfg mixed globs rfl Q38.qi (Q38.tells n) Tryz.func158 (by kernel_rfl) (by kernel_rfl) (fun rec a=>by kernel_rfl) (fun rec z=>by cases z <;> kernel_rfl)
def Q38.via {R:Type} (n:Nat):List AV→(AV→Option R)→Option R:=viaK (Q38.FA n) Q38.o Q38.p
theorem Q38.tells1 {R:Type} (n:Nat) (xs:List AV):Tells1 (R:=R) Tryz.prog 158 xs (Q38.via n xs):=tells_via Q38.oi (fun a=>by kernel_rfl) (Q38.hands n) xs
end Go.Proofs.YtnoldakbllfmnaaGreatDoor.Ev
namespace Go.Proofs.YtnoldakbllfmnaaGreatDoor.Ev
open Go Go.Proofs Go.Proofs.Ev
set_option linter.unusedVariables false
set_option maxRecDepth 100000
abbrev Q35.A:=List AV
abbrev Q35.T:=Bool
def Q35.i:Q35.A→List AV:=fun a0=>[.sl ⟨true,9,false⟩ 1 a0,.fn 111 []]
def Q35.o (xs:List AV):Option Q35.A:=match xs with | [.sl ⟨true,9,false⟩ 1 a0,.fn 111 []]=>some a0 | _=>none
theorem Q35.oi:∀ xs a,Q35.o xs=some a→xs=Q35.i a:=by
 intro xs a h
 unfold Q35.o at h
 split at h
 ·cases h; rfl
 ·cases h
def Q35.p (p:Q35.T):AV:=vb p
def Q35.q (x:AV):Option Q35.T:=match x with | .v (.bool p0)=>some p0 | _=>none
theorem Q35.qi:∀ x p,Q35.q x=some p→x=Q35.p p:=by
 intro x p h
 unfold Q35.q at h
 split at h
 ·cases h; rfl
 ·cases h
def Q35.C {R:Type} (n:Nat) (f:FuncId) (xs:List AV):(AV→Option R)→Option R:=
 bif Nat.beq f 158 then Q38.via n xs else fun _=>none
theorem Q35.tells {R:Type} (n:Nat):Tells (R:=R) Tryz.prog (Q35.C n):=fun _ xs=>tells_at (Q38.tells1 n xs) (Tells1.none)
def Q35.cut (r:Nat):Option Keep:=match r with  | _=>none
def Q35.e (n:Nat) (a0:List AV):Option Bool:=
 (Q38.F n a0).bind fun p1=>
 some (decide (p1≥0))
def Q35.E (n:Nat):Q35.A→Option Q35.T:=fun a0=>Q35.e n a0
def Q35.F (n:Nat) (a0:List AV):Option Bool:=Q35.e n a0
def Q35.FA (n:Nat):Q35.A→Option Q35.T:=Q35.E n
theorem Q35.hands (n:Nat):∀ a p,Q35.FA n a=some p→HandsIn Tryz.prog 110 (Q35.i a) (Q35.p p):=
 pf_hands (C:=Q35.C n) (cut:=Q35.cut) (Z:=Empty) (t:=nofun) (s:=nofun) (e:=fun _=>Q35.E n) (r:=fun _ z=>nomatch z) (n:=n) cfg mixed globs rfl Q35.qi (Q35.tells n) Tryz.func110 (by kernel_rfl) (by kernel_rfl) (fun rec a=>by kernel_rfl) (fun rec z=>nomatch z)
def Q35.via {R:Type} (n:Nat):List AV→(AV→Option R)→Option R:=viaK (Q35.FA n) Q35.o Q35.p
theorem Q35.tells1 {R:Type} (n:Nat) (xs:List AV):Tells1 (R:=R) Tryz.prog 110 xs (Q35.via n xs):=tells_via Q35.oi (fun a=>by kernel_rfl) (Q35.hands n) xs
end Go.Proofs.YtnoldakbllfmnaaGreatDoor.Ev
namespace Go.Proofs.YtnoldakbllfmnaaGreatDoor.Ev
open Go Go.Proofs Go.Proofs.Ev
set_option linter.unusedVariables false
set_option maxRecDepth 100000
abbrev Q2w.A:=ByteArray
abbrev Q2w.T:=Int × Int × ByteArray × Int × Int × Int × Int × Int × ByteArray × ByteArray × Int × Int × Int × List AV × Int × Int × Int × Int × Bool
def Q2w.i:Q2w.A→List AV:=fun a0=>[vs a0]
def Q2w.o (xs:List AV):Option Q2w.A:=match xs with | [.v (.string a0)]=>some a0 | _=>none
theorem Q2w.oi:∀ xs a,Q2w.o xs=some a→xs=Q2w.i a:=by
 intro xs a h
 unfold Q2w.o at h
 split at h
 ·cases h; rfl
 ·cases h
def Q2w.p (p:Q2w.T):AV:=.tup [AV.agg [vi p.1,vi p.2.1,vs p.2.2.1,vi p.2.2.2.1,vi p.2.2.2.2.1,vi p.2.2.2.2.2.1,vi p.2.2.2.2.2.2.1,vi p.2.2.2.2.2.2.2.1,vs p.2.2.2.2.2.2.2.2.1,vs p.2.2.2.2.2.2.2.2.2.1,vi p.2.2.2.2.2.2.2.2.2.2.1,vi p.2.2.2.2.2.2.2.2.2.2.2.1,vi p.2.2.2.2.2.2.2.2.2.2.2.2.1,.fr ⟨true,9,false⟩ 1 p.2.2.2.2.2.2.2.2.2.2.2.2.2.1,vi p.2.2.2.2.2.2.2.2.2.2.2.2.2.2.1,vi p.2.2.2.2.2.2.2.2.2.2.2.2.2.2.2.1,vi p.2.2.2.2.2.2.2.2.2.2.2.2.2.2.2.2.1,vi p.2.2.2.2.2.2.2.2.2.2.2.2.2.2.2.2.2.1],vb p.2.2.2.2.2.2.2.2.2.2.2.2.2.2.2.2.2.2]
def Q2w.q (x:AV):Option Q2w.T:=match x with | .tup [.agg [.v (.int .i64 p0),.v (.int .i64 p1),.v (.string p2),.v (.int .i64 p3),.v (.int .i64 p4),.v (.int .i64 p5),.v (.int .i64 p6),.v (.int .i64 p7),.v (.string p8),.v (.string p9),.v (.int .i64 p10),.v (.int .i64 p11),.v (.int .i64 p12),.fr ⟨true,9,false⟩ 1 p13,.v (.int .i64 p14),.v (.int .i64 p15),.v (.int .i64 p16),.v (.int .i64 p17)],.v (.bool p18)]=>some (p0,p1,p2,p3,p4,p5,p6,p7,p8,p9,p10,p11,p12,p13,p14,p15,p16,p17,p18) | _=>none
theorem Q2w.qi:∀ x p,Q2w.q x=some p→x=Q2w.p p:=by
 intro x p h
 unfold Q2w.q at h
 split at h
 ·cases h; rfl
 ·cases h
inductive Q2w.Z where
 | z9 (z1 z2 z3 z4:Int) (z5:ByteArray) (z6 z7 z8 z9 z10:Int) (z11 z12:ByteArray) (z13 z14 z15 z16 z17 z18 z19:Int) (z20 z21:List AV)
def Q2w.C {R:Type} (n:Nat) (f:FuncId) (xs:List AV):(AV→Option R)→Option R:=
 bif Nat.beq f 53 then Q2u.via n xs else bif Nat.beq f 60 then Q3e.via n xs else bif Nat.beq f 78 then Q2i.via n xs else bif Nat.beq f 105 then Q3f.via n xs else bif Nat.beq f 106 then Q2b.via n xs else bif Nat.beq f 107 then Q3m.via n xs else bif Nat.beq f 108 then Q2s.via n xs else bif Nat.beq f 109 then Q3a.via n xs else bif Nat.beq f 110 then Q35.via n xs else fun _=>none
theorem Q2w.tells {R:Type} (n:Nat):Tells (R:=R) Tryz.prog (Q2w.C n):=fun _ xs=>tells_at (Q2u.tells1 n xs) (tells_at (Q3e.tells1 n xs) (tells_at (Q2i.tells1 n xs) (tells_at (Q3f.tells1 n xs) (tells_at (Q2b.tells1 n xs) (tells_at (Q3m.tells1 n xs) (tells_at (Q2s.tells1 n xs) (tells_at (Q3a.tells1 n xs) (tells_at (Q35.tells1 n xs) (Tells1.none)))))))))
def Q2w.cut (r:Nat):Option Keep:=match r with | 9=>some ⟨[2,11,51,52,53],[(11,none,⟨true,3,false⟩,1)]⟩ | _=>none
def Q2w.t (z:Q2w.Z):List Item:=(todoOf (match z with | .z9 _ _ _ _ _ _ _ _ _ _ _ _ _ _ _ _ _ _ _ _ _=>9) 1000 [.code (Tryz.f62.body.getD .skip)]).getD []
def Q2w.s:Q2w.Z→St
 | .z9 z1 z2 z3 z4 z5 z6 z7 z8 z9 z10 z11 z12 z13 z14 z15 z16 z17 z18 z19 z20 z21=>⟨spr 106 0 [(2,.ptr 0 0),(11,.own 1 0 none),(51,.own 2 0 none),(52,vi z1),(53,vi z2)],Mem.ofList [.box 109 [vi z3,vi z4,vs z5,vi z6,vi z7,vi z8,vi z9,vi z10,vs z11,vs z12,vi z13,vi z14,vi z15,.v (.slice none 0 0),vi z16,vi z17,vi z18,vi z19],.row ⟨true,3,false⟩ 1 z20,.row ⟨true,9,false⟩ 1 z21],3⟩
def Q2w.r9 (n:Nat) (c:Q2w.Z→Option Q2w.T) (z1 z2 z3 z4:Int) (z5:ByteArray) (z6 z7 z8 z9 z10:Int) (z11 z12:ByteArray) (z13 z14 z15 z16 z17 z18 z19:Int) (z20 z21:List AV):Option Q2w.T:=
 bif decide (z2 < z1) then (bif decide ((0:Int)≤z2)&&decide (z2 < ((z21.length:Nat):Int)) then (withCons ((z21.getD ((z2).toNat) .undef).cells) fun h12 r13=>
 withStr h12 fun s14=>
 (Q2s.F n s14).bind fun p15=>
 bif !p15.2 then (some (0,0,(⟨#[]⟩ : ByteArray),0,0,0,0,0,(⟨#[]⟩ : ByteArray),(⟨#[]⟩ : ByteArray),0,0,0,[],0,0,0,0,false)) else (bif decide (z20.length+[vi p15.1].length≤most) then (c (.z9 z1 (IntKind.i64.wrap (z2+1)) z3 z4 z5 z6 z7 z8 z9 z10 z11 z12 z13 z14 z15 z16 z17 z18 z19 (z20++[vi p15.1]) z21)) else none)) else none) else (let y16:Bool:=((z20.length:Nat):Int) != 4
 bif y16 then (some (0,0,(⟨#[]⟩ : ByteArray),0,0,0,0,0,(⟨#[]⟩ : ByteArray),(⟨#[]⟩ : ByteArray),0,0,0,[],0,0,0,0,false)) else (bif decide ((0:Int) < (z20.length:Nat)) then (withCons ((z20.getD 0 .undef).cells) fun h17 r18=>
 withInt .i64 h17 fun x19=>
 bif decide ((1:Int) < (z20.length:Nat)) then (withCons ((z20.getD 1 .undef).cells) fun h20 r21=>
 withInt .i64 h20 fun x22=>
 bif decide ((2:Int) < (z20.length:Nat)) then (withCons ((z20.getD 2 .undef).cells) fun h23 r24=>
 withInt .i64 h23 fun x25=>
 bif decide ((3:Int) < (z20.length:Nat)) then (withCons ((z20.getD 3 .undef).cells) fun h26 r27=>
 withInt .i64 h26 fun x28=>
 some (0,3,(⟨#[]⟩ : ByteArray),0,0,0,0,0,(⟨#[]⟩ : ByteArray),(⟨#[]⟩ : ByteArray),0,0,0,[],x19,x22,x25,x28,true)) else none) else none) else none) else none))
def Q2w.r (n:Nat) (c:Q2w.Z→Option Q2w.T):Q2w.Z→Option Q2w.T
 | .z9 z1 z2 z3 z4 z5 z6 z7 z8 z9 z10 z11 z12 z13 z14 z15 z16 z17 z18 z19 z20 z21=>Q2w.r9 n c z1 z2 z3 z4 z5 z6 z7 z8 z9 z10 z11 z12 z13 z14 z15 z16 z17 z18 z19 z20 z21
def Q2w.e (n:Nat) (c:Q2w.Z→Option Q2w.T) (a0:ByteArray):Option Q2w.T:=
 (Q3f.F n a0 (⟨#[68,67,76,32]⟩ : ByteArray)).bind fun p1=>
 bif p1.2 then ((Q2b.F n p1.1).bind fun p2=>
 bif p2.2.2.2.2.2.2.2.2.2.2 then ((Q2i.F n p2.1).bind fun p3=>
 bif p3 then ((Q2u.F n p2.1 p2.2.1 p2.2.2.1 p2.2.2.2.1 p2.2.2.2.2.1 p2.2.2.2.2.2.1 p2.2.2.2.2.2.2.1 p2.2.2.2.2.2.2.2.1 p2.2.2.2.2.2.2.2.2.1 p2.2.2.2.2.2.2.2.2.2.1).bind fun p4=>
 some (0,1,p2.1,p2.2.1,p2.2.2.1,p2.2.2.2.1,p2.2.2.2.2.1,p2.2.2.2.2.2.1,p2.2.2.2.2.2.2.1,p2.2.2.2.2.2.2.2.1,p2.2.2.2.2.2.2.2.2.1,p2.2.2.2.2.2.2.2.2.2.1,0,[],0,0,0,0,p4.toList==a0.toList)) else (some (0,1,p2.1,p2.2.1,p2.2.2.1,p2.2.2.2.1,p2.2.2.2.2.1,p2.2.2.2.2.2.1,p2.2.2.2.2.2.2.1,p2.2.2.2.2.2.2.2.1,p2.2.2.2.2.2.2.2.2.1,p2.2.2.2.2.2.2.2.2.2.1,0,[],0,0,0,0,false))) else (some (0,1,p2.1,p2.2.1,p2.2.2.1,p2.2.2.2.1,p2.2.2.2.2.1,p2.2.2.2.2.2.1,p2.2.2.2.2.2.2.1,p2.2.2.2.2.2.2.2.1,p2.2.2.2.2.2.2.2.2.1,p2.2.2.2.2.2.2.2.2.2.1,0,[],0,0,0,0,false))) else ((Q3e.F n a0 (⟨#[32]⟩ : ByteArray)).bind fun p5=>
 let y6:Bool:=p5.1.toList==(⟨#[77,79,78,73,84,79,82]⟩ : ByteArray).toList
 bif y6 then ((Q3m.F n p5.2.1 (⟨#[32]⟩ : ByteArray)).bind fun p7=>
 c (.z9 ((p7.length:Nat):Int) 0 0 0 (⟨#[]⟩ : ByteArray) 0 0 0 0 0 (⟨#[]⟩ : ByteArray) (⟨#[]⟩ : ByteArray) 0 0 0 0 0 0 0 [] p7)) else ((Q3a.F n [vs (⟨#[77,79,86,69]⟩ : ByteArray),vs (⟨#[77,79,86,69,72]⟩ : ByteArray),vs (⟨#[65,68,68]⟩ : ByteArray),vs (⟨#[83,85,66]⟩ : ByteArray),vs (⟨#[77,85,76]⟩ : ByteArray),vs (⟨#[68,73,86]⟩ : ByteArray),vs (⟨#[82,69,77]⟩ : ByteArray),vs (⟨#[73,70,69,81]⟩ : ByteArray),vs (⟨#[73,70,76,84]⟩ : ByteArray),vs (⟨#[71,79,84,79]⟩ : ByteArray),vs (⟨#[65,68,68,82]⟩ : ByteArray),vs (⟨#[77,79,86,69,80]⟩ : ByteArray),vs (⟨#[65,68,86,65,78,67,69]⟩ : ByteArray),vs (⟨#[67,65,76,76]⟩ : ByteArray),vs (⟨#[82,69,84,85,82,78]⟩ : ByteArray),vs (⟨#[83,73,71,78,65,76]⟩ : ByteArray),vs (⟨#[69,88,67,69,80,84,73,79,78]⟩ : ByteArray),vs (⟨#[80,82,73,78,84]⟩ : ByteArray),vs (⟨#[69,78,68]⟩ : ByteArray)] p5.1).bind fun p8=>
 bif p5.2.2 then ((Q3m.F n p5.2.1 (⟨#[44]⟩ : ByteArray)).bind fun p9=>
 bif decide (p8≥0) then ((Q35.F n p9).bind fun p10=>
 some (0,2,(⟨#[]⟩ : ByteArray),0,0,0,0,0,(⟨#[]⟩ : ByteArray),(⟨#[]⟩ : ByteArray),0,0,p8,p9,0,0,0,0,!p10)) else (some (0,2,(⟨#[]⟩ : ByteArray),0,0,0,0,0,(⟨#[]⟩ : ByteArray),(⟨#[]⟩ : ByteArray),0,0,p8,p9,0,0,0,0,false))) else (bif decide (p8≥0) then ((Q35.F n []).bind fun p11=>
 some (0,2,(⟨#[]⟩ : ByteArray),0,0,0,0,0,(⟨#[]⟩ : ByteArray),(⟨#[]⟩ : ByteArray),0,0,p8,[],0,0,0,0,!p11)) else (some (0,2,(⟨#[]⟩ : ByteArray),0,0,0,0,0,(⟨#[]⟩ : ByteArray),(⟨#[]⟩ : ByteArray),0,0,p8,[],0,0,0,0,false)))))
def Q2w.E (n:Nat) (c:Q2w.Z→Option Q2w.T):Q2w.A→Option Q2w.T:=fun a0=>Q2w.e n c a0
def Q2w.l (n:Nat):Nat→Q2w.Z→Option Q2w.T:=loopL (Q2w.r n)
def Q2w.FA (n:Nat):Q2w.A→Option Q2w.T:=Q2w.E n (Q2w.l n n)
theorem Q2w.hands (n:Nat):∀ a p,Q2w.FA n a=some p→HandsIn Tryz.prog 62 (Q2w.i a) (Q2w.p p):=
 pf_hands (C:=Q2w.C n) (cut:=Q2w.cut) (t:=Q2w.t) (s:=Q2w.s) (e:=Q2w.E n) (r:=Q2w.r n) (n:=n) cfg mixed globs rfl Q2w.qi (Q2w.tells n) Tryz.func62 (by kernel_rfl) (by kernel_rfl) (fun rec a=>by kernel_rfl) (fun rec z=>by cases z <;> kernel_rfl)
def Q2w.via {R:Type} (n:Nat):List AV→(AV→Option R)→Option R:=viaK (Q2w.FA n) Q2w.o Q2w.p
theorem Q2w.tells1 {R:Type} (n:Nat) (xs:List AV):Tells1 (R:=R) Tryz.prog 62 xs (Q2w.via n xs):=tells_via Q2w.oi (fun a=>by kernel_rfl) (Q2w.hands n) xs
end Go.Proofs.YtnoldakbllfmnaaGreatDoor.Ev
namespace Go.Proofs.YtnoldakbllfmnaaGreatDoor.Ev
open Go Go.Proofs Go.Proofs.Ev
set_option linter.unusedVariables false
set_option maxRecDepth 100000
def Q0p.own (f:FuncId):Bool:=Nat.beq f 14||Nat.beq f 17||Nat.beq f 22||Nat.beq f 60||Nat.beq f 62
def Q0p.C0 {R:Type} (f:FuncId) (xs:List AV):(AV→Option R)→Option R:=bif Nat.beq f 14 then Q22.via 1000 xs else bif Nat.beq f 17 then Q23.via 1000 xs else bif Nat.beq f 22 then Q17.via 1000 xs else bif Nat.beq f 60 then Q3e.via 1000 xs else bif Nat.beq f 62 then Q2w.via 1000 xs else fun _=>none
theorem Q0p.tells0 {R:Type}:Tells (R:=R) Tryz.prog Q0p.C0:=fun _ xs=>tells_at (Q22.tells1 1000 xs) (tells_at (Q23.tells1 1000 xs) (tells_at (Q17.tells1 1000 xs) (tells_at (Q3e.tells1 1000 xs) (tells_at (Q2w.tells1 1000 xs) (Tells1.none)))))
def Q0p.F (n:Nat):Option Bool:=Option.some true
theorem Q0p.run:interp Tryz.prog G Q0p.own Q0p.C0 (fun _ _=>none) 1000 100 12 []=Option.some (vb true):=by kernel_rfl
def Q0p.via {R:Type} (n:Nat) (ys:List AV):(AV→Option R)→Option R:=match ys with | []=>fun K=>(Q0p.F n).bind fun p=>K (.v (.bool p)) | _=>fun _=>none
theorem Q0p.tells1 {R:Type} (n:Nat) (ys:List AV):Tells1 (R:=R) Tryz.prog 12 ys (Q0p.via n ys):=by
 unfold Q0p.via
 split
 ·exact Tells1.of (fun p hp=>by cases hp; exact interp_tells cfg mixed globs rfl Q0p.tells0 100 _ _ _ Q0p.run)
 ·exact Tells1.none
end Go.Proofs.YtnoldakbllfmnaaGreatDoor.Ev
namespace Go.Proofs.YtnoldakbllfmnaaGreatDoor.Ev
open Go Go.Proofs Go.Proofs.Ev
set_option linter.unusedVariables false
set_option maxRecDepth 100000
abbrev Q0j.A:=List AV × List AV × List AV
abbrev Q0j.T:=Bool
def Q0j.i:Q0j.A→List AV:=fun (a0,a1,a2)=>[AV.agg [.sl ⟨true,74,false⟩ 10 a0,.sl ⟨false,86,false⟩ 2 a1,.sl ⟨true,82,false⟩ 4 a2]]
def Q0j.o (xs:List AV):Option Q0j.A:=match xs with | [.agg [.sl ⟨true,74,false⟩ 10 a0,.sl ⟨false,86,false⟩ 2 a1,.sl ⟨true,82,false⟩ 4 a2]]=>some (a0,a1,a2) | _=>none
theorem Q0j.oi:∀ xs a,Q0j.o xs=some a→xs=Q0j.i a:=by
 intro xs a h
 unfold Q0j.o at h
 split at h
 ·cases h; rfl
 ·cases h
def Q0j.p (p:Q0j.T):AV:=vb p
def Q0j.q (x:AV):Option Q0j.T:=match x with | .v (.bool p0)=>some p0 | _=>none
theorem Q0j.qi:∀ x p,Q0j.q x=some p→x=Q0j.p p:=by
 intro x p h
 unfold Q0j.q at h
 split at h
 ·cases h; rfl
 ·cases h
inductive Q0j.Z where
 | z2
 | z4 (z1:Int) (z2 z3 z4:List AV)
 | z8
 | z10 (z1:Int) (z2 z3 z4:List AV)
def Q0j.C {R:Type} (n:Nat) (f:FuncId) (xs:List AV):(AV→Option R)→Option R:=
 fun _=>none
theorem Q0j.tells {R:Type} (n:Nat):Tells (R:=R) Tryz.prog (Q0j.C n):=fun _ xs=>Tells1.none
def Q0j.cut (r:Nat):Option Keep:=match r with | 2=>some ⟨[],[]⟩ | 4=>some ⟨[1,3],[]⟩ | 8=>some ⟨[],[]⟩ | 10=>some ⟨[1,5],[]⟩ | _=>none
def Q0j.t (z:Q0j.Z):List Item:=(todoOf (match z with | .z2=>2 | .z4 _ _ _ _=>4 | .z8=>8 | .z10 _ _ _ _=>10) 1000 [.code (Tryz.f13.body.getD .skip)]).getD []
def Q0j.s:Q0j.Z→St
 | .z2=>⟨spr 66 0 [],Mem.ofList [],0⟩
 | .z4 z1 z2 z3 z4=>⟨spr 66 0 [(1,.ptr 0 0),(3,vi z1)],Mem.ofList [.box 26 [.sl ⟨true,74,false⟩ 10 z2,.sl ⟨false,86,false⟩ 2 z3,.sl ⟨true,82,false⟩ 4 z4]],1⟩
 | .z8=>⟨spr 66 0 [],Mem.ofList [],0⟩
 | .z10 z1 z2 z3 z4=>⟨spr 66 0 [(1,.ptr 0 0),(5,vi z1)],Mem.ofList [.box 26 [.sl ⟨true,74,false⟩ 10 z2,.sl ⟨false,86,false⟩ 2 z3,.sl ⟨true,82,false⟩ 4 z4]],1⟩
def Q0j.r2 (n:Nat) (c:Q0j.Z→Option Bool)  : Option Bool:=
 some false
def Q0j.r4 (n:Nat) (c:Q0j.Z→Option Bool) (z1:Int) (z2 z3 z4:List AV):Option Bool:=
 let y4:Bool:=decide (z1 < ((z2.length:Nat):Int))
 bif y4 then (bif decide ((0:Int)≤z1)&&decide (z1 < ((z2.length:Nat):Int)) then (withCons ((z2.getD ((z1).toNat) .undef).cells) fun h5 r6=>
 withStr h5 fun s7=>
 withCons r6 fun h8 r9=>
 withInt .i64 h8 fun x10=>
 withCons r9 fun h11 r12=>
 withInt .i64 h11 fun x13=>
 withCons r12 fun h14 r15=>
 withInt .i64 h14 fun x16=>
 withCons r15 fun h17 r18=>
 withInt .i64 h17 fun x19=>
 withCons r18 fun h20 r21=>
 withInt .i64 h20 fun x22=>
 withCons r21 fun h23 r24=>
 withStr h23 fun s25=>
 withCons r24 fun h26 r27=>
 withStr h26 fun s28=>
 withCons r27 fun h29 r30=>
 withInt .i64 h29 fun x31=>
 withCons r30 fun h32 r33=>
 withInt .i64 h32 fun x34=>
 let y35:Bool:=decide (((s7.size:Nat):Int) > 100)
 bif y35 then (c .z8) else (let y36:Bool:=decide (((s28.size:Nat):Int) > 100)
 bif y36 then (c .z8) else (let y37:Bool:=decide (((s25.size:Nat):Int) > 600)
 bif y37 then (c .z8) else (c (.z4 (IntKind.i64.wrap (z1+1)) z2 z3 z4))))) else none) else (c (.z10 0 z2 z3 z4))
def Q0j.r8 (n:Nat) (c:Q0j.Z→Option Bool)  : Option Bool:=
 some false
def Q0j.r10 (n:Nat) (c:Q0j.Z→Option Bool) (z1:Int) (z2 z3 z4:List AV):Option Bool:=
 let y38:Bool:=decide (z1 < ((z3.length:Nat):Int))
 bif y38 then (bif decide ((0:Int)≤z1)&&decide (z1 < ((z3.length:Nat):Int)) then (withCons (((z3.getD ((z1).toNat) .undef).cells).drop 1) fun h39 r40=>
 withSl ⟨true,3,false⟩ 1 h39 fun xs41=>
 let y42:Bool:=decide (((xs41.length:Nat):Int) > 6)
 bif y42 then (some false) else (c (.z10 (IntKind.i64.wrap (z1+1)) z2 z3 z4))) else none) else (some true)
def Q0j.r (n:Nat) (c:Q0j.Z→Option Bool):Q0j.Z→Option Bool
 | .z2=>Q0j.r2 n c
 | .z4 z1 z2 z3 z4=>Q0j.r4 n c z1 z2 z3 z4
 | .z8=>Q0j.r8 n c
 | .z10 z1 z2 z3 z4=>Q0j.r10 n c z1 z2 z3 z4
def Q0j.e (n:Nat) (c:Q0j.Z→Option Bool) (a0 a1 a2:List AV):Option Bool:=
 let y1:Bool:=decide (((a0.length:Nat):Int) > 28)
 bif y1 then (c .z2) else (let y2:Bool:=decide (((a1.length:Nat):Int) > 44)
 bif y2 then (c .z2) else (let y3:Bool:=decide (((a2.length:Nat):Int) > 9)
 bif y3 then (c .z2) else (c (.z4 0 a0 a1 a2))))
def Q0j.E (n:Nat) (c:Q0j.Z→Option Bool):Q0j.A→Option Q0j.T:=fun (a0,a1,a2)=>Q0j.e n c a0 a1 a2
def Q0j.l (n:Nat):Nat→Q0j.Z→Option Bool:=loopL (Q0j.r n)
def Q0j.F (n:Nat) (a0 a1 a2:List AV):Option Bool:=Q0j.e n (Q0j.l n n) a0 a1 a2
def Q0j.FA (n:Nat):Q0j.A→Option Q0j.T:=Q0j.E n (Q0j.l n n)
theorem Q0j.hands (n:Nat):∀ a p,Q0j.FA n a=some p→HandsIn Tryz.prog 13 (Q0j.i a) (Q0j.p p):=
 pf_hands (C:=Q0j.C n) (cut:=Q0j.cut) (t:=Q0j.t) (s:=Q0j.s) (e:=Q0j.E n) (r:=Q0j.r n) (n:=n) cfg mixed globs rfl Q0j.qi (Q0j.tells n) Tryz.func13 (by kernel_rfl) (by kernel_rfl) (fun rec a=>by kernel_rfl) (fun rec z=>by cases z <;> kernel_rfl)
def Q0j.via {R:Type} (n:Nat):List AV→(AV→Option R)→Option R:=viaK (Q0j.FA n) Q0j.o Q0j.p
theorem Q0j.tells1 {R:Type} (n:Nat) (xs:List AV):Tells1 (R:=R) Tryz.prog 13 xs (Q0j.via n xs):=tells_via Q0j.oi (fun a=>by kernel_rfl) (Q0j.hands n) xs
end Go.Proofs.YtnoldakbllfmnaaGreatDoor.Ev
namespace Go.Proofs.YtnoldakbllfmnaaGreatDoor.Ev
open Go Go.Proofs Go.Proofs.Ev
set_option linter.unusedVariables false
set_option maxRecDepth 100000
abbrev Q05.A:=List AV
abbrev Q05.T:=List AV
def Q05.i:Q05.A→List AV:=fun a0=>[.sl ⟨true,3,false⟩ 1 a0]
def Q05.o (xs:List AV):Option Q05.A:=match xs with | [.sl ⟨true,3,false⟩ 1 a0]=>some a0 | _=>none
theorem Q05.oi:∀ xs a,Q05.o xs=some a→xs=Q05.i a:=by
 intro xs a h
 unfold Q05.o at h
 split at h
 ·cases h; rfl
 ·cases h
def Q05.p (p:Q05.T):AV:=.fr ⟨true,3,false⟩ 1 p
def Q05.q (x:AV):Option Q05.T:=match x with | .fr ⟨true,3,false⟩ 1 p0=>some p0 | _=>none
theorem Q05.qi:∀ x p,Q05.q x=some p→x=Q05.p p:=by
 intro x p h
 unfold Q05.q at h
 split at h
 ·cases h; rfl
 ·cases h
def Q05.C {R:Type} (n:Nat) (f:FuncId) (xs:List AV):(AV→Option R)→Option R:=
 fun _=>none
theorem Q05.tells {R:Type} (n:Nat):Tells (R:=R) Tryz.prog (Q05.C n):=fun _ xs=>Tells1.none
def Q05.cut (r:Nat):Option Keep:=match r with  | _=>none
def Q05.e (n:Nat) (a0:List AV):Option (List AV):=
 bif decide (a0.length≤most) then (some a0) else none
def Q05.E (n:Nat):Q05.A→Option Q05.T:=fun a0=>Q05.e n a0
def Q05.F (n:Nat) (a0:List AV):Option (List AV):=Q05.e n a0
def Q05.FA (n:Nat):Q05.A→Option Q05.T:=Q05.E n
theorem Q05.hands (n:Nat):∀ a p,Q05.FA n a=some p→HandsIn Tryz.prog 49 (Q05.i a) (Q05.p p):=
 pf_hands (C:=Q05.C n) (cut:=Q05.cut) (Z:=Empty) (t:=nofun) (s:=nofun) (e:=fun _=>Q05.E n) (r:=fun _ z=>nomatch z) (n:=n) cfg mixed globs rfl Q05.qi (Q05.tells n) Tryz.func49 (by kernel_rfl) (by kernel_rfl) (fun rec a=>by kernel_rfl) (fun rec z=>nomatch z)
def Q05.via {R:Type} (n:Nat):List AV→(AV→Option R)→Option R:=viaK (Q05.FA n) Q05.o Q05.p
theorem Q05.tells1 {R:Type} (n:Nat) (xs:List AV):Tells1 (R:=R) Tryz.prog 49 xs (Q05.via n xs):=tells_via Q05.oi (fun a=>by kernel_rfl) (Q05.hands n) xs
end Go.Proofs.YtnoldakbllfmnaaGreatDoor.Ev
namespace Go.Proofs.YtnoldakbllfmnaaGreatDoor.Ev
open Go Go.Proofs Go.Proofs.Ev
set_option linter.unusedVariables false
set_option maxRecDepth 100000
abbrev Q16.A:=List AV × List AV × List AV
abbrev Q16.T:=List AV × List AV × List AV
def Q16.i:Q16.A→List AV:=fun (a0,a1,a2)=>[AV.agg [.sl ⟨true,74,false⟩ 10 a0,.sl ⟨false,86,false⟩ 2 a1,.sl ⟨true,82,false⟩ 4 a2]]
def Q16.o (xs:List AV):Option Q16.A:=match xs with | [.agg [.sl ⟨true,74,false⟩ 10 a0,.sl ⟨false,86,false⟩ 2 a1,.sl ⟨true,82,false⟩ 4 a2]]=>some (a0,a1,a2) | _=>none
theorem Q16.oi:∀ xs a,Q16.o xs=some a→xs=Q16.i a:=by
 intro xs a h
 unfold Q16.o at h
 split at h
 ·cases h; rfl
 ·cases h
def Q16.p (p:Q16.T):AV:=AV.agg [.fr ⟨true,74,false⟩ 10 p.1,.fr ⟨false,86,false⟩ 2 p.2.1,.fr ⟨true,82,false⟩ 4 p.2.2]
def Q16.q (x:AV):Option Q16.T:=match x with | .agg [.fr ⟨true,74,false⟩ 10 p0,.fr ⟨false,86,false⟩ 2 p1,.fr ⟨true,82,false⟩ 4 p2]=>some (p0,p1,p2) | _=>none
theorem Q16.qi:∀ x p,Q16.q x=some p→x=Q16.p p:=by
 intro x p h
 unfold Q16.q at h
 split at h
 ·cases h; rfl
 ·cases h
inductive Q16.Z where
 | z3 (z1:Int) (z2 z3 z4 z5 z6 z7:List AV)
def Q16.C {R:Type} (n:Nat) (f:FuncId) (xs:List AV):(AV→Option R)→Option R:=
 bif Nat.beq f 49 then Q05.via n xs else fun _=>none
theorem Q16.tells {R:Type} (n:Nat):Tells (R:=R) Tryz.prog (Q16.C n):=fun _ xs=>tells_at (Q05.tells1 n xs) (Tells1.none)
def Q16.cut (r:Nat):Option Keep:=match r with | 3=>some ⟨[1,2,3,4],[(3,some 1,⟨false,86,false⟩,2)]⟩ | _=>none
def Q16.t (z:Q16.Z):List Item:=(todoOf (match z with | .z3 _ _ _ _ _ _ _=>3) 1000 [.code (Tryz.f15.body.getD .skip)]).getD []
def Q16.s:Q16.Z→St
 | .z3 z1 z2 z3 z4 z5 z6 z7=>⟨spr 39 0 [(1,.ptr 0 0),(2,.ptr 1 0),(3,.ptr 2 0),(4,vi z1)],Mem.ofList [.box 26 [.sl ⟨true,74,false⟩ 10 z2,.sl ⟨false,86,false⟩ 2 z3,.sl ⟨true,82,false⟩ 4 z4],.box 26 [.v (.slice none 0 0),.v (.slice none 0 0),.v (.slice none 0 0)],.box 26 [.own 3 0 none,.own 4 0 none,.own 5 0 none],.row ⟨true,74,false⟩ 10 z5,.row ⟨false,86,false⟩ 2 z6,.row ⟨true,82,false⟩ 4 z7],6⟩
def Q16.r3 (n:Nat) (c:Q16.Z→Option (List AV × List AV × List AV)) (z1:Int) (z2 z3 z4 z5 z6 z7:List AV):Option (List AV × List AV × List AV):=
 let y1:Bool:=decide (z1 < ((z3.length:Nat):Int))
 bif y1 then (bif decide ((0:Int)≤z1)&&decide (z1 < ((z3.length:Nat):Int)) then (withCons ((z3.getD ((z1).toNat) .undef).cells) fun h2 r3=>
 withInt .i64 h2 fun x4=>
 bif decide ((0:Int)≤z1)&&decide (z1 < ((z3.length:Nat):Int)) then (withCons (((z3.getD ((z1).toNat) .undef).cells).drop 1) fun h5 r6=>
 withSl ⟨true,3,false⟩ 1 h5 fun xs7=>
 (Q05.F n xs7).bind fun p8=>
 let y9:List AV:=[AV.agg [vi x4,.sl ⟨true,3,false⟩ 1 p8]]
 bif decide (z6.length+y9.length≤most) then (c (.z3 (IntKind.i64.wrap (z1+1)) z2 z3 z4 z5 (z6++y9) z7)) else none) else none) else none) else (some (z5,z6,z7))
def Q16.r (n:Nat) (c:Q16.Z→Option (List AV × List AV × List AV)):Q16.Z→Option (List AV × List AV × List AV)
 | .z3 z1 z2 z3 z4 z5 z6 z7=>Q16.r3 n c z1 z2 z3 z4 z5 z6 z7
def Q16.e (n:Nat) (c:Q16.Z→Option (List AV × List AV × List AV)) (a0 a1 a2:List AV):Option (List AV × List AV × List AV):=
 bif decide (a0.length≤most) then (bif decide (a2.length≤most) then (c (.z3 0 a0 a1 a2 a0 [] a2)) else none) else none
def Q16.E (n:Nat) (c:Q16.Z→Option (List AV × List AV × List AV)):Q16.A→Option Q16.T:=fun (a0,a1,a2)=>Q16.e n c a0 a1 a2
def Q16.l (n:Nat):Nat→Q16.Z→Option (List AV × List AV × List AV):=loopL (Q16.r n)
def Q16.F (n:Nat) (a0 a1 a2:List AV):Option (List AV × List AV × List AV):=Q16.e n (Q16.l n n) a0 a1 a2
def Q16.FA (n:Nat):Q16.A→Option Q16.T:=Q16.E n (Q16.l n n)
theorem Q16.hands (n:Nat):∀ a p,Q16.FA n a=some p→HandsIn Tryz.prog 15 (Q16.i a) (Q16.p p):=
 pf_hands (C:=Q16.C n) (cut:=Q16.cut) (t:=Q16.t) (s:=Q16.s) (e:=Q16.E n) (r:=Q16.r n) (n:=n) cfg mixed globs rfl Q16.qi (Q16.tells n) Tryz.func15 (by kernel_rfl) (by kernel_rfl) (fun rec a=>by kernel_rfl) (fun rec z=>by cases z <;> kernel_rfl)
def Q16.via {R:Type} (n:Nat):List AV→(AV→Option R)→Option R:=viaK (Q16.FA n) Q16.o Q16.p
theorem Q16.tells1 {R:Type} (n:Nat) (xs:List AV):Tells1 (R:=R) Tryz.prog 15 xs (Q16.via n xs):=tells_via Q16.oi (fun a=>by kernel_rfl) (Q16.hands n) xs
end Go.Proofs.YtnoldakbllfmnaaGreatDoor.Ev
namespace Go.Proofs.YtnoldakbllfmnaaGreatDoor.Ev
open Go Go.Proofs Go.Proofs.Ev
set_option linter.unusedVariables false
set_option maxRecDepth 100000
abbrev Q0i.A:=Int × Int × Int
abbrev Q0i.T:=Bool
def Q0i.i:Q0i.A→List AV:=fun (a0,a1,a2)=>[vi a0,vi a1,vi a2]
def Q0i.o (xs:List AV):Option Q0i.A:=match xs with | [.v (.int .i64 a0),.v (.int .i64 a1),.v (.int .i64 a2)]=>some (a0,a1,a2) | _=>none
theorem Q0i.oi:∀ xs a,Q0i.o xs=some a→xs=Q0i.i a:=by
 intro xs a h
 unfold Q0i.o at h
 split at h
 ·cases h; rfl
 ·cases h
def Q0i.p (p:Q0i.T):AV:=vb p
def Q0i.q (x:AV):Option Q0i.T:=match x with | .v (.bool p0)=>some p0 | _=>none
theorem Q0i.qi:∀ x p,Q0i.q x=some p→x=Q0i.p p:=by
 intro x p h
 unfold Q0i.q at h
 split at h
 ·cases h; rfl
 ·cases h
def Q0i.C {R:Type} (n:Nat) (f:FuncId) (xs:List AV):(AV→Option R)→Option R:=
 fun _=>none
theorem Q0i.tells {R:Type} (n:Nat):Tells (R:=R) Tryz.prog (Q0i.C n):=fun _ xs=>Tells1.none
def Q0i.cut (r:Nat):Option Keep:=match r with  | _=>none
def Q0i.e (n:Nat) (a0 a1 a2:Int):Option Bool:=
 bif decide (a1≤a0) then (some (decide (a0≤a2))) else (some false)
def Q0i.E (n:Nat):Q0i.A→Option Q0i.T:=fun (a0,a1,a2)=>Q0i.e n a0 a1 a2
def Q0i.F (n:Nat) (a0 a1 a2:Int):Option Bool:=Q0i.e n a0 a1 a2
def Q0i.FA (n:Nat):Q0i.A→Option Q0i.T:=Q0i.E n
theorem Q0i.hands (n:Nat):∀ a p,Q0i.FA n a=some p→HandsIn Tryz.prog 27 (Q0i.i a) (Q0i.p p):=
 pf_hands (C:=Q0i.C n) (cut:=Q0i.cut) (Z:=Empty) (t:=nofun) (s:=nofun) (e:=fun _=>Q0i.E n) (r:=fun _ z=>nomatch z) (n:=n) cfg mixed globs rfl Q0i.qi (Q0i.tells n) Tryz.func27 (by kernel_rfl) (by kernel_rfl) (fun rec a=>by kernel_rfl) (fun rec z=>nomatch z)
def Q0i.via {R:Type} (n:Nat):List AV→(AV→Option R)→Option R:=viaK (Q0i.FA n) Q0i.o Q0i.p
theorem Q0i.tells1 {R:Type} (n:Nat) (xs:List AV):Tells1 (R:=R) Tryz.prog 27 xs (Q0i.via n xs):=tells_via Q0i.oi (fun a=>by kernel_rfl) (Q0i.hands n) xs
end Go.Proofs.YtnoldakbllfmnaaGreatDoor.Ev
namespace Go.Proofs.YtnoldakbllfmnaaGreatDoor.Ev
open Go Go.Proofs Go.Proofs.Ev
set_option linter.unusedVariables false
set_option maxRecDepth 100000
abbrev Q0y.A:=List AV × List AV × List AV × ByteArray
abbrev Q0y.T:=Int
def Q0y.i:Q0y.A→List AV:=fun (a0,a1,a2,a3)=>[AV.agg [.sl ⟨true,74,false⟩ 10 a0,.sl ⟨false,86,false⟩ 2 a1,.sl ⟨true,82,false⟩ 4 a2],vs a3]
def Q0y.o (xs:List AV):Option Q0y.A:=match xs with | [.agg [.sl ⟨true,74,false⟩ 10 a0,.sl ⟨false,86,false⟩ 2 a1,.sl ⟨true,82,false⟩ 4 a2],.v (.string a3)]=>some (a0,a1,a2,a3) | _=>none
theorem Q0y.oi:∀ xs a,Q0y.o xs=some a→xs=Q0y.i a:=by
 intro xs a h
 unfold Q0y.o at h
 split at h
 ·cases h; rfl
 ·cases h
def Q0y.p (p:Q0y.T):AV:=vi p
def Q0y.q (x:AV):Option Q0y.T:=match x with | .v (.int .i64 p0)=>some p0 | _=>none
theorem Q0y.qi:∀ x p,Q0y.q x=some p→x=Q0y.p p:=by
 intro x p h
 unfold Q0y.q at h
 split at h
 ·cases h; rfl
 ·cases h
inductive Q0y.Z where
 | z2 (z1:ByteArray) (z2:Int) (z3 z4 z5:List AV)
def Q0y.C {R:Type} (n:Nat) (f:FuncId) (xs:List AV):(AV→Option R)→Option R:=
 fun _=>none
theorem Q0y.tells {R:Type} (n:Nat):Tells (R:=R) Tryz.prog (Q0y.C n):=fun _ xs=>Tells1.none
def Q0y.cut (r:Nat):Option Keep:=match r with | 2=>some ⟨[1,2,5],[]⟩ | _=>none
def Q0y.t (z:Q0y.Z):List Item:=(todoOf (match z with | .z2 _ _ _ _ _=>2) 1000 [.code (Tryz.f26.body.getD .skip)]).getD []
def Q0y.s:Q0y.Z→St
 | .z2 z1 z2 z3 z4 z5=>⟨spr 22 0 [(1,vs z1),(2,.ptr 0 0),(5,vi z2)],Mem.ofList [.box 26 [.sl ⟨true,74,false⟩ 10 z3,.sl ⟨false,86,false⟩ 2 z4,.sl ⟨true,82,false⟩ 4 z5]],1⟩
def Q0y.r2 (n:Nat) (c:Q0y.Z→Option Int) (z1:ByteArray) (z2:Int) (z3 z4 z5:List AV):Option Int:=
 let y1:Bool:=decide (z2 < ((z3.length:Nat):Int))
 bif y1 then (bif decide ((0:Int)≤z2)&&decide (z2 < ((z3.length:Nat):Int)) then (withCons ((z3.getD ((z2).toNat) .undef).cells) fun h2 r3=>
 withStr h2 fun s4=>
 bif s4.toList==z1.toList then (some z2) else (c (.z2 z1 (IntKind.i64.wrap (z2+1)) z3 z4 z5))) else none) else (some (-1))
def Q0y.r (n:Nat) (c:Q0y.Z→Option Int):Q0y.Z→Option Int
 | .z2 z1 z2 z3 z4 z5=>Q0y.r2 n c z1 z2 z3 z4 z5
def Q0y.e (n:Nat) (c:Q0y.Z→Option Int) (a0 a1 a2:List AV) (a3:ByteArray):Option Int:=
 c (.z2 a3 0 a0 a1 a2)
def Q0y.E (n:Nat) (c:Q0y.Z→Option Int):Q0y.A→Option Q0y.T:=fun (a0,a1,a2,a3)=>Q0y.e n c a0 a1 a2 a3
def Q0y.l (n:Nat):Nat→Q0y.Z→Option Int:=loopL (Q0y.r n)
def Q0y.F (n:Nat) (a0 a1 a2:List AV) (a3:ByteArray):Option Int:=Q0y.e n (Q0y.l n n) a0 a1 a2 a3
def Q0y.FA (n:Nat):Q0y.A→Option Q0y.T:=Q0y.E n (Q0y.l n n)
theorem Q0y.hands (n:Nat):∀ a p,Q0y.FA n a=some p→HandsIn Tryz.prog 26 (Q0y.i a) (Q0y.p p):=
 pf_hands (C:=Q0y.C n) (cut:=Q0y.cut) (t:=Q0y.t) (s:=Q0y.s) (e:=Q0y.E n) (r:=Q0y.r n) (n:=n) cfg mixed globs rfl Q0y.qi (Q0y.tells n) Tryz.func26 (by kernel_rfl) (by kernel_rfl) (fun rec a=>by kernel_rfl) (fun rec z=>by cases z <;> kernel_rfl)
def Q0y.via {R:Type} (n:Nat):List AV→(AV→Option R)→Option R:=viaK (Q0y.FA n) Q0y.o Q0y.p
theorem Q0y.tells1 {R:Type} (n:Nat) (xs:List AV):Tells1 (R:=R) Tryz.prog 26 xs (Q0y.via n xs):=tells_via Q0y.oi (fun a=>by kernel_rfl) (Q0y.hands n) xs
end Go.Proofs.YtnoldakbllfmnaaGreatDoor.Ev
namespace Go.Proofs.YtnoldakbllfmnaaGreatDoor.Ev
open Go Go.Proofs Go.Proofs.Ev
set_option linter.unusedVariables false
set_option maxRecDepth 100000
abbrev Q06.A:=Bool
abbrev Q06.T:=Int
def Q06.i:Q06.A→List AV:=fun a0=>[vb a0]
def Q06.o (xs:List AV):Option Q06.A:=match xs with | [.v (.bool a0)]=>some a0 | _=>none
theorem Q06.oi:∀ xs a,Q06.o xs=some a→xs=Q06.i a:=by
 intro xs a h
 unfold Q06.o at h
 split at h
 ·cases h; rfl
 ·cases h
def Q06.p (p:Q06.T):AV:=vi p
def Q06.q (x:AV):Option Q06.T:=match x with | .v (.int .i64 p0)=>some p0 | _=>none
theorem Q06.qi:∀ x p,Q06.q x=some p→x=Q06.p p:=by
 intro x p h
 unfold Q06.q at h
 split at h
 ·cases h; rfl
 ·cases h
def Q06.C {R:Type} (n:Nat) (f:FuncId) (xs:List AV):(AV→Option R)→Option R:=
 fun _=>none
theorem Q06.tells {R:Type} (n:Nat):Tells (R:=R) Tryz.prog (Q06.C n):=fun _ xs=>Tells1.none
def Q06.cut (r:Nat):Option Keep:=match r with  | _=>none
def Q06.e (n:Nat) (a0:Bool):Option Int:=
 bif a0 then (some 1) else (some 0)
def Q06.E (n:Nat):Q06.A→Option Q06.T:=fun a0=>Q06.e n a0
def Q06.F (n:Nat) (a0:Bool):Option Int:=Q06.e n a0
def Q06.FA (n:Nat):Q06.A→Option Q06.T:=Q06.E n
theorem Q06.hands (n:Nat):∀ a p,Q06.FA n a=some p→HandsIn Tryz.prog 76 (Q06.i a) (Q06.p p):=
 pf_hands (C:=Q06.C n) (cut:=Q06.cut) (Z:=Empty) (t:=nofun) (s:=nofun) (e:=fun _=>Q06.E n) (r:=fun _ z=>nomatch z) (n:=n) cfg mixed globs rfl Q06.qi (Q06.tells n) Tryz.func76 (by kernel_rfl) (by kernel_rfl) (fun rec a=>by kernel_rfl) (fun rec z=>nomatch z)
def Q06.via {R:Type} (n:Nat):List AV→(AV→Option R)→Option R:=viaK (Q06.FA n) Q06.o Q06.p
theorem Q06.tells1 {R:Type} (n:Nat) (xs:List AV):Tells1 (R:=R) Tryz.prog 76 xs (Q06.via n xs):=tells_via Q06.oi (fun a=>by kernel_rfl) (Q06.hands n) xs
end Go.Proofs.YtnoldakbllfmnaaGreatDoor.Ev
namespace Go.Proofs.YtnoldakbllfmnaaGreatDoor.Ev
open Go Go.Proofs Go.Proofs.Ev
set_option linter.unusedVariables false
set_option maxRecDepth 100000
abbrev Q0h.A:=Int × Int × Int
abbrev Q0h.T:=Int
def Q0h.i:Q0h.A→List AV:=fun (a0,a1,a2)=>[AV.agg [vi a0,vi a1,vi a2]]
def Q0h.o (xs:List AV):Option Q0h.A:=match xs with | [.agg [.v (.int .i64 a0),.v (.int .i64 a1),.v (.int .i64 a2)]]=>some (a0,a1,a2) | _=>none
theorem Q0h.oi:∀ xs a,Q0h.o xs=some a→xs=Q0h.i a:=by
 intro xs a h
 unfold Q0h.o at h
 split at h
 ·cases h; rfl
 ·cases h
def Q0h.p (p:Q0h.T):AV:=vi p
def Q0h.q (x:AV):Option Q0h.T:=match x with | .v (.int .i64 p0)=>some p0 | _=>none
theorem Q0h.qi:∀ x p,Q0h.q x=some p→x=Q0h.p p:=by
 intro x p h
 unfold Q0h.q at h
 split at h
 ·cases h; rfl
 ·cases h
def Q0h.C {R:Type} (n:Nat) (f:FuncId) (xs:List AV):(AV→Option R)→Option R:=
 bif Nat.beq f 76 then Q06.via n xs else fun _=>none
theorem Q0h.tells {R:Type} (n:Nat):Tells (R:=R) Tryz.prog (Q0h.C n):=fun _ xs=>tells_at (Q06.tells1 n xs) (Tells1.none)
def Q0h.cut (r:Nat):Option Keep:=match r with  | _=>none
def Q0h.e (n:Nat) (a0 a1 a2:Int):Option Int:=
 bif a0==1 then (let y1:Int:=IntKind.i64.wrap (Int.tdiv a1 2)
 some (IntKind.i64.wrap (y1+1))) else (bif a0==3 then ((Q06.F n (a1==9)).bind fun p2=>
 let y3:Int:=IntKind.i64.wrap ((2:Int)*p2)
 let y4:Int:=IntKind.i64.wrap ((2:Int)+y3)
 some y4) else (bif a0==4 then (some 16) else (some a1)))
def Q0h.E (n:Nat):Q0h.A→Option Q0h.T:=fun (a0,a1,a2)=>Q0h.e n a0 a1 a2
def Q0h.F (n:Nat) (a0 a1 a2:Int):Option Int:=Q0h.e n a0 a1 a2
def Q0h.FA (n:Nat):Q0h.A→Option Q0h.T:=Q0h.E n
theorem Q0h.hands (n:Nat):∀ a p,Q0h.FA n a=some p→HandsIn Tryz.prog 35 (Q0h.i a) (Q0h.p p):=
 pf_hands (C:=Q0h.C n) (cut:=Q0h.cut) (Z:=Empty) (t:=nofun) (s:=nofun) (e:=fun _=>Q0h.E n) (r:=fun _ z=>nomatch z) (n:=n) cfg mixed globs rfl Q0h.qi (Q0h.tells n) Tryz.func35 (by kernel_rfl) (by kernel_rfl) (fun rec a=>by kernel_rfl) (fun rec z=>nomatch z)
def Q0h.via {R:Type} (n:Nat):List AV→(AV→Option R)→Option R:=viaK (Q0h.FA n) Q0h.o Q0h.p
theorem Q0h.tells1 {R:Type} (n:Nat) (xs:List AV):Tells1 (R:=R) Tryz.prog 35 xs (Q0h.via n xs):=tells_via Q0h.oi (fun a=>by kernel_rfl) (Q0h.hands n) xs
end Go.Proofs.YtnoldakbllfmnaaGreatDoor.Ev
namespace Go.Proofs.YtnoldakbllfmnaaGreatDoor.Ev
open Go Go.Proofs Go.Proofs.Ev
set_option linter.unusedVariables false
set_option maxRecDepth 100000
abbrev Q15.A:=List AV × List AV × List AV
abbrev Q15.T:=List AV × Int
def Q15.i:Q15.A→List AV:=fun (a0,a1,a2)=>[AV.agg [.sl ⟨true,74,false⟩ 10 a0,.sl ⟨false,86,false⟩ 2 a1,.sl ⟨true,82,false⟩ 4 a2]]
def Q15.o (xs:List AV):Option Q15.A:=match xs with | [.agg [.sl ⟨true,74,false⟩ 10 a0,.sl ⟨false,86,false⟩ 2 a1,.sl ⟨true,82,false⟩ 4 a2]]=>some (a0,a1,a2) | _=>none
theorem Q15.oi:∀ xs a,Q15.o xs=some a→xs=Q15.i a:=by
 intro xs a h
 unfold Q15.o at h
 split at h
 ·cases h; rfl
 ·cases h
def Q15.p (p:Q15.T):AV:=.tup [.fr ⟨true,3,false⟩ 1 p.1,vi p.2]
def Q15.q (x:AV):Option Q15.T:=match x with | .tup [.fr ⟨true,3,false⟩ 1 p0,.v (.int .i64 p1)]=>some (p0,p1) | _=>none
theorem Q15.qi:∀ x p,Q15.q x=some p→x=Q15.p p:=by
 intro x p h
 unfold Q15.q at h
 split at h
 ·cases h; rfl
 ·cases h
inductive Q15.Z where
 | z4 (z1 z2:Int) (z3 z4 z5 z6:List AV)
 | z11 (z1 z2:Int) (z3 z4 z5 z6:List AV)
 | z18 (z1 z2:Int) (z3 z4 z5 z6:List AV)
def Q15.C {R:Type} (n:Nat) (f:FuncId) (xs:List AV):(AV→Option R)→Option R:=
 bif Nat.beq f 26 then Q0y.via n xs else bif Nat.beq f 35 then Q0h.via n xs else fun _=>none
theorem Q15.tells {R:Type} (n:Nat):Tells (R:=R) Tryz.prog (Q15.C n):=fun _ xs=>tells_at (Q0y.tells1 n xs) (tells_at (Q0h.tells1 n xs) (Tells1.none))
def Q15.cut (r:Nat):Option Keep:=match r with | 4=>some ⟨[1,4,5,6],[]⟩ | 11=>some ⟨[1,4,5,7],[]⟩ | 18=>some ⟨[1,4,5,9],[]⟩ | _=>none
def Q15.t (z:Q15.Z):List Item:=(todoOf (match z with | .z4 _ _ _ _ _ _=>4 | .z11 _ _ _ _ _ _=>11 | .z18 _ _ _ _ _ _=>18) 1000 [.code (Tryz.f32.body.getD .skip)]).getD []
def Q15.s:Q15.Z→St
 | .z4 z1 z2 z3 z4 z5 z6=>⟨spr 95 0 [(1,.ptr 0 0),(4,.own 1 0 none),(5,vi z1),(6,vi z2)],Mem.ofList [.box 26 [.sl ⟨true,74,false⟩ 10 z3,.sl ⟨false,86,false⟩ 2 z4,.sl ⟨true,82,false⟩ 4 z5],.row ⟨true,3,false⟩ 1 z6],2⟩
 | .z11 z1 z2 z3 z4 z5 z6=>⟨spr 95 0 [(1,.ptr 0 0),(4,.own 1 0 none),(5,vi z1),(7,vi z2)],Mem.ofList [.box 26 [.sl ⟨true,74,false⟩ 10 z3,.sl ⟨false,86,false⟩ 2 z4,.sl ⟨true,82,false⟩ 4 z5],.row ⟨true,3,false⟩ 1 z6],2⟩
 | .z18 z1 z2 z3 z4 z5 z6=>⟨spr 95 0 [(1,.ptr 0 0),(4,.own 1 0 none),(5,vi z1),(9,vi z2)],Mem.ofList [.box 26 [.sl ⟨true,74,false⟩ 10 z3,.sl ⟨false,86,false⟩ 2 z4,.sl ⟨true,82,false⟩ 4 z5],.row ⟨true,3,false⟩ 1 z6],2⟩
def Q15.r4 (n:Nat) (c:Q15.Z→Option (List AV × Int)) (z1 z2:Int) (z3 z4 z5 z6:List AV):Option (List AV × Int):=
 let y2:Bool:=decide (z2 < ((z3.length:Nat):Int))
 bif y2 then (bif decide ((0:Int)≤z2)&&decide (z2 < ((z6.length:Nat):Int)) then (let y3:List AV:=z6.set ((z2).toNat) (vi (-1))
 bif decide ((0:Int)≤z2)&&decide (z2 < ((z3.length:Nat):Int)) then (withCons (((z3.getD ((z2).toNat) .undef).cells).drop 1) fun h4 r5=>
 withInt .i64 h4 fun x6=>
 bif x6==3 then (bif decide ((0:Int)≤z2)&&decide (z2 < ((y3.length:Nat):Int)) then (c (.z4 (IntKind.i64.wrap (z1+16)) (IntKind.i64.wrap (z2+1)) z3 z4 z5 (y3.set ((z2).toNat) (vi z1)))) else none) else (c (.z4 z1 (IntKind.i64.wrap (z2+1)) z3 z4 z5 y3))) else none) else none) else (c (.z11 z1 0 z3 z4 z5 z6))
def Q15.r11 (n:Nat) (c:Q15.Z→Option (List AV × Int)) (z1 z2:Int) (z3 z4 z5 z6:List AV):Option (List AV × Int):=
 let y7:Bool:=decide (z2 < ((z3.length:Nat):Int))
 bif y7 then (bif decide ((0:Int)≤z2)&&decide (z2 < ((z3.length:Nat):Int)) then (withCons ((z3.getD ((z2).toNat) .undef).cells) fun h8 r9=>
 withStr h8 fun s10=>
 withCons r9 fun h11 r12=>
 withInt .i64 h11 fun x13=>
 withCons r12 fun h14 r15=>
 withInt .i64 h14 fun x16=>
 withCons r15 fun h17 r18=>
 withInt .i64 h17 fun x19=>
 withCons r18 fun h20 r21=>
 withInt .i64 h20 fun x22=>
 withCons r21 fun h23 r24=>
 withInt .i64 h23 fun x25=>
 withCons r24 fun h26 r27=>
 withStr h26 fun s28=>
 withCons r27 fun h29 r30=>
 withStr h29 fun s31=>
 withCons r30 fun h32 r33=>
 withInt .i64 h32 fun x34=>
 withCons r33 fun h35 r36=>
 withInt .i64 h35 fun x37=>
 bif x13==0 then (bif decide ((0:Int)≤z2)&&decide (z2 < ((z6.length:Nat):Int)) then ((Q0h.F n x16 x19 x22).bind fun p38=>
 c (.z11 (IntKind.i64.wrap (z1+p38)) (IntKind.i64.wrap (z2+1)) z3 z4 z5 (z6.set ((z2).toNat) (vi z1)))) else none) else (c (.z11 z1 (IntKind.i64.wrap (z2+1)) z3 z4 z5 z6))) else none) else (c (.z18 z1 0 z3 z4 z5 z6))
def Q15.r18 (n:Nat) (c:Q15.Z→Option (List AV × Int)) (z1 z2:Int) (z3 z4 z5 z6:List AV):Option (List AV × Int):=
 let y39:Bool:=decide (z2 < ((z3.length:Nat):Int))
 bif y39 then (bif decide ((0:Int)≤z2)&&decide (z2 < ((z3.length:Nat):Int)) then (withCons ((z3.getD ((z2).toNat) .undef).cells) fun h40 r41=>
 withStr h40 fun s42=>
 withCons r41 fun h43 r44=>
 withInt .i64 h43 fun x45=>
 withCons r44 fun h46 r47=>
 withInt .i64 h46 fun x48=>
 withCons r47 fun h49 r50=>
 withInt .i64 h49 fun x51=>
 withCons r50 fun h52 r53=>
 withInt .i64 h52 fun x54=>
 withCons r53 fun h55 r56=>
 withInt .i64 h55 fun x57=>
 withCons r56 fun h58 r59=>
 withStr h58 fun s60=>
 withCons r59 fun h61 r62=>
 withStr h61 fun s63=>
 withCons r62 fun h64 r65=>
 withInt .i64 h64 fun x66=>
 withCons r65 fun h67 r68=>
 withInt .i64 h67 fun x69=>
 bif x45==1 then ((Q0y.F n z3 z4 z5 s63).bind fun p70=>
 bif decide ((0:Int)≤p70)&&decide (p70 < ((z6.length:Nat):Int)) then (withCons ((z6.getD ((p70).toNat) .undef).cells) fun h71 r72=>
 withInt .i64 h71 fun x73=>
 bif decide ((0:Int)≤z2)&&decide (z2 < ((z6.length:Nat):Int)) then (let y74:List AV:=z6.set ((z2).toNat) (vi (IntKind.i64.wrap (x73+x66)))
 c (.z18 z1 (IntKind.i64.wrap (z2+1)) z3 z4 z5 y74)) else none) else none) else (c (.z18 z1 (IntKind.i64.wrap (z2+1)) z3 z4 z5 z6))) else none) else (let y75:Int:=IntKind.i64.wrap ((IntKind.i64.wrap (z1+16)) - 1)
 let y76:Int:=IntKind.i64.wrap (Int.tdiv y75 16)
 some (z6,y76))
def Q15.r (n:Nat) (c:Q15.Z→Option (List AV × Int)):Q15.Z→Option (List AV × Int)
 | .z4 z1 z2 z3 z4 z5 z6=>Q15.r4 n c z1 z2 z3 z4 z5 z6
 | .z11 z1 z2 z3 z4 z5 z6=>Q15.r11 n c z1 z2 z3 z4 z5 z6
 | .z18 z1 z2 z3 z4 z5 z6=>Q15.r18 n c z1 z2 z3 z4 z5 z6
def Q15.e (n:Nat) (c:Q15.Z→Option (List AV × Int)) (a0 a1 a2:List AV):Option (List AV × Int):=
 bif (decide ((0:Int)≤((a0.length:Nat):Int))&&decide ((((a0.length:Nat):Int):Int)≤most))&&decide ((((a0.length:Nat):Int):Int)=((a0.length:Nat):Int))&&true&&true then (let y1:List AV:=List.replicate (((a0.length:Nat):Int)).toNat (vi 0)
 c (.z4 0 0 a0 a1 a2 y1)) else none
def Q15.E (n:Nat) (c:Q15.Z→Option (List AV × Int)):Q15.A→Option Q15.T:=fun (a0,a1,a2)=>Q15.e n c a0 a1 a2
def Q15.l (n:Nat):Nat→Q15.Z→Option (List AV × Int):=loopL (Q15.r n)
def Q15.F (n:Nat) (a0 a1 a2:List AV):Option (List AV × Int):=Q15.e n (Q15.l n n) a0 a1 a2
def Q15.FA (n:Nat):Q15.A→Option Q15.T:=Q15.E n (Q15.l n n)
theorem Q15.hands (n:Nat):∀ a p,Q15.FA n a=some p→HandsIn Tryz.prog 32 (Q15.i a) (Q15.p p):=
 pf_hands (C:=Q15.C n) (cut:=Q15.cut) (t:=Q15.t) (s:=Q15.s) (e:=Q15.E n) (r:=Q15.r n) (n:=n) cfg mixed globs rfl Q15.qi (Q15.tells n) Tryz.func32 (by kernel_rfl) (by kernel_rfl) (fun rec a=>by kernel_rfl) (fun rec z=>by cases z <;> kernel_rfl)
def Q15.via {R:Type} (n:Nat):List AV→(AV→Option R)→Option R:=viaK (Q15.FA n) Q15.o Q15.p
theorem Q15.tells1 {R:Type} (n:Nat) (xs:List AV):Tells1 (R:=R) Tryz.prog 32 xs (Q15.via n xs):=tells_via Q15.oi (fun a=>by kernel_rfl) (Q15.hands n) xs
end Go.Proofs.YtnoldakbllfmnaaGreatDoor.Ev
namespace Go.Proofs.YtnoldakbllfmnaaGreatDoor.Ev
open Go Go.Proofs Go.Proofs.Ev
set_option linter.unusedVariables false
set_option maxRecDepth 100000
abbrev Q0c.A:=Int
abbrev Q0c.T:=Bool
def Q0c.i:Q0c.A→List AV:=fun a0=>[vu a0]
def Q0c.o (xs:List AV):Option Q0c.A:=match xs with | [.v (.int .u8 a0)]=>some a0 | _=>none
theorem Q0c.oi:∀ xs a,Q0c.o xs=some a→xs=Q0c.i a:=by
 intro xs a h
 unfold Q0c.o at h
 split at h
 ·cases h; rfl
 ·cases h
def Q0c.p (p:Q0c.T):AV:=vb p
def Q0c.q (x:AV):Option Q0c.T:=match x with | .v (.bool p0)=>some p0 | _=>none
theorem Q0c.qi:∀ x p,Q0c.q x=some p→x=Q0c.p p:=by
 intro x p h
 unfold Q0c.q at h
 split at h
 ·cases h; rfl
 ·cases h
def Q0c.C {R:Type} (n:Nat) (f:FuncId) (xs:List AV):(AV→Option R)→Option R:=
 fun _=>none
theorem Q0c.tells {R:Type} (n:Nat):Tells (R:=R) Tryz.prog (Q0c.C n):=fun _ xs=>Tells1.none
def Q0c.cut (r:Nat):Option Keep:=match r with  | _=>none
def Q0c.e (n:Nat) (a0:Int):Option Bool:=
 bif decide ((65:Int)≤a0) then (some (decide (a0≤90))) else (some false)
def Q0c.E (n:Nat):Q0c.A→Option Q0c.T:=fun a0=>Q0c.e n a0
def Q0c.F (n:Nat) (a0:Int):Option Bool:=Q0c.e n a0
def Q0c.FA (n:Nat):Q0c.A→Option Q0c.T:=Q0c.E n
theorem Q0c.hands (n:Nat):∀ a p,Q0c.FA n a=some p→HandsIn Tryz.prog 138 (Q0c.i a) (Q0c.p p):=
 pf_hands (C:=Q0c.C n) (cut:=Q0c.cut) (Z:=Empty) (t:=nofun) (s:=nofun) (e:=fun _=>Q0c.E n) (r:=fun _ z=>nomatch z) (n:=n) cfg mixed globs rfl Q0c.qi (Q0c.tells n) Tryz.func138 (by kernel_rfl) (by kernel_rfl) (fun rec a=>by kernel_rfl) (fun rec z=>nomatch z)
def Q0c.via {R:Type} (n:Nat):List AV→(AV→Option R)→Option R:=viaK (Q0c.FA n) Q0c.o Q0c.p
theorem Q0c.tells1 {R:Type} (n:Nat) (xs:List AV):Tells1 (R:=R) Tryz.prog 138 xs (Q0c.via n xs):=tells_via Q0c.oi (fun a=>by kernel_rfl) (Q0c.hands n) xs
end Go.Proofs.YtnoldakbllfmnaaGreatDoor.Ev
namespace Go.Proofs.YtnoldakbllfmnaaGreatDoor.Ev
open Go Go.Proofs Go.Proofs.Ev
set_option linter.unusedVariables false
set_option maxRecDepth 100000
abbrev Q0a.A:=Int
abbrev Q0a.T:=Bool
def Q0a.i:Q0a.A→List AV:=fun a0=>[vu a0]
def Q0a.o (xs:List AV):Option Q0a.A:=match xs with | [.v (.int .u8 a0)]=>some a0 | _=>none
theorem Q0a.oi:∀ xs a,Q0a.o xs=some a→xs=Q0a.i a:=by
 intro xs a h
 unfold Q0a.o at h
 split at h
 ·cases h; rfl
 ·cases h
def Q0a.p (p:Q0a.T):AV:=vb p
def Q0a.q (x:AV):Option Q0a.T:=match x with | .v (.bool p0)=>some p0 | _=>none
theorem Q0a.qi:∀ x p,Q0a.q x=some p→x=Q0a.p p:=by
 intro x p h
 unfold Q0a.q at h
 split at h
 ·cases h; rfl
 ·cases h
def Q0a.C {R:Type} (n:Nat) (f:FuncId) (xs:List AV):(AV→Option R)→Option R:=
 fun _=>none
theorem Q0a.tells {R:Type} (n:Nat):Tells (R:=R) Tryz.prog (Q0a.C n):=fun _ xs=>Tells1.none
def Q0a.cut (r:Nat):Option Keep:=match r with  | _=>none
def Q0a.e (n:Nat) (a0:Int):Option Bool:=
 bif decide ((48:Int)≤a0) then (some (decide (a0≤57))) else (some false)
def Q0a.E (n:Nat):Q0a.A→Option Q0a.T:=fun a0=>Q0a.e n a0
def Q0a.F (n:Nat) (a0:Int):Option Bool:=Q0a.e n a0
def Q0a.FA (n:Nat):Q0a.A→Option Q0a.T:=Q0a.E n
theorem Q0a.hands (n:Nat):∀ a p,Q0a.FA n a=some p→HandsIn Tryz.prog 139 (Q0a.i a) (Q0a.p p):=
 pf_hands (C:=Q0a.C n) (cut:=Q0a.cut) (Z:=Empty) (t:=nofun) (s:=nofun) (e:=fun _=>Q0a.E n) (r:=fun _ z=>nomatch z) (n:=n) cfg mixed globs rfl Q0a.qi (Q0a.tells n) Tryz.func139 (by kernel_rfl) (by kernel_rfl) (fun rec a=>by kernel_rfl) (fun rec z=>nomatch z)
def Q0a.via {R:Type} (n:Nat):List AV→(AV→Option R)→Option R:=viaK (Q0a.FA n) Q0a.o Q0a.p
theorem Q0a.tells1 {R:Type} (n:Nat) (xs:List AV):Tells1 (R:=R) Tryz.prog 139 xs (Q0a.via n xs):=tells_via Q0a.oi (fun a=>by kernel_rfl) (Q0a.hands n) xs
end Go.Proofs.YtnoldakbllfmnaaGreatDoor.Ev
namespace Go.Proofs.YtnoldakbllfmnaaGreatDoor.Ev
open Go Go.Proofs Go.Proofs.Ev
set_option linter.unusedVariables false
set_option maxRecDepth 100000
abbrev Q0b.A:=ByteArray
abbrev Q0b.T:=Bool
def Q0b.i:Q0b.A→List AV:=fun a0=>[vs a0]
def Q0b.o (xs:List AV):Option Q0b.A:=match xs with | [.v (.string a0)]=>some a0 | _=>none
theorem Q0b.oi:∀ xs a,Q0b.o xs=some a→xs=Q0b.i a:=by
 intro xs a h
 unfold Q0b.o at h
 split at h
 ·cases h; rfl
 ·cases h
def Q0b.p (p:Q0b.T):AV:=vb p
def Q0b.q (x:AV):Option Q0b.T:=match x with | .v (.bool p0)=>some p0 | _=>none
theorem Q0b.qi:∀ x p,Q0b.q x=some p→x=Q0b.p p:=by
 intro x p h
 unfold Q0b.q at h
 split at h
 ·cases h; rfl
 ·cases h
inductive Q0b.Z where
 | z4 (z1:ByteArray) (z2:Int)
 | z5 (z1:ByteArray) (z2:Int)
 | z8 (z1:ByteArray) (z2 z3:Int) (z4:Bool)
def Q0b.C {R:Type} (n:Nat) (f:FuncId) (xs:List AV):(AV→Option R)→Option R:=
 bif Nat.beq f 27 then Q0i.via n xs else bif Nat.beq f 138 then Q0c.via n xs else bif Nat.beq f 139 then Q0a.via n xs else fun _=>none
theorem Q0b.tells {R:Type} (n:Nat):Tells (R:=R) Tryz.prog (Q0b.C n):=fun _ xs=>tells_at (Q0i.tells1 n xs) (tells_at (Q0c.tells1 n xs) (tells_at (Q0a.tells1 n xs) (Tells1.none)))
def Q0b.cut (r:Nat):Option Keep:=match r with | 4=>some ⟨[0,3],[]⟩ | 5=>some ⟨[0,3],[]⟩ | 8=>some ⟨[0,3,4,5],[]⟩ | _=>none
def Q0b.t (z:Q0b.Z):List Item:=(todoOf (match z with | .z4 _ _=>4 | .z5 _ _=>5 | .z8 _ _ _ _=>8) 1000 [.code (Tryz.f87.body.getD .skip)]).getD []
def Q0b.s:Q0b.Z→St
 | .z4 z1 z2=>⟨spr 52 0 [(0,vs z1),(3,vi z2)],Mem.ofList [],0⟩
 | .z5 z1 z2=>⟨spr 52 0 [(0,vs z1),(3,vi z2)],Mem.ofList [],0⟩
 | .z8 z1 z2 z3 z4=>⟨spr 52 0 [(0,vs z1),(3,vi z2),(4,vu z3),(5,vb z4)],Mem.ofList [],0⟩
def Q0b.r4 (n:Nat) (c:Q0b.Z→Option Bool) (z1:ByteArray) (z2:Int):Option Bool:=
 let y2:Bool:=decide (z2 < ((z1.size:Nat):Int))
 bif y2 then (bif decide ((0:Int)≤z2)&&decide (z2 < ((z1.size:Nat):Int)) then (let y3:Int:=(((z1.data.getD ((z2).toNat) 0).toNat:Nat):Int)
 (Q0c.F n y3).bind fun p4=>
 bif p4 then (c (.z8 z1 z2 y3 true)) else (bif y3==36 then (c (.z8 z1 z2 y3 true)) else (bif y3==35 then (c (.z8 z1 z2 y3 true)) else (c (.z8 z1 z2 y3 (y3==64)))))) else none) else (some true)
def Q0b.r5 (n:Nat) (c:Q0b.Z→Option Bool) (z1:ByteArray) (z2:Int):Option Bool:=
 c (.z4 z1 (IntKind.i64.wrap (z2+1)))
def Q0b.r8 (n:Nat) (c:Q0b.Z→Option Bool) (z1:ByteArray) (z2 z3:Int) (z4:Bool):Option Bool:=
 bif !z4 then (bif z2==0 then (some false) else ((Q0a.F n z3).bind fun p5=>
 bif !p5 then (bif z3 != 95 then (bif z3 != 46 then (some false) else (c (.z5 z1 z2))) else (c (.z5 z1 z2))) else (c (.z5 z1 z2)))) else (c (.z5 z1 z2))
def Q0b.r (n:Nat) (c:Q0b.Z→Option Bool):Q0b.Z→Option Bool
 | .z4 z1 z2=>Q0b.r4 n c z1 z2
 | .z5 z1 z2=>Q0b.r5 n c z1 z2
 | .z8 z1 z2 z3 z4=>Q0b.r8 n c z1 z2 z3 z4
def Q0b.e (n:Nat) (c:Q0b.Z→Option Bool) (a0:ByteArray):Option Bool:=
 (Q0i.F n ((a0.size:Nat):Int) 1 10).bind fun p1=>
 bif !p1 then (some false) else (c (.z4 a0 0))
def Q0b.E (n:Nat) (c:Q0b.Z→Option Bool):Q0b.A→Option Q0b.T:=fun a0=>Q0b.e n c a0
def Q0b.l (n:Nat):Nat→Q0b.Z→Option Bool:=loopL (Q0b.r n)
def Q0b.F (n:Nat) (a0:ByteArray):Option Bool:=Q0b.e n (Q0b.l n n) a0
def Q0b.FA (n:Nat):Q0b.A→Option Q0b.T:=Q0b.E n (Q0b.l n n)
theorem Q0b.hands (n:Nat):∀ a p,Q0b.FA n a=some p→HandsIn Tryz.prog 87 (Q0b.i a) (Q0b.p p):=
 pf_hands (C:=Q0b.C n) (cut:=Q0b.cut) (t:=Q0b.t) (s:=Q0b.s) (e:=Q0b.E n) (r:=Q0b.r n) (n:=n) cfg mixed globs rfl Q0b.qi (Q0b.tells n) Tryz.func87 (by kernel_rfl) (by kernel_rfl) (fun rec a=>by kernel_rfl) (fun rec z=>by cases z <;> kernel_rfl)
def Q0b.via {R:Type} (n:Nat):List AV→(AV→Option R)→Option R:=viaK (Q0b.FA n) Q0b.o Q0b.p
theorem Q0b.tells1 {R:Type} (n:Nat) (xs:List AV):Tells1 (R:=R) Tryz.prog 87 xs (Q0b.via n xs):=tells_via Q0b.oi (fun a=>by kernel_rfl) (Q0b.hands n) xs
end Go.Proofs.YtnoldakbllfmnaaGreatDoor.Ev
namespace Go.Proofs.YtnoldakbllfmnaaGreatDoor.Ev
open Go Go.Proofs Go.Proofs.Ev
set_option linter.unusedVariables false
set_option maxRecDepth 100000
abbrev Q19.A:=ByteArray × Int × Int × Int × Int × Int × ByteArray × ByteArray × Int × Int
abbrev Q19.T:=Bool
def Q19.i:Q19.A→List AV:=fun (a0,a1,a2,a3,a4,a5,a6,a7,a8,a9)=>[AV.agg [vs a0,vi a1,vi a2,vi a3,vi a4,vi a5,vs a6,vs a7,vi a8,vi a9]]
def Q19.o (xs:List AV):Option Q19.A:=match xs with | [.agg [.v (.string a0),.v (.int .i64 a1),.v (.int .i64 a2),.v (.int .i64 a3),.v (.int .i64 a4),.v (.int .i64 a5),.v (.string a6),.v (.string a7),.v (.int .i64 a8),.v (.int .i64 a9)]]=>some (a0,a1,a2,a3,a4,a5,a6,a7,a8,a9) | _=>none
theorem Q19.oi:∀ xs a,Q19.o xs=some a→xs=Q19.i a:=by
 intro xs a h
 unfold Q19.o at h
 split at h
 ·cases h; rfl
 ·cases h
def Q19.p (p:Q19.T):AV:=vb p
def Q19.q (x:AV):Option Q19.T:=match x with | .v (.bool p0)=>some p0 | _=>none
theorem Q19.qi:∀ x p,Q19.q x=some p→x=Q19.p p:=by
 intro x p h
 unfold Q19.q at h
 split at h
 ·cases h; rfl
 ·cases h
inductive Q19.Z where
 | z5 (z1:Bool) (z2:ByteArray) (z3 z4 z5 z6 z7:Int) (z8 z9:ByteArray) (z10 z11:Int)
 | z8 (z1:Bool) (z2:ByteArray) (z3 z4 z5 z6 z7:Int) (z8 z9:ByteArray) (z10 z11:Int)
def Q19.C {R:Type} (n:Nat) (f:FuncId) (xs:List AV):(AV→Option R)→Option R:=
 fun _=>none
theorem Q19.tells {R:Type} (n:Nat):Tells (R:=R) Tryz.prog (Q19.C n):=fun _ xs=>Tells1.none
def Q19.cut (r:Nat):Option Keep:=match r with | 5=>some ⟨[1,4],[]⟩ | 8=>some ⟨[1,3],[]⟩ | _=>none
def Q19.t (z:Q19.Z):List Item:=(todoOf (match z with | .z5 _ _ _ _ _ _ _ _ _ _ _=>5 | .z8 _ _ _ _ _ _ _ _ _ _ _=>8) 1000 [.code (Tryz.f88.body.getD .skip)]).getD []
def Q19.s:Q19.Z→St
 | .z5 z1 z2 z3 z4 z5 z6 z7 z8 z9 z10 z11=>⟨spr 70 0 [(1,.ptr 0 0),(4,vb z1)],Mem.ofList [.box 74 [vs z2,vi z3,vi z4,vi z5,vi z6,vi z7,vs z8,vs z9,vi z10,vi z11]],1⟩
 | .z8 z1 z2 z3 z4 z5 z6 z7 z8 z9 z10 z11=>⟨spr 70 0 [(1,.ptr 0 0),(3,vb z1)],Mem.ofList [.box 74 [vs z2,vi z3,vi z4,vi z5,vi z6,vi z7,vs z8,vs z9,vi z10,vi z11]],1⟩
def Q19.r5 (n:Nat) (c:Q19.Z→Option Bool) (z1:Bool) (z2:ByteArray) (z3 z4 z5 z6 z7:Int) (z8 z9:ByteArray) (z10 z11:Int):Option Bool:=
 bif !z1 then (some true) else (some (z11 != 0))
def Q19.r8 (n:Nat) (c:Q19.Z→Option Bool) (z1:Bool) (z2:ByteArray) (z3 z4 z5 z6 z7:Int) (z8 z9:ByteArray) (z10 z11:Int):Option Bool:=
 bif !z1 then (some true) else (some (z11 != 0))
def Q19.r (n:Nat) (c:Q19.Z→Option Bool):Q19.Z→Option Bool
 | .z5 z1 z2 z3 z4 z5 z6 z7 z8 z9 z10 z11=>Q19.r5 n c z1 z2 z3 z4 z5 z6 z7 z8 z9 z10 z11
 | .z8 z1 z2 z3 z4 z5 z6 z7 z8 z9 z10 z11=>Q19.r8 n c z1 z2 z3 z4 z5 z6 z7 z8 z9 z10 z11
def Q19.e (n:Nat) (c:Q19.Z→Option Bool) (a0:ByteArray) (a1 a2 a3 a4 a5:Int) (a6 a7:ByteArray) (a8 a9:Int):Option Bool:=
 let y1:Bool:=((a5==0)&&((a6==(⟨#[]⟩ : ByteArray))&&true))
 let y2:Bool:=a7.toList==(⟨#[]⟩ : ByteArray).toList
 bif y2 then (bif a1==0 then (c (.z5 (a8==0) a0 a1 a2 a3 a4 a5 a6 a7 a8 a9)) else (bif a1==4 then (c (.z5 (a8==0) a0 a1 a2 a3 a4 a5 a6 a7 a8 a9)) else (bif a1==1 then (c (.z8 y1 a0 a1 a2 a3 a4 a5 a6 a7 a8 a9)) else (bif a1==2 then (c (.z8 y1 a0 a1 a2 a3 a4 a5 a6 a7 a8 a9)) else (bif a1==3 then (let y3:Bool:=!((a2==0)&&((a3==0)&&((a4==0)&&true)))
 bif y3 then (some true) else (bif !y1 then (some true) else (bif !(a8==0) then (some true) else (some (a9 != 0))))) else (let y4:Bool:=!((a2==0)&&((a3==0)&&((a4==0)&&true)))
 bif y4 then (some true) else (bif !y1 then (some true) else (some (!(a8==0)))))))))) else (bif a1==0 then (c (.z5 false a0 a1 a2 a3 a4 a5 a6 a7 a8 a9)) else (bif a1==4 then (c (.z5 false a0 a1 a2 a3 a4 a5 a6 a7 a8 a9)) else (bif a1==1 then (c (.z8 y1 a0 a1 a2 a3 a4 a5 a6 a7 a8 a9)) else (bif a1==2 then (c (.z8 y1 a0 a1 a2 a3 a4 a5 a6 a7 a8 a9)) else (bif a1==3 then (let y5:Bool:=!((a2==0)&&((a3==0)&&((a4==0)&&true)))
 bif y5 then (some true) else (bif !y1 then (some true) else (some true))) else (let y6:Bool:=!((a2==0)&&((a3==0)&&((a4==0)&&true)))
 bif y6 then (some true) else (bif !y1 then (some true) else (some true))))))))
def Q19.E (n:Nat) (c:Q19.Z→Option Bool):Q19.A→Option Q19.T:=fun (a0,a1,a2,a3,a4,a5,a6,a7,a8,a9)=>Q19.e n c a0 a1 a2 a3 a4 a5 a6 a7 a8 a9
def Q19.l (n:Nat):Nat→Q19.Z→Option Bool:=loopL (Q19.r n)
def Q19.F (n:Nat) (a0:ByteArray) (a1 a2 a3 a4 a5:Int) (a6 a7:ByteArray) (a8 a9:Int):Option Bool:=Q19.e n (Q19.l n n) a0 a1 a2 a3 a4 a5 a6 a7 a8 a9
def Q19.FA (n:Nat):Q19.A→Option Q19.T:=Q19.E n (Q19.l n n)
theorem Q19.hands (n:Nat):∀ a p,Q19.FA n a=some p→HandsIn Tryz.prog 88 (Q19.i a) (Q19.p p):=
 pf_hands (C:=Q19.C n) (cut:=Q19.cut) (t:=Q19.t) (s:=Q19.s) (e:=Q19.E n) (r:=Q19.r n) (n:=n) cfg mixed globs rfl Q19.qi (Q19.tells n) Tryz.func88 (by kernel_rfl) (by kernel_rfl) (fun rec a=>by kernel_rfl) (fun rec z=>by cases z <;> kernel_rfl)
def Q19.via {R:Type} (n:Nat):List AV→(AV→Option R)→Option R:=viaK (Q19.FA n) Q19.o Q19.p
theorem Q19.tells1 {R:Type} (n:Nat) (xs:List AV):Tells1 (R:=R) Tryz.prog 88 xs (Q19.via n xs):=tells_via Q19.oi (fun a=>by kernel_rfl) (Q19.hands n) xs
end Go.Proofs.YtnoldakbllfmnaaGreatDoor.Ev
namespace Go.Proofs.YtnoldakbllfmnaaGreatDoor.Ev
open Go Go.Proofs Go.Proofs.Ev
set_option linter.unusedVariables false
set_option maxRecDepth 100000
abbrev Q14.A:=Int
abbrev Q14.T:=Bool
def Q14.i:Q14.A→List AV:=fun a0=>[vi a0]
def Q14.o (xs:List AV):Option Q14.A:=match xs with | [.v (.int .i64 a0)]=>some a0 | _=>none
theorem Q14.oi:∀ xs a,Q14.o xs=some a→xs=Q14.i a:=by
 intro xs a h
 unfold Q14.o at h
 split at h
 ·cases h; rfl
 ·cases h
def Q14.p (p:Q14.T):AV:=vb p
def Q14.q (x:AV):Option Q14.T:=match x with | .v (.bool p0)=>some p0 | _=>none
theorem Q14.qi:∀ x p,Q14.q x=some p→x=Q14.p p:=by
 intro x p h
 unfold Q14.q at h
 split at h
 ·cases h; rfl
 ·cases h
def Q14.C {R:Type} (n:Nat) (f:FuncId) (xs:List AV):(AV→Option R)→Option R:=
 fun _=>none
theorem Q14.tells {R:Type} (n:Nat):Tells (R:=R) Tryz.prog (Q14.C n):=fun _ xs=>Tells1.none
def Q14.cut (r:Nat):Option Keep:=match r with  | _=>none
def Q14.e (n:Nat) (a0:Int):Option Bool:=
 bif a0==0 then (some true) else (bif a0==1 then (some true) else (some (a0==2)))
def Q14.E (n:Nat):Q14.A→Option Q14.T:=fun a0=>Q14.e n a0
def Q14.F (n:Nat) (a0:Int):Option Bool:=Q14.e n a0
def Q14.FA (n:Nat):Q14.A→Option Q14.T:=Q14.E n
theorem Q14.hands (n:Nat):∀ a p,Q14.FA n a=some p→HandsIn Tryz.prog 93 (Q14.i a) (Q14.p p):=
 pf_hands (C:=Q14.C n) (cut:=Q14.cut) (Z:=Empty) (t:=nofun) (s:=nofun) (e:=fun _=>Q14.E n) (r:=fun _ z=>nomatch z) (n:=n) cfg mixed globs rfl Q14.qi (Q14.tells n) Tryz.func93 (by kernel_rfl) (by kernel_rfl) (fun rec a=>by kernel_rfl) (fun rec z=>nomatch z)
def Q14.via {R:Type} (n:Nat):List AV→(AV→Option R)→Option R:=viaK (Q14.FA n) Q14.o Q14.p
theorem Q14.tells1 {R:Type} (n:Nat) (xs:List AV):Tells1 (R:=R) Tryz.prog 93 xs (Q14.via n xs):=tells_via Q14.oi (fun a=>by kernel_rfl) (Q14.hands n) xs
end Go.Proofs.YtnoldakbllfmnaaGreatDoor.Ev
namespace Go.Proofs.YtnoldakbllfmnaaGreatDoor.Ev
open Go Go.Proofs Go.Proofs.Ev
set_option linter.unusedVariables false
set_option maxRecDepth 100000
abbrev Q13.A:=Int
abbrev Q13.T:=Bool
def Q13.i:Q13.A→List AV:=fun a0=>[vi a0]
def Q13.o (xs:List AV):Option Q13.A:=match xs with | [.v (.int .i64 a0)]=>some a0 | _=>none
theorem Q13.oi:∀ xs a,Q13.o xs=some a→xs=Q13.i a:=by
 intro xs a h
 unfold Q13.o at h
 split at h
 ·cases h; rfl
 ·cases h
def Q13.p (p:Q13.T):AV:=vb p
def Q13.q (x:AV):Option Q13.T:=match x with | .v (.bool p0)=>some p0 | _=>none
theorem Q13.qi:∀ x p,Q13.q x=some p→x=Q13.p p:=by
 intro x p h
 unfold Q13.q at h
 split at h
 ·cases h; rfl
 ·cases h
def Q13.C {R:Type} (n:Nat) (f:FuncId) (xs:List AV):(AV→Option R)→Option R:=
 bif Nat.beq f 93 then Q14.via n xs else fun _=>none
theorem Q13.tells {R:Type} (n:Nat):Tells (R:=R) Tryz.prog (Q13.C n):=fun _ xs=>tells_at (Q14.tells1 n xs) (Tells1.none)
def Q13.cut (r:Nat):Option Keep:=match r with  | _=>none
def Q13.e (n:Nat) (a0:Int):Option Bool:=
 (Q14.F n a0).bind fun p1=>
 bif p1 then (some true) else (some (a0==4))
def Q13.E (n:Nat):Q13.A→Option Q13.T:=fun a0=>Q13.e n a0
def Q13.F (n:Nat) (a0:Int):Option Bool:=Q13.e n a0
def Q13.FA (n:Nat):Q13.A→Option Q13.T:=Q13.E n
theorem Q13.hands (n:Nat):∀ a p,Q13.FA n a=some p→HandsIn Tryz.prog 89 (Q13.i a) (Q13.p p):=
 pf_hands (C:=Q13.C n) (cut:=Q13.cut) (Z:=Empty) (t:=nofun) (s:=nofun) (e:=fun _=>Q13.E n) (r:=fun _ z=>nomatch z) (n:=n) cfg mixed globs rfl Q13.qi (Q13.tells n) Tryz.func89 (by kernel_rfl) (by kernel_rfl) (fun rec a=>by kernel_rfl) (fun rec z=>nomatch z)
def Q13.via {R:Type} (n:Nat):List AV→(AV→Option R)→Option R:=viaK (Q13.FA n) Q13.o Q13.p
theorem Q13.tells1 {R:Type} (n:Nat) (xs:List AV):Tells1 (R:=R) Tryz.prog 89 xs (Q13.via n xs):=tells_via Q13.oi (fun a=>by kernel_rfl) (Q13.hands n) xs
end Go.Proofs.YtnoldakbllfmnaaGreatDoor.Ev
namespace Go.Proofs.YtnoldakbllfmnaaGreatDoor.Ev
open Go Go.Proofs Go.Proofs.Ev
set_option linter.unusedVariables false
set_option maxRecDepth 100000
abbrev Q0s.A:=Int
abbrev Q0s.T:=Bool
def Q0s.i:Q0s.A→List AV:=fun a0=>[vi a0]
def Q0s.o (xs:List AV):Option Q0s.A:=match xs with | [.v (.int .i64 a0)]=>some a0 | _=>none
theorem Q0s.oi:∀ xs a,Q0s.o xs=some a→xs=Q0s.i a:=by
 intro xs a h
 unfold Q0s.o at h
 split at h
 ·cases h; rfl
 ·cases h
def Q0s.p (p:Q0s.T):AV:=vb p
def Q0s.q (x:AV):Option Q0s.T:=match x with | .v (.bool p0)=>some p0 | _=>none
theorem Q0s.qi:∀ x p,Q0s.q x=some p→x=Q0s.p p:=by
 intro x p h
 unfold Q0s.q at h
 split at h
 ·cases h; rfl
 ·cases h
def Q0s.C {R:Type} (n:Nat) (f:FuncId) (xs:List AV):(AV→Option R)→Option R:=
 bif Nat.beq f 27 then Q0i.via n xs else fun _=>none
theorem Q0s.tells {R:Type} (n:Nat):Tells (R:=R) Tryz.prog (Q0s.C n):=fun _ xs=>tells_at (Q0i.tells1 n xs) (Tells1.none)
def Q0s.cut (r:Nat):Option Keep:=match r with  | _=>none
def Q0s.e (n:Nat) (a0:Int):Option Bool:=
 (Q0i.F n a0 1 3).bind fun p1=>
 some p1
def Q0s.E (n:Nat):Q0s.A→Option Q0s.T:=fun a0=>Q0s.e n a0
def Q0s.F (n:Nat) (a0:Int):Option Bool:=Q0s.e n a0
def Q0s.FA (n:Nat):Q0s.A→Option Q0s.T:=Q0s.E n
theorem Q0s.hands (n:Nat):∀ a p,Q0s.FA n a=some p→HandsIn Tryz.prog 140 (Q0s.i a) (Q0s.p p):=
 pf_hands (C:=Q0s.C n) (cut:=Q0s.cut) (Z:=Empty) (t:=nofun) (s:=nofun) (e:=fun _=>Q0s.E n) (r:=fun _ z=>nomatch z) (n:=n) cfg mixed globs rfl Q0s.qi (Q0s.tells n) Tryz.func140 (by kernel_rfl) (by kernel_rfl) (fun rec a=>by kernel_rfl) (fun rec z=>nomatch z)
def Q0s.via {R:Type} (n:Nat):List AV→(AV→Option R)→Option R:=viaK (Q0s.FA n) Q0s.o Q0s.p
theorem Q0s.tells1 {R:Type} (n:Nat) (xs:List AV):Tells1 (R:=R) Tryz.prog 140 xs (Q0s.via n xs):=tells_via Q0s.oi (fun a=>by kernel_rfl) (Q0s.hands n) xs
end Go.Proofs.YtnoldakbllfmnaaGreatDoor.Ev
namespace Go.Proofs.YtnoldakbllfmnaaGreatDoor.Ev
open Go Go.Proofs Go.Proofs.Ev
set_option linter.unusedVariables false
set_option maxRecDepth 100000
abbrev Q0v.A:=Int × Int × Int
abbrev Q0v.T:=Int
def Q0v.i:Q0v.A→List AV:=fun (a0,a1,a2)=>[AV.agg [vi a0,vi a1,vi a2]]
def Q0v.o (xs:List AV):Option Q0v.A:=match xs with | [.agg [.v (.int .i64 a0),.v (.int .i64 a1),.v (.int .i64 a2)]]=>some (a0,a1,a2) | _=>none
theorem Q0v.oi:∀ xs a,Q0v.o xs=some a→xs=Q0v.i a:=by
 intro xs a h
 unfold Q0v.o at h
 split at h
 ·cases h; rfl
 ·cases h
def Q0v.p (p:Q0v.T):AV:=vi p
def Q0v.q (x:AV):Option Q0v.T:=match x with | .v (.int .i64 p0)=>some p0 | _=>none
theorem Q0v.qi:∀ x p,Q0v.q x=some p→x=Q0v.p p:=by
 intro x p h
 unfold Q0v.q at h
 split at h
 ·cases h; rfl
 ·cases h
inductive Q0v.Z where
 | z12 (z1:Bool) (z2 z3 z4:Int)
def Q0v.C {R:Type} (n:Nat) (f:FuncId) (xs:List AV):(AV→Option R)→Option R:=
 bif Nat.beq f 27 then Q0i.via n xs else bif Nat.beq f 76 then Q06.via n xs else bif Nat.beq f 140 then Q0s.via n xs else fun _=>none
theorem Q0v.tells {R:Type} (n:Nat):Tells (R:=R) Tryz.prog (Q0v.C n):=fun _ xs=>tells_at (Q0i.tells1 n xs) (tells_at (Q06.tells1 n xs) (tells_at (Q0s.tells1 n xs) (Tells1.none)))
def Q0v.cut (r:Nat):Option Keep:=match r with | 12=>some ⟨[1,3],[]⟩ | _=>none
def Q0v.t (z:Q0v.Z):List Item:=(todoOf (match z with | .z12 _ _ _ _=>12) 1000 [.code (Tryz.f90.body.getD .skip)]).getD []
def Q0v.s:Q0v.Z→St
 | .z12 z1 z2 z3 z4=>⟨spr 49 0 [(1,.ptr 0 0),(3,vb z1)],Mem.ofList [.box 70 [vi z2,vi z3,vi z4]],1⟩
def Q0v.r12 (n:Nat) (c:Q0v.Z→Option Int) (z1:Bool) (z2 z3 z4:Int):Option Int:=
 bif !z1 then (some 18) else ((Q0s.F n z2).bind fun p5=>
 bif p5 then ((Q0i.F n z4 0 z3).bind fun p6=>
 (Q06.F n (!p6)).bind fun p7=>
 let y8:Int:=IntKind.i64.wrap ((3:Int)*p7)
 some y8) else ((Q0i.F n z4 0 0).bind fun p9=>
 (Q06.F n (!p9)).bind fun p10=>
 let y11:Int:=IntKind.i64.wrap ((3:Int)*p10)
 some y11))
def Q0v.r (n:Nat) (c:Q0v.Z→Option Int):Q0v.Z→Option Int
 | .z12 z1 z2 z3 z4=>Q0v.r12 n c z1 z2 z3 z4
def Q0v.e (n:Nat) (c:Q0v.Z→Option Int) (a0 a1 a2:Int):Option Int:=
 (Q0i.F n a0 0 4).bind fun p1=>
 bif !p1 then (some 4) else (bif a0==0 then ((Q0i.F n a1 1 256).bind fun p2=>
 c (.z12 p2 a0 a1 a2)) else (bif a0==1 then ((Q0i.F n a1 1 15).bind fun p3=>
 c (.z12 p3 a0 a1 a2)) else (bif a0==2 then ((Q0i.F n a1 1 15).bind fun p4=>
 c (.z12 p4 a0 a1 a2)) else (bif a0==3 then (bif a1==4 then (c (.z12 true a0 a1 a2)) else (c (.z12 (a1==9) a0 a1 a2))) else (c (.z12 (a1==0) a0 a1 a2))))))
def Q0v.E (n:Nat) (c:Q0v.Z→Option Int):Q0v.A→Option Q0v.T:=fun (a0,a1,a2)=>Q0v.e n c a0 a1 a2
def Q0v.l (n:Nat):Nat→Q0v.Z→Option Int:=loopL (Q0v.r n)
def Q0v.F (n:Nat) (a0 a1 a2:Int):Option Int:=Q0v.e n (Q0v.l n n) a0 a1 a2
def Q0v.FA (n:Nat):Q0v.A→Option Q0v.T:=Q0v.E n (Q0v.l n n)
theorem Q0v.hands (n:Nat):∀ a p,Q0v.FA n a=some p→HandsIn Tryz.prog 90 (Q0v.i a) (Q0v.p p):=
 pf_hands (C:=Q0v.C n) (cut:=Q0v.cut) (t:=Q0v.t) (s:=Q0v.s) (e:=Q0v.E n) (r:=Q0v.r n) (n:=n) cfg mixed globs rfl Q0v.qi (Q0v.tells n) Tryz.func90 (by kernel_rfl) (by kernel_rfl) (fun rec a=>by kernel_rfl) (fun rec z=>by cases z <;> kernel_rfl)
def Q0v.via {R:Type} (n:Nat):List AV→(AV→Option R)→Option R:=viaK (Q0v.FA n) Q0v.o Q0v.p
theorem Q0v.tells1 {R:Type} (n:Nat) (xs:List AV):Tells1 (R:=R) Tryz.prog 90 xs (Q0v.via n xs):=tells_via Q0v.oi (fun a=>by kernel_rfl) (Q0v.hands n) xs
end Go.Proofs.YtnoldakbllfmnaaGreatDoor.Ev
namespace Go.Proofs.YtnoldakbllfmnaaGreatDoor.Ev
open Go Go.Proofs Go.Proofs.Ev
set_option linter.unusedVariables false
set_option maxRecDepth 100000
abbrev Q0e.A:=Int
abbrev Q0e.T:=Int
def Q0e.i:Q0e.A→List AV:=fun a0=>[vi a0]
def Q0e.o (xs:List AV):Option Q0e.A:=match xs with | [.v (.int .i64 a0)]=>some a0 | _=>none
theorem Q0e.oi:∀ xs a,Q0e.o xs=some a→xs=Q0e.i a:=by
 intro xs a h
 unfold Q0e.o at h
 split at h
 ·cases h; rfl
 ·cases h
def Q0e.p (p:Q0e.T):AV:=vi p
def Q0e.q (x:AV):Option Q0e.T:=match x with | .v (.int .i64 p0)=>some p0 | _=>none
theorem Q0e.qi:∀ x p,Q0e.q x=some p→x=Q0e.p p:=by
 intro x p h
 unfold Q0e.q at h
 split at h
 ·cases h; rfl
 ·cases h
inductive Q0e.Z where
 | z3 (z1 z2 z3:Int)
def Q0e.C {R:Type} (n:Nat) (f:FuncId) (xs:List AV):(AV→Option R)→Option R:=
 fun _=>none
theorem Q0e.tells {R:Type} (n:Nat):Tells (R:=R) Tryz.prog (Q0e.C n):=fun _ xs=>Tells1.none
def Q0e.cut (r:Nat):Option Keep:=match r with | 3=>some ⟨[0,3,4],[]⟩ | _=>none
def Q0e.t (z:Q0e.Z):List Item:=(todoOf (match z with | .z3 _ _ _=>3) 1000 [.code (Tryz.f172.body.getD .skip)]).getD []
def Q0e.s:Q0e.Z→St
 | .z3 z1 z2 z3=>⟨spr 13 0 [(0,vi z1),(3,vi z2),(4,vi z3)],Mem.ofList [],0⟩
def Q0e.r3 (n:Nat) (c:Q0e.Z→Option Int) (z1 z2 z3:Int):Option Int:=
 bif decide (z3 < z1) then (c (.z3 z1 (IntKind.i64.wrap (z2*10)) (IntKind.i64.wrap (z3+1)))) else (some z2)
def Q0e.r (n:Nat) (c:Q0e.Z→Option Int):Q0e.Z→Option Int
 | .z3 z1 z2 z3=>Q0e.r3 n c z1 z2 z3
def Q0e.e (n:Nat) (c:Q0e.Z→Option Int) (a0:Int):Option Int:=
 c (.z3 a0 1 0)
def Q0e.E (n:Nat) (c:Q0e.Z→Option Int):Q0e.A→Option Q0e.T:=fun a0=>Q0e.e n c a0
def Q0e.l (n:Nat):Nat→Q0e.Z→Option Int:=loopL (Q0e.r n)
def Q0e.F (n:Nat) (a0:Int):Option Int:=Q0e.e n (Q0e.l n n) a0
def Q0e.FA (n:Nat):Q0e.A→Option Q0e.T:=Q0e.E n (Q0e.l n n)
theorem Q0e.hands (n:Nat):∀ a p,Q0e.FA n a=some p→HandsIn Tryz.prog 172 (Q0e.i a) (Q0e.p p):=
 pf_hands (C:=Q0e.C n) (cut:=Q0e.cut) (t:=Q0e.t) (s:=Q0e.s) (e:=Q0e.E n) (r:=Q0e.r n) (n:=n) cfg mixed globs rfl Q0e.qi (Q0e.tells n) Tryz.func172 (by kernel_rfl) (by kernel_rfl) (fun rec a=>by kernel_rfl) (fun rec z=>by cases z <;> kernel_rfl)
def Q0e.via {R:Type} (n:Nat):List AV→(AV→Option R)→Option R:=viaK (Q0e.FA n) Q0e.o Q0e.p
theorem Q0e.tells1 {R:Type} (n:Nat) (xs:List AV):Tells1 (R:=R) Tryz.prog 172 xs (Q0e.via n xs):=tells_via Q0e.oi (fun a=>by kernel_rfl) (Q0e.hands n) xs
end Go.Proofs.YtnoldakbllfmnaaGreatDoor.Ev
namespace Go.Proofs.YtnoldakbllfmnaaGreatDoor.Ev
open Go Go.Proofs Go.Proofs.Ev
set_option linter.unusedVariables false
set_option maxRecDepth 100000
abbrev Q0t.A:=Int × Int × Int
abbrev Q0t.T:=Int
def Q0t.i:Q0t.A→List AV:=fun (a0,a1,a2)=>[AV.agg [vi a0,vi a1,vi a2]]
def Q0t.o (xs:List AV):Option Q0t.A:=match xs with | [.agg [.v (.int .i64 a0),.v (.int .i64 a1),.v (.int .i64 a2)]]=>some (a0,a1,a2) | _=>none
theorem Q0t.oi:∀ xs a,Q0t.o xs=some a→xs=Q0t.i a:=by
 intro xs a h
 unfold Q0t.o at h
 split at h
 ·cases h; rfl
 ·cases h
def Q0t.p (p:Q0t.T):AV:=vi p
def Q0t.q (x:AV):Option Q0t.T:=match x with | .v (.int .i64 p0)=>some p0 | _=>none
theorem Q0t.qi:∀ x p,Q0t.q x=some p→x=Q0t.p p:=by
 intro x p h
 unfold Q0t.q at h
 split at h
 ·cases h; rfl
 ·cases h
def Q0t.C {R:Type} (n:Nat) (f:FuncId) (xs:List AV):(AV→Option R)→Option R:=
 bif Nat.beq f 172 then Q0e.via n xs else fun _=>none
theorem Q0t.tells {R:Type} (n:Nat):Tells (R:=R) Tryz.prog (Q0t.C n):=fun _ xs=>tells_at (Q0e.tells1 n xs) (Tells1.none)
def Q0t.cut (r:Nat):Option Keep:=match r with  | _=>none
def Q0t.e (n:Nat) (a0 a1 a2:Int):Option Int:=
 (Q0e.F n a1).bind fun p1=>
 some (IntKind.i64.wrap (p1 - 1))
def Q0t.E (n:Nat):Q0t.A→Option Q0t.T:=fun (a0,a1,a2)=>Q0t.e n a0 a1 a2
def Q0t.F (n:Nat) (a0 a1 a2:Int):Option Int:=Q0t.e n a0 a1 a2
def Q0t.FA (n:Nat):Q0t.A→Option Q0t.T:=Q0t.E n
theorem Q0t.hands (n:Nat):∀ a p,Q0t.FA n a=some p→HandsIn Tryz.prog 141 (Q0t.i a) (Q0t.p p):=
 pf_hands (C:=Q0t.C n) (cut:=Q0t.cut) (Z:=Empty) (t:=nofun) (s:=nofun) (e:=fun _=>Q0t.E n) (r:=fun _ z=>nomatch z) (n:=n) cfg mixed globs rfl Q0t.qi (Q0t.tells n) Tryz.func141 (by kernel_rfl) (by kernel_rfl) (fun rec a=>by kernel_rfl) (fun rec z=>nomatch z)
def Q0t.via {R:Type} (n:Nat):List AV→(AV→Option R)→Option R:=viaK (Q0t.FA n) Q0t.o Q0t.p
theorem Q0t.tells1 {R:Type} (n:Nat) (xs:List AV):Tells1 (R:=R) Tryz.prog 141 xs (Q0t.via n xs):=tells_via Q0t.oi (fun a=>by kernel_rfl) (Q0t.hands n) xs
end Go.Proofs.YtnoldakbllfmnaaGreatDoor.Ev
namespace Go.Proofs.YtnoldakbllfmnaaGreatDoor.Ev
open Go Go.Proofs Go.Proofs.Ev
set_option linter.unusedVariables false
set_option maxRecDepth 100000
abbrev Q0w.A:=Int × Int × Int × Int × ByteArray
abbrev Q0w.T:=Int
def Q0w.i:Q0w.A→List AV:=fun (a0,a1,a2,a3,a4)=>[AV.agg [vi a0,vi a1,vi a2],AV.agg [vi a3,vs a4]]
def Q0w.o (xs:List AV):Option Q0w.A:=match xs with | [.agg [.v (.int .i64 a0),.v (.int .i64 a1),.v (.int .i64 a2)],.agg [.v (.int .i64 a3),.v (.string a4)]]=>some (a0,a1,a2,a3,a4) | _=>none
theorem Q0w.oi:∀ xs a,Q0w.o xs=some a→xs=Q0w.i a:=by
 intro xs a h
 unfold Q0w.o at h
 split at h
 ·cases h; rfl
 ·cases h
def Q0w.p (p:Q0w.T):AV:=vi p
def Q0w.q (x:AV):Option Q0w.T:=match x with | .v (.int .i64 p0)=>some p0 | _=>none
theorem Q0w.qi:∀ x p,Q0w.q x=some p→x=Q0w.p p:=by
 intro x p h
 unfold Q0w.q at h
 split at h
 ·cases h; rfl
 ·cases h
inductive Q0w.Z where
 | z7
 | z8 (z1 z2 z3 z4:Int) (z5:ByteArray)
def Q0w.C {R:Type} (n:Nat) (f:FuncId) (xs:List AV):(AV→Option R)→Option R:=
 bif Nat.beq f 27 then Q0i.via n xs else bif Nat.beq f 76 then Q06.via n xs else bif Nat.beq f 90 then Q0v.via n xs else bif Nat.beq f 141 then Q0t.via n xs else fun _=>none
theorem Q0w.tells {R:Type} (n:Nat):Tells (R:=R) Tryz.prog (Q0w.C n):=fun _ xs=>tells_at (Q0i.tells1 n xs) (tells_at (Q06.tells1 n xs) (tells_at (Q0v.tells1 n xs) (tells_at (Q0t.tells1 n xs) (Tells1.none))))
def Q0w.cut (r:Nat):Option Keep:=match r with | 7=>some ⟨[],[]⟩ | 8=>some ⟨[2,3],[]⟩ | _=>none
def Q0w.t (z:Q0w.Z):List Item:=(todoOf (match z with | .z7=>7 | .z8 _ _ _ _ _=>8) 1000 [.code (Tryz.f91.body.getD .skip)]).getD []
def Q0w.s:Q0w.Z→St
 | .z7=>⟨spr 54 0 [],Mem.ofList [],0⟩
 | .z8 z1 z2 z3 z4 z5=>⟨spr 54 0 [(2,.ptr 0 0),(3,.ptr 1 0)],Mem.ofList [.box 70 [vi z1,vi z2,vi z3],.box 72 [vi z4,vs z5]],2⟩
def Q0w.r7 (n:Nat) (c:Q0w.Z→Option Int)  : Option Int:=
 some 5
def Q0w.r8 (n:Nat) (c:Q0w.Z→Option Int) (z1 z2 z3 z4:Int) (z5:ByteArray):Option Int:=
 bif z1==0 then (let y4:Bool:=((z5.size:Nat):Int) != z2
 (Q06.F n y4).bind fun p5=>
 let y6:Int:=IntKind.i64.wrap ((18:Int)*p5)
 some y6) else ((Q0t.F n z1 z2 z3).bind fun p7=>
 (Q0t.F n z1 z2 z3).bind fun p8=>
 (Q0i.F n z4 (IntKind.i64.wrap (0 - p7)) p8).bind fun p9=>
 (Q06.F n (!p9)).bind fun p10=>
 let y11:Int:=IntKind.i64.wrap ((19:Int)*p10)
 some y11)
def Q0w.r (n:Nat) (c:Q0w.Z→Option Int):Q0w.Z→Option Int
 | .z7=>Q0w.r7 n c
 | .z8 z1 z2 z3 z4 z5=>Q0w.r8 n c z1 z2 z3 z4 z5
def Q0w.e (n:Nat) (c:Q0w.Z→Option Int) (a0 a1 a2 a3:Int) (a4:ByteArray):Option Int:=
 (Q0v.F n a0 a1 a2).bind fun p1=>
 bif p1 != 0 then (some p1) else (bif a0==4 then (some 17) else (bif a0==0 then (bif a3 != 0 then (c .z7) else (bif a0 != 0 then (let y2:Bool:=!(a4.toList==(⟨#[]⟩ : ByteArray).toList)
 bif y2 then (c .z7) else (c (.z8 a0 a1 a2 a3 a4))) else (c (.z8 a0 a1 a2 a3 a4)))) else (bif a0 != 0 then (let y3:Bool:=!(a4.toList==(⟨#[]⟩ : ByteArray).toList)
 bif y3 then (c .z7) else (c (.z8 a0 a1 a2 a3 a4))) else (c (.z8 a0 a1 a2 a3 a4)))))
def Q0w.E (n:Nat) (c:Q0w.Z→Option Int):Q0w.A→Option Q0w.T:=fun (a0,a1,a2,a3,a4)=>Q0w.e n c a0 a1 a2 a3 a4
def Q0w.l (n:Nat):Nat→Q0w.Z→Option Int:=loopL (Q0w.r n)
def Q0w.F (n:Nat) (a0 a1 a2 a3:Int) (a4:ByteArray):Option Int:=Q0w.e n (Q0w.l n n) a0 a1 a2 a3 a4
def Q0w.FA (n:Nat):Q0w.A→Option Q0w.T:=Q0w.E n (Q0w.l n n)
theorem Q0w.hands (n:Nat):∀ a p,Q0w.FA n a=some p→HandsIn Tryz.prog 91 (Q0w.i a) (Q0w.p p):=
 pf_hands (C:=Q0w.C n) (cut:=Q0w.cut) (t:=Q0w.t) (s:=Q0w.s) (e:=Q0w.E n) (r:=Q0w.r n) (n:=n) cfg mixed globs rfl Q0w.qi (Q0w.tells n) Tryz.func91 (by kernel_rfl) (by kernel_rfl) (fun rec a=>by kernel_rfl) (fun rec z=>by cases z <;> kernel_rfl)
def Q0w.via {R:Type} (n:Nat):List AV→(AV→Option R)→Option R:=viaK (Q0w.FA n) Q0w.o Q0w.p
theorem Q0w.tells1 {R:Type} (n:Nat) (xs:List AV):Tells1 (R:=R) Tryz.prog 91 xs (Q0w.via n xs):=tells_via Q0w.oi (fun a=>by kernel_rfl) (Q0w.hands n) xs
end Go.Proofs.YtnoldakbllfmnaaGreatDoor.Ev
namespace Go.Proofs.YtnoldakbllfmnaaGreatDoor.Ev
open Go Go.Proofs Go.Proofs.Ev
set_option linter.unusedVariables false
set_option maxRecDepth 100000
abbrev Q1f.A:=List AV × List AV × List AV × Int
abbrev Q1f.T:=Int
def Q1f.i:Q1f.A→List AV:=fun (a0,a1,a2,a3)=>[AV.agg [.sl ⟨true,74,false⟩ 10 a0,.sl ⟨false,86,false⟩ 2 a1,.sl ⟨true,82,false⟩ 4 a2],vi a3]
def Q1f.o (xs:List AV):Option Q1f.A:=match xs with | [.agg [.sl ⟨true,74,false⟩ 10 a0,.sl ⟨false,86,false⟩ 2 a1,.sl ⟨true,82,false⟩ 4 a2],.v (.int .i64 a3)]=>some (a0,a1,a2,a3) | _=>none
theorem Q1f.oi:∀ xs a,Q1f.o xs=some a→xs=Q1f.i a:=by
 intro xs a h
 unfold Q1f.o at h
 split at h
 ·cases h; rfl
 ·cases h
def Q1f.p (p:Q1f.T):AV:=vi p
def Q1f.q (x:AV):Option Q1f.T:=match x with | .v (.int .i64 p0)=>some p0 | _=>none
theorem Q1f.qi:∀ x p,Q1f.q x=some p→x=Q1f.p p:=by
 intro x p h
 unfold Q1f.q at h
 split at h
 ·cases h; rfl
 ·cases h
inductive Q1f.Z where
 | z20 (z1:ByteArray) (z2 z3 z4 z5 z6:Int) (z7 z8:ByteArray) (z9 z10:Int)
 | z23 (z1 z2:Int) (z3 z4 z5:List AV) (z6:ByteArray) (z7 z8 z9 z10 z11:Int) (z12 z13:ByteArray) (z14 z15:Int)
 | z27
 | z28 (z1:ByteArray) (z2 z3 z4 z5 z6:Int) (z7 z8:ByteArray) (z9 z10:Int) (z11:ByteArray) (z12 z13 z14 z15 z16:Int) (z17 z18:ByteArray) (z19 z20:Int)
 | z36
def Q1f.C {R:Type} (n:Nat) (f:FuncId) (xs:List AV):(AV→Option R)→Option R:=
 bif Nat.beq f 26 then Q0y.via n xs else bif Nat.beq f 27 then Q0i.via n xs else bif Nat.beq f 35 then Q0h.via n xs else bif Nat.beq f 87 then Q0b.via n xs else bif Nat.beq f 88 then Q19.via n xs else bif Nat.beq f 89 then Q13.via n xs else bif Nat.beq f 90 then Q0v.via n xs else bif Nat.beq f 91 then Q0w.via n xs else fun _=>none
theorem Q1f.tells {R:Type} (n:Nat):Tells (R:=R) Tryz.prog (Q1f.C n):=fun _ xs=>tells_at (Q0y.tells1 n xs) (tells_at (Q0i.tells1 n xs) (tells_at (Q0h.tells1 n xs) (tells_at (Q0b.tells1 n xs) (tells_at (Q19.tells1 n xs) (tells_at (Q13.tells1 n xs) (tells_at (Q0v.tells1 n xs) (tells_at (Q0w.tells1 n xs) (Tells1.none))))))))
def Q1f.cut (r:Nat):Option Keep:=match r with | 20=>some ⟨[5],[]⟩ | 23=>some ⟨[1,2,5,7],[]⟩ | 27=>some ⟨[],[]⟩ | 28=>some ⟨[5,8],[]⟩ | 36=>some ⟨[],[]⟩ | _=>none
def Q1f.t (z:Q1f.Z):List Item:=(todoOf (match z with | .z20 _ _ _ _ _ _ _ _ _ _=>20 | .z23 _ _ _ _ _ _ _ _ _ _ _ _ _ _ _=>23 | .z27=>27 | .z28 _ _ _ _ _ _ _ _ _ _ _ _ _ _ _ _ _ _ _ _=>28 | .z36=>36) 1000 [.code (Tryz.f50.body.getD .skip)]).getD []
def Q1f.s:Q1f.Z→St
 | .z20 z1 z2 z3 z4 z5 z6 z7 z8 z9 z10=>⟨spr 120 0 [(5,.ptr 0 0)],Mem.ofList [.box 74 [vs z1,vi z2,vi z3,vi z4,vi z5,vi z6,vs z7,vs z8,vi z9,vi z10]],1⟩
 | .z23 z1 z2 z3 z4 z5 z6 z7 z8 z9 z10 z11 z12 z13 z14 z15=>⟨spr 120 0 [(1,vi z1),(2,.ptr 0 0),(5,.ptr 1 0),(7,vi z2)],Mem.ofList [.box 26 [.sl ⟨true,74,false⟩ 10 z3,.sl ⟨false,86,false⟩ 2 z4,.sl ⟨true,82,false⟩ 4 z5],.box 74 [vs z6,vi z7,vi z8,vi z9,vi z10,vi z11,vs z12,vs z13,vi z14,vi z15]],2⟩
 | .z27=>⟨spr 120 0 [],Mem.ofList [],0⟩
 | .z28 z1 z2 z3 z4 z5 z6 z7 z8 z9 z10 z11 z12 z13 z14 z15 z16 z17 z18 z19 z20=>⟨spr 120 0 [(5,.ptr 0 0),(8,.ptr 1 0)],Mem.ofList [.box 74 [vs z1,vi z2,vi z3,vi z4,vi z5,vi z6,vs z7,vs z8,vi z9,vi z10],.box 74 [vs z11,vi z12,vi z13,vi z14,vi z15,vi z16,vs z17,vs z18,vi z19,vi z20]],2⟩
 | .z36=>⟨spr 120 0 [],Mem.ofList [],0⟩
def Q1f.r20 (n:Nat) (c:Q1f.Z→Option Int) (z1:ByteArray) (z2 z3 z4 z5 z6:Int) (z7 z8:ByteArray) (z9 z10:Int):Option Int:=
 (Q0w.F n z3 z4 z5 z6 z7).bind fun p43=>
 some p43
def Q1f.r23 (n:Nat) (c:Q1f.Z→Option Int) (z1 z2:Int) (z3 z4 z5:List AV) (z6:ByteArray) (z7 z8 z9 z10 z11:Int) (z12 z13:ByteArray) (z14 z15:Int):Option Int:=
 bif z2==(-1) then (some 11) else (bif decide (z2≥z1) then (some 11) else (bif decide ((0:Int)≤z2)&&decide (z2 < ((z3.length:Nat):Int)) then (withCons ((z3.getD ((z2).toNat) .undef).cells) fun h44 r45=>
 withStr h44 fun s46=>
 withCons r45 fun h47 r48=>
 withInt .i64 h47 fun x49=>
 withCons r48 fun h50 r51=>
 withInt .i64 h50 fun x52=>
 withCons r51 fun h53 r54=>
 withInt .i64 h53 fun x55=>
 withCons r54 fun h56 r57=>
 withInt .i64 h56 fun x58=>
 withCons r57 fun h59 r60=>
 withInt .i64 h59 fun x61=>
 withCons r60 fun h62 r63=>
 withStr h62 fun s64=>
 withCons r63 fun h65 r66=>
 withStr h65 fun s67=>
 withCons r66 fun h68 r69=>
 withInt .i64 h68 fun x70=>
 withCons r69 fun h71 r72=>
 withInt .i64 h71 fun x73=>
 bif z7==1 then (bif x49 != 0 then (c .z27) else (bif z7==2 then (bif x49 != 3 then (c .z27) else (c (.z28 z6 z7 z8 z9 z10 z11 z12 z13 z14 z15 s46 x49 x52 x55 x58 x61 s64 s67 x70 x73))) else (c (.z28 z6 z7 z8 z9 z10 z11 z12 z13 z14 z15 s46 x49 x52 x55 x58 x61 s64 s67 x70 x73)))) else (bif z7==2 then (bif x49 != 3 then (c .z27) else (c (.z28 z6 z7 z8 z9 z10 z11 z12 z13 z14 z15 s46 x49 x52 x55 x58 x61 s64 s67 x70 x73))) else (c (.z28 z6 z7 z8 z9 z10 z11 z12 z13 z14 z15 s46 x49 x52 x55 x58 x61 s64 s67 x70 x73)))) else none))
def Q1f.r27 (n:Nat) (c:Q1f.Z→Option Int)  : Option Int:=
 some 17
def Q1f.r28 (n:Nat) (c:Q1f.Z→Option Int) (z1:ByteArray) (z2 z3 z4 z5 z6:Int) (z7 z8:ByteArray) (z9 z10:Int) (z11:ByteArray) (z12 z13 z14 z15 z16:Int) (z17 z18:ByteArray) (z19 z20:Int):Option Int:=
 bif z2==1 then ((Q0h.F n z13 z14 z15).bind fun p74=>
 (Q0h.F n z3 z4 z5).bind fun p75=>
 (Q0i.F n z9 0 (IntKind.i64.wrap (p74 - p75))).bind fun p76=>
 bif !p76 then (some 3) else (c .z36)) else ((Q0i.F n z9 0 256).bind fun p77=>
 bif !p77 then (some 3) else (c .z36))
def Q1f.r36 (n:Nat) (c:Q1f.Z→Option Int)  : Option Int:=
 some 0
def Q1f.r (n:Nat) (c:Q1f.Z→Option Int):Q1f.Z→Option Int
 | .z20 z1 z2 z3 z4 z5 z6 z7 z8 z9 z10=>Q1f.r20 n c z1 z2 z3 z4 z5 z6 z7 z8 z9 z10
 | .z23 z1 z2 z3 z4 z5 z6 z7 z8 z9 z10 z11 z12 z13 z14 z15=>Q1f.r23 n c z1 z2 z3 z4 z5 z6 z7 z8 z9 z10 z11 z12 z13 z14 z15
 | .z27=>Q1f.r27 n c
 | .z28 z1 z2 z3 z4 z5 z6 z7 z8 z9 z10 z11 z12 z13 z14 z15 z16 z17 z18 z19 z20=>Q1f.r28 n c z1 z2 z3 z4 z5 z6 z7 z8 z9 z10 z11 z12 z13 z14 z15 z16 z17 z18 z19 z20
 | .z36=>Q1f.r36 n c
def Q1f.e (n:Nat) (c:Q1f.Z→Option Int) (a0 a1 a2:List AV) (a3:Int):Option Int:=
 bif decide ((0:Int)≤a3)&&decide (a3 < ((a0.length:Nat):Int)) then (withCons ((a0.getD ((a3).toNat) .undef).cells) fun h1 r2=>
 withStr h1 fun s3=>
 withCons r2 fun h4 r5=>
 withInt .i64 h4 fun x6=>
 withCons r5 fun h7 r8=>
 withInt .i64 h7 fun x9=>
 withCons r8 fun h10 r11=>
 withInt .i64 h10 fun x12=>
 withCons r11 fun h13 r14=>
 withInt .i64 h13 fun x15=>
 withCons r14 fun h16 r17=>
 withInt .i64 h16 fun x18=>
 withCons r17 fun h19 r20=>
 withStr h19 fun s21=>
 withCons r20 fun h22 r23=>
 withStr h22 fun s24=>
 withCons r23 fun h25 r26=>
 withInt .i64 h25 fun x27=>
 withCons r26 fun h28 r29=>
 withInt .i64 h28 fun x30=>
 (Q0b.F n s3).bind fun p31=>
 bif !p31 then (some 7) else ((Q0y.F n a0 a1 a2 s3).bind fun p32=>
 bif decide (p32 < a3) then (some 13) else ((Q0i.F n x6 0 5).bind fun p33=>
 bif !p33 then (some 4) else ((Q19.F n s3 x6 x9 x12 x15 x18 s21 s24 x27 x30).bind fun p34=>
 bif p34 then (some 5) else ((Q13.F n x6).bind fun p35=>
 bif p35 then ((Q0v.F n x9 x12 x15).bind fun p36=>
 bif p36 != 0 then (some p36) else (bif x9==4 then (some 17) else ((Q0y.F n a0 a1 a2 s24).bind fun p37=>
 bif x6==0 then (c (.z20 s3 x6 x9 x12 x15 x18 s21 s24 x27 x30)) else (bif x6==4 then (c (.z20 s3 x6 x9 x12 x15 x18 s21 s24 x27 x30)) else (bif x6==1 then (c (.z23 a3 p37 a0 a1 a2 s3 x6 x9 x12 x15 x18 s21 s24 x27 x30)) else (bif x6==2 then (c (.z23 a3 p37 a0 a1 a2 s3 x6 x9 x12 x15 x18 s21 s24 x27 x30)) else (bif x6==5 then (let y38:Int:=IntKind.i64.wrap (((a1.length:Nat):Int) - 1)
 (Q0i.F n x30 0 y38).bind fun p39=>
 bif !p39 then (some 3) else (c .z36)) else (c .z36)))))))) else ((Q0y.F n a0 a1 a2 s24).bind fun p40=>
 bif x6==0 then (c (.z20 s3 x6 x9 x12 x15 x18 s21 s24 x27 x30)) else (bif x6==4 then (c (.z20 s3 x6 x9 x12 x15 x18 s21 s24 x27 x30)) else (bif x6==1 then (c (.z23 a3 p40 a0 a1 a2 s3 x6 x9 x12 x15 x18 s21 s24 x27 x30)) else (bif x6==2 then (c (.z23 a3 p40 a0 a1 a2 s3 x6 x9 x12 x15 x18 s21 s24 x27 x30)) else (bif x6==5 then (let y41:Int:=IntKind.i64.wrap (((a1.length:Nat):Int) - 1)
 (Q0i.F n x30 0 y41).bind fun p42=>
 bif !p42 then (some 3) else (c .z36)) else (c .z36))))))))))) else none
def Q1f.E (n:Nat) (c:Q1f.Z→Option Int):Q1f.A→Option Q1f.T:=fun (a0,a1,a2,a3)=>Q1f.e n c a0 a1 a2 a3
def Q1f.l (n:Nat):Nat→Q1f.Z→Option Int:=loopL (Q1f.r n)
def Q1f.F (n:Nat) (a0 a1 a2:List AV) (a3:Int):Option Int:=Q1f.e n (Q1f.l n n) a0 a1 a2 a3
def Q1f.FA (n:Nat):Q1f.A→Option Q1f.T:=Q1f.E n (Q1f.l n n)
theorem Q1f.hands (n:Nat):∀ a p,Q1f.FA n a=some p→HandsIn Tryz.prog 50 (Q1f.i a) (Q1f.p p):=
 pf_hands (C:=Q1f.C n) (cut:=Q1f.cut) (t:=Q1f.t) (s:=Q1f.s) (e:=Q1f.E n) (r:=Q1f.r n) (n:=n) cfg mixed globs rfl Q1f.qi (Q1f.tells n) Tryz.func50 (by kernel_rfl) (by kernel_rfl) (fun rec a=>by kernel_rfl) (fun rec z=>by cases z <;> kernel_rfl)
def Q1f.via {R:Type} (n:Nat):List AV→(AV→Option R)→Option R:=viaK (Q1f.FA n) Q1f.o Q1f.p
theorem Q1f.tells1 {R:Type} (n:Nat) (xs:List AV):Tells1 (R:=R) Tryz.prog 50 xs (Q1f.via n xs):=tells_via Q1f.oi (fun a=>by kernel_rfl) (Q1f.hands n) xs
end Go.Proofs.YtnoldakbllfmnaaGreatDoor.Ev
namespace Go.Proofs.YtnoldakbllfmnaaGreatDoor.Ev
open Go Go.Proofs Go.Proofs.Ev
set_option linter.unusedVariables false
set_option maxRecDepth 100000
abbrev Q1h.A:=Int
abbrev Q1h.T:=List AV
def Q1h.i:Q1h.A→List AV:=fun a0=>[vi a0]
def Q1h.o (xs:List AV):Option Q1h.A:=match xs with | [.v (.int .i64 a0)]=>some a0 | _=>none
theorem Q1h.oi:∀ xs a,Q1h.o xs=some a→xs=Q1h.i a:=by
 intro xs a h
 unfold Q1h.o at h
 split at h
 ·cases h; rfl
 ·cases h
def Q1h.p (p:Q1h.T):AV:=.fr ⟨true,3,false⟩ 1 p
def Q1h.q (x:AV):Option Q1h.T:=match x with | .fr ⟨true,3,false⟩ 1 p0=>some p0 | _=>none
theorem Q1h.qi:∀ x p,Q1h.q x=some p→x=Q1h.p p:=by
 intro x p h
 unfold Q1h.q at h
 split at h
 ·cases h; rfl
 ·cases h
inductive Q1h.Z where
 | z11
def Q1h.C {R:Type} (n:Nat) (f:FuncId) (xs:List AV):(AV→Option R)→Option R:=
 fun _=>none
theorem Q1h.tells {R:Type} (n:Nat):Tells (R:=R) Tryz.prog (Q1h.C n):=fun _ xs=>Tells1.none
def Q1h.cut (r:Nat):Option Keep:=match r with | 11=>some ⟨[],[]⟩ | _=>none
def Q1h.t (z:Q1h.Z):List Item:=(todoOf (match z with | .z11=>11) 1000 [.code (Tryz.f92.body.getD .skip)]).getD []
def Q1h.s:Q1h.Z→St
 | .z11=>⟨spr 43 0 [],Mem.ofList [],0⟩
def Q1h.r11 (n:Nat) (c:Q1h.Z→Option (List AV))  : Option (List AV):=
 some [vi 1,vi 3,vi 3]
def Q1h.r (n:Nat) (c:Q1h.Z→Option (List AV)):Q1h.Z→Option (List AV)
 | .z11=>Q1h.r11 n c
def Q1h.e (n:Nat) (c:Q1h.Z→Option (List AV)) (a0:Int):Option (List AV):=
 bif a0==0 then (some [vi 0,vi 4]) else (bif a0==1 then (some [vi 1,vi 3]) else (bif a0==2 then (c .z11) else (bif a0==3 then (c .z11) else (bif a0==4 then (c .z11) else (bif a0==5 then (c .z11) else (bif a0==6 then (c .z11) else (bif a0==7 then (some [vi 2,vi 4,vi 6]) else (bif a0==8 then (some [vi 2,vi 4,vi 6]) else (bif a0==9 then (some [vi 6]) else (bif a0==13 then (some [vi 6]) else (bif a0==10 then (some [vi 5,vi 0]) else (bif a0==11 then (some [vi 5,vi 5]) else (bif a0==12 then (some [vi 5,vi 3]) else (bif a0==15 then (some [vi 3]) else (bif a0==16 then (some [vi 1]) else (bif a0==17 then (some [vi 2]) else (some [])))))))))))))))))
def Q1h.E (n:Nat) (c:Q1h.Z→Option (List AV)):Q1h.A→Option Q1h.T:=fun a0=>Q1h.e n c a0
def Q1h.l (n:Nat):Nat→Q1h.Z→Option (List AV):=loopL (Q1h.r n)
def Q1h.F (n:Nat) (a0:Int):Option (List AV):=Q1h.e n (Q1h.l n n) a0
def Q1h.FA (n:Nat):Q1h.A→Option Q1h.T:=Q1h.E n (Q1h.l n n)
theorem Q1h.hands (n:Nat):∀ a p,Q1h.FA n a=some p→HandsIn Tryz.prog 92 (Q1h.i a) (Q1h.p p):=
 pf_hands (C:=Q1h.C n) (cut:=Q1h.cut) (t:=Q1h.t) (s:=Q1h.s) (e:=Q1h.E n) (r:=Q1h.r n) (n:=n) cfg mixed globs rfl Q1h.qi (Q1h.tells n) Tryz.func92 (by kernel_rfl) (by kernel_rfl) (fun rec a=>by kernel_rfl) (fun rec z=>by cases z <;> kernel_rfl)
def Q1h.via {R:Type} (n:Nat):List AV→(AV→Option R)→Option R:=viaK (Q1h.FA n) Q1h.o Q1h.p
theorem Q1h.tells1 {R:Type} (n:Nat) (xs:List AV):Tells1 (R:=R) Tryz.prog 92 xs (Q1h.via n xs):=tells_via Q1h.oi (fun a=>by kernel_rfl) (Q1h.hands n) xs
end Go.Proofs.YtnoldakbllfmnaaGreatDoor.Ev
namespace Go.Proofs.YtnoldakbllfmnaaGreatDoor.Ev
open Go Go.Proofs Go.Proofs.Ev
set_option linter.unusedVariables false
set_option maxRecDepth 100000
abbrev Q1c.A:=ByteArray × Int × Int × Int × Int × Int × ByteArray × ByteArray × Int × Int
abbrev Q1c.T:=Bool
def Q1c.i:Q1c.A→List AV:=fun (a0,a1,a2,a3,a4,a5,a6,a7,a8,a9)=>[AV.agg [vs a0,vi a1,vi a2,vi a3,vi a4,vi a5,vs a6,vs a7,vi a8,vi a9]]
def Q1c.o (xs:List AV):Option Q1c.A:=match xs with | [.agg [.v (.string a0),.v (.int .i64 a1),.v (.int .i64 a2),.v (.int .i64 a3),.v (.int .i64 a4),.v (.int .i64 a5),.v (.string a6),.v (.string a7),.v (.int .i64 a8),.v (.int .i64 a9)]]=>some (a0,a1,a2,a3,a4,a5,a6,a7,a8,a9) | _=>none
theorem Q1c.oi:∀ xs a,Q1c.o xs=some a→xs=Q1c.i a:=by
 intro xs a h
 unfold Q1c.o at h
 split at h
 ·cases h; rfl
 ·cases h
def Q1c.p (p:Q1c.T):AV:=vb p
def Q1c.q (x:AV):Option Q1c.T:=match x with | .v (.bool p0)=>some p0 | _=>none
theorem Q1c.qi:∀ x p,Q1c.q x=some p→x=Q1c.p p:=by
 intro x p h
 unfold Q1c.q at h
 split at h
 ·cases h; rfl
 ·cases h
def Q1c.C {R:Type} (n:Nat) (f:FuncId) (xs:List AV):(AV→Option R)→Option R:=
 bif Nat.beq f 140 then Q0s.via n xs else fun _=>none
theorem Q1c.tells {R:Type} (n:Nat):Tells (R:=R) Tryz.prog (Q1c.C n):=fun _ xs=>tells_at (Q0s.tells1 n xs) (Tells1.none)
def Q1c.cut (r:Nat):Option Keep:=match r with  | _=>none
def Q1c.e (n:Nat) (a0:ByteArray) (a1 a2 a3 a4 a5:Int) (a6 a7:ByteArray) (a8 a9:Int):Option Bool:=
 (Q0s.F n a2).bind fun p1=>
 some p1
def Q1c.E (n:Nat):Q1c.A→Option Q1c.T:=fun (a0,a1,a2,a3,a4,a5,a6,a7,a8,a9)=>Q1c.e n a0 a1 a2 a3 a4 a5 a6 a7 a8 a9
def Q1c.F (n:Nat) (a0:ByteArray) (a1 a2 a3 a4 a5:Int) (a6 a7:ByteArray) (a8 a9:Int):Option Bool:=Q1c.e n a0 a1 a2 a3 a4 a5 a6 a7 a8 a9
def Q1c.FA (n:Nat):Q1c.A→Option Q1c.T:=Q1c.E n
theorem Q1c.hands (n:Nat):∀ a p,Q1c.FA n a=some p→HandsIn Tryz.prog 94 (Q1c.i a) (Q1c.p p):=
 pf_hands (C:=Q1c.C n) (cut:=Q1c.cut) (Z:=Empty) (t:=nofun) (s:=nofun) (e:=fun _=>Q1c.E n) (r:=fun _ z=>nomatch z) (n:=n) cfg mixed globs rfl Q1c.qi (Q1c.tells n) Tryz.func94 (by kernel_rfl) (by kernel_rfl) (fun rec a=>by kernel_rfl) (fun rec z=>nomatch z)
def Q1c.via {R:Type} (n:Nat):List AV→(AV→Option R)→Option R:=viaK (Q1c.FA n) Q1c.o Q1c.p
theorem Q1c.tells1 {R:Type} (n:Nat) (xs:List AV):Tells1 (R:=R) Tryz.prog 94 xs (Q1c.via n xs):=tells_via Q1c.oi (fun a=>by kernel_rfl) (Q1c.hands n) xs
end Go.Proofs.YtnoldakbllfmnaaGreatDoor.Ev
namespace Go.Proofs.YtnoldakbllfmnaaGreatDoor.Ev
open Go Go.Proofs Go.Proofs.Ev
set_option linter.unusedVariables false
set_option maxRecDepth 100000
abbrev Q1b.A:=List AV × List AV × List AV × Int × List AV
abbrev Q1b.T:=Int
def Q1b.i:Q1b.A→List AV:=fun (a0,a1,a2,a3,a4)=>[AV.agg [.sl ⟨true,74,false⟩ 10 a0,.sl ⟨false,86,false⟩ 2 a1,.sl ⟨true,82,false⟩ 4 a2],AV.agg [vi a3,.sl ⟨true,3,false⟩ 1 a4]]
def Q1b.o (xs:List AV):Option Q1b.A:=match xs with | [.agg [.sl ⟨true,74,false⟩ 10 a0,.sl ⟨false,86,false⟩ 2 a1,.sl ⟨true,82,false⟩ 4 a2],.agg [.v (.int .i64 a3),.sl ⟨true,3,false⟩ 1 a4]]=>some (a0,a1,a2,a3,a4) | _=>none
theorem Q1b.oi:∀ xs a,Q1b.o xs=some a→xs=Q1b.i a:=by
 intro xs a h
 unfold Q1b.o at h
 split at h
 ·cases h; rfl
 ·cases h
def Q1b.p (p:Q1b.T):AV:=vi p
def Q1b.q (x:AV):Option Q1b.T:=match x with | .v (.int .i64 p0)=>some p0 | _=>none
theorem Q1b.qi:∀ x p,Q1b.q x=some p→x=Q1b.p p:=by
 intro x p h
 unfold Q1b.q at h
 split at h
 ·cases h; rfl
 ·cases h
inductive Q1b.Z where
 | z7 (z1:Int) (z2 z3 z4:List AV) (z5:Int) (z6 z7:List AV)
 | z8 (z1:Int) (z2 z3 z4:List AV) (z5:Int) (z6 z7:List AV)
 | z28 (z1:Int) (z2:Bool) (z3 z4 z5:List AV) (z6:Int) (z7 z8:List AV)
def Q1b.C {R:Type} (n:Nat) (f:FuncId) (xs:List AV):(AV→Option R)→Option R:=
 bif Nat.beq f 27 then Q0i.via n xs else bif Nat.beq f 89 then Q13.via n xs else bif Nat.beq f 92 then Q1h.via n xs else bif Nat.beq f 93 then Q14.via n xs else bif Nat.beq f 94 then Q1c.via n xs else fun _=>none
theorem Q1b.tells {R:Type} (n:Nat):Tells (R:=R) Tryz.prog (Q1b.C n):=fun _ xs=>tells_at (Q0i.tells1 n xs) (tells_at (Q13.tells1 n xs) (tells_at (Q1h.tells1 n xs) (tells_at (Q14.tells1 n xs) (tells_at (Q1c.tells1 n xs) (Tells1.none)))))
def Q1b.cut (r:Nat):Option Keep:=match r with | 7=>some ⟨[2,3,5,6],[]⟩ | 8=>some ⟨[2,3,5,6],[]⟩ | 28=>some ⟨[2,3,5,6,8],[]⟩ | _=>none
def Q1b.t (z:Q1b.Z):List Item:=(todoOf (match z with | .z7 _ _ _ _ _ _ _=>7 | .z8 _ _ _ _ _ _ _=>8 | .z28 _ _ _ _ _ _ _ _=>28) 1000 [.code (Tryz.f51.body.getD .skip)]).getD []
def Q1b.s:Q1b.Z→St
 | .z7 z1 z2 z3 z4 z5 z6 z7=>⟨spr 113 0 [(2,.ptr 0 0),(3,.ptr 1 0),(5,.own 2 0 none),(6,vi z1)],Mem.ofList [.box 26 [.sl ⟨true,74,false⟩ 10 z2,.sl ⟨false,86,false⟩ 2 z3,.sl ⟨true,82,false⟩ 4 z4],.box 86 [vi z5,.sl ⟨true,3,false⟩ 1 z6],.row ⟨true,3,false⟩ 1 z7],3⟩
 | .z8 z1 z2 z3 z4 z5 z6 z7=>⟨spr 113 0 [(2,.ptr 0 0),(3,.ptr 1 0),(5,.own 2 0 none),(6,vi z1)],Mem.ofList [.box 26 [.sl ⟨true,74,false⟩ 10 z2,.sl ⟨false,86,false⟩ 2 z3,.sl ⟨true,82,false⟩ 4 z4],.box 86 [vi z5,.sl ⟨true,3,false⟩ 1 z6],.row ⟨true,3,false⟩ 1 z7],3⟩
 | .z28 z1 z2 z3 z4 z5 z6 z7 z8=>⟨spr 113 0 [(2,.ptr 0 0),(3,.ptr 1 0),(5,.own 2 0 none),(6,vi z1),(8,vb z2)],Mem.ofList [.box 26 [.sl ⟨true,74,false⟩ 10 z3,.sl ⟨false,86,false⟩ 2 z4,.sl ⟨true,82,false⟩ 4 z5],.box 86 [vi z6,.sl ⟨true,3,false⟩ 1 z7],.row ⟨true,3,false⟩ 1 z8],3⟩
def Q1b.r7 (n:Nat) (c:Q1b.Z→Option Int) (z1:Int) (z2 z3 z4:List AV) (z5:Int) (z6 z7:List AV):Option Int:=
 let y4:Bool:=decide (z1 < ((z7.length:Nat):Int))
 bif y4 then (bif decide ((0:Int)≤z1)&&decide (z1 < ((z6.length:Nat):Int)) then (withCons ((z6.getD ((z1).toNat) .undef).cells) fun h5 r6=>
 withInt .i64 h5 fun x7=>
 let y8:Int:=IntKind.i64.wrap (((z2.length:Nat):Int) - 1)
 (Q0i.F n x7 0 y8).bind fun p9=>
 bif !p9 then (some 3) else (bif decide ((0:Int)≤z1)&&decide (z1 < ((z6.length:Nat):Int)) then (withCons ((z6.getD ((z1).toNat) .undef).cells) fun h10 r11=>
 withInt .i64 h10 fun x12=>
 bif decide ((0:Int)≤x12)&&decide (x12 < ((z2.length:Nat):Int)) then (withCons ((z2.getD ((x12).toNat) .undef).cells) fun h13 r14=>
 withStr h13 fun s15=>
 withCons r14 fun h16 r17=>
 withInt .i64 h16 fun x18=>
 withCons r17 fun h19 r20=>
 withInt .i64 h19 fun x21=>
 withCons r20 fun h22 r23=>
 withInt .i64 h22 fun x24=>
 withCons r23 fun h25 r26=>
 withInt .i64 h25 fun x27=>
 withCons r26 fun h28 r29=>
 withInt .i64 h28 fun x30=>
 withCons r29 fun h31 r32=>
 withStr h31 fun s33=>
 withCons r32 fun h34 r35=>
 withStr h34 fun s36=>
 withCons r35 fun h37 r38=>
 withInt .i64 h37 fun x39=>
 withCons r38 fun h40 r41=>
 withInt .i64 h40 fun x42=>
 bif decide ((0:Int)≤z1)&&decide (z1 < ((z7.length:Nat):Int)) then (withCons ((z7.getD ((z1).toNat) .undef).cells) fun h43 r44=>
 withInt .i64 h43 fun x45=>
 bif x45==0 then ((Q14.F n x18).bind fun p46=>
 c (.z28 z1 p46 z2 z3 z4 z5 z6 z7)) else (bif x45==1 then ((Q14.F n x18).bind fun p47=>
 bif p47 then ((Q1c.F n s15 x18 x21 x24 x27 x30 s33 s36 x39 x42).bind fun p48=>
 c (.z28 z1 p48 z2 z3 z4 z5 z6 z7)) else (c (.z28 z1 false z2 z3 z4 z5 z6 z7))) else (bif x45==2 then ((Q13.F n x18).bind fun p49=>
 c (.z28 z1 p49 z2 z3 z4 z5 z6 z7)) else (bif x45==3 then ((Q13.F n x18).bind fun p50=>
 bif p50 then ((Q1c.F n s15 x18 x21 x24 x27 x30 s33 s36 x39 x42).bind fun p51=>
 c (.z28 z1 p51 z2 z3 z4 z5 z6 z7)) else (c (.z28 z1 false z2 z3 z4 z5 z6 z7))) else (bif x45==4 then ((Q13.F n x18).bind fun p52=>
 bif p52 then ((Q1c.F n s15 x18 x21 x24 x27 x30 s33 s36 x39 x42).bind fun p53=>
 bif decide ((0:Int)≤IntKind.i64.wrap (z1 - 1))&&decide (IntKind.i64.wrap (z1 - 1) < ((z6.length:Nat):Int)) then (withCons ((z6.getD ((IntKind.i64.wrap (z1 - 1)).toNat) .undef).cells) fun h54 r55=>
 withInt .i64 h54 fun x56=>
 bif decide ((0:Int)≤x56)&&decide (x56 < ((z2.length:Nat):Int)) then (withCons ((z2.getD ((x56).toNat) .undef).cells) fun h57 r58=>
 withStr h57 fun s59=>
 withCons r58 fun h60 r61=>
 withInt .i64 h60 fun x62=>
 withCons r61 fun h63 r64=>
 withInt .i64 h63 fun x65=>
 withCons r64 fun h66 r67=>
 withInt .i64 h66 fun x68=>
 withCons r67 fun h69 r70=>
 withInt .i64 h69 fun x71=>
 withCons r70 fun h72 r73=>
 withInt .i64 h72 fun x74=>
 withCons r73 fun h75 r76=>
 withStr h75 fun s77=>
 withCons r76 fun h78 r79=>
 withStr h78 fun s80=>
 withCons r79 fun h81 r82=>
 withInt .i64 h81 fun x83=>
 withCons r82 fun h84 r85=>
 withInt .i64 h84 fun x86=>
 (Q1c.F n s59 x62 x65 x68 x71 x74 s77 s80 x83 x86).bind fun p87=>
 c (.z28 z1 (p53==p87) z2 z3 z4 z5 z6 z7)) else none) else none) else (c (.z28 z1 false z2 z3 z4 z5 z6 z7))) else (bif x45==5 then (c (.z28 z1 (x18==3) z2 z3 z4 z5 z6 z7)) else (bif x45==6 then (c (.z28 z1 (x18==5) z2 z3 z4 z5 z6 z7)) else (c (.z28 z1 false z2 z3 z4 z5 z6 z7))))))))) else none) else none) else none)) else none) else (some 0)
def Q1b.r8 (n:Nat) (c:Q1b.Z→Option Int) (z1:Int) (z2 z3 z4:List AV) (z5:Int) (z6 z7:List AV):Option Int:=
 c (.z7 (IntKind.i64.wrap (z1+1)) z2 z3 z4 z5 z6 z7)
def Q1b.r28 (n:Nat) (c:Q1b.Z→Option Int) (z1:Int) (z2:Bool) (z3 z4 z5:List AV) (z6:Int) (z7 z8:List AV):Option Int:=
 bif !z2 then (some 17) else (c (.z8 z1 z3 z4 z5 z6 z7 z8))
def Q1b.r (n:Nat) (c:Q1b.Z→Option Int):Q1b.Z→Option Int
 | .z7 z1 z2 z3 z4 z5 z6 z7=>Q1b.r7 n c z1 z2 z3 z4 z5 z6 z7
 | .z8 z1 z2 z3 z4 z5 z6 z7=>Q1b.r8 n c z1 z2 z3 z4 z5 z6 z7
 | .z28 z1 z2 z3 z4 z5 z6 z7 z8=>Q1b.r28 n c z1 z2 z3 z4 z5 z6 z7 z8
def Q1b.e (n:Nat) (c:Q1b.Z→Option Int) (a0 a1 a2:List AV) (a3:Int) (a4:List AV):Option Int:=
 (Q0i.F n a3 0 18).bind fun p1=>
 bif !p1 then (some 4) else ((Q1h.F n a3).bind fun p2=>
 let y3:Bool:=((a4.length:Nat):Int) != ((p2.length:Nat):Int)
 bif y3 then (some 37) else (c (.z7 0 a0 a1 a2 a3 a4 p2)))
def Q1b.E (n:Nat) (c:Q1b.Z→Option Int):Q1b.A→Option Q1b.T:=fun (a0,a1,a2,a3,a4)=>Q1b.e n c a0 a1 a2 a3 a4
def Q1b.l (n:Nat):Nat→Q1b.Z→Option Int:=loopL (Q1b.r n)
def Q1b.F (n:Nat) (a0 a1 a2:List AV) (a3:Int) (a4:List AV):Option Int:=Q1b.e n (Q1b.l n n) a0 a1 a2 a3 a4
def Q1b.FA (n:Nat):Q1b.A→Option Q1b.T:=Q1b.E n (Q1b.l n n)
theorem Q1b.hands (n:Nat):∀ a p,Q1b.FA n a=some p→HandsIn Tryz.prog 51 (Q1b.i a) (Q1b.p p):=
 pf_hands (C:=Q1b.C n) (cut:=Q1b.cut) (t:=Q1b.t) (s:=Q1b.s) (e:=Q1b.E n) (r:=Q1b.r n) (n:=n) cfg mixed globs rfl Q1b.qi (Q1b.tells n) Tryz.func51 (by kernel_rfl) (by kernel_rfl) (fun rec a=>by kernel_rfl) (fun rec z=>by cases z <;> kernel_rfl)
def Q1b.via {R:Type} (n:Nat):List AV→(AV→Option R)→Option R:=viaK (Q1b.FA n) Q1b.o Q1b.p
theorem Q1b.tells1 {R:Type} (n:Nat) (xs:List AV):Tells1 (R:=R) Tryz.prog 51 xs (Q1b.via n xs):=tells_via Q1b.oi (fun a=>by kernel_rfl) (Q1b.hands n) xs
end Go.Proofs.YtnoldakbllfmnaaGreatDoor.Ev
namespace Go.Proofs.YtnoldakbllfmnaaGreatDoor.Ev
open Go Go.Proofs Go.Proofs.Ev
set_option linter.unusedVariables false
set_option maxRecDepth 100000
abbrev Q0z.A:=List AV × List AV × List AV
abbrev Q0z.T:=Int × Int × Int
def Q0z.i:Q0z.A→List AV:=fun (a0,a1,a2)=>[AV.agg [.sl ⟨true,74,false⟩ 10 a0,.sl ⟨false,86,false⟩ 2 a1,.sl ⟨true,82,false⟩ 4 a2]]
def Q0z.o (xs:List AV):Option Q0z.A:=match xs with | [.agg [.sl ⟨true,74,false⟩ 10 a0,.sl ⟨false,86,false⟩ 2 a1,.sl ⟨true,82,false⟩ 4 a2]]=>some (a0,a1,a2) | _=>none
theorem Q0z.oi:∀ xs a,Q0z.o xs=some a→xs=Q0z.i a:=by
 intro xs a h
 unfold Q0z.o at h
 split at h
 ·cases h; rfl
 ·cases h
def Q0z.p (p:Q0z.T):AV:=.tup [AV.agg [vi p.1,vi p.2.1],vi p.2.2]
def Q0z.q (x:AV):Option Q0z.T:=match x with | .tup [.agg [.v (.int .i64 p0),.v (.int .i64 p1)],.v (.int .i64 p2)]=>some (p0,p1,p2) | _=>none
theorem Q0z.qi:∀ x p,Q0z.q x=some p→x=Q0z.p p:=by
 intro x p h
 unfold Q0z.q at h
 split at h
 ·cases h; rfl
 ·cases h
inductive Q0z.Z where
 | z2 (z1 z2:Int)
 | z6 (z1:Int) (z2 z3 z4:List AV) (z5 z6:Int)
 | z15 (z1:Int) (z2 z3 z4:List AV) (z5 z6:Int)
 | z21 (z1:Int) (z2 z3 z4:List AV) (z5 z6:Int)
 | z25 (z1 z2 z3:Int)
def Q0z.C {R:Type} (n:Nat) (f:FuncId) (xs:List AV):(AV→Option R)→Option R:=
 bif Nat.beq f 27 then Q0i.via n xs else bif Nat.beq f 32 then Q15.via n xs else bif Nat.beq f 50 then Q1f.via n xs else bif Nat.beq f 51 then Q1b.via n xs else fun _=>none
theorem Q0z.tells {R:Type} (n:Nat):Tells (R:=R) Tryz.prog (Q0z.C n):=fun _ xs=>tells_at (Q0i.tells1 n xs) (tells_at (Q15.tells1 n xs) (tells_at (Q1f.tells1 n xs) (tells_at (Q1b.tells1 n xs) (Tells1.none))))
def Q0z.cut (r:Nat):Option Keep:=match r with | 2=>some ⟨[2],[]⟩ | 6=>some ⟨[1,2,4],[]⟩ | 15=>some ⟨[1,2,8],[]⟩ | 21=>some ⟨[1,2,10],[]⟩ | 25=>some ⟨[2,10],[]⟩ | _=>none
def Q0z.t (z:Q0z.Z):List Item:=(todoOf (match z with | .z2 _ _=>2 | .z6 _ _ _ _ _ _=>6 | .z15 _ _ _ _ _ _=>15 | .z21 _ _ _ _ _ _=>21 | .z25 _ _ _=>25) 1000 [.code (Tryz.f16.body.getD .skip)]).getD []
def Q0z.s:Q0z.Z→St
 | .z2 z1 z2=>⟨spr 125 0 [(2,.ptr 0 0)],Mem.ofList [.box 30 [vi z1,vi z2]],1⟩
 | .z6 z1 z2 z3 z4 z5 z6=>⟨spr 125 0 [(1,.ptr 0 0),(2,.ptr 1 0),(4,vi z1)],Mem.ofList [.box 26 [.sl ⟨true,74,false⟩ 10 z2,.sl ⟨false,86,false⟩ 2 z3,.sl ⟨true,82,false⟩ 4 z4],.box 30 [vi z5,vi z6]],2⟩
 | .z15 z1 z2 z3 z4 z5 z6=>⟨spr 125 0 [(1,.ptr 0 0),(2,.ptr 1 0),(8,vi z1)],Mem.ofList [.box 26 [.sl ⟨true,74,false⟩ 10 z2,.sl ⟨false,86,false⟩ 2 z3,.sl ⟨true,82,false⟩ 4 z4],.box 30 [vi z5,vi z6]],2⟩
 | .z21 z1 z2 z3 z4 z5 z6=>⟨spr 125 0 [(1,.ptr 0 0),(2,.ptr 1 0),(10,vi z1)],Mem.ofList [.box 26 [.sl ⟨true,74,false⟩ 10 z2,.sl ⟨false,86,false⟩ 2 z3,.sl ⟨true,82,false⟩ 4 z4],.box 30 [vi z5,vi z6]],2⟩
 | .z25 z1 z2 z3=>⟨spr 125 0 [(2,.ptr 0 0),(10,vi z1)],Mem.ofList [.box 30 [vi z2,vi z3]],1⟩
def Q0z.r2 (n:Nat) (c:Q0z.Z→Option (Int × Int × Int)) (z1 z2:Int):Option (Int × Int × Int):=
 some (0,0,2)
def Q0z.r6 (n:Nat) (c:Q0z.Z→Option (Int × Int × Int)) (z1:Int) (z2 z3 z4:List AV) (z5 z6:Int):Option (Int × Int × Int):=
 let y5:Bool:=decide (z1 < ((z2.length:Nat):Int))
 bif y5 then ((Q1f.F n z2 z3 z4 z1).bind fun p6=>
 bif p6 != 0 then (some (1,z1,p6)) else (c (.z6 (IntKind.i64.wrap (z1+1)) z2 z3 z4 z5 z6))) else ((Q15.F n z2 z3 z4).bind fun p7=>
 bif decide (p7.2 > 24) then (some (0,0,30)) else (c (.z15 0 z2 z3 z4 z5 z6)))
def Q0z.r15 (n:Nat) (c:Q0z.Z→Option (Int × Int × Int)) (z1:Int) (z2 z3 z4:List AV) (z5 z6:Int):Option (Int × Int × Int):=
 let y8:Bool:=decide (z1 < ((z3.length:Nat):Int))
 bif y8 then (bif decide ((0:Int)≤z1)&&decide (z1 < ((z3.length:Nat):Int)) then (withCons ((z3.getD ((z1).toNat) .undef).cells) fun h9 r10=>
 withInt .i64 h9 fun x11=>
 withCons r10 fun h12 r13=>
 withSl ⟨true,3,false⟩ 1 h12 fun xs14=>
 (Q1b.F n z2 z3 z4 x11 xs14).bind fun p15=>
 bif p15 != 0 then (some (2,z1,p15)) else (c (.z15 (IntKind.i64.wrap (z1+1)) z2 z3 z4 z5 z6))) else none) else (c (.z21 0 z2 z3 z4 z5 z6))
def Q0z.r21 (n:Nat) (c:Q0z.Z→Option (Int × Int × Int)) (z1:Int) (z2 z3 z4:List AV) (z5 z6:Int):Option (Int × Int × Int):=
 let y16:Bool:=decide (z1 < ((z4.length:Nat):Int))
 bif y16 then (bif decide ((0:Int)≤z1)&&decide (z1 < ((z4.length:Nat):Int)) then (withCons ((z4.getD ((z1).toNat) .undef).cells) fun h17 r18=>
 withInt .i64 h17 fun x19=>
 withCons r18 fun h20 r21=>
 withInt .i64 h20 fun x22=>
 withCons r21 fun h23 r24=>
 withInt .i64 h23 fun x25=>
 withCons r24 fun h26 r27=>
 withInt .i64 h26 fun x28=>
 bif decide (x19 < 0) then (c (.z25 z1 z5 z6)) else (bif decide (x19≥x22) then (c (.z25 z1 z5 z6)) else (let y29:Bool:=decide (x22 > ((z3.length:Nat):Int))
 bif y29 then (c (.z25 z1 z5 z6)) else ((Q0i.F n x25 0 999).bind fun p30=>
 bif !p30 then (c (.z25 z1 z5 z6)) else (let y31:Int:=IntKind.i64.wrap (((z3.length:Nat):Int) - 1)
 (Q0i.F n x28 0 y31).bind fun p32=>
 bif !p32 then (c (.z25 z1 z5 z6)) else (c (.z21 (IntKind.i64.wrap (z1+1)) z2 z3 z4 z5 z6))))))) else none) else (some (0,0,0))
def Q0z.r25 (n:Nat) (c:Q0z.Z→Option (Int × Int × Int)) (z1 z2 z3:Int):Option (Int × Int × Int):=
 some (3,z1,3)
def Q0z.r (n:Nat) (c:Q0z.Z→Option (Int × Int × Int)):Q0z.Z→Option (Int × Int × Int)
 | .z2 z1 z2=>Q0z.r2 n c z1 z2
 | .z6 z1 z2 z3 z4 z5 z6=>Q0z.r6 n c z1 z2 z3 z4 z5 z6
 | .z15 z1 z2 z3 z4 z5 z6=>Q0z.r15 n c z1 z2 z3 z4 z5 z6
 | .z21 z1 z2 z3 z4 z5 z6=>Q0z.r21 n c z1 z2 z3 z4 z5 z6
 | .z25 z1 z2 z3=>Q0z.r25 n c z1 z2 z3
def Q0z.e (n:Nat) (c:Q0z.Z→Option (Int × Int × Int)) (a0 a1 a2:List AV):Option (Int × Int × Int):=
 let y1:Bool:=decide (((a0.length:Nat):Int) > 24)
 bif y1 then (c (.z2 0 0)) else (let y2:Bool:=decide (((a1.length:Nat):Int) > 40)
 bif y2 then (c (.z2 0 0)) else (let y3:Bool:=decide (((a2.length:Nat):Int) > 6)
 bif y3 then (c (.z2 0 0)) else (let y4:Bool:=((a1.length:Nat):Int)==0
 bif y4 then (some (0,0,1)) else (c (.z6 0 a0 a1 a2 0 0)))))
def Q0z.E (n:Nat) (c:Q0z.Z→Option (Int × Int × Int)):Q0z.A→Option Q0z.T:=fun (a0,a1,a2)=>Q0z.e n c a0 a1 a2
def Q0z.l (n:Nat):Nat→Q0z.Z→Option (Int × Int × Int):=loopL (Q0z.r n)
def Q0z.F (n:Nat) (a0 a1 a2:List AV):Option (Int × Int × Int):=Q0z.e n (Q0z.l n n) a0 a1 a2
def Q0z.FA (n:Nat):Q0z.A→Option Q0z.T:=Q0z.E n (Q0z.l n n)
theorem Q0z.hands (n:Nat):∀ a p,Q0z.FA n a=some p→HandsIn Tryz.prog 16 (Q0z.i a) (Q0z.p p):=
 pf_hands (C:=Q0z.C n) (cut:=Q0z.cut) (t:=Q0z.t) (s:=Q0z.s) (e:=Q0z.E n) (r:=Q0z.r n) (n:=n) cfg mixed globs rfl Q0z.qi (Q0z.tells n) Tryz.func16 (by kernel_rfl) (by kernel_rfl) (fun rec a=>by kernel_rfl) (fun rec z=>by cases z <;> kernel_rfl)
def Q0z.via {R:Type} (n:Nat):List AV→(AV→Option R)→Option R:=viaK (Q0z.FA n) Q0z.o Q0z.p
theorem Q0z.tells1 {R:Type} (n:Nat) (xs:List AV):Tells1 (R:=R) Tryz.prog 16 xs (Q0z.via n xs):=tells_via Q0z.oi (fun a=>by kernel_rfl) (Q0z.hands n) xs
end Go.Proofs.YtnoldakbllfmnaaGreatDoor.Ev
namespace Go.Proofs.YtnoldakbllfmnaaGreatDoor.Ev
open Go Go.Proofs Go.Proofs.Ev
set_option linter.unusedVariables false
set_option maxRecDepth 100000
abbrev Q10.A:=List AV × List AV × List AV
abbrev Q10.T:=Int
def Q10.i:Q10.A→List AV:=fun (a0,a1,a2)=>[AV.agg [.sl ⟨true,74,false⟩ 10 a0,.sl ⟨false,86,false⟩ 2 a1,.sl ⟨true,82,false⟩ 4 a2]]
def Q10.o (xs:List AV):Option Q10.A:=match xs with | [.agg [.sl ⟨true,74,false⟩ 10 a0,.sl ⟨false,86,false⟩ 2 a1,.sl ⟨true,82,false⟩ 4 a2]]=>some (a0,a1,a2) | _=>none
theorem Q10.oi:∀ xs a,Q10.o xs=some a→xs=Q10.i a:=by
 intro xs a h
 unfold Q10.o at h
 split at h
 ·cases h; rfl
 ·cases h
def Q10.p (p:Q10.T):AV:=vi p
def Q10.q (x:AV):Option Q10.T:=match x with | .v (.int .i64 p0)=>some p0 | _=>none
theorem Q10.qi:∀ x p,Q10.q x=some p→x=Q10.p p:=by
 intro x p h
 unfold Q10.q at h
 split at h
 ·cases h; rfl
 ·cases h
def Q10.C {R:Type} (n:Nat) (f:FuncId) (xs:List AV):(AV→Option R)→Option R:=
 bif Nat.beq f 16 then Q0z.via n xs else fun _=>none
theorem Q10.tells {R:Type} (n:Nat):Tells (R:=R) Tryz.prog (Q10.C n):=fun _ xs=>tells_at (Q0z.tells1 n xs) (Tells1.none)
def Q10.cut (r:Nat):Option Keep:=match r with  | _=>none
def Q10.e (n:Nat) (a0 a1 a2:List AV):Option Int:=
 (Q0z.F n a0 a1 a2).bind fun p1=>
 some p1.2.2
def Q10.E (n:Nat):Q10.A→Option Q10.T:=fun (a0,a1,a2)=>Q10.e n a0 a1 a2
def Q10.F (n:Nat) (a0 a1 a2:List AV):Option Int:=Q10.e n a0 a1 a2
def Q10.FA (n:Nat):Q10.A→Option Q10.T:=Q10.E n
theorem Q10.hands (n:Nat):∀ a p,Q10.FA n a=some p→HandsIn Tryz.prog 18 (Q10.i a) (Q10.p p):=
 pf_hands (C:=Q10.C n) (cut:=Q10.cut) (Z:=Empty) (t:=nofun) (s:=nofun) (e:=fun _=>Q10.E n) (r:=fun _ z=>nomatch z) (n:=n) cfg mixed globs rfl Q10.qi (Q10.tells n) Tryz.func18 (by kernel_rfl) (by kernel_rfl) (fun rec a=>by kernel_rfl) (fun rec z=>nomatch z)
def Q10.via {R:Type} (n:Nat):List AV→(AV→Option R)→Option R:=viaK (Q10.FA n) Q10.o Q10.p
theorem Q10.tells1 {R:Type} (n:Nat) (xs:List AV):Tells1 (R:=R) Tryz.prog 18 xs (Q10.via n xs):=tells_via Q10.oi (fun a=>by kernel_rfl) (Q10.hands n) xs
end Go.Proofs.YtnoldakbllfmnaaGreatDoor.Ev
namespace Go.Proofs.YtnoldakbllfmnaaGreatDoor.Ev
open Go Go.Proofs Go.Proofs.Ev
set_option linter.unusedVariables false
set_option maxRecDepth 100000
def Q0q.e (n:Nat) (a0:Int):Option Int:=
 let y1:Int:=if IntKind.i64.wrap (0 - a0) > a0 then IntKind.i64.wrap (0 - a0) else a0
 some y1
def Q0q.F (n:Nat) (a0:Int):Option Int:=Q0q.e n a0
end Go.Proofs.YtnoldakbllfmnaaGreatDoor.Ev
namespace Go.Proofs.YtnoldakbllfmnaaGreatDoor.Ev
open Go Go.Proofs Go.Proofs.Ev
set_option linter.unusedVariables false
set_option maxRecDepth 100000
abbrev Q25.A:=List AV × List AV × List AV
abbrev Q25.T:=List AV × Int × Int
def Q25.i:Q25.A→List AV:=fun (a0,a1,a2)=>[AV.agg [.sl ⟨true,74,false⟩ 10 a0,.sl ⟨false,86,false⟩ 2 a1,.sl ⟨true,82,false⟩ 4 a2]]
def Q25.o (xs:List AV):Option Q25.A:=match xs with | [.agg [.sl ⟨true,74,false⟩ 10 a0,.sl ⟨false,86,false⟩ 2 a1,.sl ⟨true,82,false⟩ 4 a2]]=>some (a0,a1,a2) | _=>none
theorem Q25.oi:∀ xs a,Q25.o xs=some a→xs=Q25.i a:=by
 intro xs a h
 unfold Q25.o at h
 split at h
 ·cases h; rfl
 ·cases h
def Q25.p (p:Q25.T):AV:=.tup [.fr ⟨true,3,false⟩ 1 p.1,vi p.2.1,vi p.2.2]
def Q25.q (x:AV):Option Q25.T:=match x with | .tup [.fr ⟨true,3,false⟩ 1 p0,.v (.int .i64 p1),.v (.int .i64 p2)]=>some (p0,p1,p2) | _=>none
theorem Q25.qi:∀ x p,Q25.q x=some p→x=Q25.p p:=by
 intro x p h
 unfold Q25.q at h
 split at h
 ·cases h; rfl
 ·cases h
def Q25.C {R:Type} (n:Nat) (f:FuncId) (xs:List AV):(AV→Option R)→Option R:=
 bif Nat.beq f 46 then Q2n.via n xs else bif Nat.beq f 52 then Q2v.via n xs else fun _=>none
theorem Q25.tells {R:Type} (n:Nat):Tells (R:=R) Tryz.prog (Q25.C n):=fun _ xs=>tells_at (Q2n.tells1 n xs) (tells_at (Q2v.tells1 n xs) (Tells1.none))
def Q25.cut (r:Nat):Option Keep:=match r with  | _=>none
def Q25.e (n:Nat) (a0 a1 a2:List AV):Option (List AV × Int × Int):=
 (Q2v.F n a0 a1 a2).bind fun p1=>
 bif p1 != 0 then (some ([],0,p1)) else ((Q2n.F n a0).bind fun p2=>
 some (p2.1,p2.2,0))
def Q25.E (n:Nat):Q25.A→Option Q25.T:=fun (a0,a1,a2)=>Q25.e n a0 a1 a2
def Q25.F (n:Nat) (a0 a1 a2:List AV):Option (List AV × Int × Int):=Q25.e n a0 a1 a2
def Q25.FA (n:Nat):Q25.A→Option Q25.T:=Q25.E n
theorem Q25.hands (n:Nat):∀ a p,Q25.FA n a=some p→HandsIn Tryz.prog 30 (Q25.i a) (Q25.p p):=
 pf_hands (C:=Q25.C n) (cut:=Q25.cut) (Z:=Empty) (t:=nofun) (s:=nofun) (e:=fun _=>Q25.E n) (r:=fun _ z=>nomatch z) (n:=n) cfg mixed globs rfl Q25.qi (Q25.tells n) Tryz.func30 (by kernel_rfl) (by kernel_rfl) (fun rec a=>by kernel_rfl) (fun rec z=>nomatch z)
def Q25.via {R:Type} (n:Nat):List AV→(AV→Option R)→Option R:=viaK (Q25.FA n) Q25.o Q25.p
theorem Q25.tells1 {R:Type} (n:Nat) (xs:List AV):Tells1 (R:=R) Tryz.prog 30 xs (Q25.via n xs):=tells_via Q25.oi (fun a=>by kernel_rfl) (Q25.hands n) xs
end Go.Proofs.YtnoldakbllfmnaaGreatDoor.Ev
namespace Go.Proofs.YtnoldakbllfmnaaGreatDoor.Ev
open Go Go.Proofs Go.Proofs.Ev
set_option linter.unusedVariables false
set_option maxRecDepth 100000
abbrev Q42.A:=Int × Int × Int
abbrev Q42.T:=Bool
def Q42.i:Q42.A→List AV:=fun (a0,a1,a2)=>[vi a0,vi a1,vi a2]
def Q42.o (xs:List AV):Option Q42.A:=match xs with | [.v (.int .i64 a0),.v (.int .i64 a1),.v (.int .i64 a2)]=>some (a0,a1,a2) | _=>none
theorem Q42.oi:∀ xs a,Q42.o xs=some a→xs=Q42.i a:=by
 intro xs a h
 unfold Q42.o at h
 split at h
 ·cases h; rfl
 ·cases h
def Q42.p (p:Q42.T):AV:=vb p
def Q42.q (x:AV):Option Q42.T:=match x with | .v (.bool p0)=>some p0 | _=>none
theorem Q42.qi:∀ x p,Q42.q x=some p→x=Q42.p p:=by
 intro x p h
 unfold Q42.q at h
 split at h
 ·cases h; rfl
 ·cases h
def Q42.C {R:Type} (n:Nat) (f:FuncId) (xs:List AV):(AV→Option R)→Option R:=
 fun _=>none
theorem Q42.tells {R:Type} (n:Nat):Tells (R:=R) Tryz.prog (Q42.C n):=fun _ xs=>Tells1.none
def Q42.cut (r:Nat):Option Keep:=match r with  | _=>none
def Q42.e (n:Nat) (a0 a1 a2:Int):Option Bool:=
 bif decide (a1≤a0) then (some (decide (a0≤a2))) else (some false)
def Q42.E (n:Nat):Q42.A→Option Q42.T:=fun (a0,a1,a2)=>Q42.e n a0 a1 a2
def Q42.F (n:Nat) (a0 a1 a2:Int):Option Bool:=Q42.e n a0 a1 a2
def Q42.FA (n:Nat):Q42.A→Option Q42.T:=Q42.E n
theorem Q42.hands (n:Nat):∀ a p,Q42.FA n a=some p→HandsIn Tryz.prog 121 (Q42.i a) (Q42.p p):=
 pf_hands (C:=Q42.C n) (cut:=Q42.cut) (Z:=Empty) (t:=nofun) (s:=nofun) (e:=fun _=>Q42.E n) (r:=fun _ z=>nomatch z) (n:=n) cfg mixed globs rfl Q42.qi (Q42.tells n) Tryz.func121 (by kernel_rfl) (by kernel_rfl) (fun rec a=>by kernel_rfl) (fun rec z=>nomatch z)
def Q42.via {R:Type} (n:Nat):List AV→(AV→Option R)→Option R:=viaK (Q42.FA n) Q42.o Q42.p
theorem Q42.tells1 {R:Type} (n:Nat) (xs:List AV):Tells1 (R:=R) Tryz.prog 121 xs (Q42.via n xs):=tells_via Q42.oi (fun a=>by kernel_rfl) (Q42.hands n) xs
end Go.Proofs.YtnoldakbllfmnaaGreatDoor.Ev
namespace Go.Proofs.YtnoldakbllfmnaaGreatDoor.Ev
open Go Go.Proofs Go.Proofs.Ev
set_option linter.unusedVariables false
set_option maxRecDepth 100000
abbrev Q3w.A:=Int
abbrev Q3w.T:=ByteArray × List AV × Int
def Q3w.i:Q3w.A→List AV:=fun a0=>[vi a0]
def Q3w.o (xs:List AV):Option Q3w.A:=match xs with | [.v (.int .i64 a0)]=>some a0 | _=>none
theorem Q3w.oi:∀ xs a,Q3w.o xs=some a→xs=Q3w.i a:=by
 intro xs a h
 unfold Q3w.o at h
 split at h
 ·cases h; rfl
 ·cases h
def Q3w.p (p:Q3w.T):AV:=.tup [AV.agg [vs p.1,.fr ⟨true,4,false⟩ 1 p.2.1],vi p.2.2]
def Q3w.q (x:AV):Option Q3w.T:=match x with | .tup [.agg [.v (.string p0),.fr ⟨true,4,false⟩ 1 p1],.v (.int .i64 p2)]=>some (p0,p1,p2) | _=>none
theorem Q3w.qi:∀ x p,Q3w.q x=some p→x=Q3w.p p:=by
 intro x p h
 unfold Q3w.q at h
 split at h
 ·cases h; rfl
 ·cases h
def Q3w.C {R:Type} (n:Nat) (f:FuncId) (xs:List AV):(AV→Option R)→Option R:=
 bif Nat.beq f 121 then Q42.via n xs else bif Nat.beq f 122 then Q3k.via n xs else fun _=>none
theorem Q3w.tells {R:Type} (n:Nat):Tells (R:=R) Tryz.prog (Q3w.C n):=fun _ xs=>tells_at (Q42.tells1 n xs) (tells_at (Q3k.tells1 n xs) (Tells1.none))
def Q3w.cut (r:Nat):Option Keep:=match r with  | _=>none
def Q3w.e (n:Nat) (a0:Int):Option (ByteArray × List AV × Int):=
 (Q42.F n a0 0 64).bind fun p1=>
 bif !p1 then (some ((⟨#[]⟩ : ByteArray),[],3)) else ((Q3k.F n (⟨#[0]⟩ : ByteArray) (IntKind.i64.wrap (a0*16))).bind fun p2=>
 bif (decide ((0:Int)≤a0)&&decide ((a0:Int)≤most))&&decide ((a0:Int)=a0)&&true&&true then (let y3:List AV:=List.replicate (a0).toNat (vb false)
 some (p2,y3,0)) else none)
def Q3w.E (n:Nat):Q3w.A→Option Q3w.T:=fun a0=>Q3w.e n a0
def Q3w.F (n:Nat) (a0:Int):Option (ByteArray × List AV × Int):=Q3w.e n a0
def Q3w.FA (n:Nat):Q3w.A→Option Q3w.T:=Q3w.E n
theorem Q3w.hands (n:Nat):∀ a p,Q3w.FA n a=some p→HandsIn Tryz.prog 70 (Q3w.i a) (Q3w.p p):=
 pf_hands (C:=Q3w.C n) (cut:=Q3w.cut) (Z:=Empty) (t:=nofun) (s:=nofun) (e:=fun _=>Q3w.E n) (r:=fun _ z=>nomatch z) (n:=n) cfg mixed globs rfl Q3w.qi (Q3w.tells n) Tryz.func70 (by kernel_rfl) (by kernel_rfl) (fun rec a=>by kernel_rfl) (fun rec z=>nomatch z)
def Q3w.via {R:Type} (n:Nat):List AV→(AV→Option R)→Option R:=viaK (Q3w.FA n) Q3w.o Q3w.p
theorem Q3w.tells1 {R:Type} (n:Nat) (xs:List AV):Tells1 (R:=R) Tryz.prog 70 xs (Q3w.via n xs):=tells_via Q3w.oi (fun a=>by kernel_rfl) (Q3w.hands n) xs
end Go.Proofs.YtnoldakbllfmnaaGreatDoor.Ev
namespace Go.Proofs.YtnoldakbllfmnaaGreatDoor.Ev
open Go Go.Proofs Go.Proofs.Ev
set_option linter.unusedVariables false
set_option maxRecDepth 100000
abbrev Q1s.A:=Int × Int
abbrev Q1s.T:=List AV
def Q1s.i:Q1s.A→List AV:=fun (a0,a1)=>[vi a0,vi a1]
def Q1s.o (xs:List AV):Option Q1s.A:=match xs with | [.v (.int .i64 a0),.v (.int .i64 a1)]=>some (a0,a1) | _=>none
theorem Q1s.oi:∀ xs a,Q1s.o xs=some a→xs=Q1s.i a:=by
 intro xs a h
 unfold Q1s.o at h
 split at h
 ·cases h; rfl
 ·cases h
def Q1s.p (p:Q1s.T):AV:=.fr ⟨true,5,false⟩ 1 p
def Q1s.q (x:AV):Option Q1s.T:=match x with | .fr ⟨true,5,false⟩ 1 p0=>some p0 | _=>none
theorem Q1s.qi:∀ x p,Q1s.q x=some p→x=Q1s.p p:=by
 intro x p h
 unfold Q1s.q at h
 split at h
 ·cases h; rfl
 ·cases h
inductive Q1s.Z where
 | z3 (z1 z2:Int) (z3:List AV)
def Q1s.C {R:Type} (n:Nat) (f:FuncId) (xs:List AV):(AV→Option R)→Option R:=
 fun _=>none
theorem Q1s.tells {R:Type} (n:Nat):Tells (R:=R) Tryz.prog (Q1s.C n):=fun _ xs=>Tells1.none
def Q1s.cut (r:Nat):Option Keep:=match r with | 3=>some ⟨[0,5,6],[]⟩ | _=>none
def Q1s.t (z:Q1s.Z):List Item:=(todoOf (match z with | .z3 _ _ _=>3) 1000 [.code (Tryz.f163.body.getD .skip)]).getD []
def Q1s.s:Q1s.Z→St
 | .z3 z1 z2 z3=>⟨spr 24 0 [(0,vi z1),(5,.own 0 0 none),(6,vi z2)],Mem.ofList [.row ⟨true,5,false⟩ 1 z3],1⟩
def Q1s.r3 (n:Nat) (c:Q1s.Z→Option (List AV)) (z1 z2:Int) (z3:List AV):Option (List AV):=
 bif decide (z2≥0) then (let y2:Int:=IntKind.u8.wrap (Int.tmod z1 10)
 bif decide ((0:Int)≤z2)&&decide (z2 < ((z3.length:Nat):Int)) then (let y3:Int:=IntKind.i64.wrap (Int.tdiv z1 10)
 c (.z3 y3 (IntKind.i64.wrap (z2 - 1)) (z3.set ((z2).toNat) (vu y2)))) else none) else (some z3)
def Q1s.r (n:Nat) (c:Q1s.Z→Option (List AV)):Q1s.Z→Option (List AV)
 | .z3 z1 z2 z3=>Q1s.r3 n c z1 z2 z3
def Q1s.e (n:Nat) (c:Q1s.Z→Option (List AV)) (a0 a1:Int):Option (List AV):=
 bif (decide ((0:Int)≤a1)&&decide ((a1:Int)≤most))&&decide ((a1:Int)=a1)&&true&&true then (let y1:List AV:=List.replicate (a1).toNat (vu 0)
 c (.z3 a0 (IntKind.i64.wrap (a1 - 1)) y1)) else none
def Q1s.E (n:Nat) (c:Q1s.Z→Option (List AV)):Q1s.A→Option Q1s.T:=fun (a0,a1)=>Q1s.e n c a0 a1
def Q1s.l (n:Nat):Nat→Q1s.Z→Option (List AV):=loopL (Q1s.r n)
def Q1s.F (n:Nat) (a0 a1:Int):Option (List AV):=Q1s.e n (Q1s.l n n) a0 a1
def Q1s.FA (n:Nat):Q1s.A→Option Q1s.T:=Q1s.E n (Q1s.l n n)
theorem Q1s.hands (n:Nat):∀ a p,Q1s.FA n a=some p→HandsIn Tryz.prog 163 (Q1s.i a) (Q1s.p p):=
 pf_hands (C:=Q1s.C n) (cut:=Q1s.cut) (t:=Q1s.t) (s:=Q1s.s) (e:=Q1s.E n) (r:=Q1s.r n) (n:=n) cfg mixed globs rfl Q1s.qi (Q1s.tells n) Tryz.func163 (by kernel_rfl) (by kernel_rfl) (fun rec a=>by kernel_rfl) (fun rec z=>by cases z <;> kernel_rfl)
def Q1s.via {R:Type} (n:Nat):List AV→(AV→Option R)→Option R:=viaK (Q1s.FA n) Q1s.o Q1s.p
theorem Q1s.tells1 {R:Type} (n:Nat) (xs:List AV):Tells1 (R:=R) Tryz.prog 163 xs (Q1s.via n xs):=tells_via Q1s.oi (fun a=>by kernel_rfl) (Q1s.hands n) xs
end Go.Proofs.YtnoldakbllfmnaaGreatDoor.Ev
namespace Go.Proofs.YtnoldakbllfmnaaGreatDoor.Ev
open Go Go.Proofs Go.Proofs.Ev
set_option linter.unusedVariables false
set_option maxRecDepth 100000
abbrev Q1y.A:=List AV
abbrev Q1y.T:=ByteArray
def Q1y.i:Q1y.A→List AV:=fun a0=>[.sl ⟨true,5,false⟩ 1 a0]
def Q1y.o (xs:List AV):Option Q1y.A:=match xs with | [.sl ⟨true,5,false⟩ 1 a0]=>some a0 | _=>none
theorem Q1y.oi:∀ xs a,Q1y.o xs=some a→xs=Q1y.i a:=by
 intro xs a h
 unfold Q1y.o at h
 split at h
 ·cases h; rfl
 ·cases h
def Q1y.p (p:Q1y.T):AV:=vs p
def Q1y.q (x:AV):Option Q1y.T:=match x with | .v (.string p0)=>some p0 | _=>none
theorem Q1y.qi:∀ x p,Q1y.q x=some p→x=Q1y.p p:=by
 intro x p h
 unfold Q1y.q at h
 split at h
 ·cases h; rfl
 ·cases h
inductive Q1y.Z where
 | z3 (z1:List AV) (z2:Int) (z3:List AV)
def Q1y.C {R:Type} (n:Nat) (f:FuncId) (xs:List AV):(AV→Option R)→Option R:=
 fun _=>none
theorem Q1y.tells {R:Type} (n:Nat):Tells (R:=R) Tryz.prog (Q1y.C n):=fun _ xs=>Tells1.none
def Q1y.cut (r:Nat):Option Keep:=match r with | 3=>some ⟨[0,3,4],[(3,none,⟨true,5,false⟩,1)]⟩ | _=>none
def Q1y.t (z:Q1y.Z):List Item:=(todoOf (match z with | .z3 _ _ _=>3) 1000 [.code (Tryz.f164.body.getD .skip)]).getD []
def Q1y.s:Q1y.Z→St
 | .z3 z1 z2 z3=>⟨spr 27 0 [(0,.sl ⟨true,5,false⟩ 1 z1),(3,.own 0 0 none),(4,vi z2)],Mem.ofList [.row ⟨true,5,false⟩ 1 z3],1⟩
def Q1y.r3 (n:Nat) (c:Q1y.Z→Option ByteArray) (z1:List AV) (z2:Int) (z3:List AV):Option ByteArray:=
 let y1:Bool:=decide (z2 < ((z1.length:Nat):Int))
 bif y1 then (bif decide ((0:Int)≤z2)&&decide (z2 < ((z1.length:Nat):Int)) then (withCons ((z1.getD ((z2).toNat) .undef).cells) fun h2 r3=>
 withInt .u8 h2 fun x4=>
 let y5:Int:=IntKind.u8.wrap (x4*2 ^ min (4:Int).toNat 8)
 bif decide ((0:Int)≤IntKind.i64.wrap (z2+1))&&decide (IntKind.i64.wrap (z2+1) < ((z1.length:Nat):Int)) then (withCons ((z1.getD ((IntKind.i64.wrap (z2+1)).toNat) .undef).cells) fun h6 r7=>
 withInt .u8 h6 fun x8=>
 let y9:Int:=IntKind.u8.wrap (BitVec.ofInt 8 y5 ||| BitVec.ofInt 8 x8).toNat
 bif decide (z3.length+[vu y9].length≤most) then (c (.z3 z1 (IntKind.i64.wrap (z2+2)) (z3++[vu y9]))) else none) else none) else none) else (withSome (strOf z3) fun bs10=>
 some (⟨bs10.toArray⟩ : ByteArray))
def Q1y.r (n:Nat) (c:Q1y.Z→Option ByteArray):Q1y.Z→Option ByteArray
 | .z3 z1 z2 z3=>Q1y.r3 n c z1 z2 z3
def Q1y.e (n:Nat) (c:Q1y.Z→Option ByteArray) (a0:List AV):Option ByteArray:=
 c (.z3 a0 0 [])
def Q1y.E (n:Nat) (c:Q1y.Z→Option ByteArray):Q1y.A→Option Q1y.T:=fun a0=>Q1y.e n c a0
def Q1y.l (n:Nat):Nat→Q1y.Z→Option ByteArray:=loopL (Q1y.r n)
def Q1y.F (n:Nat) (a0:List AV):Option ByteArray:=Q1y.e n (Q1y.l n n) a0
def Q1y.FA (n:Nat):Q1y.A→Option Q1y.T:=Q1y.E n (Q1y.l n n)
theorem Q1y.hands (n:Nat):∀ a p,Q1y.FA n a=some p→HandsIn Tryz.prog 164 (Q1y.i a) (Q1y.p p):=
 pf_hands (C:=Q1y.C n) (cut:=Q1y.cut) (t:=Q1y.t) (s:=Q1y.s) (e:=Q1y.E n) (r:=Q1y.r n) (n:=n) cfg mixed globs rfl Q1y.qi (Q1y.tells n) Tryz.func164 (by kernel_rfl) (by kernel_rfl) (fun rec a=>by kernel_rfl) (fun rec z=>by cases z <;> kernel_rfl)
def Q1y.via {R:Type} (n:Nat):List AV→(AV→Option R)→Option R:=viaK (Q1y.FA n) Q1y.o Q1y.p
theorem Q1y.tells1 {R:Type} (n:Nat) (xs:List AV):Tells1 (R:=R) Tryz.prog 164 xs (Q1y.via n xs):=tells_via Q1y.oi (fun a=>by kernel_rfl) (Q1y.hands n) xs
end Go.Proofs.YtnoldakbllfmnaaGreatDoor.Ev
namespace Go.Proofs.YtnoldakbllfmnaaGreatDoor.Ev
open Go Go.Proofs Go.Proofs.Ev
set_option linter.unusedVariables false
set_option maxRecDepth 100000
abbrev Q1t.A:=Int × Int × Int × Int × ByteArray
abbrev Q1t.T:=ByteArray
def Q1t.i:Q1t.A→List AV:=fun (a0,a1,a2,a3,a4)=>[AV.agg [vi a0,vi a1,vi a2],AV.agg [vi a3,vs a4]]
def Q1t.o (xs:List AV):Option Q1t.A:=match xs with | [.agg [.v (.int .i64 a0),.v (.int .i64 a1),.v (.int .i64 a2)],.agg [.v (.int .i64 a3),.v (.string a4)]]=>some (a0,a1,a2,a3,a4) | _=>none
theorem Q1t.oi:∀ xs a,Q1t.o xs=some a→xs=Q1t.i a:=by
 intro xs a h
 unfold Q1t.o at h
 split at h
 ·cases h; rfl
 ·cases h
def Q1t.p (p:Q1t.T):AV:=vs p
def Q1t.q (x:AV):Option Q1t.T:=match x with | .v (.string p0)=>some p0 | _=>none
theorem Q1t.qi:∀ x p,Q1t.q x=some p→x=Q1t.p p:=by
 intro x p h
 unfold Q1t.q at h
 split at h
 ·cases h; rfl
 ·cases h
inductive Q1t.Z where
 | z5 (z1 z2 z3:Int) (z4:ByteArray) (z5:List AV)
 | z18 (z1:Int) (z2:List AV)
 | z22 (z1 z2:Int) (z3:List AV)
def Q1t.C {R:Type} (n:Nat) (f:FuncId) (xs:List AV):(AV→Option R)→Option R:=
 bif Nat.beq f 163 then Q1s.via n xs else bif Nat.beq f 164 then Q1y.via n xs else bif Nat.beq f 165 then Q21.via n xs else fun _=>none
theorem Q1t.tells {R:Type} (n:Nat):Tells (R:=R) Tryz.prog (Q1t.C n):=fun _ xs=>tells_at (Q1s.tells1 n xs) (tells_at (Q1y.tells1 n xs) (tells_at (Q21.tells1 n xs) (Tells1.none)))
def Q1t.cut (r:Nat):Option Keep:=match r with | 5=>some ⟨[3,5,25,26],[]⟩ | 18=>some ⟨[5,7],[]⟩ | 22=>some ⟨[8,9,10],[]⟩ | _=>none
def Q1t.t (z:Q1t.Z):List Item:=(todoOf (match z with | .z5 _ _ _ _ _=>5 | .z18 _ _=>18 | .z22 _ _ _=>22) 1000 [.code (Tryz.f123.body.getD .skip)]).getD []
def Q1t.s:Q1t.Z→St
 | .z5 z1 z2 z3 z4 z5=>⟨spr 91 0 [(3,.ptr 0 0),(5,.own 1 0 none),(25,vi z1),(26,vi z2)],Mem.ofList [.box 72 [vi z3,vs z4],.row ⟨true,5,false⟩ 1 z5],2⟩
 | .z18 z1 z2=>⟨spr 91 0 [(5,.own 0 0 none),(7,vu z1)],Mem.ofList [.row ⟨true,5,false⟩ 1 z2],1⟩
 | .z22 z1 z2 z3=>⟨spr 91 0 [(8,.own 0 0 none),(9,vi z1),(10,vi z2)],Mem.ofList [.row ⟨true,5,false⟩ 1 z3],1⟩
def Q1t.r5 (n:Nat) (c:Q1t.Z→Option ByteArray) (z1 z2 z3:Int) (z4:ByteArray) (z5:List AV):Option ByteArray:=
 bif decide (z2 < z1) then (bif decide ((0:Int)≤z2)&&decide (z2 < ((z5.length:Nat):Int)) then (withCons ((z5.getD ((z2).toNat) .undef).cells) fun h8 r9=>
 withInt .u8 h8 fun x10=>
 bif decide ((0:Int)≤z2)&&decide (z2 < ((z5.length:Nat):Int)) then (let y11:List AV:=z5.set ((z2).toNat) (vu (IntKind.u8.wrap (x10+240)))
 c (.z5 z1 (IntKind.i64.wrap (z2+1)) z3 z4 y11)) else none) else none) else (bif decide (z3 < 0) then (let y12:Int:=IntKind.i64.wrap (((z5.length:Nat):Int) - 1)
 bif decide ((0:Int)≤y12)&&decide (y12 < ((z5.length:Nat):Int)) then (withCons ((z5.getD ((y12).toNat) .undef).cells) fun h13 r14=>
 withInt .u8 h13 fun x15=>
 bif decide ((0:Int)≤y12)&&decide (y12 < ((z5.length:Nat):Int)) then (let y16:List AV:=z5.set ((y12).toNat) (vu (IntKind.u8.wrap (x15 - 32)))
 withSome (strOf y16) fun bs17=>
 some (⟨bs17.toArray⟩ : ByteArray)) else none) else none) else (withSome (strOf z5) fun bs18=>
 some (⟨bs18.toArray⟩ : ByteArray)))
def Q1t.r18 (n:Nat) (c:Q1t.Z→Option ByteArray) (z1:Int) (z2:List AV):Option ByteArray:=
 bif decide (z2.length+[vu z1].length≤most) then ((Q1y.F n (z2++[vu z1])).bind fun p19=>
 some p19) else none
def Q1t.r22 (n:Nat) (c:Q1t.Z→Option ByteArray) (z1 z2:Int) (z3:List AV):Option ByteArray:=
 bif decide (z1≥0) then (bif decide ((0:Int)≤z1)&&decide (z1 < ((z3.length:Nat):Int)) then (let y20:List AV:=z3.set ((z1).toNat) (vu (IntKind.u8.wrap z2))
 let y21:Int:=Int.fdiv z2 (2 ^ min (8:Int).toNat 64)
 c (.z22 (IntKind.i64.wrap (z1 - 1)) y21 y20)) else none) else (withSome (strOf z3) fun bs22=>
 some (⟨bs22.toArray⟩ : ByteArray))
def Q1t.r (n:Nat) (c:Q1t.Z→Option ByteArray):Q1t.Z→Option ByteArray
 | .z5 z1 z2 z3 z4 z5=>Q1t.r5 n c z1 z2 z3 z4 z5
 | .z18 z1 z2=>Q1t.r18 n c z1 z2
 | .z22 z1 z2 z3=>Q1t.r22 n c z1 z2 z3
def Q1t.e (n:Nat) (c:Q1t.Z→Option ByteArray) (a0 a1 a2 a3:Int) (a4:ByteArray):Option ByteArray:=
 let y1:Int:=if IntKind.i64.wrap (0 - a3) > a3 then IntKind.i64.wrap (0 - a3) else a3
 (Q1s.F n y1 a1).bind fun p2=>
 bif a0==2 then (c (.z5 ((p2.length:Nat):Int) 0 a3 a4 p2)) else (bif a0==1 then (bif decide (a3 < 0) then (let y3:Int:=Int.tmod ((p2.length:Nat):Int) 2
 bif y3==0 then (bif decide ([vu 0].length+p2.length≤most) then (c (.z18 13 ([vu 0]++p2))) else none) else (c (.z18 13 p2))) else (let y4:Int:=Int.tmod ((p2.length:Nat):Int) 2
 bif y4==0 then (bif decide ([vu 0].length+p2.length≤most) then (c (.z18 15 ([vu 0]++p2))) else none) else (c (.z18 15 p2)))) else (bif a0==3 then ((Q21.F n a0 a1 a2).bind fun p5=>
 bif (decide ((0:Int)≤p5)&&decide ((p5:Int)≤most))&&decide ((p5:Int)=p5)&&true&&true then (let y6:List AV:=List.replicate (p5).toNat (vu 0)
 let y7:Int:=IntKind.i64.wrap (((y6.length:Nat):Int) - 1)
 c (.z22 y7 a3 y6)) else none) else (some a4)))
def Q1t.E (n:Nat) (c:Q1t.Z→Option ByteArray):Q1t.A→Option Q1t.T:=fun (a0,a1,a2,a3,a4)=>Q1t.e n c a0 a1 a2 a3 a4
def Q1t.l (n:Nat):Nat→Q1t.Z→Option ByteArray:=loopL (Q1t.r n)
def Q1t.F (n:Nat) (a0 a1 a2 a3:Int) (a4:ByteArray):Option ByteArray:=Q1t.e n (Q1t.l n n) a0 a1 a2 a3 a4
def Q1t.FA (n:Nat):Q1t.A→Option Q1t.T:=Q1t.E n (Q1t.l n n)
theorem Q1t.hands (n:Nat):∀ a p,Q1t.FA n a=some p→HandsIn Tryz.prog 123 (Q1t.i a) (Q1t.p p):=
 pf_hands (C:=Q1t.C n) (cut:=Q1t.cut) (t:=Q1t.t) (s:=Q1t.s) (e:=Q1t.E n) (r:=Q1t.r n) (n:=n) cfg mixed globs rfl Q1t.qi (Q1t.tells n) Tryz.func123 (by kernel_rfl) (by kernel_rfl) (fun rec a=>by kernel_rfl) (fun rec z=>by cases z <;> kernel_rfl)
def Q1t.via {R:Type} (n:Nat):List AV→(AV→Option R)→Option R:=viaK (Q1t.FA n) Q1t.o Q1t.p
theorem Q1t.tells1 {R:Type} (n:Nat) (xs:List AV):Tells1 (R:=R) Tryz.prog 123 xs (Q1t.via n xs):=tells_via Q1t.oi (fun a=>by kernel_rfl) (Q1t.hands n) xs
end Go.Proofs.YtnoldakbllfmnaaGreatDoor.Ev
namespace Go.Proofs.YtnoldakbllfmnaaGreatDoor.Ev
open Go Go.Proofs Go.Proofs.Ev
set_option linter.unusedVariables false
set_option maxRecDepth 100000
abbrev Q1n.A:=Int × Int × Int × Int × ByteArray
abbrev Q1n.T:=ByteArray × Int
def Q1n.i:Q1n.A→List AV:=fun (a0,a1,a2,a3,a4)=>[AV.agg [vi a0,vi a1,vi a2],AV.agg [vi a3,vs a4]]
def Q1n.o (xs:List AV):Option Q1n.A:=match xs with | [.agg [.v (.int .i64 a0),.v (.int .i64 a1),.v (.int .i64 a2)],.agg [.v (.int .i64 a3),.v (.string a4)]]=>some (a0,a1,a2,a3,a4) | _=>none
theorem Q1n.oi:∀ xs a,Q1n.o xs=some a→xs=Q1n.i a:=by
 intro xs a h
 unfold Q1n.o at h
 split at h
 ·cases h; rfl
 ·cases h
def Q1n.p (p:Q1n.T):AV:=.tup [vs p.1,vi p.2]
def Q1n.q (x:AV):Option Q1n.T:=match x with | .tup [.v (.string p0),.v (.int .i64 p1)]=>some (p0,p1) | _=>none
theorem Q1n.qi:∀ x p,Q1n.q x=some p→x=Q1n.p p:=by
 intro x p h
 unfold Q1n.q at h
 split at h
 ·cases h; rfl
 ·cases h
def Q1n.C {R:Type} (n:Nat) (f:FuncId) (xs:List AV):(AV→Option R)→Option R:=
 bif Nat.beq f 82 then Q1m.via n xs else bif Nat.beq f 123 then Q1t.via n xs else fun _=>none
theorem Q1n.tells {R:Type} (n:Nat):Tells (R:=R) Tryz.prog (Q1n.C n):=fun _ xs=>tells_at (Q1m.tells1 n xs) (tells_at (Q1t.tells1 n xs) (Tells1.none))
def Q1n.cut (r:Nat):Option Keep:=match r with  | _=>none
def Q1n.e (n:Nat) (a0 a1 a2 a3:Int) (a4:ByteArray):Option (ByteArray × Int):=
 (Q1m.F n a0 a1 a2 a3 a4).bind fun p1=>
 bif p1 != 0 then (some ((⟨#[]⟩ : ByteArray),p1)) else ((Q1t.F n a0 a1 a2 a3 a4).bind fun p2=>
 some (p2,0))
def Q1n.E (n:Nat):Q1n.A→Option Q1n.T:=fun (a0,a1,a2,a3,a4)=>Q1n.e n a0 a1 a2 a3 a4
def Q1n.F (n:Nat) (a0 a1 a2 a3:Int) (a4:ByteArray):Option (ByteArray × Int):=Q1n.e n a0 a1 a2 a3 a4
def Q1n.FA (n:Nat):Q1n.A→Option Q1n.T:=Q1n.E n
theorem Q1n.hands (n:Nat):∀ a p,Q1n.FA n a=some p→HandsIn Tryz.prog 71 (Q1n.i a) (Q1n.p p):=
 pf_hands (C:=Q1n.C n) (cut:=Q1n.cut) (Z:=Empty) (t:=nofun) (s:=nofun) (e:=fun _=>Q1n.E n) (r:=fun _ z=>nomatch z) (n:=n) cfg mixed globs rfl Q1n.qi (Q1n.tells n) Tryz.func71 (by kernel_rfl) (by kernel_rfl) (fun rec a=>by kernel_rfl) (fun rec z=>nomatch z)
def Q1n.via {R:Type} (n:Nat):List AV→(AV→Option R)→Option R:=viaK (Q1n.FA n) Q1n.o Q1n.p
theorem Q1n.tells1 {R:Type} (n:Nat) (xs:List AV):Tells1 (R:=R) Tryz.prog 71 xs (Q1n.via n xs):=tells_via Q1n.oi (fun a=>by kernel_rfl) (Q1n.hands n) xs
end Go.Proofs.YtnoldakbllfmnaaGreatDoor.Ev
namespace Go.Proofs.YtnoldakbllfmnaaGreatDoor.Ev
open Go Go.Proofs Go.Proofs.Ev
set_option linter.unusedVariables false
set_option maxRecDepth 100000
abbrev Q40.A:=ByteArray
abbrev Q40.T:=Int
def Q40.i:Q40.A→List AV:=fun a0=>[vs a0]
def Q40.o (xs:List AV):Option Q40.A:=match xs with | [.v (.string a0)]=>some a0 | _=>none
theorem Q40.oi:∀ xs a,Q40.o xs=some a→xs=Q40.i a:=by
 intro xs a h
 unfold Q40.o at h
 split at h
 ·cases h; rfl
 ·cases h
def Q40.p (p:Q40.T):AV:=vi p
def Q40.q (x:AV):Option Q40.T:=match x with | .v (.int .i64 p0)=>some p0 | _=>none
theorem Q40.qi:∀ x p,Q40.q x=some p→x=Q40.p p:=by
 intro x p h
 unfold Q40.q at h
 split at h
 ·cases h; rfl
 ·cases h
inductive Q40.Z where
 | z3 (z1:ByteArray) (z2 z3 z4:Int)
def Q40.C {R:Type} (n:Nat) (f:FuncId) (xs:List AV):(AV→Option R)→Option R:=
 fun _=>none
theorem Q40.tells {R:Type} (n:Nat):Tells (R:=R) Tryz.prog (Q40.C n):=fun _ xs=>Tells1.none
def Q40.cut (r:Nat):Option Keep:=match r with | 3=>some ⟨[0,3,6,7],[]⟩ | _=>none
def Q40.t (z:Q40.Z):List Item:=(todoOf (match z with | .z3 _ _ _ _=>3) 1000 [.code (Tryz.f227.body.getD .skip)]).getD []
def Q40.s:Q40.Z→St
 | .z3 z1 z2 z3 z4=>⟨spr 19 0 [(0,vs z1),(3,vi z2),(6,vi z3),(7,vi z4)],Mem.ofList [],0⟩
def Q40.r3 (n:Nat) (c:Q40.Z→Option Int) (z1:ByteArray) (z2 z3 z4:Int):Option Int:=
 bif decide (z4 < z3) then (let y1:Int:=IntKind.i64.wrap (z2*2 ^ min (8:Int).toNat 64)
 bif decide ((0:Int)≤z4)&&decide (z4 < ((z1.size:Nat):Int)) then (let y2:Int:=(((z1.data.getD ((z4).toNat) 0).toNat:Nat):Int)
 let y3:Int:=IntKind.i64.wrap (BitVec.ofInt 64 y1 ||| BitVec.ofInt 64 (IntKind.i64.wrap y2)).toNat
 c (.z3 z1 y3 z3 (IntKind.i64.wrap (z4+1)))) else none) else (some z2)
def Q40.r (n:Nat) (c:Q40.Z→Option Int):Q40.Z→Option Int
 | .z3 z1 z2 z3 z4=>Q40.r3 n c z1 z2 z3 z4
def Q40.e (n:Nat) (c:Q40.Z→Option Int) (a0:ByteArray):Option Int:=
 c (.z3 a0 0 ((a0.size:Nat):Int) 0)
def Q40.E (n:Nat) (c:Q40.Z→Option Int):Q40.A→Option Q40.T:=fun a0=>Q40.e n c a0
def Q40.l (n:Nat):Nat→Q40.Z→Option Int:=loopL (Q40.r n)
def Q40.F (n:Nat) (a0:ByteArray):Option Int:=Q40.e n (Q40.l n n) a0
def Q40.FA (n:Nat):Q40.A→Option Q40.T:=Q40.E n (Q40.l n n)
theorem Q40.hands (n:Nat):∀ a p,Q40.FA n a=some p→HandsIn Tryz.prog 227 (Q40.i a) (Q40.p p):=
 pf_hands (C:=Q40.C n) (cut:=Q40.cut) (t:=Q40.t) (s:=Q40.s) (e:=Q40.E n) (r:=Q40.r n) (n:=n) cfg mixed globs rfl Q40.qi (Q40.tells n) Tryz.func227 (by kernel_rfl) (by kernel_rfl) (fun rec a=>by kernel_rfl) (fun rec z=>by cases z <;> kernel_rfl)
def Q40.via {R:Type} (n:Nat):List AV→(AV→Option R)→Option R:=viaK (Q40.FA n) Q40.o Q40.p
theorem Q40.tells1 {R:Type} (n:Nat) (xs:List AV):Tells1 (R:=R) Tryz.prog 227 xs (Q40.via n xs):=tells_via Q40.oi (fun a=>by kernel_rfl) (Q40.hands n) xs
end Go.Proofs.YtnoldakbllfmnaaGreatDoor.Ev
namespace Go.Proofs.YtnoldakbllfmnaaGreatDoor.Ev
open Go Go.Proofs Go.Proofs.Ev
set_option linter.unusedVariables false
set_option maxRecDepth 100000
abbrev Q3u.A:=Int × Int × Int × Int
abbrev Q3u.T:=Int
def Q3u.i:Q3u.A→List AV:=fun (a0,a1,a2,a3)=>[AV.agg [vi a0,vi a1,vi a2,vi a3]]
def Q3u.o (xs:List AV):Option Q3u.A:=match xs with | [.agg [.v (.int .i64 a0),.v (.int .i64 a1),.v (.int .i64 a2),.v (.int .i64 a3)]]=>some (a0,a1,a2,a3) | _=>none
theorem Q3u.oi:∀ xs a,Q3u.o xs=some a→xs=Q3u.i a:=by
 intro xs a h
 unfold Q3u.o at h
 split at h
 ·cases h; rfl
 ·cases h
def Q3u.p (p:Q3u.T):AV:=vi p
def Q3u.q (x:AV):Option Q3u.T:=match x with | .v (.int .i64 p0)=>some p0 | _=>none
theorem Q3u.qi:∀ x p,Q3u.q x=some p→x=Q3u.p p:=by
 intro x p h
 unfold Q3u.q at h
 split at h
 ·cases h; rfl
 ·cases h
inductive Q3u.Z where
 | z6
def Q3u.C {R:Type} (n:Nat) (f:FuncId) (xs:List AV):(AV→Option R)→Option R:=
 bif Nat.beq f 121 then Q42.via n xs else fun _=>none
theorem Q3u.tells {R:Type} (n:Nat):Tells (R:=R) Tryz.prog (Q3u.C n):=fun _ xs=>tells_at (Q42.tells1 n xs) (Tells1.none)
def Q3u.cut (r:Nat):Option Keep:=match r with | 6=>some ⟨[],[]⟩ | _=>none
def Q3u.t (z:Q3u.Z):List Item:=(todoOf (match z with | .z6=>6) 1000 [.code (Tryz.f228.body.getD .skip)]).getD []
def Q3u.s:Q3u.Z→St
 | .z6=>⟨spr 32 0 [],Mem.ofList [],0⟩
def Q3u.r6 (n:Nat) (c:Q3u.Z→Option Int)  : Option Int:=
 some 3
def Q3u.r (n:Nat) (c:Q3u.Z→Option Int):Q3u.Z→Option Int
 | .z6=>Q3u.r6 n c
def Q3u.e (n:Nat) (c:Q3u.Z→Option Int) (a0 a1 a2 a3:Int):Option Int:=
 (Q42.F n a0 0 2).bind fun p1=>
 bif !p1 then (some 4) else ((Q42.F n a1 0 1099511627775).bind fun p2=>
 bif !p2 then (c .z6) else ((Q42.F n a2 0 16777215).bind fun p3=>
 bif !p3 then (c .z6) else ((Q42.F n a3 0 1023).bind fun p4=>
 bif !p4 then (c .z6) else (bif a3 != 0 then (bif a0 != 1 then (some 5) else (some 0)) else (some 0)))))
def Q3u.E (n:Nat) (c:Q3u.Z→Option Int):Q3u.A→Option Q3u.T:=fun (a0,a1,a2,a3)=>Q3u.e n c a0 a1 a2 a3
def Q3u.l (n:Nat):Nat→Q3u.Z→Option Int:=loopL (Q3u.r n)
def Q3u.F (n:Nat) (a0 a1 a2 a3:Int):Option Int:=Q3u.e n (Q3u.l n n) a0 a1 a2 a3
def Q3u.FA (n:Nat):Q3u.A→Option Q3u.T:=Q3u.E n (Q3u.l n n)
theorem Q3u.hands (n:Nat):∀ a p,Q3u.FA n a=some p→HandsIn Tryz.prog 228 (Q3u.i a) (Q3u.p p):=
 pf_hands (C:=Q3u.C n) (cut:=Q3u.cut) (t:=Q3u.t) (s:=Q3u.s) (e:=Q3u.E n) (r:=Q3u.r n) (n:=n) cfg mixed globs rfl Q3u.qi (Q3u.tells n) Tryz.func228 (by kernel_rfl) (by kernel_rfl) (fun rec a=>by kernel_rfl) (fun rec z=>by cases z <;> kernel_rfl)
def Q3u.via {R:Type} (n:Nat):List AV→(AV→Option R)→Option R:=viaK (Q3u.FA n) Q3u.o Q3u.p
theorem Q3u.tells1 {R:Type} (n:Nat) (xs:List AV):Tells1 (R:=R) Tryz.prog 228 xs (Q3u.via n xs):=tells_via Q3u.oi (fun a=>by kernel_rfl) (Q3u.hands n) xs
end Go.Proofs.YtnoldakbllfmnaaGreatDoor.Ev
namespace Go.Proofs.YtnoldakbllfmnaaGreatDoor.Ev
open Go Go.Proofs Go.Proofs.Ev
set_option linter.unusedVariables false
set_option maxRecDepth 100000
abbrev Q3x.A:=ByteArray
abbrev Q3x.T:=Int × Int × Int × Int × Int
def Q3x.i:Q3x.A→List AV:=fun a0=>[vs a0]
def Q3x.o (xs:List AV):Option Q3x.A:=match xs with | [.v (.string a0)]=>some a0 | _=>none
theorem Q3x.oi:∀ xs a,Q3x.o xs=some a→xs=Q3x.i a:=by
 intro xs a h
 unfold Q3x.o at h
 split at h
 ·cases h; rfl
 ·cases h
def Q3x.p (p:Q3x.T):AV:=.tup [AV.agg [vi p.1,vi p.2.1,vi p.2.2.1,vi p.2.2.2.1],vi p.2.2.2.2]
def Q3x.q (x:AV):Option Q3x.T:=match x with | .tup [.agg [.v (.int .i64 p0),.v (.int .i64 p1),.v (.int .i64 p2),.v (.int .i64 p3)],.v (.int .i64 p4)]=>some (p0,p1,p2,p3,p4) | _=>none
theorem Q3x.qi:∀ x p,Q3x.q x=some p→x=Q3x.p p:=by
 intro x p h
 unfold Q3x.q at h
 split at h
 ·cases h; rfl
 ·cases h
def Q3x.C {R:Type} (n:Nat) (f:FuncId) (xs:List AV):(AV→Option R)→Option R:=
 bif Nat.beq f 227 then Q40.via n xs else bif Nat.beq f 228 then Q3u.via n xs else fun _=>none
theorem Q3x.tells {R:Type} (n:Nat):Tells (R:=R) Tryz.prog (Q3x.C n):=fun _ xs=>tells_at (Q40.tells1 n xs) (tells_at (Q3u.tells1 n xs) (Tells1.none))
def Q3x.cut (r:Nat):Option Keep:=match r with  | _=>none
def Q3x.e (n:Nat) (a0:ByteArray):Option (Int × Int × Int × Int × Int):=
 let y1:Bool:=((a0.size:Nat):Int) != 16
 bif y1 then (some (0,0,0,0,18)) else (bif decide ((1:Int) < (a0.size:Nat)) then (let y2:Int:=(((a0.data.getD 1 0).toNat:Nat):Int)
 bif y2 != 0 then (some (0,0,0,0,5)) else (bif decide ((0:Int) < (a0.size:Nat)) then (let y3:Int:=(((a0.data.getD 0 0).toNat:Nat):Int)
 bif decide ((0:Int)≤4)&&decide ((4:Int)≤((a0.size:Nat):Int)) then (bif decide ((0:Int)≤2)&&decide ((2:Int)≤4) then ((Q40.F n (a0.extract 2 4)).bind fun p4=>
 bif decide ((0:Int)≤10)&&decide ((10:Int)≤((a0.size:Nat):Int)) then (bif decide ((0:Int)≤4)&&decide ((4:Int)≤10) then ((Q40.F n (a0.extract 4 10)).bind fun p5=>
 bif decide ((0:Int)≤10)&&decide ((10:Int)≤((a0.size:Nat):Int)) then ((Q40.F n (a0.extract 10 a0.size)).bind fun p6=>
 (Q3u.F n (IntKind.i64.wrap y3) p5 p6 p4).bind fun p7=>
 bif p7 != 0 then (some (0,0,0,0,p7)) else (some (IntKind.i64.wrap y3,p5,p6,p4,0))) else none) else none) else none) else none) else none) else none)) else none)
def Q3x.E (n:Nat):Q3x.A→Option Q3x.T:=fun a0=>Q3x.e n a0
def Q3x.F (n:Nat) (a0:ByteArray):Option (Int × Int × Int × Int × Int):=Q3x.e n a0
def Q3x.FA (n:Nat):Q3x.A→Option Q3x.T:=Q3x.E n
theorem Q3x.hands (n:Nat):∀ a p,Q3x.FA n a=some p→HandsIn Tryz.prog 195 (Q3x.i a) (Q3x.p p):=
 pf_hands (C:=Q3x.C n) (cut:=Q3x.cut) (Z:=Empty) (t:=nofun) (s:=nofun) (e:=fun _=>Q3x.E n) (r:=fun _ z=>nomatch z) (n:=n) cfg mixed globs rfl Q3x.qi (Q3x.tells n) Tryz.func195 (by kernel_rfl) (by kernel_rfl) (fun rec a=>by kernel_rfl) (fun rec z=>nomatch z)
def Q3x.via {R:Type} (n:Nat):List AV→(AV→Option R)→Option R:=viaK (Q3x.FA n) Q3x.o Q3x.p
theorem Q3x.tells1 {R:Type} (n:Nat) (xs:List AV):Tells1 (R:=R) Tryz.prog 195 xs (Q3x.via n xs):=tells_via Q3x.oi (fun a=>by kernel_rfl) (Q3x.hands n) xs
end Go.Proofs.YtnoldakbllfmnaaGreatDoor.Ev
namespace Go.Proofs.YtnoldakbllfmnaaGreatDoor.Ev
open Go Go.Proofs Go.Proofs.Ev
set_option linter.unusedVariables false
set_option maxRecDepth 100000
abbrev Q3v.A:=ByteArray × List AV
abbrev Q3v.T:=Int × Int
def Q3v.i:Q3v.A→List AV:=fun (a0,a1)=>[AV.agg [vs a0,.sl ⟨true,4,false⟩ 1 a1]]
def Q3v.o (xs:List AV):Option Q3v.A:=match xs with | [.agg [.v (.string a0),.sl ⟨true,4,false⟩ 1 a1]]=>some (a0,a1) | _=>none
theorem Q3v.oi:∀ xs a,Q3v.o xs=some a→xs=Q3v.i a:=by
 intro xs a h
 unfold Q3v.o at h
 split at h
 ·cases h; rfl
 ·cases h
def Q3v.p (p:Q3v.T):AV:=.tup [vi p.1,vi p.2]
def Q3v.q (x:AV):Option Q3v.T:=match x with | .tup [.v (.int .i64 p0),.v (.int .i64 p1)]=>some (p0,p1) | _=>none
theorem Q3v.qi:∀ x p,Q3v.q x=some p→x=Q3v.p p:=by
 intro x p h
 unfold Q3v.q at h
 split at h
 ·cases h; rfl
 ·cases h
inductive Q3v.Z where
 | z9 (z1:List AV) (z2 z3:Int) (z4:ByteArray) (z5:List AV)
def Q3v.C {R:Type} (n:Nat) (f:FuncId) (xs:List AV):(AV→Option R)→Option R:=
 bif Nat.beq f 195 then Q3x.via n xs else fun _=>none
theorem Q3v.tells {R:Type} (n:Nat):Tells (R:=R) Tryz.prog (Q3v.C n):=fun _ xs=>tells_at (Q3x.tells1 n xs) (Tells1.none)
def Q3v.cut (r:Nat):Option Keep:=match r with | 9=>some ⟨[1,27,28,29],[]⟩ | _=>none
def Q3v.t (z:Q3v.Z):List Item:=(todoOf (match z with | .z9 _ _ _ _ _=>9) 1000 [.code (Tryz.f166.body.getD .skip)]).getD []
def Q3v.s:Q3v.Z→St
 | .z9 z1 z2 z3 z4 z5=>⟨spr 55 0 [(1,.ptr 0 0),(27,.sl ⟨true,4,false⟩ 1 z1),(28,vi z2),(29,vi z3)],Mem.ofList [.box 62 [vs z4,.sl ⟨true,4,false⟩ 1 z5]],1⟩
def Q3v.r9 (n:Nat) (c:Q3v.Z→Option (Int × Int)) (z1:List AV) (z2 z3:Int) (z4:ByteArray) (z5:List AV):Option (Int × Int):=
 bif decide (z3 < z2) then (bif decide ((0:Int)≤z3)&&decide (z3 < ((z1.length:Nat):Int)) then (withCons ((z1.getD ((z3).toNat) .undef).cells) fun h5 r6=>
 withBool h5 fun b7=>
 bif !b7 then (c (.z9 z1 z2 (IntKind.i64.wrap (z3+1)) z4 z5)) else (let y8:Int:=IntKind.i64.wrap ((IntKind.i64.wrap (z3*16))+16)
 bif decide ((0:Int)≤y8)&&decide ((y8:Int)≤((z4.size:Nat):Int)) then (bif decide ((0:Int)≤IntKind.i64.wrap (z3*16))&&decide ((IntKind.i64.wrap (z3*16):Int)≤y8) then (let y9:ByteArray:=z4.extract (IntKind.i64.wrap (z3*16)).toNat (y8).toNat
 (Q3x.F n y9).bind fun p10=>
 bif p10.2.2.2.2 != 0 then (some (z3,22)) else (c (.z9 z1 z2 (IntKind.i64.wrap (z3+1)) z4 z5))) else none) else none)) else none) else (some (((z5.length:Nat):Int),0))
def Q3v.r (n:Nat) (c:Q3v.Z→Option (Int × Int)):Q3v.Z→Option (Int × Int)
 | .z9 z1 z2 z3 z4 z5=>Q3v.r9 n c z1 z2 z3 z4 z5
def Q3v.e (n:Nat) (c:Q3v.Z→Option (Int × Int)) (a0:ByteArray) (a1:List AV):Option (Int × Int):=
 let y1:Bool:=decide (((a0.size:Nat):Int) > 1024)
 bif y1 then (some (0,2)) else (let y2:Int:=Int.tmod ((a0.size:Nat):Int) 16
 bif y2 != 0 then (some (0,18)) else (let y3:Int:=IntKind.i64.wrap (Int.tdiv ((a0.size:Nat):Int) 16)
 let y4:Bool:=((a1.length:Nat):Int) != y3
 bif y4 then (some (0,6)) else (c (.z9 a1 ((a1.length:Nat):Int) 0 a0 a1))))
def Q3v.E (n:Nat) (c:Q3v.Z→Option (Int × Int)):Q3v.A→Option Q3v.T:=fun (a0,a1)=>Q3v.e n c a0 a1
def Q3v.l (n:Nat):Nat→Q3v.Z→Option (Int × Int):=loopL (Q3v.r n)
def Q3v.F (n:Nat) (a0:ByteArray) (a1:List AV):Option (Int × Int):=Q3v.e n (Q3v.l n n) a0 a1
def Q3v.FA (n:Nat):Q3v.A→Option Q3v.T:=Q3v.E n (Q3v.l n n)
theorem Q3v.hands (n:Nat):∀ a p,Q3v.FA n a=some p→HandsIn Tryz.prog 166 (Q3v.i a) (Q3v.p p):=
 pf_hands (C:=Q3v.C n) (cut:=Q3v.cut) (t:=Q3v.t) (s:=Q3v.s) (e:=Q3v.E n) (r:=Q3v.r n) (n:=n) cfg mixed globs rfl Q3v.qi (Q3v.tells n) Tryz.func166 (by kernel_rfl) (by kernel_rfl) (fun rec a=>by kernel_rfl) (fun rec z=>by cases z <;> kernel_rfl)
def Q3v.via {R:Type} (n:Nat):List AV→(AV→Option R)→Option R:=viaK (Q3v.FA n) Q3v.o Q3v.p
theorem Q3v.tells1 {R:Type} (n:Nat) (xs:List AV):Tells1 (R:=R) Tryz.prog 166 xs (Q3v.via n xs):=tells_via Q3v.oi (fun a=>by kernel_rfl) (Q3v.hands n) xs
end Go.Proofs.YtnoldakbllfmnaaGreatDoor.Ev
namespace Go.Proofs.YtnoldakbllfmnaaGreatDoor.Ev
open Go Go.Proofs Go.Proofs.Ev
set_option linter.unusedVariables false
set_option maxRecDepth 100000
abbrev Q3z.A:=ByteArray × List AV × Int × Int
abbrev Q3z.T:=Int
def Q3z.i:Q3z.A→List AV:=fun (a0,a1,a2,a3)=>[AV.agg [vs a0,.sl ⟨true,4,false⟩ 1 a1],vi a2,vi a3]
def Q3z.o (xs:List AV):Option Q3z.A:=match xs with | [.agg [.v (.string a0),.sl ⟨true,4,false⟩ 1 a1],.v (.int .i64 a2),.v (.int .i64 a3)]=>some (a0,a1,a2,a3) | _=>none
theorem Q3z.oi:∀ xs a,Q3z.o xs=some a→xs=Q3z.i a:=by
 intro xs a h
 unfold Q3z.o at h
 split at h
 ·cases h; rfl
 ·cases h
def Q3z.p (p:Q3z.T):AV:=vi p
def Q3z.q (x:AV):Option Q3z.T:=match x with | .v (.int .i64 p0)=>some p0 | _=>none
theorem Q3z.qi:∀ x p,Q3z.q x=some p→x=Q3z.p p:=by
 intro x p h
 unfold Q3z.q at h
 split at h
 ·cases h; rfl
 ·cases h
inductive Q3z.Z where
 | z5
def Q3z.C {R:Type} (n:Nat) (f:FuncId) (xs:List AV):(AV→Option R)→Option R:=
 bif Nat.beq f 166 then Q3v.via n xs else fun _=>none
theorem Q3z.tells {R:Type} (n:Nat):Tells (R:=R) Tryz.prog (Q3z.C n):=fun _ xs=>tells_at (Q3v.tells1 n xs) (Tells1.none)
def Q3z.cut (r:Nat):Option Keep:=match r with | 5=>some ⟨[],[]⟩ | _=>none
def Q3z.t (z:Q3z.Z):List Item:=(todoOf (match z with | .z5=>5) 1000 [.code (Tryz.f124.body.getD .skip)]).getD []
def Q3z.s:Q3z.Z→St
 | .z5=>⟨spr 39 0 [],Mem.ofList [],0⟩
def Q3z.r5 (n:Nat) (c:Q3z.Z→Option Int)  : Option Int:=
 some 3
def Q3z.r (n:Nat) (c:Q3z.Z→Option Int):Q3z.Z→Option Int
 | .z5=>Q3z.r5 n c
def Q3z.e (n:Nat) (c:Q3z.Z→Option Int) (a0:ByteArray) (a1:List AV) (a2 a3:Int):Option Int:=
 (Q3v.F n a0 a1).bind fun p1=>
 bif p1.2 != 0 then (some p1.2) else (bif decide (a2 < 0) then (c .z5) else (bif decide (a3 < 0) then (c .z5) else (let y2:Bool:=decide (a2 > ((a0.size:Nat):Int))
 bif y2 then (c .z5) else (let y3:Int:=IntKind.i64.wrap (((a0.size:Nat):Int) - a2)
 bif decide (a3 > y3) then (c .z5) else (some 0)))))
def Q3z.E (n:Nat) (c:Q3z.Z→Option Int):Q3z.A→Option Q3z.T:=fun (a0,a1,a2,a3)=>Q3z.e n c a0 a1 a2 a3
def Q3z.l (n:Nat):Nat→Q3z.Z→Option Int:=loopL (Q3z.r n)
def Q3z.F (n:Nat) (a0:ByteArray) (a1:List AV) (a2 a3:Int):Option Int:=Q3z.e n (Q3z.l n n) a0 a1 a2 a3
def Q3z.FA (n:Nat):Q3z.A→Option Q3z.T:=Q3z.E n (Q3z.l n n)
theorem Q3z.hands (n:Nat):∀ a p,Q3z.FA n a=some p→HandsIn Tryz.prog 124 (Q3z.i a) (Q3z.p p):=
 pf_hands (C:=Q3z.C n) (cut:=Q3z.cut) (t:=Q3z.t) (s:=Q3z.s) (e:=Q3z.E n) (r:=Q3z.r n) (n:=n) cfg mixed globs rfl Q3z.qi (Q3z.tells n) Tryz.func124 (by kernel_rfl) (by kernel_rfl) (fun rec a=>by kernel_rfl) (fun rec z=>by cases z <;> kernel_rfl)
def Q3z.via {R:Type} (n:Nat):List AV→(AV→Option R)→Option R:=viaK (Q3z.FA n) Q3z.o Q3z.p
theorem Q3z.tells1 {R:Type} (n:Nat) (xs:List AV):Tells1 (R:=R) Tryz.prog 124 xs (Q3z.via n xs):=tells_via Q3z.oi (fun a=>by kernel_rfl) (Q3z.hands n) xs
end Go.Proofs.YtnoldakbllfmnaaGreatDoor.Ev
namespace Go.Proofs
open Go.Shelf
def Tryz.lay167_ren:Go.Shelf.Ren:=⟨fun | 41=>167 | n=>n,fun | 22=>60 | 23=>4 | 4=>4 | n=>n,fun | n=>n⟩
theorem Tryz.lay167:Go.Proofs.SlLaysE0.n41 Tryz.prog Tryz.lay167_ren:={
  mixed:=by kernel_rfl
  f41:=⟨Tryz.f167.name,by decide,Tryz.func167.trans (congrArg some (by kernel_rfl))⟩
  t4:=Tryz.underlying4
  a4:=Tryz.isAgg4
  z4:=Tryz.sizeOf4
  v4:=Tryz.zeroValue4
  t22:=Tryz.underlying60
  a22:=Tryz.isAgg60
  z22:=Tryz.sizeOf60
  v22:=Tryz.zeroValue60 }
end Go.Proofs
namespace Go.Proofs.YtnoldakbllfmnaaGreatDoor.Ev
open Go Go.Proofs Go.Proofs.Ev
set_option linter.unusedVariables false
set_option maxRecDepth 100000
def Q33.F (n:Nat) (xs:List AV):Option (List AV):=bif decide (xs.length≤most) then Option.some xs else none
theorem Q33.hands (n:Nat) (xs:List AV) {p:List AV} (h:Q33.F n xs=some p):HandsIn Tryz.prog 167 [.sl ⟨true,4,false⟩ 1 xs] (.fr ⟨true,4,false⟩ 1 p):=by
 unfold Q33.F at h
 cases hc:decide (xs.length≤most) with
 | false=>rw [hc] at h; cases h
 | true=>
  rw [hc] at h
  cases h
  exact clone_hands (G:=G) Tryz.lay167 cfg (ei:=⟨.bool,1,1,false,[.bool],[.bool false],4⟩) rfl (by decide) (by decide) (by rfl) (fn:=Tryz.f167) Tryz.func167 (by kernel_rfl) (by kernel_rfl) xs (of_decide_eq_true hc)
def Q33.via {R:Type} (n:Nat) (ys:List AV):(AV→Option R)→Option R:=match ys with | [.sl ⟨true,4,false⟩ 1 xs]=>fun K=>(Q33.F n xs).bind fun p=>K (.fr ⟨true,4,false⟩ 1 p) | _=>fun _=>none
theorem Q33.tells1 {R:Type} (n:Nat) (ys:List AV):Tells1 (R:=R) Tryz.prog 167 ys (Q33.via n ys):=by
 unfold Q33.via
 split
 ·exact Tells1.of (fun p hp=>(Q33.hands n _ hp).hands rfl)
 ·exact Tells1.none
end Go.Proofs.YtnoldakbllfmnaaGreatDoor.Ev
namespace Go.Proofs.YtnoldakbllfmnaaGreatDoor.Ev
open Go Go.Proofs Go.Proofs.Ev
set_option linter.unusedVariables false
set_option maxRecDepth 100000
abbrev Q41.A:=ByteArray × List AV × Int × ByteArray
abbrev Q41.T:=ByteArray × List AV
def Q41.i:Q41.A→List AV:=fun (a0,a1,a2,a3)=>[AV.agg [vs a0,.sl ⟨true,4,false⟩ 1 a1],vi a2,vs a3]
def Q41.o (xs:List AV):Option Q41.A:=match xs with | [.agg [.v (.string a0),.sl ⟨true,4,false⟩ 1 a1],.v (.int .i64 a2),.v (.string a3)]=>some (a0,a1,a2,a3) | _=>none
theorem Q41.oi:∀ xs a,Q41.o xs=some a→xs=Q41.i a:=by
 intro xs a h
 unfold Q41.o at h
 split at h
 ·cases h; rfl
 ·cases h
def Q41.p (p:Q41.T):AV:=AV.agg [vs p.1,.fr ⟨true,4,false⟩ 1 p.2]
def Q41.q (x:AV):Option Q41.T:=match x with | .agg [.v (.string p0),.fr ⟨true,4,false⟩ 1 p1]=>some (p0,p1) | _=>none
theorem Q41.qi:∀ x p,Q41.q x=some p→x=Q41.p p:=by
 intro x p h
 unfold Q41.q at h
 split at h
 ·cases h; rfl
 ·cases h
def Q41.C {R:Type} (n:Nat) (f:FuncId) (xs:List AV):(AV→Option R)→Option R:=
 bif Nat.beq f 167 then Q33.via n xs else fun _=>none
theorem Q41.tells {R:Type} (n:Nat):Tells (R:=R) Tryz.prog (Q41.C n):=fun _ xs=>tells_at (Q33.tells1 n xs) (Tells1.none)
def Q41.cut (r:Nat):Option Keep:=match r with  | _=>none
def Q41.e (n:Nat) (a0:ByteArray) (a1:List AV) (a2:Int) (a3:ByteArray):Option (ByteArray × List AV):=
 bif decide ((0:Int)≤a2)&&decide ((a2:Int)≤((a0.size:Nat):Int)) then (chk (decide ((a0.extract 0 (a2).toNat).size+a3.size≤9223372036854775807)) (let y1:ByteArray:=(a0.extract 0 (a2).toNat)++a3
 let y2:Int:=IntKind.i64.wrap (a2+((a3.size:Nat):Int))
 bif decide ((0:Int)≤y2)&&decide ((y2:Int)≤((a0.size:Nat):Int)) then (let y3:ByteArray:=a0.extract (y2).toNat a0.size
 chk (decide (y1.size+y3.size≤9223372036854775807)) ((Q33.F n a1).bind fun p4=>
 let y5:Bool:=!(a3.toList==(⟨#[]⟩ : ByteArray).toList)
 bif y5 then (let y6:Int:=IntKind.i64.wrap (Int.tdiv a2 16)
 let y7:Int:=IntKind.i64.wrap (a2+((a3.size:Nat):Int))
 let y8:Int:=IntKind.i64.wrap (Int.tdiv (IntKind.i64.wrap (y7 - 1)) 16)
 bif decide ((0:Int)≤IntKind.i64.wrap (y8+1))&&decide ((IntKind.i64.wrap (y8+1):Int)≤((p4.length:Nat):Int)) then (bif decide ((0:Int)≤y6)&&decide ((y6:Int)≤IntKind.i64.wrap (y8+1)) then (let y9:List AV:=p4.take ((y6).toNat)++List.replicate (((IntKind.i64.wrap (y8+1)) - y6).toNat) (vb false)++p4.drop (((IntKind.i64.wrap (y8+1)) - y6).toNat+((y6).toNat))
 some (y1++y3,y9)) else none) else none) else (some (y1++y3,p4)))) else none)) else none
def Q41.E (n:Nat):Q41.A→Option Q41.T:=fun (a0,a1,a2,a3)=>Q41.e n a0 a1 a2 a3
def Q41.F (n:Nat) (a0:ByteArray) (a1:List AV) (a2:Int) (a3:ByteArray):Option (ByteArray × List AV):=Q41.e n a0 a1 a2 a3
def Q41.FA (n:Nat):Q41.A→Option Q41.T:=Q41.E n
theorem Q41.hands (n:Nat):∀ a p,Q41.FA n a=some p→HandsIn Tryz.prog 125 (Q41.i a) (Q41.p p):=
 pf_hands (C:=Q41.C n) (cut:=Q41.cut) (Z:=Empty) (t:=nofun) (s:=nofun) (e:=fun _=>Q41.E n) (r:=fun _ z=>nomatch z) (n:=n) cfg mixed globs rfl Q41.qi (Q41.tells n) Tryz.func125 (by kernel_rfl) (by kernel_rfl) (fun rec a=>by kernel_rfl) (fun rec z=>nomatch z)
def Q41.via {R:Type} (n:Nat):List AV→(AV→Option R)→Option R:=viaK (Q41.FA n) Q41.o Q41.p
theorem Q41.tells1 {R:Type} (n:Nat) (xs:List AV):Tells1 (R:=R) Tryz.prog 125 xs (Q41.via n xs):=tells_via Q41.oi (fun a=>by kernel_rfl) (Q41.hands n) xs
end Go.Proofs.YtnoldakbllfmnaaGreatDoor.Ev
namespace Go.Proofs.YtnoldakbllfmnaaGreatDoor.Ev
open Go Go.Proofs Go.Proofs.Ev
set_option linter.unusedVariables false
set_option maxRecDepth 100000
abbrev Q3y.A:=ByteArray × List AV × Int × ByteArray
abbrev Q3y.T:=ByteArray × List AV × Int
def Q3y.i:Q3y.A→List AV:=fun (a0,a1,a2,a3)=>[AV.agg [vs a0,.sl ⟨true,4,false⟩ 1 a1],vi a2,vs a3]
def Q3y.o (xs:List AV):Option Q3y.A:=match xs with | [.agg [.v (.string a0),.sl ⟨true,4,false⟩ 1 a1],.v (.int .i64 a2),.v (.string a3)]=>some (a0,a1,a2,a3) | _=>none
theorem Q3y.oi:∀ xs a,Q3y.o xs=some a→xs=Q3y.i a:=by
 intro xs a h
 unfold Q3y.o at h
 split at h
 ·cases h; rfl
 ·cases h
def Q3y.p (p:Q3y.T):AV:=.tup [AV.agg [vs p.1,.fr ⟨true,4,false⟩ 1 p.2.1],vi p.2.2]
def Q3y.q (x:AV):Option Q3y.T:=match x with | .tup [.agg [.v (.string p0),.fr ⟨true,4,false⟩ 1 p1],.v (.int .i64 p2)]=>some (p0,p1,p2) | _=>none
theorem Q3y.qi:∀ x p,Q3y.q x=some p→x=Q3y.p p:=by
 intro x p h
 unfold Q3y.q at h
 split at h
 ·cases h; rfl
 ·cases h
def Q3y.C {R:Type} (n:Nat) (f:FuncId) (xs:List AV):(AV→Option R)→Option R:=
 bif Nat.beq f 124 then Q3z.via n xs else bif Nat.beq f 125 then Q41.via n xs else fun _=>none
theorem Q3y.tells {R:Type} (n:Nat):Tells (R:=R) Tryz.prog (Q3y.C n):=fun _ xs=>tells_at (Q3z.tells1 n xs) (tells_at (Q41.tells1 n xs) (Tells1.none))
def Q3y.cut (r:Nat):Option Keep:=match r with  | _=>none
def Q3y.e (n:Nat) (a0:ByteArray) (a1:List AV) (a2:Int) (a3:ByteArray):Option (ByteArray × List AV × Int):=
 (Q3z.F n a0 a1 a2 ((a3.size:Nat):Int)).bind fun p1=>
 bif p1 != 0 then (some ((⟨#[]⟩ : ByteArray),[],p1)) else ((Q41.F n a0 a1 a2 a3).bind fun p2=>
 some (p2.1,p2.2,0))
def Q3y.E (n:Nat):Q3y.A→Option Q3y.T:=fun (a0,a1,a2,a3)=>Q3y.e n a0 a1 a2 a3
def Q3y.F (n:Nat) (a0:ByteArray) (a1:List AV) (a2:Int) (a3:ByteArray):Option (ByteArray × List AV × Int):=Q3y.e n a0 a1 a2 a3
def Q3y.FA (n:Nat):Q3y.A→Option Q3y.T:=Q3y.E n
theorem Q3y.hands (n:Nat):∀ a p,Q3y.FA n a=some p→HandsIn Tryz.prog 72 (Q3y.i a) (Q3y.p p):=
 pf_hands (C:=Q3y.C n) (cut:=Q3y.cut) (Z:=Empty) (t:=nofun) (s:=nofun) (e:=fun _=>Q3y.E n) (r:=fun _ z=>nomatch z) (n:=n) cfg mixed globs rfl Q3y.qi (Q3y.tells n) Tryz.func72 (by kernel_rfl) (by kernel_rfl) (fun rec a=>by kernel_rfl) (fun rec z=>nomatch z)
def Q3y.via {R:Type} (n:Nat):List AV→(AV→Option R)→Option R:=viaK (Q3y.FA n) Q3y.o Q3y.p
theorem Q3y.tells1 {R:Type} (n:Nat) (xs:List AV):Tells1 (R:=R) Tryz.prog 72 xs (Q3y.via n xs):=tells_via Q3y.oi (fun a=>by kernel_rfl) (Q3y.hands n) xs
end Go.Proofs.YtnoldakbllfmnaaGreatDoor.Ev
namespace Go.Proofs.YtnoldakbllfmnaaGreatDoor.Ev
open Go Go.Proofs Go.Proofs.Ev
set_option linter.unusedVariables false
set_option maxRecDepth 100000
abbrev Q24.A:=List AV × List AV × List AV
abbrev Q24.T:=ByteArray × List AV × Int
def Q24.i:Q24.A→List AV:=fun (a0,a1,a2)=>[AV.agg [.sl ⟨true,74,false⟩ 10 a0,.sl ⟨false,86,false⟩ 2 a1,.sl ⟨true,82,false⟩ 4 a2]]
def Q24.o (xs:List AV):Option Q24.A:=match xs with | [.agg [.sl ⟨true,74,false⟩ 10 a0,.sl ⟨false,86,false⟩ 2 a1,.sl ⟨true,82,false⟩ 4 a2]]=>some (a0,a1,a2) | _=>none
theorem Q24.oi:∀ xs a,Q24.o xs=some a→xs=Q24.i a:=by
 intro xs a h
 unfold Q24.o at h
 split at h
 ·cases h; rfl
 ·cases h
def Q24.p (p:Q24.T):AV:=.tup [AV.agg [vs p.1,.fr ⟨true,4,false⟩ 1 p.2.1],vi p.2.2]
def Q24.q (x:AV):Option Q24.T:=match x with | .tup [.agg [.v (.string p0),.fr ⟨true,4,false⟩ 1 p1],.v (.int .i64 p2)]=>some (p0,p1,p2) | _=>none
theorem Q24.qi:∀ x p,Q24.q x=some p→x=Q24.p p:=by
 intro x p h
 unfold Q24.q at h
 split at h
 ·cases h; rfl
 ·cases h
inductive Q24.Z where
 | z7 (z1:Int) (z2:List AV) (z3 z4:Int) (z5:ByteArray) (z6:List AV) (z7:ByteArray) (z8:List AV)
 | z14 (z1:Int) (z2:List AV) (z3 z4:Int) (z5:ByteArray) (z6:List AV) (z7:ByteArray) (z8:List AV)
def Q24.C {R:Type} (n:Nat) (f:FuncId) (xs:List AV):(AV→Option R)→Option R:=
 bif Nat.beq f 46 then Q2n.via n xs else bif Nat.beq f 52 then Q2v.via n xs else bif Nat.beq f 70 then Q3w.via n xs else bif Nat.beq f 71 then Q1n.via n xs else bif Nat.beq f 72 then Q3y.via n xs else fun _=>none
theorem Q24.tells {R:Type} (n:Nat):Tells (R:=R) Tryz.prog (Q24.C n):=fun _ xs=>tells_at (Q2n.tells1 n xs) (tells_at (Q2v.tells1 n xs) (tells_at (Q3w.tells1 n xs) (tells_at (Q1n.tells1 n xs) (tells_at (Q3y.tells1 n xs) (Tells1.none)))))
def Q24.cut (r:Nat):Option Keep:=match r with | 7=>some ⟨[2,5,7,8,31,32,33],[]⟩ | 14=>some ⟨[2,5,7,8,31,32,33],[]⟩ | _=>none
def Q24.t (z:Q24.Z):List Item:=(todoOf (match z with | .z7 _ _ _ _ _ _ _ _=>7 | .z14 _ _ _ _ _ _ _ _=>14) 1000 [.code (Tryz.f31.body.getD .skip)]).getD []
def Q24.s:Q24.Z→St
 | .z7 z1 z2 z3 z4 z5 z6 z7 z8=>⟨spr 70 0 [(2,.ptr 0 0),(5,.own 1 0 none),(7,.ptr 2 0),(8,vi z1),(31,.sl ⟨true,74,false⟩ 10 z2),(32,vi z3),(33,vi z4)],Mem.ofList [.box 62 [vs z5,.v (.slice none 0 0)],.row ⟨true,3,false⟩ 1 z6,.box 62 [vs z7,.own 3 0 none],.row ⟨true,4,false⟩ 1 z8],4⟩
 | .z14 z1 z2 z3 z4 z5 z6 z7 z8=>⟨spr 70 0 [(2,.ptr 0 0),(5,.own 1 0 none),(7,.ptr 2 0),(8,vi z1),(31,.sl ⟨true,74,false⟩ 10 z2),(32,vi z3),(33,vi z4)],Mem.ofList [.box 62 [vs z5,.v (.slice none 0 0)],.row ⟨true,3,false⟩ 1 z6,.box 62 [vs z7,.own 3 0 none],.row ⟨true,4,false⟩ 1 z8],4⟩
def Q24.r7 (n:Nat) (c:Q24.Z→Option (ByteArray × List AV × Int)) (z1:Int) (z2:List AV) (z3 z4:Int) (z5:ByteArray) (z6:List AV) (z7:ByteArray) (z8:List AV):Option (ByteArray × List AV × Int):=
 bif decide (z4 < z3) then (bif decide ((0:Int)≤z4)&&decide (z4 < ((z2.length:Nat):Int)) then (withCons ((z2.getD ((z4).toNat) .undef).cells) fun h4 r5=>
 withStr h4 fun s6=>
 withCons r5 fun h7 r8=>
 withInt .i64 h7 fun x9=>
 withCons r8 fun h10 r11=>
 withInt .i64 h10 fun x12=>
 withCons r11 fun h13 r14=>
 withInt .i64 h13 fun x15=>
 withCons r14 fun h16 r17=>
 withInt .i64 h16 fun x18=>
 withCons r17 fun h19 r20=>
 withInt .i64 h19 fun x21=>
 withCons r20 fun h22 r23=>
 withStr h22 fun s24=>
 withCons r23 fun h25 r26=>
 withStr h25 fun s27=>
 withCons r26 fun h28 r29=>
 withInt .i64 h28 fun x30=>
 withCons r29 fun h31 r32=>
 withInt .i64 h31 fun x33=>
 bif x9 != 0 then (c (.z14 z1 z2 z3 z4 z5 z6 z7 z8)) else (bif z1 != 0 then (c (.z14 z1 z2 z3 z4 z5 z6 z7 z8)) else ((Q1n.F n x12 x15 x18 x21 s24).bind fun p34=>
 bif p34.2 != 0 then (some ((⟨#[]⟩ : ByteArray),[],p34.2)) else (bif decide ((0:Int)≤z4)&&decide (z4 < ((z6.length:Nat):Int)) then (withCons ((z6.getD ((z4).toNat) .undef).cells) fun h35 r36=>
 withInt .i64 h35 fun x37=>
 (Q3y.F n z7 z8 x37 p34.1).bind fun p38=>
 c (.z14 p38.2.2 z2 z3 z4 z5 z6 p38.1 p38.2.1)) else none)))) else none) else (some (z7,z8,z1))
def Q24.r14 (n:Nat) (c:Q24.Z→Option (ByteArray × List AV × Int)) (z1:Int) (z2:List AV) (z3 z4:Int) (z5:ByteArray) (z6:List AV) (z7:ByteArray) (z8:List AV):Option (ByteArray × List AV × Int):=
 c (.z7 z1 z2 z3 (IntKind.i64.wrap (z4+1)) z5 z6 z7 z8)
def Q24.r (n:Nat) (c:Q24.Z→Option (ByteArray × List AV × Int)):Q24.Z→Option (ByteArray × List AV × Int)
 | .z7 z1 z2 z3 z4 z5 z6 z7 z8=>Q24.r7 n c z1 z2 z3 z4 z5 z6 z7 z8
 | .z14 z1 z2 z3 z4 z5 z6 z7 z8=>Q24.r14 n c z1 z2 z3 z4 z5 z6 z7 z8
def Q24.e (n:Nat) (c:Q24.Z→Option (ByteArray × List AV × Int)) (a0 a1 a2:List AV):Option (ByteArray × List AV × Int):=
 (Q2v.F n a0 a1 a2).bind fun p1=>
 bif p1 != 0 then (some ((⟨#[]⟩ : ByteArray),[],p1)) else ((Q2n.F n a0).bind fun p2=>
 (Q3w.F n p2.2).bind fun p3=>
 c (.z7 p3.2.2 a0 ((a0.length:Nat):Int) 0 (⟨#[]⟩ : ByteArray) p2.1 p3.1 p3.2.1))
def Q24.E (n:Nat) (c:Q24.Z→Option (ByteArray × List AV × Int)):Q24.A→Option Q24.T:=fun (a0,a1,a2)=>Q24.e n c a0 a1 a2
def Q24.l (n:Nat):Nat→Q24.Z→Option (ByteArray × List AV × Int):=loopL (Q24.r n)
def Q24.F (n:Nat) (a0 a1 a2:List AV):Option (ByteArray × List AV × Int):=Q24.e n (Q24.l n n) a0 a1 a2
def Q24.FA (n:Nat):Q24.A→Option Q24.T:=Q24.E n (Q24.l n n)
theorem Q24.hands (n:Nat):∀ a p,Q24.FA n a=some p→HandsIn Tryz.prog 31 (Q24.i a) (Q24.p p):=
 pf_hands (C:=Q24.C n) (cut:=Q24.cut) (t:=Q24.t) (s:=Q24.s) (e:=Q24.E n) (r:=Q24.r n) (n:=n) cfg mixed globs rfl Q24.qi (Q24.tells n) Tryz.func31 (by kernel_rfl) (by kernel_rfl) (fun rec a=>by kernel_rfl) (fun rec z=>by cases z <;> kernel_rfl)
def Q24.via {R:Type} (n:Nat):List AV→(AV→Option R)→Option R:=viaK (Q24.FA n) Q24.o Q24.p
theorem Q24.tells1 {R:Type} (n:Nat) (xs:List AV):Tells1 (R:=R) Tryz.prog 31 xs (Q24.via n xs):=tells_via Q24.oi (fun a=>by kernel_rfl) (Q24.hands n) xs
end Go.Proofs.YtnoldakbllfmnaaGreatDoor.Ev
namespace Go.Proofs.YtnoldakbllfmnaaGreatDoor.Ev
open Go Go.Proofs Go.Proofs.Ev
set_option linter.unusedVariables false
set_option maxRecDepth 100000
inductive Q0f.Z where
 | z3 (z1 z2 z3:Int) (z4:List AV)
def Q0f.t (z:Q0f.Z):List Item:=(todoOf (match z with | .z3 _ _ _ _=>3) 1000 [.code (Tryz.f73.body.getD .skip)]).getD []
def Q0f.r3 (n:Nat) (c:Q0f.Z→Option ByteArray) (z1 z2 z3:Int) (z4:List AV):Option ByteArray:=
 bif decide (z3 < z2) then (bif decide (z4.length+[vu z1].length≤most) then (c (.z3 z1 z2 (IntKind.i64.wrap (z3+1)) (z4++[vu z1]))) else none) else (withSome (strOf z4) fun bs1=>
 some (⟨bs1.toArray⟩ : ByteArray))
def Q0f.r (n:Nat) (c:Q0f.Z→Option ByteArray):Q0f.Z→Option ByteArray
 | .z3 z1 z2 z3 z4=>Q0f.r3 n c z1 z2 z3 z4
def Q0f.e (n:Nat) (c:Q0f.Z→Option ByteArray) (a0 a1:Int):Option ByteArray:=
 c (.z3 a0 a1 0 [])
def Q0f.l (n:Nat):Nat→Q0f.Z→Option ByteArray:=loopL (Q0f.r n)
def Q0f.F (n:Nat) (a0 a1:Int):Option ByteArray:=Q0f.e n (Q0f.l n n) a0 a1
end Go.Proofs.YtnoldakbllfmnaaGreatDoor.Ev
namespace Go.Proofs.YtnoldakbllfmnaaGreatDoor.Ev
open Go Go.Proofs Go.Proofs.Ev
set_option linter.unusedVariables false
set_option maxRecDepth 100000
def Q0d.e (n:Nat) (a0:ByteArray) (a1:Int) (a2:ByteArray):Option ByteArray:=
 bif decide ((0:Int)≤a1)&&decide ((a1:Int)≤((a0.size:Nat):Int)) then (chk (decide ((a0.extract 0 (a1).toNat).size+a2.size≤9223372036854775807)) (let y1:ByteArray:=(a0.extract 0 (a1).toNat)++a2
 let y2:Int:=IntKind.i64.wrap (a1+((a2.size:Nat):Int))
 bif decide ((0:Int)≤y2)&&decide ((y2:Int)≤((a0.size:Nat):Int)) then (let y3:ByteArray:=a0.extract (y2).toNat a0.size
 chk (decide (y1.size+y3.size≤9223372036854775807)) (some (y1++y3))) else none)) else none
def Q0d.F (n:Nat) (a0:ByteArray) (a1:Int) (a2:ByteArray):Option ByteArray:=Q0d.e n a0 a1 a2
end Go.Proofs.YtnoldakbllfmnaaGreatDoor.Ev
namespace Go.Proofs.YtnoldakbllfmnaaGreatDoor.Ev
open Go Go.Proofs Go.Proofs.Ev
set_option linter.unusedVariables false
set_option maxRecDepth 100000
inductive Q03.Z where
 | z3 (z1 z2 z3:Int) (z4:List AV)
def Q03.t (z:Q03.Z):List Item:=(todoOf (match z with | .z3 _ _ _ _=>3) 1000 [.code (Tryz.f126.body.getD .skip)]).getD []
def Q03.r3 (n:Nat) (c:Q03.Z→Option ByteArray) (z1 z2 z3:Int) (z4:List AV):Option ByteArray:=
 bif decide (z3 < z2) then (let y2:Int:=IntKind.i64.wrap ((IntKind.i64.wrap (z2 - 1)) - z3)
 let y3:Int:=IntKind.u8.wrap (Int.tmod z1 256)
 bif decide ((0:Int)≤y2)&&decide (y2 < ((z4.length:Nat):Int)) then (let y4:Int:=IntKind.i64.wrap (Int.tdiv z1 256)
 c (.z3 y4 z2 (IntKind.i64.wrap (z3+1)) (z4.set ((y2).toNat) (vu y3)))) else none) else (withSome (strOf z4) fun bs5=>
 some (⟨bs5.toArray⟩ : ByteArray))
def Q03.r (n:Nat) (c:Q03.Z→Option ByteArray):Q03.Z→Option ByteArray
 | .z3 z1 z2 z3 z4=>Q03.r3 n c z1 z2 z3 z4
def Q03.e (n:Nat) (c:Q03.Z→Option ByteArray) (a0 a1:Int):Option ByteArray:=
 bif (decide ((0:Int)≤a1)&&decide ((a1:Int)≤most))&&decide ((a1:Int)=a1)&&true&&true then (let y1:List AV:=List.replicate (a1).toNat (vu 0)
 c (.z3 a0 a1 0 y1)) else none
def Q03.l (n:Nat):Nat→Q03.Z→Option ByteArray:=loopL (Q03.r n)
def Q03.F (n:Nat) (a0 a1:Int):Option ByteArray:=Q03.e n (Q03.l n n) a0 a1
end Go.Proofs.YtnoldakbllfmnaaGreatDoor.Ev
namespace Go.Proofs.YtnoldakbllfmnaaGreatDoor.Ev
open Go Go.Proofs Go.Proofs.Ev
set_option linter.unusedVariables false
set_option maxRecDepth 100000
inductive Q0x.Z where
 | z3 (z1 z2:Int) (z3:List AV)
def Q0x.t (z:Q0x.Z):List Item:=(todoOf (match z with | .z3 _ _ _=>3) 1000 [.code (Tryz.f127.body.getD .skip)]).getD []
def Q0x.r3 (n:Nat) (c:Q0x.Z→Option (List AV)) (z1 z2:Int) (z3:List AV):Option (List AV):=
 bif decide (z2≥0) then (bif decide ((0:Int)≤z2)&&decide (z2 < ((z3.length:Nat):Int)) then (let y2:List AV:=z3.set ((z2).toNat) (vi (Int.tmod z1 10))
 let y3:Int:=IntKind.i64.wrap (Int.tdiv z1 10)
 c (.z3 y3 (IntKind.i64.wrap (z2 - 1)) y2)) else none) else (some z3)
def Q0x.r (n:Nat) (c:Q0x.Z→Option (List AV)):Q0x.Z→Option (List AV)
 | .z3 z1 z2 z3=>Q0x.r3 n c z1 z2 z3
def Q0x.e (n:Nat) (c:Q0x.Z→Option (List AV)) (a0 a1:Int):Option (List AV):=
 bif (decide ((0:Int)≤a1)&&decide ((a1:Int)≤most))&&decide ((a1:Int)=a1)&&true&&true then (let y1:List AV:=List.replicate (a1).toNat (vi 0)
 c (.z3 a0 (IntKind.i64.wrap (a1 - 1)) y1)) else none
def Q0x.l (n:Nat):Nat→Q0x.Z→Option (List AV):=loopL (Q0x.r n)
def Q0x.F (n:Nat) (a0 a1:Int):Option (List AV):=Q0x.e n (Q0x.l n n) a0 a1
end Go.Proofs.YtnoldakbllfmnaaGreatDoor.Ev
namespace Go.Proofs.YtnoldakbllfmnaaGreatDoor.Ev
open Go Go.Proofs Go.Proofs.Ev
set_option linter.unusedVariables false
set_option maxRecDepth 100000
inductive Q0r.Z where
 | z13 (z1 z2 z3 z4 z5:Int) (z6:ByteArray) (z7 z8:List AV)
 | z24 (z1:Int) (z2 z3:List AV)
def Q0r.t (z:Q0r.Z):List Item:=(todoOf (match z with | .z13 _ _ _ _ _ _ _ _=>13 | .z24 _ _ _=>24) 1000 [.code (Tryz.f75.body.getD .skip)]).getD []
def Q0r.r13 (n:Nat) (c:Q0r.Z→Option ByteArray) (z1 z2 z3 z4 z5:Int) (z6:ByteArray) (z7 z8:List AV):Option ByteArray:=
 bif decide (z1 < z3) then (bif decide ((0:Int)≤z1)&&decide (z1 < ((z7.length:Nat):Int)) then (withCons ((z7.getD ((z1).toNat) .undef).cells) fun h21 r22=>
 withInt .i64 h21 fun x23=>
 let y24:Int:=IntKind.i64.wrap ((240:Int)+x23)
 bif decide ((0:Int)≤z1)&&decide (z1 < ((z8.length:Nat):Int)) then (let y25:List AV:=z8.set ((z1).toNat) (vu (IntKind.u8.wrap y24))
 c (.z13 (IntKind.i64.wrap (z1+1)) z2 z3 z4 z5 z6 z7 y25)) else none) else none) else (bif decide (z5 < 0) then (bif decide ((0:Int)≤IntKind.i64.wrap (z3 - 1))&&decide (IntKind.i64.wrap (z3 - 1) < ((z7.length:Nat):Int)) then (withCons ((z7.getD ((IntKind.i64.wrap (z3 - 1)).toNat) .undef).cells) fun h26 r27=>
 withInt .i64 h26 fun x28=>
 let y29:Int:=IntKind.i64.wrap ((208:Int)+x28)
 bif decide ((0:Int)≤IntKind.i64.wrap (z3 - 1))&&decide (IntKind.i64.wrap (z3 - 1) < ((z8.length:Nat):Int)) then (let y30:List AV:=z8.set ((IntKind.i64.wrap (z3 - 1)).toNat) (vu (IntKind.u8.wrap y29))
 withSome (strOf y30) fun bs31=>
 some (⟨bs31.toArray⟩ : ByteArray)) else none) else none) else (withSome (strOf z8) fun bs32=>
 some (⟨bs32.toArray⟩ : ByteArray)))
def Q0r.r24 (n:Nat) (c:Q0r.Z→Option ByteArray) (z1:Int) (z2 z3:List AV):Option ByteArray:=
 let y33:Bool:=decide (z1 < ((z3.length:Nat):Int))
 bif y33 then (let y34:Int:=IntKind.i64.wrap ((2:Int)*z1)
 bif decide ((0:Int)≤y34)&&decide (y34 < ((z2.length:Nat):Int)) then (withCons ((z2.getD ((y34).toNat) .undef).cells) fun h35 r36=>
 withInt .i64 h35 fun x37=>
 let y38:Int:=IntKind.i64.wrap ((16:Int)*x37)
 let y39:Int:=IntKind.i64.wrap ((2:Int)*z1)
 bif decide ((0:Int)≤IntKind.i64.wrap (y39+1))&&decide (IntKind.i64.wrap (y39+1) < ((z2.length:Nat):Int)) then (withCons ((z2.getD ((IntKind.i64.wrap (y39+1)).toNat) .undef).cells) fun h40 r41=>
 withInt .i64 h40 fun x42=>
 let y43:Int:=IntKind.u8.wrap (IntKind.i64.wrap (y38+x42))
 bif decide ((0:Int)≤z1)&&decide (z1 < ((z3.length:Nat):Int)) then (c (.z24 (IntKind.i64.wrap (z1+1)) z2 (z3.set ((z1).toNat) (vu y43)))) else none) else none) else none) else (withSome (strOf z3) fun bs44=>
 some (⟨bs44.toArray⟩ : ByteArray))
def Q0r.r (n:Nat) (c:Q0r.Z→Option ByteArray):Q0r.Z→Option ByteArray
 | .z13 z1 z2 z3 z4 z5 z6 z7 z8=>Q0r.r13 n c z1 z2 z3 z4 z5 z6 z7 z8
 | .z24 z1 z2 z3=>Q0r.r24 n c z1 z2 z3
def Q0r.e (n:Nat) (c:Q0r.Z→Option ByteArray) (a0 a1 a2 a3:Int) (a4:ByteArray):Option ByteArray:=
 bif a0==0 then (some a4) else (bif a0==3 then (bif decide (a3 < 0) then ((Q0h.F n a0 a1 a2).bind fun p1=>
 let y2:Int:=IntKind.i64.wrap ((8:Int)*p1)
 bif decide ((0:Int)≤y2) then (let y3:Int:=IntKind.i64.wrap ((1:Int)*2 ^ min (y2:Int).toNat 64)
 (Q0h.F n a0 a1 a2).bind fun p4=>
 (Q03.F n (IntKind.i64.wrap (a3+y3)) p4).bind fun p5=>
 some p5) else none) else ((Q0h.F n a0 a1 a2).bind fun p6=>
 (Q03.F n a3 p6).bind fun p7=>
 some p7)) else ((Q0q.F n a3).bind fun p8=>
 (Q0x.F n p8 a1).bind fun p9=>
 bif a0==2 then (bif (decide ((0:Int)≤a1)&&decide ((a1:Int)≤most))&&decide ((a1:Int)=a1)&&true&&true then (let y10:List AV:=List.replicate (a1).toNat (vu 0)
 c (.z13 0 a0 a1 a2 a3 a4 p9 y10)) else none) else (bif (Int.tmod a1 2)==0 then (bif decide ([vi 0].length+p9.length≤most) then ((Q06.F n (decide (a3 < 0))).bind fun p11=>
 let y12:Int:=IntKind.i64.wrap ((2:Int)*p11)
 let y13:Int:=IntKind.i64.wrap ((15:Int) - y12)
 bif decide (([vi 0]++p9).length+[vi y13].length≤most) then (let y14:Int:=IntKind.i64.wrap (Int.tdiv (((([vi 0]++p9)++[vi y13]).length:Nat):Int) 2)
 bif (decide ((0:Int)≤y14)&&decide ((y14:Int)≤most))&&decide ((y14:Int)=y14)&&true&&true then (let y15:List AV:=List.replicate (y14).toNat (vu 0)
 c (.z24 0 (([vi 0]++p9)++[vi y13]) y15)) else none) else none) else none) else ((Q06.F n (decide (a3 < 0))).bind fun p16=>
 let y17:Int:=IntKind.i64.wrap ((2:Int)*p16)
 let y18:Int:=IntKind.i64.wrap ((15:Int) - y17)
 bif decide (p9.length+[vi y18].length≤most) then (let y19:Int:=IntKind.i64.wrap (Int.tdiv (((p9++[vi y18]).length:Nat):Int) 2)
 bif (decide ((0:Int)≤y19)&&decide ((y19:Int)≤most))&&decide ((y19:Int)=y19)&&true&&true then (let y20:List AV:=List.replicate (y19).toNat (vu 0)
 c (.z24 0 (p9++[vi y18]) y20)) else none) else none))))
def Q0r.l (n:Nat):Nat→Q0r.Z→Option ByteArray:=loopL (Q0r.r n)
def Q0r.F (n:Nat) (a0 a1 a2 a3:Int) (a4:ByteArray):Option ByteArray:=Q0r.e n (Q0r.l n n) a0 a1 a2 a3 a4
end Go.Proofs.YtnoldakbllfmnaaGreatDoor.Ev
namespace Go.Proofs.YtnoldakbllfmnaaGreatDoor.Ev
open Go Go.Proofs Go.Proofs.Ev
set_option linter.unusedVariables false
set_option maxRecDepth 100000
inductive Q12.Z where
 | z4 (z1:Int) (z2 z3 z4:List AV) (z5:ByteArray) (z6:List AV) (z7:ByteArray) (z8:List AV)
def Q12.t (z:Q12.Z):List Item:=(todoOf (match z with | .z4 _ _ _ _ _ _ _ _=>4) 1000 [.code (Tryz.f34.body.getD .skip)]).getD []
def Q12.r4 (n:Nat) (c:Q12.Z→Option (ByteArray × List AV)) (z1:Int) (z2 z3 z4:List AV) (z5:ByteArray) (z6:List AV) (z7:ByteArray) (z8:List AV):Option (ByteArray × List AV):=
 let y4:Bool:=decide (z1 < ((z2.length:Nat):Int))
 bif y4 then (bif decide ((0:Int)≤z1)&&decide (z1 < ((z2.length:Nat):Int)) then (withCons ((z2.getD ((z1).toNat) .undef).cells) fun h5 r6=>
 withStr h5 fun s7=>
 withCons r6 fun h8 r9=>
 withInt .i64 h8 fun x10=>
 withCons r9 fun h11 r12=>
 withInt .i64 h11 fun x13=>
 withCons r12 fun h14 r15=>
 withInt .i64 h14 fun x16=>
 withCons r15 fun h17 r18=>
 withInt .i64 h17 fun x19=>
 withCons r18 fun h20 r21=>
 withInt .i64 h20 fun x22=>
 withCons r21 fun h23 r24=>
 withStr h23 fun s25=>
 withCons r24 fun h26 r27=>
 withStr h26 fun s28=>
 withCons r27 fun h29 r30=>
 withInt .i64 h29 fun x31=>
 withCons r30 fun h32 r33=>
 withInt .i64 h32 fun x34=>
 bif x10==0 then (bif decide ((0:Int)≤z1)&&decide (z1 < ((z6.length:Nat):Int)) then (withCons ((z6.getD ((z1).toNat) .undef).cells) fun h35 r36=>
 withInt .i64 h35 fun x37=>
 (Q0r.F n x13 x16 x19 x22 s25).bind fun p38=>
 (Q0d.F n z7 x37 p38).bind fun p39=>
 c (.z4 (IntKind.i64.wrap (z1+1)) z2 z3 z4 z5 z6 p39 z8)) else none) else (c (.z4 (IntKind.i64.wrap (z1+1)) z2 z3 z4 z5 z6 z7 z8))) else none) else (some (z7,z8))
def Q12.r (n:Nat) (c:Q12.Z→Option (ByteArray × List AV)):Q12.Z→Option (ByteArray × List AV)
 | .z4 z1 z2 z3 z4 z5 z6 z7 z8=>Q12.r4 n c z1 z2 z3 z4 z5 z6 z7 z8
def Q12.e (n:Nat) (c:Q12.Z→Option (ByteArray × List AV)) (a0 a1 a2:List AV):Option (ByteArray × List AV):=
 (Q15.F n a0 a1 a2).bind fun p1=>
 (Q0f.F n 0 (IntKind.i64.wrap (p1.2*16))).bind fun p2=>
 bif (decide ((0:Int)≤p1.2)&&decide ((p1.2:Int)≤most))&&decide ((p1.2:Int)=p1.2)&&true&&true then (let y3:List AV:=List.replicate (p1.2).toNat (vb false)
 c (.z4 0 a0 a1 a2 (⟨#[]⟩ : ByteArray) p1.1 p2 y3)) else none
def Q12.l (n:Nat):Nat→Q12.Z→Option (ByteArray × List AV):=loopL (Q12.r n)
def Q12.F (n:Nat) (a0 a1 a2:List AV):Option (ByteArray × List AV):=Q12.e n (Q12.l n n) a0 a1 a2
end Go.Proofs.YtnoldakbllfmnaaGreatDoor.Ev
namespace Go.Proofs.YtnoldakbllfmnaaGreatDoor.Ev
open Go Go.Proofs Go.Proofs.Ev
set_option linter.unusedVariables false
set_option maxRecDepth 100000
abbrev Q0k.A:=List AV × List AV × List AV
abbrev Q0k.T:=Bool
def Q0k.i:Q0k.A→List AV:=fun (a0,a1,a2)=>[AV.agg [.sl ⟨true,74,false⟩ 10 a0,.sl ⟨false,86,false⟩ 2 a1,.sl ⟨true,82,false⟩ 4 a2]]
def Q0k.p (p:Q0k.T):AV:=vb p
def Q0k.q (x:AV):Option Q0k.T:=match x with | .v (.bool p0)=>some p0 | _=>none
theorem Q0k.qi:∀ x p,Q0k.q x=some p→x=Q0k.p p:=by
 intro x p h
 unfold Q0k.q at h
 split at h
 ·cases h; rfl
 ·cases h
inductive Q0k.Z where
 | z8
 | z11 (z1:Int) (z2 z3 z4 z5 z6:List AV)
 | z12 (z1:Int) (z2 z3 z4 z5 z6:List AV)
 | z30 (z1 z2 z3:Int) (z4 z5 z6 z7 z8:List AV)
def Q0k.C {R:Type} (n:Nat) (f:FuncId) (xs:List AV):(AV→Option R)→Option R:=
 bif Nat.beq f 12 then Q0p.via n xs else bif Nat.beq f 13 then Q0j.via n xs else bif Nat.beq f 15 then Q16.via n xs else bif Nat.beq f 18 then Q10.via n xs else bif Nat.beq f 26 then Q0y.via n xs else bif Nat.beq f 27 then Q0i.via n xs else bif Nat.beq f 30 then Q25.via n xs else bif Nat.beq f 31 then Q24.via n xs else bif Nat.beq f 35 then Q0h.via n xs else fun _=>none
theorem Q0k.tells {R:Type} (n:Nat):Tells (R:=R) Tryz.prog (Q0k.C n):=fun _ xs=>tells_at (Q0p.tells1 n xs) (tells_at (Q0j.tells1 n xs) (tells_at (Q16.tells1 n xs) (tells_at (Q10.tells1 n xs) (tells_at (Q0y.tells1 n xs) (tells_at (Q0i.tells1 n xs) (tells_at (Q25.tells1 n xs) (tells_at (Q24.tells1 n xs) (tells_at (Q0h.tells1 n xs) (Tells1.none)))))))))
def Q0k.cut (r:Nat):Option Keep:=match r with | 8=>some ⟨[],[]⟩ | 11=>some ⟨[1,3,8,9],[]⟩ | 12=>some ⟨[1,3,8,9],[]⟩ | 30=>some ⟨[1,3,8,9,11,12],[]⟩ | _=>none
def Q0k.t (z:Q0k.Z):List Item:=(todoOf (match z with | .z8=>8 | .z11 _ _ _ _ _ _=>11 | .z12 _ _ _ _ _ _=>12 | .z30 _ _ _ _ _ _ _ _=>30) 1000 [.code (Tryz.f9.body.getD .skip)]).getD []
def Q0k.s:Q0k.Z→St
 | .z8=>⟨spr 152 0 [],Mem.ofList [],0⟩
 | .z11 z1 z2 z3 z4 z5 z6=>⟨spr 152 0 [(1,.ptr 0 0),(3,.own 1 0 none),(8,.own 2 0 none),(9,vi z1)],Mem.ofList [.box 26 [.sl ⟨true,74,false⟩ 10 z2,.sl ⟨false,86,false⟩ 2 z3,.sl ⟨true,82,false⟩ 4 z4],.row ⟨true,3,false⟩ 1 z5,.row ⟨true,4,false⟩ 1 z6],3⟩
 | .z12 z1 z2 z3 z4 z5 z6=>⟨spr 152 0 [(1,.ptr 0 0),(3,.own 1 0 none),(8,.own 2 0 none),(9,vi z1)],Mem.ofList [.box 26 [.sl ⟨true,74,false⟩ 10 z2,.sl ⟨false,86,false⟩ 2 z3,.sl ⟨true,82,false⟩ 4 z4],.row ⟨true,3,false⟩ 1 z5,.row ⟨true,4,false⟩ 1 z6],3⟩
 | .z30 z1 z2 z3 z4 z5 z6 z7 z8=>⟨spr 152 0 [(1,.ptr 0 0),(3,.own 1 0 none),(8,.own 2 0 none),(9,vi z1),(11,vi z2),(12,vi z3)],Mem.ofList [.box 26 [.sl ⟨true,74,false⟩ 10 z4,.sl ⟨false,86,false⟩ 2 z5,.sl ⟨true,82,false⟩ 4 z6],.row ⟨true,3,false⟩ 1 z7,.row ⟨true,4,false⟩ 1 z8],3⟩
def Q0k.r8 (n:Nat) (c:Q0k.Z→Option Bool)  : Option Bool:=
 some false
def Q0k.r11 (n:Nat) (c:Q0k.Z→Option Bool) (z1:Int) (z2 z3 z4 z5 z6:List AV):Option Bool:=
 let y15:Bool:=decide (z1 < ((z5.length:Nat):Int))
 bif y15 then (bif decide ((0:Int)≤z1)&&decide (z1 < ((z2.length:Nat):Int)) then (withCons ((z2.getD ((z1).toNat) .undef).cells) fun h16 r17=>
 withStr h16 fun s18=>
 withCons r17 fun h19 r20=>
 withInt .i64 h19 fun x21=>
 withCons r20 fun h22 r23=>
 withInt .i64 h22 fun x24=>
 withCons r23 fun h25 r26=>
 withInt .i64 h25 fun x27=>
 withCons r26 fun h28 r29=>
 withInt .i64 h28 fun x30=>
 withCons r29 fun h31 r32=>
 withInt .i64 h31 fun x33=>
 withCons r32 fun h34 r35=>
 withStr h34 fun s36=>
 withCons r35 fun h37 r38=>
 withStr h37 fun s39=>
 withCons r38 fun h40 r41=>
 withInt .i64 h40 fun x42=>
 withCons r41 fun h43 r44=>
 withInt .i64 h43 fun x45=>
 bif x21==0 then ((Q0h.F n x24 x27 x30).bind fun p46=>
 bif decide ((0:Int)≤z1)&&decide (z1 < ((z5.length:Nat):Int)) then (withCons ((z5.getD ((z1).toNat) .undef).cells) fun h47 r48=>
 withInt .i64 h47 fun x49=>
 let y50:Int:=IntKind.i64.wrap (((z6.length:Nat):Int) - p46)
 (Q0i.F n x49 0 y50).bind fun p51=>
 bif !p51 then (some false) else (bif decide ((0:Int)≤z1)&&decide (z1 < ((z5.length:Nat):Int)) then (withCons ((z5.getD ((z1).toNat) .undef).cells) fun h52 r53=>
 withInt .i64 h52 fun x54=>
 c (.z30 z1 p46 x54 z2 z3 z4 z5 z6)) else none)) else none) else (bif x21==3 then (bif decide ((0:Int)≤z1)&&decide (z1 < ((z5.length:Nat):Int)) then (withCons ((z5.getD ((z1).toNat) .undef).cells) fun h55 r56=>
 withInt .i64 h55 fun x57=>
 bif (Int.tmod x57 16) != 0 then (some false) else (bif decide ((0:Int)≤z1)&&decide (z1 < ((z5.length:Nat):Int)) then (withCons ((z5.getD ((z1).toNat) .undef).cells) fun h58 r59=>
 withInt .i64 h58 fun x60=>
 let y61:Int:=IntKind.i64.wrap (((z6.length:Nat):Int) - 16)
 (Q0i.F n x60 0 y61).bind fun p62=>
 bif !p62 then (some false) else (bif decide ((0:Int)≤z1)&&decide (z1 < ((z5.length:Nat):Int)) then (withCons ((z5.getD ((z1).toNat) .undef).cells) fun h63 r64=>
 withInt .i64 h63 fun x65=>
 c (.z30 z1 16 x65 z2 z3 z4 z5 z6)) else none)) else none)) else none) else (bif x21==1 then (bif decide ((0:Int)≤z1)&&decide (z1 < ((z5.length:Nat):Int)) then (withCons ((z5.getD ((z1).toNat) .undef).cells) fun h66 r67=>
 withInt .i64 h66 fun x68=>
 (Q0y.F n z2 z3 z4 s39).bind fun p69=>
 bif decide ((0:Int)≤p69)&&decide (p69 < ((z5.length:Nat):Int)) then (withCons ((z5.getD ((p69).toNat) .undef).cells) fun h70 r71=>
 withInt .i64 h70 fun x72=>
 let y73:Bool:=x68 != (IntKind.i64.wrap (x72+x42))
 bif y73 then (some false) else (c (.z12 z1 z2 z3 z4 z5 z6))) else none) else none) else (bif decide ((0:Int)≤z1)&&decide (z1 < ((z5.length:Nat):Int)) then (withCons ((z5.getD ((z1).toNat) .undef).cells) fun h74 r75=>
 withInt .i64 h74 fun x76=>
 bif x76 != (-1) then (some false) else (c (.z12 z1 z2 z3 z4 z5 z6))) else none)))) else none) else (some true)
def Q0k.r12 (n:Nat) (c:Q0k.Z→Option Bool) (z1:Int) (z2 z3 z4 z5 z6:List AV):Option Bool:=
 c (.z11 (IntKind.i64.wrap (z1+1)) z2 z3 z4 z5 z6)
def Q0k.r30 (n:Nat) (c:Q0k.Z→Option Bool) (z1 z2 z3:Int) (z4 z5 z6 z7 z8:List AV):Option Bool:=
 bif decide ((0:Int)≤z1)&&decide (z1 < ((z7.length:Nat):Int)) then (withCons ((z7.getD ((z1).toNat) .undef).cells) fun h77 r78=>
 withInt .i64 h77 fun x79=>
 let y80:Bool:=decide (z3 < (IntKind.i64.wrap (x79+z2)))
 bif y80 then (bif decide ((0:Int)≤z3)&&decide (z3 < ((z8.length:Nat):Int)) then (withCons ((z8.getD ((z3).toNat) .undef).cells) fun h81 r82=>
 withBool h81 fun b83=>
 bif b83 then (some false) else (bif decide ((0:Int)≤z3)&&decide (z3 < ((z8.length:Nat):Int)) then (let y84:List AV:=z8.set ((z3).toNat) (vb true)
 c (.z30 z1 z2 (IntKind.i64.wrap (z3+1)) z4 z5 z6 z7 y84)) else none)) else none) else (c (.z12 z1 z4 z5 z6 z7 z8))) else none
def Q0k.r (n:Nat) (c:Q0k.Z→Option Bool):Q0k.Z→Option Bool
 | .z8=>Q0k.r8 n c
 | .z11 z1 z2 z3 z4 z5 z6=>Q0k.r11 n c z1 z2 z3 z4 z5 z6
 | .z12 z1 z2 z3 z4 z5 z6=>Q0k.r12 n c z1 z2 z3 z4 z5 z6
 | .z30 z1 z2 z3 z4 z5 z6 z7 z8=>Q0k.r30 n c z1 z2 z3 z4 z5 z6 z7 z8
def Q0k.e (n:Nat) (c:Q0k.Z→Option Bool) (a0 a1 a2:List AV):Option Bool:=
 (Q0p.F n ).bind fun p1=>
 bif !p1 then (some false) else ((Q0j.F n a0 a1 a2).bind fun p2=>
 bif !p2 then (some true) else ((Q10.F n a0 a1 a2).bind fun p3=>
 bif p3 != 0 then (some true) else ((Q16.F n a0 a1 a2).bind fun p4=>
 (Q25.F n p4.1 p4.2.1 p4.2.2).bind fun p5=>
 (Q16.F n a0 a1 a2).bind fun p6=>
 (Q24.F n p6.1 p6.2.1 p6.2.2).bind fun p7=>
 bif p5.2.2 != 0 then (c .z8) else (bif p7.2.2 != 0 then (c .z8) else (let y8:Bool:=((p5.1.length:Nat):Int) != ((a0.length:Nat):Int)
 bif y8 then (c .z8) else ((Q0i.F n p5.2.1 0 24).bind fun p9=>
 bif !p9 then (c .z8) else (let y10:Bool:=((p7.2.1.length:Nat):Int) != p5.2.1
 bif y10 then (c .z8) else (let y11:Int:=IntKind.i64.wrap (p5.2.1*16)
 let y12:Bool:=((p7.1.size:Nat):Int) != y11
 bif y12 then (c .z8) else (let y13:Int:=IntKind.i64.wrap (p5.2.1*16)
 bif (decide ((0:Int)≤y13)&&decide ((y13:Int)≤most))&&decide ((y13:Int)=y13)&&true&&true then (let y14:List AV:=List.replicate (y13).toNat (vb false)
 c (.z11 0 a0 a1 a2 p5.1 y14)) else none)))))))))
def Q0k.E (n:Nat) (c:Q0k.Z→Option Bool):Q0k.A→Option Q0k.T:=fun (a0,a1,a2)=>Q0k.e n c a0 a1 a2
def Q0k.l (n:Nat):Nat→Q0k.Z→Option Bool:=loopL (Q0k.r n)
def Q0k.F (n:Nat) (a0 a1 a2:List AV):Option Bool:=Q0k.e n (Q0k.l n n) a0 a1 a2
def Q0k.FA (n:Nat):Q0k.A→Option Q0k.T:=Q0k.E n (Q0k.l n n)
theorem Q0k.hands (n:Nat):∀ a p,Q0k.FA n a=some p→HandsIn Tryz.prog 9 (Q0k.i a) (Q0k.p p):=
 pf_hands (C:=Q0k.C n) (cut:=Q0k.cut) (t:=Q0k.t) (s:=Q0k.s) (e:=Q0k.E n) (r:=Q0k.r n) (n:=n) cfg mixed globs rfl Q0k.qi (Q0k.tells n) Tryz.func9 (by kernel_rfl) (by kernel_rfl) (fun rec a=>by kernel_rfl) (fun rec z=>by cases z <;> kernel_rfl)
end Go.Proofs.YtnoldakbllfmnaaGreatDoor.Ev
namespace Go.Proofs.YtnoldakbllfmnaaGreatDoor.Ev
open Go Go.Proofs Go.Proofs.Ev
theorem Q00.at2 (n m z1 z2 z3 z4):Q00.l n (m+1) (.z2 z1 z2 z3 z4)=Q00.r2 n (Q00.l n m) z1 z2 z3 z4:=rfl
theorem Q2i.at4 (n m z1 z2 z3):Q2i.l n (m+1) (.z4 z1 z2 z3)=Q2i.r4 n (Q2i.l n m) z1 z2 z3:=rfl
theorem Q2i.at7 (n m z1 z2 z3 z4 z5 z6):Q2i.l n (m+1) (.z7 z1 z2 z3 z4 z5 z6)=Q2i.r7 n (Q2i.l n m) z1 z2 z3 z4 z5 z6:=rfl
theorem Q2i.at8 (n m z1 z2 z3 z4 z5 z6):Q2i.l n (m+1) (.z8 z1 z2 z3 z4 z5 z6)=Q2i.r8 n (Q2i.l n m) z1 z2 z3 z4 z5 z6:=rfl
theorem Q2m.at7 (n m z1 z2 z3 z4 z5 z6 z7 z8 z9 z10 z11 z12 z13 z14 z15 z16 z17 z18 z19 z20 z21 z22 z23 z24 z25 z26 z27 z28 z29 z30):Q2m.l n (m+1) (.z7 z1 z2 z3 z4 z5 z6 z7 z8 z9 z10 z11 z12 z13 z14 z15 z16 z17 z18 z19 z20 z21 z22 z23 z24 z25 z26 z27 z28 z29 z30)=Q2m.r7 n (Q2m.l n m) z1 z2 z3 z4 z5 z6 z7 z8 z9 z10 z11 z12 z13 z14 z15 z16 z17 z18 z19 z20 z21 z22 z23 z24 z25 z26 z27 z28 z29 z30:=rfl
theorem Q2m.at10 (n m z1 z2 z3 z4 z5 z6 z7 z8 z9 z10 z11 z12 z13 z14 z15 z16 z17 z18 z19 z20 z21 z22 z23 z24 z25 z26 z27 z28 z29 z30):Q2m.l n (m+1) (.z10 z1 z2 z3 z4 z5 z6 z7 z8 z9 z10 z11 z12 z13 z14 z15 z16 z17 z18 z19 z20 z21 z22 z23 z24 z25 z26 z27 z28 z29 z30)=Q2m.r10 n (Q2m.l n m) z1 z2 z3 z4 z5 z6 z7 z8 z9 z10 z11 z12 z13 z14 z15 z16 z17 z18 z19 z20 z21 z22 z23 z24 z25 z26 z27 z28 z29 z30:=rfl
theorem Q2m.at13 (n m z1 z2 z3 z4 z5 z6 z7 z8 z9 z10 z11 z12 z13 z14 z15 z16 z17 z18 z19 z20):Q2m.l n (m+1) (.z13 z1 z2 z3 z4 z5 z6 z7 z8 z9 z10 z11 z12 z13 z14 z15 z16 z17 z18 z19 z20)=Q2m.r13 n (Q2m.l n m) z1 z2 z3 z4 z5 z6 z7 z8 z9 z10 z11 z12 z13 z14 z15 z16 z17 z18 z19 z20:=rfl
theorem Q1z.at3 (n m z1 z2 z3):Q1z.l n (m+1) (.z3 z1 z2 z3)=Q1z.r3 n (Q1z.l n m) z1 z2 z3:=rfl
theorem Q2t.at12 (n m z1 z2 z3 z4 z5 z6 z7 z8 z9 z10):Q2t.l n (m+1) (.z12 z1 z2 z3 z4 z5 z6 z7 z8 z9 z10)=Q2t.r12 n (Q2t.l n m) z1 z2 z3 z4 z5 z6 z7 z8 z9 z10:=rfl
theorem Q2t.at15 (n m z1 z2 z3 z4 z5 z6 z7 z8 z9 z10 z11):Q2t.l n (m+1) (.z15 z1 z2 z3 z4 z5 z6 z7 z8 z9 z10 z11)=Q2t.r15 n (Q2t.l n m) z1 z2 z3 z4 z5 z6 z7 z8 z9 z10 z11:=rfl
theorem Q2n.at4 (n m z1 z2 z3 z4 z5 z6):Q2n.l n (m+1) (.z4 z1 z2 z3 z4 z5 z6)=Q2n.r4 n (Q2n.l n m) z1 z2 z3 z4 z5 z6:=rfl
theorem Q2n.at10 (n m z1 z2 z3 z4 z5 z6):Q2n.l n (m+1) (.z10 z1 z2 z3 z4 z5 z6)=Q2n.r10 n (Q2n.l n m) z1 z2 z3 z4 z5 z6:=rfl
theorem Q2n.at16 (n m z1 z2 z3 z4 z5 z6):Q2n.l n (m+1) (.z16 z1 z2 z3 z4 z5 z6)=Q2n.r16 n (Q2n.l n m) z1 z2 z3 z4 z5 z6:=rfl
theorem Q2d.at8 (n m z1 z2 z3 z4 z5 z6 z7 z8 z9 z10 z11 z12 z13 z14 z15 z16 z17 z18 z19 z20 z21 z22 z23):Q2d.l n (m+1) (.z8 z1 z2 z3 z4 z5 z6 z7 z8 z9 z10 z11 z12 z13 z14 z15 z16 z17 z18 z19 z20 z21 z22 z23)=Q2d.r8 n (Q2d.l n m) z1 z2 z3 z4 z5 z6 z7 z8 z9 z10 z11 z12 z13 z14 z15 z16 z17 z18 z19 z20 z21 z22 z23:=rfl
theorem Q2f.at7 (n m z1 z2 z3 z4 z5 z6 z7 z8 z9 z10 z11 z12 z13 z14 z15 z16 z17 z18):Q2f.l n (m+1) (.z7 z1 z2 z3 z4 z5 z6 z7 z8 z9 z10 z11 z12 z13 z14 z15 z16 z17 z18)=Q2f.r7 n (Q2f.l n m) z1 z2 z3 z4 z5 z6 z7 z8 z9 z10 z11 z12 z13 z14 z15 z16 z17 z18:=rfl
theorem Q2o.at3 (n m z1):Q2o.l n (m+1) (.z3 z1)=Q2o.r3 n (Q2o.l n m) z1:=rfl
theorem Q22.at2 (n m z1 z2 z3 z4 z5 z6):Q22.l n (m+1) (.z2 z1 z2 z3 z4 z5 z6)=Q22.r2 n (Q22.l n m) z1 z2 z3 z4 z5 z6:=rfl
theorem Q22.at6 (n m z1 z2 z3 z4 z5 z6 z7):Q22.l n (m+1) (.z6 z1 z2 z3 z4 z5 z6 z7)=Q22.r6 n (Q22.l n m) z1 z2 z3 z4 z5 z6 z7:=rfl
theorem Q22.at16 (n m z1 z2 z3 z4 z5 z6 z7 z8):Q22.l n (m+1) (.z16 z1 z2 z3 z4 z5 z6 z7 z8)=Q22.r16 n (Q22.l n m) z1 z2 z3 z4 z5 z6 z7 z8:=rfl
theorem Q22.at23 (n m z1 z2 z3 z4 z5 z6 z7 z8):Q22.l n (m+1) (.z23 z1 z2 z3 z4 z5 z6 z7 z8)=Q22.r23 n (Q22.l n m) z1 z2 z3 z4 z5 z6 z7 z8:=rfl
theorem Q0j.at4 (n m z1 z2 z3 z4):Q0j.l n (m+1) (.z4 z1 z2 z3 z4)=Q0j.r4 n (Q0j.l n m) z1 z2 z3 z4:=rfl
theorem Q0j.at10 (n m z1 z2 z3 z4):Q0j.l n (m+1) (.z10 z1 z2 z3 z4)=Q0j.r10 n (Q0j.l n m) z1 z2 z3 z4:=rfl
theorem Q16.at3 (n m z1 z2 z3 z4 z5 z6 z7):Q16.l n (m+1) (.z3 z1 z2 z3 z4 z5 z6 z7)=Q16.r3 n (Q16.l n m) z1 z2 z3 z4 z5 z6 z7:=rfl
theorem Q0y.at2 (n m z1 z2 z3 z4 z5):Q0y.l n (m+1) (.z2 z1 z2 z3 z4 z5)=Q0y.r2 n (Q0y.l n m) z1 z2 z3 z4 z5:=rfl
theorem Q15.at4 (n m z1 z2 z3 z4 z5 z6):Q15.l n (m+1) (.z4 z1 z2 z3 z4 z5 z6)=Q15.r4 n (Q15.l n m) z1 z2 z3 z4 z5 z6:=rfl
theorem Q15.at11 (n m z1 z2 z3 z4 z5 z6):Q15.l n (m+1) (.z11 z1 z2 z3 z4 z5 z6)=Q15.r11 n (Q15.l n m) z1 z2 z3 z4 z5 z6:=rfl
theorem Q15.at18 (n m z1 z2 z3 z4 z5 z6):Q15.l n (m+1) (.z18 z1 z2 z3 z4 z5 z6)=Q15.r18 n (Q15.l n m) z1 z2 z3 z4 z5 z6:=rfl
theorem Q0b.at4 (n m z1 z2):Q0b.l n (m+1) (.z4 z1 z2)=Q0b.r4 n (Q0b.l n m) z1 z2:=rfl
theorem Q0b.at5 (n m z1 z2):Q0b.l n (m+1) (.z5 z1 z2)=Q0b.r5 n (Q0b.l n m) z1 z2:=rfl
theorem Q0b.at8 (n m z1 z2 z3 z4):Q0b.l n (m+1) (.z8 z1 z2 z3 z4)=Q0b.r8 n (Q0b.l n m) z1 z2 z3 z4:=rfl
theorem Q19.at5 (n m z1 z2 z3 z4 z5 z6 z7 z8 z9 z10 z11):Q19.l n (m+1) (.z5 z1 z2 z3 z4 z5 z6 z7 z8 z9 z10 z11)=Q19.r5 n (Q19.l n m) z1 z2 z3 z4 z5 z6 z7 z8 z9 z10 z11:=rfl
theorem Q19.at8 (n m z1 z2 z3 z4 z5 z6 z7 z8 z9 z10 z11):Q19.l n (m+1) (.z8 z1 z2 z3 z4 z5 z6 z7 z8 z9 z10 z11)=Q19.r8 n (Q19.l n m) z1 z2 z3 z4 z5 z6 z7 z8 z9 z10 z11:=rfl
theorem Q0e.at3 (n m z1 z2 z3):Q0e.l n (m+1) (.z3 z1 z2 z3)=Q0e.r3 n (Q0e.l n m) z1 z2 z3:=rfl
theorem Q0w.at7 (n m):Q0w.l n (m+1) .z7=Q0w.r7 n (Q0w.l n m):=rfl
theorem Q0w.at8 (n m z1 z2 z3 z4 z5):Q0w.l n (m+1) (.z8 z1 z2 z3 z4 z5)=Q0w.r8 n (Q0w.l n m) z1 z2 z3 z4 z5:=rfl
theorem Q1f.at20 (n m z1 z2 z3 z4 z5 z6 z7 z8 z9 z10):Q1f.l n (m+1) (.z20 z1 z2 z3 z4 z5 z6 z7 z8 z9 z10)=Q1f.r20 n (Q1f.l n m) z1 z2 z3 z4 z5 z6 z7 z8 z9 z10:=rfl
theorem Q1f.at23 (n m z1 z2 z3 z4 z5 z6 z7 z8 z9 z10 z11 z12 z13 z14 z15):Q1f.l n (m+1) (.z23 z1 z2 z3 z4 z5 z6 z7 z8 z9 z10 z11 z12 z13 z14 z15)=Q1f.r23 n (Q1f.l n m) z1 z2 z3 z4 z5 z6 z7 z8 z9 z10 z11 z12 z13 z14 z15:=rfl
theorem Q1f.at28 (n m z1 z2 z3 z4 z5 z6 z7 z8 z9 z10 z11 z12 z13 z14 z15 z16 z17 z18 z19 z20):Q1f.l n (m+1) (.z28 z1 z2 z3 z4 z5 z6 z7 z8 z9 z10 z11 z12 z13 z14 z15 z16 z17 z18 z19 z20)=Q1f.r28 n (Q1f.l n m) z1 z2 z3 z4 z5 z6 z7 z8 z9 z10 z11 z12 z13 z14 z15 z16 z17 z18 z19 z20:=rfl
theorem Q1h.at11 (n m):Q1h.l n (m+1) .z11=Q1h.r11 n (Q1h.l n m):=rfl
theorem Q1b.at7 (n m z1 z2 z3 z4 z5 z6 z7):Q1b.l n (m+1) (.z7 z1 z2 z3 z4 z5 z6 z7)=Q1b.r7 n (Q1b.l n m) z1 z2 z3 z4 z5 z6 z7:=rfl
theorem Q1b.at8 (n m z1 z2 z3 z4 z5 z6 z7):Q1b.l n (m+1) (.z8 z1 z2 z3 z4 z5 z6 z7)=Q1b.r8 n (Q1b.l n m) z1 z2 z3 z4 z5 z6 z7:=rfl
theorem Q1b.at28 (n m z1 z2 z3 z4 z5 z6 z7 z8):Q1b.l n (m+1) (.z28 z1 z2 z3 z4 z5 z6 z7 z8)=Q1b.r28 n (Q1b.l n m) z1 z2 z3 z4 z5 z6 z7 z8:=rfl
theorem Q0z.at6 (n m z1 z2 z3 z4 z5 z6):Q0z.l n (m+1) (.z6 z1 z2 z3 z4 z5 z6)=Q0z.r6 n (Q0z.l n m) z1 z2 z3 z4 z5 z6:=rfl
theorem Q0z.at15 (n m z1 z2 z3 z4 z5 z6):Q0z.l n (m+1) (.z15 z1 z2 z3 z4 z5 z6)=Q0z.r15 n (Q0z.l n m) z1 z2 z3 z4 z5 z6:=rfl
theorem Q0z.at21 (n m z1 z2 z3 z4 z5 z6):Q0z.l n (m+1) (.z21 z1 z2 z3 z4 z5 z6)=Q0z.r21 n (Q0z.l n m) z1 z2 z3 z4 z5 z6:=rfl
theorem Q1s.at3 (n m z1 z2 z3):Q1s.l n (m+1) (.z3 z1 z2 z3)=Q1s.r3 n (Q1s.l n m) z1 z2 z3:=rfl
theorem Q1y.at3 (n m z1 z2 z3):Q1y.l n (m+1) (.z3 z1 z2 z3)=Q1y.r3 n (Q1y.l n m) z1 z2 z3:=rfl
theorem Q1t.at5 (n m z1 z2 z3 z4 z5):Q1t.l n (m+1) (.z5 z1 z2 z3 z4 z5)=Q1t.r5 n (Q1t.l n m) z1 z2 z3 z4 z5:=rfl
theorem Q1t.at18 (n m z1 z2):Q1t.l n (m+1) (.z18 z1 z2)=Q1t.r18 n (Q1t.l n m) z1 z2:=rfl
theorem Q1t.at22 (n m z1 z2 z3):Q1t.l n (m+1) (.z22 z1 z2 z3)=Q1t.r22 n (Q1t.l n m) z1 z2 z3:=rfl
theorem Q3v.at9 (n m z1 z2 z3 z4 z5):Q3v.l n (m+1) (.z9 z1 z2 z3 z4 z5)=Q3v.r9 n (Q3v.l n m) z1 z2 z3 z4 z5:=rfl
theorem Q24.at7 (n m z1 z2 z3 z4 z5 z6 z7 z8):Q24.l n (m+1) (.z7 z1 z2 z3 z4 z5 z6 z7 z8)=Q24.r7 n (Q24.l n m) z1 z2 z3 z4 z5 z6 z7 z8:=rfl
theorem Q24.at14 (n m z1 z2 z3 z4 z5 z6 z7 z8):Q24.l n (m+1) (.z14 z1 z2 z3 z4 z5 z6 z7 z8)=Q24.r14 n (Q24.l n m) z1 z2 z3 z4 z5 z6 z7 z8:=rfl
theorem Q0f.at3 (n m z1 z2 z3 z4):Q0f.l n (m+1) (.z3 z1 z2 z3 z4)=Q0f.r3 n (Q0f.l n m) z1 z2 z3 z4:=rfl
theorem Q03.at3 (n m z1 z2 z3 z4):Q03.l n (m+1) (.z3 z1 z2 z3 z4)=Q03.r3 n (Q03.l n m) z1 z2 z3 z4:=rfl
theorem Q0x.at3 (n m z1 z2 z3):Q0x.l n (m+1) (.z3 z1 z2 z3)=Q0x.r3 n (Q0x.l n m) z1 z2 z3:=rfl
theorem Q0r.at13 (n m z1 z2 z3 z4 z5 z6 z7 z8):Q0r.l n (m+1) (.z13 z1 z2 z3 z4 z5 z6 z7 z8)=Q0r.r13 n (Q0r.l n m) z1 z2 z3 z4 z5 z6 z7 z8:=rfl
theorem Q0r.at24 (n m z1 z2 z3):Q0r.l n (m+1) (.z24 z1 z2 z3)=Q0r.r24 n (Q0r.l n m) z1 z2 z3:=rfl
theorem Q12.at4 (n m z1 z2 z3 z4 z5 z6 z7 z8):Q12.l n (m+1) (.z4 z1 z2 z3 z4 z5 z6 z7 z8)=Q12.r4 n (Q12.l n m) z1 z2 z3 z4 z5 z6 z7 z8:=rfl
theorem Q0k.at11 (n m z1 z2 z3 z4 z5 z6):Q0k.l n (m+1) (.z11 z1 z2 z3 z4 z5 z6)=Q0k.r11 n (Q0k.l n m) z1 z2 z3 z4 z5 z6:=rfl
theorem Q0k.at12 (n m z1 z2 z3 z4 z5 z6):Q0k.l n (m+1) (.z12 z1 z2 z3 z4 z5 z6)=Q0k.r12 n (Q0k.l n m) z1 z2 z3 z4 z5 z6:=rfl
theorem Q0k.at30 (n m z1 z2 z3 z4 z5 z6 z7 z8):Q0k.l n (m+1) (.z30 z1 z2 z3 z4 z5 z6 z7 z8)=Q0k.r30 n (Q0k.l n m) z1 z2 z3 z4 z5 z6 z7 z8:=rfl
end Go.Proofs.YtnoldakbllfmnaaGreatDoor.Ev
namespace Go.Proofs.YtnoldakbllfmnaaGreatDoor.Ev
open Go Go.Proofs Go.Proofs.Ev
set_option linter.unusedVariables false
set_option linter.unusedSimpArgs false
variable {R:Type}
theorem w64 {x:Int} (h1 : -9223372036854775808≤x) (h2:x≤9223372036854775807):IntKind.i64.wrap x=x:=by rw [IntKind.wrap_i64]; omega
theorem cond_t {α:Type} {p:Prop} [Decidable p] (h:p) (x y:α):(bif decide p then x else y)=x:=by simp [h]
theorem cond_f {α:Type} {p:Prop} [Decidable p] (h:¬ p) (x y:α):(bif decide p then x else y)=y:=by simp [h]
theorem chk_t {R:Type} {p:Prop} [Decidable p] (h:p) (K:Option R):chk (decide p) K=K:=by simp [chk,h]
theorem within_t {i:Nat} {len:Nat} (h:i < len):(decide ((0:Int)≤(i:Int))&&decide ((i:Int) < (len:Int)))=true:=by
 rw [Bool.and_eq_true,decide_eq_true_eq,decide_eq_true_eq]; omega
theorem upto_t {i:Nat} {len:Nat} (h:i≤len):(decide ((0:Int)≤(i:Int))&&decide ((i:Int)≤(len:Int)))=true:=by
 rw [Bool.and_eq_true,decide_eq_true_eq,decide_eq_true_eq]; omega
theorem wsucc {i:Nat} (h:i≤1000000000):IntKind.i64.wrap ((i:Int)+1)=((i+1:Nat):Int):=by rw [w64] <;> omega
abbrev bs (l:List UInt8):ByteArray:=⟨l.toArray⟩
theorem bs_of (s:ByteArray):s=bs s.data.toList:=rfl
theorem bs_append (a b:List UInt8):bs a++bs b=bs (a++b):=by
 apply ByteArray.ext
 rw [ByteArray.data_append]
 simp
theorem bs_size (l:List UInt8):(bs l).size=l.length:=rfl
theorem extract_list (s:ByteArray) (a b:Nat):(s.extract a b).data.toList=(s.data.toList.drop a).take (b - a):=by
 rw [ByteArray.data_extract,Array.toList_extract,List.extract_eq_take_drop]
theorem bs_extract (l:List UInt8) (a b:Nat):(bs l).extract a b=bs ((l.drop a).take (b - a)):=by
 rw [bs_of ((bs l).extract a b),extract_list]
theorem bs_take (l:List UInt8) (b:Nat):(bs l).extract 0 b=bs (l.take b):=by rw [bs_extract]; simp
theorem bs_drop (l:List UInt8) (a:Nat):(bs l).extract a (bs l).size=bs (l.drop a):=by
 rw [bs_extract,bs_size,List.take_of_length_le (by simp)]
theorem bs_getD (l:List UInt8) (i:Nat):(bs l).data.getD i 0=l.getD i 0:=by
 rw [Array.getD_eq_getD_getElem?,List.getD_eq_getElem?_getD]
 simp
theorem getD_at {l:List UInt8} {i:Nat} (hi:i < l.length):(bs l).data.getD i 0=l[i]:=by
 rw [bs_getD]; simp [List.getD_eq_getElem?_getD,hi]
theorem bs_toList (l:List UInt8):(bs l).toList=l:=by rw [ByteArray.toList_eq]
def isD (c:UInt8):Bool:=decide (48≤c.toNat)&&decide (c.toNat≤57)
def valA (a:Nat) (l:List UInt8):Nat:=l.foldl (fun a b=>a*10+(b.toNat - 48)) a
def lead (l:List UInt8):Nat:=(l.takeWhile isD).length
theorem cond_eq (n:Nat) (b:Bool) (e:Int):Q2a.F n b e=some (if b then e else 0):=by cases b <;> rfl
theorem ncond_eq (n:Nat) (b:Bool) (e:Int):Q1r.F n b e=some (if b then e else 0):=by cases b <;> rfl
theorem in_eq (n:Nat) (a b c:Int):Q1v.F n a b c=some (decide (b≤a∧a≤c)):=by
 unfold Q1v.F Q1v.e
 by_cases h:b≤a
 ·rw [cond_t h]; simp [h]
 ·rw [cond_f h]; simp [h]
theorem Within_eq (n:Nat) (a b c:Int):Q0i.F n a b c=some (decide (b≤a∧a≤c)):=by
 unfold Q0i.F Q0i.e
 by_cases h:b≤a
 ·rw [cond_t h]; simp [h]
 ·rw [cond_f h]; simp [h]
def fz:List Int→Int
 | []=>0
 | x::r=>if x≠0 then x else fz r
theorem first_l (n:Nat) (xs:List Int) (hx:xs.length≤1000):∀ (d i m:Nat),i+d=xs.length→d < m→Q2c.l n m (.z2 (xs.map vi) xs.length i)=some (fz (xs.drop i))
 | _,_,0,_,h=>absurd h (by omega)
 | 0,i,m+1,h,_=>by
  show Q2c.r2 n (Q2c.l n m) _ _ _=_
  unfold Q2c.r2
  rw [cond_f (by omega),List.drop_of_length_le (by omega)]
  rfl
 | d+1,i,m+1,h,hm=>by
  have hi:i < xs.length:=by omega
  have ih:=first_l n xs hx d (i+1) m (by omega) (by omega)
  show Q2c.r2 n (Q2c.l n m) _ _ _=_
  unfold Q2c.r2
  rw [cond_t (by omega),List.length_map,within_t hi,cond_true]
  have e:(xs.map vi).getD (((i:Nat):Int)).toNat AV.undef=vi xs[i]:=by simp [List.getD_eq_getElem?_getD,hi]
  rw [e,List.drop_eq_getElem_cons hi]
  show (bif xs[i] != 0 then some xs[i] else _)=_
  by_cases h0:xs[i]=0
  ·have:(xs[i] != 0)=false:=by simp [h0]
   rw [this,cond_false,wsucc (by omega),ih]
   simp [fz,h0]
  ·have:(xs[i] != 0)=true:=by simp [h0]
   rw [this,cond_true]
   simp [fz,h0]
theorem first_eq {n:Nat} (xs:List Int) (hx:xs.length≤1000) (hn:1001≤n):Q2c.F n (xs.map vi)=some (fz xs):=by
 unfold Q2c.F Q2c.e
 rw [List.length_map]
 exact first_l n xs hx xs.length 0 n (by omega) (by omega)
theorem first2 {n:Nat} (hn:1001≤n) (a b:Int):Q2c.F n [vi a,vi b]=some (if a≠0 then a else b):=by
 have:=first_eq (n:=n) [a,b] (by simp) hn
 rw [show ([a,b]:List Int).map vi=[vi a,vi b] from rfl] at this
 rw [this]
 by_cases h:a=0 <;> by_cases h2:b=0 <;> simp [fz,h,h2]
theorem nfirst_l (n:Nat) (xs:List Int) (hx:xs.length≤1000):∀ (d i m:Nat),i+d=xs.length→d < m→Q1u.l n m (.z2 (xs.map vi) xs.length i)=some (fz (xs.drop i))
 | _,_,0,_,h=>absurd h (by omega)
 | 0,i,m+1,h,_=>by
  show Q1u.r2 n (Q1u.l n m) _ _ _=_
  unfold Q1u.r2
  rw [cond_f (by omega),List.drop_of_length_le (by omega)]
  rfl
 | d+1,i,m+1,h,hm=>by
  have hi:i < xs.length:=by omega
  have ih:=nfirst_l n xs hx d (i+1) m (by omega) (by omega)
  show Q1u.r2 n (Q1u.l n m) _ _ _=_
  unfold Q1u.r2
  rw [cond_t (by omega),List.length_map,within_t hi,cond_true]
  have e:(xs.map vi).getD (((i:Nat):Int)).toNat AV.undef=vi xs[i]:=by simp [List.getD_eq_getElem?_getD,hi]
  rw [e,List.drop_eq_getElem_cons hi]
  show (bif xs[i] != 0 then some xs[i] else _)=_
  by_cases h0:xs[i]=0
  ·have:(xs[i] != 0)=false:=by simp [h0]
   rw [this,cond_false,wsucc (by omega),ih]
   simp [fz,h0]
  ·have:(xs[i] != 0)=true:=by simp [h0]
   rw [this,cond_true]
   simp [fz,h0]
theorem nfirst_eq {n:Nat} (xs:List Int) (hx:xs.length≤1000) (hn:1001≤n):Q1u.F n (xs.map vi)=some (fz xs):=by
 unfold Q1u.F Q1u.e
 rw [List.length_map]
 exact nfirst_l n xs hx xs.length 0 n (by omega) (by omega)
theorem nfirst2 {n:Nat} (hn:1001≤n) (a b:Int):Q1u.F n [vi a,vi b]=some (if a≠0 then a else b):=by
 have:=nfirst_eq (n:=n) [a,b] (by simp) hn
 rw [show ([a,b]:List Int).map vi=[vi a,vi b] from rfl] at this
 rw [this]
 by_cases h:a=0 <;> by_cases h2:b=0 <;> simp [fz,h,h2]
def chkT (k a b:Int):Int:=
 if k=0 then (if ¬ (1≤a∧a≤256) then 18 else if b≠0 then 3 else 0)
 else if k=1∨k=2 then (if ¬ (1≤a∧a≤15) then 18 else if ¬ (0≤b∧b≤a) then 3 else 0)
 else if k=3 then (if ¬ (a=4∨a=9) then 18 else if ¬ (0≤b∧b≤a) then 3 else 0)
 else if k=4 then (if a≠0 then 18 else if b≠0 then 3 else 0)
 else 4
theorem beq_int (a b:Int):(a==b)=decide (a=b):=rfl
theorem r13_eq {n:Nat} (hn:1001≤n) (c:Q1l.Z→Option Int) (x y:Bool):Q1l.r13 n c x y=some (if !x then 18 else if !y then 3 else 0):=by
 unfold Q1l.r13
 rw [ncond_eq,Option.bind_some,ncond_eq,Option.bind_some,nfirst2 hn,Option.bind_some]
 cases x <;> cases y <;> rfl
theorem check_eq {n:Nat} (hn:1001≤n) (k a b:Int):Q1l.F n k a b=some (chkT k a b):=by
 obtain ⟨m,rfl⟩ : ∃ m,n=m+1:=⟨n - 1,by omega⟩
 unfold Q1l.F Q1l.e chkT
 have hl:∀ x y,Q1l.l (m+1) (m+1) (.z13 x y)=some (if !x then 18 else if !y then 3 else 0):=fun x y=>r13_eq hn (Q1l.l (m+1) m) x y
 simp only [hl,in_eq,Option.bind_some,beq_int]
 by_cases h0:k=0
 ·rw [cond_t h0]
  by_cases h1:1≤a∧a≤256 <;> by_cases h2:b=0 <;> simp only [h0,h1,h2] <;> (try simp) <;> (try (first | omega | (split <;> split <;> omega)))
 ·rw [cond_f h0]
  by_cases h1:k=1
  ·rw [cond_t h1]
   by_cases h2:1≤a∧a≤15 <;> by_cases h3:0≤b∧b≤a <;> simp only [h1,h2,h3] <;> (try simp) <;> (try (first | omega | (split <;> split <;> omega)))
  ·rw [cond_f h1]
   by_cases h2:k=2
   ·rw [cond_t h2]
    by_cases h4:1≤a∧a≤15 <;> by_cases h3:0≤b∧b≤a <;> simp only [h2,h4,h3] <;> (try simp) <;> (try (first | omega | (split <;> split <;> omega)))
   ·rw [cond_f h2]
    by_cases h3:k=3
    ·rw [cond_t h3]
     by_cases ha:a=4
     ·rw [cond_t ha]
      by_cases h5:0≤b∧b≤a <;> simp only [h3,h5] <;> (try simp [ha]) <;> (try (first | omega | (split <;> split <;> omega)))
     ·rw [cond_f ha]
      by_cases h6:a=9 <;> by_cases h5:0≤b∧b≤a <;> simp only [h3,h5,h6,ha] <;> (try simp) <;> (try (first | omega | (split <;> split <;> omega)))
    ·rw [cond_f h3]
     by_cases h4:k=4
     ·rw [cond_t h4]
      by_cases h5:a=0 <;> by_cases h6:b=0 <;> simp only [h4,h5,h6] <;> (try simp) <;> (try (first | omega | (split <;> split <;> omega)))
     ·rw [cond_f h4]
      simp [h0,h1,h2,h3,h4]
theorem count_eq (n:Nat) (b:Bool):Q06.F n b=some (if b then 1 else 0):=by cases b <;> rfl
theorem typeErr_eq {n:Nat} (hn:3≤n) (k a b:Int):Q0v.F n k a b=some (chkT k a b):=by
 obtain ⟨m,rfl⟩ : ∃ m,n=m+1:=⟨n - 1,by omega⟩
 unfold Q0v.F Q0v.e
 have hl:∀ x k a b,Q0v.l (m+1) (m+1) (.z12 x k a b)=some (if !x then 18 else if 1≤k∧k≤3 then (if 0≤b∧b≤a then 0 else 3) else (if b=0 then 0 else 3)):=by
  intro x k a b
  show Q0v.r12 (m+1) (Q0v.l (m+1) m) x k a b=_
  unfold Q0v.r12 Q0s.F Q0s.e
  cases x with
  | false=>rfl
  | true=>
   simp only [Within_eq,Option.bind_some,count_eq,Bool.not_true,cond_false]
   by_cases h:1≤k∧k≤3
   ·rw [cond_t h]
    simp only [Bool.false_eq_true,if_false,if_pos h]
    by_cases h2:0≤b∧b≤a
    ·simp only [h2,and_self,decide_true,Bool.not_true,Bool.false_eq_true,if_false,if_true]; rfl
    ·simp only [h2,decide_false,Bool.not_false,if_true,if_false]; rfl
   ·rw [cond_f h]
    simp only [Bool.false_eq_true,if_false,if_neg h]
    by_cases h2:b=0
    ·subst h2; rfl
    ·have:¬ (0≤b∧b≤0):=by omega
     simp only [h2,this,decide_false,Bool.not_false,if_true,if_false]; rfl
 simp only [hl,Within_eq,Option.bind_some,beq_int]
 unfold chkT
 by_cases hk:0≤k∧k≤4
 ·have:(!decide (0≤k∧k≤4))=false:=by simp [hk]
  rw [this,cond_false]
  by_cases h0:k=0
  ·rw [cond_t h0]
   by_cases h1:1≤a∧a≤256 <;> by_cases h2:b=0 <;> simp only [h0,h1,h2] <;> (try simp) <;> (try (first | omega | (split <;> split <;> omega)))
  ·rw [cond_f h0]
   by_cases h1:k=1
   ·rw [cond_t h1]
    by_cases h2:1≤a∧a≤15 <;> by_cases h3:0≤b∧b≤a <;> simp only [h1,h2,h3] <;> (try simp) <;> (try (first | omega | (split <;> split <;> omega)))
   ·rw [cond_f h1]
    by_cases h2:k=2
    ·rw [cond_t h2]
     by_cases h4:1≤a∧a≤15 <;> by_cases h3:0≤b∧b≤a <;> simp only [h2,h4,h3] <;> (try simp) <;> (try (first | omega | (split <;> split <;> omega)))
    ·rw [cond_f h2]
     by_cases h3:k=3
     ·rw [cond_t h3]
      by_cases ha:a=4
      ·rw [cond_t ha]
       by_cases h5:0≤b∧b≤a <;> simp only [h3,h5] <;> (try simp [ha]) <;> (try (first | omega | (split <;> split <;> omega)))
      ·rw [cond_f ha]
       by_cases h6:a=9 <;> by_cases h5:0≤b∧b≤a <;> simp only [h3,h5,h6,ha] <;> (try simp) <;> (try (first | omega | (split <;> split <;> omega)))
     ·rw [cond_f h3]
      have h4:k=4:=by omega
      by_cases h5:a=0 <;> by_cases h6:b=0 <;> simp only [h4,h5,h6] <;> (try simp) <;> (try (first | omega | (split <;> split <;> omega)))
 ·have:(!decide (0≤k∧k≤4))=true:=by simp; omega
  rw [this,cond_true,if_neg (by omega),if_neg (by omega),if_neg (by omega),if_neg (by omega)]
theorem empty_eq (l:List UInt8):((bs l).toList==(⟨#[]⟩ : ByteArray).toList)=decide (l=[]):=by
 rw [bs_toList,show (⟨#[]⟩ : ByteArray).toList=([]:List UInt8) from bs_toList []]
 cases l <;> rfl
theorem byte_ne (c u:UInt8) (k:Nat) (hu:u.toNat=k):((((c.toNat:Nat):Int)) != ((k:Nat):Int))=decide (c≠u):=by
 have:(((c.toNat:Nat):Int)=((k:Nat):Int))↔c=u:=by
  constructor
  ·intro h
   apply UInt8.toNat_inj.1
   omega
  ·rintro rfl
   omega
 rw [Bool.eq_iff_iff,bne_iff_ne,decide_eq_true_eq]
 exact not_congr this
theorem byte_eq (c u:UInt8) (k:Nat) (hu:u.toNat=k):((((c.toNat:Nat):Int))==((k:Nat):Int))=decide (c=u):=by
 have:(((c.toNat:Nat):Int)=((k:Nat):Int))↔c=u:=by
  constructor
  ·intro h
   apply UInt8.toNat_inj.1
   omega
  ·rintro rfl
   omega
 rw [Bool.eq_iff_iff,beq_iff_eq,decide_eq_true_eq]
 exact this
def Ws (ws:List (List UInt8)):List AV:=ws.map fun w=>vs (bs w)
theorem Ws_length (a:List (List UInt8)):(Ws a).length=a.length:=by simp [Ws]
def nmL (c:UInt8):Bool:=(decide (65≤c.toNat)&&decide (c.toNat≤90))||(decide (c=35)||(decide (c=36)||decide (c=64)))
def nmO (c:UInt8):Bool:=isD c||(decide (c=95)||decide (c=46))
def chkN:Nat→List UInt8→Bool
 | _,[]=>true
 | i,c::r=>(nmL c||(decide (i≠0)&&nmO c))&&chkN (i+1) r
theorem chkN_cons (i:Nat) (c:UInt8) (r:List UInt8):chkN i (c::r)=((nmL c||(decide (i≠0)&&nmO c))&&chkN (i+1) r):=rfl
def isNm (l:List UInt8):Bool:=(decide (1≤l.length)&&decide (l.length≤10))&&chkN 0 l
theorem let3 {α:Type} (f:Bool→α) (a b c d e:Bool):(bif a then (bif b then f true else (bif c then f true else (bif d then f true else f e))) else (bif c then f true else (bif d then f true else f e)))=f ((a&&b)||(c||(d||e))):=by
 cases a <;> cases b <;> cases c <;> cases d <;> rfl
theorem let2 {α:Type} (g:Bool→α) (a b c d:Bool):(bif a then (bif b then g true else (bif c then g true else g d)) else (bif c then g true else g d))=g ((a&&b)||(c||d)):=by
 cases a <;> cases b <;> cases c <;> rfl
theorem le_byte (c:UInt8) (k:Nat):decide ((k:Int)≤((c.toNat:Nat):Int))=decide (k≤c.toNat):=by rw [decide_eq_decide]; omega
theorem byte_le2 (c:UInt8) (k:Nat):decide (((c.toNat:Nat):Int)≤(k:Int))=decide (c.toNat≤k):=by rw [decide_eq_decide]; omega
theorem isName_l (n:Nat) (l:List UInt8) (hl:l.length≤1000):∀ (d i m:Nat),i+d=l.length→3*d < m→Q2i.l n m (.z4 l.length i (l.map fun b=>vu b.toNat))=some (chkN i (l.drop i))
 | _,_,0,_,h=>absurd h (by omega)
 | 0,i,m+1,h,_=>by
  rw [Q2i.at4]
  unfold Q2i.r4
  rw [cond_f (by omega),List.drop_of_length_le (by omega)]
  rfl
 | d+1,i,m+1,h,hm=>by
  have hi:i < l.length:=by omega
  obtain ⟨m,rfl⟩ : ∃ q,m=q+2:=⟨m - 2,by omega⟩
  have ih:=isName_l n l hl d (i+1) m (by omega) (by omega)
  have e:(l.map fun b=>vu b.toNat).getD (((i:Nat):Int)).toNat AV.undef=vu l[i].toNat:=by simp [List.getD_eq_getElem?_getD,hi]
  have h8:∀ z2 z3,Q2i.l n (m+1) (.z8 i z2 z3 l.length i (l.map fun b=>vu b.toNat))=some ((z2||(decide (i≠0)&&z3))&&chkN (i+1) (l.drop (i+1))):=by
   intro z2 z3
   rw [Q2i.at8]
   unfold Q2i.r8
   rw [wsucc (by omega),ih,beq_int]
   cases z2 with
   | true=>rfl
   | false=>
    by_cases h0:i=0
    ·subst h0; rfl
    ·rw [Bool.not_false,cond_true,cond_f (by omega)]
     cases z3 <;> simp [h0]
  have h7:∀ b,Q2i.l n (m+2) (.z7 i ((l[i].toNat:Nat):Int) b l.length i (l.map fun b=>vu b.toNat))=some ((b||(decide (i≠0)&&nmO l[i]))&&chkN (i+1) (l.drop (i+1))):=by
   intro b
   rw [Q2i.at7]
   unfold Q2i.r7
   rw [let2 (fun q=>Q2i.l n (m+1) (.z8 i b q l.length i (l.map fun b=>vu b.toNat))),h8]
   unfold nmO isD
   rw [show (48:Int)=((48:Nat):Int) from rfl,le_byte,show (57:Int)=((57:Nat):Int) from rfl,byte_le2,show (95:Int)=((95:Nat):Int) from rfl,byte_eq _ 95 95 rfl,show (46:Int)=((46:Nat):Int) from rfl,byte_eq _ 46 46 rfl]
  rw [Q2i.at4]
  unfold Q2i.r4
  rw [cond_t (by omega),List.length_map,within_t hi,cond_true,e,List.drop_eq_getElem_cons hi]
  show (bif decide ((65:Int)≤((l[i].toNat:Nat):Int)) then _ else _)=_
  rw [let3 (fun q=>Q2i.l n (m+2) (.z7 i ((l[i].toNat:Nat):Int) q l.length i (l.map fun b=>vu b.toNat))),h7]
  rw [chkN_cons]
  unfold nmL
  rw [show (65:Int)=((65:Nat):Int) from rfl,le_byte,show (90:Int)=((90:Nat):Int) from rfl,byte_le2,show (35:Int)=((35:Nat):Int) from rfl,byte_eq _ 35 35 rfl,show (36:Int)=((36:Nat):Int) from rfl,byte_eq _ 36 36 rfl,
   show (64:Int)=((64:Nat):Int) from rfl,byte_eq _ 64 64 rfl]
theorem isName_eq {n:Nat} (hn:1001≤n) (l:List UInt8):Q2i.F n (bs l)=some (isNm l):=by
 unfold Q2i.F Q2i.e isNm
 rw [empty_eq]
 simp only [bs_size,bs_toList,List.length_map]
 by_cases h0:l=[]
 ·rw [cond_t h0]
  subst h0
  rfl
 ·have hpos:0 < l.length:=List.length_pos_iff.2 h0
  rw [cond_f h0]
  by_cases h1:l.length > 10
  ·rw [cond_t (by omega)]
   have:decide (l.length≤10)=false:=by rw [decide_eq_false_iff_not]; omega
   rw [this]; simp
  ·rw [cond_f (by omega)]
   have h2:decide (l.length≤10)=true:=by rw [decide_eq_true_eq]; omega
   have h3:decide (1≤l.length)=true:=by rw [decide_eq_true_eq]; omega
   rw [h2,h3]
   have:=isName_l n l (by omega) l.length 0 n (by omega) (by omega)
   rw [List.drop_zero] at this
   exact this
theorem isUpper_eq (n:Nat) (c:UInt8):Q0c.F n ((c.toNat:Nat):Int)=some (decide (65≤c.toNat)&&decide (c.toNat≤90)):=by
 unfold Q0c.F Q0c.e
 rw [show (65:Int)=((65:Nat):Int) from rfl,le_byte,show (90:Int)=((90:Nat):Int) from rfl,byte_le2]
 cases decide (65≤c.toNat) <;> rfl
theorem isDig_eq (n:Nat) (c:UInt8):Q0a.F n ((c.toNat:Nat):Int)=some (isD c):=by
 unfold Q0a.F Q0a.e isD
 rw [show (48:Int)=((48:Nat):Int) from rfl,le_byte,show (57:Int)=((57:Nat):Int) from rfl,byte_le2]
 cases decide (48≤c.toNat) <;> rfl
theorem let3' {α:Type} (f:Bool→α) (p c d e:Bool):(bif p then f true else (bif c then f true else (bif d then f true else f e)))=f (p||(d||(c||e))):=by
 cases p <;> cases c <;> cases d <;> rfl
theorem isNameR_l (n:Nat) (l:List UInt8) (hl:l.length≤1000):∀ (d i m:Nat),i+d=l.length→3*d < m→Q0b.l n m (.z4 (bs l) i)=some (chkN i (l.drop i))
 | _,_,0,_,h=>absurd h (by omega)
 | 0,i,m+1,h,_=>by
  rw [Q0b.at4]
  unfold Q0b.r4
  simp only [bs_size]
  rw [cond_f (by omega),List.drop_of_length_le (by omega)]
  rfl
 | d+1,i,m+1,h,hm=>by
  have hi:i < l.length:=by omega
  obtain ⟨m,rfl⟩ : ∃ q,m=q+2:=⟨m - 2,by omega⟩
  have ih:=isNameR_l n l hl d (i+1) m (by omega) (by omega)
  have h5:Q0b.l n (m+1) (.z5 (bs l) i)=some (chkN (i+1) (l.drop (i+1))):=by
   rw [Q0b.at5]
   unfold Q0b.r5
   rw [wsucc (by omega),ih]
  have h8:∀ b,Q0b.l n (m+2) (.z8 (bs l) i ((l[i].toNat:Nat):Int) b)=some ((b||(decide (i≠0)&&nmO l[i]))&&chkN (i+1) (l.drop (i+1))):=by
   intro b
   rw [Q0b.at8]
   unfold Q0b.r8
   rw [isDig_eq,Option.bind_some,h5,beq_int,show (95:Int)=((95:Nat):Int) from rfl,byte_ne _ 95 95 rfl,show (46:Int)=((46:Nat):Int) from rfl,byte_ne _ 46 46 rfl]
   unfold nmO
   cases b with
   | true=>rfl
   | false=>
    by_cases h0:i=0
    ·subst h0; rfl
    ·rw [Bool.not_false,cond_true,cond_f (by omega)]
     by_cases h1:l[i]=95 <;> by_cases h2:l[i]=46 <;> cases isD l[i] <;> simp [h0,h1,h2]
  rw [Q0b.at4]
  unfold Q0b.r4
  simp only [bs_size,within_t hi,Int.toNat_natCast,getD_at hi,cond_true]
  rw [cond_t (by omega),isUpper_eq,Option.bind_some,let3' (fun q=>Q0b.l n (m+2) (.z8 (bs l) i ((l[i].toNat:Nat):Int) q)),h8,List.drop_eq_getElem_cons hi]
  rw [chkN_cons]
  unfold nmL
  rw [show (35:Int)=((35:Nat):Int) from rfl,byte_eq _ 35 35 rfl,show (36:Int)=((36:Nat):Int) from rfl,byte_eq _ 36 36 rfl,
   show (64:Int)=((64:Nat):Int) from rfl,byte_eq _ 64 64 rfl]
theorem isNameR_eq {n:Nat} (hn:1001≤n) (l:List UInt8):Q0b.F n (bs l)=some (isNm l):=by
 unfold Q0b.F Q0b.e isNm
 rw [Within_eq,Option.bind_some,bs_size]
 have e:decide ((1:Int)≤((l.length:Nat):Int)∧((l.length:Nat):Int)≤10)=(decide (1≤l.length)&&decide (l.length≤10)):=by
  rw [← Bool.decide_and,decide_eq_decide]; omega
 rw [e]
 cases h:(decide (1≤l.length)&&decide (l.length≤10)) with
 | false=>rfl
 | true=>
  rw [Bool.and_eq_true,decide_eq_true_eq,decide_eq_true_eq] at h
  have:=isNameR_l n l (by omega) l.length 0 n (by omega) (by omega)
  rw [List.drop_zero] at this
  exact this
theorem str_eq (a b:List UInt8):((bs a).toList==(bs b).toList)=decide (a=b):=by
 rw [bs_toList,bs_toList]
 by_cases h:a=b <;> simp [h]
def ixs:List (List UInt8)→List UInt8→Nat→Int
 | [],_,_=>-1
 | w::r,s,i=>if w=s then (i:Int) else ixs r s (i+1)
theorem ixs_cons (w:List UInt8) (r:List (List UInt8)) (s:List UInt8) (i:Nat):ixs (w::r) s i=if w=s then (i:Int) else ixs r s (i+1):=rfl
theorem ixs_has:∀ (ws:List (List UInt8)) (s:List UInt8) (i:Nat),decide (ixs ws s i≥0)=ws.contains s
 | [],s,i=>by simp [ixs]
 | w::r,s,i=>by
  unfold ixs
  rw [List.contains_cons]
  by_cases h:w=s
  ·subst h; simp
  ·have:(s==w)=false:=by simpa using fun e=>h e.symm
   rw [if_neg h,this,Bool.false_or,ixs_has r s (i+1)]
theorem ixs_lt:∀ (ws:List (List UInt8)) (s:List UInt8) (i k:Nat),k < ws.length→ws[k]?=some s→decide (ixs ws s i < ((i+k:Nat):Int))=(ws.take k).contains s
 | w::r,s,i,0,_,h=>by
  simp at h
  subst h
  simp [ixs]
 | w::r,s,i,k+1,hk,h=>by
  unfold ixs
  rw [List.take_succ_cons,List.contains_cons]
  by_cases e:w=s
  ·subst e; simp; omega
  ·have:(s==w)=false:=by simpa using fun e'=>e e'.symm
   rw [if_neg e,this,Bool.false_or,← ixs_lt r s (i+1) k (by simpa using hk) (by simpa using h),show i+(k+1)=i+1+k by omega]
theorem cells_agg (cs:List AV):(AV.agg cs).cells=cs:=rfl
theorem cells_v (x:Value):(AV.v x).cells=[.v x]:=rfl
theorem withCons_cons (c:AV) (r:List AV) (K:AV→List AV→Option R):withCons (c::r) K=K c r:=rfl
theorem withInt_mk (k:IntKind) (n:Int) (K:Int→Option R):withInt k (.v (.int k n)) K=K n:=by simp [withInt]
theorem withStr_mk (s:ByteArray) (K:ByteArray→Option R):withStr (.v (.string s)) K=K s:=rfl
theorem withBool_mk (b:Bool) (K:Bool→Option R):withBool (.v (.bool b)) K=K b:=rfl
theorem withSl_mk (fl:Fl) (sz:Nat) (xs:List AV) (K:List AV→Option R):withSl fl sz (.sl fl sz xs) K=K xs:=by
 have:(fl==fl)=true:=by simp
 simp [withSl]
theorem bif_ite {p:Prop} [Decidable p] (x y:R):(bif decide p then x else y)=if p then x else y:=by by_cases h:p <;> simp [h]
theorem bif_eq0 (a b:Int) (x y:R):(bif a==b then x else y)=if a=b then x else y:=by
 show (bif decide (a=b) then x else y)=_
 exact bif_ite x y
theorem bif_not (b:Bool) (x y:R):(bif !b then x else y)=if b=false then x else y:=by cases b <;> rfl
theorem at_mapN {α:Type} (f:α→AV) {l:List α} {i:Nat} (hi:i < l.length):(l.map f).getD i AV.undef=f l[i]:=by simp [List.getD_eq_getElem?_getD,hi]
theorem Ws_getDN {ws:List (List UInt8)} {i:Nat} (hi:i < ws.length):(Ws ws).getD i AV.undef=vs (bs ws[i]):=by simp [Ws,List.getD_eq_getElem?_getD,hi]
def szT (k l:Int):Int:=if k=1 then l / 2+1 else if k=3 then (if l=9 then 4 else 2) else if k=4 then 16 else l
theorem chkT_cases {k l s:Int} (h:chkT k l s=0):(k=0∧1≤l∧l≤256)∨((k=1∨k=2)∧1≤l∧l≤15)∨(k=3∧(l=4∨l=9))∨(k=4∧l=0):=by
 unfold chkT at h
 by_cases h0:k=0
 ·rw [if_pos h0] at h
  by_cases h1:1≤l∧l≤256
  ·exact .inl ⟨h0,h1⟩
  ·rw [if_pos h1] at h; cases h
 ·rw [if_neg h0] at h
  by_cases h1:k=1∨k=2
  ·rw [if_pos h1] at h
   by_cases h2:1≤l∧l≤15
   ·exact .inr (.inl ⟨h1,h2⟩)
   ·rw [if_pos h2] at h; cases h
  ·rw [if_neg h1] at h
   by_cases h3:k=3
   ·rw [if_pos h3] at h
    by_cases h2:l=4∨l=9
    ·exact .inr (.inr (.inl ⟨h3,h2⟩))
    ·rw [if_pos h2] at h; cases h
   ·rw [if_neg h3] at h
    by_cases h4:k=4
    ·rw [if_pos h4] at h
     by_cases h2:l=0
     ·exact .inr (.inr (.inr ⟨h4,h2⟩))
     ·rw [if_pos h2] at h; cases h
    ·rw [if_neg h4] at h; cases h
theorem szT_range {k l s:Int} (h:chkT k l s=0):0≤szT k l∧szT k l≤256:=by
 unfold szT
 rcases chkT_cases h with ⟨h1,h2⟩ | ⟨h1,h2⟩ | ⟨h1,h2⟩ | ⟨h1,h2⟩ <;> (repeat' split) <;> omega
theorem nsize_eq (n:Nat) {k l s:Int} (h:chkT k l s=0):Q21.F n k l s=some (szT k l):=by
 unfold Q21.F Q21.e szT
 have hc:=chkT_cases h
 have h0:0≤l∧l≤256:=by omega
 simp only [bif_eq0]
 rw [Int.tdiv_eq_ediv_of_nonneg h0.1,Int.tdiv_eq_ediv_of_nonneg h0.1]
 by_cases h1:k=1
 ·rw [if_pos h1,if_pos h1,w64 (x:=l / 2) (by omega) (by omega),w64 (by omega) (by omega)]
 ·rw [if_neg h1,if_neg h1]
  by_cases h3:k=3
  ·rw [if_pos h3,if_pos h3]
   have:l=4∨l=9:=by omega
   rcases this with rfl | rfl <;> rfl
  ·rw [if_neg h3,if_neg h3]
   split <;> rfl
theorem bsize_eq (n:Nat) {k l s:Int} (h:chkT k l s=0):Q0h.F n k l s=some (szT k l):=by
 unfold Q0h.F Q0h.e szT
 have hc:=chkT_cases h
 have h0:0≤l∧l≤256:=by omega
 simp only [bif_eq0]
 rw [Int.tdiv_eq_ediv_of_nonneg h0.1]
 by_cases h1:k=1
 ·rw [if_pos h1,if_pos h1,w64 (x:=l / 2) (by omega) (by omega),w64 (by omega) (by omega)]
 ·rw [if_neg h1,if_neg h1]
  by_cases h3:k=3
  ·rw [if_pos h3,if_pos h3,count_eq]
   have:l=4∨l=9:=by omega
   rcases this with rfl | rfl <;> rfl
  ·rw [if_neg h3,if_neg h3]
   split <;> rfl
theorem sizeOf_eq {n:Nat} (hn:1001≤n) {k l s:Int} (h:chkT k l s=0):Q1q.F n k l s=some (szT k l,0):=by
 unfold Q1q.F Q1q.e
 rw [check_eq hn,Option.bind_some,h]
 show ((Q21.F n k l s).bind fun p=>some (p,0))=_
 rw [nsize_eq n h]
 rfl
end Go.Proofs.YtnoldakbllfmnaaGreatDoor.Ev
end
