import Derived.Test.YtmpglmcjoelciaaGreatDoorDQa
import Derived.Lib.IndexBytes
noncomputable section
namespace Go.Proofs.YtmpglmcjoelciaaGreatDoor.Ev
open Go Go.Proofs Go.Proofs.Ev
set_option linter.unusedVariables false
set_option maxRecDepth 100000
abbrev Q0s.A:=ByteArray
abbrev Q0s.T:=Bool
def Q0s.i:Q0s.A→List AV:=fun a0=>[vs a0]
def Q0s.o (xs:List AV):Option Q0s.A:=match xs with | [.v (.string a0)]=>some a0 | _=>none
theorem Q0s.oi:∀ xs a,Q0s.o xs=some a→xs=Q0s.i a:=by
 intro xs a h
 unfold Q0s.o at h
 split at h
 ·cases h; rfl
 ·cases h
def Q0s.p (p:Q0s.T):AV:=vb p
def Q0s.q (x:AV):Option Q0s.T:=match x with | .v (.bool p0)=>some p0 | _=>none
theorem Q0s.qi:∀ x p,Q0s.q x=some p→x=Q0s.p p:=by
 intro x p h
 unfold Q0s.q at h
 split at h
 ·cases h; rfl
 ·cases h
inductive Q0s.Z where
 | z2 (z1 z2:Int) (z3:List AV)
def Q0s.C {R:Type} (n:Nat) (f:FuncId) (xs:List AV):(AV→Option R)→Option R:=
 fun _=>none
theorem Q0s.tells {R:Type} (n:Nat):Tells (R:=R) Tryz.prog (Q0s.C n):=fun _ xs=>Tells1.none
def Q0s.cut (r:Nat):Option Keep:=match r with | 2=>some ⟨[6,7,8],[]⟩ | _=>none
def Q0s.t (z:Q0s.Z):List Item:=(todoOf (match z with | .z2 _ _ _=>2) 1000 [.code (Tryz.f46.body.getD .skip)]).getD []
def Q0s.s:Q0s.Z→St
 | .z2 z1 z2 z3=>⟨spr 19 0 [(6,.own 0 0 none),(7,vi z1),(8,vi z2)],Mem.ofList [.row ⟨true,5⟩ 1 z3],1⟩
def Q0s.r2 (n:Nat) (c:Q0s.Z→Option Bool) (z1 z2:Int) (z3:List AV):Option Bool:=
 bif decide (z2 < z1) then (bif decide ((0:Int)≤z2)&&decide (z2 < ((z3.length:Nat):Int)) then (withCons ((z3.getD ((z2).toNat) .undef).cells) fun h2 r3=>
 withInt .u8 h2 fun x4=>
 bif decide (x4 < 32) then (some false) else (bif decide (x4 > 126) then (some false) else (c (.z2 z1 (IntKind.i64.wrap (z2+1)) z3)))) else none) else (some true)
def Q0s.r (n:Nat) (c:Q0s.Z→Option Bool):Q0s.Z→Option Bool
 | .z2 z1 z2 z3=>Q0s.r2 n c z1 z2 z3
def Q0s.e (n:Nat) (c:Q0s.Z→Option Bool) (a0:ByteArray):Option Bool:=
 let y1:List AV:=a0.toList.map fun b=>vu b.toNat
 c (.z2 ((y1.length:Nat):Int) 0 y1)
def Q0s.E (n:Nat) (c:Q0s.Z→Option Bool):Q0s.A→Option Q0s.T:=fun a0=>Q0s.e n c a0
def Q0s.l (n:Nat):Nat→Q0s.Z→Option Bool:=loopL (Q0s.r n)
def Q0s.F (n:Nat) (a0:ByteArray):Option Bool:=Q0s.e n (Q0s.l n n) a0
def Q0s.FA (n:Nat):Q0s.A→Option Q0s.T:=Q0s.E n (Q0s.l n n)
theorem Q0s.hands (n:Nat):∀ a p,Q0s.FA n a=some p→HandsIn Tryz.prog 46 (Q0s.i a) (Q0s.p p):=
 pf_hands (C:=Q0s.C n) (cut:=Q0s.cut) (t:=Q0s.t) (s:=Q0s.s) (e:=Q0s.E n) (r:=Q0s.r n) (n:=n) cfg mixed globs rfl Q0s.qi (Q0s.tells n) Tryz.func46 (by kernel_rfl) (by kernel_rfl) (fun rec a=>by kernel_rfl) (fun rec z=>by cases z <;> kernel_rfl)
def Q0s.via {R:Type} (n:Nat):List AV→(AV→Option R)→Option R:=viaK (Q0s.FA n) Q0s.o Q0s.p
theorem Q0s.tells1 {R:Type} (n:Nat) (xs:List AV):Tells1 (R:=R) Tryz.prog 46 xs (Q0s.via n xs):=tells_via Q0s.oi (fun a=>by kernel_rfl) (Q0s.hands n) xs
end Go.Proofs.YtmpglmcjoelciaaGreatDoor.Ev
namespace Go.Proofs.YtmpglmcjoelciaaGreatDoor.Ev
open Go Go.Proofs Go.Proofs.Ev
set_option linter.unusedVariables false
set_option maxRecDepth 100000
abbrev Q14.A:=ByteArray
abbrev Q14.T:=Int
def Q14.i:Q14.A→List AV:=fun a0=>[vs a0]
def Q14.o (xs:List AV):Option Q14.A:=match xs with | [.v (.string a0)]=>some a0 | _=>none
theorem Q14.oi:∀ xs a,Q14.o xs=some a→xs=Q14.i a:=by
 intro xs a h
 unfold Q14.o at h
 split at h
 ·cases h; rfl
 ·cases h
def Q14.p (p:Q14.T):AV:=vi p
def Q14.q (x:AV):Option Q14.T:=match x with | .v (.int .i64 p0)=>some p0 | _=>none
theorem Q14.qi:∀ x p,Q14.q x=some p→x=Q14.p p:=by
 intro x p h
 unfold Q14.q at h
 split at h
 ·cases h; rfl
 ·cases h
inductive Q14.Z where
 | z2 (z1:ByteArray) (z2:Int)
def Q14.C {R:Type} (n:Nat) (f:FuncId) (xs:List AV):(AV→Option R)→Option R:=
 fun _=>none
theorem Q14.tells {R:Type} (n:Nat):Tells (R:=R) Tryz.prog (Q14.C n):=fun _ xs=>Tells1.none
def Q14.cut (r:Nat):Option Keep:=match r with | 2=>some ⟨[0,3],[]⟩ | _=>none
def Q14.t (z:Q14.Z):List Item:=(todoOf (match z with | .z2 _ _=>2) 1000 [.code (Tryz.f97.body.getD .skip)]).getD []
def Q14.s:Q14.Z→St
 | .z2 z1 z2=>⟨spr 32 0 [(0,vs z1),(3,vi z2)],Mem.ofList [],0⟩
def Q14.r2 (n:Nat) (c:Q14.Z→Option Int) (z1:ByteArray) (z2:Int):Option Int:=
 let y1:Bool:=decide (z2 < ((z1.size:Nat):Int))
 bif y1 then (bif decide ((0:Int)≤z2)&&decide (z2 < ((z1.size:Nat):Int)) then (let y2:Int:=(((z1.data.getD ((z2).toNat) 0).toNat:Nat):Int)
 bif y2 != 39 then (c (.z2 z1 (IntKind.i64.wrap (z2+1)))) else (let y3:Bool:=decide ((IntKind.i64.wrap (z2+1)) < ((z1.size:Nat):Int))
 bif y3 then (bif decide ((0:Int)≤IntKind.i64.wrap (z2+1))&&decide (IntKind.i64.wrap (z2+1) < ((z1.size:Nat):Int)) then (let y4:Int:=(((z1.data.getD ((IntKind.i64.wrap (z2+1)).toNat) 0).toNat:Nat):Int)
 bif y4==39 then (let y5:Int:=IntKind.i64.wrap ((IntKind.i64.wrap (z2+1))+1)
 c (.z2 z1 y5)) else (some (IntKind.i64.wrap (z2+1)))) else none) else (some (IntKind.i64.wrap (z2+1))))) else none) else (some 0)
def Q14.r (n:Nat) (c:Q14.Z→Option Int):Q14.Z→Option Int
 | .z2 z1 z2=>Q14.r2 n c z1 z2
def Q14.e (n:Nat) (c:Q14.Z→Option Int) (a0:ByteArray):Option Int:=
 c (.z2 a0 1)
def Q14.E (n:Nat) (c:Q14.Z→Option Int):Q14.A→Option Q14.T:=fun a0=>Q14.e n c a0
def Q14.l (n:Nat):Nat→Q14.Z→Option Int:=loopL (Q14.r n)
def Q14.F (n:Nat) (a0:ByteArray):Option Int:=Q14.e n (Q14.l n n) a0
def Q14.FA (n:Nat):Q14.A→Option Q14.T:=Q14.E n (Q14.l n n)
theorem Q14.hands (n:Nat):∀ a p,Q14.FA n a=some p→HandsIn Tryz.prog 97 (Q14.i a) (Q14.p p):=
 pf_hands (C:=Q14.C n) (cut:=Q14.cut) (t:=Q14.t) (s:=Q14.s) (e:=Q14.E n) (r:=Q14.r n) (n:=n) cfg mixed globs rfl Q14.qi (Q14.tells n) Tryz.func97 (by kernel_rfl) (by kernel_rfl) (fun rec a=>by kernel_rfl) (fun rec z=>by cases z <;> kernel_rfl)
def Q14.via {R:Type} (n:Nat):List AV→(AV→Option R)→Option R:=viaK (Q14.FA n) Q14.o Q14.p
theorem Q14.tells1 {R:Type} (n:Nat) (xs:List AV):Tells1 (R:=R) Tryz.prog 97 xs (Q14.via n xs):=tells_via Q14.oi (fun a=>by kernel_rfl) (Q14.hands n) xs
end Go.Proofs.YtmpglmcjoelciaaGreatDoor.Ev
namespace Go.Proofs.YtmpglmcjoelciaaGreatDoor.Ev
open Go Go.Proofs Go.Proofs.Ev
set_option linter.unusedVariables false
set_option maxRecDepth 100000
abbrev Q4f.A:=ByteArray × ByteArray
abbrev Q4f.T:=Bool
def Q4f.i:Q4f.A→List AV:=fun (a0,a1)=>[vs a0,vs a1]
def Q4f.o (xs:List AV):Option Q4f.A:=match xs with | [.v (.string a0),.v (.string a1)]=>some (a0,a1) | _=>none
theorem Q4f.oi:∀ xs a,Q4f.o xs=some a→xs=Q4f.i a:=by
 intro xs a h
 unfold Q4f.o at h
 split at h
 ·cases h; rfl
 ·cases h
def Q4f.p (p:Q4f.T):AV:=vb p
def Q4f.q (x:AV):Option Q4f.T:=match x with | .v (.bool p0)=>some p0 | _=>none
theorem Q4f.qi:∀ x p,Q4f.q x=some p→x=Q4f.p p:=by
 intro x p h
 unfold Q4f.q at h
 split at h
 ·cases h; rfl
 ·cases h
def Q4f.C {R:Type} (n:Nat) (f:FuncId) (xs:List AV):(AV→Option R)→Option R:=
 bif Nat.beq f 106 then Q4h.via n xs else fun _=>none
theorem Q4f.tells {R:Type} (n:Nat):Tells (R:=R) Tryz.prog (Q4f.C n):=fun _ xs=>tells_at (Q4h.tells1 n xs) (Tells1.none)
def Q4f.cut (r:Nat):Option Keep:=match r with  | _=>none
def Q4f.e (n:Nat) (a0 a1:ByteArray):Option Bool:=
 (Q4h.F n a0 a1).bind fun p1=>
 some (decide (p1≥0))
def Q4f.E (n:Nat):Q4f.A→Option Q4f.T:=fun (a0,a1)=>Q4f.e n a0 a1
def Q4f.F (n:Nat) (a0 a1:ByteArray):Option Bool:=Q4f.e n a0 a1
def Q4f.FA (n:Nat):Q4f.A→Option Q4f.T:=Q4f.E n
theorem Q4f.hands (n:Nat):∀ a p,Q4f.FA n a=some p→HandsIn Tryz.prog 98 (Q4f.i a) (Q4f.p p):=
 pf_hands (C:=Q4f.C n) (cut:=Q4f.cut) (Z:=Empty) (t:=nofun) (s:=nofun) (e:=fun _=>Q4f.E n) (r:=fun _ z=>nomatch z) (n:=n) cfg mixed globs rfl Q4f.qi (Q4f.tells n) Tryz.func98 (by kernel_rfl) (by kernel_rfl) (fun rec a=>by kernel_rfl) (fun rec z=>nomatch z)
def Q4f.via {R:Type} (n:Nat):List AV→(AV→Option R)→Option R:=viaK (Q4f.FA n) Q4f.o Q4f.p
theorem Q4f.tells1 {R:Type} (n:Nat) (xs:List AV):Tells1 (R:=R) Tryz.prog 98 xs (Q4f.via n xs):=tells_via Q4f.oi (fun a=>by kernel_rfl) (Q4f.hands n) xs
end Go.Proofs.YtmpglmcjoelciaaGreatDoor.Ev
namespace Go.Proofs.YtmpglmcjoelciaaGreatDoor.Ev
open Go Go.Proofs Go.Proofs.Ev
set_option linter.unusedVariables false
set_option maxRecDepth 100000
abbrev Q1n.A:=ByteArray
abbrev Q1n.T:=Int
def Q1n.i:Q1n.A→List AV:=fun a0=>[vs a0]
def Q1n.o (xs:List AV):Option Q1n.A:=match xs with | [.v (.string a0)]=>some a0 | _=>none
theorem Q1n.oi:∀ xs a,Q1n.o xs=some a→xs=Q1n.i a:=by
 intro xs a h
 unfold Q1n.o at h
 split at h
 ·cases h; rfl
 ·cases h
def Q1n.p (p:Q1n.T):AV:=vi p
def Q1n.q (x:AV):Option Q1n.T:=match x with | .v (.int .i64 p0)=>some p0 | _=>none
theorem Q1n.qi:∀ x p,Q1n.q x=some p→x=Q1n.p p:=by
 intro x p h
 unfold Q1n.q at h
 split at h
 ·cases h; rfl
 ·cases h
inductive Q1n.Z where
 | z8 (z1:Int)
def Q1n.C {R:Type} (n:Nat) (f:FuncId) (xs:List AV):(AV→Option R)→Option R:=
 bif Nat.beq f 96 then Q4i.via n xs else bif Nat.beq f 97 then Q14.via n xs else bif Nat.beq f 98 then Q4f.via n xs else fun _=>none
theorem Q1n.tells {R:Type} (n:Nat):Tells (R:=R) Tryz.prog (Q1n.C n):=fun _ xs=>tells_at (Q4i.tells1 n xs) (tells_at (Q14.tells1 n xs) (tells_at (Q4f.tells1 n xs) (Tells1.none)))
def Q1n.cut (r:Nat):Option Keep:=match r with | 8=>some ⟨[3],[]⟩ | _=>none
def Q1n.t (z:Q1n.Z):List Item:=(todoOf (match z with | .z8 _=>8) 1000 [.code (Tryz.f47.body.getD .skip)]).getD []
def Q1n.s:Q1n.Z→St
 | .z8 z1=>⟨spr 31 0 [(3,vi z1)],Mem.ofList [],0⟩
def Q1n.r8 (n:Nat) (c:Q1n.Z→Option Int) (z1:Int):Option Int:=
 some z1
def Q1n.r (n:Nat) (c:Q1n.Z→Option Int):Q1n.Z→Option Int
 | .z8 z1=>Q1n.r8 n c z1
def Q1n.e (n:Nat) (c:Q1n.Z→Option Int) (a0:ByteArray):Option Int:=
 (Q4i.F n a0 32).bind fun p1=>
 bif decide (p1 < 0) then (bif decide ((0:Int) < (a0.size:Nat)) then (let y2:Int:=(((a0.data.getD 0 0).toNat:Nat):Int)
 bif y2==39 then ((Q14.F n a0).bind fun p3=>
 let y4:Bool:=decide (p3 < ((a0.size:Nat):Int))
 bif y4 then (bif decide ((0:Int)≤p3)&&decide (p3 < ((a0.size:Nat):Int)) then (let y5:Int:=(((a0.data.getD ((p3).toNat) 0).toNat:Nat):Int)
 bif y5 != 32 then (some 0) else (c (.z8 p3))) else none) else (c (.z8 p3))) else (bif decide ((0:Int)≤((a0.size:Nat):Int))&&decide ((((a0.size:Nat):Int):Int)≤((a0.size:Nat):Int)) then (let y6:ByteArray:=a0.extract 0 (((a0.size:Nat):Int)).toNat
 (Q4f.F n y6 (⟨#[39]⟩ : ByteArray)).bind fun p7=>
 bif p7 then (some 0) else (some ((a0.size:Nat):Int))) else none)) else none) else (bif decide ((0:Int) < (a0.size:Nat)) then (let y8:Int:=(((a0.data.getD 0 0).toNat:Nat):Int)
 bif y8==39 then ((Q14.F n a0).bind fun p9=>
 let y10:Bool:=decide (p9 < ((a0.size:Nat):Int))
 bif y10 then (bif decide ((0:Int)≤p9)&&decide (p9 < ((a0.size:Nat):Int)) then (let y11:Int:=(((a0.data.getD ((p9).toNat) 0).toNat:Nat):Int)
 bif y11 != 32 then (some 0) else (c (.z8 p9))) else none) else (c (.z8 p9))) else (bif decide ((0:Int)≤p1)&&decide ((p1:Int)≤((a0.size:Nat):Int)) then ((Q4f.F n (a0.extract 0 (p1).toNat) (⟨#[39]⟩ : ByteArray)).bind fun p12=>
 bif p12 then (some 0) else (some p1)) else none)) else none)
def Q1n.E (n:Nat) (c:Q1n.Z→Option Int):Q1n.A→Option Q1n.T:=fun a0=>Q1n.e n c a0
def Q1n.l (n:Nat):Nat→Q1n.Z→Option Int:=loopL (Q1n.r n)
def Q1n.F (n:Nat) (a0:ByteArray):Option Int:=Q1n.e n (Q1n.l n n) a0
def Q1n.FA (n:Nat):Q1n.A→Option Q1n.T:=Q1n.E n (Q1n.l n n)
theorem Q1n.hands (n:Nat):∀ a p,Q1n.FA n a=some p→HandsIn Tryz.prog 47 (Q1n.i a) (Q1n.p p):=
 pf_hands (C:=Q1n.C n) (cut:=Q1n.cut) (t:=Q1n.t) (s:=Q1n.s) (e:=Q1n.E n) (r:=Q1n.r n) (n:=n) cfg mixed globs rfl Q1n.qi (Q1n.tells n) Tryz.func47 (by kernel_rfl) (by kernel_rfl) (fun rec a=>by kernel_rfl) (fun rec z=>by cases z <;> kernel_rfl)
def Q1n.via {R:Type} (n:Nat):List AV→(AV→Option R)→Option R:=viaK (Q1n.FA n) Q1n.o Q1n.p
theorem Q1n.tells1 {R:Type} (n:Nat) (xs:List AV):Tells1 (R:=R) Tryz.prog 47 xs (Q1n.via n xs):=tells_via Q1n.oi (fun a=>by kernel_rfl) (Q1n.hands n) xs
end Go.Proofs.YtmpglmcjoelciaaGreatDoor.Ev
namespace Go.Proofs.YtmpglmcjoelciaaGreatDoor.Ev
open Go Go.Proofs Go.Proofs.Ev
set_option linter.unusedVariables false
set_option maxRecDepth 100000
abbrev Q0d.A:=ByteArray
abbrev Q0d.T:=List AV × Int
def Q0d.i:Q0d.A→List AV:=fun a0=>[vs a0]
def Q0d.o (xs:List AV):Option Q0d.A:=match xs with | [.v (.string a0)]=>some a0 | _=>none
theorem Q0d.oi:∀ xs a,Q0d.o xs=some a→xs=Q0d.i a:=by
 intro xs a h
 unfold Q0d.o at h
 split at h
 ·cases h; rfl
 ·cases h
def Q0d.p (p:Q0d.T):AV:=.tup [.fr ⟨true,9⟩ 1 p.1,vi p.2]
def Q0d.q (x:AV):Option Q0d.T:=match x with | .tup [.fr ⟨true,9⟩ 1 p0,.v (.int .i64 p1)]=>some (p0,p1) | _=>none
theorem Q0d.qi:∀ x p,Q0d.q x=some p→x=Q0d.p p:=by
 intro x p h
 unfold Q0d.q at h
 split at h
 ·cases h; rfl
 ·cases h
inductive Q0d.Z where
 | z5 (z1:ByteArray) (z2:List AV)
def Q0d.C {R:Type} (n:Nat) (f:FuncId) (xs:List AV):(AV→Option R)→Option R:=
 bif Nat.beq f 44 then Q0m.via n xs else bif Nat.beq f 45 then Q0f.via n xs else bif Nat.beq f 46 then Q0s.via n xs else bif Nat.beq f 47 then Q1n.via n xs else fun _=>none
theorem Q0d.tells {R:Type} (n:Nat):Tells (R:=R) Tryz.prog (Q0d.C n):=fun _ xs=>tells_at (Q0m.tells1 n xs) (tells_at (Q0f.tells1 n xs) (tells_at (Q0s.tells1 n xs) (tells_at (Q1n.tells1 n xs) (Tells1.none))))
def Q0d.cut (r:Nat):Option Keep:=match r with | 5=>some ⟨[0,5],[(5,none,⟨true,9⟩,1)]⟩ | _=>none
def Q0d.t (z:Q0d.Z):List Item:=(todoOf (match z with | .z5 _ _=>5) 1000 [.code (Tryz.f13.body.getD .skip)]).getD []
def Q0d.s:Q0d.Z→St
 | .z5 z1 z2=>⟨spr 43 0 [(0,vs z1),(5,.own 0 0 none)],Mem.ofList [.row ⟨true,9⟩ 1 z2],1⟩
def Q0d.r5 (n:Nat) (c:Q0d.Z→Option (List AV × Int)) (z1:ByteArray) (z2:List AV):Option (List AV × Int):=
 let y6:Bool:=!(z1.toList==(⟨#[]⟩ : ByteArray).toList)
 bif y6 then ((Q1n.F n z1).bind fun p7=>
 bif p7==0 then (some ([],8)) else (bif decide ((0:Int)≤p7)&&decide ((p7:Int)≤((z1.size:Nat):Int)) then (let y8:List AV:=[vs (z1.extract 0 (p7).toNat)]
 bif decide (z2.length+y8.length≤most) then (let y9:Bool:=p7==((z1.size:Nat):Int)
 bif y9 then (some (z2++y8,0)) else (bif decide ((0:Int)≤IntKind.i64.wrap (p7+1))&&decide ((IntKind.i64.wrap (p7+1):Int)≤((z1.size:Nat):Int)) then (let y10:ByteArray:=z1.extract (IntKind.i64.wrap (p7+1)).toNat z1.size
 let y11:Bool:=y10.toList==(⟨#[]⟩ : ByteArray).toList
 bif y11 then (some ([],8)) else (c (.z5 y10 (z2++y8)))) else none)) else none) else none)) else (some (z2,0))
def Q0d.r (n:Nat) (c:Q0d.Z→Option (List AV × Int)):Q0d.Z→Option (List AV × Int)
 | .z5 z1 z2=>Q0d.r5 n c z1 z2
def Q0d.e (n:Nat) (c:Q0d.Z→Option (List AV × Int)) (a0:ByteArray):Option (List AV × Int):=
 let y1:Bool:=decide (((a0.size:Nat):Int) > 240)
 (Q0f.F n y1 2).bind fun p2=>
 (Q0s.F n a0).bind fun p3=>
 (Q0f.F n (!p3) 8).bind fun p4=>
 (Q0m.F n [vi p2,vi p4]).bind fun p5=>
 bif p5 != 0 then (some ([],p5)) else (c (.z5 a0 []))
def Q0d.E (n:Nat) (c:Q0d.Z→Option (List AV × Int)):Q0d.A→Option Q0d.T:=fun a0=>Q0d.e n c a0
def Q0d.l (n:Nat):Nat→Q0d.Z→Option (List AV × Int):=loopL (Q0d.r n)
def Q0d.F (n:Nat) (a0:ByteArray):Option (List AV × Int):=Q0d.e n (Q0d.l n n) a0
def Q0d.FA (n:Nat):Q0d.A→Option Q0d.T:=Q0d.E n (Q0d.l n n)
theorem Q0d.hands (n:Nat):∀ a p,Q0d.FA n a=some p→HandsIn Tryz.prog 13 (Q0d.i a) (Q0d.p p):=
 pf_hands (C:=Q0d.C n) (cut:=Q0d.cut) (t:=Q0d.t) (s:=Q0d.s) (e:=Q0d.E n) (r:=Q0d.r n) (n:=n) cfg mixed globs rfl Q0d.qi (Q0d.tells n) Tryz.func13 (by kernel_rfl) (by kernel_rfl) (fun rec a=>by kernel_rfl) (fun rec z=>by cases z <;> kernel_rfl)
def Q0d.via {R:Type} (n:Nat):List AV→(AV→Option R)→Option R:=viaK (Q0d.FA n) Q0d.o Q0d.p
theorem Q0d.tells1 {R:Type} (n:Nat) (xs:List AV):Tells1 (R:=R) Tryz.prog 13 xs (Q0d.via n xs):=tells_via Q0d.oi (fun a=>by kernel_rfl) (Q0d.hands n) xs
end Go.Proofs.YtmpglmcjoelciaaGreatDoor.Ev
namespace Go.Proofs.YtmpglmcjoelciaaGreatDoor.Ev
open Go Go.Proofs Go.Proofs.Ev
set_option linter.unusedVariables false
set_option maxRecDepth 100000
abbrev Q3d.A:=ByteArray
abbrev Q3d.T:=Int × Bool
def Q3d.i:Q3d.A→List AV:=fun a0=>[vs a0]
def Q3d.o (xs:List AV):Option Q3d.A:=match xs with | [.v (.string a0)]=>some a0 | _=>none
theorem Q3d.oi:∀ xs a,Q3d.o xs=some a→xs=Q3d.i a:=by
 intro xs a h
 unfold Q3d.o at h
 split at h
 ·cases h; rfl
 ·cases h
def Q3d.p (p:Q3d.T):AV:=.tup [vi p.1,vb p.2]
def Q3d.q (x:AV):Option Q3d.T:=match x with | .tup [.v (.int .i64 p0),.v (.bool p1)]=>some (p0,p1) | _=>none
theorem Q3d.qi:∀ x p,Q3d.q x=some p→x=Q3d.p p:=by
 intro x p h
 unfold Q3d.q at h
 split at h
 ·cases h; rfl
 ·cases h
inductive Q3d.Z where
 | z2 (z1:ByteArray) (z2:Int)
def Q3d.C {R:Type} (n:Nat) (f:FuncId) (xs:List AV):(AV→Option R)→Option R:=
 fun _=>none
theorem Q3d.tells {R:Type} (n:Nat):Tells (R:=R) Tryz.prog (Q3d.C n):=fun _ xs=>Tells1.none
def Q3d.cut (r:Nat):Option Keep:=match r with | 2=>some ⟨[0,4],[]⟩ | _=>none
def Q3d.t (z:Q3d.Z):List Item:=(todoOf (match z with | .z2 _ _=>2) 1000 [.code (Tryz.f49.body.getD .skip)]).getD []
def Q3d.s:Q3d.Z→St
 | .z2 z1 z2=>⟨spr 31 0 [(0,vs z1),(4,vi z2)],Mem.ofList [],0⟩
def Q3d.r2 (n:Nat) (c:Q3d.Z→Option (Int × Bool)) (z1:ByteArray) (z2:Int):Option (Int × Bool):=
 let y1:Bool:=decide (z2 < ((z1.size:Nat):Int))
 bif y1 then (bif decide ((0:Int)≤z2)&&decide (z2 < ((z1.size:Nat):Int)) then (let y2:Int:=(((z1.data.getD ((z2).toNat) 0).toNat:Nat):Int)
 bif y2 != 39 then (c (.z2 z1 (IntKind.i64.wrap (z2+1)))) else (let y3:Bool:=decide ((IntKind.i64.wrap (z2+1)) < ((z1.size:Nat):Int))
 bif y3 then (bif decide ((0:Int)≤IntKind.i64.wrap (z2+1))&&decide (IntKind.i64.wrap (z2+1) < ((z1.size:Nat):Int)) then (let y4:Int:=(((z1.data.getD ((IntKind.i64.wrap (z2+1)).toNat) 0).toNat:Nat):Int)
 bif y4==39 then (let y5:Int:=IntKind.i64.wrap ((IntKind.i64.wrap (z2+1))+1)
 c (.z2 z1 y5)) else (some (IntKind.i64.wrap (z2+1),true))) else none) else (some (IntKind.i64.wrap (z2+1),true)))) else none) else (some (0,false))
def Q3d.r (n:Nat) (c:Q3d.Z→Option (Int × Bool)):Q3d.Z→Option (Int × Bool)
 | .z2 z1 z2=>Q3d.r2 n c z1 z2
def Q3d.e (n:Nat) (c:Q3d.Z→Option (Int × Bool)) (a0:ByteArray):Option (Int × Bool):=
 c (.z2 a0 1)
def Q3d.E (n:Nat) (c:Q3d.Z→Option (Int × Bool)):Q3d.A→Option Q3d.T:=fun a0=>Q3d.e n c a0
def Q3d.l (n:Nat):Nat→Q3d.Z→Option (Int × Bool):=loopL (Q3d.r n)
def Q3d.F (n:Nat) (a0:ByteArray):Option (Int × Bool):=Q3d.e n (Q3d.l n n) a0
def Q3d.FA (n:Nat):Q3d.A→Option Q3d.T:=Q3d.E n (Q3d.l n n)
theorem Q3d.hands (n:Nat):∀ a p,Q3d.FA n a=some p→HandsIn Tryz.prog 49 (Q3d.i a) (Q3d.p p):=
 pf_hands (C:=Q3d.C n) (cut:=Q3d.cut) (t:=Q3d.t) (s:=Q3d.s) (e:=Q3d.E n) (r:=Q3d.r n) (n:=n) cfg mixed globs rfl Q3d.qi (Q3d.tells n) Tryz.func49 (by kernel_rfl) (by kernel_rfl) (fun rec a=>by kernel_rfl) (fun rec z=>by cases z <;> kernel_rfl)
def Q3d.via {R:Type} (n:Nat):List AV→(AV→Option R)→Option R:=viaK (Q3d.FA n) Q3d.o Q3d.p
theorem Q3d.tells1 {R:Type} (n:Nat) (xs:List AV):Tells1 (R:=R) Tryz.prog 49 xs (Q3d.via n xs):=tells_via Q3d.oi (fun a=>by kernel_rfl) (Q3d.hands n) xs
end Go.Proofs.YtmpglmcjoelciaaGreatDoor.Ev
namespace Go.Proofs.YtmpglmcjoelciaaGreatDoor.Ev
open Go Go.Proofs Go.Proofs.Ev
set_option linter.unusedVariables false
set_option maxRecDepth 100000
abbrev Q39.A:=ByteArray
abbrev Q39.T:=List AV × Int
def Q39.i:Q39.A→List AV:=fun a0=>[vs a0]
def Q39.o (xs:List AV):Option Q39.A:=match xs with | [.v (.string a0)]=>some a0 | _=>none
theorem Q39.oi:∀ xs a,Q39.o xs=some a→xs=Q39.i a:=by
 intro xs a h
 unfold Q39.o at h
 split at h
 ·cases h; rfl
 ·cases h
def Q39.p (p:Q39.T):AV:=.tup [.fr ⟨true,9⟩ 1 p.1,vi p.2]
def Q39.q (x:AV):Option Q39.T:=match x with | .tup [.fr ⟨true,9⟩ 1 p0,.v (.int .i64 p1)]=>some (p0,p1) | _=>none
theorem Q39.qi:∀ x p,Q39.q x=some p→x=Q39.p p:=by
 intro x p h
 unfold Q39.q at h
 split at h
 ·cases h; rfl
 ·cases h
inductive Q39.Z where
 | z4 (z1:ByteArray) (z2:Int)
 | z12 (z1:ByteArray) (z2:Int) (z3:List AV)
 | z13 (z1:ByteArray) (z2:Int) (z3:List AV)
 | z19 (z1:ByteArray) (z2 z3:Int) (z4:List AV)
 | z23 (z1:ByteArray) (z2 z3:Int) (z4:List AV)
def Q39.C {R:Type} (n:Nat) (f:FuncId) (xs:List AV):(AV→Option R)→Option R:=
 bif Nat.beq f 48 then Q1z.via n xs else bif Nat.beq f 49 then Q3d.via n xs else fun _=>none
theorem Q39.tells {R:Type} (n:Nat):Tells (R:=R) Tryz.prog (Q39.C n):=fun _ xs=>tells_at (Q1z.tells1 n xs) (tells_at (Q3d.tells1 n xs) (Tells1.none))
def Q39.cut (r:Nat):Option Keep:=match r with | 4=>some ⟨[0,4],[]⟩ | 12=>some ⟨[0,5,6],[]⟩ | 13=>some ⟨[0,5,6],[(5,none,⟨true,9⟩,1)]⟩ | 19=>some ⟨[0,5,6,7],[]⟩ | 23=>some ⟨[0,5,6,7],[]⟩ | _=>none
def Q39.t (z:Q39.Z):List Item:=(todoOf (match z with | .z4 _ _=>4 | .z12 _ _ _=>12 | .z13 _ _ _=>13 | .z19 _ _ _ _=>19 | .z23 _ _ _ _=>23) 1000 [.code (Tryz.f14.body.getD .skip)]).getD []
def Q39.s:Q39.Z→St
 | .z4 z1 z2=>⟨spr 96 0 [(0,vs z1),(4,vi z2)],Mem.ofList [],0⟩
 | .z12 z1 z2 z3=>⟨spr 96 0 [(0,vs z1),(5,.own 0 0 none),(6,vi z2)],Mem.ofList [.row ⟨true,9⟩ 1 z3],1⟩
 | .z13 z1 z2 z3=>⟨spr 96 0 [(0,vs z1),(5,.own 0 0 none),(6,vi z2)],Mem.ofList [.row ⟨true,9⟩ 1 z3],1⟩
 | .z19 z1 z2 z3 z4=>⟨spr 96 0 [(0,vs z1),(5,.own 0 0 none),(6,vi z2),(7,vi z3)],Mem.ofList [.row ⟨true,9⟩ 1 z4],1⟩
 | .z23 z1 z2 z3 z4=>⟨spr 96 0 [(0,vs z1),(5,.own 0 0 none),(6,vi z2),(7,vi z3)],Mem.ofList [.row ⟨true,9⟩ 1 z4],1⟩
def Q39.r4 (n:Nat) (c:Q39.Z→Option (List AV × Int)) (z1:ByteArray) (z2:Int):Option (List AV × Int):=
 let y2:Bool:=decide (z2 < ((z1.size:Nat):Int))
 bif y2 then (bif decide ((0:Int)≤z2)&&decide (z2 < ((z1.size:Nat):Int)) then (let y3:Int:=(((z1.data.getD ((z2).toNat) 0).toNat:Nat):Int)
 (Q1z.F n (IntKind.i64.wrap y3) 32 126).bind fun p4=>
 bif !p4 then (some ([],8)) else (c (.z4 z1 (IntKind.i64.wrap (z2+1))))) else none) else (let y5:Bool:=z1.toList==(⟨#[]⟩ : ByteArray).toList
 bif y5 then (some ([],0)) else (c (.z13 z1 0 [])))
def Q39.r12 (n:Nat) (c:Q39.Z→Option (List AV × Int)) (z1:ByteArray) (z2:Int) (z3:List AV):Option (List AV × Int):=
 c (.z13 z1 (IntKind.i64.wrap (z2+1)) z3)
def Q39.r13 (n:Nat) (c:Q39.Z→Option (List AV × Int)) (z1:ByteArray) (z2:Int) (z3:List AV):Option (List AV × Int):=
 let y6:Bool:=decide (z2 < ((z1.size:Nat):Int))
 bif y6 then (bif decide ((0:Int)≤z2)&&decide (z2 < ((z1.size:Nat):Int)) then (let y7:Int:=(((z1.data.getD ((z2).toNat) 0).toNat:Nat):Int)
 bif y7==39 then (bif decide ((0:Int)≤z2)&&decide ((z2:Int)≤((z1.size:Nat):Int)) then (let y8:ByteArray:=z1.extract (z2).toNat z1.size
 (Q3d.F n y8).bind fun p9=>
 bif !p9.2 then (some ([],8)) else (c (.z23 z1 z2 (IntKind.i64.wrap (z2+p9.1)) z3))) else none) else (c (.z19 z1 z2 z2 z3))) else none) else (c (.z19 z1 z2 z2 z3))
def Q39.r19 (n:Nat) (c:Q39.Z→Option (List AV × Int)) (z1:ByteArray) (z2 z3:Int) (z4:List AV):Option (List AV × Int):=
 let y16:Bool:=decide (z3 < ((z1.size:Nat):Int))
 bif y16 then (bif decide ((0:Int)≤z3)&&decide (z3 < ((z1.size:Nat):Int)) then (let y17:Int:=(((z1.data.getD ((z3).toNat) 0).toNat:Nat):Int)
 bif y17 != 32 then (bif decide ((0:Int)≤z3)&&decide (z3 < ((z1.size:Nat):Int)) then (let y18:Int:=(((z1.data.getD ((z3).toNat) 0).toNat:Nat):Int)
 bif y18==39 then (some ([],8)) else (c (.z19 z1 z2 (IntKind.i64.wrap (z3+1)) z4))) else none) else (c (.z23 z1 z2 z3 z4))) else none) else (c (.z23 z1 z2 z3 z4))
def Q39.r23 (n:Nat) (c:Q39.Z→Option (List AV × Int)) (z1:ByteArray) (z2 z3:Int) (z4:List AV):Option (List AV × Int):=
 bif z3==z2 then (some ([],8)) else (let y10:Bool:=decide (z3 < ((z1.size:Nat):Int))
 bif y10 then (bif decide ((0:Int)≤z3)&&decide (z3 < ((z1.size:Nat):Int)) then (let y11:Int:=(((z1.data.getD ((z3).toNat) 0).toNat:Nat):Int)
 bif y11 != 32 then (some ([],8)) else (bif decide ((0:Int)≤z3)&&decide ((z3:Int)≤((z1.size:Nat):Int)) then (bif decide ((0:Int)≤z2)&&decide ((z2:Int)≤z3) then (let y12:ByteArray:=z1.extract (z2).toNat (z3).toNat
 bif decide (z4.length+[vs y12].length≤most) then (let y13:Bool:=z3==((z1.size:Nat):Int)
 bif y13 then (some (z4++[vs y12],0)) else (c (.z12 z1 z3 (z4++[vs y12])))) else none) else none) else none)) else none) else (bif decide ((0:Int)≤z3)&&decide ((z3:Int)≤((z1.size:Nat):Int)) then (bif decide ((0:Int)≤z2)&&decide ((z2:Int)≤z3) then (let y14:ByteArray:=z1.extract (z2).toNat (z3).toNat
 bif decide (z4.length+[vs y14].length≤most) then (let y15:Bool:=z3==((z1.size:Nat):Int)
 bif y15 then (some (z4++[vs y14],0)) else (c (.z12 z1 z3 (z4++[vs y14])))) else none) else none) else none))
def Q39.r (n:Nat) (c:Q39.Z→Option (List AV × Int)):Q39.Z→Option (List AV × Int)
 | .z4 z1 z2=>Q39.r4 n c z1 z2
 | .z12 z1 z2 z3=>Q39.r12 n c z1 z2 z3
 | .z13 z1 z2 z3=>Q39.r13 n c z1 z2 z3
 | .z19 z1 z2 z3 z4=>Q39.r19 n c z1 z2 z3 z4
 | .z23 z1 z2 z3 z4=>Q39.r23 n c z1 z2 z3 z4
def Q39.e (n:Nat) (c:Q39.Z→Option (List AV × Int)) (a0:ByteArray):Option (List AV × Int):=
 let y1:Bool:=decide (((a0.size:Nat):Int) > 240)
 bif y1 then (some ([],2)) else (c (.z4 a0 0))
def Q39.E (n:Nat) (c:Q39.Z→Option (List AV × Int)):Q39.A→Option Q39.T:=fun a0=>Q39.e n c a0
def Q39.l (n:Nat):Nat→Q39.Z→Option (List AV × Int):=loopL (Q39.r n)
def Q39.F (n:Nat) (a0:ByteArray):Option (List AV × Int):=Q39.e n (Q39.l n n) a0
def Q39.FA (n:Nat):Q39.A→Option Q39.T:=Q39.E n (Q39.l n n)
theorem Q39.hands (n:Nat):∀ a p,Q39.FA n a=some p→HandsIn Tryz.prog 14 (Q39.i a) (Q39.p p):=
 pf_hands (C:=Q39.C n) (cut:=Q39.cut) (t:=Q39.t) (s:=Q39.s) (e:=Q39.E n) (r:=Q39.r n) (n:=n) cfg mixed globs rfl Q39.qi (Q39.tells n) Tryz.func14 (by kernel_rfl) (by kernel_rfl) (fun rec a=>by kernel_rfl) (fun rec z=>by cases z <;> kernel_rfl)
def Q39.via {R:Type} (n:Nat):List AV→(AV→Option R)→Option R:=viaK (Q39.FA n) Q39.o Q39.p
theorem Q39.tells1 {R:Type} (n:Nat) (xs:List AV):Tells1 (R:=R) Tryz.prog 14 xs (Q39.via n xs):=tells_via Q39.oi (fun a=>by kernel_rfl) (Q39.hands n) xs
end Go.Proofs.YtmpglmcjoelciaaGreatDoor.Ev
namespace Go.Proofs.YtmpglmcjoelciaaGreatDoor.Ev
open Go Go.Proofs Go.Proofs.Ev
set_option linter.unusedVariables false
set_option maxRecDepth 100000
abbrev Q1y.A:=List AV × List AV
abbrev Q1y.T:=Bool
def Q1y.i:Q1y.A→List AV:=fun (a0,a1)=>[.sl ⟨true,9⟩ 1 a0,.sl ⟨true,9⟩ 1 a1]
def Q1y.o (xs:List AV):Option Q1y.A:=match xs with | [.sl ⟨true,9⟩ 1 a0,.sl ⟨true,9⟩ 1 a1]=>some (a0,a1) | _=>none
theorem Q1y.oi:∀ xs a,Q1y.o xs=some a→xs=Q1y.i a:=by
 intro xs a h
 unfold Q1y.o at h
 split at h
 ·cases h; rfl
 ·cases h
def Q1y.p (p:Q1y.T):AV:=vb p
def Q1y.q (x:AV):Option Q1y.T:=match x with | .v (.bool p0)=>some p0 | _=>none
theorem Q1y.qi:∀ x p,Q1y.q x=some p→x=Q1y.p p:=by
 intro x p h
 unfold Q1y.q at h
 split at h
 ·cases h; rfl
 ·cases h
inductive Q1y.Z where
 | z4 (z1 z2:List AV) (z3:Int)
def Q1y.C {R:Type} (n:Nat) (f:FuncId) (xs:List AV):(AV→Option R)→Option R:=
 fun _=>none
theorem Q1y.tells {R:Type} (n:Nat):Tells (R:=R) Tryz.prog (Q1y.C n):=fun _ xs=>Tells1.none
def Q1y.cut (r:Nat):Option Keep:=match r with | 4=>some ⟨[0,1,5],[]⟩ | _=>none
def Q1y.t (z:Q1y.Z):List Item:=(todoOf (match z with | .z4 _ _ _=>4) 1000 [.code (Tryz.f15.body.getD .skip)]).getD []
def Q1y.s:Q1y.Z→St
 | .z4 z1 z2 z3=>⟨spr 26 0 [(0,.sl ⟨true,9⟩ 1 z1),(1,.sl ⟨true,9⟩ 1 z2),(5,vi z3)],Mem.ofList [],0⟩
def Q1y.r4 (n:Nat) (c:Q1y.Z→Option Bool) (z1 z2:List AV) (z3:Int):Option Bool:=
 let y2:Bool:=decide (z3 < ((z1.length:Nat):Int))
 bif y2 then (bif decide ((0:Int)≤z3)&&decide (z3 < ((z1.length:Nat):Int)) then (withCons ((z1.getD ((z3).toNat) .undef).cells) fun h3 r4=>
 withStr h3 fun s5=>
 bif decide ((0:Int)≤z3)&&decide (z3 < ((z2.length:Nat):Int)) then (withCons ((z2.getD ((z3).toNat) .undef).cells) fun h6 r7=>
 withStr h6 fun s8=>
 bif !(s5.toList==s8.toList) then (some false) else (c (.z4 z1 z2 (IntKind.i64.wrap (z3+1))))) else none) else none) else (some true)
def Q1y.r (n:Nat) (c:Q1y.Z→Option Bool):Q1y.Z→Option Bool
 | .z4 z1 z2 z3=>Q1y.r4 n c z1 z2 z3
def Q1y.e (n:Nat) (c:Q1y.Z→Option Bool) (a0 a1:List AV):Option Bool:=
 let y1:Bool:=((a0.length:Nat):Int) != ((a1.length:Nat):Int)
 bif y1 then (some false) else (c (.z4 a0 a1 0))
def Q1y.E (n:Nat) (c:Q1y.Z→Option Bool):Q1y.A→Option Q1y.T:=fun (a0,a1)=>Q1y.e n c a0 a1
def Q1y.l (n:Nat):Nat→Q1y.Z→Option Bool:=loopL (Q1y.r n)
def Q1y.F (n:Nat) (a0 a1:List AV):Option Bool:=Q1y.e n (Q1y.l n n) a0 a1
def Q1y.FA (n:Nat):Q1y.A→Option Q1y.T:=Q1y.E n (Q1y.l n n)
theorem Q1y.hands (n:Nat):∀ a p,Q1y.FA n a=some p→HandsIn Tryz.prog 15 (Q1y.i a) (Q1y.p p):=
 pf_hands (C:=Q1y.C n) (cut:=Q1y.cut) (t:=Q1y.t) (s:=Q1y.s) (e:=Q1y.E n) (r:=Q1y.r n) (n:=n) cfg mixed globs rfl Q1y.qi (Q1y.tells n) Tryz.func15 (by kernel_rfl) (by kernel_rfl) (fun rec a=>by kernel_rfl) (fun rec z=>by cases z <;> kernel_rfl)
def Q1y.via {R:Type} (n:Nat):List AV→(AV→Option R)→Option R:=viaK (Q1y.FA n) Q1y.o Q1y.p
theorem Q1y.tells1 {R:Type} (n:Nat) (xs:List AV):Tells1 (R:=R) Tryz.prog 15 xs (Q1y.via n xs):=tells_via Q1y.oi (fun a=>by kernel_rfl) (Q1y.hands n) xs
end Go.Proofs.YtmpglmcjoelciaaGreatDoor.Ev
namespace Go.Proofs.YtmpglmcjoelciaaGreatDoor.Ev
open Go Go.Proofs Go.Proofs.Ev
set_option linter.unusedVariables false
def ib (l:List UInt8) (c:UInt8):Nat:=(l.takeWhile (fun x=>x != c)).length
theorem ib_le (l:List UInt8) (c:UInt8):ib l c≤l.length:=(List.takeWhile_sublist _).length_le
theorem ib_cons (b c:UInt8) (l:List UInt8):ib (b::l) c=if b=c then 0 else ib l c+1:=by
 unfold ib
 rw [List.takeWhile_cons]
 by_cases h:b=c
 ·subst h; simp
 ·have h2:(b != c)=true:=by simpa using h
  rw [h2,if_neg h]
  simp
theorem ib_eq (c:UInt8):∀ l:List UInt8,Lib.indexByte l c=if ib l c < l.length then (ib l c:Int) else -1
 | []=>rfl
 | b::l=>by
  have ih:=ib_eq c l
  unfold Lib.indexByte
  rw [ib_cons]
  by_cases h:b=c
  ·subst h; simp
  ·have h1:(b==c)=false:=by simpa using h
   rw [h1,if_neg h,ih]
   simp only [Bool.false_eq_true,if_false,List.length_cons]
   by_cases h3:ib l c < l.length
   ·have h4:(((ib l c:Nat):Int)==-1)=false:=by rw [beq_eq_false_iff_ne]; omega
    simp only [if_pos h3,h4,Bool.false_eq_true,if_false]
    rw [if_pos (by omega)]
    simp
   ·simp only [if_neg h3]
    rw [if_neg (show ¬ (ib l c+1 < l.length+1) by omega)]
    rfl
theorem has_eq (c:UInt8):∀ l:List UInt8,decide (0≤Lib.indexByte l c)=l.contains c
 | []=>by simp [Lib.indexByte]
 | b::l=>by
  have ih:=has_eq c l
  unfold Lib.indexByte
  rw [List.contains_cons]
  by_cases h:b=c
  ·subst h; simp
  ·have h1:(b==c)=false:=by simpa using h
   have h2:(c==b)=false:=by simpa using fun e=>h e.symm
   have:=Lib.indexByte_ge l c
   rw [h1,h2,← ih]
   simp only [Bool.false_eq_true,if_false,Bool.false_or]
   by_cases h3:Lib.indexByte l c=-1
   ·rw [h3]; rfl
   ·have h4:(Lib.indexByte l c==-1)=false:=by simpa using h3
    rw [h4]
    simp only [Bool.false_eq_true,if_false]
    rw [decide_eq_decide]
    omega
theorem contains_eq {n:Nat} (l:List UInt8) (hl:l.length≤100000):Q4f.F n (bs l) (⟨#[39]⟩ : ByteArray)=some (l.contains 39):=by
 unfold Q4f.F Q4f.e Q4h.F
 rw [cond_t (by rw [bs_size]; omega),Option.bind_some]
 show some (decide (Lib.index l [39]≥0))=_
 rw [Lib.index_one,← has_eq]
def qt:List UInt8→Nat→Option Nat
 | [],_=>none
 | c::r,i=>if c≠39 then qt r (i+1) else match r with
  | []=>some (i+1)
  | d::r'=>if d=39 then qt r' (i+2) else some (i+1)
theorem qt_bound:∀ (r:List UInt8) (i e:Nat),qt r i=some e→i+1≤e∧e≤i+r.length
 | [],_,_,h=>by cases h
 | [c],i,e,h=>by
  unfold qt at h
  by_cases hc:c=39
  ·rw [if_neg (by simp [hc])] at h
   simp only [Option.some.injEq] at h
   subst h
   simp
  ·rw [if_pos hc] at h; cases h
 | c::d::r,i,e,h=>by
  unfold qt at h
  by_cases hc:c=39
  ·rw [if_neg (by simp [hc])] at h
   simp only at h
   by_cases hd:d=39
   ·rw [if_pos hd] at h
    have:=qt_bound r (i+2) e h
    simp only [List.length_cons]
    omega
   ·rw [if_neg hd] at h
    simp only [Option.some.injEq] at h
    subst h
    simp only [List.length_cons]
    omega
  ·rw [if_pos hc] at h
   have:=qt_bound (d::r) (i+1) e h
   simp only [List.length_cons] at this ⊢
   omega
theorem byte_ne (c u:UInt8) (k:Nat) (hu:u.toNat=k):((((c.toNat:Nat):Int)) != ((k:Nat):Int))=decide (c≠u):=by
 have:(((c.toNat:Nat):Int)=((k:Nat):Int))↔c=u:=by
  constructor
  ·intro h
   apply UInt8.toNat_inj.1
   omega
  ·rintro rfl
   omega
 rw [Bool.eq_iff_iff,bne_iff_ne,decide_eq_true_eq]
 exact not_congr this
theorem byte_eq (c u:UInt8) (k:Nat) (hu:u.toNat=k):((((c.toNat:Nat):Int))==((k:Nat):Int))=decide (c=u):=by
 have:(((c.toNat:Nat):Int)=((k:Nat):Int))↔c=u:=by
  constructor
  ·intro h
   apply UInt8.toNat_inj.1
   omega
  ·rintro rfl
   omega
 rw [Bool.eq_iff_iff,beq_iff_eq,decide_eq_true_eq]
 exact this
theorem quoted_l (n:Nat) (l:List UInt8) (hl:l.length≤100000):∀ (d i m:Nat),i+d=l.length→d < m→Q14.l n m (.z2 (bs l) i)=some (((qt (l.drop i) i).getD 0:Nat):Int)
 | _,_,0,_,h=>absurd h (by omega)
 | 0,i,m+1,h,_=>by
  show Q14.r2 n (Q14.l n m) (bs l) i=_
  unfold Q14.r2
  simp only [bs_size]
  rw [cond_f (by omega),List.drop_of_length_le (by omega)]
  rfl
 | d+1,i,m+1,h,hm=>by
  have hi:i < l.length:=by omega
  show Q14.r2 n (Q14.l n m) (bs l) i=_
  unfold Q14.r2
  simp only [bs_size,within_t hi,Int.toNat_natCast,getD_at hi,cond_true]
  rw [cond_t (by omega),List.drop_eq_getElem_cons hi,show (39:Int)=((39:Nat):Int) from rfl,byte_ne _ 39 39 rfl,wsucc (by omega)]
  unfold qt
  by_cases hc:l[i]=39
  ·rw [cond_f (by simp [hc]),if_neg (by simp [hc])]
   by_cases h1:i+1 < l.length
   ·simp only [within_t h1,Int.toNat_natCast,getD_at h1,cond_true,byte_eq _ 39 39 rfl]
    rw [cond_t (by omega),List.drop_eq_getElem_cons h1]
    simp only
    by_cases hd:l[i+1]=39
    ·rw [cond_t hd,if_pos hd,wsucc (by omega)]
     cases d with
     | zero=>omega
     | succ d=>exact quoted_l n l hl d (i+2) m (by omega) (by omega)
    ·rw [cond_f hd,if_neg hd]
     rfl
   ·rw [cond_f (by omega),List.drop_of_length_le (by omega)]
    rfl
  ·rw [cond_t (by simpa using hc),if_pos hc]
   exact quoted_l n l hl d (i+1) m (by omega) (by omega)
theorem quoted_eq {n:Nat} (l:List UInt8) (hl:l.length≤100000) (h0:1≤l.length) (hn:100002≤n):Q14.F n (bs l)=some (((qt (l.drop 1) 1).getD 0:Nat):Int):=by
 unfold Q14.F Q14.e
 exact quoted_l n l hl (l.length - 1) 1 n (by omega) (by omega)
def wrd (l:List UInt8):Nat:=match l with
 | []=>0
 | c::r=>if c=39 then (match qt r 1 with
   | none=>0
   | some e=>if e < l.length∧l.getD e 0≠32 then 0 else e)
  else if (l.take (ib l 32)).contains 39 then 0 else ib l 32
theorem wrd_cons (c:UInt8) (r:List UInt8):wrd (c::r)=if c=39 then (match qt r 1 with
   | none=>0
   | some e=>if e < (c::r).length∧(c::r).getD e 0≠32 then 0 else e)
  else if ((c::r).take (ib (c::r) 32)).contains 39 then 0 else ib (c::r) 32:=rfl
theorem wrd_le (l:List UInt8):wrd l≤l.length:=by
 unfold wrd
 split
 ·exact Nat.zero_le _
 ·rename_i c r
  split
  ·split
   ·exact Nat.zero_le _
   ·rename_i e he
    split
    ·exact Nat.zero_le _
    ·have:=qt_bound r 1 e he
     simp only [List.length_cons]
     omega
  ·split
   ·exact Nat.zero_le _
   ·exact ib_le _ _
theorem word_eq {n:Nat} (l:List UInt8) (hl:l.length≤100000) (h0:l≠[]) (hn:100002≤n):Q1n.F n (bs l)=some ((wrd l:Nat):Int):=by
 obtain ⟨m,rfl⟩ : ∃ m,n=m+1:=⟨n - 1,by omega⟩
 unfold Q1n.F Q1n.e
 have h8:∀ z,Q1n.l (m+1) (m+1) (.z8 z)=some z:=fun z=>rfl
 simp only [h8]
 match l,h0 with
 | c::r,_=>
  have hpos:0 < (c::r).length:=by simp
  have hix:Q4i.F (m+1) (bs (c::r)) 32=some (Lib.indexByte (c::r) 32):=rfl
  have hle:=ib_le (c::r) 32
  rw [hix,Option.bind_some,ib_eq]
  have e0:(bs (c::r)).data.getD 0 0=c:=by rw [getD_at hpos]; rfl
  have hq:=quoted_eq (n:=m+1) (c::r) hl (by simp) hn
  rw [show (c::r).drop 1=r from rfl] at hq
  -- a string
  have str:c=39→(Q14.F (m+1) (bs (c::r))).bind (fun p3=>
    let y4:Bool:=decide (p3 < (((bs (c::r)).size:Nat):Int))
    bif y4 then (bif decide ((0:Int)≤p3)&&decide (p3 < (((bs (c::r)).size:Nat):Int)) then (let y5:Int:=((((bs (c::r)).data.getD ((p3).toNat) 0).toNat:Nat):Int)
    bif y5 != 32 then (some 0) else (some p3)) else none) else (some p3))=some ((wrd (c::r):Nat):Int):=by
   intro hc
   subst hc
   rw [hq,Option.bind_some,wrd_cons,if_pos rfl]
   cases hqt:qt r 1 with
   | none=>
    simp only [Option.getD_none,bs_size]
    rw [cond_t (by simp),within_t hpos,cond_true]
    simp only [Int.toNat_natCast,e0]
    rfl
   | some e=>
    have hb:=qt_bound r 1 e hqt
    simp only [Option.getD_some,bs_size]
    by_cases he:e < (39::r:List UInt8).length
    ·rw [cond_t (by omega),within_t he,cond_true]
     simp only [Int.toNat_natCast]
     rw [bs_getD,show (32:Int)=((32:Nat):Int) from rfl,byte_ne _ 32 32 rfl]
     by_cases h32:(39::r:List UInt8).getD e 0=32
     ·rw [cond_f (by simpa using h32),if_neg (by rintro ⟨_,h⟩; exact h h32)]
     ·rw [cond_t (by simpa using h32),if_pos ⟨he,h32⟩]
      rfl
    ·rw [cond_f (by omega),if_neg (by rintro ⟨h,_⟩; exact he h)]
  -- a word
  have wd:c≠39→∀ (k:Nat),k=ib (c::r) 32→((Q4f.F (m+1) (bs ((c::r).take k)) (⟨#[39]⟩ : ByteArray)).bind fun p7=>
    bif p7 then (some 0) else (some ((k:Nat):Int)))=some ((wrd (c::r):Nat):Int):=by
   rintro hc k rfl
   rw [contains_eq _ (by rw [List.length_take]; omega),Option.bind_some]
   rw [wrd_cons,if_neg hc]
   cases ((c::r).take (ib (c::r) 32)).contains 39 <;> rfl
  have hb39:((((c.toNat:Nat):Int))==39)=decide (c=39):=byte_eq c 39 39 rfl
  by_cases hsp:ib (c::r) 32 < (c::r).length
  ·rw [if_pos hsp,cond_f (by omega),cond_t (by rw [bs_size]; omega)]
   simp only [e0,hb39]
   by_cases hc:c=39
   ·rw [cond_t hc]
    exact str hc
   ·rw [cond_f hc,bs_size,upto_t hle,cond_true,Int.toNat_natCast,bs_take]
    exact wd hc _ rfl
  ·rw [if_neg hsp,cond_t (by omega),cond_t (by rw [bs_size]; omega)]
   simp only [e0,hb39]
   by_cases hc:c=39
   ·rw [cond_t hc]
    exact str hc
   ·have hkk:(c::r).length=ib (c::r) 32:=by omega
    rw [cond_f hc,bs_size,upto_t (Nat.le_refl _),cond_true]
    simp only [Int.toNat_natCast,bs_take]
    exact wd hc _ hkk
def wordsP:Nat→List UInt8→Option (List (List UInt8))
 | 0,_=>none
 | g+1,l=>if wrd l=0 then none else if wrd l=l.length then some [l] else (wordsP g (l.drop (wrd l+1))).map fun w=>l.take (wrd l)::w
def Ws (ws:List (List UInt8)):List AV:=ws.map fun w=>vs (bs w)
theorem Ws_snoc (a:List (List UInt8)) (w:List UInt8):Ws a++[vs (bs w)]=Ws (a++[w]):=by simp [Ws]
theorem Ws_length (a:List (List UInt8)):(Ws a).length=a.length:=by simp [Ws]
def wres (out:List (List UInt8)) (x:Option (List (List UInt8))):List AV × Int:=match x with
 | some ws=>(Ws (out++ws),0)
 | none=>([],8)
theorem wres_map (out:List (List UInt8)) (w:List UInt8) (x:Option (List (List UInt8))):wres out (x.map fun ws=>w::ws)=wres (out++[w]) x:=by
 cases x <;> simp [wres]
theorem wordsOf_l {n:Nat} (hn:100002≤n):∀ (g:Nat) (l:List UInt8) (out:List (List UInt8)) (m:Nat),l≠[]→l.length < g→g < m→l.length≤1000→out.length+l.length≤100000→
  Q0d.l n m (.z5 (bs l) (Ws out))=some (wres out (wordsP g l))
 | 0,_,_,_,_,h,_,_,_=>absurd h (by omega)
 | g+1,_,_,0,_,_,h,_,_=>absurd h (by omega)
 | g+1,l,out,m+1,h0,hg,hm,hl,ho=>by
  have hle:=wrd_le l
  have hpos:0 < l.length:=List.length_pos_iff.2 h0
  have hmost:most=1000000000:=rfl
  show Q0d.r5 n (Q0d.l n m) (bs l) (Ws out)=_
  unfold Q0d.r5 wordsP
  simp only [empty_eq]
  have:(!decide (l=[]))=true:=by simpa using h0
  rw [this,cond_true,word_eq l (by omega) h0 hn,Option.bind_some,beq_int]
  by_cases hw:wrd l=0
  ·rw [cond_t (by omega),if_pos hw]
   rfl
  ·rw [cond_f (by omega),if_neg hw,bs_size,upto_t hle,cond_true]
   simp only [Int.toNat_natCast,bs_take,Ws_length]
   rw [cond_t (by simp; omega),beq_int]
   by_cases he:wrd l=l.length
   ·rw [cond_t (by omega),if_pos he,Ws_snoc,he,List.take_length]
    rfl
   ·rw [cond_f (by omega),if_neg he,wsucc (by omega),upto_t (by omega),cond_true]
    have e7:(bs l).extract (wrd l+1) l.length=bs (l.drop (wrd l+1)):=by
     have:=bs_drop l (wrd l+1)
     rwa [bs_size] at this
    simp only [Int.toNat_natCast,e7,empty_eq]
    rw [wres_map]
    by_cases hd:l.drop (wrd l+1)=[]
    ·rw [cond_t hd,hd]
     have:wordsP g []=none:=by cases g <;> rfl
     rw [this]
     rfl
    ·have hlen:(l.drop (wrd l+1)).length≤l.length - 2:=by rw [List.length_drop]; omega
     rw [cond_f hd,Ws_snoc]
     exact wordsOf_l hn g (l.drop (wrd l+1)) (out++[l.take (wrd l)]) m hd (by omega) (by omega) (by omega) (by simp; omega)
def okc (c:UInt8):Bool:=decide (32≤c.toNat)&&decide (c.toNat≤126)
theorem writable_l (n:Nat) (l:List UInt8) (hl:l.length≤100000):∀ (d i m:Nat),i+d=l.length→d < m→Q0s.l n m (.z2 l.length i (l.map fun b=>vu b.toNat))=some ((l.drop i).all okc)
 | _,_,0,_,h=>absurd h (by omega)
 | 0,i,m+1,h,_=>by
  show Q0s.r2 n (Q0s.l n m) l.length i _=_
  unfold Q0s.r2
  rw [cond_f (by omega),List.drop_of_length_le (by omega)]
  rfl
 | d+1,i,m+1,h,hm=>by
  have hi:i < l.length:=by omega
  have ih:=writable_l n l hl d (i+1) m (by omega) (by omega)
  show Q0s.r2 n (Q0s.l n m) l.length i _=_
  unfold Q0s.r2
  have e:(l.map fun b=>vu b.toNat).getD (((i:Nat):Int)).toNat AV.undef=vu l[i].toNat:=by simp [List.getD_eq_getElem?_getD,hi]
  rw [cond_t (by omega),List.length_map,within_t hi,cond_true,e,List.drop_eq_getElem_cons hi,List.all_cons]
  show (bif decide (((l[i].toNat:Nat):Int) < 32) then some false else bif decide (((l[i].toNat:Nat):Int) > 126) then some false else _)=_
  by_cases h1:l[i].toNat < 32
  ·rw [cond_t (by omega)]
   have:okc l[i]=false:=by simp [okc]; omega
   rw [this]; rfl
  ·rw [cond_f (by omega)]
   by_cases h2:l[i].toNat > 126
   ·rw [cond_t (by omega)]
    have:okc l[i]=false:=by simp [okc]; omega
    rw [this]; rfl
   ·rw [cond_f (by omega)]
    have:okc l[i]=true:=by simp [okc]; omega
    rw [this,wsucc (by omega),ih,Bool.true_and]
theorem writable_eq {n:Nat} (l:List UInt8) (hl:l.length≤100000) (hn:100002≤n):Q0s.F n (bs l)=some (l.all okc):=by
 unfold Q0s.F Q0s.e
 simp only [bs_toList,List.length_map]
 exact writable_l n l hl l.length 0 n (by omega) (by omega)
def wordsR (l:List UInt8):List AV × Int:=
 if l.length > 240 then ([],2) else if l.all okc=false then ([],8) else if l=[] then ([],0) else wres [] (wordsP (l.length+1) l)
theorem wordsOf_eq {n:Nat} (hn:200002≤n) (l:List UInt8) (hl:l.length≤1000):Q0d.F n (bs l)=some (wordsR l):=by
 unfold Q0d.F Q0d.e
 simp only [bs_size]
 rw [cond_eq,Option.bind_some,writable_eq l (by omega) (by omega),Option.bind_some,cond_eq,Option.bind_some,first2 (by omega),Option.bind_some]
 unfold wordsR
 by_cases h1:l.length > 240
 ·have:decide (((l.length:Nat):Int) > 240)=true:=by rw [decide_eq_true_eq]; omega
  rw [this,if_pos h1]
  rfl
 ·have:decide (((l.length:Nat):Int) > 240)=false:=by rw [decide_eq_false_iff_not]; omega
  rw [this,if_neg h1]
  cases hw:l.all okc with
  | false=>rfl
  | true=>
   simp only [Bool.not_true,Bool.false_eq_true,if_false,ne_eq,not_true_eq_false]
   show (bif (0:Int) != 0 then _ else _)=_
   rw [show ((0:Int) != 0)=false from rfl,cond_false]
   by_cases h0:l=[]
   ·subst h0
    obtain ⟨m,rfl⟩ : ∃ m,n=m+1:=⟨n - 1,by omega⟩
    show Q0d.r5 (m+1) (Q0d.l (m+1) m) (bs []) []=_
    unfold Q0d.r5
    simp only [empty_eq]
    rfl
   ·rw [if_neg (by simp),if_neg h0]
    exact wordsOf_l (by omega) (l.length+1) l [] n h0 (by omega) (by omega) hl (by simp; omega)
end Go.Proofs.YtmpglmcjoelciaaGreatDoor.Ev
namespace Go.Proofs.YtmpglmcjoelciaaGreatDoor.Ev
open Go Go.Proofs Go.Proofs.Ev
set_option linter.unusedVariables false
def nmL (c:UInt8):Bool:=(decide (65≤c.toNat)&&decide (c.toNat≤90))||(decide (c=35)||(decide (c=36)||decide (c=64)))
def nmO (c:UInt8):Bool:=isD c||(decide (c=95)||decide (c=46))
def chkN:Nat→List UInt8→Bool
 | _,[]=>true
 | i,c::r=>(nmL c||(decide (i≠0)&&nmO c))&&chkN (i+1) r
theorem chkN_cons (i:Nat) (c:UInt8) (r:List UInt8):chkN i (c::r)=((nmL c||(decide (i≠0)&&nmO c))&&chkN (i+1) r):=rfl
def isNm (l:List UInt8):Bool:=(decide (1≤l.length)&&decide (l.length≤10))&&chkN 0 l
theorem let3 {α:Type} (f:Bool→α) (a b c d e:Bool):(bif a then (bif b then f true else (bif c then f true else (bif d then f true else f e))) else (bif c then f true else (bif d then f true else f e)))=f ((a&&b)||(c||(d||e))):=by
 cases a <;> cases b <;> cases c <;> cases d <;> rfl
theorem let2 {α:Type} (g:Bool→α) (a b c d:Bool):(bif a then (bif b then g true else (bif c then g true else g d)) else (bif c then g true else g d))=g ((a&&b)||(c||d)):=by
 cases a <;> cases b <;> cases c <;> rfl
theorem le_byte (c:UInt8) (k:Nat):decide ((k:Int)≤((c.toNat:Nat):Int))=decide (k≤c.toNat):=by rw [decide_eq_decide]; omega
theorem byte_le2 (c:UInt8) (k:Nat):decide (((c.toNat:Nat):Int)≤(k:Int))=decide (c.toNat≤k):=by rw [decide_eq_decide]; omega
theorem isName_l (n:Nat) (l:List UInt8) (hl:l.length≤1000):∀ (d i m:Nat),i+d=l.length→3*d < m→Q0r.l n m (.z4 l.length i (l.map fun b=>vu b.toNat))=some (chkN i (l.drop i))
 | _,_,0,_,h=>absurd h (by omega)
 | 0,i,m+1,h,_=>by
  rw [Q0r.at4]
  unfold Q0r.r4
  rw [cond_f (by omega),List.drop_of_length_le (by omega)]
  rfl
 | d+1,i,m+1,h,hm=>by
  have hi:i < l.length:=by omega
  obtain ⟨m,rfl⟩ : ∃ q,m=q+2:=⟨m - 2,by omega⟩
  have ih:=isName_l n l hl d (i+1) m (by omega) (by omega)
  have e:(l.map fun b=>vu b.toNat).getD (((i:Nat):Int)).toNat AV.undef=vu l[i].toNat:=by simp [List.getD_eq_getElem?_getD,hi]
  have h8:∀ z2 z3,Q0r.l n (m+1) (.z8 i z2 z3 l.length i (l.map fun b=>vu b.toNat))=some ((z2||(decide (i≠0)&&z3))&&chkN (i+1) (l.drop (i+1))):=by
   intro z2 z3
   rw [Q0r.at8]
   unfold Q0r.r8
   rw [wsucc (by omega),ih,beq_int]
   cases z2 with
   | true=>rfl
   | false=>
    by_cases h0:i=0
    ·subst h0; rfl
    ·rw [Bool.not_false,cond_true,cond_f (by omega)]
     cases z3 <;> simp [h0]
  have h7:∀ b,Q0r.l n (m+2) (.z7 i ((l[i].toNat:Nat):Int) b l.length i (l.map fun b=>vu b.toNat))=some ((b||(decide (i≠0)&&nmO l[i]))&&chkN (i+1) (l.drop (i+1))):=by
   intro b
   rw [Q0r.at7]
   unfold Q0r.r7
   rw [let2 (fun q=>Q0r.l n (m+1) (.z8 i b q l.length i (l.map fun b=>vu b.toNat))),h8]
   unfold nmO isD
   rw [show (48:Int)=((48:Nat):Int) from rfl,le_byte,show (57:Int)=((57:Nat):Int) from rfl,byte_le2,show (95:Int)=((95:Nat):Int) from rfl,byte_eq _ 95 95 rfl,show (46:Int)=((46:Nat):Int) from rfl,byte_eq _ 46 46 rfl]
  rw [Q0r.at4]
  unfold Q0r.r4
  rw [cond_t (by omega),List.length_map,within_t hi,cond_true,e,List.drop_eq_getElem_cons hi]
  show (bif decide ((65:Int)≤((l[i].toNat:Nat):Int)) then _ else _)=_
  rw [let3 (fun q=>Q0r.l n (m+2) (.z7 i ((l[i].toNat:Nat):Int) q l.length i (l.map fun b=>vu b.toNat))),h7]
  rw [chkN_cons]
  unfold nmL
  rw [show (65:Int)=((65:Nat):Int) from rfl,le_byte,show (90:Int)=((90:Nat):Int) from rfl,byte_le2,show (35:Int)=((35:Nat):Int) from rfl,byte_eq _ 35 35 rfl,show (36:Int)=((36:Nat):Int) from rfl,byte_eq _ 36 36 rfl,
   show (64:Int)=((64:Nat):Int) from rfl,byte_eq _ 64 64 rfl]
theorem isName_eq {n:Nat} (hn:1001≤n) (l:List UInt8):Q0r.F n (bs l)=some (isNm l):=by
 unfold Q0r.F Q0r.e isNm
 rw [empty_eq]
 simp only [bs_size,bs_toList,List.length_map]
 by_cases h0:l=[]
 ·rw [cond_t h0]
  subst h0
  rfl
 ·have hpos:0 < l.length:=List.length_pos_iff.2 h0
  rw [cond_f h0]
  by_cases h1:l.length > 10
  ·rw [cond_t (by omega)]
   have:decide (l.length≤10)=false:=by rw [decide_eq_false_iff_not]; omega
   rw [this]; simp
  ·rw [cond_f (by omega)]
   have h2:decide (l.length≤10)=true:=by rw [decide_eq_true_eq]; omega
   have h3:decide (1≤l.length)=true:=by rw [decide_eq_true_eq]; omega
   rw [h2,h3]
   have:=isName_l n l (by omega) l.length 0 n (by omega) (by omega)
   rw [List.drop_zero] at this
   exact this
theorem isUpper_eq (n:Nat) (c:UInt8):Q1u.F n ((c.toNat:Nat):Int)=some (decide (65≤c.toNat)&&decide (c.toNat≤90)):=by
 unfold Q1u.F Q1u.e
 rw [show (65:Int)=((65:Nat):Int) from rfl,le_byte,show (90:Int)=((90:Nat):Int) from rfl,byte_le2]
 cases decide (65≤c.toNat) <;> rfl
theorem isDig_eq (n:Nat) (c:UInt8):Q1s.F n ((c.toNat:Nat):Int)=some (isD c):=by
 unfold Q1s.F Q1s.e isD
 rw [show (48:Int)=((48:Nat):Int) from rfl,le_byte,show (57:Int)=((57:Nat):Int) from rfl,byte_le2]
 cases decide (48≤c.toNat) <;> rfl
theorem let3' {α:Type} (f:Bool→α) (p c d e:Bool):(bif p then f true else (bif c then f true else (bif d then f true else f e)))=f (p||(d||(c||e))):=by
 cases p <;> cases c <;> cases d <;> rfl
theorem isNameR_l (n:Nat) (l:List UInt8) (hl:l.length≤1000):∀ (d i m:Nat),i+d=l.length→3*d < m→Q1t.l n m (.z4 (bs l) i)=some (chkN i (l.drop i))
 | _,_,0,_,h=>absurd h (by omega)
 | 0,i,m+1,h,_=>by
  rw [Q1t.at4]
  unfold Q1t.r4
  simp only [bs_size]
  rw [cond_f (by omega),List.drop_of_length_le (by omega)]
  rfl
 | d+1,i,m+1,h,hm=>by
  have hi:i < l.length:=by omega
  obtain ⟨m,rfl⟩ : ∃ q,m=q+2:=⟨m - 2,by omega⟩
  have ih:=isNameR_l n l hl d (i+1) m (by omega) (by omega)
  have h5:Q1t.l n (m+1) (.z5 (bs l) i)=some (chkN (i+1) (l.drop (i+1))):=by
   rw [Q1t.at5]
   unfold Q1t.r5
   rw [wsucc (by omega),ih]
  have h8:∀ b,Q1t.l n (m+2) (.z8 (bs l) i ((l[i].toNat:Nat):Int) b)=some ((b||(decide (i≠0)&&nmO l[i]))&&chkN (i+1) (l.drop (i+1))):=by
   intro b
   rw [Q1t.at8]
   unfold Q1t.r8
   rw [isDig_eq,Option.bind_some,h5,beq_int,show (95:Int)=((95:Nat):Int) from rfl,byte_ne _ 95 95 rfl,show (46:Int)=((46:Nat):Int) from rfl,byte_ne _ 46 46 rfl]
   unfold nmO
   cases b with
   | true=>rfl
   | false=>
    by_cases h0:i=0
    ·subst h0; rfl
    ·rw [Bool.not_false,cond_true,cond_f (by omega)]
     by_cases h1:l[i]=95 <;> by_cases h2:l[i]=46 <;> cases isD l[i] <;> simp [h0,h1,h2]
  rw [Q1t.at4]
  unfold Q1t.r4
  simp only [bs_size,within_t hi,Int.toNat_natCast,getD_at hi,cond_true]
  rw [cond_t (by omega),isUpper_eq,Option.bind_some,let3' (fun q=>Q1t.l n (m+2) (.z8 (bs l) i ((l[i].toNat:Nat):Int) q)),h8,List.drop_eq_getElem_cons hi]
  rw [chkN_cons]
  unfold nmL
  rw [show (35:Int)=((35:Nat):Int) from rfl,byte_eq _ 35 35 rfl,show (36:Int)=((36:Nat):Int) from rfl,byte_eq _ 36 36 rfl,
   show (64:Int)=((64:Nat):Int) from rfl,byte_eq _ 64 64 rfl]
theorem isNameR_eq {n:Nat} (hn:1001≤n) (l:List UInt8):Q1t.F n (bs l)=some (isNm l):=by
 unfold Q1t.F Q1t.e isNm
 rw [Within_eq,Option.bind_some,bs_size]
 have e:decide ((1:Int)≤((l.length:Nat):Int)∧((l.length:Nat):Int)≤10)=(decide (1≤l.length)&&decide (l.length≤10)):=by
  rw [← Bool.decide_and,decide_eq_decide]; omega
 rw [e]
 cases h:(decide (1≤l.length)&&decide (l.length≤10)) with
 | false=>rfl
 | true=>
  rw [Bool.and_eq_true,decide_eq_true_eq,decide_eq_true_eq] at h
  have:=isNameR_l n l (by omega) l.length 0 n (by omega) (by omega)
  rw [List.drop_zero] at this
  exact this
def ixs:List (List UInt8)→List UInt8→Nat→Int
 | [],_,_=>-1
 | w::r,s,i=>if w=s then (i:Int) else ixs r s (i+1)
theorem ixs_cons (w:List UInt8) (r:List (List UInt8)) (s:List UInt8) (i:Nat):ixs (w::r) s i=if w=s then (i:Int) else ixs r s (i+1):=rfl
theorem ixs_has:∀ (ws:List (List UInt8)) (s:List UInt8) (i:Nat),decide (ixs ws s i≥0)=ws.contains s
 | [],s,i=>by simp [ixs]
 | w::r,s,i=>by
  unfold ixs
  rw [List.contains_cons]
  by_cases h:w=s
  ·subst h; simp
  ·have:(s==w)=false:=by simpa using fun e=>h e.symm
   rw [if_neg h,this,Bool.false_or,ixs_has r s (i+1)]
theorem ixs_lt:∀ (ws:List (List UInt8)) (s:List UInt8) (i k:Nat),k < ws.length→ws[k]?=some s→decide (ixs ws s i < ((i+k:Nat):Int))=(ws.take k).contains s
 | w::r,s,i,0,_,h=>by
  simp at h
  subst h
  simp [ixs]
 | w::r,s,i,k+1,hk,h=>by
  unfold ixs
  rw [List.take_succ_cons,List.contains_cons]
  by_cases e:w=s
  ·subst e; simp; omega
  ·have:(s==w)=false:=by simpa using fun e'=>e e'.symm
   rw [if_neg e,this,Bool.false_or,← ixs_lt r s (i+1) k (by simpa using hk) (by simpa using h),show i+(k+1)=i+1+k by omega]
theorem Ws_getD {ws:List (List UInt8)} {i:Nat} (hi:i < ws.length):(Ws ws).getD (((i:Nat):Int)).toNat AV.undef=vs (bs ws[i]):=by simp [Ws,List.getD_eq_getElem?_getD,hi]
theorem str_eq (a b:List UInt8):((bs a).toList==(bs b).toList)=decide (a=b):=by
 rw [bs_toList,bs_toList]
 by_cases h:a=b <;> simp [h]
theorem index_l (n:Nat) (ws:List (List UInt8)) (hw:ws.length≤1000) (s:List UInt8):∀ (d i m:Nat),i+d=ws.length→d < m→Q4c.l n m (.z2 (Ws ws) (bs s) ws.length i)=some (ixs (ws.drop i) s i)
 | _,_,0,_,h=>absurd h (by omega)
 | 0,i,m+1,h,_=>by
  rw [Q4c.at2]
  unfold Q4c.r2
  rw [cond_f (by omega),List.drop_of_length_le (by omega)]
  rfl
 | d+1,i,m+1,h,hm=>by
  have hi:i < ws.length:=by omega
  have ih:=index_l n ws hw s d (i+1) m (by omega) (by omega)
  rw [Q4c.at2]
  unfold Q4c.r2
  rw [cond_t (by omega),Ws_length,within_t hi,cond_true,Ws_getD hi,List.drop_eq_getElem_cons hi]
  show (bif ((bs s).toList==(bs ws[i]).toList) then _ else _)=_
  rw [str_eq,wsucc (by omega),ih,ixs_cons]
  by_cases h:s=ws[i]
  ·rw [cond_t h,if_pos h.symm]
  ·rw [cond_f h,if_neg (fun e=>h e.symm)]
theorem contains_str {n:Nat} (hn:1001≤n) (ws:List (List UInt8)) (hw:ws.length≤1000) (s:List UInt8):Q48.F n (Ws ws) (bs s)=some (ws.contains s):=by
 unfold Q48.F Q48.e Q4c.F Q4c.e
 have:=index_l n ws hw s ws.length 0 n (by omega) (by omega)
 rw [List.drop_zero] at this
 rw [Ws_length,show (0:Int)=((0:Nat):Int) from rfl,this,Option.bind_some]
 show some (decide (ixs ws s 0≥0))=_
 rw [ixs_has]
theorem indexOf_l (n:Nat) (ws:List (List UInt8)) (hw:ws.length≤1000) (s:List UInt8):∀ (d i m:Nat),i+d=ws.length→d < m→Q1r.l n m (.z2 (Ws ws) (bs s) i)=some (ixs (ws.drop i) s i)
 | _,_,0,_,h=>absurd h (by omega)
 | 0,i,m+1,h,_=>by
  rw [Q1r.at2]
  unfold Q1r.r2
  simp only [Ws_length]
  rw [cond_f (by omega),List.drop_of_length_le (by omega)]
  rfl
 | d+1,i,m+1,h,hm=>by
  have hi:i < ws.length:=by omega
  have ih:=indexOf_l n ws hw s d (i+1) m (by omega) (by omega)
  rw [Q1r.at2]
  unfold Q1r.r2
  simp only [Ws_length]
  rw [cond_t (by omega),within_t hi,cond_true,Ws_getD hi,List.drop_eq_getElem_cons hi]
  show (bif ((bs ws[i]).toList==(bs s).toList) then _ else _)=_
  rw [str_eq,wsucc (by omega),ih,ixs_cons]
  by_cases h:ws[i]=s
  ·rw [cond_t h,if_pos h]
  ·rw [cond_f h,if_neg h]
theorem indexOf_eq {n:Nat} (hn:1001≤n) (ws:List (List UInt8)) (hw:ws.length≤1000) (s:List UInt8):Q1r.F n (Ws ws) (bs s)=some (ixs ws s 0):=by
 unfold Q1r.F Q1r.e
 have:=indexOf_l n ws hw s ws.length 0 n (by omega) (by omega)
 rw [List.drop_zero] at this
 exact this
theorem nameErr_eq {n:Nat} (hn:1001≤n) (ws:List (List UInt8)) (hw:ws.length≤1000) (s:List UInt8):Q0y.F n (bs s) (Ws ws)=some (if isNm s=false then 7 else if ws.contains s then 13 else 0):=by
 unfold Q0y.F Q0y.e
 rw [isName_eq hn,Option.bind_some,cond_eq,Option.bind_some,contains_str hn ws hw,Option.bind_some,cond_eq,Option.bind_some,first2 hn,Option.bind_some]
 cases isNm s <;> cases ws.contains s <;> rfl
theorem Ws_take (ws:List (List UInt8)) (i:Nat):((Ws ws).take i).drop 0=Ws (ws.take i):=by simp [Ws,List.map_take]
theorem Ws_take2 (ws:List (List UInt8)) (i:Nat):((Ws ws).drop 0).take i=Ws (ws.take i):=by simp [Ws,List.map_take]
end Go.Proofs.YtmpglmcjoelciaaGreatDoor.Ev
namespace Go.Proofs.YtmpglmcjoelciaaGreatDoor.Ev
open Go Go.Proofs Go.Proofs.Ev
set_option linter.unusedVariables false
structure LF where
 nm:List UInt8
 b:Int
 fd:List UInt8
structure JP where
 fr:Int
 lf:List UInt8
 b:Int
 rt:List UInt8
structure KF where
 nm:List UInt8
 d:Bool
structure CN where
 fd:List UInt8
 op:Int
 n:Int
 s:List UInt8
structure RL where
 om:Bool
 cs:List CN
def LF.av (x:LF):AV:=.agg [vs (bs x.nm),vi x.b,vs (bs x.fd)]
def JP.av (x:JP):AV:=.agg [vi x.fr,vs (bs x.lf),vi x.b,vs (bs x.rt)]
def KF.av (x:KF):AV:=.agg [vs (bs x.nm),vb x.d]
def CN.av (x:CN):AV:=.agg [vs (bs x.fd),vi x.op,vi x.n,vs (bs x.s)]
def RL.av (x:RL):AV:=.agg [vb x.om,.sl ⟨true,104⟩ 4 (x.cs.map CN.av)]
theorem at_map {α:Type} (f:α→AV) {l:List α} {i:Nat} (hi:i < l.length):(l.map f).getD (((i:Nat):Int)).toNat AV.undef=f l[i]:=by simp [List.getD_eq_getElem?_getD,hi]
def names (fs:List LF):List (List UInt8):=fs.map LF.nm
def knames (ks:List KF):List (List UInt8):=ks.map KF.nm
def Bl (ts:List Bool):List AV:=ts.map vb
theorem Bl_length (ts:List Bool):(Bl ts).length=ts.length:=by simp [Bl]
def ne (before:List (List UInt8)) (s:List UInt8):Int:=if isNm s=false then 7 else if before.contains s then 13 else 0
def bErr (ws:List (List UInt8)):List (List UInt8)→Nat→Int × Int
 | [],_=>(0,0)
 | w::r,i=>if ne (ws.take i) w≠0 then ((i:Int),ne (ws.take i) w) else bErr ws r (i+1)
def fe (nb:Int) (before:List (List UInt8)) (f:LF):Int:=if ne before f.nm≠0 then ne before f.nm else if ¬ (0≤f.b∧f.b≤nb) then 3 else if isNm f.fd=false then 7 else 0
def fErr (nb:Int) (ns:List (List UInt8)):List LF→Nat→Int × Int
 | [],_=>(0,0)
 | f::r,i=>if fe nb (ns.take i) f≠0 then ((i:Int),fe nb (ns.take i) f) else fErr nb ns r (i+1)
def je (nb last:Int) (j:JP):Int:=if ¬ (1≤j.b∧j.b≤nb) then 3 else if ¬ (0≤j.fr∧j.fr≤j.b - 1) then 3 else if isNm j.lf=false then 7 else if isNm j.rt=false then 7 else if j.b < last then 14 else 0
def jErr (nb:Int):List JP→Nat→Int→List Bool→Int × Int
 | [],_,_,ts=>(0,if (ts.drop 1).contains false then 11 else 0)
 | j::r,i,last,ts=>if je nb last j≠0 then ((i:Int),je nb last j) else jErr nb r (i+1) j.b (ts.set j.b.toNat true)
def ke (ns before:List (List UInt8)) (k:KF):Int:=if ns.contains k.nm=false then 11 else if before.contains k.nm then 13 else 0
def kErr (ns ks:List (List UInt8)):List KF→Nat→Int × Int
 | [],_=>(0,0)
 | k::r,i=>if ke ns (ks.take i) k≠0 then ((i:Int),ke ns (ks.take i) k) else kErr ns ks r (i+1)
def ce (ns:List (List UInt8)) (c:CN):Int:=if ns.contains c.fd=false then 11 else if ¬ (0≤c.op∧c.op≤5) then 4 else if ¬ (-999999999999999≤c.n∧c.n≤999999999999999) then 3 else if c.s.length > 256 then 2 else if c.n≠0∧c.s≠[] then 5 else 0
def cErr (ns:List (List UInt8)):List CN→Int
 | []=>0
 | c::r=>if ce ns c≠0 then ce ns c else cErr ns r
def re (ns:List (List UInt8)) (r:RL):Int:=if r.cs.length > 4 then 2 else cErr ns r.cs
def rErr (ns:List (List UInt8)):List RL→Nat→Int × Int
 | [],_=>(0,0)
 | r::rs,i=>if re ns r≠0 then ((i:Int),re ns r) else rErr ns rs (i+1)
theorem bErr_cons (ws:List (List UInt8)) (w:List UInt8) (r:List (List UInt8)) (i:Nat):bErr ws (w::r) i=if ne (ws.take i) w≠0 then ((i:Int),ne (ws.take i) w) else bErr ws r (i+1):=rfl
theorem fErr_cons (nb:Int) (ns:List (List UInt8)) (f:LF) (r:List LF) (i:Nat):fErr nb ns (f::r) i=if fe nb (ns.take i) f≠0 then ((i:Int),fe nb (ns.take i) f) else fErr nb ns r (i+1):=rfl
theorem jErr_cons (nb:Int) (j:JP) (r:List JP) (i:Nat) (last:Int) (ts:List Bool):jErr nb (j::r) i last ts=if je nb last j≠0 then ((i:Int),je nb last j) else jErr nb r (i+1) j.b (ts.set j.b.toNat true):=rfl
theorem kErr_cons (ns ks:List (List UInt8)) (k:KF) (r:List KF) (i:Nat):kErr ns ks (k::r) i=if ke ns (ks.take i) k≠0 then ((i:Int),ke ns (ks.take i) k) else kErr ns ks r (i+1):=rfl
theorem cErr_cons (ns:List (List UInt8)) (c:CN) (r:List CN):cErr ns (c::r)=if ce ns c≠0 then ce ns c else cErr ns r:=rfl
theorem rErr_cons (ns:List (List UInt8)) (r:RL) (rs:List RL) (i:Nat):rErr ns (r::rs) i=if re ns r≠0 then ((i:Int),re ns r) else rErr ns rs (i+1):=rfl
section
variable {n:Nat} {nm fm:ByteArray} {a2 a4 a5 a7:List AV} {uq:Bool}
theorem namesOf_l (hn:1001≤n) (fs:List LF) (hf:fs.length≤1000):∀ (d i m:Nat),i+d=fs.length→d < m→Q0z.l n m (.z3 (fs.map LF.av) fs.length i (Ws ((names fs).take i)))=some (Ws (names fs))
 | _,_,0,_,h=>absurd h (by omega)
 | 0,i,m+1,h,_=>by
  rw [Q0z.at3]
  unfold Q0z.r3
  rw [cond_f (by omega),List.take_of_length_le (by simp [names]; omega)]
 | d+1,i,m+1,h,hm=>by
  have hi:i < fs.length:=by omega
  have ih:=namesOf_l hn fs hf d (i+1) m (by omega) (by omega)
  have hmost:most=1000000000:=rfl
  have hni:i < (names fs).length:=by simp [names]; omega
  have e2:(names fs)[i]=fs[i].nm:=by simp [names]
  rw [Q0z.at3]
  unfold Q0z.r3
  rw [cond_t (by omega),List.length_map,within_t hi,cond_true,at_map LF.av hi]
  show (bif decide ((Ws ((names fs).take i)).length+1≤most) then (Q0z.l n m (.z3 (fs.map LF.av) fs.length (IntKind.i64.wrap ((i:Int)+1)) (Ws ((names fs).take i)++[vs (bs fs[i].nm)]))) else none)=_
  rw [cond_t (by rw [Ws_length,List.length_take]; omega),wsucc (by omega),Ws_snoc,← e2,← List.take_succ_eq_append_getElem hni]
  exact ih
theorem namesOf_eq (hn:1001≤n) (fs:List LF) (hf:fs.length≤1000):Q0z.F n nm fm a2 (fs.map LF.av) a4 a5 uq a7=some (Ws (names fs)):=by
 unfold Q0z.F Q0z.e
 rw [List.length_map]
 exact namesOf_l hn fs hf fs.length 0 n (by omega) (by omega)
theorem basesErr_l (hn:1001≤n) (ws:List (List UInt8)) (hw:ws.length≤1000) (a3:List AV):∀ (d i m:Nat),i+d=ws.length→d < m→Q0e.l n m (.z5 (Ws ws) ws.length i nm fm (Ws ws) a3 a4 a5 uq a7)=some (bErr ws (ws.drop i) i)
 | _,_,0,_,h=>absurd h (by omega)
 | 0,i,m+1,h,_=>by
  rw [Q0e.at5]
  unfold Q0e.r5
  rw [cond_f (by omega),List.drop_of_length_le (by omega)]
  rfl
 | d+1,i,m+1,h,hm=>by
  have hi:i < ws.length:=by omega
  have ih:=basesErr_l hn ws hw a3 d (i+1) m (by omega) (by omega)
  rw [Q0e.at5]
  unfold Q0e.r5
  rw [cond_t (by omega),Ws_length,within_t hi,cond_true,Ws_getD hi,upto_t (Nat.le_of_lt hi),List.drop_eq_getElem_cons hi]
  show (Q0y.F n (bs ws[i]) (((Ws ws).take i).drop 0)).bind _=_
  rw [Ws_take,nameErr_eq hn _ (by rw [List.length_take]; omega),Option.bind_some,wsucc (by omega),ih]
  rw [bErr_cons]
  show (bif ne (ws.take i) ws[i] != 0 then some ((i:Int),ne (ws.take i) ws[i]) else _)=_
  by_cases h0:ne (ws.take i) ws[i]=0
  ·have:(ne (ws.take i) ws[i] != 0)=false:=by simp [h0]
   rw [this,cond_false,if_neg (by simp [h0])]
  ·have:(ne (ws.take i) ws[i] != 0)=true:=by simp [h0]
   rw [this,cond_true,if_pos h0]
def bErrT (ws:List (List UInt8)):Int × Int:=if ws.length=0 then (0,1) else if ws.length > 3 then (0,2) else bErr ws ws 0
theorem sizes_first {n:Nat} (hn:1001≤n) (a b:Bool):Q0m.F n [vi (if a then 1 else 0),vi (if b then 2 else 0)]=some (if a then 1 else if b then 2 else 0):=by
 rw [first2 hn]
 cases a <;> cases b <;> rfl
theorem basesErr_eq (hn:1001≤n) (ws:List (List UInt8)) (hw:ws.length≤1000) (a3:List AV):Q0e.F n nm fm (Ws ws) a3 a4 a5 uq a7=some (bErrT ws):=by
 unfold Q0e.F Q0e.e bErrT
 simp only [Ws_length]
 rw [cond_eq,Option.bind_some,cond_eq,Option.bind_some,sizes_first hn,Option.bind_some,beq_int]
 by_cases h0:ws.length=0
 ·have:decide (((ws.length:Nat):Int)=0)=true:=by rw [decide_eq_true_eq]; omega
  rw [this,if_pos h0]
  rfl
 ·have:decide (((ws.length:Nat):Int)=0)=false:=by rw [decide_eq_false_iff_not]; omega
  rw [this,if_neg h0]
  by_cases h3:ws.length > 3
  ·have:decide (((ws.length:Nat):Int) > 3)=true:=by rw [decide_eq_true_eq]; omega
   rw [this,if_pos h3]
   rfl
  ·have:decide (((ws.length:Nat):Int) > 3)=false:=by rw [decide_eq_false_iff_not]; omega
   rw [this,if_neg h3]
   have:=basesErr_l (nm:=nm) (fm:=fm) (a4:=a4) (a5:=a5) (uq:=uq) (a7:=a7) hn ws hw a3 ws.length 0 n (by omega) (by omega)
   rw [List.drop_zero] at this
   exact this
theorem fieldsErr_l (hn:1001≤n) (ws:List (List UInt8)) (hw:ws.length≤1000) (fs:List LF) (hf:fs.length≤1000):∀ (d i m:Nat),i+d=fs.length→d < m→
  Q0i.l n m (.z6 (fs.map LF.av) fs.length i nm fm (Ws ws) (fs.map LF.av) a4 a5 uq a7 (Ws (names fs)))=some (fErr ((ws.length:Int) - 1) (names fs) (fs.drop i) i)
 | _,_,0,_,h=>absurd h (by omega)
 | 0,i,m+1,h,_=>by
  rw [Q0i.at6]
  unfold Q0i.r6
  rw [cond_f (by omega),List.drop_of_length_le (by omega)]
  rfl
 | d+1,i,m+1,h,hm=>by
  have hi:i < fs.length:=by omega
  have hni:(names fs).length=fs.length:=by simp [names]
  have ih:=fieldsErr_l hn ws hw fs hf d (i+1) m (by omega) (by omega)
  rw [Q0i.at6]
  unfold Q0i.r6
  rw [cond_t (by omega),List.length_map,within_t hi,cond_true,at_map LF.av hi,List.drop_eq_getElem_cons hi]
  show (bif decide ((0:Int)≤(i:Int))&&decide ((i:Int)≤(((Ws (names fs)).length:Nat):Int)) then ((Q0y.F n (bs fs[i].nm) (((Ws (names fs)).drop 0).take (((i:Int) - 0).toNat))).bind _) else none)=_
  rw [Ws_length,upto_t (by omega),cond_true,show ((i:Int) - 0).toNat=i by omega,Ws_take2,nameErr_eq hn _ (by rw [List.length_take]; omega),Option.bind_some]
  show ((Q0o.F n fs[i].b 0 (IntKind.i64.wrap ((((Ws ws).length:Nat):Int) - 1))).bind _)=_
  rw [Ws_length,w64 (by omega) (by omega)]
  have hin:Q0o.F n fs[i].b 0 ((ws.length:Int) - 1)=some (decide (0≤fs[i].b∧fs[i].b≤(ws.length:Int) - 1)):=by
   unfold Q0o.F Q0o.e
   by_cases h:0≤fs[i].b
   ·rw [cond_t h]; simp [h]
   ·rw [cond_f h]; simp [h]
  rw [hin,Option.bind_some,cond_eq,Option.bind_some,isName_eq hn,Option.bind_some,cond_eq,Option.bind_some,wsucc (by omega),ih]
  rw [fErr_cons]
  have hfz:=first_eq (n:=n) [ne ((names fs).take i) fs[i].nm,(if (!decide (0≤fs[i].b∧fs[i].b≤(ws.length:Int) - 1))=true then 3 else 0),(if (!isNm fs[i].fd)=true then 7 else 0)] (by simp) hn
  show ((Q0m.F n ([ne ((names fs).take i) fs[i].nm,(if (!decide (0≤fs[i].b∧fs[i].b≤(ws.length:Int) - 1))=true then 3 else 0),(if (!isNm fs[i].fd)=true then 7 else 0)].map vi)).bind _)=_
  rw [hfz,Option.bind_some]
  have e:fz [ne ((names fs).take i) fs[i].nm,(if (!decide (0≤fs[i].b∧fs[i].b≤(ws.length:Int) - 1))=true then 3 else 0),(if (!isNm fs[i].fd)=true then 7 else 0)]=fe ((ws.length:Int) - 1) ((names fs).take i) fs[i]:=by
   unfold fe
   by_cases h1:ne ((names fs).take i) fs[i].nm=0
   ·by_cases h2:0≤fs[i].b∧fs[i].b≤(ws.length:Int) - 1
    ·cases h3:isNm fs[i].fd <;> simp [fz,h1,h2]
    ·simp [fz,h1,h2]
   ·simp [fz,h1]
  rw [e]
  by_cases h0:fe ((ws.length:Int) - 1) ((names fs).take i) fs[i]=0
  ·have:(fe ((ws.length:Int) - 1) ((names fs).take i) fs[i] != 0)=false:=by simp [h0]
   rw [this,cond_false,if_neg (by simp [h0])]
  ·have:(fe ((ws.length:Int) - 1) ((names fs).take i) fs[i] != 0)=true:=by simp [h0]
   rw [this,cond_true,if_pos h0]
def fErrT (ws:List (List UInt8)) (fs:List LF):Int × Int:=if fs.length=0 then (0,1) else if fs.length > 20 then (0,2) else fErr ((ws.length:Int) - 1) (names fs) fs 0
theorem fieldsErr_eq (hn:1001≤n) (ws:List (List UInt8)) (hw:ws.length≤1000) (fs:List LF) (hf:fs.length≤1000):Q0i.F n nm fm (Ws ws) (fs.map LF.av) a4 a5 uq a7=some (fErrT ws fs):=by
 unfold Q0i.F Q0i.e fErrT
 simp only [List.length_map]
 rw [cond_eq,Option.bind_some,cond_eq,Option.bind_some,sizes_first hn,Option.bind_some,beq_int]
 by_cases h0:fs.length=0
 ·have:decide (((fs.length:Nat):Int)=0)=true:=by rw [decide_eq_true_eq]; omega
  rw [this,if_pos h0]
  rfl
 ·have:decide (((fs.length:Nat):Int)=0)=false:=by rw [decide_eq_false_iff_not]; omega
  rw [this,if_neg h0]
  by_cases h3:fs.length > 20
  ·have:decide (((fs.length:Nat):Int) > 20)=true:=by rw [decide_eq_true_eq]; omega
   rw [this,if_pos h3]
   rfl
  ·have:decide (((fs.length:Nat):Int) > 20)=false:=by rw [decide_eq_false_iff_not]; omega
   rw [this,if_neg h3]
   show ((Q0z.F n nm fm (Ws ws) (fs.map LF.av) a4 a5 uq a7).bind _)=_
   rw [namesOf_eq hn fs hf,Option.bind_some]
   have:=fieldsErr_l (nm:=nm) (fm:=fm) (a4:=a4) (a5:=a5) (uq:=uq) (a7:=a7) hn ws hw fs hf fs.length 0 n (by omega) (by omega)
   rw [List.drop_zero] at this
   exact this
end
end Go.Proofs.YtmpglmcjoelciaaGreatDoor.Ev
namespace Go.Proofs.YtmpglmcjoelciaaGreatDoor.Ev
open Go Go.Proofs Go.Proofs.Ev
set_option linter.unusedVariables false
section
variable {R:Type}
theorem cells_agg (cs:List AV):(AV.agg cs).cells=cs:=rfl
theorem cells_v (x:Value):(AV.v x).cells=[.v x]:=rfl
theorem withCons_cons (c:AV) (r:List AV) (K:AV→List AV→Option R):withCons (c::r) K=K c r:=rfl
theorem withInt_mk (k:IntKind) (n:Int) (K:Int→Option R):withInt k (.v (.int k n)) K=K n:=by simp [withInt]
theorem withStr_mk (s:ByteArray) (K:ByteArray→Option R):withStr (.v (.string s)) K=K s:=rfl
theorem withBool_mk (b:Bool) (K:Bool→Option R):withBool (.v (.bool b)) K=K b:=rfl
theorem withSl_mk (fl:Fl) (sz:Nat) (xs:List AV) (K:List AV→Option R):withSl fl sz (.sl fl sz xs) K=K xs:=by
 have:(fl==fl)=true:=by simp
 simp [withSl]
theorem bif_ite {p:Prop} [Decidable p] (x y:R):(bif decide p then x else y)=if p then x else y:=by by_cases h:p <;> simp [h]
theorem bif_eq0 (a b:Int) (x y:R):(bif a==b then x else y)=if a=b then x else y:=by
 show (bif decide (a=b) then x else y)=_
 exact bif_ite x y
theorem at_mapN {α:Type} (f:α→AV) {l:List α} {i:Nat} (hi:i < l.length):(l.map f).getD i AV.undef=f l[i]:=by simp [List.getD_eq_getElem?_getD,hi]
theorem Ws_getDN {ws:List (List UInt8)} {i:Nat} (hi:i < ws.length):(Ws ws).getD i AV.undef=vs (bs ws[i]):=by simp [Ws,List.getD_eq_getElem?_getD,hi]
end
end Go.Proofs.YtmpglmcjoelciaaGreatDoor.Ev
namespace Go.Proofs.YtmpglmcjoelciaaGreatDoor.Ev
open Go Go.Proofs Go.Proofs.Ev
set_option linter.unusedVariables false
set_option maxRecDepth 100000
abbrev Q2l.A:=List AV
abbrev Q2l.T:=Bool
def Q2l.i:Q2l.A→List AV:=fun a0=>[.sl ⟨true,9⟩ 1 a0]
def Q2l.o (xs:List AV):Option Q2l.A:=match xs with | [.sl ⟨true,9⟩ 1 a0]=>some a0 | _=>none
theorem Q2l.oi:∀ xs a,Q2l.o xs=some a→xs=Q2l.i a:=by
 intro xs a h
 unfold Q2l.o at h
 split at h
 ·cases h; rfl
 ·cases h
def Q2l.p (p:Q2l.T):AV:=vb p
def Q2l.q (x:AV):Option Q2l.T:=match x with | .v (.bool p0)=>some p0 | _=>none
theorem Q2l.qi:∀ x p,Q2l.q x=some p→x=Q2l.p p:=by
 intro x p h
 unfold Q2l.q at h
 split at h
 ·cases h; rfl
 ·cases h
inductive Q2l.Z where
 | z4 (z1:List AV) (z2:Int)
def Q2l.C {R:Type} (n:Nat) (f:FuncId) (xs:List AV):(AV→Option R)→Option R:=
 fun _=>none
theorem Q2l.tells {R:Type} (n:Nat):Tells (R:=R) Tryz.prog (Q2l.C n):=fun _ xs=>Tells1.none
def Q2l.cut (r:Nat):Option Keep:=match r with | 4=>some ⟨[0,3],[]⟩ | _=>none
def Q2l.t (z:Q2l.Z):List Item:=(todoOf (match z with | .z4 _ _=>4) 1000 [.code (Tryz.f20.body.getD .skip)]).getD []
def Q2l.s:Q2l.Z→St
 | .z4 z1 z2=>⟨spr 19 0 [(0,.sl ⟨true,9⟩ 1 z1),(3,vi z2)],Mem.ofList [],0⟩
def Q2l.r4 (n:Nat) (c:Q2l.Z→Option Bool) (z1:List AV) (z2:Int):Option Bool:=
 let y2:Bool:=decide (z2 < ((z1.length:Nat):Int))
 bif y2 then (bif decide ((0:Int)≤z2)&&decide (z2 < ((z1.length:Nat):Int)) then (withCons ((z1.getD ((z2).toNat) .undef).cells) fun h3 r4=>
 withStr h3 fun s5=>
 let y6:Bool:=decide (((s5.size:Nat):Int) > 300)
 bif y6 then (some false) else (c (.z4 z1 (IntKind.i64.wrap (z2+1))))) else none) else (some true)
def Q2l.r (n:Nat) (c:Q2l.Z→Option Bool):Q2l.Z→Option Bool
 | .z4 z1 z2=>Q2l.r4 n c z1 z2
def Q2l.e (n:Nat) (c:Q2l.Z→Option Bool) (a0:List AV):Option Bool:=
 let y1:Bool:=decide (((a0.length:Nat):Int) > 103)
 bif y1 then (some false) else (c (.z4 a0 0))
def Q2l.E (n:Nat) (c:Q2l.Z→Option Bool):Q2l.A→Option Q2l.T:=fun a0=>Q2l.e n c a0
def Q2l.l (n:Nat):Nat→Q2l.Z→Option Bool:=loopL (Q2l.r n)
def Q2l.F (n:Nat) (a0:List AV):Option Bool:=Q2l.e n (Q2l.l n n) a0
def Q2l.FA (n:Nat):Q2l.A→Option Q2l.T:=Q2l.E n (Q2l.l n n)
theorem Q2l.hands (n:Nat):∀ a p,Q2l.FA n a=some p→HandsIn Tryz.prog 20 (Q2l.i a) (Q2l.p p):=
 pf_hands (C:=Q2l.C n) (cut:=Q2l.cut) (t:=Q2l.t) (s:=Q2l.s) (e:=Q2l.E n) (r:=Q2l.r n) (n:=n) cfg mixed globs rfl Q2l.qi (Q2l.tells n) Tryz.func20 (by kernel_rfl) (by kernel_rfl) (fun rec a=>by kernel_rfl) (fun rec z=>by cases z <;> kernel_rfl)
def Q2l.via {R:Type} (n:Nat):List AV→(AV→Option R)→Option R:=viaK (Q2l.FA n) Q2l.o Q2l.p
theorem Q2l.tells1 {R:Type} (n:Nat) (xs:List AV):Tells1 (R:=R) Tryz.prog 20 xs (Q2l.via n xs):=tells_via Q2l.oi (fun a=>by kernel_rfl) (Q2l.hands n) xs
end Go.Proofs.YtmpglmcjoelciaaGreatDoor.Ev
namespace Go.Proofs.YtmpglmcjoelciaaGreatDoor.Ev
open Go Go.Proofs Go.Proofs.Ev
set_option linter.unusedVariables false
set_option maxRecDepth 100000
abbrev Q0q.A:=ByteArray
abbrev Q0q.T:=Bool
def Q0q.i:Q0q.A→List AV:=fun a0=>[vs a0]
def Q0q.o (xs:List AV):Option Q0q.A:=match xs with | [.v (.string a0)]=>some a0 | _=>none
theorem Q0q.oi:∀ xs a,Q0q.o xs=some a→xs=Q0q.i a:=by
 intro xs a h
 unfold Q0q.o at h
 split at h
 ·cases h; rfl
 ·cases h
def Q0q.p (p:Q0q.T):AV:=vb p
def Q0q.q (x:AV):Option Q0q.T:=match x with | .v (.bool p0)=>some p0 | _=>none
theorem Q0q.qi:∀ x p,Q0q.q x=some p→x=Q0q.p p:=by
 intro x p h
 unfold Q0q.q at h
 split at h
 ·cases h; rfl
 ·cases h
def Q0q.C {R:Type} (n:Nat) (f:FuncId) (xs:List AV):(AV→Option R)→Option R:=
 bif Nat.beq f 98 then Q4f.via n xs else fun _=>none
theorem Q0q.tells {R:Type} (n:Nat):Tells (R:=R) Tryz.prog (Q0q.C n):=fun _ xs=>tells_at (Q4f.tells1 n xs) (Tells1.none)
def Q0q.cut (r:Nat):Option Keep:=match r with  | _=>none
def Q0q.e (n:Nat) (a0:ByteArray):Option Bool:=
 (Q4f.F n a0 (⟨#[39]⟩ : ByteArray)).bind fun p1=>
 some p1
def Q0q.E (n:Nat):Q0q.A→Option Q0q.T:=fun a0=>Q0q.e n a0
def Q0q.F (n:Nat) (a0:ByteArray):Option Bool:=Q0q.e n a0
def Q0q.FA (n:Nat):Q0q.A→Option Q0q.T:=Q0q.E n
theorem Q0q.hands (n:Nat):∀ a p,Q0q.FA n a=some p→HandsIn Tryz.prog 149 (Q0q.i a) (Q0q.p p):=
 pf_hands (C:=Q0q.C n) (cut:=Q0q.cut) (Z:=Empty) (t:=nofun) (s:=nofun) (e:=fun _=>Q0q.E n) (r:=fun _ z=>nomatch z) (n:=n) cfg mixed globs rfl Q0q.qi (Q0q.tells n) Tryz.func149 (by kernel_rfl) (by kernel_rfl) (fun rec a=>by kernel_rfl) (fun rec z=>nomatch z)
def Q0q.via {R:Type} (n:Nat):List AV→(AV→Option R)→Option R:=viaK (Q0q.FA n) Q0q.o Q0q.p
theorem Q0q.tells1 {R:Type} (n:Nat) (xs:List AV):Tells1 (R:=R) Tryz.prog 149 xs (Q0q.via n xs):=tells_via Q0q.oi (fun a=>by kernel_rfl) (Q0q.hands n) xs
end Go.Proofs.YtmpglmcjoelciaaGreatDoor.Ev
namespace Go.Proofs.YtmpglmcjoelciaaGreatDoor.Ev
open Go Go.Proofs Go.Proofs.Ev
set_option linter.unusedVariables false
set_option maxRecDepth 100000
abbrev Q4a.A:=List AV
abbrev Q4a.T:=Int
def Q4a.i:Q4a.A→List AV:=fun a0=>[.sl ⟨true,9⟩ 1 a0,.fn 149 []]
def Q4a.o (xs:List AV):Option Q4a.A:=match xs with | [.sl ⟨true,9⟩ 1 a0,.fn 149 []]=>some a0 | _=>none
theorem Q4a.oi:∀ xs a,Q4a.o xs=some a→xs=Q4a.i a:=by
 intro xs a h
 unfold Q4a.o at h
 split at h
 ·cases h; rfl
 ·cases h
def Q4a.p (p:Q4a.T):AV:=vi p
def Q4a.q (x:AV):Option Q4a.T:=match x with | .v (.int .i64 p0)=>some p0 | _=>none
theorem Q4a.qi:∀ x p,Q4a.q x=some p→x=Q4a.p p:=by
 intro x p h
 unfold Q4a.q at h
 split at h
 ·cases h; rfl
 ·cases h
inductive Q4a.Z where
 | z2 (z1:List AV) (z2 z3:Int)
def Q4a.C {R:Type} (n:Nat) (f:FuncId) (xs:List AV):(AV→Option R)→Option R:=
 bif Nat.beq f 149 then Q0q.via n xs else fun _=>none
theorem Q4a.tells {R:Type} (n:Nat):Tells (R:=R) Tryz.prog (Q4a.C n):=fun _ xs=>tells_at (Q0q.tells1 n xs) (Tells1.none)
def Q4a.cut (r:Nat):Option Keep:=match r with | 2=>some ⟨[0,1,7,8],[]⟩ | _=>none
def Q4a.t (z:Q4a.Z):List Item:=(todoOf (match z with | .z2 _ _ _=>2) 1000 [.code (Tryz.f123.body.getD .skip)]).getD []
def Q4a.s:Q4a.Z→St
 | .z2 z1 z2 z3=>⟨spr 19 0 [(0,.sl ⟨true,9⟩ 1 z1),(1,.fn 149 []),(7,vi z2),(8,vi z3)],Mem.ofList [],0⟩
def Q4a.r2 (n:Nat) (c:Q4a.Z→Option Int) (z1:List AV) (z2 z3:Int):Option Int:=
 bif decide (z3 < z2) then (bif decide ((0:Int)≤z3)&&decide (z3 < ((z1.length:Nat):Int)) then (withCons ((z1.getD ((z3).toNat) .undef).cells) fun h1 r2=>
 withStr h1 fun s3=>
 (Q0q.F n s3).bind fun p4=>
 bif p4 then (some z3) else (c (.z2 z1 z2 (IntKind.i64.wrap (z3+1))))) else none) else (some (-1))
def Q4a.r (n:Nat) (c:Q4a.Z→Option Int):Q4a.Z→Option Int
 | .z2 z1 z2 z3=>Q4a.r2 n c z1 z2 z3
def Q4a.e (n:Nat) (c:Q4a.Z→Option Int) (a0:List AV):Option Int:=
 c (.z2 a0 ((a0.length:Nat):Int) 0)
def Q4a.E (n:Nat) (c:Q4a.Z→Option Int):Q4a.A→Option Q4a.T:=fun a0=>Q4a.e n c a0
def Q4a.l (n:Nat):Nat→Q4a.Z→Option Int:=loopL (Q4a.r n)
def Q4a.F (n:Nat) (a0:List AV):Option Int:=Q4a.e n (Q4a.l n n) a0
def Q4a.FA (n:Nat):Q4a.A→Option Q4a.T:=Q4a.E n (Q4a.l n n)
theorem Q4a.hands (n:Nat):∀ a p,Q4a.FA n a=some p→HandsIn Tryz.prog 123 (Q4a.i a) (Q4a.p p):=
 pf_hands (C:=Q4a.C n) (cut:=Q4a.cut) (t:=Q4a.t) (s:=Q4a.s) (e:=Q4a.E n) (r:=Q4a.r n) (n:=n) cfg mixed globs rfl Q4a.qi (Q4a.tells n) Tryz.func123 (by kernel_rfl) (by kernel_rfl) (fun rec a=>by kernel_rfl) (fun rec z=>by cases z <;> kernel_rfl)
def Q4a.via {R:Type} (n:Nat):List AV→(AV→Option R)→Option R:=viaK (Q4a.FA n) Q4a.o Q4a.p
theorem Q4a.tells1 {R:Type} (n:Nat) (xs:List AV):Tells1 (R:=R) Tryz.prog 123 xs (Q4a.via n xs):=tells_via Q4a.oi (fun a=>by kernel_rfl) (Q4a.hands n) xs
end Go.Proofs.YtmpglmcjoelciaaGreatDoor.Ev
namespace Go.Proofs.YtmpglmcjoelciaaGreatDoor.Ev
open Go Go.Proofs Go.Proofs.Ev
set_option linter.unusedVariables false
set_option maxRecDepth 100000
abbrev Q45.A:=List AV
abbrev Q45.T:=Bool
def Q45.i:Q45.A→List AV:=fun a0=>[.sl ⟨true,9⟩ 1 a0,.fn 149 []]
def Q45.o (xs:List AV):Option Q45.A:=match xs with | [.sl ⟨true,9⟩ 1 a0,.fn 149 []]=>some a0 | _=>none
theorem Q45.oi:∀ xs a,Q45.o xs=some a→xs=Q45.i a:=by
 intro xs a h
 unfold Q45.o at h
 split at h
 ·cases h; rfl
 ·cases h
def Q45.p (p:Q45.T):AV:=vb p
def Q45.q (x:AV):Option Q45.T:=match x with | .v (.bool p0)=>some p0 | _=>none
theorem Q45.qi:∀ x p,Q45.q x=some p→x=Q45.p p:=by
 intro x p h
 unfold Q45.q at h
 split at h
 ·cases h; rfl
 ·cases h
def Q45.C {R:Type} (n:Nat) (f:FuncId) (xs:List AV):(AV→Option R)→Option R:=
 bif Nat.beq f 123 then Q4a.via n xs else fun _=>none
theorem Q45.tells {R:Type} (n:Nat):Tells (R:=R) Tryz.prog (Q45.C n):=fun _ xs=>tells_at (Q4a.tells1 n xs) (Tells1.none)
def Q45.cut (r:Nat):Option Keep:=match r with  | _=>none
def Q45.e (n:Nat) (a0:List AV):Option Bool:=
 (Q4a.F n a0).bind fun p1=>
 some (decide (p1≥0))
def Q45.E (n:Nat):Q45.A→Option Q45.T:=fun a0=>Q45.e n a0
def Q45.F (n:Nat) (a0:List AV):Option Bool:=Q45.e n a0
def Q45.FA (n:Nat):Q45.A→Option Q45.T:=Q45.E n
theorem Q45.hands (n:Nat):∀ a p,Q45.FA n a=some p→HandsIn Tryz.prog 78 (Q45.i a) (Q45.p p):=
 pf_hands (C:=Q45.C n) (cut:=Q45.cut) (Z:=Empty) (t:=nofun) (s:=nofun) (e:=fun _=>Q45.E n) (r:=fun _ z=>nomatch z) (n:=n) cfg mixed globs rfl Q45.qi (Q45.tells n) Tryz.func78 (by kernel_rfl) (by kernel_rfl) (fun rec a=>by kernel_rfl) (fun rec z=>nomatch z)
def Q45.via {R:Type} (n:Nat):List AV→(AV→Option R)→Option R:=viaK (Q45.FA n) Q45.o Q45.p
theorem Q45.tells1 {R:Type} (n:Nat) (xs:List AV):Tells1 (R:=R) Tryz.prog 78 xs (Q45.via n xs):=tells_via Q45.oi (fun a=>by kernel_rfl) (Q45.hands n) xs
end Go.Proofs.YtmpglmcjoelciaaGreatDoor.Ev
namespace Go.Proofs.YtmpglmcjoelciaaGreatDoor.Ev
open Go Go.Proofs Go.Proofs.Ev
set_option linter.unusedVariables false
set_option maxRecDepth 100000
abbrev Q0p.A:=List AV
abbrev Q0p.T:=Bool
def Q0p.i:Q0p.A→List AV:=fun a0=>[.sl ⟨true,9⟩ 1 a0]
def Q0p.o (xs:List AV):Option Q0p.A:=match xs with | [.sl ⟨true,9⟩ 1 a0]=>some a0 | _=>none
theorem Q0p.oi:∀ xs a,Q0p.o xs=some a→xs=Q0p.i a:=by
 intro xs a h
 unfold Q0p.o at h
 split at h
 ·cases h; rfl
 ·cases h
def Q0p.p (p:Q0p.T):AV:=vb p
def Q0p.q (x:AV):Option Q0p.T:=match x with | .v (.bool p0)=>some p0 | _=>none
theorem Q0p.qi:∀ x p,Q0p.q x=some p→x=Q0p.p p:=by
 intro x p h
 unfold Q0p.q at h
 split at h
 ·cases h; rfl
 ·cases h
def Q0p.C {R:Type} (n:Nat) (f:FuncId) (xs:List AV):(AV→Option R)→Option R:=
 bif Nat.beq f 78 then Q45.via n xs else fun _=>none
theorem Q0p.tells {R:Type} (n:Nat):Tells (R:=R) Tryz.prog (Q0p.C n):=fun _ xs=>tells_at (Q45.tells1 n xs) (Tells1.none)
def Q0p.cut (r:Nat):Option Keep:=match r with  | _=>none
def Q0p.e (n:Nat) (a0:List AV):Option Bool:=
 (Q45.F n a0).bind fun p1=>
 some (!p1)
def Q0p.E (n:Nat):Q0p.A→Option Q0p.T:=fun a0=>Q0p.e n a0
def Q0p.F (n:Nat) (a0:List AV):Option Bool:=Q0p.e n a0
def Q0p.FA (n:Nat):Q0p.A→Option Q0p.T:=Q0p.E n
theorem Q0p.hands (n:Nat):∀ a p,Q0p.FA n a=some p→HandsIn Tryz.prog 113 (Q0p.i a) (Q0p.p p):=
 pf_hands (C:=Q0p.C n) (cut:=Q0p.cut) (Z:=Empty) (t:=nofun) (s:=nofun) (e:=fun _=>Q0p.E n) (r:=fun _ z=>nomatch z) (n:=n) cfg mixed globs rfl Q0p.qi (Q0p.tells n) Tryz.func113 (by kernel_rfl) (by kernel_rfl) (fun rec a=>by kernel_rfl) (fun rec z=>nomatch z)
def Q0p.via {R:Type} (n:Nat):List AV→(AV→Option R)→Option R:=viaK (Q0p.FA n) Q0p.o Q0p.p
theorem Q0p.tells1 {R:Type} (n:Nat) (xs:List AV):Tells1 (R:=R) Tryz.prog 113 xs (Q0p.via n xs):=tells_via Q0p.oi (fun a=>by kernel_rfl) (Q0p.hands n) xs
end Go.Proofs.YtmpglmcjoelciaaGreatDoor.Ev
namespace Go.Proofs.YtmpglmcjoelciaaGreatDoor.Ev
open Go Go.Proofs Go.Proofs.Ev
set_option linter.unusedVariables false
set_option maxRecDepth 100000
abbrev Q1a.A:=List AV × Bool × ByteArray × ByteArray × Bool × ByteArray × ByteArray × Bool × Int × List AV × List AV × List AV × List AV × List AV × List AV × List AV
abbrev Q1a.T:=Bool × Bool × ByteArray × ByteArray × Bool × ByteArray × ByteArray × Bool × Int × List AV × List AV × List AV × List AV × List AV × List AV × List AV
def Q1a.i:Q1a.A→List AV:=fun (a0,a1,a2,a3,a4,a5,a6,a7,a8,a9,a10,a11,a12,a13,a14,a15)=>[.ptr 0 0,.sl ⟨true,9⟩ 1 a0]
def Q1a.b:Q1a.A→List AV:=fun (a0,a1,a2,a3,a4,a5,a6,a7,a8,a9,a10,a11,a12,a13,a14,a15)=>[.fn 115 [vb a1,vs a2,vs a3,.own 1 0 none,.own 2 0 none,vb a4,vs a5,vs a6,.own 3 0 none,.own 4 0 none,.own 5 0 none,.own 6 0 none,vb a7,.own 7 0 none,vi a8],.fr ⟨true,125⟩ 4 a9,.fr ⟨true,111⟩ 2 a10,.fr ⟨true,9⟩ 1 a11,.fr ⟨true,95⟩ 3 a12,.fr ⟨true,97⟩ 4 a13,.fr ⟨true,111⟩ 2 a14,.fr ⟨false,100⟩ 2 a15]
def Q1a.o (xs:List AV):Option Q1a.A:=match xs with | [.ptr 0 0,.sl ⟨true,9⟩ 1 a0,.tup [.fn 115 [.v (.bool a1),.v (.string a2),.v (.string a3),.own 1 0 none,.own 2 0 none,.v (.bool a4),.v (.string a5),.v (.string a6),.own 3 0 none,.own 4 0 none,.own 5 0 none,.own 6 0 none,.v (.bool a7),.own 7 0 none,.v (.int .i64 a8)],.fr ⟨true,125⟩ 4 a9,.fr ⟨true,111⟩ 2 a10,.fr ⟨true,9⟩ 1 a11,.fr ⟨true,95⟩ 3 a12,.fr ⟨true,97⟩ 4 a13,.fr ⟨true,111⟩ 2 a14,.fr ⟨false,100⟩ 2 a15]]=>some (a0,a1,a2,a3,a4,a5,a6,a7,a8,a9,a10,a11,a12,a13,a14,a15) | _=>none
theorem Q1a.oi:∀ xs a,Q1a.o xs=some a→xs=Q1a.i a++[.tup (Q1a.b a)]:=by
 intro xs a h
 unfold Q1a.o at h
 split at h
 ·cases h; rfl
 ·cases h
def Q1a.y (p:Q1a.T):AV:=vb p.1
def Q1a.w (p:Q1a.T):List AV:=[.fn 115 [vb p.2.1,vs p.2.2.1,vs p.2.2.2.1,.own 1 0 none,.own 2 0 none,vb p.2.2.2.2.1,vs p.2.2.2.2.2.1,vs p.2.2.2.2.2.2.1,.own 3 0 none,.own 4 0 none,.own 5 0 none,.own 6 0 none,vb p.2.2.2.2.2.2.2.1,.own 7 0 none,vi p.2.2.2.2.2.2.2.2.1],.fr ⟨true,125⟩ 4 p.2.2.2.2.2.2.2.2.2.1,.fr ⟨true,111⟩ 2 p.2.2.2.2.2.2.2.2.2.2.1,.fr ⟨true,9⟩ 1 p.2.2.2.2.2.2.2.2.2.2.2.1,.fr ⟨true,95⟩ 3 p.2.2.2.2.2.2.2.2.2.2.2.2.1,.fr ⟨true,97⟩ 4 p.2.2.2.2.2.2.2.2.2.2.2.2.2.1,.fr ⟨true,111⟩ 2 p.2.2.2.2.2.2.2.2.2.2.2.2.2.2.1,.fr ⟨false,100⟩ 2 p.2.2.2.2.2.2.2.2.2.2.2.2.2.2.2]
def Q1a.p (p:Q1a.T):AV:=.tup [Q1a.y p,.tup (Q1a.w p)]
def Q1a.q (x:AV):Option Q1a.T:=match x with | .tup [.v (.bool p0),.tup [.fn 115 [.v (.bool p1),.v (.string p2),.v (.string p3),.own 1 0 none,.own 2 0 none,.v (.bool p4),.v (.string p5),.v (.string p6),.own 3 0 none,.own 4 0 none,.own 5 0 none,.own 6 0 none,.v (.bool p7),.own 7 0 none,.v (.int .i64 p8)],.fr ⟨true,125⟩ 4 p9,.fr ⟨true,111⟩ 2 p10,.fr ⟨true,9⟩ 1 p11,.fr ⟨true,95⟩ 3 p12,.fr ⟨true,97⟩ 4 p13,.fr ⟨true,111⟩ 2 p14,.fr ⟨false,100⟩ 2 p15]]=>some (p0,p1,p2,p3,p4,p5,p6,p7,p8,p9,p10,p11,p12,p13,p14,p15) | _=>none
theorem Q1a.qi:∀ x p,Q1a.q x=some p→x=Q1a.p p:=by
 intro x p h
 unfold Q1a.q at h
 split at h
 ·cases h; rfl
 ·cases h
def Q1a.C {R:Type} (n:Nat) (f:FuncId) (xs:List AV):(AV→Option R)→Option R:=
 bif Nat.beq f 113 then Q0p.via n xs else fun _=>none
theorem Q1a.tells {R:Type} (n:Nat):Tells (R:=R) Tryz.prog (Q1a.C n):=fun _ xs=>tells_at (Q0p.tells1 n xs) (Tells1.none)
def Q1a.cut (r:Nat):Option Keep:=match r with  | _=>none
def Q1a.e (n:Nat) (a0:List AV) (a1:Bool) (a2 a3:ByteArray) (a4:Bool) (a5 a6:ByteArray) (a7:Bool) (a8:Int) (a9 a10 a11 a12 a13 a14 a15:List AV):Option Q1a.T:=
 let y1:Bool:=((a0.length:Nat):Int) != 2
 bif y1 then (some (false,a1,a2,a3,a4,a5,a6,a7,a8,a9,a10,a11,a12,a13,a14,a15)) else (bif decide ((1:Int) < (a0.length:Nat)) then (withCons ((a0.getD 1 .undef).cells) fun h2 r3=>
 withStr h2 fun s4=>
 (Q0p.F n [vs s4]).bind fun p5=>
 bif !p5 then (some (false,a1,a2,a3,a4,a5,a6,a7,a8,a9,a10,a11,a12,a13,a14,a15)) else (bif a1 then (bif decide ((1:Int) < (a0.length:Nat)) then (withCons ((a0.getD 1 .undef).cells) fun h6 r7=>
 withStr h6 fun s8=>
 some (true,a1,a2,a3,a4,a5,s8,a7,a8,a9,a10,a11,a12,a13,a14,a15)) else none) else (bif decide ((1:Int) < (a0.length:Nat)) then (withCons ((a0.getD 1 .undef).cells) fun h9 r10=>
 withStr h9 fun s11=>
 some (true,a1,a2,s11,a4,a5,a6,a7,a8,a9,a10,a11,a12,a13,a14,a15)) else none))) else none)
def Q1a.E (n:Nat):Q1a.A→Option Q1a.T:=fun (a0,a1,a2,a3,a4,a5,a6,a7,a8,a9,a10,a11,a12,a13,a14,a15)=>Q1a.e n a0 a1 a2 a3 a4 a5 a6 a7 a8 a9 a10 a11 a12 a13 a14 a15
def Q1a.F (n:Nat) (a0:List AV) (a1:Bool) (a2 a3:ByteArray) (a4:Bool) (a5 a6:ByteArray) (a7:Bool) (a8:Int) (a9 a10 a11 a12 a13 a14 a15:List AV):Option Q1a.T:=Q1a.e n a0 a1 a2 a3 a4 a5 a6 a7 a8 a9 a10 a11 a12 a13 a14 a15
def Q1a.FA (n:Nat):Q1a.A→Option Q1a.T:=Q1a.E n
def Q1a.nils:List (Nat × Nat × Fl × Nat):=[]
theorem Q1a.hands (n:Nat):∀ a p,Q1a.FA n a=some p→HandsMIn Tryz.prog 107 (Q1a.i a) (Q1a.b a) (Q1a.y p) (Q1a.w p):=
 pfM_hands (G:=Gk 1) (C:=Q1a.C n) (cut:=Q1a.cut) (Z:=Empty) (t:=nofun) (s:=nofun) (nils:=Q1a.nils) (e:=fun _=>Q1a.E n) (r:=fun _ z=>nomatch z) (n:=n) (cfg.kb 1) mixed globs Q1a.qi (fun a=>by kernel_rfl) (Q1a.tells n) Tryz.func107 (by kernel_rfl) (by kernel_rfl) (fun rec a=>by kernel_rfl) (fun rec z=>nomatch z)
def Q1a.via {R:Type} (n:Nat):List AV→(AV→Option R)→Option R:=viaK (Q1a.FA n) Q1a.o Q1a.p
theorem Q1a.tells1 {R:Type} (n:Nat) (xs:List AV):Tells1 (R:=R) Tryz.prog 107 xs (Q1a.via n xs):=tells_viaM (fun _=>rfl) Q1a.oi (Q1a.hands n) xs
end Go.Proofs.YtmpglmcjoelciaaGreatDoor.Ev
namespace Go.Proofs.YtmpglmcjoelciaaGreatDoor.Ev
open Go Go.Proofs Go.Proofs.Ev
set_option linter.unusedVariables false
set_option maxRecDepth 100000
abbrev Q18.A:=List AV × Bool × ByteArray × ByteArray × Bool × ByteArray × ByteArray × Bool × Int × List AV × List AV × List AV × List AV × List AV × List AV × List AV
abbrev Q18.T:=Bool × Bool × ByteArray × ByteArray × Bool × ByteArray × ByteArray × Bool × Int × List AV × List AV × List AV × List AV × List AV × List AV × List AV
def Q18.i:Q18.A→List AV:=fun (a0,a1,a2,a3,a4,a5,a6,a7,a8,a9,a10,a11,a12,a13,a14,a15)=>[.ptr 0 0,.sl ⟨true,9⟩ 1 a0]
def Q18.b:Q18.A→List AV:=fun (a0,a1,a2,a3,a4,a5,a6,a7,a8,a9,a10,a11,a12,a13,a14,a15)=>[.fn 115 [vb a1,vs a2,vs a3,.own 1 0 none,.own 2 0 none,vb a4,vs a5,vs a6,.own 3 0 none,.own 4 0 none,.own 5 0 none,.own 6 0 none,vb a7,.own 7 0 none,vi a8],.fr ⟨true,125⟩ 4 a9,.fr ⟨true,111⟩ 2 a10,.fr ⟨true,9⟩ 1 a11,.fr ⟨true,95⟩ 3 a12,.fr ⟨true,97⟩ 4 a13,.fr ⟨true,111⟩ 2 a14,.fr ⟨false,100⟩ 2 a15]
def Q18.o (xs:List AV):Option Q18.A:=match xs with | [.ptr 0 0,.sl ⟨true,9⟩ 1 a0,.tup [.fn 115 [.v (.bool a1),.v (.string a2),.v (.string a3),.own 1 0 none,.own 2 0 none,.v (.bool a4),.v (.string a5),.v (.string a6),.own 3 0 none,.own 4 0 none,.own 5 0 none,.own 6 0 none,.v (.bool a7),.own 7 0 none,.v (.int .i64 a8)],.fr ⟨true,125⟩ 4 a9,.fr ⟨true,111⟩ 2 a10,.fr ⟨true,9⟩ 1 a11,.fr ⟨true,95⟩ 3 a12,.fr ⟨true,97⟩ 4 a13,.fr ⟨true,111⟩ 2 a14,.fr ⟨false,100⟩ 2 a15]]=>some (a0,a1,a2,a3,a4,a5,a6,a7,a8,a9,a10,a11,a12,a13,a14,a15) | _=>none
theorem Q18.oi:∀ xs a,Q18.o xs=some a→xs=Q18.i a++[.tup (Q18.b a)]:=by
 intro xs a h
 unfold Q18.o at h
 split at h
 ·cases h; rfl
 ·cases h
def Q18.y (p:Q18.T):AV:=vb p.1
def Q18.w (p:Q18.T):List AV:=[.fn 115 [vb p.2.1,vs p.2.2.1,vs p.2.2.2.1,.own 1 0 none,.own 2 0 none,vb p.2.2.2.2.1,vs p.2.2.2.2.2.1,vs p.2.2.2.2.2.2.1,.own 3 0 none,.own 4 0 none,.own 5 0 none,.own 6 0 none,vb p.2.2.2.2.2.2.2.1,.own 7 0 none,vi p.2.2.2.2.2.2.2.2.1],.fr ⟨true,125⟩ 4 p.2.2.2.2.2.2.2.2.2.1,.fr ⟨true,111⟩ 2 p.2.2.2.2.2.2.2.2.2.2.1,.fr ⟨true,9⟩ 1 p.2.2.2.2.2.2.2.2.2.2.2.1,.fr ⟨true,95⟩ 3 p.2.2.2.2.2.2.2.2.2.2.2.2.1,.fr ⟨true,97⟩ 4 p.2.2.2.2.2.2.2.2.2.2.2.2.2.1,.fr ⟨true,111⟩ 2 p.2.2.2.2.2.2.2.2.2.2.2.2.2.2.1,.fr ⟨false,100⟩ 2 p.2.2.2.2.2.2.2.2.2.2.2.2.2.2.2]
def Q18.p (p:Q18.T):AV:=.tup [Q18.y p,.tup (Q18.w p)]
def Q18.q (x:AV):Option Q18.T:=match x with | .tup [.v (.bool p0),.tup [.fn 115 [.v (.bool p1),.v (.string p2),.v (.string p3),.own 1 0 none,.own 2 0 none,.v (.bool p4),.v (.string p5),.v (.string p6),.own 3 0 none,.own 4 0 none,.own 5 0 none,.own 6 0 none,.v (.bool p7),.own 7 0 none,.v (.int .i64 p8)],.fr ⟨true,125⟩ 4 p9,.fr ⟨true,111⟩ 2 p10,.fr ⟨true,9⟩ 1 p11,.fr ⟨true,95⟩ 3 p12,.fr ⟨true,97⟩ 4 p13,.fr ⟨true,111⟩ 2 p14,.fr ⟨false,100⟩ 2 p15]]=>some (p0,p1,p2,p3,p4,p5,p6,p7,p8,p9,p10,p11,p12,p13,p14,p15) | _=>none
theorem Q18.qi:∀ x p,Q18.q x=some p→x=Q18.p p:=by
 intro x p h
 unfold Q18.q at h
 split at h
 ·cases h; rfl
 ·cases h
inductive Q18.Z where
 | z2 (z1:Bool) (z2 z3:ByteArray) (z4:Bool) (z5 z6:ByteArray) (z7:Bool) (z8:Int) (z9 z10 z11 z12 z13 z14 z15:List AV)
def Q18.C {R:Type} (n:Nat) (f:FuncId) (xs:List AV):(AV→Option R)→Option R:=
 bif Nat.beq f 113 then Q0p.via n xs else fun _=>none
theorem Q18.tells {R:Type} (n:Nat):Tells (R:=R) Tryz.prog (Q18.C n):=fun _ xs=>tells_at (Q0p.tells1 n xs) (Tells1.none)
def Q18.cut (r:Nat):Option Keep:=match r with | 2=>some ⟨[],[]⟩ | _=>none
def Q18.t (z:Q18.Z):List Item:=(todoOf (match z with | .z2 _ _ _ _ _ _ _ _ _ _ _ _ _ _ _=>2) 1000 [.code (Tryz.f108.body.getD .skip)]).getD []
def Q18.s:Q18.Z→St
 | .z2 z1 z2 z3 z4 z5 z6 z7 z8 z9 z10 z11 z12 z13 z14 z15=>⟨spr 40 0 [],Mem.ofList [.box 115 [vb z1,vs z2,vs z3,.own 1 0 none,.own 2 0 none,vb z4,vs z5,vs z6,.own 3 0 none,.own 4 0 none,.own 5 0 none,.own 6 0 none,vb z7,.own 7 0 none,vi z8],.row ⟨true,125⟩ 4 z9,.row ⟨true,111⟩ 2 z10,.row ⟨true,9⟩ 1 z11,.row ⟨true,95⟩ 3 z12,.row ⟨true,97⟩ 4 z13,.row ⟨true,111⟩ 2 z14,.row ⟨false,100⟩ 2 z15],8⟩
def Q18.r2 (n:Nat) (c:Q18.Z→Option Q18.T) (z1:Bool) (z2 z3:ByteArray) (z4:Bool) (z5 z6:ByteArray) (z7:Bool) (z8:Int) (z9 z10 z11 z12 z13 z14 z15:List AV):Option Q18.T:=
 some (false,z1,z2,z3,z4,z5,z6,z7,z8,z9,z10,z11,z12,z13,z14,z15)
def Q18.r (n:Nat) (c:Q18.Z→Option Q18.T):Q18.Z→Option Q18.T
 | .z2 z1 z2 z3 z4 z5 z6 z7 z8 z9 z10 z11 z12 z13 z14 z15=>Q18.r2 n c z1 z2 z3 z4 z5 z6 z7 z8 z9 z10 z11 z12 z13 z14 z15
def Q18.e (n:Nat) (c:Q18.Z→Option Q18.T) (a0:List AV) (a1:Bool) (a2 a3:ByteArray) (a4:Bool) (a5 a6:ByteArray) (a7:Bool) (a8:Int) (a9 a10 a11 a12 a13 a14 a15:List AV):Option Q18.T:=
 bif !a1 then (c (.z2 a1 a2 a3 a4 a5 a6 a7 a8 a9 a10 a11 a12 a13 a14 a15)) else (let y1:Bool:=((a0.length:Nat):Int) != 2
 bif y1 then (c (.z2 a1 a2 a3 a4 a5 a6 a7 a8 a9 a10 a11 a12 a13 a14 a15)) else (bif decide ((1:Int) < (a0.length:Nat)) then (withCons ((a0.getD 1 .undef).cells) fun h2 r3=>
 withStr h2 fun s4=>
 (Q0p.F n [vs s4]).bind fun p5=>
 bif !p5 then (c (.z2 a1 a2 a3 a4 a5 a6 a7 a8 a9 a10 a11 a12 a13 a14 a15)) else (bif decide ((1:Int) < (a0.length:Nat)) then (withCons ((a0.getD 1 .undef).cells) fun h6 r7=>
 withStr h6 fun s8=>
 bif decide (a11.length+[vs s8].length≤most) then (some (true,a1,a2,a3,a4,a5,a6,a7,a8,a9,a10,a11++[vs s8],a12,a13,a14,a15)) else none) else none)) else none))
def Q18.E (n:Nat) (c:Q18.Z→Option Q18.T):Q18.A→Option Q18.T:=fun (a0,a1,a2,a3,a4,a5,a6,a7,a8,a9,a10,a11,a12,a13,a14,a15)=>Q18.e n c a0 a1 a2 a3 a4 a5 a6 a7 a8 a9 a10 a11 a12 a13 a14 a15
def Q18.l (n:Nat):Nat→Q18.Z→Option Q18.T:=loopL (Q18.r n)
def Q18.F (n:Nat) (a0:List AV) (a1:Bool) (a2 a3:ByteArray) (a4:Bool) (a5 a6:ByteArray) (a7:Bool) (a8:Int) (a9 a10 a11 a12 a13 a14 a15:List AV):Option Q18.T:=Q18.e n (Q18.l n n) a0 a1 a2 a3 a4 a5 a6 a7 a8 a9 a10 a11 a12 a13 a14 a15
def Q18.FA (n:Nat):Q18.A→Option Q18.T:=Q18.E n (Q18.l n n)
def Q18.nils:List (Nat × Nat × Fl × Nat):=[]
theorem Q18.hands (n:Nat):∀ a p,Q18.FA n a=some p→HandsMIn Tryz.prog 108 (Q18.i a) (Q18.b a) (Q18.y p) (Q18.w p):=
 pfM_hands (G:=Gk 1) (C:=Q18.C n) (cut:=Q18.cut) (t:=Q18.t) (s:=Q18.s) (nils:=Q18.nils) (e:=Q18.E n) (r:=Q18.r n) (n:=n) (cfg.kb 1) mixed globs Q18.qi (fun a=>by kernel_rfl) (Q18.tells n) Tryz.func108 (by kernel_rfl) (by kernel_rfl) (fun rec a=>by kernel_rfl) (fun rec z=>by cases z <;> kernel_rfl)
def Q18.via {R:Type} (n:Nat):List AV→(AV→Option R)→Option R:=viaK (Q18.FA n) Q18.o Q18.p
theorem Q18.tells1 {R:Type} (n:Nat) (xs:List AV):Tells1 (R:=R) Tryz.prog 108 xs (Q18.via n xs):=tells_viaM (fun _=>rfl) Q18.oi (Q18.hands n) xs
end Go.Proofs.YtmpglmcjoelciaaGreatDoor.Ev
namespace Go.Proofs.YtmpglmcjoelciaaGreatDoor.Ev
open Go Go.Proofs Go.Proofs.Ev
set_option linter.unusedVariables false
set_option maxRecDepth 100000
abbrev Q40.A:=ByteArray × Int
abbrev Q40.T:=Bool
def Q40.i:Q40.A→List AV:=fun (a0,a1)=>[vs a0,vi a1]
def Q40.o (xs:List AV):Option Q40.A:=match xs with | [.v (.string a0),.v (.int .i64 a1)]=>some (a0,a1) | _=>none
theorem Q40.oi:∀ xs a,Q40.o xs=some a→xs=Q40.i a:=by
 intro xs a h
 unfold Q40.o at h
 split at h
 ·cases h; rfl
 ·cases h
def Q40.p (p:Q40.T):AV:=vb p
def Q40.q (x:AV):Option Q40.T:=match x with | .v (.bool p0)=>some p0 | _=>none
theorem Q40.qi:∀ x p,Q40.q x=some p→x=Q40.p p:=by
 intro x p h
 unfold Q40.q at h
 split at h
 ·cases h; rfl
 ·cases h
def Q40.C {R:Type} (n:Nat) (f:FuncId) (xs:List AV):(AV→Option R)→Option R:=
 fun _=>none
theorem Q40.tells {R:Type} (n:Nat):Tells (R:=R) Tryz.prog (Q40.C n):=fun _ xs=>Tells1.none
def Q40.cut (r:Nat):Option Keep:=match r with  | _=>none
def Q40.e (n:Nat) (a0:ByteArray) (a1:Int):Option Bool:=
 let y1:Bool:=decide (a1 < ((a0.size:Nat):Int))
 bif y1 then (bif decide ((0:Int)≤a1)&&decide (a1 < ((a0.size:Nat):Int)) then (let y2:Int:=(((a0.data.getD ((a1).toNat) 0).toNat:Nat):Int)
 bif decide ((48:Int)≤y2) then (bif decide ((0:Int)≤a1)&&decide (a1 < ((a0.size:Nat):Int)) then (let y3:Int:=(((a0.data.getD ((a1).toNat) 0).toNat:Nat):Int)
 some (decide (y3≤57))) else none) else (some false)) else none) else (some false)
def Q40.E (n:Nat):Q40.A→Option Q40.T:=fun (a0,a1)=>Q40.e n a0 a1
def Q40.F (n:Nat) (a0:ByteArray) (a1:Int):Option Bool:=Q40.e n a0 a1
def Q40.FA (n:Nat):Q40.A→Option Q40.T:=Q40.E n
theorem Q40.hands (n:Nat):∀ a p,Q40.FA n a=some p→HandsIn Tryz.prog 214 (Q40.i a) (Q40.p p):=
 pf_hands (C:=Q40.C n) (cut:=Q40.cut) (Z:=Empty) (t:=nofun) (s:=nofun) (e:=fun _=>Q40.E n) (r:=fun _ z=>nomatch z) (n:=n) cfg mixed globs rfl Q40.qi (Q40.tells n) Tryz.func214 (by kernel_rfl) (by kernel_rfl) (fun rec a=>by kernel_rfl) (fun rec z=>nomatch z)
def Q40.via {R:Type} (n:Nat):List AV→(AV→Option R)→Option R:=viaK (Q40.FA n) Q40.o Q40.p
theorem Q40.tells1 {R:Type} (n:Nat) (xs:List AV):Tells1 (R:=R) Tryz.prog 214 xs (Q40.via n xs):=tells_via Q40.oi (fun a=>by kernel_rfl) (Q40.hands n) xs
end Go.Proofs.YtmpglmcjoelciaaGreatDoor.Ev
namespace Go.Proofs.YtmpglmcjoelciaaGreatDoor.Ev
open Go Go.Proofs Go.Proofs.Ev
set_option linter.unusedVariables false
set_option maxRecDepth 100000
abbrev Q43.A:=ByteArray × Int
abbrev Q43.T:=Int × Int
def Q43.i:Q43.A→List AV:=fun (a0,a1)=>[vs a0,vi a1]
def Q43.o (xs:List AV):Option Q43.A:=match xs with | [.v (.string a0),.v (.int .i64 a1)]=>some (a0,a1) | _=>none
theorem Q43.oi:∀ xs a,Q43.o xs=some a→xs=Q43.i a:=by
 intro xs a h
 unfold Q43.o at h
 split at h
 ·cases h; rfl
 ·cases h
def Q43.p (p:Q43.T):AV:=.tup [vi p.1,vi p.2]
def Q43.q (x:AV):Option Q43.T:=match x with | .tup [.v (.int .i64 p0),.v (.int .i64 p1)]=>some (p0,p1) | _=>none
theorem Q43.qi:∀ x p,Q43.q x=some p→x=Q43.p p:=by
 intro x p h
 unfold Q43.q at h
 split at h
 ·cases h; rfl
 ·cases h
inductive Q43.Z where
 | z5 (z1:ByteArray) (z2:Int)
def Q43.C {R:Type} (n:Nat) (f:FuncId) (xs:List AV):(AV→Option R)→Option R:=
 bif Nat.beq f 214 then Q40.via n xs else fun _=>none
theorem Q43.tells {R:Type} (n:Nat):Tells (R:=R) Tryz.prog (Q43.C n):=fun _ xs=>tells_at (Q40.tells1 n xs) (Tells1.none)
def Q43.cut (r:Nat):Option Keep:=match r with | 5=>some ⟨[0,1],[]⟩ | _=>none
def Q43.t (z:Q43.Z):List Item:=(todoOf (match z with | .z5 _ _=>5) 1000 [.code (Tryz.f201.body.getD .skip)]).getD []
def Q43.s:Q43.Z→St
 | .z5 z1 z2=>⟨spr 22 0 [(0,vs z1),(1,vi z2)],Mem.ofList [],0⟩
def Q43.r5 (n:Nat) (c:Q43.Z→Option (Int × Int)) (z1:ByteArray) (z2:Int):Option (Int × Int):=
 (Q40.F n z1 z2).bind fun p3=>
 bif p3 then (c (.z5 z1 (IntKind.i64.wrap (z2+1)))) else (some (z2,0))
def Q43.r (n:Nat) (c:Q43.Z→Option (Int × Int)):Q43.Z→Option (Int × Int)
 | .z5 z1 z2=>Q43.r5 n c z1 z2
def Q43.e (n:Nat) (c:Q43.Z→Option (Int × Int)) (a0:ByteArray) (a1:Int):Option (Int × Int):=
 (Q40.F n a0 a1).bind fun p1=>
 bif !p1 then (let y2:Bool:=decide (a1 < ((a0.size:Nat):Int))
 bif y2 then (some (a1,8)) else (some (a1,9))) else (c (.z5 a0 a1))
def Q43.E (n:Nat) (c:Q43.Z→Option (Int × Int)):Q43.A→Option Q43.T:=fun (a0,a1)=>Q43.e n c a0 a1
def Q43.l (n:Nat):Nat→Q43.Z→Option (Int × Int):=loopL (Q43.r n)
def Q43.F (n:Nat) (a0:ByteArray) (a1:Int):Option (Int × Int):=Q43.e n (Q43.l n n) a0 a1
def Q43.FA (n:Nat):Q43.A→Option Q43.T:=Q43.E n (Q43.l n n)
theorem Q43.hands (n:Nat):∀ a p,Q43.FA n a=some p→HandsIn Tryz.prog 201 (Q43.i a) (Q43.p p):=
 pf_hands (C:=Q43.C n) (cut:=Q43.cut) (t:=Q43.t) (s:=Q43.s) (e:=Q43.E n) (r:=Q43.r n) (n:=n) cfg mixed globs rfl Q43.qi (Q43.tells n) Tryz.func201 (by kernel_rfl) (by kernel_rfl) (fun rec a=>by kernel_rfl) (fun rec z=>by cases z <;> kernel_rfl)
def Q43.via {R:Type} (n:Nat):List AV→(AV→Option R)→Option R:=viaK (Q43.FA n) Q43.o Q43.p
theorem Q43.tells1 {R:Type} (n:Nat) (xs:List AV):Tells1 (R:=R) Tryz.prog 201 xs (Q43.via n xs):=tells_via Q43.oi (fun a=>by kernel_rfl) (Q43.hands n) xs
end Go.Proofs.YtmpglmcjoelciaaGreatDoor.Ev
namespace Go.Proofs.YtmpglmcjoelciaaGreatDoor.Ev
open Go Go.Proofs Go.Proofs.Ev
set_option linter.unusedVariables false
set_option maxRecDepth 100000
abbrev Q41.A:=ByteArray
abbrev Q41.T:=Int × Int × Int
def Q41.i:Q41.A→List AV:=fun a0=>[vs a0]
def Q41.o (xs:List AV):Option Q41.A:=match xs with | [.v (.string a0)]=>some a0 | _=>none
theorem Q41.oi:∀ xs a,Q41.o xs=some a→xs=Q41.i a:=by
 intro xs a h
 unfold Q41.o at h
 split at h
 ·cases h; rfl
 ·cases h
def Q41.p (p:Q41.T):AV:=.tup [vi p.1,vi p.2.1,vi p.2.2]
def Q41.q (x:AV):Option Q41.T:=match x with | .tup [.v (.int .i64 p0),.v (.int .i64 p1),.v (.int .i64 p2)]=>some (p0,p1,p2) | _=>none
theorem Q41.qi:∀ x p,Q41.q x=some p→x=Q41.p p:=by
 intro x p h
 unfold Q41.q at h
 split at h
 ·cases h; rfl
 ·cases h
inductive Q41.Z where
 | z8 (z1:ByteArray) (z2 z3:Int)
 | z15 (z1 z2 z3 z4:Int)
def Q41.C {R:Type} (n:Nat) (f:FuncId) (xs:List AV):(AV→Option R)→Option R:=
 bif Nat.beq f 201 then Q43.via n xs else fun _=>none
theorem Q41.tells {R:Type} (n:Nat):Tells (R:=R) Tryz.prog (Q41.C n):=fun _ xs=>tells_at (Q43.tells1 n xs) (Tells1.none)
def Q41.cut (r:Nat):Option Keep:=match r with | 8=>some ⟨[0,2,3],[]⟩ | 15=>some ⟨[2,3,4,5],[]⟩ | _=>none
def Q41.t (z:Q41.Z):List Item:=(todoOf (match z with | .z8 _ _ _=>8 | .z15 _ _ _ _=>15) 1000 [.code (Tryz.f183.body.getD .skip)]).getD []
def Q41.s:Q41.Z→St
 | .z8 z1 z2 z3=>⟨spr 63 0 [(0,vs z1),(2,vi z2),(3,vi z3)],Mem.ofList [],0⟩
 | .z15 z1 z2 z3 z4=>⟨spr 63 0 [(2,vi z1),(3,vi z2),(4,vi z3),(5,vi z4)],Mem.ofList [],0⟩
def Q41.r8 (n:Nat) (c:Q41.Z→Option (Int × Int × Int)) (z1:ByteArray) (z2 z3:Int):Option (Int × Int × Int):=
 let y10:Bool:=z3==((z1.size:Nat):Int)
 bif y10 then (some (z2,z3,0)) else (bif decide ((0:Int)≤z3)&&decide (z3 < ((z1.size:Nat):Int)) then (let y11:Int:=(((z1.data.getD ((z3).toNat) 0).toNat:Nat):Int)
 bif y11 != 46 then (some (0,z3,8)) else ((Q43.F n z1 (IntKind.i64.wrap (z3+1))).bind fun p12=>
 bif p12.2==0 then (let y13:Bool:=decide (p12.1 < ((z1.size:Nat):Int))
 bif y13 then (c (.z15 z2 z3 8 p12.1)) else (c (.z15 z2 z3 p12.2 p12.1))) else (c (.z15 z2 z3 p12.2 p12.1)))) else none)
def Q41.r15 (n:Nat) (c:Q41.Z→Option (Int × Int × Int)) (z1 z2 z3 z4:Int):Option (Int × Int × Int):=
 bif z3 != 0 then (some (0,z4,z3)) else (some (z1,z2,0))
def Q41.r (n:Nat) (c:Q41.Z→Option (Int × Int × Int)):Q41.Z→Option (Int × Int × Int)
 | .z8 z1 z2 z3=>Q41.r8 n c z1 z2 z3
 | .z15 z1 z2 z3 z4=>Q41.r15 n c z1 z2 z3 z4
def Q41.e (n:Nat) (c:Q41.Z→Option (Int × Int × Int)) (a0:ByteArray):Option (Int × Int × Int):=
 bif decide ((0:Int) < (a0.size:Nat)) then (let y1:Int:=(((a0.data.getD 0 0).toNat:Nat):Int)
 bif y1==45 then ((Q43.F n a0 1).bind fun p2=>
 bif p2.2 != 0 then (some (0,p2.1,p2.2)) else (bif decide ((1:Int) < (a0.size:Nat)) then (let y3:Int:=(((a0.data.getD 1 0).toNat:Nat):Int)
 bif y3==48 then (let y4:Int:=IntKind.i64.wrap ((1:Int)+1)
 bif decide (p2.1 > y4) then (let y5:Int:=IntKind.i64.wrap ((1:Int)+1)
 some (0,y5,8)) else (c (.z8 a0 1 p2.1))) else (c (.z8 a0 1 p2.1))) else none)) else ((Q43.F n a0 0).bind fun p6=>
 bif p6.2 != 0 then (some (0,p6.1,p6.2)) else (bif decide ((0:Int) < (a0.size:Nat)) then (let y7:Int:=(((a0.data.getD 0 0).toNat:Nat):Int)
 bif y7==48 then (let y8:Int:=IntKind.i64.wrap ((0:Int)+1)
 bif decide (p6.1 > y8) then (let y9:Int:=IntKind.i64.wrap ((0:Int)+1)
 some (0,y9,8)) else (c (.z8 a0 0 p6.1))) else (c (.z8 a0 0 p6.1))) else none))) else none
def Q41.E (n:Nat) (c:Q41.Z→Option (Int × Int × Int)):Q41.A→Option Q41.T:=fun a0=>Q41.e n c a0
def Q41.l (n:Nat):Nat→Q41.Z→Option (Int × Int × Int):=loopL (Q41.r n)
def Q41.F (n:Nat) (a0:ByteArray):Option (Int × Int × Int):=Q41.e n (Q41.l n n) a0
def Q41.FA (n:Nat):Q41.A→Option Q41.T:=Q41.E n (Q41.l n n)
theorem Q41.hands (n:Nat):∀ a p,Q41.FA n a=some p→HandsIn Tryz.prog 183 (Q41.i a) (Q41.p p):=
 pf_hands (C:=Q41.C n) (cut:=Q41.cut) (t:=Q41.t) (s:=Q41.s) (e:=Q41.E n) (r:=Q41.r n) (n:=n) cfg mixed globs rfl Q41.qi (Q41.tells n) Tryz.func183 (by kernel_rfl) (by kernel_rfl) (fun rec a=>by kernel_rfl) (fun rec z=>by cases z <;> kernel_rfl)
def Q41.via {R:Type} (n:Nat):List AV→(AV→Option R)→Option R:=viaK (Q41.FA n) Q41.o Q41.p
theorem Q41.tells1 {R:Type} (n:Nat) (xs:List AV):Tells1 (R:=R) Tryz.prog 183 xs (Q41.via n xs):=tells_via Q41.oi (fun a=>by kernel_rfl) (Q41.hands n) xs
end Go.Proofs.YtmpglmcjoelciaaGreatDoor.Ev
namespace Go.Proofs.YtmpglmcjoelciaaGreatDoor.Ev
open Go Go.Proofs Go.Proofs.Ev
set_option linter.unusedVariables false
set_option maxRecDepth 100000
abbrev Q3v.A:=ByteArray
abbrev Q3v.T:=Int × Int × Int × Int
def Q3v.i:Q3v.A→List AV:=fun a0=>[vs a0]
def Q3v.o (xs:List AV):Option Q3v.A:=match xs with | [.v (.string a0)]=>some a0 | _=>none
theorem Q3v.oi:∀ xs a,Q3v.o xs=some a→xs=Q3v.i a:=by
 intro xs a h
 unfold Q3v.o at h
 split at h
 ·cases h; rfl
 ·cases h
def Q3v.p (p:Q3v.T):AV:=.tup [AV.agg [vi p.1,vi p.2.1],vi p.2.2.1,vi p.2.2.2]
def Q3v.q (x:AV):Option Q3v.T:=match x with | .tup [.agg [.v (.int .i64 p0),.v (.int .i64 p1)],.v (.int .i64 p2),.v (.int .i64 p3)]=>some (p0,p1,p2,p3) | _=>none
theorem Q3v.qi:∀ x p,Q3v.q x=some p→x=Q3v.p p:=by
 intro x p h
 unfold Q3v.q at h
 split at h
 ·cases h; rfl
 ·cases h
inductive Q3v.Z where
 | z13 (z1:ByteArray) (z2:Int) (z3:ByteArray) (z4 z5 z6 z7 z8:Int) (z9:List AV)
def Q3v.C {R:Type} (n:Nat) (f:FuncId) (xs:List AV):(AV→Option R)→Option R:=
 bif Nat.beq f 128 then Q3y.via n xs else bif Nat.beq f 129 then Q3x.via n xs else bif Nat.beq f 183 then Q41.via n xs else bif Nat.beq f 184 then Q4g.via n xs else bif Nat.beq f 185 then Q4k.via n xs else fun _=>none
theorem Q3v.tells {R:Type} (n:Nat):Tells (R:=R) Tryz.prog (Q3v.C n):=fun _ xs=>tells_at (Q3y.tells1 n xs) (tells_at (Q3x.tells1 n xs) (tells_at (Q41.tells1 n xs) (tells_at (Q4g.tells1 n xs) (tells_at (Q4k.tells1 n xs) (Tells1.none)))))
def Q3v.cut (r:Nat):Option Keep:=match r with | 13=>some ⟨[0,2,6,10,13,57,58,59],[]⟩ | _=>none
def Q3v.t (z:Q3v.Z):List Item:=(todoOf (match z with | .z13 _ _ _ _ _ _ _ _ _=>13) 1000 [.code (Tryz.f166.body.getD .skip)]).getD []
def Q3v.s:Q3v.Z→St
 | .z13 z1 z2 z3 z4 z5 z6 z7 z8 z9=>⟨spr 80 0 [(0,vs z1),(2,.ptr 0 0),(6,vi z2),(10,vs z3),(13,vi z4),(57,.own 1 0 none),(58,vi z5),(59,vi z6)],Mem.ofList [.box 191 [vi z7,vi z8],.row ⟨true,5⟩ 1 z9],2⟩
def Q3v.r13 (n:Nat) (c:Q3v.Z→Option (Int × Int × Int × Int)) (z1:ByteArray) (z2:Int) (z3:ByteArray) (z4 z5 z6 z7 z8:Int) (z9:List AV):Option (Int × Int × Int × Int):=
 bif decide (z6 < z5) then (bif decide ((0:Int)≤z6)&&decide (z6 < ((z9.length:Nat):Int)) then (withCons ((z9.getD ((z6).toNat) .undef).cells) fun h12 r13=>
 withInt .u8 h12 fun x14=>
 let y15:Int:=IntKind.i64.wrap (IntKind.u8.wrap (x14 - 48))
 let y16:Int:=IntKind.i64.wrap ((IntKind.i64.wrap (z4*10))+y15)
 c (.z13 z1 z2 z3 y16 z5 (IntKind.i64.wrap (z6+1)) z7 z8 z9)) else none) else (bif z2==1 then (some (IntKind.i64.wrap (0 - z4),((z3.size:Nat):Int),((z1.size:Nat):Int),0)) else (some (z4,((z3.size:Nat):Int),((z1.size:Nat):Int),0)))
def Q3v.r (n:Nat) (c:Q3v.Z→Option (Int × Int × Int × Int)):Q3v.Z→Option (Int × Int × Int × Int)
 | .z13 z1 z2 z3 z4 z5 z6 z7 z8 z9=>Q3v.r13 n c z1 z2 z3 z4 z5 z6 z7 z8 z9
def Q3v.e (n:Nat) (c:Q3v.Z→Option (Int × Int × Int × Int)) (a0:ByteArray):Option (Int × Int × Int × Int):=
 let y1:Bool:=decide (((a0.size:Nat):Int) > 40)
 (Q3x.F n y1 2).bind fun p2=>
 let y3:Bool:=a0.toList==(⟨#[]⟩ : ByteArray).toList
 (Q3x.F n y3 1).bind fun p4=>
 (Q3y.F n [vi p2,vi p4]).bind fun p5=>
 bif p5 != 0 then (some (0,0,0,p5)) else ((Q41.F n a0).bind fun p6=>
 bif p6.2.2 != 0 then (some (0,0,p6.2.1,p6.2.2)) else (bif decide ((0:Int)≤p6.1)&&decide ((p6.1:Int)≤((a0.size:Nat):Int)) then (let y7:ByteArray:=a0.extract (p6.1).toNat a0.size
 (Q4g.F n y7 (⟨#[46]⟩ : ByteArray)).bind fun p8=>
 (Q4k.F n p8.1 (⟨#[48]⟩ : ByteArray)).bind fun p9=>
 chk (decide (p9.size+p8.2.1.size≤9223372036854775807)) (let y10:Bool:=decide ((((p9++p8.2.1).size:Nat):Int) > 15)
 bif y10 then (some (0,0,0,19)) else (let y11:List AV:=(p9++p8.2.1).toList.map fun b=>vu b.toNat
 c (.z13 a0 p6.1 p8.2.1 0 ((y11.length:Nat):Int) 0 0 0 y11)))) else none))
def Q3v.E (n:Nat) (c:Q3v.Z→Option (Int × Int × Int × Int)):Q3v.A→Option Q3v.T:=fun a0=>Q3v.e n c a0
def Q3v.l (n:Nat):Nat→Q3v.Z→Option (Int × Int × Int × Int):=loopL (Q3v.r n)
def Q3v.F (n:Nat) (a0:ByteArray):Option (Int × Int × Int × Int):=Q3v.e n (Q3v.l n n) a0
def Q3v.FA (n:Nat):Q3v.A→Option Q3v.T:=Q3v.E n (Q3v.l n n)
theorem Q3v.hands (n:Nat):∀ a p,Q3v.FA n a=some p→HandsIn Tryz.prog 166 (Q3v.i a) (Q3v.p p):=
 pf_hands (C:=Q3v.C n) (cut:=Q3v.cut) (t:=Q3v.t) (s:=Q3v.s) (e:=Q3v.E n) (r:=Q3v.r n) (n:=n) cfg mixed globs rfl Q3v.qi (Q3v.tells n) Tryz.func166 (by kernel_rfl) (by kernel_rfl) (fun rec a=>by kernel_rfl) (fun rec z=>by cases z <;> kernel_rfl)
def Q3v.via {R:Type} (n:Nat):List AV→(AV→Option R)→Option R:=viaK (Q3v.FA n) Q3v.o Q3v.p
theorem Q3v.tells1 {R:Type} (n:Nat) (xs:List AV):Tells1 (R:=R) Tryz.prog 166 xs (Q3v.via n xs):=tells_via Q3v.oi (fun a=>by kernel_rfl) (Q3v.hands n) xs
end Go.Proofs.YtmpglmcjoelciaaGreatDoor.Ev
namespace Go.Proofs.YtmpglmcjoelciaaGreatDoor.Ev
open Go Go.Proofs Go.Proofs.Ev
set_option linter.unusedVariables false
set_option maxRecDepth 100000
abbrev Q1m.A:=ByteArray
abbrev Q1m.T:=Int × Bool
def Q1m.i:Q1m.A→List AV:=fun a0=>[vs a0]
def Q1m.o (xs:List AV):Option Q1m.A:=match xs with | [.v (.string a0)]=>some a0 | _=>none
theorem Q1m.oi:∀ xs a,Q1m.o xs=some a→xs=Q1m.i a:=by
 intro xs a h
 unfold Q1m.o at h
 split at h
 ·cases h; rfl
 ·cases h
def Q1m.p (p:Q1m.T):AV:=.tup [vi p.1,vb p.2]
def Q1m.q (x:AV):Option Q1m.T:=match x with | .tup [.v (.int .i64 p0),.v (.bool p1)]=>some (p0,p1) | _=>none
theorem Q1m.qi:∀ x p,Q1m.q x=some p→x=Q1m.p p:=by
 intro x p h
 unfold Q1m.q at h
 split at h
 ·cases h; rfl
 ·cases h
def Q1m.C {R:Type} (n:Nat) (f:FuncId) (xs:List AV):(AV→Option R)→Option R:=
 bif Nat.beq f 98 then Q4f.via n xs else bif Nat.beq f 166 then Q3v.via n xs else fun _=>none
theorem Q1m.tells {R:Type} (n:Nat):Tells (R:=R) Tryz.prog (Q1m.C n):=fun _ xs=>tells_at (Q4f.tells1 n xs) (tells_at (Q3v.tells1 n xs) (Tells1.none))
def Q1m.cut (r:Nat):Option Keep:=match r with  | _=>none
def Q1m.e (n:Nat) (a0:ByteArray):Option (Int × Bool):=
 (Q3v.F n a0).bind fun p1=>
 bif p1.2.2.2==0 then ((Q4f.F n a0 (⟨#[46]⟩ : ByteArray)).bind fun p2=>
 some (p1.1,!p2)) else (some (p1.1,false))
def Q1m.E (n:Nat):Q1m.A→Option Q1m.T:=fun a0=>Q1m.e n a0
def Q1m.F (n:Nat) (a0:ByteArray):Option (Int × Bool):=Q1m.e n a0
def Q1m.FA (n:Nat):Q1m.A→Option Q1m.T:=Q1m.E n
theorem Q1m.hands (n:Nat):∀ a p,Q1m.FA n a=some p→HandsIn Tryz.prog 147 (Q1m.i a) (Q1m.p p):=
 pf_hands (C:=Q1m.C n) (cut:=Q1m.cut) (Z:=Empty) (t:=nofun) (s:=nofun) (e:=fun _=>Q1m.E n) (r:=fun _ z=>nomatch z) (n:=n) cfg mixed globs rfl Q1m.qi (Q1m.tells n) Tryz.func147 (by kernel_rfl) (by kernel_rfl) (fun rec a=>by kernel_rfl) (fun rec z=>nomatch z)
def Q1m.via {R:Type} (n:Nat):List AV→(AV→Option R)→Option R:=viaK (Q1m.FA n) Q1m.o Q1m.p
theorem Q1m.tells1 {R:Type} (n:Nat) (xs:List AV):Tells1 (R:=R) Tryz.prog 147 xs (Q1m.via n xs):=tells_via Q1m.oi (fun a=>by kernel_rfl) (Q1m.hands n) xs
end Go.Proofs.YtmpglmcjoelciaaGreatDoor.Ev
namespace Go.Proofs.YtmpglmcjoelciaaGreatDoor.Ev
open Go Go.Proofs Go.Proofs.Ev
set_option linter.unusedVariables false
set_option maxRecDepth 100000
abbrev Q1c.A:=List AV × Bool × ByteArray × ByteArray × Bool × ByteArray × ByteArray × Bool × Int × List AV × List AV × List AV × List AV × List AV × List AV × List AV
abbrev Q1c.T:=Bool × Bool × ByteArray × ByteArray × Bool × ByteArray × ByteArray × Bool × Int × List AV × List AV × List AV × List AV × List AV × List AV × List AV
def Q1c.i:Q1c.A→List AV:=fun (a0,a1,a2,a3,a4,a5,a6,a7,a8,a9,a10,a11,a12,a13,a14,a15)=>[.ptr 0 0,.sl ⟨true,9⟩ 1 a0]
def Q1c.b:Q1c.A→List AV:=fun (a0,a1,a2,a3,a4,a5,a6,a7,a8,a9,a10,a11,a12,a13,a14,a15)=>[.fn 115 [vb a1,vs a2,vs a3,.own 1 0 none,.own 2 0 none,vb a4,vs a5,vs a6,.own 3 0 none,.own 4 0 none,.own 5 0 none,.own 6 0 none,vb a7,.own 7 0 none,vi a8],.fr ⟨true,125⟩ 4 a9,.fr ⟨true,111⟩ 2 a10,.fr ⟨true,9⟩ 1 a11,.fr ⟨true,95⟩ 3 a12,.fr ⟨true,97⟩ 4 a13,.fr ⟨true,111⟩ 2 a14,.fr ⟨false,100⟩ 2 a15]
def Q1c.o (xs:List AV):Option Q1c.A:=match xs with | [.ptr 0 0,.sl ⟨true,9⟩ 1 a0,.tup [.fn 115 [.v (.bool a1),.v (.string a2),.v (.string a3),.own 1 0 none,.own 2 0 none,.v (.bool a4),.v (.string a5),.v (.string a6),.own 3 0 none,.own 4 0 none,.own 5 0 none,.own 6 0 none,.v (.bool a7),.own 7 0 none,.v (.int .i64 a8)],.fr ⟨true,125⟩ 4 a9,.fr ⟨true,111⟩ 2 a10,.fr ⟨true,9⟩ 1 a11,.fr ⟨true,95⟩ 3 a12,.fr ⟨true,97⟩ 4 a13,.fr ⟨true,111⟩ 2 a14,.fr ⟨false,100⟩ 2 a15]]=>some (a0,a1,a2,a3,a4,a5,a6,a7,a8,a9,a10,a11,a12,a13,a14,a15) | _=>none
theorem Q1c.oi:∀ xs a,Q1c.o xs=some a→xs=Q1c.i a++[.tup (Q1c.b a)]:=by
 intro xs a h
 unfold Q1c.o at h
 split at h
 ·cases h; rfl
 ·cases h
def Q1c.y (p:Q1c.T):AV:=vb p.1
def Q1c.w (p:Q1c.T):List AV:=[.fn 115 [vb p.2.1,vs p.2.2.1,vs p.2.2.2.1,.own 1 0 none,.own 2 0 none,vb p.2.2.2.2.1,vs p.2.2.2.2.2.1,vs p.2.2.2.2.2.2.1,.own 3 0 none,.own 4 0 none,.own 5 0 none,.own 6 0 none,vb p.2.2.2.2.2.2.2.1,.own 7 0 none,vi p.2.2.2.2.2.2.2.2.1],.fr ⟨true,125⟩ 4 p.2.2.2.2.2.2.2.2.2.1,.fr ⟨true,111⟩ 2 p.2.2.2.2.2.2.2.2.2.2.1,.fr ⟨true,9⟩ 1 p.2.2.2.2.2.2.2.2.2.2.2.1,.fr ⟨true,95⟩ 3 p.2.2.2.2.2.2.2.2.2.2.2.2.1,.fr ⟨true,97⟩ 4 p.2.2.2.2.2.2.2.2.2.2.2.2.2.1,.fr ⟨true,111⟩ 2 p.2.2.2.2.2.2.2.2.2.2.2.2.2.2.1,.fr ⟨false,100⟩ 2 p.2.2.2.2.2.2.2.2.2.2.2.2.2.2.2]
def Q1c.p (p:Q1c.T):AV:=.tup [Q1c.y p,.tup (Q1c.w p)]
def Q1c.q (x:AV):Option Q1c.T:=match x with | .tup [.v (.bool p0),.tup [.fn 115 [.v (.bool p1),.v (.string p2),.v (.string p3),.own 1 0 none,.own 2 0 none,.v (.bool p4),.v (.string p5),.v (.string p6),.own 3 0 none,.own 4 0 none,.own 5 0 none,.own 6 0 none,.v (.bool p7),.own 7 0 none,.v (.int .i64 p8)],.fr ⟨true,125⟩ 4 p9,.fr ⟨true,111⟩ 2 p10,.fr ⟨true,9⟩ 1 p11,.fr ⟨true,95⟩ 3 p12,.fr ⟨true,97⟩ 4 p13,.fr ⟨true,111⟩ 2 p14,.fr ⟨false,100⟩ 2 p15]]=>some (p0,p1,p2,p3,p4,p5,p6,p7,p8,p9,p10,p11,p12,p13,p14,p15) | _=>none
theorem Q1c.qi:∀ x p,Q1c.q x=some p→x=Q1c.p p:=by
 intro x p h
 unfold Q1c.q at h
 split at h
 ·cases h; rfl
 ·cases h
inductive Q1c.Z where
 | z2 (z1:Bool) (z2 z3:ByteArray) (z4:Bool) (z5 z6:ByteArray) (z7:Bool) (z8:Int) (z9 z10 z11 z12 z13 z14 z15:List AV)
def Q1c.C {R:Type} (n:Nat) (f:FuncId) (xs:List AV):(AV→Option R)→Option R:=
 bif Nat.beq f 113 then Q0p.via n xs else bif Nat.beq f 147 then Q1m.via n xs else fun _=>none
theorem Q1c.tells {R:Type} (n:Nat):Tells (R:=R) Tryz.prog (Q1c.C n):=fun _ xs=>tells_at (Q0p.tells1 n xs) (tells_at (Q1m.tells1 n xs) (Tells1.none))
def Q1c.cut (r:Nat):Option Keep:=match r with | 2=>some ⟨[],[]⟩ | _=>none
def Q1c.t (z:Q1c.Z):List Item:=(todoOf (match z with | .z2 _ _ _ _ _ _ _ _ _ _ _ _ _ _ _=>2) 1000 [.code (Tryz.f109.body.getD .skip)]).getD []
def Q1c.s:Q1c.Z→St
 | .z2 z1 z2 z3 z4 z5 z6 z7 z8 z9 z10 z11 z12 z13 z14 z15=>⟨spr 71 0 [],Mem.ofList [.box 115 [vb z1,vs z2,vs z3,.own 1 0 none,.own 2 0 none,vb z4,vs z5,vs z6,.own 3 0 none,.own 4 0 none,.own 5 0 none,.own 6 0 none,vb z7,.own 7 0 none,vi z8],.row ⟨true,125⟩ 4 z9,.row ⟨true,111⟩ 2 z10,.row ⟨true,9⟩ 1 z11,.row ⟨true,95⟩ 3 z12,.row ⟨true,97⟩ 4 z13,.row ⟨true,111⟩ 2 z14,.row ⟨false,100⟩ 2 z15],8⟩
def Q1c.r2 (n:Nat) (c:Q1c.Z→Option Q1c.T) (z1:Bool) (z2 z3:ByteArray) (z4:Bool) (z5 z6:ByteArray) (z7:Bool) (z8:Int) (z9 z10 z11 z12 z13 z14 z15:List AV):Option Q1c.T:=
 some (false,z1,z2,z3,z4,z5,z6,z7,z8,z9,z10,z11,z12,z13,z14,z15)
def Q1c.r (n:Nat) (c:Q1c.Z→Option Q1c.T):Q1c.Z→Option Q1c.T
 | .z2 z1 z2 z3 z4 z5 z6 z7 z8 z9 z10 z11 z12 z13 z14 z15=>Q1c.r2 n c z1 z2 z3 z4 z5 z6 z7 z8 z9 z10 z11 z12 z13 z14 z15
def Q1c.e (n:Nat) (c:Q1c.Z→Option Q1c.T) (a0:List AV) (a1:Bool) (a2 a3:ByteArray) (a4:Bool) (a5 a6:ByteArray) (a7:Bool) (a8:Int) (a9 a10 a11 a12 a13 a14 a15:List AV):Option Q1c.T:=
 bif !a1 then (c (.z2 a1 a2 a3 a4 a5 a6 a7 a8 a9 a10 a11 a12 a13 a14 a15)) else (let y1:Bool:=((a0.length:Nat):Int) != 5
 bif y1 then (c (.z2 a1 a2 a3 a4 a5 a6 a7 a8 a9 a10 a11 a12 a13 a14 a15)) else (bif decide ((2:Int) < (a0.length:Nat)) then (withCons ((a0.getD 2 .undef).cells) fun h2 r3=>
 withStr h2 fun s4=>
 bif decide ((4:Int) < (a0.length:Nat)) then (withCons ((a0.getD 4 .undef).cells) fun h5 r6=>
 withStr h5 fun s7=>
 (Q0p.F n [vs s4,vs s7]).bind fun p8=>
 bif !p8 then (c (.z2 a1 a2 a3 a4 a5 a6 a7 a8 a9 a10 a11 a12 a13 a14 a15)) else (bif decide ((1:Int) < (a0.length:Nat)) then (withCons ((a0.getD 1 .undef).cells) fun h9 r10=>
 withStr h9 fun s11=>
 (Q1m.F n s11).bind fun p12=>
 bif decide ((3:Int) < (a0.length:Nat)) then (withCons ((a0.getD 3 .undef).cells) fun h13 r14=>
 withStr h13 fun s15=>
 (Q1m.F n s15).bind fun p16=>
 bif decide ((2:Int) < (a0.length:Nat)) then (withCons ((a0.getD 2 .undef).cells) fun h17 r18=>
 withStr h17 fun s19=>
 bif decide ((4:Int) < (a0.length:Nat)) then (withCons ((a0.getD 4 .undef).cells) fun h20 r21=>
 withStr h20 fun s22=>
 let y23:List AV:=[AV.agg [vi p12.1,vs s19,vi p16.1,vs s22]]
 bif decide (a13.length+y23.length≤most) then (bif p12.2 then (some (p16.2,a1,a2,a3,a4,a5,a6,a7,a8,a9,a10,a11,a12,a13++y23,a14,a15)) else (some (false,a1,a2,a3,a4,a5,a6,a7,a8,a9,a10,a11,a12,a13++y23,a14,a15))) else none) else none) else none) else none) else none)) else none) else none))
def Q1c.E (n:Nat) (c:Q1c.Z→Option Q1c.T):Q1c.A→Option Q1c.T:=fun (a0,a1,a2,a3,a4,a5,a6,a7,a8,a9,a10,a11,a12,a13,a14,a15)=>Q1c.e n c a0 a1 a2 a3 a4 a5 a6 a7 a8 a9 a10 a11 a12 a13 a14 a15
def Q1c.l (n:Nat):Nat→Q1c.Z→Option Q1c.T:=loopL (Q1c.r n)
def Q1c.F (n:Nat) (a0:List AV) (a1:Bool) (a2 a3:ByteArray) (a4:Bool) (a5 a6:ByteArray) (a7:Bool) (a8:Int) (a9 a10 a11 a12 a13 a14 a15:List AV):Option Q1c.T:=Q1c.e n (Q1c.l n n) a0 a1 a2 a3 a4 a5 a6 a7 a8 a9 a10 a11 a12 a13 a14 a15
def Q1c.FA (n:Nat):Q1c.A→Option Q1c.T:=Q1c.E n (Q1c.l n n)
def Q1c.nils:List (Nat × Nat × Fl × Nat):=[]
theorem Q1c.hands (n:Nat):∀ a p,Q1c.FA n a=some p→HandsMIn Tryz.prog 109 (Q1c.i a) (Q1c.b a) (Q1c.y p) (Q1c.w p):=
 pfM_hands (G:=Gk 1) (C:=Q1c.C n) (cut:=Q1c.cut) (t:=Q1c.t) (s:=Q1c.s) (nils:=Q1c.nils) (e:=Q1c.E n) (r:=Q1c.r n) (n:=n) (cfg.kb 1) mixed globs Q1c.qi (fun a=>by kernel_rfl) (Q1c.tells n) Tryz.func109 (by kernel_rfl) (by kernel_rfl) (fun rec a=>by kernel_rfl) (fun rec z=>by cases z <;> kernel_rfl)
def Q1c.via {R:Type} (n:Nat):List AV→(AV→Option R)→Option R:=viaK (Q1c.FA n) Q1c.o Q1c.p
theorem Q1c.tells1 {R:Type} (n:Nat) (xs:List AV):Tells1 (R:=R) Tryz.prog 109 xs (Q1c.via n xs):=tells_viaM (fun _=>rfl) Q1c.oi (Q1c.hands n) xs
end Go.Proofs.YtmpglmcjoelciaaGreatDoor.Ev
namespace Go.Proofs.YtmpglmcjoelciaaGreatDoor.Ev
open Go Go.Proofs Go.Proofs.Ev
set_option linter.unusedVariables false
set_option maxRecDepth 100000
abbrev Q19.A:=List AV × Bool × ByteArray × ByteArray × Bool × ByteArray × ByteArray × Bool × Int × List AV × List AV × List AV × List AV × List AV × List AV × List AV
abbrev Q19.T:=Bool × Bool × ByteArray × ByteArray × Bool × ByteArray × ByteArray × Bool × Int × List AV × List AV × List AV × List AV × List AV × List AV × List AV
def Q19.i:Q19.A→List AV:=fun (a0,a1,a2,a3,a4,a5,a6,a7,a8,a9,a10,a11,a12,a13,a14,a15)=>[.ptr 0 0,.sl ⟨true,9⟩ 1 a0]
def Q19.b:Q19.A→List AV:=fun (a0,a1,a2,a3,a4,a5,a6,a7,a8,a9,a10,a11,a12,a13,a14,a15)=>[.fn 115 [vb a1,vs a2,vs a3,.own 1 0 none,.own 2 0 none,vb a4,vs a5,vs a6,.own 3 0 none,.own 4 0 none,.own 5 0 none,.own 6 0 none,vb a7,.own 7 0 none,vi a8],.fr ⟨true,125⟩ 4 a9,.fr ⟨true,111⟩ 2 a10,.fr ⟨true,9⟩ 1 a11,.fr ⟨true,95⟩ 3 a12,.fr ⟨true,97⟩ 4 a13,.fr ⟨true,111⟩ 2 a14,.fr ⟨false,100⟩ 2 a15]
def Q19.o (xs:List AV):Option Q19.A:=match xs with | [.ptr 0 0,.sl ⟨true,9⟩ 1 a0,.tup [.fn 115 [.v (.bool a1),.v (.string a2),.v (.string a3),.own 1 0 none,.own 2 0 none,.v (.bool a4),.v (.string a5),.v (.string a6),.own 3 0 none,.own 4 0 none,.own 5 0 none,.own 6 0 none,.v (.bool a7),.own 7 0 none,.v (.int .i64 a8)],.fr ⟨true,125⟩ 4 a9,.fr ⟨true,111⟩ 2 a10,.fr ⟨true,9⟩ 1 a11,.fr ⟨true,95⟩ 3 a12,.fr ⟨true,97⟩ 4 a13,.fr ⟨true,111⟩ 2 a14,.fr ⟨false,100⟩ 2 a15]]=>some (a0,a1,a2,a3,a4,a5,a6,a7,a8,a9,a10,a11,a12,a13,a14,a15) | _=>none
theorem Q19.oi:∀ xs a,Q19.o xs=some a→xs=Q19.i a++[.tup (Q19.b a)]:=by
 intro xs a h
 unfold Q19.o at h
 split at h
 ·cases h; rfl
 ·cases h
def Q19.y (p:Q19.T):AV:=vb p.1
def Q19.w (p:Q19.T):List AV:=[.fn 115 [vb p.2.1,vs p.2.2.1,vs p.2.2.2.1,.own 1 0 none,.own 2 0 none,vb p.2.2.2.2.1,vs p.2.2.2.2.2.1,vs p.2.2.2.2.2.2.1,.own 3 0 none,.own 4 0 none,.own 5 0 none,.own 6 0 none,vb p.2.2.2.2.2.2.2.1,.own 7 0 none,vi p.2.2.2.2.2.2.2.2.1],.fr ⟨true,125⟩ 4 p.2.2.2.2.2.2.2.2.2.1,.fr ⟨true,111⟩ 2 p.2.2.2.2.2.2.2.2.2.2.1,.fr ⟨true,9⟩ 1 p.2.2.2.2.2.2.2.2.2.2.2.1,.fr ⟨true,95⟩ 3 p.2.2.2.2.2.2.2.2.2.2.2.2.1,.fr ⟨true,97⟩ 4 p.2.2.2.2.2.2.2.2.2.2.2.2.2.1,.fr ⟨true,111⟩ 2 p.2.2.2.2.2.2.2.2.2.2.2.2.2.2.1,.fr ⟨false,100⟩ 2 p.2.2.2.2.2.2.2.2.2.2.2.2.2.2.2]
def Q19.p (p:Q19.T):AV:=.tup [Q19.y p,.tup (Q19.w p)]
def Q19.q (x:AV):Option Q19.T:=match x with | .tup [.v (.bool p0),.tup [.fn 115 [.v (.bool p1),.v (.string p2),.v (.string p3),.own 1 0 none,.own 2 0 none,.v (.bool p4),.v (.string p5),.v (.string p6),.own 3 0 none,.own 4 0 none,.own 5 0 none,.own 6 0 none,.v (.bool p7),.own 7 0 none,.v (.int .i64 p8)],.fr ⟨true,125⟩ 4 p9,.fr ⟨true,111⟩ 2 p10,.fr ⟨true,9⟩ 1 p11,.fr ⟨true,95⟩ 3 p12,.fr ⟨true,97⟩ 4 p13,.fr ⟨true,111⟩ 2 p14,.fr ⟨false,100⟩ 2 p15]]=>some (p0,p1,p2,p3,p4,p5,p6,p7,p8,p9,p10,p11,p12,p13,p14,p15) | _=>none
theorem Q19.qi:∀ x p,Q19.q x=some p→x=Q19.p p:=by
 intro x p h
 unfold Q19.q at h
 split at h
 ·cases h; rfl
 ·cases h
inductive Q19.Z where
 | z6 (z1:Bool) (z2 z3:ByteArray) (z4:Bool) (z5 z6:ByteArray) (z7:Bool) (z8:Int) (z9 z10 z11 z12 z13 z14 z15:List AV)
def Q19.C {R:Type} (n:Nat) (f:FuncId) (xs:List AV):(AV→Option R)→Option R:=
 bif Nat.beq f 83 then Q1i.via n xs else bif Nat.beq f 113 then Q0p.via n xs else bif Nat.beq f 147 then Q1m.via n xs else fun _=>none
theorem Q19.tells {R:Type} (n:Nat):Tells (R:=R) Tryz.prog (Q19.C n):=fun _ xs=>tells_at (Q1i.tells1 n xs) (tells_at (Q0p.tells1 n xs) (tells_at (Q1m.tells1 n xs) (Tells1.none)))
def Q19.cut (r:Nat):Option Keep:=match r with | 6=>some ⟨[],[]⟩ | _=>none
def Q19.t (z:Q19.Z):List Item:=(todoOf (match z with | .z6 _ _ _ _ _ _ _ _ _ _ _ _ _ _ _=>6) 1000 [.code (Tryz.f110.body.getD .skip)]).getD []
def Q19.s:Q19.Z→St
 | .z6 z1 z2 z3 z4 z5 z6 z7 z8 z9 z10 z11 z12 z13 z14 z15=>⟨spr 101 0 [],Mem.ofList [.box 115 [vb z1,vs z2,vs z3,.own 1 0 none,.own 2 0 none,vb z4,vs z5,vs z6,.own 3 0 none,.own 4 0 none,.own 5 0 none,.own 6 0 none,vb z7,.own 7 0 none,vi z8],.row ⟨true,125⟩ 4 z9,.row ⟨true,111⟩ 2 z10,.row ⟨true,9⟩ 1 z11,.row ⟨true,95⟩ 3 z12,.row ⟨true,97⟩ 4 z13,.row ⟨true,111⟩ 2 z14,.row ⟨false,100⟩ 2 z15],8⟩
def Q19.r6 (n:Nat) (c:Q19.Z→Option Q19.T) (z1:Bool) (z2 z3:ByteArray) (z4:Bool) (z5 z6:ByteArray) (z7:Bool) (z8:Int) (z9 z10 z11 z12 z13 z14 z15:List AV):Option Q19.T:=
 some (false,z1,z2,z3,z4,z5,z6,z7,z8,z9,z10,z11,z12,z13,z14,z15)
def Q19.r (n:Nat) (c:Q19.Z→Option Q19.T):Q19.Z→Option Q19.T
 | .z6 z1 z2 z3 z4 z5 z6 z7 z8 z9 z10 z11 z12 z13 z14 z15=>Q19.r6 n c z1 z2 z3 z4 z5 z6 z7 z8 z9 z10 z11 z12 z13 z14 z15
def Q19.e (n:Nat) (c:Q19.Z→Option Q19.T) (a0:List AV) (a1:Bool) (a2 a3:ByteArray) (a4:Bool) (a5 a6:ByteArray) (a7:Bool) (a8:Int) (a9 a10 a11 a12 a13 a14 a15:List AV):Option Q19.T:=
 let y1:Bool:=decide (((a0.length:Nat):Int) < 3)
 bif y1 then (some (false,a1,a2,a3,a4,a5,a6,a7,a8,a9,a10,a11,a12,a13,a14,a15)) else (bif decide ((1:Int) < (a0.length:Nat)) then (withCons ((a0.getD 1 .undef).cells) fun h2 r3=>
 withStr h2 fun s4=>
 (Q0p.F n [vs s4]).bind fun p5=>
 bif !p5 then (some (false,a1,a2,a3,a4,a5,a6,a7,a8,a9,a10,a11,a12,a13,a14,a15)) else (bif a1 then (bif decide ((2:Int) < (a0.length:Nat)) then (withCons ((a0.getD 2 .undef).cells) fun h6 r7=>
 withStr h6 fun s8=>
 (Q1m.F n s8).bind fun p9=>
 bif !p9.2 then (c (.z6 a1 a2 a3 a4 a5 a6 a7 a8 a9 a10 a11 a12 a13 a14 a15)) else (let y10:Bool:=((a0.length:Nat):Int) != 4
 bif y10 then (c (.z6 a1 a2 a3 a4 a5 a6 a7 a8 a9 a10 a11 a12 a13 a14 a15)) else (bif decide ((3:Int) < (a0.length:Nat)) then (withCons ((a0.getD 3 .undef).cells) fun h11 r12=>
 withStr h11 fun s13=>
 (Q0p.F n [vs s13]).bind fun p14=>
 bif !p14 then (c (.z6 a1 a2 a3 a4 a5 a6 a7 a8 a9 a10 a11 a12 a13 a14 a15)) else (bif decide ((1:Int) < (a0.length:Nat)) then (withCons ((a0.getD 1 .undef).cells) fun h15 r16=>
 withStr h15 fun s17=>
 bif decide ((3:Int) < (a0.length:Nat)) then (withCons ((a0.getD 3 .undef).cells) fun h18 r19=>
 withStr h18 fun s20=>
 let y21:List AV:=[AV.agg [vs s17,vi p9.1,vs s20]]
 bif decide (a12.length+y21.length≤most) then (some (true,a1,a2,a3,a4,a5,a6,a7,a8,a9,a10,a11,a12++y21,a13,a14,a15)) else none) else none) else none)) else none))) else none) else (bif decide ((2:Int) < (a0.length:Nat)) then (withCons ((a0.getD 2 .undef).cells) fun h22 r23=>
 withStr h22 fun s24=>
 (Q1i.F n s24).bind fun p25=>
 bif decide ((1:Int) < (a0.length:Nat)) then (withCons ((a0.getD 1 .undef).cells) fun h26 r27=>
 withStr h26 fun s28=>
 let y29:List AV:=[AV.agg [vs s28,vi p25.1,vi p25.2.1,vi p25.2.2.1]]
 bif decide (a9.length+y29.length≤most) then (bif p25.2.2.2 then (let y30:Bool:=((a0.length:Nat):Int)==3
 some (y30,a1,a2,a3,a4,a5,a6,a7,a8,a9++y29,a10,a11,a12,a13,a14,a15)) else (some (false,a1,a2,a3,a4,a5,a6,a7,a8,a9++y29,a10,a11,a12,a13,a14,a15))) else none) else none) else none))) else none)
def Q19.E (n:Nat) (c:Q19.Z→Option Q19.T):Q19.A→Option Q19.T:=fun (a0,a1,a2,a3,a4,a5,a6,a7,a8,a9,a10,a11,a12,a13,a14,a15)=>Q19.e n c a0 a1 a2 a3 a4 a5 a6 a7 a8 a9 a10 a11 a12 a13 a14 a15
def Q19.l (n:Nat):Nat→Q19.Z→Option Q19.T:=loopL (Q19.r n)
def Q19.F (n:Nat) (a0:List AV) (a1:Bool) (a2 a3:ByteArray) (a4:Bool) (a5 a6:ByteArray) (a7:Bool) (a8:Int) (a9 a10 a11 a12 a13 a14 a15:List AV):Option Q19.T:=Q19.e n (Q19.l n n) a0 a1 a2 a3 a4 a5 a6 a7 a8 a9 a10 a11 a12 a13 a14 a15
def Q19.FA (n:Nat):Q19.A→Option Q19.T:=Q19.E n (Q19.l n n)
def Q19.nils:List (Nat × Nat × Fl × Nat):=[]
theorem Q19.hands (n:Nat):∀ a p,Q19.FA n a=some p→HandsMIn Tryz.prog 110 (Q19.i a) (Q19.b a) (Q19.y p) (Q19.w p):=
 pfM_hands (G:=Gk 1) (C:=Q19.C n) (cut:=Q19.cut) (t:=Q19.t) (s:=Q19.s) (nils:=Q19.nils) (e:=Q19.E n) (r:=Q19.r n) (n:=n) (cfg.kb 1) mixed globs Q19.qi (fun a=>by kernel_rfl) (Q19.tells n) Tryz.func110 (by kernel_rfl) (by kernel_rfl) (fun rec a=>by kernel_rfl) (fun rec z=>by cases z <;> kernel_rfl)
def Q19.via {R:Type} (n:Nat):List AV→(AV→Option R)→Option R:=viaK (Q19.FA n) Q19.o Q19.p
theorem Q19.tells1 {R:Type} (n:Nat) (xs:List AV):Tells1 (R:=R) Tryz.prog 110 xs (Q19.via n xs):=tells_viaM (fun _=>rfl) Q19.oi (Q19.hands n) xs
end Go.Proofs.YtmpglmcjoelciaaGreatDoor.Ev
namespace Go.Proofs.YtmpglmcjoelciaaGreatDoor.Ev
open Go Go.Proofs Go.Proofs.Ev
set_option linter.unusedVariables false
set_option maxRecDepth 100000
abbrev Q1d.A:=List AV × Bool × ByteArray × ByteArray × Bool × ByteArray × ByteArray × Bool × Int × List AV × List AV × List AV × List AV × List AV × List AV × List AV
abbrev Q1d.T:=Bool × Bool × ByteArray × ByteArray × Bool × ByteArray × ByteArray × Bool × Int × List AV × List AV × List AV × List AV × List AV × List AV × List AV
def Q1d.i:Q1d.A→List AV:=fun (a0,a1,a2,a3,a4,a5,a6,a7,a8,a9,a10,a11,a12,a13,a14,a15)=>[.ptr 0 0,.sl ⟨true,9⟩ 1 a0]
def Q1d.b:Q1d.A→List AV:=fun (a0,a1,a2,a3,a4,a5,a6,a7,a8,a9,a10,a11,a12,a13,a14,a15)=>[.fn 115 [vb a1,vs a2,vs a3,.own 1 0 none,.own 2 0 none,vb a4,vs a5,vs a6,.own 3 0 none,.own 4 0 none,.own 5 0 none,.own 6 0 none,vb a7,.own 7 0 none,vi a8],.fr ⟨true,125⟩ 4 a9,.fr ⟨true,111⟩ 2 a10,.fr ⟨true,9⟩ 1 a11,.fr ⟨true,95⟩ 3 a12,.fr ⟨true,97⟩ 4 a13,.fr ⟨true,111⟩ 2 a14,.fr ⟨false,100⟩ 2 a15]
def Q1d.o (xs:List AV):Option Q1d.A:=match xs with | [.ptr 0 0,.sl ⟨true,9⟩ 1 a0,.tup [.fn 115 [.v (.bool a1),.v (.string a2),.v (.string a3),.own 1 0 none,.own 2 0 none,.v (.bool a4),.v (.string a5),.v (.string a6),.own 3 0 none,.own 4 0 none,.own 5 0 none,.own 6 0 none,.v (.bool a7),.own 7 0 none,.v (.int .i64 a8)],.fr ⟨true,125⟩ 4 a9,.fr ⟨true,111⟩ 2 a10,.fr ⟨true,9⟩ 1 a11,.fr ⟨true,95⟩ 3 a12,.fr ⟨true,97⟩ 4 a13,.fr ⟨true,111⟩ 2 a14,.fr ⟨false,100⟩ 2 a15]]=>some (a0,a1,a2,a3,a4,a5,a6,a7,a8,a9,a10,a11,a12,a13,a14,a15) | _=>none
theorem Q1d.oi:∀ xs a,Q1d.o xs=some a→xs=Q1d.i a++[.tup (Q1d.b a)]:=by
 intro xs a h
 unfold Q1d.o at h
 split at h
 ·cases h; rfl
 ·cases h
def Q1d.y (p:Q1d.T):AV:=vb p.1
def Q1d.w (p:Q1d.T):List AV:=[.fn 115 [vb p.2.1,vs p.2.2.1,vs p.2.2.2.1,.own 1 0 none,.own 2 0 none,vb p.2.2.2.2.1,vs p.2.2.2.2.2.1,vs p.2.2.2.2.2.2.1,.own 3 0 none,.own 4 0 none,.own 5 0 none,.own 6 0 none,vb p.2.2.2.2.2.2.2.1,.own 7 0 none,vi p.2.2.2.2.2.2.2.2.1],.fr ⟨true,125⟩ 4 p.2.2.2.2.2.2.2.2.2.1,.fr ⟨true,111⟩ 2 p.2.2.2.2.2.2.2.2.2.2.1,.fr ⟨true,9⟩ 1 p.2.2.2.2.2.2.2.2.2.2.2.1,.fr ⟨true,95⟩ 3 p.2.2.2.2.2.2.2.2.2.2.2.2.1,.fr ⟨true,97⟩ 4 p.2.2.2.2.2.2.2.2.2.2.2.2.2.1,.fr ⟨true,111⟩ 2 p.2.2.2.2.2.2.2.2.2.2.2.2.2.2.1,.fr ⟨false,100⟩ 2 p.2.2.2.2.2.2.2.2.2.2.2.2.2.2.2]
def Q1d.p (p:Q1d.T):AV:=.tup [Q1d.y p,.tup (Q1d.w p)]
def Q1d.q (x:AV):Option Q1d.T:=match x with | .tup [.v (.bool p0),.tup [.fn 115 [.v (.bool p1),.v (.string p2),.v (.string p3),.own 1 0 none,.own 2 0 none,.v (.bool p4),.v (.string p5),.v (.string p6),.own 3 0 none,.own 4 0 none,.own 5 0 none,.own 6 0 none,.v (.bool p7),.own 7 0 none,.v (.int .i64 p8)],.fr ⟨true,125⟩ 4 p9,.fr ⟨true,111⟩ 2 p10,.fr ⟨true,9⟩ 1 p11,.fr ⟨true,95⟩ 3 p12,.fr ⟨true,97⟩ 4 p13,.fr ⟨true,111⟩ 2 p14,.fr ⟨false,100⟩ 2 p15]]=>some (p0,p1,p2,p3,p4,p5,p6,p7,p8,p9,p10,p11,p12,p13,p14,p15) | _=>none
theorem Q1d.qi:∀ x p,Q1d.q x=some p→x=Q1d.p p:=by
 intro x p h
 unfold Q1d.q at h
 split at h
 ·cases h; rfl
 ·cases h
inductive Q1d.Z where
 | z3 (z1:Bool) (z2 z3:ByteArray) (z4:Bool) (z5 z6:ByteArray) (z7:Bool) (z8:Int) (z9 z10 z11 z12 z13 z14 z15:List AV)
 | z4 (z1:List AV) (z2 z3:Bool) (z4 z5:ByteArray) (z6:Bool) (z7 z8:ByteArray) (z9:Bool) (z10:Int) (z11 z12 z13 z14 z15 z16 z17:List AV)
def Q1d.C {R:Type} (n:Nat) (f:FuncId) (xs:List AV):(AV→Option R)→Option R:=
 bif Nat.beq f 113 then Q0p.via n xs else fun _=>none
theorem Q1d.tells {R:Type} (n:Nat):Tells (R:=R) Tryz.prog (Q1d.C n):=fun _ xs=>tells_at (Q0p.tells1 n xs) (Tells1.none)
def Q1d.cut (r:Nat):Option Keep:=match r with | 3=>some ⟨[],[]⟩ | 4=>some ⟨[0,1,5],[]⟩ | _=>none
def Q1d.t (z:Q1d.Z):List Item:=(todoOf (match z with | .z3 _ _ _ _ _ _ _ _ _ _ _ _ _ _ _=>3 | .z4 _ _ _ _ _ _ _ _ _ _ _ _ _ _ _ _ _=>4) 1000 [.code (Tryz.f111.body.getD .skip)]).getD []
def Q1d.s:Q1d.Z→St
 | .z3 z1 z2 z3 z4 z5 z6 z7 z8 z9 z10 z11 z12 z13 z14 z15=>⟨spr 69 0 [],Mem.ofList [.box 115 [vb z1,vs z2,vs z3,.own 1 0 none,.own 2 0 none,vb z4,vs z5,vs z6,.own 3 0 none,.own 4 0 none,.own 5 0 none,.own 6 0 none,vb z7,.own 7 0 none,vi z8],.row ⟨true,125⟩ 4 z9,.row ⟨true,111⟩ 2 z10,.row ⟨true,9⟩ 1 z11,.row ⟨true,95⟩ 3 z12,.row ⟨true,97⟩ 4 z13,.row ⟨true,111⟩ 2 z14,.row ⟨false,100⟩ 2 z15],8⟩
 | .z4 z1 z2 z3 z4 z5 z6 z7 z8 z9 z10 z11 z12 z13 z14 z15 z16 z17=>⟨spr 69 0 [(0,.ptr 0 0),(1,.sl ⟨true,9⟩ 1 z1),(5,vb z2)],Mem.ofList [.box 115 [vb z3,vs z4,vs z5,.own 1 0 none,.own 2 0 none,vb z6,vs z7,vs z8,.own 3 0 none,.own 4 0 none,.own 5 0 none,.own 6 0 none,vb z9,.own 7 0 none,vi z10],.row ⟨true,125⟩ 4 z11,.row ⟨true,111⟩ 2 z12,.row ⟨true,9⟩ 1 z13,.row ⟨true,95⟩ 3 z14,.row ⟨true,97⟩ 4 z15,.row ⟨true,111⟩ 2 z16,.row ⟨false,100⟩ 2 z17],8⟩
def Q1d.r3 (n:Nat) (c:Q1d.Z→Option Q1d.T) (z1:Bool) (z2 z3:ByteArray) (z4:Bool) (z5 z6:ByteArray) (z7:Bool) (z8:Int) (z9 z10 z11 z12 z13 z14 z15:List AV):Option Q1d.T:=
 some (false,z1,z2,z3,z4,z5,z6,z7,z8,z9,z10,z11,z12,z13,z14,z15)
def Q1d.r4 (n:Nat) (c:Q1d.Z→Option Q1d.T) (z1:List AV) (z2 z3:Bool) (z4 z5:ByteArray) (z6:Bool) (z7 z8:ByteArray) (z9:Bool) (z10:Int) (z11 z12 z13 z14 z15 z16 z17:List AV):Option Q1d.T:=
 bif decide ((1:Int) < (z1.length:Nat)) then (withCons ((z1.getD 1 .undef).cells) fun h20 r21=>
 withStr h20 fun s22=>
 bif z3 then (bif decide (z16.length+[AV.agg [vs s22,vb z2]].length≤most) then (let y23:List AV:=z16++[AV.agg [vs s22,vb z2]]
 some (true,z3,z4,z5,z6,z7,z8,z9,z10,z11,z12,z13,z14,z15,y23,z17)) else none) else (bif decide (z12.length+[AV.agg [vs s22,vb z2]].length≤most) then (let y24:List AV:=z12++[AV.agg [vs s22,vb z2]]
 some (true,z3,z4,z5,z6,z7,z8,z9,z10,z11,y24,z13,z14,z15,z16,z17)) else none)) else none
def Q1d.r (n:Nat) (c:Q1d.Z→Option Q1d.T):Q1d.Z→Option Q1d.T
 | .z3 z1 z2 z3 z4 z5 z6 z7 z8 z9 z10 z11 z12 z13 z14 z15=>Q1d.r3 n c z1 z2 z3 z4 z5 z6 z7 z8 z9 z10 z11 z12 z13 z14 z15
 | .z4 z1 z2 z3 z4 z5 z6 z7 z8 z9 z10 z11 z12 z13 z14 z15 z16 z17=>Q1d.r4 n c z1 z2 z3 z4 z5 z6 z7 z8 z9 z10 z11 z12 z13 z14 z15 z16 z17
def Q1d.e (n:Nat) (c:Q1d.Z→Option Q1d.T) (a0:List AV) (a1:Bool) (a2 a3:ByteArray) (a4:Bool) (a5 a6:ByteArray) (a7:Bool) (a8:Int) (a9 a10 a11 a12 a13 a14 a15:List AV):Option Q1d.T:=
 let y1:Bool:=((a0.length:Nat):Int)==3
 bif y1 then (bif decide ((2:Int) < (a0.length:Nat)) then (withCons ((a0.getD 2 .undef).cells) fun h2 r3=>
 withStr h2 fun s4=>
 let y5:Bool:=s4.toList==(⟨#[68,69,83,67,69,78,68]⟩ : ByteArray).toList
 let y6:Bool:=((a0.length:Nat):Int) != 2
 bif y6 then (bif !y5 then (c (.z3 a1 a2 a3 a4 a5 a6 a7 a8 a9 a10 a11 a12 a13 a14 a15)) else (bif decide ((1:Int) < (a0.length:Nat)) then (withCons ((a0.getD 1 .undef).cells) fun h7 r8=>
 withStr h7 fun s9=>
 (Q0p.F n [vs s9]).bind fun p10=>
 bif !p10 then (c (.z3 a1 a2 a3 a4 a5 a6 a7 a8 a9 a10 a11 a12 a13 a14 a15)) else (c (.z4 a0 y5 a1 a2 a3 a4 a5 a6 a7 a8 a9 a10 a11 a12 a13 a14 a15))) else none)) else (bif decide ((1:Int) < (a0.length:Nat)) then (withCons ((a0.getD 1 .undef).cells) fun h11 r12=>
 withStr h11 fun s13=>
 (Q0p.F n [vs s13]).bind fun p14=>
 bif !p14 then (c (.z3 a1 a2 a3 a4 a5 a6 a7 a8 a9 a10 a11 a12 a13 a14 a15)) else (c (.z4 a0 y5 a1 a2 a3 a4 a5 a6 a7 a8 a9 a10 a11 a12 a13 a14 a15))) else none)) else none) else (let y15:Bool:=((a0.length:Nat):Int) != 2
 bif y15 then (c (.z3 a1 a2 a3 a4 a5 a6 a7 a8 a9 a10 a11 a12 a13 a14 a15)) else (bif decide ((1:Int) < (a0.length:Nat)) then (withCons ((a0.getD 1 .undef).cells) fun h16 r17=>
 withStr h16 fun s18=>
 (Q0p.F n [vs s18]).bind fun p19=>
 bif !p19 then (c (.z3 a1 a2 a3 a4 a5 a6 a7 a8 a9 a10 a11 a12 a13 a14 a15)) else (c (.z4 a0 false a1 a2 a3 a4 a5 a6 a7 a8 a9 a10 a11 a12 a13 a14 a15))) else none))
def Q1d.E (n:Nat) (c:Q1d.Z→Option Q1d.T):Q1d.A→Option Q1d.T:=fun (a0,a1,a2,a3,a4,a5,a6,a7,a8,a9,a10,a11,a12,a13,a14,a15)=>Q1d.e n c a0 a1 a2 a3 a4 a5 a6 a7 a8 a9 a10 a11 a12 a13 a14 a15
def Q1d.l (n:Nat):Nat→Q1d.Z→Option Q1d.T:=loopL (Q1d.r n)
def Q1d.F (n:Nat) (a0:List AV) (a1:Bool) (a2 a3:ByteArray) (a4:Bool) (a5 a6:ByteArray) (a7:Bool) (a8:Int) (a9 a10 a11 a12 a13 a14 a15:List AV):Option Q1d.T:=Q1d.e n (Q1d.l n n) a0 a1 a2 a3 a4 a5 a6 a7 a8 a9 a10 a11 a12 a13 a14 a15
def Q1d.FA (n:Nat):Q1d.A→Option Q1d.T:=Q1d.E n (Q1d.l n n)
def Q1d.nils:List (Nat × Nat × Fl × Nat):=[]
theorem Q1d.hands (n:Nat):∀ a p,Q1d.FA n a=some p→HandsMIn Tryz.prog 111 (Q1d.i a) (Q1d.b a) (Q1d.y p) (Q1d.w p):=
 pfM_hands (G:=Gk 1) (C:=Q1d.C n) (cut:=Q1d.cut) (t:=Q1d.t) (s:=Q1d.s) (nils:=Q1d.nils) (e:=Q1d.E n) (r:=Q1d.r n) (n:=n) (cfg.kb 1) mixed globs Q1d.qi (fun a=>by kernel_rfl) (Q1d.tells n) Tryz.func111 (by kernel_rfl) (by kernel_rfl) (fun rec a=>by kernel_rfl) (fun rec z=>by cases z <;> kernel_rfl)
def Q1d.via {R:Type} (n:Nat):List AV→(AV→Option R)→Option R:=viaK (Q1d.FA n) Q1d.o Q1d.p
theorem Q1d.tells1 {R:Type} (n:Nat) (xs:List AV):Tells1 (R:=R) Tryz.prog 111 xs (Q1d.via n xs):=tells_viaM (fun _=>rfl) Q1d.oi (Q1d.hands n) xs
end Go.Proofs.YtmpglmcjoelciaaGreatDoor.Ev
namespace Go.Proofs.YtmpglmcjoelciaaGreatDoor.Ev
open Go Go.Proofs Go.Proofs.Ev
set_option linter.unusedVariables false
set_option maxRecDepth 100000
abbrev Q1l.A:=ByteArray
abbrev Q1l.T:=Int × ByteArray × Bool
def Q1l.i:Q1l.A→List AV:=fun a0=>[vs a0]
def Q1l.o (xs:List AV):Option Q1l.A:=match xs with | [.v (.string a0)]=>some a0 | _=>none
theorem Q1l.oi:∀ xs a,Q1l.o xs=some a→xs=Q1l.i a:=by
 intro xs a h
 unfold Q1l.o at h
 split at h
 ·cases h; rfl
 ·cases h
def Q1l.p (p:Q1l.T):AV:=.tup [AV.agg [vi p.1,vs p.2.1],vb p.2.2]
def Q1l.q (x:AV):Option Q1l.T:=match x with | .tup [.agg [.v (.int .i64 p0),.v (.string p1)],.v (.bool p2)]=>some (p0,p1,p2) | _=>none
theorem Q1l.qi:∀ x p,Q1l.q x=some p→x=Q1l.p p:=by
 intro x p h
 unfold Q1l.q at h
 split at h
 ·cases h; rfl
 ·cases h
def Q1l.C {R:Type} (n:Nat) (f:FuncId) (xs:List AV):(AV→Option R)→Option R:=
 bif Nat.beq f 122 then Q4j.via n xs else bif Nat.beq f 147 then Q1m.via n xs else fun _=>none
theorem Q1l.tells {R:Type} (n:Nat):Tells (R:=R) Tryz.prog (Q1l.C n):=fun _ xs=>tells_at (Q4j.tells1 n xs) (tells_at (Q1m.tells1 n xs) (Tells1.none))
def Q1l.cut (r:Nat):Option Keep:=match r with  | _=>none
def Q1l.e (n:Nat) (a0:ByteArray):Option (Int × ByteArray × Bool):=
 bif decide ((0:Int) < (a0.size:Nat)) then (let y1:Int:=(((a0.data.getD 0 0).toNat:Nat):Int)
 bif y1==39 then (let y2:Int:=IntKind.i64.wrap (((a0.size:Nat):Int) - 1)
 bif decide ((0:Int)≤y2)&&decide ((y2:Int)≤((a0.size:Nat):Int)) then (bif decide ((0:Int)≤1)&&decide ((1:Int)≤y2) then ((Q4j.F n (a0.extract 1 (y2).toNat) (⟨#[39,39]⟩ : ByteArray) (⟨#[39]⟩ : ByteArray)).bind fun p3=>
 some (0,p3,true)) else none) else none) else ((Q1m.F n a0).bind fun p4=>
 some (p4.1,(⟨#[]⟩ : ByteArray),p4.2))) else none
def Q1l.E (n:Nat):Q1l.A→Option Q1l.T:=fun a0=>Q1l.e n a0
def Q1l.F (n:Nat) (a0:ByteArray):Option (Int × ByteArray × Bool):=Q1l.e n a0
def Q1l.FA (n:Nat):Q1l.A→Option Q1l.T:=Q1l.E n
theorem Q1l.hands (n:Nat):∀ a p,Q1l.FA n a=some p→HandsIn Tryz.prog 148 (Q1l.i a) (Q1l.p p):=
 pf_hands (C:=Q1l.C n) (cut:=Q1l.cut) (Z:=Empty) (t:=nofun) (s:=nofun) (e:=fun _=>Q1l.E n) (r:=fun _ z=>nomatch z) (n:=n) cfg mixed globs rfl Q1l.qi (Q1l.tells n) Tryz.func148 (by kernel_rfl) (by kernel_rfl) (fun rec a=>by kernel_rfl) (fun rec z=>nomatch z)
def Q1l.via {R:Type} (n:Nat):List AV→(AV→Option R)→Option R:=viaK (Q1l.FA n) Q1l.o Q1l.p
theorem Q1l.tells1 {R:Type} (n:Nat) (xs:List AV):Tells1 (R:=R) Tryz.prog 148 xs (Q1l.via n xs):=tells_via Q1l.oi (fun a=>by kernel_rfl) (Q1l.hands n) xs
end Go.Proofs.YtmpglmcjoelciaaGreatDoor.Ev
namespace Go.Proofs.YtmpglmcjoelciaaGreatDoor.Ev
open Go Go.Proofs Go.Proofs.Ev
set_option linter.unusedVariables false
set_option maxRecDepth 100000
abbrev Q1f.A:=List AV × Bool × ByteArray × ByteArray × Bool × ByteArray × ByteArray × Bool × Int × List AV × List AV × List AV × List AV × List AV × List AV × List AV
abbrev Q1f.T:=Bool × Bool × ByteArray × ByteArray × Bool × ByteArray × ByteArray × Bool × Int × List AV × List AV × List AV × List AV × List AV × List AV × List AV
def Q1f.i:Q1f.A→List AV:=fun (a0,a1,a2,a3,a4,a5,a6,a7,a8,a9,a10,a11,a12,a13,a14,a15)=>[.ptr 0 0,.sl ⟨true,9⟩ 1 a0]
def Q1f.b:Q1f.A→List AV:=fun (a0,a1,a2,a3,a4,a5,a6,a7,a8,a9,a10,a11,a12,a13,a14,a15)=>[.fn 115 [vb a1,vs a2,vs a3,.own 1 0 none,.own 2 0 none,vb a4,vs a5,vs a6,.own 3 0 none,.own 4 0 none,.own 5 0 none,.own 6 0 none,vb a7,.own 7 0 none,vi a8],.fr ⟨true,125⟩ 4 a9,.fr ⟨true,111⟩ 2 a10,.fr ⟨true,9⟩ 1 a11,.fr ⟨true,95⟩ 3 a12,.fr ⟨true,97⟩ 4 a13,.fr ⟨true,111⟩ 2 a14,.fr ⟨false,100⟩ 2 a15]
def Q1f.o (xs:List AV):Option Q1f.A:=match xs with | [.ptr 0 0,.sl ⟨true,9⟩ 1 a0,.tup [.fn 115 [.v (.bool a1),.v (.string a2),.v (.string a3),.own 1 0 none,.own 2 0 none,.v (.bool a4),.v (.string a5),.v (.string a6),.own 3 0 none,.own 4 0 none,.own 5 0 none,.own 6 0 none,.v (.bool a7),.own 7 0 none,.v (.int .i64 a8)],.fr ⟨true,125⟩ 4 a9,.fr ⟨true,111⟩ 2 a10,.fr ⟨true,9⟩ 1 a11,.fr ⟨true,95⟩ 3 a12,.fr ⟨true,97⟩ 4 a13,.fr ⟨true,111⟩ 2 a14,.fr ⟨false,100⟩ 2 a15]]=>some (a0,a1,a2,a3,a4,a5,a6,a7,a8,a9,a10,a11,a12,a13,a14,a15) | _=>none
theorem Q1f.oi:∀ xs a,Q1f.o xs=some a→xs=Q1f.i a++[.tup (Q1f.b a)]:=by
 intro xs a h
 unfold Q1f.o at h
 split at h
 ·cases h; rfl
 ·cases h
def Q1f.y (p:Q1f.T):AV:=vb p.1
def Q1f.w (p:Q1f.T):List AV:=[.fn 115 [vb p.2.1,vs p.2.2.1,vs p.2.2.2.1,.own 1 0 none,.own 2 0 none,vb p.2.2.2.2.1,vs p.2.2.2.2.2.1,vs p.2.2.2.2.2.2.1,.own 3 0 none,.own 4 0 none,.own 5 0 none,.own 6 0 none,vb p.2.2.2.2.2.2.2.1,.own 7 0 none,vi p.2.2.2.2.2.2.2.2.1],.fr ⟨true,125⟩ 4 p.2.2.2.2.2.2.2.2.2.1,.fr ⟨true,111⟩ 2 p.2.2.2.2.2.2.2.2.2.2.1,.fr ⟨true,9⟩ 1 p.2.2.2.2.2.2.2.2.2.2.2.1,.fr ⟨true,95⟩ 3 p.2.2.2.2.2.2.2.2.2.2.2.2.1,.fr ⟨true,97⟩ 4 p.2.2.2.2.2.2.2.2.2.2.2.2.2.1,.fr ⟨true,111⟩ 2 p.2.2.2.2.2.2.2.2.2.2.2.2.2.2.1,.fr ⟨false,100⟩ 2 p.2.2.2.2.2.2.2.2.2.2.2.2.2.2.2]
def Q1f.p (p:Q1f.T):AV:=.tup [Q1f.y p,.tup (Q1f.w p)]
def Q1f.q (x:AV):Option Q1f.T:=match x with | .tup [.v (.bool p0),.tup [.fn 115 [.v (.bool p1),.v (.string p2),.v (.string p3),.own 1 0 none,.own 2 0 none,.v (.bool p4),.v (.string p5),.v (.string p6),.own 3 0 none,.own 4 0 none,.own 5 0 none,.own 6 0 none,.v (.bool p7),.own 7 0 none,.v (.int .i64 p8)],.fr ⟨true,125⟩ 4 p9,.fr ⟨true,111⟩ 2 p10,.fr ⟨true,9⟩ 1 p11,.fr ⟨true,95⟩ 3 p12,.fr ⟨true,97⟩ 4 p13,.fr ⟨true,111⟩ 2 p14,.fr ⟨false,100⟩ 2 p15]]=>some (p0,p1,p2,p3,p4,p5,p6,p7,p8,p9,p10,p11,p12,p13,p14,p15) | _=>none
theorem Q1f.qi:∀ x p,Q1f.q x=some p→x=Q1f.p p:=by
 intro x p h
 unfold Q1f.q at h
 split at h
 ·cases h; rfl
 ·cases h
inductive Q1f.Z where
 | z5 (z1:List AV) (z2:Bool) (z3 z4:ByteArray) (z5:Bool) (z6 z7:ByteArray) (z8:Bool) (z9:Int) (z10:Bool) (z11 z12 z13 z14 z15 z16 z17 z18:List AV)
 | z7 (z1:Bool) (z2 z3:ByteArray) (z4:Bool) (z5 z6:ByteArray) (z7:Bool) (z8:Int) (z9 z10 z11 z12 z13 z14 z15:List AV)
def Q1f.C {R:Type} (n:Nat) (f:FuncId) (xs:List AV):(AV→Option R)→Option R:=
 bif Nat.beq f 102 then Q48.via n xs else bif Nat.beq f 113 then Q0p.via n xs else bif Nat.beq f 145 then Q4c.via n xs else bif Nat.beq f 148 then Q1l.via n xs else fun _=>none
theorem Q1f.tells {R:Type} (n:Nat):Tells (R:=R) Tryz.prog (Q1f.C n):=fun _ xs=>tells_at (Q48.tells1 n xs) (tells_at (Q0p.tells1 n xs) (tells_at (Q4c.tells1 n xs) (tells_at (Q1l.tells1 n xs) (Tells1.none))))
def Q1f.cut (r:Nat):Option Keep:=match r with | 5=>some ⟨[0,1,5],[(5,some 1,⟨true,104⟩,4)]⟩ | 7=>some ⟨[],[]⟩ | _=>none
def Q1f.t (z:Q1f.Z):List Item:=(todoOf (match z with | .z5 _ _ _ _ _ _ _ _ _ _ _ _ _ _ _ _ _ _=>5 | .z7 _ _ _ _ _ _ _ _ _ _ _ _ _ _ _=>7) 1000 [.code (Tryz.f112.body.getD .skip)]).getD []
def Q1f.s:Q1f.Z→St
 | .z5 z1 z2 z3 z4 z5 z6 z7 z8 z9 z10 z11 z12 z13 z14 z15 z16 z17 z18=>⟨spr 97 0 [(0,.ptr 0 0),(1,.sl ⟨true,9⟩ 1 z1),(5,.ptr 1 0)],Mem.ofList [.box 115 [vb z2,vs z3,vs z4,.own 3 0 none,.own 4 0 none,vb z5,vs z6,vs z7,.own 5 0 none,.own 6 0 none,.own 7 0 none,.own 8 0 none,vb z8,.own 9 0 none,vi z9],.box 100 [vb z10,.own 2 0 none],.row ⟨true,104⟩ 4 z11,.row ⟨true,125⟩ 4 z12,.row ⟨true,111⟩ 2 z13,.row ⟨true,9⟩ 1 z14,.row ⟨true,95⟩ 3 z15,.row ⟨true,97⟩ 4 z16,.row ⟨true,111⟩ 2 z17,.row ⟨false,100⟩ 2 z18],10⟩
 | .z7 z1 z2 z3 z4 z5 z6 z7 z8 z9 z10 z11 z12 z13 z14 z15=>⟨spr 97 0 [],Mem.ofList [.box 115 [vb z1,vs z2,vs z3,.own 1 0 none,.own 2 0 none,vb z4,vs z5,vs z6,.own 3 0 none,.own 4 0 none,.own 5 0 none,.own 6 0 none,vb z7,.own 7 0 none,vi z8],.row ⟨true,125⟩ 4 z9,.row ⟨true,111⟩ 2 z10,.row ⟨true,9⟩ 1 z11,.row ⟨true,95⟩ 3 z12,.row ⟨true,97⟩ 4 z13,.row ⟨true,111⟩ 2 z14,.row ⟨false,100⟩ 2 z15],8⟩
def Q1f.r5 (n:Nat) (c:Q1f.Z→Option Q1f.T) (z1:List AV) (z2:Bool) (z3 z4:ByteArray) (z5:Bool) (z6 z7:ByteArray) (z8:Bool) (z9:Int) (z10:Bool) (z11 z12 z13 z14 z15 z16 z17 z18:List AV):Option Q1f.T:=
 let y5:Bool:=decide (((z1.length:Nat):Int) > 0)
 bif y5 then (let y6:Bool:=decide (((z1.length:Nat):Int) < 3)
 bif y6 then (c (.z7 z2 z3 z4 z5 z6 z7 z8 z9 z12 z13 z14 z15 z16 z17 z18)) else (bif decide ((0:Int) < (z1.length:Nat)) then (withCons ((z1.getD 0 .undef).cells) fun h7 r8=>
 withStr h7 fun s9=>
 (Q0p.F n [vs s9]).bind fun p10=>
 bif !p10 then (c (.z7 z2 z3 z4 z5 z6 z7 z8 z9 z12 z13 z14 z15 z16 z17 z18)) else (bif decide ((1:Int) < (z1.length:Nat)) then (withCons ((z1.getD 1 .undef).cells) fun h11 r12=>
 withStr h11 fun s13=>
 (Q48.F n gr0 s13).bind fun p14=>
 bif !p14 then (c (.z7 z2 z3 z4 z5 z6 z7 z8 z9 z12 z13 z14 z15 z16 z17 z18)) else (bif decide ((2:Int) < (z1.length:Nat)) then (withCons ((z1.getD 2 .undef).cells) fun h15 r16=>
 withStr h15 fun s17=>
 (Q1l.F n s17).bind fun p18=>
 bif !p18.2.2 then (some (false,z2,z3,z4,z5,z6,z7,z8,z9,z12,z13,z14,z15,z16,z17,z18)) else (bif decide ((0:Int) < (z1.length:Nat)) then (withCons ((z1.getD 0 .undef).cells) fun h19 r20=>
 withStr h19 fun s21=>
 bif decide ((1:Int) < (z1.length:Nat)) then (withCons ((z1.getD 1 .undef).cells) fun h22 r23=>
 withStr h22 fun s24=>
 (Q4c.F n gr0 s24).bind fun p25=>
 let y26:List AV:=[AV.agg [vs s21,vi p25,vi p18.1,vs p18.2.1]]
 bif decide (z11.length+y26.length≤most) then (bif decide ((0:Int)≤3)&&decide ((3:Int)≤((z1.length:Nat):Int)) then (let y27:Bool:=(((z1.drop 3).length:Nat):Int)==0
 bif y27 then (let y28:List AV:=[AV.agg [vb z10,.sl ⟨true,104⟩ 4 (z11++y26)]]
 bif decide (z18.length+y28.length≤most) then (some (true,z2,z3,z4,z5,z6,z7,z8,z9,z12,z13,z14,z15,z16,z17,z18++y28)) else none) else (bif decide ((0:Int) < ((z1.drop 3).length:Nat)) then (withCons (((z1.drop 3).getD 0 .undef).cells) fun h29 r30=>
 withStr h29 fun s31=>
 let y32:Bool:=!(s31.toList==(⟨#[65,78,68]⟩ : ByteArray).toList)
 bif y32 then (some (false,z2,z3,z4,z5,z6,z7,z8,z9,z12,z13,z14,z15,z16,z17,z18)) else (let y33:Bool:=(((z1.drop 3).length:Nat):Int)==1
 bif y33 then (some (false,z2,z3,z4,z5,z6,z7,z8,z9,z12,z13,z14,z15,z16,z17,z18)) else (bif decide ((0:Int)≤1)&&decide ((1:Int)≤(((z1.drop 3).length:Nat):Int)) then (c (.z5 ((z1.drop 3).drop 1) z2 z3 z4 z5 z6 z7 z8 z9 z10 (z11++y26) z12 z13 z14 z15 z16 z17 z18)) else none))) else none)) else none) else none) else none) else none)) else none)) else none)) else none)) else (let y34:List AV:=[AV.agg [vb z10,.sl ⟨true,104⟩ 4 z11]]
 bif decide (z18.length+y34.length≤most) then (some (true,z2,z3,z4,z5,z6,z7,z8,z9,z12,z13,z14,z15,z16,z17,z18++y34)) else none)
def Q1f.r7 (n:Nat) (c:Q1f.Z→Option Q1f.T) (z1:Bool) (z2 z3:ByteArray) (z4:Bool) (z5 z6:ByteArray) (z7:Bool) (z8:Int) (z9 z10 z11 z12 z13 z14 z15:List AV):Option Q1f.T:=
 some (false,z1,z2,z3,z4,z5,z6,z7,z8,z9,z10,z11,z12,z13,z14,z15)
def Q1f.r (n:Nat) (c:Q1f.Z→Option Q1f.T):Q1f.Z→Option Q1f.T
 | .z5 z1 z2 z3 z4 z5 z6 z7 z8 z9 z10 z11 z12 z13 z14 z15 z16 z17 z18=>Q1f.r5 n c z1 z2 z3 z4 z5 z6 z7 z8 z9 z10 z11 z12 z13 z14 z15 z16 z17 z18
 | .z7 z1 z2 z3 z4 z5 z6 z7 z8 z9 z10 z11 z12 z13 z14 z15=>Q1f.r7 n c z1 z2 z3 z4 z5 z6 z7 z8 z9 z10 z11 z12 z13 z14 z15
def Q1f.e (n:Nat) (c:Q1f.Z→Option Q1f.T) (a0:List AV) (a1:Bool) (a2 a3:ByteArray) (a4:Bool) (a5 a6:ByteArray) (a7:Bool) (a8:Int) (a9 a10 a11 a12 a13 a14 a15:List AV):Option Q1f.T:=
 bif !a1 then (some (false,a1,a2,a3,a4,a5,a6,a7,a8,a9,a10,a11,a12,a13,a14,a15)) else (bif decide ((0:Int) < (a0.length:Nat)) then (withCons ((a0.getD 0 .undef).cells) fun h1 r2=>
 withStr h1 fun s3=>
 let y4:Bool:=s3.toList==(⟨#[79]⟩ : ByteArray).toList
 bif decide ((0:Int)≤1)&&decide ((1:Int)≤((a0.length:Nat):Int)) then (c (.z5 (a0.drop 1) a1 a2 a3 a4 a5 a6 a7 a8 y4 [] a9 a10 a11 a12 a13 a14 a15)) else none) else none)
def Q1f.E (n:Nat) (c:Q1f.Z→Option Q1f.T):Q1f.A→Option Q1f.T:=fun (a0,a1,a2,a3,a4,a5,a6,a7,a8,a9,a10,a11,a12,a13,a14,a15)=>Q1f.e n c a0 a1 a2 a3 a4 a5 a6 a7 a8 a9 a10 a11 a12 a13 a14 a15
def Q1f.l (n:Nat):Nat→Q1f.Z→Option Q1f.T:=loopL (Q1f.r n)
def Q1f.F (n:Nat) (a0:List AV) (a1:Bool) (a2 a3:ByteArray) (a4:Bool) (a5 a6:ByteArray) (a7:Bool) (a8:Int) (a9 a10 a11 a12 a13 a14 a15:List AV):Option Q1f.T:=Q1f.e n (Q1f.l n n) a0 a1 a2 a3 a4 a5 a6 a7 a8 a9 a10 a11 a12 a13 a14 a15
def Q1f.FA (n:Nat):Q1f.A→Option Q1f.T:=Q1f.E n (Q1f.l n n)
def Q1f.nils:List (Nat × Nat × Fl × Nat):=[]
theorem Q1f.hands (n:Nat):∀ a p,Q1f.FA n a=some p→HandsMIn Tryz.prog 112 (Q1f.i a) (Q1f.b a) (Q1f.y p) (Q1f.w p):=
 pfM_hands (G:=Gk 1) (C:=Q1f.C n) (cut:=Q1f.cut) (t:=Q1f.t) (s:=Q1f.s) (nils:=Q1f.nils) (e:=Q1f.E n) (r:=Q1f.r n) (n:=n) (cfg.kb 1) mixed globs Q1f.qi (fun a=>by kernel_rfl) (Q1f.tells n) Tryz.func112 (by kernel_rfl) (by kernel_rfl) (fun rec a=>by kernel_rfl) (fun rec z=>by cases z <;> kernel_rfl)
def Q1f.via {R:Type} (n:Nat):List AV→(AV→Option R)→Option R:=viaK (Q1f.FA n) Q1f.o Q1f.p
theorem Q1f.tells1 {R:Type} (n:Nat) (xs:List AV):Tells1 (R:=R) Tryz.prog 112 xs (Q1f.via n xs):=tells_viaM (fun _=>rfl) Q1f.oi (Q1f.hands n) xs
end Go.Proofs.YtmpglmcjoelciaaGreatDoor.Ev
namespace Go.Proofs.YtmpglmcjoelciaaGreatDoor.Ev
open Go Go.Proofs Go.Proofs.Ev
set_option linter.unusedVariables false
set_option maxRecDepth 100000
abbrev Q1e.A:=List AV × Bool × ByteArray × ByteArray × Bool × ByteArray × ByteArray × Bool × Int × List AV × List AV × List AV × List AV × List AV × List AV × List AV
abbrev Q1e.T:=Bool × Bool × ByteArray × ByteArray × Bool × ByteArray × ByteArray × Bool × Int × List AV × List AV × List AV × List AV × List AV × List AV × List AV
def Q1e.i:Q1e.A→List AV:=fun (a0,a1,a2,a3,a4,a5,a6,a7,a8,a9,a10,a11,a12,a13,a14,a15)=>[.ptr 0 0,.sl ⟨true,9⟩ 1 a0]
def Q1e.b:Q1e.A→List AV:=fun (a0,a1,a2,a3,a4,a5,a6,a7,a8,a9,a10,a11,a12,a13,a14,a15)=>[.fn 115 [vb a1,vs a2,vs a3,.own 1 0 none,.own 2 0 none,vb a4,vs a5,vs a6,.own 3 0 none,.own 4 0 none,.own 5 0 none,.own 6 0 none,vb a7,.own 7 0 none,vi a8],.fr ⟨true,125⟩ 4 a9,.fr ⟨true,111⟩ 2 a10,.fr ⟨true,9⟩ 1 a11,.fr ⟨true,95⟩ 3 a12,.fr ⟨true,97⟩ 4 a13,.fr ⟨true,111⟩ 2 a14,.fr ⟨false,100⟩ 2 a15]
def Q1e.o (xs:List AV):Option Q1e.A:=match xs with | [.ptr 0 0,.sl ⟨true,9⟩ 1 a0,.tup [.fn 115 [.v (.bool a1),.v (.string a2),.v (.string a3),.own 1 0 none,.own 2 0 none,.v (.bool a4),.v (.string a5),.v (.string a6),.own 3 0 none,.own 4 0 none,.own 5 0 none,.own 6 0 none,.v (.bool a7),.own 7 0 none,.v (.int .i64 a8)],.fr ⟨true,125⟩ 4 a9,.fr ⟨true,111⟩ 2 a10,.fr ⟨true,9⟩ 1 a11,.fr ⟨true,95⟩ 3 a12,.fr ⟨true,97⟩ 4 a13,.fr ⟨true,111⟩ 2 a14,.fr ⟨false,100⟩ 2 a15]]=>some (a0,a1,a2,a3,a4,a5,a6,a7,a8,a9,a10,a11,a12,a13,a14,a15) | _=>none
theorem Q1e.oi:∀ xs a,Q1e.o xs=some a→xs=Q1e.i a++[.tup (Q1e.b a)]:=by
 intro xs a h
 unfold Q1e.o at h
 split at h
 ·cases h; rfl
 ·cases h
def Q1e.y (p:Q1e.T):AV:=vb p.1
def Q1e.w (p:Q1e.T):List AV:=[.fn 115 [vb p.2.1,vs p.2.2.1,vs p.2.2.2.1,.own 1 0 none,.own 2 0 none,vb p.2.2.2.2.1,vs p.2.2.2.2.2.1,vs p.2.2.2.2.2.2.1,.own 3 0 none,.own 4 0 none,.own 5 0 none,.own 6 0 none,vb p.2.2.2.2.2.2.2.1,.own 7 0 none,vi p.2.2.2.2.2.2.2.2.1],.fr ⟨true,125⟩ 4 p.2.2.2.2.2.2.2.2.2.1,.fr ⟨true,111⟩ 2 p.2.2.2.2.2.2.2.2.2.2.1,.fr ⟨true,9⟩ 1 p.2.2.2.2.2.2.2.2.2.2.2.1,.fr ⟨true,95⟩ 3 p.2.2.2.2.2.2.2.2.2.2.2.2.1,.fr ⟨true,97⟩ 4 p.2.2.2.2.2.2.2.2.2.2.2.2.2.1,.fr ⟨true,111⟩ 2 p.2.2.2.2.2.2.2.2.2.2.2.2.2.2.1,.fr ⟨false,100⟩ 2 p.2.2.2.2.2.2.2.2.2.2.2.2.2.2.2]
def Q1e.p (p:Q1e.T):AV:=.tup [Q1e.y p,.tup (Q1e.w p)]
def Q1e.q (x:AV):Option Q1e.T:=match x with | .tup [.v (.bool p0),.tup [.fn 115 [.v (.bool p1),.v (.string p2),.v (.string p3),.own 1 0 none,.own 2 0 none,.v (.bool p4),.v (.string p5),.v (.string p6),.own 3 0 none,.own 4 0 none,.own 5 0 none,.own 6 0 none,.v (.bool p7),.own 7 0 none,.v (.int .i64 p8)],.fr ⟨true,125⟩ 4 p9,.fr ⟨true,111⟩ 2 p10,.fr ⟨true,9⟩ 1 p11,.fr ⟨true,95⟩ 3 p12,.fr ⟨true,97⟩ 4 p13,.fr ⟨true,111⟩ 2 p14,.fr ⟨false,100⟩ 2 p15]]=>some (p0,p1,p2,p3,p4,p5,p6,p7,p8,p9,p10,p11,p12,p13,p14,p15) | _=>none
theorem Q1e.qi:∀ x p,Q1e.q x=some p→x=Q1e.p p:=by
 intro x p h
 unfold Q1e.q at h
 split at h
 ·cases h; rfl
 ·cases h
inductive Q1e.Z where
 | z8 (z1:Bool) (z2 z3:ByteArray) (z4:Bool) (z5 z6:ByteArray) (z7:Bool) (z8:Int) (z9 z10 z11 z12 z13 z14 z15:List AV)
 | z9 (z1:List AV) (z2:Int) (z3:Bool) (z4 z5:ByteArray) (z6:Bool) (z7 z8:ByteArray) (z9:Bool) (z10:Int) (z11 z12 z13 z14 z15 z16 z17:List AV)
def Q1e.C {R:Type} (n:Nat) (f:FuncId) (xs:List AV):(AV→Option R)→Option R:=
 bif Nat.beq f 106 then Q4h.via n xs else bif Nat.beq f 107 then Q1a.via n xs else bif Nat.beq f 108 then Q18.via n xs else bif Nat.beq f 109 then Q1c.via n xs else bif Nat.beq f 110 then Q19.via n xs else bif Nat.beq f 111 then Q1d.via n xs else bif Nat.beq f 112 then Q1f.via n xs else fun _=>none
theorem Q1e.tells {R:Type} (n:Nat):Tells (R:=R) Tryz.prog (Q1e.C n):=fun _ xs=>tells_at (Q4h.tells1 n xs) (tells_at (Q1a.tells1 n xs) (tells_at (Q18.tells1 n xs) (tells_at (Q1c.tells1 n xs) (tells_at (Q19.tells1 n xs) (tells_at (Q1d.tells1 n xs) (tells_at (Q1f.tells1 n xs) (Tells1.none)))))))
def Q1e.cut (r:Nat):Option Keep:=match r with | 8=>some ⟨[],[]⟩ | 9=>some ⟨[0,1,6],[]⟩ | _=>none
def Q1e.t (z:Q1e.Z):List Item:=(todoOf (match z with | .z8 _ _ _ _ _ _ _ _ _ _ _ _ _ _ _=>8 | .z9 _ _ _ _ _ _ _ _ _ _ _ _ _ _ _ _ _=>9) 1000 [.code (Tryz.f64.body.getD .skip)]).getD []
def Q1e.s:Q1e.Z→St
 | .z8 z1 z2 z3 z4 z5 z6 z7 z8 z9 z10 z11 z12 z13 z14 z15=>⟨spr 62 0 [],Mem.ofList [.box 115 [vb z1,vs z2,vs z3,.own 1 0 none,.own 2 0 none,vb z4,vs z5,vs z6,.own 3 0 none,.own 4 0 none,.own 5 0 none,.own 6 0 none,vb z7,.own 7 0 none,vi z8],.row ⟨true,125⟩ 4 z9,.row ⟨true,111⟩ 2 z10,.row ⟨true,9⟩ 1 z11,.row ⟨true,95⟩ 3 z12,.row ⟨true,97⟩ 4 z13,.row ⟨true,111⟩ 2 z14,.row ⟨false,100⟩ 2 z15],8⟩
 | .z9 z1 z2 z3 z4 z5 z6 z7 z8 z9 z10 z11 z12 z13 z14 z15 z16 z17=>⟨spr 62 0 [(0,.ptr 0 0),(1,.sl ⟨true,9⟩ 1 z1),(6,vi z2)],Mem.ofList [.box 115 [vb z3,vs z4,vs z5,.own 1 0 none,.own 2 0 none,vb z6,vs z7,vs z8,.own 3 0 none,.own 4 0 none,.own 5 0 none,.own 6 0 none,vb z9,.own 7 0 none,vi z10],.row ⟨true,125⟩ 4 z11,.row ⟨true,111⟩ 2 z12,.row ⟨true,9⟩ 1 z13,.row ⟨true,95⟩ 3 z14,.row ⟨true,97⟩ 4 z15,.row ⟨true,111⟩ 2 z16,.row ⟨false,100⟩ 2 z17],8⟩
def Q1e.r8 (n:Nat) (c:Q1e.Z→Option Q1e.T) (z1:Bool) (z2 z3:ByteArray) (z4:Bool) (z5 z6:ByteArray) (z7:Bool) (z8:Int) (z9 z10 z11 z12 z13 z14 z15:List AV):Option Q1e.T:=
 some (false,z1,z2,z3,z4,z5,z6,z7,z8,z9,z10,z11,z12,z13,z14,z15)
def Q1e.r9 (n:Nat) (c:Q1e.Z→Option Q1e.T) (z1:List AV) (z2:Int) (z3:Bool) (z4 z5:ByteArray) (z6:Bool) (z7 z8:ByteArray) (z9:Bool) (z10:Int) (z11 z12 z13 z14 z15 z16 z17:List AV):Option Q1e.T:=
 bif decide (z2=((5:Nat):Int)) then ((Q1f.F n z1 z3 z4 z5 z6 z7 z8 z9 (if 1 > z2 then 1 else z2) z11 z12 z13 z14 z15 z16 z17).bind fun p8=>
 some (p8.1,p8.2.1,p8.2.2.1,p8.2.2.2.1,p8.2.2.2.2.1,p8.2.2.2.2.2.1,p8.2.2.2.2.2.2.1,p8.2.2.2.2.2.2.2.1,p8.2.2.2.2.2.2.2.2.1,p8.2.2.2.2.2.2.2.2.2.1,p8.2.2.2.2.2.2.2.2.2.2.1,p8.2.2.2.2.2.2.2.2.2.2.2.1,p8.2.2.2.2.2.2.2.2.2.2.2.2.1,p8.2.2.2.2.2.2.2.2.2.2.2.2.2.1,p8.2.2.2.2.2.2.2.2.2.2.2.2.2.2.1,p8.2.2.2.2.2.2.2.2.2.2.2.2.2.2.2)) else (bif decide (z2=((4:Nat):Int)) then ((Q1d.F n z1 z3 z4 z5 z6 z7 z8 z9 (if 1 > z2 then 1 else z2) z11 z12 z13 z14 z15 z16 z17).bind fun p9=>
 some (p9.1,p9.2.1,p9.2.2.1,p9.2.2.2.1,p9.2.2.2.2.1,p9.2.2.2.2.2.1,p9.2.2.2.2.2.2.1,p9.2.2.2.2.2.2.2.1,p9.2.2.2.2.2.2.2.2.1,p9.2.2.2.2.2.2.2.2.2.1,p9.2.2.2.2.2.2.2.2.2.2.1,p9.2.2.2.2.2.2.2.2.2.2.2.1,p9.2.2.2.2.2.2.2.2.2.2.2.2.1,p9.2.2.2.2.2.2.2.2.2.2.2.2.2.1,p9.2.2.2.2.2.2.2.2.2.2.2.2.2.2.1,p9.2.2.2.2.2.2.2.2.2.2.2.2.2.2.2)) else (bif decide (z2=((3:Nat):Int)) then ((Q19.F n z1 z3 z4 z5 z6 z7 z8 z9 (if 1 > z2 then 1 else z2) z11 z12 z13 z14 z15 z16 z17).bind fun p10=>
 some (p10.1,p10.2.1,p10.2.2.1,p10.2.2.2.1,p10.2.2.2.2.1,p10.2.2.2.2.2.1,p10.2.2.2.2.2.2.1,p10.2.2.2.2.2.2.2.1,p10.2.2.2.2.2.2.2.2.1,p10.2.2.2.2.2.2.2.2.2.1,p10.2.2.2.2.2.2.2.2.2.2.1,p10.2.2.2.2.2.2.2.2.2.2.2.1,p10.2.2.2.2.2.2.2.2.2.2.2.2.1,p10.2.2.2.2.2.2.2.2.2.2.2.2.2.1,p10.2.2.2.2.2.2.2.2.2.2.2.2.2.2.1,p10.2.2.2.2.2.2.2.2.2.2.2.2.2.2.2)) else (bif decide (z2=((2:Nat):Int)) then ((Q1c.F n z1 z3 z4 z5 z6 z7 z8 z9 (if 1 > z2 then 1 else z2) z11 z12 z13 z14 z15 z16 z17).bind fun p11=>
 some (p11.1,p11.2.1,p11.2.2.1,p11.2.2.2.1,p11.2.2.2.2.1,p11.2.2.2.2.2.1,p11.2.2.2.2.2.2.1,p11.2.2.2.2.2.2.2.1,p11.2.2.2.2.2.2.2.2.1,p11.2.2.2.2.2.2.2.2.2.1,p11.2.2.2.2.2.2.2.2.2.2.1,p11.2.2.2.2.2.2.2.2.2.2.2.1,p11.2.2.2.2.2.2.2.2.2.2.2.2.1,p11.2.2.2.2.2.2.2.2.2.2.2.2.2.1,p11.2.2.2.2.2.2.2.2.2.2.2.2.2.2.1,p11.2.2.2.2.2.2.2.2.2.2.2.2.2.2.2)) else (bif decide (z2=((1:Nat):Int)) then ((Q18.F n z1 z3 z4 z5 z6 z7 z8 z9 (if 1 > z2 then 1 else z2) z11 z12 z13 z14 z15 z16 z17).bind fun p12=>
 some (p12.1,p12.2.1,p12.2.2.1,p12.2.2.2.1,p12.2.2.2.2.1,p12.2.2.2.2.2.1,p12.2.2.2.2.2.2.1,p12.2.2.2.2.2.2.2.1,p12.2.2.2.2.2.2.2.2.1,p12.2.2.2.2.2.2.2.2.2.1,p12.2.2.2.2.2.2.2.2.2.2.1,p12.2.2.2.2.2.2.2.2.2.2.2.1,p12.2.2.2.2.2.2.2.2.2.2.2.2.1,p12.2.2.2.2.2.2.2.2.2.2.2.2.2.1,p12.2.2.2.2.2.2.2.2.2.2.2.2.2.2.1,p12.2.2.2.2.2.2.2.2.2.2.2.2.2.2.2)) else (bif decide (z2=((0:Nat):Int)) then ((Q1a.F n z1 z3 z4 z5 z6 z7 z8 z9 (if 1 > z2 then 1 else z2) z11 z12 z13 z14 z15 z16 z17).bind fun p13=>
 some (p13.1,p13.2.1,p13.2.2.1,p13.2.2.2.1,p13.2.2.2.2.1,p13.2.2.2.2.2.1,p13.2.2.2.2.2.2.1,p13.2.2.2.2.2.2.2.1,p13.2.2.2.2.2.2.2.2.1,p13.2.2.2.2.2.2.2.2.2.1,p13.2.2.2.2.2.2.2.2.2.2.1,p13.2.2.2.2.2.2.2.2.2.2.2.1,p13.2.2.2.2.2.2.2.2.2.2.2.2.1,p13.2.2.2.2.2.2.2.2.2.2.2.2.2.1,p13.2.2.2.2.2.2.2.2.2.2.2.2.2.2.1,p13.2.2.2.2.2.2.2.2.2.2.2.2.2.2.2)) else (none))))))
def Q1e.r (n:Nat) (c:Q1e.Z→Option Q1e.T):Q1e.Z→Option Q1e.T
 | .z8 z1 z2 z3 z4 z5 z6 z7 z8 z9 z10 z11 z12 z13 z14 z15=>Q1e.r8 n c z1 z2 z3 z4 z5 z6 z7 z8 z9 z10 z11 z12 z13 z14 z15
 | .z9 z1 z2 z3 z4 z5 z6 z7 z8 z9 z10 z11 z12 z13 z14 z15 z16 z17=>Q1e.r9 n c z1 z2 z3 z4 z5 z6 z7 z8 z9 z10 z11 z12 z13 z14 z15 z16 z17
def Q1e.e (n:Nat) (c:Q1e.Z→Option Q1e.T) (a0:List AV) (a1:Bool) (a2 a3:ByteArray) (a4:Bool) (a5 a6:ByteArray) (a7:Bool) (a8:Int) (a9 a10 a11 a12 a13 a14 a15:List AV):Option Q1e.T:=
 let y1:Bool:=((a0.length:Nat):Int)==0
 bif y1 then (some (false,a1,a2,a3,a4,a5,a6,a7,a8,a9,a10,a11,a12,a13,a14,a15)) else (bif decide ((0:Int) < (a0.length:Nat)) then (withCons ((a0.getD 0 .undef).cells) fun h2 r3=>
 withStr h2 fun s4=>
 let y5:Bool:=s4.toList==(⟨#[79]⟩ : ByteArray).toList
 bif y5 then ((Q4h.F n (⟨#[82,66,74,70,75,83]⟩ : ByteArray) (⟨#[83]⟩ : ByteArray)).bind fun p6=>
 bif decide (p6 < a8) then (c (.z8 a1 a2 a3 a4 a5 a6 a7 a8 a9 a10 a11 a12 a13 a14 a15)) else (bif a8==0 then (bif decide (p6 > 0) then (c (.z8 a1 a2 a3 a4 a5 a6 a7 a8 a9 a10 a11 a12 a13 a14 a15)) else (c (.z9 a0 p6 a1 a2 a3 a4 a5 a6 a7 a8 a9 a10 a11 a12 a13 a14 a15))) else (c (.z9 a0 p6 a1 a2 a3 a4 a5 a6 a7 a8 a9 a10 a11 a12 a13 a14 a15)))) else ((Q4h.F n (⟨#[82,66,74,70,75,83]⟩ : ByteArray) s4).bind fun p7=>
 bif ((s4.size:Nat):Int) != 1 then (c (.z8 a1 a2 a3 a4 a5 a6 a7 a8 a9 a10 a11 a12 a13 a14 a15)) else (bif decide (p7 < a8) then (c (.z8 a1 a2 a3 a4 a5 a6 a7 a8 a9 a10 a11 a12 a13 a14 a15)) else (bif a8==0 then (bif decide (p7 > 0) then (c (.z8 a1 a2 a3 a4 a5 a6 a7 a8 a9 a10 a11 a12 a13 a14 a15)) else (c (.z9 a0 p7 a1 a2 a3 a4 a5 a6 a7 a8 a9 a10 a11 a12 a13 a14 a15))) else (c (.z9 a0 p7 a1 a2 a3 a4 a5 a6 a7 a8 a9 a10 a11 a12 a13 a14 a15)))))) else none)
def Q1e.E (n:Nat) (c:Q1e.Z→Option Q1e.T):Q1e.A→Option Q1e.T:=fun (a0,a1,a2,a3,a4,a5,a6,a7,a8,a9,a10,a11,a12,a13,a14,a15)=>Q1e.e n c a0 a1 a2 a3 a4 a5 a6 a7 a8 a9 a10 a11 a12 a13 a14 a15
def Q1e.l (n:Nat):Nat→Q1e.Z→Option Q1e.T:=loopL (Q1e.r n)
def Q1e.F (n:Nat) (a0:List AV) (a1:Bool) (a2 a3:ByteArray) (a4:Bool) (a5 a6:ByteArray) (a7:Bool) (a8:Int) (a9 a10 a11 a12 a13 a14 a15:List AV):Option Q1e.T:=Q1e.e n (Q1e.l n n) a0 a1 a2 a3 a4 a5 a6 a7 a8 a9 a10 a11 a12 a13 a14 a15
def Q1e.FA (n:Nat):Q1e.A→Option Q1e.T:=Q1e.E n (Q1e.l n n)
def Q1e.nils:List (Nat × Nat × Fl × Nat):=[]
theorem Q1e.hands (n:Nat):∀ a p,Q1e.FA n a=some p→HandsMIn Tryz.prog 64 (Q1e.i a) (Q1e.b a) (Q1e.y p) (Q1e.w p):=
 pfM_hands (G:=Gk 1) (C:=Q1e.C n) (cut:=Q1e.cut) (t:=Q1e.t) (s:=Q1e.s) (nils:=Q1e.nils) (e:=Q1e.E n) (r:=Q1e.r n) (n:=n) (cfg.kb 1) mixed globs Q1e.qi (fun a=>by kernel_rfl) (Q1e.tells n) Tryz.func64 (by kernel_rfl) (by kernel_rfl) (fun rec a=>by kernel_rfl) (fun rec z=>by cases z <;> kernel_rfl)
def Q1e.via {R:Type} (n:Nat):List AV→(AV→Option R)→Option R:=viaK (Q1e.FA n) Q1e.o Q1e.p
theorem Q1e.tells1 {R:Type} (n:Nat) (xs:List AV):Tells1 (R:=R) Tryz.prog 64 xs (Q1e.via n xs):=tells_viaM (fun _=>rfl) Q1e.oi (Q1e.hands n) xs
end Go.Proofs.YtmpglmcjoelciaaGreatDoor.Ev
namespace Go.Proofs.YtmpglmcjoelciaaGreatDoor.Ev
open Go Go.Proofs Go.Proofs.Ev
set_option linter.unusedVariables false
set_option maxRecDepth 100000
abbrev Q1b.A:=List AV × Bool × ByteArray × ByteArray × Bool × ByteArray × ByteArray × Bool × Int × List AV × List AV × List AV × List AV × List AV × List AV × List AV
abbrev Q1b.T:=Bool × Bool × ByteArray × ByteArray × Bool × ByteArray × ByteArray × Bool × Int × List AV × List AV × List AV × List AV × List AV × List AV × List AV
def Q1b.i:Q1b.A→List AV:=fun (a0,a1,a2,a3,a4,a5,a6,a7,a8,a9,a10,a11,a12,a13,a14,a15)=>[.ptr 0 0,.sl ⟨true,9⟩ 1 a0]
def Q1b.b:Q1b.A→List AV:=fun (a0,a1,a2,a3,a4,a5,a6,a7,a8,a9,a10,a11,a12,a13,a14,a15)=>[.fn 115 [vb a1,vs a2,vs a3,.own 1 0 none,.own 2 0 none,vb a4,vs a5,vs a6,.own 3 0 none,.own 4 0 none,.own 5 0 none,.own 6 0 none,vb a7,.own 7 0 none,vi a8],.fr ⟨true,125⟩ 4 a9,.fr ⟨true,111⟩ 2 a10,.fr ⟨true,9⟩ 1 a11,.fr ⟨true,95⟩ 3 a12,.fr ⟨true,97⟩ 4 a13,.fr ⟨true,111⟩ 2 a14,.fr ⟨false,100⟩ 2 a15]
def Q1b.o (xs:List AV):Option Q1b.A:=match xs with | [.ptr 0 0,.sl ⟨true,9⟩ 1 a0,.tup [.fn 115 [.v (.bool a1),.v (.string a2),.v (.string a3),.own 1 0 none,.own 2 0 none,.v (.bool a4),.v (.string a5),.v (.string a6),.own 3 0 none,.own 4 0 none,.own 5 0 none,.own 6 0 none,.v (.bool a7),.own 7 0 none,.v (.int .i64 a8)],.fr ⟨true,125⟩ 4 a9,.fr ⟨true,111⟩ 2 a10,.fr ⟨true,9⟩ 1 a11,.fr ⟨true,95⟩ 3 a12,.fr ⟨true,97⟩ 4 a13,.fr ⟨true,111⟩ 2 a14,.fr ⟨false,100⟩ 2 a15]]=>some (a0,a1,a2,a3,a4,a5,a6,a7,a8,a9,a10,a11,a12,a13,a14,a15) | _=>none
theorem Q1b.oi:∀ xs a,Q1b.o xs=some a→xs=Q1b.i a++[.tup (Q1b.b a)]:=by
 intro xs a h
 unfold Q1b.o at h
 split at h
 ·cases h; rfl
 ·cases h
def Q1b.y (p:Q1b.T):AV:=vb p.1
def Q1b.w (p:Q1b.T):List AV:=[.fn 115 [vb p.2.1,vs p.2.2.1,vs p.2.2.2.1,.own 1 0 none,.own 2 0 none,vb p.2.2.2.2.1,vs p.2.2.2.2.2.1,vs p.2.2.2.2.2.2.1,.own 3 0 none,.own 4 0 none,.own 5 0 none,.own 6 0 none,vb p.2.2.2.2.2.2.2.1,.own 7 0 none,vi p.2.2.2.2.2.2.2.2.1],.fr ⟨true,125⟩ 4 p.2.2.2.2.2.2.2.2.2.1,.fr ⟨true,111⟩ 2 p.2.2.2.2.2.2.2.2.2.2.1,.fr ⟨true,9⟩ 1 p.2.2.2.2.2.2.2.2.2.2.2.1,.fr ⟨true,95⟩ 3 p.2.2.2.2.2.2.2.2.2.2.2.2.1,.fr ⟨true,97⟩ 4 p.2.2.2.2.2.2.2.2.2.2.2.2.2.1,.fr ⟨true,111⟩ 2 p.2.2.2.2.2.2.2.2.2.2.2.2.2.2.1,.fr ⟨false,100⟩ 2 p.2.2.2.2.2.2.2.2.2.2.2.2.2.2.2]
def Q1b.p (p:Q1b.T):AV:=.tup [Q1b.y p,.tup (Q1b.w p)]
def Q1b.q (x:AV):Option Q1b.T:=match x with | .tup [.v (.bool p0),.tup [.fn 115 [.v (.bool p1),.v (.string p2),.v (.string p3),.own 1 0 none,.own 2 0 none,.v (.bool p4),.v (.string p5),.v (.string p6),.own 3 0 none,.own 4 0 none,.own 5 0 none,.own 6 0 none,.v (.bool p7),.own 7 0 none,.v (.int .i64 p8)],.fr ⟨true,125⟩ 4 p9,.fr ⟨true,111⟩ 2 p10,.fr ⟨true,9⟩ 1 p11,.fr ⟨true,95⟩ 3 p12,.fr ⟨true,97⟩ 4 p13,.fr ⟨true,111⟩ 2 p14,.fr ⟨false,100⟩ 2 p15]]=>some (p0,p1,p2,p3,p4,p5,p6,p7,p8,p9,p10,p11,p12,p13,p14,p15) | _=>none
theorem Q1b.qi:∀ x p,Q1b.q x=some p→x=Q1b.p p:=by
 intro x p h
 unfold Q1b.q at h
 split at h
 ·cases h; rfl
 ·cases h
inductive Q1b.Z where
 | z3 (z1:Bool) (z2 z3:ByteArray) (z4:Bool) (z5 z6:ByteArray) (z7:Bool) (z8:Int) (z9 z10 z11 z12 z13 z14 z15:List AV)
 | z4 (z1:List AV) (z2 z3:Bool) (z4 z5:ByteArray) (z6:Bool) (z7 z8:ByteArray) (z9:Bool) (z10:Int) (z11 z12 z13 z14 z15 z16 z17:List AV)
def Q1b.C {R:Type} (n:Nat) (f:FuncId) (xs:List AV):(AV→Option R)→Option R:=
 bif Nat.beq f 113 then Q0p.via n xs else fun _=>none
theorem Q1b.tells {R:Type} (n:Nat):Tells (R:=R) Tryz.prog (Q1b.C n):=fun _ xs=>tells_at (Q0p.tells1 n xs) (Tells1.none)
def Q1b.cut (r:Nat):Option Keep:=match r with | 3=>some ⟨[],[]⟩ | 4=>some ⟨[0,1,5],[]⟩ | _=>none
def Q1b.t (z:Q1b.Z):List Item:=(todoOf (match z with | .z3 _ _ _ _ _ _ _ _ _ _ _ _ _ _ _=>3 | .z4 _ _ _ _ _ _ _ _ _ _ _ _ _ _ _ _ _=>4) 1000 [.code (Tryz.f65.body.getD .skip)]).getD []
def Q1b.s:Q1b.Z→St
 | .z3 z1 z2 z3 z4 z5 z6 z7 z8 z9 z10 z11 z12 z13 z14 z15=>⟨spr 83 0 [],Mem.ofList [.box 115 [vb z1,vs z2,vs z3,.own 1 0 none,.own 2 0 none,vb z4,vs z5,vs z6,.own 3 0 none,.own 4 0 none,.own 5 0 none,.own 6 0 none,vb z7,.own 7 0 none,vi z8],.row ⟨true,125⟩ 4 z9,.row ⟨true,111⟩ 2 z10,.row ⟨true,9⟩ 1 z11,.row ⟨true,95⟩ 3 z12,.row ⟨true,97⟩ 4 z13,.row ⟨true,111⟩ 2 z14,.row ⟨false,100⟩ 2 z15],8⟩
 | .z4 z1 z2 z3 z4 z5 z6 z7 z8 z9 z10 z11 z12 z13 z14 z15 z16 z17=>⟨spr 83 0 [(0,.ptr 0 0),(1,.sl ⟨true,9⟩ 1 z1),(5,vb z2)],Mem.ofList [.box 115 [vb z3,vs z4,vs z5,.own 1 0 none,.own 2 0 none,vb z6,vs z7,vs z8,.own 3 0 none,.own 4 0 none,.own 5 0 none,.own 6 0 none,vb z9,.own 7 0 none,vi z10],.row ⟨true,125⟩ 4 z11,.row ⟨true,111⟩ 2 z12,.row ⟨true,9⟩ 1 z13,.row ⟨true,95⟩ 3 z14,.row ⟨true,97⟩ 4 z15,.row ⟨true,111⟩ 2 z16,.row ⟨false,100⟩ 2 z17],8⟩
def Q1b.r3 (n:Nat) (c:Q1b.Z→Option Q1b.T) (z1:Bool) (z2 z3:ByteArray) (z4:Bool) (z5 z6:ByteArray) (z7:Bool) (z8:Int) (z9 z10 z11 z12 z13 z14 z15:List AV):Option Q1b.T:=
 some (false,z1,z2,z3,z4,z5,z6,z7,z8,z9,z10,z11,z12,z13,z14,z15)
def Q1b.r4 (n:Nat) (c:Q1b.Z→Option Q1b.T) (z1:List AV) (z2 z3:Bool) (z4 z5:ByteArray) (z6:Bool) (z7 z8:ByteArray) (z9:Bool) (z10:Int) (z11 z12 z13 z14 z15 z16 z17:List AV):Option Q1b.T:=
 bif decide ((0:Int) < (z1.length:Nat)) then (withCons ((z1.getD 0 .undef).cells) fun h56 r57=>
 withStr h56 fun s58=>
 let y59:Bool:=s58.toList==(⟨#[76,70]⟩ : ByteArray).toList
 bif y59 then (bif decide ((1:Int) < (z1.length:Nat)) then (withCons ((z1.getD 1 .undef).cells) fun h60 r61=>
 withStr h60 fun s62=>
 some (true,y59,z4,z5,z6,s62,z8,z2,z10,z11,z12,z13,z14,z15,z16,z17)) else none) else (bif decide ((1:Int) < (z1.length:Nat)) then (withCons ((z1.getD 1 .undef).cells) fun h63 r64=>
 withStr h63 fun s65=>
 some (true,y59,s65,z5,z2,z7,z8,z9,z10,z11,z12,z13,z14,z15,z16,z17)) else none)) else none
def Q1b.r (n:Nat) (c:Q1b.Z→Option Q1b.T):Q1b.Z→Option Q1b.T
 | .z3 z1 z2 z3 z4 z5 z6 z7 z8 z9 z10 z11 z12 z13 z14 z15=>Q1b.r3 n c z1 z2 z3 z4 z5 z6 z7 z8 z9 z10 z11 z12 z13 z14 z15
 | .z4 z1 z2 z3 z4 z5 z6 z7 z8 z9 z10 z11 z12 z13 z14 z15 z16 z17=>Q1b.r4 n c z1 z2 z3 z4 z5 z6 z7 z8 z9 z10 z11 z12 z13 z14 z15 z16 z17
def Q1b.e (n:Nat) (c:Q1b.Z→Option Q1b.T) (a0:List AV) (a1:Bool) (a2 a3:ByteArray) (a4:Bool) (a5 a6:ByteArray) (a7:Bool) (a8:Int) (a9 a10 a11 a12 a13 a14 a15:List AV):Option Q1b.T:=
 let y1:Bool:=((a0.length:Nat):Int)==3
 bif y1 then (bif decide ((2:Int) < (a0.length:Nat)) then (withCons ((a0.getD 2 .undef).cells) fun h2 r3=>
 withStr h2 fun s4=>
 let y5:Bool:=s4.toList==(⟨#[85,78,73,81,85,69]⟩ : ByteArray).toList
 let y6:Bool:=((a0.length:Nat):Int) != 2
 bif y6 then (bif !y5 then (c (.z3 a1 a2 a3 a4 a5 a6 a7 a8 a9 a10 a11 a12 a13 a14 a15)) else (bif decide ((0:Int) < (a0.length:Nat)) then (withCons ((a0.getD 0 .undef).cells) fun h7 r8=>
 withStr h7 fun s9=>
 let y10:Bool:=!(s9.toList==(⟨#[80,70]⟩ : ByteArray).toList)
 bif y10 then (bif decide ((0:Int) < (a0.length:Nat)) then (withCons ((a0.getD 0 .undef).cells) fun h11 r12=>
 withStr h11 fun s13=>
 let y14:Bool:=!(s13.toList==(⟨#[76,70]⟩ : ByteArray).toList)
 bif y14 then (c (.z3 a1 a2 a3 a4 a5 a6 a7 a8 a9 a10 a11 a12 a13 a14 a15)) else (bif decide ((1:Int) < (a0.length:Nat)) then (withCons ((a0.getD 1 .undef).cells) fun h15 r16=>
 withStr h15 fun s17=>
 (Q0p.F n [vs s17]).bind fun p18=>
 bif !p18 then (c (.z3 a1 a2 a3 a4 a5 a6 a7 a8 a9 a10 a11 a12 a13 a14 a15)) else (c (.z4 a0 y5 a1 a2 a3 a4 a5 a6 a7 a8 a9 a10 a11 a12 a13 a14 a15))) else none)) else none) else (bif decide ((1:Int) < (a0.length:Nat)) then (withCons ((a0.getD 1 .undef).cells) fun h19 r20=>
 withStr h19 fun s21=>
 (Q0p.F n [vs s21]).bind fun p22=>
 bif !p22 then (c (.z3 a1 a2 a3 a4 a5 a6 a7 a8 a9 a10 a11 a12 a13 a14 a15)) else (c (.z4 a0 y5 a1 a2 a3 a4 a5 a6 a7 a8 a9 a10 a11 a12 a13 a14 a15))) else none)) else none)) else (bif decide ((0:Int) < (a0.length:Nat)) then (withCons ((a0.getD 0 .undef).cells) fun h23 r24=>
 withStr h23 fun s25=>
 let y26:Bool:=!(s25.toList==(⟨#[80,70]⟩ : ByteArray).toList)
 bif y26 then (bif decide ((0:Int) < (a0.length:Nat)) then (withCons ((a0.getD 0 .undef).cells) fun h27 r28=>
 withStr h27 fun s29=>
 let y30:Bool:=!(s29.toList==(⟨#[76,70]⟩ : ByteArray).toList)
 bif y30 then (c (.z3 a1 a2 a3 a4 a5 a6 a7 a8 a9 a10 a11 a12 a13 a14 a15)) else (bif decide ((1:Int) < (a0.length:Nat)) then (withCons ((a0.getD 1 .undef).cells) fun h31 r32=>
 withStr h31 fun s33=>
 (Q0p.F n [vs s33]).bind fun p34=>
 bif !p34 then (c (.z3 a1 a2 a3 a4 a5 a6 a7 a8 a9 a10 a11 a12 a13 a14 a15)) else (c (.z4 a0 y5 a1 a2 a3 a4 a5 a6 a7 a8 a9 a10 a11 a12 a13 a14 a15))) else none)) else none) else (bif decide ((1:Int) < (a0.length:Nat)) then (withCons ((a0.getD 1 .undef).cells) fun h35 r36=>
 withStr h35 fun s37=>
 (Q0p.F n [vs s37]).bind fun p38=>
 bif !p38 then (c (.z3 a1 a2 a3 a4 a5 a6 a7 a8 a9 a10 a11 a12 a13 a14 a15)) else (c (.z4 a0 y5 a1 a2 a3 a4 a5 a6 a7 a8 a9 a10 a11 a12 a13 a14 a15))) else none)) else none)) else none) else (let y39:Bool:=((a0.length:Nat):Int) != 2
 bif y39 then (c (.z3 a1 a2 a3 a4 a5 a6 a7 a8 a9 a10 a11 a12 a13 a14 a15)) else (bif decide ((0:Int) < (a0.length:Nat)) then (withCons ((a0.getD 0 .undef).cells) fun h40 r41=>
 withStr h40 fun s42=>
 let y43:Bool:=!(s42.toList==(⟨#[80,70]⟩ : ByteArray).toList)
 bif y43 then (bif decide ((0:Int) < (a0.length:Nat)) then (withCons ((a0.getD 0 .undef).cells) fun h44 r45=>
 withStr h44 fun s46=>
 let y47:Bool:=!(s46.toList==(⟨#[76,70]⟩ : ByteArray).toList)
 bif y47 then (c (.z3 a1 a2 a3 a4 a5 a6 a7 a8 a9 a10 a11 a12 a13 a14 a15)) else (bif decide ((1:Int) < (a0.length:Nat)) then (withCons ((a0.getD 1 .undef).cells) fun h48 r49=>
 withStr h48 fun s50=>
 (Q0p.F n [vs s50]).bind fun p51=>
 bif !p51 then (c (.z3 a1 a2 a3 a4 a5 a6 a7 a8 a9 a10 a11 a12 a13 a14 a15)) else (c (.z4 a0 false a1 a2 a3 a4 a5 a6 a7 a8 a9 a10 a11 a12 a13 a14 a15))) else none)) else none) else (bif decide ((1:Int) < (a0.length:Nat)) then (withCons ((a0.getD 1 .undef).cells) fun h52 r53=>
 withStr h52 fun s54=>
 (Q0p.F n [vs s54]).bind fun p55=>
 bif !p55 then (c (.z3 a1 a2 a3 a4 a5 a6 a7 a8 a9 a10 a11 a12 a13 a14 a15)) else (c (.z4 a0 false a1 a2 a3 a4 a5 a6 a7 a8 a9 a10 a11 a12 a13 a14 a15))) else none)) else none))
def Q1b.E (n:Nat) (c:Q1b.Z→Option Q1b.T):Q1b.A→Option Q1b.T:=fun (a0,a1,a2,a3,a4,a5,a6,a7,a8,a9,a10,a11,a12,a13,a14,a15)=>Q1b.e n c a0 a1 a2 a3 a4 a5 a6 a7 a8 a9 a10 a11 a12 a13 a14 a15
def Q1b.l (n:Nat):Nat→Q1b.Z→Option Q1b.T:=loopL (Q1b.r n)
def Q1b.F (n:Nat) (a0:List AV) (a1:Bool) (a2 a3:ByteArray) (a4:Bool) (a5 a6:ByteArray) (a7:Bool) (a8:Int) (a9 a10 a11 a12 a13 a14 a15:List AV):Option Q1b.T:=Q1b.e n (Q1b.l n n) a0 a1 a2 a3 a4 a5 a6 a7 a8 a9 a10 a11 a12 a13 a14 a15
def Q1b.FA (n:Nat):Q1b.A→Option Q1b.T:=Q1b.E n (Q1b.l n n)
def Q1b.nils:List (Nat × Nat × Fl × Nat):=[]
theorem Q1b.hands (n:Nat):∀ a p,Q1b.FA n a=some p→HandsMIn Tryz.prog 65 (Q1b.i a) (Q1b.b a) (Q1b.y p) (Q1b.w p):=
 pfM_hands (G:=Gk 1) (C:=Q1b.C n) (cut:=Q1b.cut) (t:=Q1b.t) (s:=Q1b.s) (nils:=Q1b.nils) (e:=Q1b.E n) (r:=Q1b.r n) (n:=n) (cfg.kb 1) mixed globs Q1b.qi (fun a=>by kernel_rfl) (Q1b.tells n) Tryz.func65 (by kernel_rfl) (by kernel_rfl) (fun rec a=>by kernel_rfl) (fun rec z=>by cases z <;> kernel_rfl)
def Q1b.via {R:Type} (n:Nat):List AV→(AV→Option R)→Option R:=viaK (Q1b.FA n) Q1b.o Q1b.p
theorem Q1b.tells1 {R:Type} (n:Nat) (xs:List AV):Tells1 (R:=R) Tryz.prog 65 xs (Q1b.via n xs):=tells_viaM (fun _=>rfl) Q1b.oi (Q1b.hands n) xs
end Go.Proofs.YtmpglmcjoelciaaGreatDoor.Ev
namespace Go.Proofs.YtmpglmcjoelciaaGreatDoor.Ev
open Go Go.Proofs Go.Proofs.Ev
set_option linter.unusedVariables false
set_option maxRecDepth 100000
abbrev Q0x.A:=ByteArray × ByteArray × List AV × List AV × List AV × List AV × Bool × List AV
abbrev Q0x.T:=Int
def Q0x.i:Q0x.A→List AV:=fun (a0,a1,a2,a3,a4,a5,a6,a7)=>[AV.agg [vs a0,vs a1,.sl ⟨true,9⟩ 1 a2,.sl ⟨true,95⟩ 3 a3,.sl ⟨true,97⟩ 4 a4,.sl ⟨true,111⟩ 2 a5,vb a6,.sl ⟨false,100⟩ 2 a7]]
def Q0x.o (xs:List AV):Option Q0x.A:=match xs with | [.agg [.v (.string a0),.v (.string a1),.sl ⟨true,9⟩ 1 a2,.sl ⟨true,95⟩ 3 a3,.sl ⟨true,97⟩ 4 a4,.sl ⟨true,111⟩ 2 a5,.v (.bool a6),.sl ⟨false,100⟩ 2 a7]]=>some (a0,a1,a2,a3,a4,a5,a6,a7) | _=>none
theorem Q0x.oi:∀ xs a,Q0x.o xs=some a→xs=Q0x.i a:=by
 intro xs a h
 unfold Q0x.o at h
 split at h
 ·cases h; rfl
 ·cases h
def Q0x.p (p:Q0x.T):AV:=vi p
def Q0x.q (x:AV):Option Q0x.T:=match x with | .v (.int .i64 p0)=>some p0 | _=>none
theorem Q0x.qi:∀ x p,Q0x.q x=some p→x=Q0x.p p:=by
 intro x p h
 unfold Q0x.q at h
 split at h
 ·cases h; rfl
 ·cases h
def Q0x.C {R:Type} (n:Nat) (f:FuncId) (xs:List AV):(AV→Option R)→Option R:=
 bif Nat.beq f 17 then Q04.via n xs else fun _=>none
theorem Q0x.tells {R:Type} (n:Nat):Tells (R:=R) Tryz.prog (Q0x.C n):=fun _ xs=>tells_at (Q04.tells1 n xs) (Tells1.none)
def Q0x.cut (r:Nat):Option Keep:=match r with  | _=>none
def Q0x.e (n:Nat) (a0 a1:ByteArray) (a2 a3 a4 a5:List AV) (a6:Bool) (a7:List AV):Option Int:=
 (Q04.F n a0 a1 a2 a3 a4 a5 a6 a7).bind fun p1=>
 some p1.2
def Q0x.E (n:Nat):Q0x.A→Option Q0x.T:=fun (a0,a1,a2,a3,a4,a5,a6,a7)=>Q0x.e n a0 a1 a2 a3 a4 a5 a6 a7
def Q0x.F (n:Nat) (a0 a1:ByteArray) (a2 a3 a4 a5:List AV) (a6:Bool) (a7:List AV):Option Int:=Q0x.e n a0 a1 a2 a3 a4 a5 a6 a7
def Q0x.FA (n:Nat):Q0x.A→Option Q0x.T:=Q0x.E n
theorem Q0x.hands (n:Nat):∀ a p,Q0x.FA n a=some p→HandsIn Tryz.prog 114 (Q0x.i a) (Q0x.p p):=
 pf_hands (C:=Q0x.C n) (cut:=Q0x.cut) (Z:=Empty) (t:=nofun) (s:=nofun) (e:=fun _=>Q0x.E n) (r:=fun _ z=>nomatch z) (n:=n) cfg mixed globs rfl Q0x.qi (Q0x.tells n) Tryz.func114 (by kernel_rfl) (by kernel_rfl) (fun rec a=>by kernel_rfl) (fun rec z=>nomatch z)
def Q0x.via {R:Type} (n:Nat):List AV→(AV→Option R)→Option R:=viaK (Q0x.FA n) Q0x.o Q0x.p
theorem Q0x.tells1 {R:Type} (n:Nat) (xs:List AV):Tells1 (R:=R) Tryz.prog 114 xs (Q0x.via n xs):=tells_via Q0x.oi (fun a=>by kernel_rfl) (Q0x.hands n) xs
end Go.Proofs.YtmpglmcjoelciaaGreatDoor.Ev
namespace Go.Proofs.YtmpglmcjoelciaaGreatDoor.Ev
open Go Go.Proofs Go.Proofs.Ev
set_option linter.unusedVariables false
set_option maxRecDepth 100000
abbrev Q44.A:=Int × Int × Int
abbrev Q44.T:=Int
def Q44.i:Q44.A→List AV:=fun (a0,a1,a2)=>[AV.agg [vi a0,vi a1,vi a2]]
def Q44.o (xs:List AV):Option Q44.A:=match xs with | [.agg [.v (.int .i64 a0),.v (.int .i64 a1),.v (.int .i64 a2)]]=>some (a0,a1,a2) | _=>none
theorem Q44.oi:∀ xs a,Q44.o xs=some a→xs=Q44.i a:=by
 intro xs a h
 unfold Q44.o at h
 split at h
 ·cases h; rfl
 ·cases h
def Q44.p (p:Q44.T):AV:=vi p
def Q44.q (x:AV):Option Q44.T:=match x with | .v (.int .i64 p0)=>some p0 | _=>none
theorem Q44.qi:∀ x p,Q44.q x=some p→x=Q44.p p:=by
 intro x p h
 unfold Q44.q at h
 split at h
 ·cases h; rfl
 ·cases h
def Q44.C {R:Type} (n:Nat) (f:FuncId) (xs:List AV):(AV→Option R)→Option R:=
 fun _=>none
theorem Q44.tells {R:Type} (n:Nat):Tells (R:=R) Tryz.prog (Q44.C n):=fun _ xs=>Tells1.none
def Q44.cut (r:Nat):Option Keep:=match r with  | _=>none
def Q44.e (n:Nat) (a0 a1 a2:Int):Option Int:=
 bif a0==1 then (let y1:Int:=IntKind.i64.wrap (Int.tdiv a1 2)
 some (IntKind.i64.wrap (y1+1))) else (bif a0==3 then (let y2:Int:=IntKind.i64.wrap (Int.tdiv a1 9)
 let y3:Int:=IntKind.i64.wrap ((2:Int)+(IntKind.i64.wrap (y2*2)))
 some y3) else (bif a0==4 then (some 16) else (some a1)))
def Q44.E (n:Nat):Q44.A→Option Q44.T:=fun (a0,a1,a2)=>Q44.e n a0 a1 a2
def Q44.F (n:Nat) (a0 a1 a2:Int):Option Int:=Q44.e n a0 a1 a2
def Q44.FA (n:Nat):Q44.A→Option Q44.T:=Q44.E n
theorem Q44.hands (n:Nat):∀ a p,Q44.FA n a=some p→HandsIn Tryz.prog 180 (Q44.i a) (Q44.p p):=
 pf_hands (C:=Q44.C n) (cut:=Q44.cut) (Z:=Empty) (t:=nofun) (s:=nofun) (e:=fun _=>Q44.E n) (r:=fun _ z=>nomatch z) (n:=n) cfg mixed globs rfl Q44.qi (Q44.tells n) Tryz.func180 (by kernel_rfl) (by kernel_rfl) (fun rec a=>by kernel_rfl) (fun rec z=>nomatch z)
def Q44.via {R:Type} (n:Nat):List AV→(AV→Option R)→Option R:=viaK (Q44.FA n) Q44.o Q44.p
theorem Q44.tells1 {R:Type} (n:Nat) (xs:List AV):Tells1 (R:=R) Tryz.prog 180 xs (Q44.via n xs):=tells_via Q44.oi (fun a=>by kernel_rfl) (Q44.hands n) xs
end Go.Proofs.YtmpglmcjoelciaaGreatDoor.Ev
namespace Go.Proofs.YtmpglmcjoelciaaGreatDoor.Ev
open Go Go.Proofs Go.Proofs.Ev
set_option linter.unusedVariables false
set_option maxRecDepth 100000
abbrev Q3w.A:=Int × Int × Int
abbrev Q3w.T:=Int × Int
def Q3w.i:Q3w.A→List AV:=fun (a0,a1,a2)=>[AV.agg [vi a0,vi a1,vi a2]]
def Q3w.o (xs:List AV):Option Q3w.A:=match xs with | [.agg [.v (.int .i64 a0),.v (.int .i64 a1),.v (.int .i64 a2)]]=>some (a0,a1,a2) | _=>none
theorem Q3w.oi:∀ xs a,Q3w.o xs=some a→xs=Q3w.i a:=by
 intro xs a h
 unfold Q3w.o at h
 split at h
 ·cases h; rfl
 ·cases h
def Q3w.p (p:Q3w.T):AV:=.tup [vi p.1,vi p.2]
def Q3w.q (x:AV):Option Q3w.T:=match x with | .tup [.v (.int .i64 p0),.v (.int .i64 p1)]=>some (p0,p1) | _=>none
theorem Q3w.qi:∀ x p,Q3w.q x=some p→x=Q3w.p p:=by
 intro x p h
 unfold Q3w.q at h
 split at h
 ·cases h; rfl
 ·cases h
def Q3w.C {R:Type} (n:Nat) (f:FuncId) (xs:List AV):(AV→Option R)→Option R:=
 bif Nat.beq f 84 then Q3t.via n xs else bif Nat.beq f 180 then Q44.via n xs else fun _=>none
theorem Q3w.tells {R:Type} (n:Nat):Tells (R:=R) Tryz.prog (Q3w.C n):=fun _ xs=>tells_at (Q3t.tells1 n xs) (tells_at (Q44.tells1 n xs) (Tells1.none))
def Q3w.cut (r:Nat):Option Keep:=match r with  | _=>none
def Q3w.e (n:Nat) (a0 a1 a2:Int):Option (Int × Int):=
 (Q3t.F n a0 a1 a2).bind fun p1=>
 bif p1 != 0 then (some (0,p1)) else ((Q44.F n a0 a1 a2).bind fun p2=>
 some (p2,0))
def Q3w.E (n:Nat):Q3w.A→Option Q3w.T:=fun (a0,a1,a2)=>Q3w.e n a0 a1 a2
def Q3w.F (n:Nat) (a0 a1 a2:Int):Option (Int × Int):=Q3w.e n a0 a1 a2
def Q3w.FA (n:Nat):Q3w.A→Option Q3w.T:=Q3w.E n
theorem Q3w.hands (n:Nat):∀ a p,Q3w.FA n a=some p→HandsIn Tryz.prog 159 (Q3w.i a) (Q3w.p p):=
 pf_hands (C:=Q3w.C n) (cut:=Q3w.cut) (Z:=Empty) (t:=nofun) (s:=nofun) (e:=fun _=>Q3w.E n) (r:=fun _ z=>nomatch z) (n:=n) cfg mixed globs rfl Q3w.qi (Q3w.tells n) Tryz.func159 (by kernel_rfl) (by kernel_rfl) (fun rec a=>by kernel_rfl) (fun rec z=>nomatch z)
def Q3w.via {R:Type} (n:Nat):List AV→(AV→Option R)→Option R:=viaK (Q3w.FA n) Q3w.o Q3w.p
theorem Q3w.tells1 {R:Type} (n:Nat) (xs:List AV):Tells1 (R:=R) Tryz.prog 159 xs (Q3w.via n xs):=tells_via Q3w.oi (fun a=>by kernel_rfl) (Q3w.hands n) xs
end Go.Proofs.YtmpglmcjoelciaaGreatDoor.Ev
namespace Go.Proofs.YtmpglmcjoelciaaGreatDoor.Ev
open Go Go.Proofs Go.Proofs.Ev
set_option linter.unusedVariables false
set_option maxRecDepth 100000
abbrev Q17.A:=List AV
abbrev Q17.T:=Int
def Q17.i:Q17.A→List AV:=fun a0=>[.sl ⟨true,125⟩ 4 a0]
def Q17.o (xs:List AV):Option Q17.A:=match xs with | [.sl ⟨true,125⟩ 4 a0]=>some a0 | _=>none
theorem Q17.oi:∀ xs a,Q17.o xs=some a→xs=Q17.i a:=by
 intro xs a h
 unfold Q17.o at h
 split at h
 ·cases h; rfl
 ·cases h
def Q17.p (p:Q17.T):AV:=vi p
def Q17.q (x:AV):Option Q17.T:=match x with | .v (.int .i64 p0)=>some p0 | _=>none
theorem Q17.qi:∀ x p,Q17.q x=some p→x=Q17.p p:=by
 intro x p h
 unfold Q17.q at h
 split at h
 ·cases h; rfl
 ·cases h
inductive Q17.Z where
 | z3 (z1:Int) (z2:List AV) (z3 z4:Int)
def Q17.C {R:Type} (n:Nat) (f:FuncId) (xs:List AV):(AV→Option R)→Option R:=
 bif Nat.beq f 159 then Q3w.via n xs else fun _=>none
theorem Q17.tells {R:Type} (n:Nat):Tells (R:=R) Tryz.prog (Q17.C n):=fun _ xs=>tells_at (Q3w.tells1 n xs) (Tells1.none)
def Q17.cut (r:Nat):Option Keep:=match r with | 3=>some ⟨[3,8,9,10],[]⟩ | _=>none
def Q17.t (z:Q17.Z):List Item:=(todoOf (match z with | .z3 _ _ _ _=>3) 1000 [.code (Tryz.f137.body.getD .skip)]).getD []
def Q17.s:Q17.Z→St
 | .z3 z1 z2 z3 z4=>⟨spr 25 0 [(3,vi z1),(8,.sl ⟨true,125⟩ 4 z2),(9,vi z3),(10,vi z4)],Mem.ofList [],0⟩
def Q17.r3 (n:Nat) (c:Q17.Z→Option Int) (z1:Int) (z2:List AV) (z3 z4:Int):Option Int:=
 bif decide (z4 < z3) then (bif decide ((0:Int)≤z4)&&decide (z4 < ((z2.length:Nat):Int)) then (withCons ((z2.getD ((z4).toNat) .undef).cells) fun h1 r2=>
 withStr h1 fun s3=>
 withCons r2 fun h4 r5=>
 withInt .i64 h4 fun x6=>
 withCons r5 fun h7 r8=>
 withInt .i64 h7 fun x9=>
 withCons r8 fun h10 r11=>
 withInt .i64 h10 fun x12=>
 (Q3w.F n x6 x9 x12).bind fun p13=>
 let y14:Int:=IntKind.i64.wrap (z1+p13.1)
 c (.z3 y14 z2 z3 (IntKind.i64.wrap (z4+1)))) else none) else (some z1)
def Q17.r (n:Nat) (c:Q17.Z→Option Int):Q17.Z→Option Int
 | .z3 z1 z2 z3 z4=>Q17.r3 n c z1 z2 z3 z4
def Q17.e (n:Nat) (c:Q17.Z→Option Int) (a0:List AV):Option Int:=
 c (.z3 0 a0 ((a0.length:Nat):Int) 0)
def Q17.E (n:Nat) (c:Q17.Z→Option Int):Q17.A→Option Q17.T:=fun a0=>Q17.e n c a0
def Q17.l (n:Nat):Nat→Q17.Z→Option Int:=loopL (Q17.r n)
def Q17.F (n:Nat) (a0:List AV):Option Int:=Q17.e n (Q17.l n n) a0
def Q17.FA (n:Nat):Q17.A→Option Q17.T:=Q17.E n (Q17.l n n)
theorem Q17.hands (n:Nat):∀ a p,Q17.FA n a=some p→HandsIn Tryz.prog 137 (Q17.i a) (Q17.p p):=
 pf_hands (C:=Q17.C n) (cut:=Q17.cut) (t:=Q17.t) (s:=Q17.s) (e:=Q17.E n) (r:=Q17.r n) (n:=n) cfg mixed globs rfl Q17.qi (Q17.tells n) Tryz.func137 (by kernel_rfl) (by kernel_rfl) (fun rec a=>by kernel_rfl) (fun rec z=>by cases z <;> kernel_rfl)
def Q17.via {R:Type} (n:Nat):List AV→(AV→Option R)→Option R:=viaK (Q17.FA n) Q17.o Q17.p
theorem Q17.tells1 {R:Type} (n:Nat) (xs:List AV):Tells1 (R:=R) Tryz.prog 137 xs (Q17.via n xs):=tells_via Q17.oi (fun a=>by kernel_rfl) (Q17.hands n) xs
end Go.Proofs.YtmpglmcjoelciaaGreatDoor.Ev
namespace Go.Proofs.YtmpglmcjoelciaaGreatDoor.Ev
open Go Go.Proofs Go.Proofs.Ev
set_option linter.unusedVariables false
set_option maxRecDepth 100000
abbrev Q0j.A:=ByteArray × ByteArray × List AV × List AV × Bool
abbrev Q0j.T:=Int
def Q0j.i:Q0j.A→List AV:=fun (a0,a1,a2,a3,a4)=>[AV.agg [vs a0,vs a1,.sl ⟨true,125⟩ 4 a2,.sl ⟨true,111⟩ 2 a3,vb a4]]
def Q0j.o (xs:List AV):Option Q0j.A:=match xs with | [.agg [.v (.string a0),.v (.string a1),.sl ⟨true,125⟩ 4 a2,.sl ⟨true,111⟩ 2 a3,.v (.bool a4)]]=>some (a0,a1,a2,a3,a4) | _=>none
theorem Q0j.oi:∀ xs a,Q0j.o xs=some a→xs=Q0j.i a:=by
 intro xs a h
 unfold Q0j.o at h
 split at h
 ·cases h; rfl
 ·cases h
def Q0j.p (p:Q0j.T):AV:=vi p
def Q0j.q (x:AV):Option Q0j.T:=match x with | .v (.int .i64 p0)=>some p0 | _=>none
theorem Q0j.qi:∀ x p,Q0j.q x=some p→x=Q0j.p p:=by
 intro x p h
 unfold Q0j.q at h
 split at h
 ·cases h; rfl
 ·cases h
inductive Q0j.Z where
 | z7 (z1 z2:List AV) (z3 z4:Int) (z5 z6:ByteArray) (z7 z8:List AV) (z9:Bool) (z10:List AV)
def Q0j.C {R:Type} (n:Nat) (f:FuncId) (xs:List AV):(AV→Option R)→Option R:=
 bif Nat.beq f 44 then Q0m.via n xs else bif Nat.beq f 45 then Q0f.via n xs else bif Nat.beq f 51 then Q0r.via n xs else bif Nat.beq f 56 then Q0w.via n xs else bif Nat.beq f 84 then Q3t.via n xs else bif Nat.beq f 99 then Q0y.via n xs else bif Nat.beq f 137 then Q17.via n xs else fun _=>none
theorem Q0j.tells {R:Type} (n:Nat):Tells (R:=R) Tryz.prog (Q0j.C n):=fun _ xs=>tells_at (Q0m.tells1 n xs) (tells_at (Q0f.tells1 n xs) (tells_at (Q0r.tells1 n xs) (tells_at (Q0w.tells1 n xs) (tells_at (Q3t.tells1 n xs) (tells_at (Q0y.tells1 n xs) (tells_at (Q17.tells1 n xs) (Tells1.none)))))))
def Q0j.cut (r:Nat):Option Keep:=match r with | 7=>some ⟨[1,3,5,38,39,40],[(5,none,⟨true,9⟩,1)]⟩ | _=>none
def Q0j.t (z:Q0j.Z):List Item:=(todoOf (match z with | .z7 _ _ _ _ _ _ _ _ _ _=>7) 1000 [.code (Tryz.f115.body.getD .skip)]).getD []
def Q0j.s:Q0j.Z→St
 | .z7 z1 z2 z3 z4 z5 z6 z7 z8 z9 z10=>⟨spr 78 0 [(1,.ptr 0 0),(3,.sl ⟨true,125⟩ 4 z1),(5,.own 1 0 none),(38,.sl ⟨true,125⟩ 4 z2),(39,vi z3),(40,vi z4)],Mem.ofList [.box 48 [vs z5,vs z6,.sl ⟨true,125⟩ 4 z7,.sl ⟨true,111⟩ 2 z8,vb z9],.row ⟨true,9⟩ 1 z10],2⟩
def Q0j.r7 (n:Nat) (c:Q0j.Z→Option Int) (z1 z2:List AV) (z3 z4:Int) (z5 z6:ByteArray) (z7 z8:List AV) (z9:Bool) (z10:List AV):Option Int:=
 bif decide (z4 < z3) then (bif decide ((0:Int)≤z4)&&decide (z4 < ((z2.length:Nat):Int)) then (withCons ((z2.getD ((z4).toNat) .undef).cells) fun h10 r11=>
 withStr h10 fun s12=>
 withCons r11 fun h13 r14=>
 withInt .i64 h13 fun x15=>
 withCons r14 fun h16 r17=>
 withInt .i64 h16 fun x18=>
 withCons r17 fun h19 r20=>
 withInt .i64 h19 fun x21=>
 (Q0y.F n s12 z10).bind fun p22=>
 (Q3t.F n x15 x18 x21).bind fun p23=>
 (Q0f.F n (x15==4) 17).bind fun p24=>
 (Q0m.F n [vi p22,vi p23,vi p24]).bind fun p25=>
 bif p25 != 0 then (some p25) else (bif decide (z10.length+[vs s12].length≤most) then (c (.z7 z1 z2 z3 (IntKind.i64.wrap (z4+1)) z5 z6 z7 z8 z9 (z10++[vs s12]))) else none)) else none) else ((Q17.F n z1).bind fun p26=>
 bif decide (p26 > 200) then (some 18) else ((Q0w.F n z8 z10).bind fun p27=>
 some p27.2))
def Q0j.r (n:Nat) (c:Q0j.Z→Option Int):Q0j.Z→Option Int
 | .z7 z1 z2 z3 z4 z5 z6 z7 z8 z9 z10=>Q0j.r7 n c z1 z2 z3 z4 z5 z6 z7 z8 z9 z10
def Q0j.e (n:Nat) (c:Q0j.Z→Option Int) (a0 a1:ByteArray) (a2 a3:List AV) (a4:Bool):Option Int:=
 (Q0r.F n a0).bind fun p1=>
 (Q0f.F n (!p1) 7).bind fun p2=>
 (Q0r.F n a1).bind fun p3=>
 (Q0f.F n (!p3) 7).bind fun p4=>
 let y5:Bool:=((a2.length:Nat):Int)==0
 (Q0f.F n y5 1).bind fun p6=>
 let y7:Bool:=decide (((a2.length:Nat):Int) > 20)
 (Q0f.F n y7 2).bind fun p8=>
 (Q0m.F n [vi p2,vi p4,vi p6,vi p8]).bind fun p9=>
 bif p9 != 0 then (some p9) else (c (.z7 a2 a2 ((a2.length:Nat):Int) 0 a0 a1 a2 a3 a4 []))
def Q0j.E (n:Nat) (c:Q0j.Z→Option Int):Q0j.A→Option Q0j.T:=fun (a0,a1,a2,a3,a4)=>Q0j.e n c a0 a1 a2 a3 a4
def Q0j.l (n:Nat):Nat→Q0j.Z→Option Int:=loopL (Q0j.r n)
def Q0j.F (n:Nat) (a0 a1:ByteArray) (a2 a3:List AV) (a4:Bool):Option Int:=Q0j.e n (Q0j.l n n) a0 a1 a2 a3 a4
def Q0j.FA (n:Nat):Q0j.A→Option Q0j.T:=Q0j.E n (Q0j.l n n)
theorem Q0j.hands (n:Nat):∀ a p,Q0j.FA n a=some p→HandsIn Tryz.prog 115 (Q0j.i a) (Q0j.p p):=
 pf_hands (C:=Q0j.C n) (cut:=Q0j.cut) (t:=Q0j.t) (s:=Q0j.s) (e:=Q0j.E n) (r:=Q0j.r n) (n:=n) cfg mixed globs rfl Q0j.qi (Q0j.tells n) Tryz.func115 (by kernel_rfl) (by kernel_rfl) (fun rec a=>by kernel_rfl) (fun rec z=>by cases z <;> kernel_rfl)
def Q0j.via {R:Type} (n:Nat):List AV→(AV→Option R)→Option R:=viaK (Q0j.FA n) Q0j.o Q0j.p
theorem Q0j.tells1 {R:Type} (n:Nat) (xs:List AV):Tells1 (R:=R) Tryz.prog 115 xs (Q0j.via n xs):=tells_via Q0j.oi (fun a=>by kernel_rfl) (Q0j.hands n) xs
end Go.Proofs.YtmpglmcjoelciaaGreatDoor.Ev
namespace Go.Proofs.YtmpglmcjoelciaaGreatDoor.Ev
open Go Go.Proofs Go.Proofs.Ev
set_option linter.unusedVariables false
set_option maxRecDepth 100000
abbrev Q0h.A:=Bool × ByteArray × ByteArray × List AV × List AV × Bool × ByteArray × ByteArray × List AV × List AV × List AV × List AV × Bool × List AV
abbrev Q0h.T:=Int
def Q0h.i:Q0h.A→List AV:=fun (a0,a1,a2,a3,a4,a5,a6,a7,a8,a9,a10,a11,a12,a13)=>[AV.agg [vb a0,vs a1,vs a2,.sl ⟨true,125⟩ 4 a3,.sl ⟨true,111⟩ 2 a4,vb a5,vs a6,vs a7,.sl ⟨true,9⟩ 1 a8,.sl ⟨true,95⟩ 3 a9,.sl ⟨true,97⟩ 4 a10,.sl ⟨true,111⟩ 2 a11,vb a12,.sl ⟨false,100⟩ 2 a13]]
def Q0h.o (xs:List AV):Option Q0h.A:=match xs with | [.agg [.v (.bool a0),.v (.string a1),.v (.string a2),.sl ⟨true,125⟩ 4 a3,.sl ⟨true,111⟩ 2 a4,.v (.bool a5),.v (.string a6),.v (.string a7),.sl ⟨true,9⟩ 1 a8,.sl ⟨true,95⟩ 3 a9,.sl ⟨true,97⟩ 4 a10,.sl ⟨true,111⟩ 2 a11,.v (.bool a12),.sl ⟨false,100⟩ 2 a13]]=>some (a0,a1,a2,a3,a4,a5,a6,a7,a8,a9,a10,a11,a12,a13) | _=>none
theorem Q0h.oi:∀ xs a,Q0h.o xs=some a→xs=Q0h.i a:=by
 intro xs a h
 unfold Q0h.o at h
 split at h
 ·cases h; rfl
 ·cases h
def Q0h.p (p:Q0h.T):AV:=vi p
def Q0h.q (x:AV):Option Q0h.T:=match x with | .v (.int .i64 p0)=>some p0 | _=>none
theorem Q0h.qi:∀ x p,Q0h.q x=some p→x=Q0h.p p:=by
 intro x p h
 unfold Q0h.q at h
 split at h
 ·cases h; rfl
 ·cases h
def Q0h.C {R:Type} (n:Nat) (f:FuncId) (xs:List AV):(AV→Option R)→Option R:=
 bif Nat.beq f 114 then Q0x.via n xs else bif Nat.beq f 115 then Q0j.via n xs else fun _=>none
theorem Q0h.tells {R:Type} (n:Nat):Tells (R:=R) Tryz.prog (Q0h.C n):=fun _ xs=>tells_at (Q0x.tells1 n xs) (tells_at (Q0j.tells1 n xs) (Tells1.none))
def Q0h.cut (r:Nat):Option Keep:=match r with  | _=>none
def Q0h.e (n:Nat) (a0:Bool) (a1 a2:ByteArray) (a3 a4:List AV) (a5:Bool) (a6 a7:ByteArray) (a8 a9 a10 a11:List AV) (a12:Bool) (a13:List AV):Option Int:=
 bif a0 then ((Q0x.F n a6 a7 a8 a9 a10 a11 a12 a13).bind fun p1=>
 some p1) else ((Q0j.F n a1 a2 a3 a4 a5).bind fun p2=>
 some p2)
def Q0h.E (n:Nat):Q0h.A→Option Q0h.T:=fun (a0,a1,a2,a3,a4,a5,a6,a7,a8,a9,a10,a11,a12,a13)=>Q0h.e n a0 a1 a2 a3 a4 a5 a6 a7 a8 a9 a10 a11 a12 a13
def Q0h.F (n:Nat) (a0:Bool) (a1 a2:ByteArray) (a3 a4:List AV) (a5:Bool) (a6 a7:ByteArray) (a8 a9 a10 a11:List AV) (a12:Bool) (a13:List AV):Option Int:=Q0h.e n a0 a1 a2 a3 a4 a5 a6 a7 a8 a9 a10 a11 a12 a13
def Q0h.FA (n:Nat):Q0h.A→Option Q0h.T:=Q0h.E n
theorem Q0h.hands (n:Nat):∀ a p,Q0h.FA n a=some p→HandsIn Tryz.prog 66 (Q0h.i a) (Q0h.p p):=
 pf_hands (C:=Q0h.C n) (cut:=Q0h.cut) (Z:=Empty) (t:=nofun) (s:=nofun) (e:=fun _=>Q0h.E n) (r:=fun _ z=>nomatch z) (n:=n) cfg mixed globs rfl Q0h.qi (Q0h.tells n) Tryz.func66 (by kernel_rfl) (by kernel_rfl) (fun rec a=>by kernel_rfl) (fun rec z=>nomatch z)
def Q0h.via {R:Type} (n:Nat):List AV→(AV→Option R)→Option R:=viaK (Q0h.FA n) Q0h.o Q0h.p
theorem Q0h.tells1 {R:Type} (n:Nat) (xs:List AV):Tells1 (R:=R) Tryz.prog 66 xs (Q0h.via n xs):=tells_via Q0h.oi (fun a=>by kernel_rfl) (Q0h.hands n) xs
end Go.Proofs.YtmpglmcjoelciaaGreatDoor.Ev
namespace Go.Proofs.YtmpglmcjoelciaaGreatDoor.Ev
open Go Go.Proofs Go.Proofs.Ev
set_option linter.unusedVariables false
set_option maxRecDepth 100000
abbrev Q0c.A:=List AV
abbrev Q0c.T:=Bool × ByteArray × ByteArray × List AV × List AV × Bool × ByteArray × ByteArray × List AV × List AV × List AV × List AV × Bool × List AV × Int × Int
def Q0c.i:Q0c.A→List AV:=fun a0=>[.sl ⟨true,9⟩ 1 a0]
def Q0c.o (xs:List AV):Option Q0c.A:=match xs with | [.sl ⟨true,9⟩ 1 a0]=>some a0 | _=>none
theorem Q0c.oi:∀ xs a,Q0c.o xs=some a→xs=Q0c.i a:=by
 intro xs a h
 unfold Q0c.o at h
 split at h
 ·cases h; rfl
 ·cases h
def Q0c.p (p:Q0c.T):AV:=.tup [AV.agg [vb p.1,vs p.2.1,vs p.2.2.1,.fr ⟨true,125⟩ 4 p.2.2.2.1,.fr ⟨true,111⟩ 2 p.2.2.2.2.1,vb p.2.2.2.2.2.1,vs p.2.2.2.2.2.2.1,vs p.2.2.2.2.2.2.2.1,.fr ⟨true,9⟩ 1 p.2.2.2.2.2.2.2.2.1,.fr ⟨true,95⟩ 3 p.2.2.2.2.2.2.2.2.2.1,.fr ⟨true,97⟩ 4 p.2.2.2.2.2.2.2.2.2.2.1,.fr ⟨true,111⟩ 2 p.2.2.2.2.2.2.2.2.2.2.2.1,vb p.2.2.2.2.2.2.2.2.2.2.2.2.1,.fr ⟨false,100⟩ 2 p.2.2.2.2.2.2.2.2.2.2.2.2.2.1],vi p.2.2.2.2.2.2.2.2.2.2.2.2.2.2.1,vi p.2.2.2.2.2.2.2.2.2.2.2.2.2.2.2]
def Q0c.q (x:AV):Option Q0c.T:=match x with | .tup [.agg [.v (.bool p0),.v (.string p1),.v (.string p2),.fr ⟨true,125⟩ 4 p3,.fr ⟨true,111⟩ 2 p4,.v (.bool p5),.v (.string p6),.v (.string p7),.fr ⟨true,9⟩ 1 p8,.fr ⟨true,95⟩ 3 p9,.fr ⟨true,97⟩ 4 p10,.fr ⟨true,111⟩ 2 p11,.v (.bool p12),.fr ⟨false,100⟩ 2 p13],.v (.int .i64 p14),.v (.int .i64 p15)]=>some (p0,p1,p2,p3,p4,p5,p6,p7,p8,p9,p10,p11,p12,p13,p14,p15) | _=>none
theorem Q0c.qi:∀ x p,Q0c.q x=some p→x=Q0c.p p:=by
 intro x p h
 unfold Q0c.q at h
 split at h
 ·cases h; rfl
 ·cases h
inductive Q0c.Z where
 | z6 (z1 z2:List AV) (z3 z4:Int) (z5:Bool) (z6 z7:ByteArray) (z8:Bool) (z9 z10:ByteArray) (z11 z12:Bool) (z13 z14:ByteArray) (z15:Bool) (z16 z17:ByteArray) (z18:Bool) (z19:Int) (z20 z21 z22 z23 z24 z25 z26:List AV)
def Q0c.C {R:Type} (n:Nat) (f:FuncId) (xs:List AV):(AV→Option R)→Option R:=
 bif Nat.beq f 13 then Q0d.via n xs else bif Nat.beq f 44 then Q0m.via n xs else bif Nat.beq f 45 then Q0f.via n xs else bif Nat.beq f 64 then Q1e.via n xs else bif Nat.beq f 65 then Q1b.via n xs else bif Nat.beq f 66 then Q0h.via n xs else fun _=>none
theorem Q0c.tells {R:Type} (n:Nat):Tells (R:=R) Tryz.prog (Q0c.C n):=fun _ xs=>tells_at (Q0d.tells1 n xs) (tells_at (Q0m.tells1 n xs) (tells_at (Q0f.tells1 n xs) (tells_at (Q1e.tells1 n xs) (tells_at (Q1b.tells1 n xs) (tells_at (Q0h.tells1 n xs) (Tells1.none))))))
def Q0c.cut (r:Nat):Option Keep:=match r with | 6=>some ⟨[0,2,6,29,30,31],[(6,some 3,⟨true,125⟩,4),(6,some 4,⟨true,111⟩,2),(6,some 8,⟨true,9⟩,1),(6,some 9,⟨true,95⟩,3),(6,some 10,⟨true,97⟩,4),(6,some 11,⟨true,111⟩,2),(6,some 13,⟨false,100⟩,2)]⟩ | _=>none
def Q0c.t (z:Q0c.Z):List Item:=(todoOf (match z with | .z6 _ _ _ _ _ _ _ _ _ _ _ _ _ _ _ _ _ _ _ _ _ _ _ _ _ _=>6) 1000 [.code (Tryz.f21.body.getD .skip)]).getD []
def Q0c.s:Q0c.Z→St
 | .z6 z1 z2 z3 z4 z5 z6 z7 z8 z9 z10 z11 z12 z13 z14 z15 z16 z17 z18 z19 z20 z21 z22 z23 z24 z25 z26=>⟨spr 76 0 [(0,.sl ⟨true,9⟩ 1 z1),(2,.ptr 0 0),(6,.ptr 1 0),(29,.sl ⟨true,9⟩ 1 z2),(30,vi z3),(31,vi z4)],Mem.ofList [.box 50 [vb z5,vs z6,vs z7,.v (.slice none 0 0),.v (.slice none 0 0),vb z8,vs z9,vs z10,.v (.slice none 0 0),.v (.slice none 0 0),.v (.slice none 0 0),.v (.slice none 0 0),vb z11,.v (.slice none 0 0)],.box 115 [vb z12,vs z13,vs z14,.own 2 0 none,.own 3 0 none,vb z15,vs z16,vs z17,.own 4 0 none,.own 5 0 none,.own 6 0 none,.own 7 0 none,vb z18,.own 8 0 none,vi z19],.row ⟨true,125⟩ 4 z20,.row ⟨true,111⟩ 2 z21,.row ⟨true,9⟩ 1 z22,.row ⟨true,95⟩ 3 z23,.row ⟨true,97⟩ 4 z24,.row ⟨true,111⟩ 2 z25,.row ⟨false,100⟩ 2 z26],9⟩
def Q0c.r6 (n:Nat) (c:Q0c.Z→Option Q0c.T) (z1 z2:List AV) (z3 z4:Int) (z5:Bool) (z6 z7:ByteArray) (z8:Bool) (z9 z10:ByteArray) (z11 z12:Bool) (z13 z14:ByteArray) (z15:Bool) (z16 z17:ByteArray) (z18:Bool) (z19:Int) (z20 z21 z22 z23 z24 z25 z26:List AV):Option Q0c.T:=
 bif decide (z4 < z3) then (bif decide ((0:Int)≤z4)&&decide (z4 < ((z2.length:Nat):Int)) then (withCons ((z2.getD ((z4).toNat) .undef).cells) fun h6 r7=>
 withStr h6 fun s8=>
 (Q0d.F n s8).bind fun p9=>
 bif p9.2 != 0 then (some (false,(⟨#[]⟩ : ByteArray),(⟨#[]⟩ : ByteArray),[],[],false,(⟨#[]⟩ : ByteArray),(⟨#[]⟩ : ByteArray),[],[],[],[],false,[],z4,p9.2)) else (bif z4==0 then ((Q1b.F n p9.1 z12 z13 z14 z15 z16 z17 z18 z19 z20 z21 z22 z23 z24 z25 z26).bind fun p10=>
 bif !p10.1 then (some (false,(⟨#[]⟩ : ByteArray),(⟨#[]⟩ : ByteArray),[],[],false,(⟨#[]⟩ : ByteArray),(⟨#[]⟩ : ByteArray),[],[],[],[],false,[],z4,8)) else (c (.z6 z1 z2 z3 (IntKind.i64.wrap (z4+1)) z5 z6 z7 z8 z9 z10 z11 p10.2.1 p10.2.2.1 p10.2.2.2.1 p10.2.2.2.2.1 p10.2.2.2.2.2.1 p10.2.2.2.2.2.2.1 p10.2.2.2.2.2.2.2.1 p10.2.2.2.2.2.2.2.2.1 p10.2.2.2.2.2.2.2.2.2.1 p10.2.2.2.2.2.2.2.2.2.2.1 p10.2.2.2.2.2.2.2.2.2.2.2.1 p10.2.2.2.2.2.2.2.2.2.2.2.2.1 p10.2.2.2.2.2.2.2.2.2.2.2.2.2.1 p10.2.2.2.2.2.2.2.2.2.2.2.2.2.2.1 p10.2.2.2.2.2.2.2.2.2.2.2.2.2.2.2))) else ((Q1e.F n p9.1 z12 z13 z14 z15 z16 z17 z18 z19 z20 z21 z22 z23 z24 z25 z26).bind fun p11=>
 bif !p11.1 then (some (false,(⟨#[]⟩ : ByteArray),(⟨#[]⟩ : ByteArray),[],[],false,(⟨#[]⟩ : ByteArray),(⟨#[]⟩ : ByteArray),[],[],[],[],false,[],z4,8)) else (c (.z6 z1 z2 z3 (IntKind.i64.wrap (z4+1)) z5 z6 z7 z8 z9 z10 z11 p11.2.1 p11.2.2.1 p11.2.2.2.1 p11.2.2.2.2.1 p11.2.2.2.2.2.1 p11.2.2.2.2.2.2.1 p11.2.2.2.2.2.2.2.1 p11.2.2.2.2.2.2.2.2.1 p11.2.2.2.2.2.2.2.2.2.1 p11.2.2.2.2.2.2.2.2.2.2.1 p11.2.2.2.2.2.2.2.2.2.2.2.1 p11.2.2.2.2.2.2.2.2.2.2.2.2.1 p11.2.2.2.2.2.2.2.2.2.2.2.2.2.1 p11.2.2.2.2.2.2.2.2.2.2.2.2.2.2.1 p11.2.2.2.2.2.2.2.2.2.2.2.2.2.2.2))))) else none) else (let y12:Bool:=((z1.length:Nat):Int)==1
 bif y12 then (some (false,(⟨#[]⟩ : ByteArray),(⟨#[]⟩ : ByteArray),[],[],false,(⟨#[]⟩ : ByteArray),(⟨#[]⟩ : ByteArray),[],[],[],[],false,[],1,9)) else ((Q0h.F n z12 z13 z14 z20 z21 z15 z16 z17 z22 z23 z24 z25 z18 z26).bind fun p13=>
 bif p13 != 0 then (some (false,(⟨#[]⟩ : ByteArray),(⟨#[]⟩ : ByteArray),[],[],false,(⟨#[]⟩ : ByteArray),(⟨#[]⟩ : ByteArray),[],[],[],[],false,[],0,p13)) else (some (z12,z13,z14,z20,z21,z15,z16,z17,z22,z23,z24,z25,z18,z26,0,0))))
def Q0c.r (n:Nat) (c:Q0c.Z→Option Q0c.T):Q0c.Z→Option Q0c.T
 | .z6 z1 z2 z3 z4 z5 z6 z7 z8 z9 z10 z11 z12 z13 z14 z15 z16 z17 z18 z19 z20 z21 z22 z23 z24 z25 z26=>Q0c.r6 n c z1 z2 z3 z4 z5 z6 z7 z8 z9 z10 z11 z12 z13 z14 z15 z16 z17 z18 z19 z20 z21 z22 z23 z24 z25 z26
def Q0c.e (n:Nat) (c:Q0c.Z→Option Q0c.T) (a0:List AV):Option Q0c.T:=
 let y1:Bool:=((a0.length:Nat):Int)==0
 (Q0f.F n y1 1).bind fun p2=>
 let y3:Bool:=decide (((a0.length:Nat):Int) > 100)
 (Q0f.F n y3 2).bind fun p4=>
 (Q0m.F n [vi p2,vi p4]).bind fun p5=>
 bif p5 != 0 then (some (false,(⟨#[]⟩ : ByteArray),(⟨#[]⟩ : ByteArray),[],[],false,(⟨#[]⟩ : ByteArray),(⟨#[]⟩ : ByteArray),[],[],[],[],false,[],0,p5)) else (c (.z6 a0 a0 ((a0.length:Nat):Int) 0 false (⟨#[]⟩ : ByteArray) (⟨#[]⟩ : ByteArray) false (⟨#[]⟩ : ByteArray) (⟨#[]⟩ : ByteArray) false false (⟨#[]⟩ : ByteArray) (⟨#[]⟩ : ByteArray) false (⟨#[]⟩ : ByteArray) (⟨#[]⟩ : ByteArray) false 0 [] [] [] [] [] [] []))
def Q0c.E (n:Nat) (c:Q0c.Z→Option Q0c.T):Q0c.A→Option Q0c.T:=fun a0=>Q0c.e n c a0
def Q0c.l (n:Nat):Nat→Q0c.Z→Option Q0c.T:=loopL (Q0c.r n)
def Q0c.F (n:Nat) (a0:List AV):Option Q0c.T:=Q0c.e n (Q0c.l n n) a0
def Q0c.FA (n:Nat):Q0c.A→Option Q0c.T:=Q0c.E n (Q0c.l n n)
theorem Q0c.hands (n:Nat):∀ a p,Q0c.FA n a=some p→HandsIn Tryz.prog 21 (Q0c.i a) (Q0c.p p):=
 pf_hands (C:=Q0c.C n) (cut:=Q0c.cut) (t:=Q0c.t) (s:=Q0c.s) (e:=Q0c.E n) (r:=Q0c.r n) (n:=n) cfg mixed globs rfl Q0c.qi (Q0c.tells n) Tryz.func21 (by kernel_rfl) (by kernel_rfl) (fun rec a=>by kernel_rfl) (fun rec z=>by cases z <;> kernel_rfl)
def Q0c.via {R:Type} (n:Nat):List AV→(AV→Option R)→Option R:=viaK (Q0c.FA n) Q0c.o Q0c.p
theorem Q0c.tells1 {R:Type} (n:Nat) (xs:List AV):Tells1 (R:=R) Tryz.prog 21 xs (Q0c.via n xs):=tells_via Q0c.oi (fun a=>by kernel_rfl) (Q0c.hands n) xs
end Go.Proofs.YtmpglmcjoelciaaGreatDoor.Ev
namespace Go.Proofs.YtmpglmcjoelciaaGreatDoor.Ev
open Go Go.Proofs Go.Proofs.Ev
set_option linter.unusedVariables false
set_option maxRecDepth 100000
abbrev Q3e.A:=ByteArray
abbrev Q3e.T:=Bool
def Q3e.i:Q3e.A→List AV:=fun a0=>[vs a0]
def Q3e.o (xs:List AV):Option Q3e.A:=match xs with | [.v (.string a0)]=>some a0 | _=>none
theorem Q3e.oi:∀ xs a,Q3e.o xs=some a→xs=Q3e.i a:=by
 intro xs a h
 unfold Q3e.o at h
 split at h
 ·cases h; rfl
 ·cases h
def Q3e.p (p:Q3e.T):AV:=vb p
def Q3e.q (x:AV):Option Q3e.T:=match x with | .v (.bool p0)=>some p0 | _=>none
theorem Q3e.qi:∀ x p,Q3e.q x=some p→x=Q3e.p p:=by
 intro x p h
 unfold Q3e.q at h
 split at h
 ·cases h; rfl
 ·cases h
def Q3e.C {R:Type} (n:Nat) (f:FuncId) (xs:List AV):(AV→Option R)→Option R:=
 fun _=>none
theorem Q3e.tells {R:Type} (n:Nat):Tells (R:=R) Tryz.prog (Q3e.C n):=fun _ xs=>Tells1.none
def Q3e.cut (r:Nat):Option Keep:=match r with  | _=>none
def Q3e.e (n:Nat) (a0:ByteArray):Option Bool:=
 bif decide ((0:Int) < (a0.size:Nat)) then (let y1:Int:=(((a0.data.getD 0 0).toNat:Nat):Int)
 some (y1 != 39)) else none
def Q3e.E (n:Nat):Q3e.A→Option Q3e.T:=fun a0=>Q3e.e n a0
def Q3e.F (n:Nat) (a0:ByteArray):Option Bool:=Q3e.e n a0
def Q3e.FA (n:Nat):Q3e.A→Option Q3e.T:=Q3e.E n
theorem Q3e.hands (n:Nat):∀ a p,Q3e.FA n a=some p→HandsIn Tryz.prog 116 (Q3e.i a) (Q3e.p p):=
 pf_hands (C:=Q3e.C n) (cut:=Q3e.cut) (Z:=Empty) (t:=nofun) (s:=nofun) (e:=fun _=>Q3e.E n) (r:=fun _ z=>nomatch z) (n:=n) cfg mixed globs rfl Q3e.qi (Q3e.tells n) Tryz.func116 (by kernel_rfl) (by kernel_rfl) (fun rec a=>by kernel_rfl) (fun rec z=>nomatch z)
def Q3e.via {R:Type} (n:Nat):List AV→(AV→Option R)→Option R:=viaK (Q3e.FA n) Q3e.o Q3e.p
theorem Q3e.tells1 {R:Type} (n:Nat) (xs:List AV):Tells1 (R:=R) Tryz.prog 116 xs (Q3e.via n xs):=tells_via Q3e.oi (fun a=>by kernel_rfl) (Q3e.hands n) xs
end Go.Proofs.YtmpglmcjoelciaaGreatDoor.Ev
namespace Go.Proofs.YtmpglmcjoelciaaGreatDoor.Ev
open Go Go.Proofs Go.Proofs.Ev
set_option linter.unusedVariables false
set_option maxRecDepth 100000
abbrev Q3h.A:=ByteArray
abbrev Q3h.T:=Int × Bool
def Q3h.i:Q3h.A→List AV:=fun a0=>[vs a0]
def Q3h.o (xs:List AV):Option Q3h.A:=match xs with | [.v (.string a0)]=>some a0 | _=>none
theorem Q3h.oi:∀ xs a,Q3h.o xs=some a→xs=Q3h.i a:=by
 intro xs a h
 unfold Q3h.o at h
 split at h
 ·cases h; rfl
 ·cases h
def Q3h.p (p:Q3h.T):AV:=.tup [vi p.1,vb p.2]
def Q3h.q (x:AV):Option Q3h.T:=match x with | .tup [.v (.int .i64 p0),.v (.bool p1)]=>some (p0,p1) | _=>none
theorem Q3h.qi:∀ x p,Q3h.q x=some p→x=Q3h.p p:=by
 intro x p h
 unfold Q3h.q at h
 split at h
 ·cases h; rfl
 ·cases h
inductive Q3h.Z where
 | z3 (z1:ByteArray)
def Q3h.C {R:Type} (n:Nat) (f:FuncId) (xs:List AV):(AV→Option R)→Option R:=
 bif Nat.beq f 130 then Q1v.via n xs else fun _=>none
theorem Q3h.tells {R:Type} (n:Nat):Tells (R:=R) Tryz.prog (Q3h.C n):=fun _ xs=>tells_at (Q1v.tells1 n xs) (Tells1.none)
def Q3h.cut (r:Nat):Option Keep:=match r with | 3=>some ⟨[0],[]⟩ | _=>none
def Q3h.t (z:Q3h.Z):List Item:=(todoOf (match z with | .z3 _=>3) 1000 [.code (Tryz.f117.body.getD .skip)]).getD []
def Q3h.s:Q3h.Z→St
 | .z3 z1=>⟨spr 21 0 [(0,vs z1)],Mem.ofList [],0⟩
def Q3h.r3 (n:Nat) (c:Q3h.Z→Option (Int × Bool)) (z1:ByteArray):Option (Int × Bool):=
 (Q1v.F n z1).bind fun p4=>
 some (p4.1,p4.2)
def Q3h.r (n:Nat) (c:Q3h.Z→Option (Int × Bool)):Q3h.Z→Option (Int × Bool)
 | .z3 z1=>Q3h.r3 n c z1
def Q3h.e (n:Nat) (c:Q3h.Z→Option (Int × Bool)) (a0:ByteArray):Option (Int × Bool):=
 let y1:Bool:=decide (((a0.size:Nat):Int) > 1)
 bif y1 then (bif decide ((0:Int) < (a0.size:Nat)) then (let y2:Int:=(((a0.data.getD 0 0).toNat:Nat):Int)
 bif y2==45 then (bif decide ((0:Int)≤1)&&decide ((1:Int)≤((a0.size:Nat):Int)) then (let y3:Bool:=(a0.extract 1 a0.size).toList==(⟨#[48]⟩ : ByteArray).toList
 bif y3 then (some (0,true)) else (c (.z3 a0))) else none) else (c (.z3 a0))) else none) else (c (.z3 a0))
def Q3h.E (n:Nat) (c:Q3h.Z→Option (Int × Bool)):Q3h.A→Option Q3h.T:=fun a0=>Q3h.e n c a0
def Q3h.l (n:Nat):Nat→Q3h.Z→Option (Int × Bool):=loopL (Q3h.r n)
def Q3h.F (n:Nat) (a0:ByteArray):Option (Int × Bool):=Q3h.e n (Q3h.l n n) a0
def Q3h.FA (n:Nat):Q3h.A→Option Q3h.T:=Q3h.E n (Q3h.l n n)
theorem Q3h.hands (n:Nat):∀ a p,Q3h.FA n a=some p→HandsIn Tryz.prog 117 (Q3h.i a) (Q3h.p p):=
 pf_hands (C:=Q3h.C n) (cut:=Q3h.cut) (t:=Q3h.t) (s:=Q3h.s) (e:=Q3h.E n) (r:=Q3h.r n) (n:=n) cfg mixed globs rfl Q3h.qi (Q3h.tells n) Tryz.func117 (by kernel_rfl) (by kernel_rfl) (fun rec a=>by kernel_rfl) (fun rec z=>by cases z <;> kernel_rfl)
def Q3h.via {R:Type} (n:Nat):List AV→(AV→Option R)→Option R:=viaK (Q3h.FA n) Q3h.o Q3h.p
theorem Q3h.tells1 {R:Type} (n:Nat) (xs:List AV):Tells1 (R:=R) Tryz.prog 117 xs (Q3h.via n xs):=tells_via Q3h.oi (fun a=>by kernel_rfl) (Q3h.hands n) xs
end Go.Proofs.YtmpglmcjoelciaaGreatDoor.Ev
namespace Go.Proofs.YtmpglmcjoelciaaGreatDoor.Ev
open Go Go.Proofs Go.Proofs.Ev
set_option linter.unusedVariables false
set_option maxRecDepth 100000
abbrev Q3a.A:=List AV × Bool × ByteArray × ByteArray × Bool × ByteArray × ByteArray × Bool × List AV × List AV × List AV × List AV × List AV × List AV × List AV
abbrev Q3a.T:=Bool × Bool × ByteArray × ByteArray × Bool × ByteArray × ByteArray × Bool × List AV × List AV × List AV × List AV × List AV × List AV × List AV
def Q3a.i:Q3a.A→List AV:=fun (a0,a1,a2,a3,a4,a5,a6,a7,a8,a9,a10,a11,a12,a13,a14)=>[.ptr 0 0,.sl ⟨true,9⟩ 1 a0]
def Q3a.b:Q3a.A→List AV:=fun (a0,a1,a2,a3,a4,a5,a6,a7,a8,a9,a10,a11,a12,a13,a14)=>[.fn 50 [vb a1,vs a2,vs a3,.own 1 0 none,.own 2 0 none,vb a4,vs a5,vs a6,.own 3 0 none,.own 4 0 none,.own 5 0 none,.own 6 0 none,vb a7,.own 7 0 none],.fr ⟨true,125⟩ 4 a8,.fr ⟨true,111⟩ 2 a9,.fr ⟨true,9⟩ 1 a10,.fr ⟨true,95⟩ 3 a11,.fr ⟨true,97⟩ 4 a12,.fr ⟨true,111⟩ 2 a13,.fr ⟨false,100⟩ 2 a14]
def Q3a.o (xs:List AV):Option Q3a.A:=match xs with | [.ptr 0 0,.sl ⟨true,9⟩ 1 a0,.tup [.fn 50 [.v (.bool a1),.v (.string a2),.v (.string a3),.own 1 0 none,.own 2 0 none,.v (.bool a4),.v (.string a5),.v (.string a6),.own 3 0 none,.own 4 0 none,.own 5 0 none,.own 6 0 none,.v (.bool a7),.own 7 0 none],.fr ⟨true,125⟩ 4 a8,.fr ⟨true,111⟩ 2 a9,.fr ⟨true,9⟩ 1 a10,.fr ⟨true,95⟩ 3 a11,.fr ⟨true,97⟩ 4 a12,.fr ⟨true,111⟩ 2 a13,.fr ⟨false,100⟩ 2 a14]]=>some (a0,a1,a2,a3,a4,a5,a6,a7,a8,a9,a10,a11,a12,a13,a14) | _=>none
theorem Q3a.oi:∀ xs a,Q3a.o xs=some a→xs=Q3a.i a++[.tup (Q3a.b a)]:=by
 intro xs a h
 unfold Q3a.o at h
 split at h
 ·cases h; rfl
 ·cases h
def Q3a.y (p:Q3a.T):AV:=vb p.1
def Q3a.w (p:Q3a.T):List AV:=[.fn 50 [vb p.2.1,vs p.2.2.1,vs p.2.2.2.1,.own 1 0 none,.own 2 0 none,vb p.2.2.2.2.1,vs p.2.2.2.2.2.1,vs p.2.2.2.2.2.2.1,.own 3 0 none,.own 4 0 none,.own 5 0 none,.own 6 0 none,vb p.2.2.2.2.2.2.2.1,.own 7 0 none],.fr ⟨true,125⟩ 4 p.2.2.2.2.2.2.2.2.1,.fr ⟨true,111⟩ 2 p.2.2.2.2.2.2.2.2.2.1,.fr ⟨true,9⟩ 1 p.2.2.2.2.2.2.2.2.2.2.1,.fr ⟨true,95⟩ 3 p.2.2.2.2.2.2.2.2.2.2.2.1,.fr ⟨true,97⟩ 4 p.2.2.2.2.2.2.2.2.2.2.2.2.1,.fr ⟨true,111⟩ 2 p.2.2.2.2.2.2.2.2.2.2.2.2.2.1,.fr ⟨false,100⟩ 2 p.2.2.2.2.2.2.2.2.2.2.2.2.2.2]
def Q3a.p (p:Q3a.T):AV:=.tup [Q3a.y p,.tup (Q3a.w p)]
def Q3a.q (x:AV):Option Q3a.T:=match x with | .tup [.v (.bool p0),.tup [.fn 50 [.v (.bool p1),.v (.string p2),.v (.string p3),.own 1 0 none,.own 2 0 none,.v (.bool p4),.v (.string p5),.v (.string p6),.own 3 0 none,.own 4 0 none,.own 5 0 none,.own 6 0 none,.v (.bool p7),.own 7 0 none],.fr ⟨true,125⟩ 4 p8,.fr ⟨true,111⟩ 2 p9,.fr ⟨true,9⟩ 1 p10,.fr ⟨true,95⟩ 3 p11,.fr ⟨true,97⟩ 4 p12,.fr ⟨true,111⟩ 2 p13,.fr ⟨false,100⟩ 2 p14]]=>some (p0,p1,p2,p3,p4,p5,p6,p7,p8,p9,p10,p11,p12,p13,p14) | _=>none
theorem Q3a.qi:∀ x p,Q3a.q x=some p→x=Q3a.p p:=by
 intro x p h
 unfold Q3a.q at h
 split at h
 ·cases h; rfl
 ·cases h
def Q3a.C {R:Type} (n:Nat) (f:FuncId) (xs:List AV):(AV→Option R)→Option R:=
 bif Nat.beq f 31 then Q37.via n xs else bif Nat.beq f 116 then Q3e.via n xs else bif Nat.beq f 117 then Q3h.via n xs else fun _=>none
theorem Q3a.tells {R:Type} (n:Nat):Tells (R:=R) Tryz.prog (Q3a.C n):=fun _ xs=>tells_at (Q37.tells1 n xs) (tells_at (Q3e.tells1 n xs) (tells_at (Q3h.tells1 n xs) (Tells1.none)))
def Q3a.cut (r:Nat):Option Keep:=match r with  | _=>none
def Q3a.e (n:Nat) (a0:List AV) (a1:Bool) (a2 a3:ByteArray) (a4:Bool) (a5 a6:ByteArray) (a7:Bool) (a8 a9 a10 a11 a12 a13 a14:List AV):Option Q3a.T:=
 let y1:Bool:=decide (((a0.length:Nat):Int) < 3)
 bif y1 then (some (false,a1,a2,a3,a4,a5,a6,a7,a8,a9,a10,a11,a12,a13,a14)) else (bif decide ((1:Int) < (a0.length:Nat)) then (withCons ((a0.getD 1 .undef).cells) fun h2 r3=>
 withStr h2 fun s4=>
 (Q3e.F n s4).bind fun p5=>
 bif !p5 then (some (false,a1,a2,a3,a4,a5,a6,a7,a8,a9,a10,a11,a12,a13,a14)) else (bif !a1 then (bif decide ((2:Int) < (a0.length:Nat)) then (withCons ((a0.getD 2 .undef).cells) fun h6 r7=>
 withStr h6 fun s8=>
 (Q37.F n s8).bind fun p9=>
 bif decide ((1:Int) < (a0.length:Nat)) then (withCons ((a0.getD 1 .undef).cells) fun h10 r11=>
 withStr h10 fun s12=>
 let y13:List AV:=[AV.agg [vs s12,vi p9.1,vi p9.2.1,vi p9.2.2.1]]
 bif decide (a8.length+y13.length≤most) then (bif p9.2.2.2 then (let y14:Bool:=((a0.length:Nat):Int)==3
 some (y14,a1,a2,a3,a4,a5,a6,a7,a8++y13,a9,a10,a11,a12,a13,a14)) else (some (false,a1,a2,a3,a4,a5,a6,a7,a8++y13,a9,a10,a11,a12,a13,a14))) else none) else none) else none) else (let y15:Bool:=((a0.length:Nat):Int) != 4
 bif y15 then (some (false,a1,a2,a3,a4,a5,a6,a7,a8,a9,a10,a11,a12,a13,a14)) else (bif decide ((3:Int) < (a0.length:Nat)) then (withCons ((a0.getD 3 .undef).cells) fun h16 r17=>
 withStr h16 fun s18=>
 (Q3e.F n s18).bind fun p19=>
 bif !p19 then (some (false,a1,a2,a3,a4,a5,a6,a7,a8,a9,a10,a11,a12,a13,a14)) else (bif decide ((2:Int) < (a0.length:Nat)) then (withCons ((a0.getD 2 .undef).cells) fun h20 r21=>
 withStr h20 fun s22=>
 (Q3h.F n s22).bind fun p23=>
 bif decide ((1:Int) < (a0.length:Nat)) then (withCons ((a0.getD 1 .undef).cells) fun h24 r25=>
 withStr h24 fun s26=>
 bif decide ((3:Int) < (a0.length:Nat)) then (withCons ((a0.getD 3 .undef).cells) fun h27 r28=>
 withStr h27 fun s29=>
 let y30:List AV:=[AV.agg [vs s26,vi p23.1,vs s29]]
 bif decide (a11.length+y30.length≤most) then (some (p23.2,a1,a2,a3,a4,a5,a6,a7,a8,a9,a10,a11++y30,a12,a13,a14)) else none) else none) else none) else none)) else none)))) else none)
def Q3a.E (n:Nat):Q3a.A→Option Q3a.T:=fun (a0,a1,a2,a3,a4,a5,a6,a7,a8,a9,a10,a11,a12,a13,a14)=>Q3a.e n a0 a1 a2 a3 a4 a5 a6 a7 a8 a9 a10 a11 a12 a13 a14
def Q3a.F (n:Nat) (a0:List AV) (a1:Bool) (a2 a3:ByteArray) (a4:Bool) (a5 a6:ByteArray) (a7:Bool) (a8 a9 a10 a11 a12 a13 a14:List AV):Option Q3a.T:=Q3a.e n a0 a1 a2 a3 a4 a5 a6 a7 a8 a9 a10 a11 a12 a13 a14
def Q3a.FA (n:Nat):Q3a.A→Option Q3a.T:=Q3a.E n
def Q3a.nils:List (Nat × Nat × Fl × Nat):=[]
theorem Q3a.hands (n:Nat):∀ a p,Q3a.FA n a=some p→HandsMIn Tryz.prog 118 (Q3a.i a) (Q3a.b a) (Q3a.y p) (Q3a.w p):=
 pfM_hands (G:=Gk 1) (C:=Q3a.C n) (cut:=Q3a.cut) (Z:=Empty) (t:=nofun) (s:=nofun) (nils:=Q3a.nils) (e:=fun _=>Q3a.E n) (r:=fun _ z=>nomatch z) (n:=n) (cfg.kb 1) mixed globs Q3a.qi (fun a=>by kernel_rfl) (Q3a.tells n) Tryz.func118 (by kernel_rfl) (by kernel_rfl) (fun rec a=>by kernel_rfl) (fun rec z=>nomatch z)
def Q3a.via {R:Type} (n:Nat):List AV→(AV→Option R)→Option R:=viaK (Q3a.FA n) Q3a.o Q3a.p
theorem Q3a.tells1 {R:Type} (n:Nat) (xs:List AV):Tells1 (R:=R) Tryz.prog 118 xs (Q3a.via n xs):=tells_viaM (fun _=>rfl) Q3a.oi (Q3a.hands n) xs
end Go.Proofs.YtmpglmcjoelciaaGreatDoor.Ev
namespace Go.Proofs.YtmpglmcjoelciaaGreatDoor.Ev
open Go Go.Proofs Go.Proofs.Ev
set_option linter.unusedVariables false
set_option maxRecDepth 100000
abbrev Q3i.A:=Unit
abbrev Q3i.T:=List AV
def Q3i.i:Q3i.A→List AV:=fun _=>[]
def Q3i.o (xs:List AV):Option Q3i.A:=match xs with | []=>some () | _=>none
theorem Q3i.oi:∀ xs a,Q3i.o xs=some a→xs=Q3i.i a:=by
 intro xs a h
 unfold Q3i.o at h
 split at h
 ·cases h; rfl
 ·cases h
def Q3i.p (p:Q3i.T):AV:=.fr ⟨true,9⟩ 1 p
def Q3i.q (x:AV):Option Q3i.T:=match x with | .fr ⟨true,9⟩ 1 p0=>some p0 | _=>none
theorem Q3i.qi:∀ x p,Q3i.q x=some p→x=Q3i.p p:=by
 intro x p h
 unfold Q3i.q at h
 split at h
 ·cases h; rfl
 ·cases h
def Q3i.C {R:Type} (n:Nat) (f:FuncId) (xs:List AV):(AV→Option R)→Option R:=
 fun _=>none
theorem Q3i.tells {R:Type} (n:Nat):Tells (R:=R) Tryz.prog (Q3i.C n):=fun _ xs=>Tells1.none
def Q3i.cut (r:Nat):Option Keep:=match r with  | _=>none
def Q3i.e (n:Nat)  : Option (List AV):=
 some [vs (⟨#[69,81]⟩ : ByteArray),vs (⟨#[78,69]⟩ : ByteArray),vs (⟨#[76,84]⟩ : ByteArray),vs (⟨#[76,69]⟩ : ByteArray),vs (⟨#[71,84]⟩ : ByteArray),vs (⟨#[71,69]⟩ : ByteArray)]
def Q3i.E (n:Nat):Q3i.A→Option Q3i.T:=fun _=>Q3i.e n
def Q3i.F (n:Nat)  : Option (List AV):=Q3i.e n
def Q3i.FA (n:Nat):Q3i.A→Option Q3i.T:=Q3i.E n
theorem Q3i.hands (n:Nat):∀ a p,Q3i.FA n a=some p→HandsIn Tryz.prog 124 (Q3i.i a) (Q3i.p p):=
 pf_hands (C:=Q3i.C n) (cut:=Q3i.cut) (Z:=Empty) (t:=nofun) (s:=nofun) (e:=fun _=>Q3i.E n) (r:=fun _ z=>nomatch z) (n:=n) cfg mixed globs rfl Q3i.qi (Q3i.tells n) Tryz.func124 (by kernel_rfl) (by kernel_rfl) (fun rec a=>by kernel_rfl) (fun rec z=>nomatch z)
def Q3i.via {R:Type} (n:Nat):List AV→(AV→Option R)→Option R:=viaK (Q3i.FA n) Q3i.o Q3i.p
theorem Q3i.tells1 {R:Type} (n:Nat) (xs:List AV):Tells1 (R:=R) Tryz.prog 124 xs (Q3i.via n xs):=tells_via Q3i.oi (fun a=>by kernel_rfl) (Q3i.hands n) xs
end Go.Proofs.YtmpglmcjoelciaaGreatDoor.Ev
namespace Go.Proofs.YtmpglmcjoelciaaGreatDoor.Ev
open Go Go.Proofs Go.Proofs.Ev
set_option linter.unusedVariables false
set_option maxRecDepth 100000
abbrev Q3q.A:=ByteArray
abbrev Q3q.T:=ByteArray
def Q3q.i:Q3q.A→List AV:=fun a0=>[vs a0]
def Q3q.o (xs:List AV):Option Q3q.A:=match xs with | [.v (.string a0)]=>some a0 | _=>none
theorem Q3q.oi:∀ xs a,Q3q.o xs=some a→xs=Q3q.i a:=by
 intro xs a h
 unfold Q3q.o at h
 split at h
 ·cases h; rfl
 ·cases h
def Q3q.p (p:Q3q.T):AV:=vs p
def Q3q.q (x:AV):Option Q3q.T:=match x with | .v (.string p0)=>some p0 | _=>none
theorem Q3q.qi:∀ x p,Q3q.q x=some p→x=Q3q.p p:=by
 intro x p h
 unfold Q3q.q at h
 split at h
 ·cases h; rfl
 ·cases h
inductive Q3q.Z where
 | z3 (z1 z2:ByteArray) (z3:Int)
def Q3q.C {R:Type} (n:Nat) (f:FuncId) (xs:List AV):(AV→Option R)→Option R:=
 fun _=>none
theorem Q3q.tells {R:Type} (n:Nat):Tells (R:=R) Tryz.prog (Q3q.C n):=fun _ xs=>Tells1.none
def Q3q.cut (r:Nat):Option Keep:=match r with | 3=>some ⟨[0,3,4],[]⟩ | _=>none
def Q3q.t (z:Q3q.Z):List Item:=(todoOf (match z with | .z3 _ _ _=>3) 1000 [.code (Tryz.f167.body.getD .skip)]).getD []
def Q3q.s:Q3q.Z→St
 | .z3 z1 z2 z3=>⟨spr 26 0 [(0,vs z1),(3,vs z2),(4,vi z3)],Mem.ofList [],0⟩
def Q3q.r3 (n:Nat) (c:Q3q.Z→Option ByteArray) (z1 z2:ByteArray) (z3:Int):Option ByteArray:=
 let y1:Int:=IntKind.i64.wrap (((z1.size:Nat):Int) - 1)
 bif decide (z3 < y1) then (bif decide ((0:Int)≤IntKind.i64.wrap (z3+1))&&decide ((IntKind.i64.wrap (z3+1):Int)≤((z1.size:Nat):Int)) then (bif decide ((0:Int)≤z3)&&decide ((z3:Int)≤IntKind.i64.wrap (z3+1)) then (let y2:ByteArray:=z1.extract (z3).toNat (IntKind.i64.wrap (z3+1)).toNat
 chk (decide (z2.size+y2.size≤9223372036854775807)) (bif decide ((0:Int)≤z3)&&decide (z3 < ((z1.size:Nat):Int)) then (let y3:Int:=(((z1.data.getD ((z3).toNat) 0).toNat:Nat):Int)
 bif y3==39 then (let y4:Int:=IntKind.i64.wrap ((IntKind.i64.wrap (z3+1))+1)
 c (.z3 z1 (z2++y2) y4)) else (c (.z3 z1 (z2++y2) (IntKind.i64.wrap (z3+1))))) else none)) else none) else none) else (some z2)
def Q3q.r (n:Nat) (c:Q3q.Z→Option ByteArray):Q3q.Z→Option ByteArray
 | .z3 z1 z2 z3=>Q3q.r3 n c z1 z2 z3
def Q3q.e (n:Nat) (c:Q3q.Z→Option ByteArray) (a0:ByteArray):Option ByteArray:=
 c (.z3 a0 (⟨#[]⟩ : ByteArray) 1)
def Q3q.E (n:Nat) (c:Q3q.Z→Option ByteArray):Q3q.A→Option Q3q.T:=fun a0=>Q3q.e n c a0
def Q3q.l (n:Nat):Nat→Q3q.Z→Option ByteArray:=loopL (Q3q.r n)
def Q3q.F (n:Nat) (a0:ByteArray):Option ByteArray:=Q3q.e n (Q3q.l n n) a0
def Q3q.FA (n:Nat):Q3q.A→Option Q3q.T:=Q3q.E n (Q3q.l n n)
theorem Q3q.hands (n:Nat):∀ a p,Q3q.FA n a=some p→HandsIn Tryz.prog 167 (Q3q.i a) (Q3q.p p):=
 pf_hands (C:=Q3q.C n) (cut:=Q3q.cut) (t:=Q3q.t) (s:=Q3q.s) (e:=Q3q.E n) (r:=Q3q.r n) (n:=n) cfg mixed globs rfl Q3q.qi (Q3q.tells n) Tryz.func167 (by kernel_rfl) (by kernel_rfl) (fun rec a=>by kernel_rfl) (fun rec z=>by cases z <;> kernel_rfl)
def Q3q.via {R:Type} (n:Nat):List AV→(AV→Option R)→Option R:=viaK (Q3q.FA n) Q3q.o Q3q.p
theorem Q3q.tells1 {R:Type} (n:Nat) (xs:List AV):Tells1 (R:=R) Tryz.prog 167 xs (Q3q.via n xs):=tells_via Q3q.oi (fun a=>by kernel_rfl) (Q3q.hands n) xs
end Go.Proofs.YtmpglmcjoelciaaGreatDoor.Ev
namespace Go.Proofs.YtmpglmcjoelciaaGreatDoor.Ev
open Go Go.Proofs Go.Proofs.Ev
set_option linter.unusedVariables false
set_option maxRecDepth 100000
abbrev Q3r.A:=ByteArray
abbrev Q3r.T:=Int × ByteArray × Bool
def Q3r.i:Q3r.A→List AV:=fun a0=>[vs a0]
def Q3r.o (xs:List AV):Option Q3r.A:=match xs with | [.v (.string a0)]=>some a0 | _=>none
theorem Q3r.oi:∀ xs a,Q3r.o xs=some a→xs=Q3r.i a:=by
 intro xs a h
 unfold Q3r.o at h
 split at h
 ·cases h; rfl
 ·cases h
def Q3r.p (p:Q3r.T):AV:=.tup [AV.agg [vi p.1,vs p.2.1],vb p.2.2]
def Q3r.q (x:AV):Option Q3r.T:=match x with | .tup [.agg [.v (.int .i64 p0),.v (.string p1)],.v (.bool p2)]=>some (p0,p1,p2) | _=>none
theorem Q3r.qi:∀ x p,Q3r.q x=some p→x=Q3r.p p:=by
 intro x p h
 unfold Q3r.q at h
 split at h
 ·cases h; rfl
 ·cases h
def Q3r.C {R:Type} (n:Nat) (f:FuncId) (xs:List AV):(AV→Option R)→Option R:=
 bif Nat.beq f 116 then Q3e.via n xs else bif Nat.beq f 117 then Q3h.via n xs else bif Nat.beq f 167 then Q3q.via n xs else fun _=>none
theorem Q3r.tells {R:Type} (n:Nat):Tells (R:=R) Tryz.prog (Q3r.C n):=fun _ xs=>tells_at (Q3e.tells1 n xs) (tells_at (Q3h.tells1 n xs) (tells_at (Q3q.tells1 n xs) (Tells1.none)))
def Q3r.cut (r:Nat):Option Keep:=match r with  | _=>none
def Q3r.e (n:Nat) (a0:ByteArray):Option (Int × ByteArray × Bool):=
 (Q3e.F n a0).bind fun p1=>
 bif !p1 then ((Q3q.F n a0).bind fun p2=>
 some (0,p2,true)) else ((Q3h.F n a0).bind fun p3=>
 some (p3.1,(⟨#[]⟩ : ByteArray),p3.2))
def Q3r.E (n:Nat):Q3r.A→Option Q3r.T:=fun a0=>Q3r.e n a0
def Q3r.F (n:Nat) (a0:ByteArray):Option (Int × ByteArray × Bool):=Q3r.e n a0
def Q3r.FA (n:Nat):Q3r.A→Option Q3r.T:=Q3r.E n
theorem Q3r.hands (n:Nat):∀ a p,Q3r.FA n a=some p→HandsIn Tryz.prog 150 (Q3r.i a) (Q3r.p p):=
 pf_hands (C:=Q3r.C n) (cut:=Q3r.cut) (Z:=Empty) (t:=nofun) (s:=nofun) (e:=fun _=>Q3r.E n) (r:=fun _ z=>nomatch z) (n:=n) cfg mixed globs rfl Q3r.qi (Q3r.tells n) Tryz.func150 (by kernel_rfl) (by kernel_rfl) (fun rec a=>by kernel_rfl) (fun rec z=>nomatch z)
def Q3r.via {R:Type} (n:Nat):List AV→(AV→Option R)→Option R:=viaK (Q3r.FA n) Q3r.o Q3r.p
theorem Q3r.tells1 {R:Type} (n:Nat) (xs:List AV):Tells1 (R:=R) Tryz.prog 150 xs (Q3r.via n xs):=tells_via Q3r.oi (fun a=>by kernel_rfl) (Q3r.hands n) xs
end Go.Proofs.YtmpglmcjoelciaaGreatDoor.Ev
namespace Go.Proofs.YtmpglmcjoelciaaGreatDoor.Ev
open Go Go.Proofs Go.Proofs.Ev
set_option linter.unusedVariables false
set_option maxRecDepth 100000
abbrev Q3b.A:=List AV × Bool × ByteArray × ByteArray × Bool × ByteArray × ByteArray × Bool × List AV × List AV × List AV × List AV × List AV × List AV × List AV
abbrev Q3b.T:=Bool × Bool × ByteArray × ByteArray × Bool × ByteArray × ByteArray × Bool × List AV × List AV × List AV × List AV × List AV × List AV × List AV
def Q3b.i:Q3b.A→List AV:=fun (a0,a1,a2,a3,a4,a5,a6,a7,a8,a9,a10,a11,a12,a13,a14)=>[.ptr 0 0,.sl ⟨true,9⟩ 1 a0]
def Q3b.b:Q3b.A→List AV:=fun (a0,a1,a2,a3,a4,a5,a6,a7,a8,a9,a10,a11,a12,a13,a14)=>[.fn 50 [vb a1,vs a2,vs a3,.own 1 0 none,.own 2 0 none,vb a4,vs a5,vs a6,.own 3 0 none,.own 4 0 none,.own 5 0 none,.own 6 0 none,vb a7,.own 7 0 none],.fr ⟨true,125⟩ 4 a8,.fr ⟨true,111⟩ 2 a9,.fr ⟨true,9⟩ 1 a10,.fr ⟨true,95⟩ 3 a11,.fr ⟨true,97⟩ 4 a12,.fr ⟨true,111⟩ 2 a13,.fr ⟨false,100⟩ 2 a14]
def Q3b.o (xs:List AV):Option Q3b.A:=match xs with | [.ptr 0 0,.sl ⟨true,9⟩ 1 a0,.tup [.fn 50 [.v (.bool a1),.v (.string a2),.v (.string a3),.own 1 0 none,.own 2 0 none,.v (.bool a4),.v (.string a5),.v (.string a6),.own 3 0 none,.own 4 0 none,.own 5 0 none,.own 6 0 none,.v (.bool a7),.own 7 0 none],.fr ⟨true,125⟩ 4 a8,.fr ⟨true,111⟩ 2 a9,.fr ⟨true,9⟩ 1 a10,.fr ⟨true,95⟩ 3 a11,.fr ⟨true,97⟩ 4 a12,.fr ⟨true,111⟩ 2 a13,.fr ⟨false,100⟩ 2 a14]]=>some (a0,a1,a2,a3,a4,a5,a6,a7,a8,a9,a10,a11,a12,a13,a14) | _=>none
theorem Q3b.oi:∀ xs a,Q3b.o xs=some a→xs=Q3b.i a++[.tup (Q3b.b a)]:=by
 intro xs a h
 unfold Q3b.o at h
 split at h
 ·cases h; rfl
 ·cases h
def Q3b.y (p:Q3b.T):AV:=vb p.1
def Q3b.w (p:Q3b.T):List AV:=[.fn 50 [vb p.2.1,vs p.2.2.1,vs p.2.2.2.1,.own 1 0 none,.own 2 0 none,vb p.2.2.2.2.1,vs p.2.2.2.2.2.1,vs p.2.2.2.2.2.2.1,.own 3 0 none,.own 4 0 none,.own 5 0 none,.own 6 0 none,vb p.2.2.2.2.2.2.2.1,.own 7 0 none],.fr ⟨true,125⟩ 4 p.2.2.2.2.2.2.2.2.1,.fr ⟨true,111⟩ 2 p.2.2.2.2.2.2.2.2.2.1,.fr ⟨true,9⟩ 1 p.2.2.2.2.2.2.2.2.2.2.1,.fr ⟨true,95⟩ 3 p.2.2.2.2.2.2.2.2.2.2.2.1,.fr ⟨true,97⟩ 4 p.2.2.2.2.2.2.2.2.2.2.2.2.1,.fr ⟨true,111⟩ 2 p.2.2.2.2.2.2.2.2.2.2.2.2.2.1,.fr ⟨false,100⟩ 2 p.2.2.2.2.2.2.2.2.2.2.2.2.2.2]
def Q3b.p (p:Q3b.T):AV:=.tup [Q3b.y p,.tup (Q3b.w p)]
def Q3b.q (x:AV):Option Q3b.T:=match x with | .tup [.v (.bool p0),.tup [.fn 50 [.v (.bool p1),.v (.string p2),.v (.string p3),.own 1 0 none,.own 2 0 none,.v (.bool p4),.v (.string p5),.v (.string p6),.own 3 0 none,.own 4 0 none,.own 5 0 none,.own 6 0 none,.v (.bool p7),.own 7 0 none],.fr ⟨true,125⟩ 4 p8,.fr ⟨true,111⟩ 2 p9,.fr ⟨true,9⟩ 1 p10,.fr ⟨true,95⟩ 3 p11,.fr ⟨true,97⟩ 4 p12,.fr ⟨true,111⟩ 2 p13,.fr ⟨false,100⟩ 2 p14]]=>some (p0,p1,p2,p3,p4,p5,p6,p7,p8,p9,p10,p11,p12,p13,p14) | _=>none
theorem Q3b.qi:∀ x p,Q3b.q x=some p→x=Q3b.p p:=by
 intro x p h
 unfold Q3b.q at h
 split at h
 ·cases h; rfl
 ·cases h
inductive Q3b.Z where
 | z3 (z1:List AV) (z2:Int) (z3:Bool) (z4 z5:ByteArray) (z6:Bool) (z7 z8:ByteArray) (z9 z10:Bool) (z11 z12 z13 z14 z15 z16 z17 z18:List AV)
 | z6 (z1:Bool) (z2 z3:ByteArray) (z4:Bool) (z5 z6:ByteArray) (z7:Bool) (z8 z9 z10 z11 z12 z13 z14:List AV)
 | z10 (z1:Bool) (z2 z3:ByteArray) (z4:Bool) (z5 z6:ByteArray) (z7:Bool) (z8 z9 z10 z11 z12 z13 z14:List AV)
def Q3b.C {R:Type} (n:Nat) (f:FuncId) (xs:List AV):(AV→Option R)→Option R:=
 bif Nat.beq f 60 then Q1r.via n xs else bif Nat.beq f 116 then Q3e.via n xs else bif Nat.beq f 124 then Q3i.via n xs else bif Nat.beq f 150 then Q3r.via n xs else fun _=>none
theorem Q3b.tells {R:Type} (n:Nat):Tells (R:=R) Tryz.prog (Q3b.C n):=fun _ xs=>tells_at (Q1r.tells1 n xs) (tells_at (Q3e.tells1 n xs) (tells_at (Q3i.tells1 n xs) (tells_at (Q3r.tells1 n xs) (Tells1.none))))
def Q3b.cut (r:Nat):Option Keep:=match r with | 3=>some ⟨[0,1,5,6],[(5,some 1,⟨true,104⟩,4)]⟩ | 6=>some ⟨[],[]⟩ | 10=>some ⟨[],[]⟩ | _=>none
def Q3b.t (z:Q3b.Z):List Item:=(todoOf (match z with | .z3 _ _ _ _ _ _ _ _ _ _ _ _ _ _ _ _ _ _=>3 | .z6 _ _ _ _ _ _ _ _ _ _ _ _ _ _=>6 | .z10 _ _ _ _ _ _ _ _ _ _ _ _ _ _=>10) 1000 [.code (Tryz.f119.body.getD .skip)]).getD []
def Q3b.s:Q3b.Z→St
 | .z3 z1 z2 z3 z4 z5 z6 z7 z8 z9 z10 z11 z12 z13 z14 z15 z16 z17 z18=>⟨spr 102 0 [(0,.ptr 0 0),(1,.sl ⟨true,9⟩ 1 z1),(5,.ptr 1 0),(6,vi z2)],Mem.ofList [.box 50 [vb z3,vs z4,vs z5,.own 3 0 none,.own 4 0 none,vb z6,vs z7,vs z8,.own 5 0 none,.own 6 0 none,.own 7 0 none,.own 8 0 none,vb z9,.own 9 0 none],.box 100 [vb z10,.own 2 0 none],.row ⟨true,104⟩ 4 z11,.row ⟨true,125⟩ 4 z12,.row ⟨true,111⟩ 2 z13,.row ⟨true,9⟩ 1 z14,.row ⟨true,95⟩ 3 z15,.row ⟨true,97⟩ 4 z16,.row ⟨true,111⟩ 2 z17,.row ⟨false,100⟩ 2 z18],10⟩
 | .z6 z1 z2 z3 z4 z5 z6 z7 z8 z9 z10 z11 z12 z13 z14=>⟨spr 102 0 [],Mem.ofList [.box 50 [vb z1,vs z2,vs z3,.own 1 0 none,.own 2 0 none,vb z4,vs z5,vs z6,.own 3 0 none,.own 4 0 none,.own 5 0 none,.own 6 0 none,vb z7,.own 7 0 none],.row ⟨true,125⟩ 4 z8,.row ⟨true,111⟩ 2 z9,.row ⟨true,9⟩ 1 z10,.row ⟨true,95⟩ 3 z11,.row ⟨true,97⟩ 4 z12,.row ⟨true,111⟩ 2 z13,.row ⟨false,100⟩ 2 z14],8⟩
 | .z10 z1 z2 z3 z4 z5 z6 z7 z8 z9 z10 z11 z12 z13 z14=>⟨spr 102 0 [],Mem.ofList [.box 50 [vb z1,vs z2,vs z3,.own 1 0 none,.own 2 0 none,vb z4,vs z5,vs z6,.own 3 0 none,.own 4 0 none,.own 5 0 none,.own 6 0 none,vb z7,.own 7 0 none],.row ⟨true,125⟩ 4 z8,.row ⟨true,111⟩ 2 z9,.row ⟨true,9⟩ 1 z10,.row ⟨true,95⟩ 3 z11,.row ⟨true,97⟩ 4 z12,.row ⟨true,111⟩ 2 z13,.row ⟨false,100⟩ 2 z14],8⟩
def Q3b.r3 (n:Nat) (c:Q3b.Z→Option Q3b.T) (z1:List AV) (z2:Int) (z3:Bool) (z4 z5:ByteArray) (z6:Bool) (z7 z8:ByteArray) (z9 z10:Bool) (z11 z12 z13 z14 z15 z16 z17 z18:List AV):Option Q3b.T:=
 let y5:Bool:=decide (z2 < ((z1.length:Nat):Int))
 bif y5 then (let y6:Bool:=decide (((z1.length:Nat):Int) < (IntKind.i64.wrap (z2+3)))
 bif y6 then (c (.z6 z3 z4 z5 z6 z7 z8 z9 z12 z13 z14 z15 z16 z17 z18)) else (let y7:Bool:=((z1.length:Nat):Int)==(IntKind.i64.wrap (z2+4))
 bif y7 then (c (.z6 z3 z4 z5 z6 z7 z8 z9 z12 z13 z14 z15 z16 z17 z18)) else (let y8:Bool:=decide (((z1.length:Nat):Int) > (IntKind.i64.wrap (z2+3)))
 bif y8 then (bif decide ((0:Int)≤IntKind.i64.wrap (z2+3))&&decide (IntKind.i64.wrap (z2+3) < ((z1.length:Nat):Int)) then (withCons ((z1.getD ((IntKind.i64.wrap (z2+3)).toNat) .undef).cells) fun h9 r10=>
 withStr h9 fun s11=>
 let y12:Bool:=!(s11.toList==(⟨#[65,78,68]⟩ : ByteArray).toList)
 bif y12 then (c (.z6 z3 z4 z5 z6 z7 z8 z9 z12 z13 z14 z15 z16 z17 z18)) else (bif decide ((0:Int)≤z2)&&decide (z2 < ((z1.length:Nat):Int)) then (withCons ((z1.getD ((z2).toNat) .undef).cells) fun h13 r14=>
 withStr h13 fun s15=>
 (Q3e.F n s15).bind fun p16=>
 bif !p16 then (c (.z6 z3 z4 z5 z6 z7 z8 z9 z12 z13 z14 z15 z16 z17 z18)) else ((Q3i.F n ).bind fun p17=>
 bif decide ((0:Int)≤IntKind.i64.wrap (z2+1))&&decide (IntKind.i64.wrap (z2+1) < ((z1.length:Nat):Int)) then (withCons ((z1.getD ((IntKind.i64.wrap (z2+1)).toNat) .undef).cells) fun h18 r19=>
 withStr h18 fun s20=>
 (Q1r.F n p17 s20).bind fun p21=>
 bif decide ((0:Int)≤IntKind.i64.wrap (z2+2))&&decide (IntKind.i64.wrap (z2+2) < ((z1.length:Nat):Int)) then (withCons ((z1.getD ((IntKind.i64.wrap (z2+2)).toNat) .undef).cells) fun h22 r23=>
 withStr h22 fun s24=>
 (Q3r.F n s24).bind fun p25=>
 bif p21==(-1) then (c (.z10 z3 z4 z5 z6 z7 z8 z9 z12 z13 z14 z15 z16 z17 z18)) else (bif !p25.2.2 then (c (.z10 z3 z4 z5 z6 z7 z8 z9 z12 z13 z14 z15 z16 z17 z18)) else (bif decide ((0:Int)≤z2)&&decide (z2 < ((z1.length:Nat):Int)) then (withCons ((z1.getD ((z2).toNat) .undef).cells) fun h26 r27=>
 withStr h26 fun s28=>
 let y29:List AV:=[AV.agg [vs s28,vi p21,vi p25.1,vs p25.2.1]]
 bif decide (z11.length+y29.length≤most) then (c (.z3 z1 (IntKind.i64.wrap (z2+4)) z3 z4 z5 z6 z7 z8 z9 z10 (z11++y29) z12 z13 z14 z15 z16 z17 z18)) else none) else none))) else none) else none)) else none)) else none) else (bif decide ((0:Int)≤z2)&&decide (z2 < ((z1.length:Nat):Int)) then (withCons ((z1.getD ((z2).toNat) .undef).cells) fun h30 r31=>
 withStr h30 fun s32=>
 (Q3e.F n s32).bind fun p33=>
 bif !p33 then (c (.z6 z3 z4 z5 z6 z7 z8 z9 z12 z13 z14 z15 z16 z17 z18)) else ((Q3i.F n ).bind fun p34=>
 bif decide ((0:Int)≤IntKind.i64.wrap (z2+1))&&decide (IntKind.i64.wrap (z2+1) < ((z1.length:Nat):Int)) then (withCons ((z1.getD ((IntKind.i64.wrap (z2+1)).toNat) .undef).cells) fun h35 r36=>
 withStr h35 fun s37=>
 (Q1r.F n p34 s37).bind fun p38=>
 bif decide ((0:Int)≤IntKind.i64.wrap (z2+2))&&decide (IntKind.i64.wrap (z2+2) < ((z1.length:Nat):Int)) then (withCons ((z1.getD ((IntKind.i64.wrap (z2+2)).toNat) .undef).cells) fun h39 r40=>
 withStr h39 fun s41=>
 (Q3r.F n s41).bind fun p42=>
 bif p38==(-1) then (c (.z10 z3 z4 z5 z6 z7 z8 z9 z12 z13 z14 z15 z16 z17 z18)) else (bif !p42.2.2 then (c (.z10 z3 z4 z5 z6 z7 z8 z9 z12 z13 z14 z15 z16 z17 z18)) else (bif decide ((0:Int)≤z2)&&decide (z2 < ((z1.length:Nat):Int)) then (withCons ((z1.getD ((z2).toNat) .undef).cells) fun h43 r44=>
 withStr h43 fun s45=>
 let y46:List AV:=[AV.agg [vs s45,vi p38,vi p42.1,vs p42.2.1]]
 bif decide (z11.length+y46.length≤most) then (c (.z3 z1 (IntKind.i64.wrap (z2+4)) z3 z4 z5 z6 z7 z8 z9 z10 (z11++y46) z12 z13 z14 z15 z16 z17 z18)) else none) else none))) else none) else none)) else none)))) else (let y47:List AV:=[AV.agg [vb z10,.sl ⟨true,104⟩ 4 z11]]
 bif decide (z18.length+y47.length≤most) then (some (true,z3,z4,z5,z6,z7,z8,z9,z12,z13,z14,z15,z16,z17,z18++y47)) else none)
def Q3b.r6 (n:Nat) (c:Q3b.Z→Option Q3b.T) (z1:Bool) (z2 z3:ByteArray) (z4:Bool) (z5 z6:ByteArray) (z7:Bool) (z8 z9 z10 z11 z12 z13 z14:List AV):Option Q3b.T:=
 some (false,z1,z2,z3,z4,z5,z6,z7,z8,z9,z10,z11,z12,z13,z14)
def Q3b.r10 (n:Nat) (c:Q3b.Z→Option Q3b.T) (z1:Bool) (z2 z3:ByteArray) (z4:Bool) (z5 z6:ByteArray) (z7:Bool) (z8 z9 z10 z11 z12 z13 z14:List AV):Option Q3b.T:=
 some (false,z1,z2,z3,z4,z5,z6,z7,z8,z9,z10,z11,z12,z13,z14)
def Q3b.r (n:Nat) (c:Q3b.Z→Option Q3b.T):Q3b.Z→Option Q3b.T
 | .z3 z1 z2 z3 z4 z5 z6 z7 z8 z9 z10 z11 z12 z13 z14 z15 z16 z17 z18=>Q3b.r3 n c z1 z2 z3 z4 z5 z6 z7 z8 z9 z10 z11 z12 z13 z14 z15 z16 z17 z18
 | .z6 z1 z2 z3 z4 z5 z6 z7 z8 z9 z10 z11 z12 z13 z14=>Q3b.r6 n c z1 z2 z3 z4 z5 z6 z7 z8 z9 z10 z11 z12 z13 z14
 | .z10 z1 z2 z3 z4 z5 z6 z7 z8 z9 z10 z11 z12 z13 z14=>Q3b.r10 n c z1 z2 z3 z4 z5 z6 z7 z8 z9 z10 z11 z12 z13 z14
def Q3b.e (n:Nat) (c:Q3b.Z→Option Q3b.T) (a0:List AV) (a1:Bool) (a2 a3:ByteArray) (a4:Bool) (a5 a6:ByteArray) (a7:Bool) (a8 a9 a10 a11 a12 a13 a14:List AV):Option Q3b.T:=
 bif decide ((0:Int) < (a0.length:Nat)) then (withCons ((a0.getD 0 .undef).cells) fun h1 r2=>
 withStr h1 fun s3=>
 let y4:Bool:=s3.toList==(⟨#[79]⟩ : ByteArray).toList
 c (.z3 a0 1 a1 a2 a3 a4 a5 a6 a7 y4 [] a8 a9 a10 a11 a12 a13 a14)) else none
def Q3b.E (n:Nat) (c:Q3b.Z→Option Q3b.T):Q3b.A→Option Q3b.T:=fun (a0,a1,a2,a3,a4,a5,a6,a7,a8,a9,a10,a11,a12,a13,a14)=>Q3b.e n c a0 a1 a2 a3 a4 a5 a6 a7 a8 a9 a10 a11 a12 a13 a14
def Q3b.l (n:Nat):Nat→Q3b.Z→Option Q3b.T:=loopL (Q3b.r n)
def Q3b.F (n:Nat) (a0:List AV) (a1:Bool) (a2 a3:ByteArray) (a4:Bool) (a5 a6:ByteArray) (a7:Bool) (a8 a9 a10 a11 a12 a13 a14:List AV):Option Q3b.T:=Q3b.e n (Q3b.l n n) a0 a1 a2 a3 a4 a5 a6 a7 a8 a9 a10 a11 a12 a13 a14
def Q3b.FA (n:Nat):Q3b.A→Option Q3b.T:=Q3b.E n (Q3b.l n n)
def Q3b.nils:List (Nat × Nat × Fl × Nat):=[]
theorem Q3b.hands (n:Nat):∀ a p,Q3b.FA n a=some p→HandsMIn Tryz.prog 119 (Q3b.i a) (Q3b.b a) (Q3b.y p) (Q3b.w p):=
 pfM_hands (G:=Gk 1) (C:=Q3b.C n) (cut:=Q3b.cut) (t:=Q3b.t) (s:=Q3b.s) (nils:=Q3b.nils) (e:=Q3b.E n) (r:=Q3b.r n) (n:=n) (cfg.kb 1) mixed globs Q3b.qi (fun a=>by kernel_rfl) (Q3b.tells n) Tryz.func119 (by kernel_rfl) (by kernel_rfl) (fun rec a=>by kernel_rfl) (fun rec z=>by cases z <;> kernel_rfl)
def Q3b.via {R:Type} (n:Nat):List AV→(AV→Option R)→Option R:=viaK (Q3b.FA n) Q3b.o Q3b.p
theorem Q3b.tells1 {R:Type} (n:Nat) (xs:List AV):Tells1 (R:=R) Tryz.prog 119 xs (Q3b.via n xs):=tells_viaM (fun _=>rfl) Q3b.oi (Q3b.hands n) xs
end Go.Proofs.YtmpglmcjoelciaaGreatDoor.Ev
namespace Go.Proofs.YtmpglmcjoelciaaGreatDoor.Ev
open Go Go.Proofs Go.Proofs.Ev
set_option linter.unusedVariables false
set_option maxRecDepth 100000
abbrev Q3c.A:=List AV × Int × Bool × ByteArray × ByteArray × Bool × ByteArray × ByteArray × Bool × List AV × List AV × List AV × List AV × List AV × List AV × List AV
abbrev Q3c.T:=Int × Bool × Bool × ByteArray × ByteArray × Bool × ByteArray × ByteArray × Bool × List AV × List AV × List AV × List AV × List AV × List AV × List AV
def Q3c.i:Q3c.A→List AV:=fun (a0,a1,a2,a3,a4,a5,a6,a7,a8,a9,a10,a11,a12,a13,a14,a15)=>[.ptr 0 0,.sl ⟨true,9⟩ 1 a0,vi a1]
def Q3c.b:Q3c.A→List AV:=fun (a0,a1,a2,a3,a4,a5,a6,a7,a8,a9,a10,a11,a12,a13,a14,a15)=>[.fn 50 [vb a2,vs a3,vs a4,.own 1 0 none,.own 2 0 none,vb a5,vs a6,vs a7,.own 3 0 none,.own 4 0 none,.own 5 0 none,.own 6 0 none,vb a8,.own 7 0 none],.fr ⟨true,125⟩ 4 a9,.fr ⟨true,111⟩ 2 a10,.fr ⟨true,9⟩ 1 a11,.fr ⟨true,95⟩ 3 a12,.fr ⟨true,97⟩ 4 a13,.fr ⟨true,111⟩ 2 a14,.fr ⟨false,100⟩ 2 a15]
def Q3c.o (xs:List AV):Option Q3c.A:=match xs with | [.ptr 0 0,.sl ⟨true,9⟩ 1 a0,.v (.int .i64 a1),.tup [.fn 50 [.v (.bool a2),.v (.string a3),.v (.string a4),.own 1 0 none,.own 2 0 none,.v (.bool a5),.v (.string a6),.v (.string a7),.own 3 0 none,.own 4 0 none,.own 5 0 none,.own 6 0 none,.v (.bool a8),.own 7 0 none],.fr ⟨true,125⟩ 4 a9,.fr ⟨true,111⟩ 2 a10,.fr ⟨true,9⟩ 1 a11,.fr ⟨true,95⟩ 3 a12,.fr ⟨true,97⟩ 4 a13,.fr ⟨true,111⟩ 2 a14,.fr ⟨false,100⟩ 2 a15]]=>some (a0,a1,a2,a3,a4,a5,a6,a7,a8,a9,a10,a11,a12,a13,a14,a15) | _=>none
theorem Q3c.oi:∀ xs a,Q3c.o xs=some a→xs=Q3c.i a++[.tup (Q3c.b a)]:=by
 intro xs a h
 unfold Q3c.o at h
 split at h
 ·cases h; rfl
 ·cases h
def Q3c.y (p:Q3c.T):AV:=.tup [vi p.1,vb p.2.1]
def Q3c.w (p:Q3c.T):List AV:=[.fn 50 [vb p.2.2.1,vs p.2.2.2.1,vs p.2.2.2.2.1,.own 1 0 none,.own 2 0 none,vb p.2.2.2.2.2.1,vs p.2.2.2.2.2.2.1,vs p.2.2.2.2.2.2.2.1,.own 3 0 none,.own 4 0 none,.own 5 0 none,.own 6 0 none,vb p.2.2.2.2.2.2.2.2.1,.own 7 0 none],.fr ⟨true,125⟩ 4 p.2.2.2.2.2.2.2.2.2.1,.fr ⟨true,111⟩ 2 p.2.2.2.2.2.2.2.2.2.2.1,.fr ⟨true,9⟩ 1 p.2.2.2.2.2.2.2.2.2.2.2.1,.fr ⟨true,95⟩ 3 p.2.2.2.2.2.2.2.2.2.2.2.2.1,.fr ⟨true,97⟩ 4 p.2.2.2.2.2.2.2.2.2.2.2.2.2.1,.fr ⟨true,111⟩ 2 p.2.2.2.2.2.2.2.2.2.2.2.2.2.2.1,.fr ⟨false,100⟩ 2 p.2.2.2.2.2.2.2.2.2.2.2.2.2.2.2]
def Q3c.p (p:Q3c.T):AV:=.tup [Q3c.y p,.tup (Q3c.w p)]
def Q3c.q (x:AV):Option Q3c.T:=match x with | .tup [.tup [.v (.int .i64 p0),.v (.bool p1)],.tup [.fn 50 [.v (.bool p2),.v (.string p3),.v (.string p4),.own 1 0 none,.own 2 0 none,.v (.bool p5),.v (.string p6),.v (.string p7),.own 3 0 none,.own 4 0 none,.own 5 0 none,.own 6 0 none,.v (.bool p8),.own 7 0 none],.fr ⟨true,125⟩ 4 p9,.fr ⟨true,111⟩ 2 p10,.fr ⟨true,9⟩ 1 p11,.fr ⟨true,95⟩ 3 p12,.fr ⟨true,97⟩ 4 p13,.fr ⟨true,111⟩ 2 p14,.fr ⟨false,100⟩ 2 p15]]=>some (p0,p1,p2,p3,p4,p5,p6,p7,p8,p9,p10,p11,p12,p13,p14,p15) | _=>none
theorem Q3c.qi:∀ x p,Q3c.q x=some p→x=Q3c.p p:=by
 intro x p h
 unfold Q3c.q at h
 split at h
 ·cases h; rfl
 ·cases h
inductive Q3c.Z where
 | z4 (z1:Bool) (z2 z3:ByteArray) (z4:Bool) (z5 z6:ByteArray) (z7:Bool) (z8 z9 z10 z11 z12 z13 z14:List AV)
 | z5 (z1:List AV) (z2:Int) (z3:Bool) (z4 z5:ByteArray) (z6:Bool) (z7 z8:ByteArray) (z9:Bool) (z10 z11 z12 z13 z14 z15 z16:List AV)
 | z12 (z1:Bool) (z2 z3:ByteArray) (z4:Bool) (z5 z6:ByteArray) (z7:Bool) (z8 z9 z10 z11 z12 z13 z14:List AV)
 | z21 (z1:Bool) (z2 z3:ByteArray) (z4:Bool) (z5 z6:ByteArray) (z7:Bool) (z8 z9 z10 z11 z12 z13 z14:List AV)
 | z26 (z1:Bool) (z2 z3:ByteArray) (z4:Bool) (z5 z6:ByteArray) (z7:Bool) (z8 z9 z10 z11 z12 z13 z14:List AV)
 | z35 (z1:Bool) (z2 z3:ByteArray) (z4:Bool) (z5 z6:ByteArray) (z7:Bool) (z8 z9 z10 z11 z12 z13 z14:List AV)
 | z40 (z1:Bool) (z2 z3:ByteArray) (z4:Bool) (z5 z6:ByteArray) (z7:Bool) (z8 z9 z10 z11 z12 z13 z14:List AV)
def Q3c.C {R:Type} (n:Nat) (f:FuncId) (xs:List AV):(AV→Option R)→Option R:=
 bif Nat.beq f 116 then Q3e.via n xs else bif Nat.beq f 117 then Q3h.via n xs else bif Nat.beq f 118 then Q3a.via n xs else bif Nat.beq f 119 then Q3b.via n xs else fun _=>none
theorem Q3c.tells {R:Type} (n:Nat):Tells (R:=R) Tryz.prog (Q3c.C n):=fun _ xs=>tells_at (Q3e.tells1 n xs) (tells_at (Q3h.tells1 n xs) (tells_at (Q3a.tells1 n xs) (tells_at (Q3b.tells1 n xs) (Tells1.none))))
def Q3c.cut (r:Nat):Option Keep:=match r with | 4=>some ⟨[],[]⟩ | 5=>some ⟨[0,1,8],[]⟩ | 12=>some ⟨[],[]⟩ | 21=>some ⟨[],[]⟩ | 26=>some ⟨[],[]⟩ | 35=>some ⟨[],[]⟩ | 40=>some ⟨[],[]⟩ | _=>none
def Q3c.t (z:Q3c.Z):List Item:=(todoOf (match z with | .z4 _ _ _ _ _ _ _ _ _ _ _ _ _ _=>4 | .z5 _ _ _ _ _ _ _ _ _ _ _ _ _ _ _ _=>5 | .z12 _ _ _ _ _ _ _ _ _ _ _ _ _ _=>12 | .z21 _ _ _ _ _ _ _ _ _ _ _ _ _ _=>21 | .z26 _ _ _ _ _ _ _ _ _ _ _ _ _ _=>26 | .z35 _ _ _ _ _ _ _ _ _ _ _ _ _ _=>35 | .z40 _ _ _ _ _ _ _ _ _ _ _ _ _ _=>40) 1000 [.code (Tryz.f67.body.getD .skip)]).getD []
def Q3c.s:Q3c.Z→St
 | .z4 z1 z2 z3 z4 z5 z6 z7 z8 z9 z10 z11 z12 z13 z14=>⟨spr 317 0 [],Mem.ofList [.box 50 [vb z1,vs z2,vs z3,.own 1 0 none,.own 2 0 none,vb z4,vs z5,vs z6,.own 3 0 none,.own 4 0 none,.own 5 0 none,.own 6 0 none,vb z7,.own 7 0 none],.row ⟨true,125⟩ 4 z8,.row ⟨true,111⟩ 2 z9,.row ⟨true,9⟩ 1 z10,.row ⟨true,95⟩ 3 z11,.row ⟨true,97⟩ 4 z12,.row ⟨true,111⟩ 2 z13,.row ⟨false,100⟩ 2 z14],8⟩
 | .z5 z1 z2 z3 z4 z5 z6 z7 z8 z9 z10 z11 z12 z13 z14 z15 z16=>⟨spr 317 0 [(0,.ptr 0 0),(1,.sl ⟨true,9⟩ 1 z1),(8,vi z2)],Mem.ofList [.box 50 [vb z3,vs z4,vs z5,.own 1 0 none,.own 2 0 none,vb z6,vs z7,vs z8,.own 3 0 none,.own 4 0 none,.own 5 0 none,.own 6 0 none,vb z9,.own 7 0 none],.row ⟨true,125⟩ 4 z10,.row ⟨true,111⟩ 2 z11,.row ⟨true,9⟩ 1 z12,.row ⟨true,95⟩ 3 z13,.row ⟨true,97⟩ 4 z14,.row ⟨true,111⟩ 2 z15,.row ⟨false,100⟩ 2 z16],8⟩
 | .z12 z1 z2 z3 z4 z5 z6 z7 z8 z9 z10 z11 z12 z13 z14=>⟨spr 317 0 [],Mem.ofList [.box 50 [vb z1,vs z2,vs z3,.own 1 0 none,.own 2 0 none,vb z4,vs z5,vs z6,.own 3 0 none,.own 4 0 none,.own 5 0 none,.own 6 0 none,vb z7,.own 7 0 none],.row ⟨true,125⟩ 4 z8,.row ⟨true,111⟩ 2 z9,.row ⟨true,9⟩ 1 z10,.row ⟨true,95⟩ 3 z11,.row ⟨true,97⟩ 4 z12,.row ⟨true,111⟩ 2 z13,.row ⟨false,100⟩ 2 z14],8⟩
 | .z21 z1 z2 z3 z4 z5 z6 z7 z8 z9 z10 z11 z12 z13 z14=>⟨spr 317 0 [],Mem.ofList [.box 50 [vb z1,vs z2,vs z3,.own 1 0 none,.own 2 0 none,vb z4,vs z5,vs z6,.own 3 0 none,.own 4 0 none,.own 5 0 none,.own 6 0 none,vb z7,.own 7 0 none],.row ⟨true,125⟩ 4 z8,.row ⟨true,111⟩ 2 z9,.row ⟨true,9⟩ 1 z10,.row ⟨true,95⟩ 3 z11,.row ⟨true,97⟩ 4 z12,.row ⟨true,111⟩ 2 z13,.row ⟨false,100⟩ 2 z14],8⟩
 | .z26 z1 z2 z3 z4 z5 z6 z7 z8 z9 z10 z11 z12 z13 z14=>⟨spr 317 0 [],Mem.ofList [.box 50 [vb z1,vs z2,vs z3,.own 1 0 none,.own 2 0 none,vb z4,vs z5,vs z6,.own 3 0 none,.own 4 0 none,.own 5 0 none,.own 6 0 none,vb z7,.own 7 0 none],.row ⟨true,125⟩ 4 z8,.row ⟨true,111⟩ 2 z9,.row ⟨true,9⟩ 1 z10,.row ⟨true,95⟩ 3 z11,.row ⟨true,97⟩ 4 z12,.row ⟨true,111⟩ 2 z13,.row ⟨false,100⟩ 2 z14],8⟩
 | .z35 z1 z2 z3 z4 z5 z6 z7 z8 z9 z10 z11 z12 z13 z14=>⟨spr 317 0 [],Mem.ofList [.box 50 [vb z1,vs z2,vs z3,.own 1 0 none,.own 2 0 none,vb z4,vs z5,vs z6,.own 3 0 none,.own 4 0 none,.own 5 0 none,.own 6 0 none,vb z7,.own 7 0 none],.row ⟨true,125⟩ 4 z8,.row ⟨true,111⟩ 2 z9,.row ⟨true,9⟩ 1 z10,.row ⟨true,95⟩ 3 z11,.row ⟨true,97⟩ 4 z12,.row ⟨true,111⟩ 2 z13,.row ⟨false,100⟩ 2 z14],8⟩
 | .z40 z1 z2 z3 z4 z5 z6 z7 z8 z9 z10 z11 z12 z13 z14=>⟨spr 317 0 [],Mem.ofList [.box 50 [vb z1,vs z2,vs z3,.own 1 0 none,.own 2 0 none,vb z4,vs z5,vs z6,.own 3 0 none,.own 4 0 none,.own 5 0 none,.own 6 0 none,vb z7,.own 7 0 none],.row ⟨true,125⟩ 4 z8,.row ⟨true,111⟩ 2 z9,.row ⟨true,9⟩ 1 z10,.row ⟨true,95⟩ 3 z11,.row ⟨true,97⟩ 4 z12,.row ⟨true,111⟩ 2 z13,.row ⟨false,100⟩ 2 z14],8⟩
def Q3c.r4 (n:Nat) (c:Q3c.Z→Option Q3c.T) (z1:Bool) (z2 z3:ByteArray) (z4:Bool) (z5 z6:ByteArray) (z7:Bool) (z8 z9 z10 z11 z12 z13 z14:List AV):Option Q3c.T:=
 some (0,false,z1,z2,z3,z4,z5,z6,z7,z8,z9,z10,z11,z12,z13,z14)
def Q3c.r5 (n:Nat) (c:Q3c.Z→Option Q3c.T) (z1:List AV) (z2:Int) (z3:Bool) (z4 z5:ByteArray) (z6:Bool) (z7 z8:ByteArray) (z9:Bool) (z10 z11 z12 z13 z14 z15 z16:List AV):Option Q3c.T:=
 bif decide ((0:Int) < (z1.length:Nat)) then (withCons ((z1.getD 0 .undef).cells) fun h100 r101=>
 withStr h100 fun s102=>
 let y103:Bool:=s102.toList==(⟨#[76,70]⟩ : ByteArray).toList
 bif y103 then (bif decide ((1:Int) < (z1.length:Nat)) then (withCons ((z1.getD 1 .undef).cells) fun h104 r105=>
 withStr h104 fun s106=>
 some (1,true,y103,z4,z5,z6,s106,(⟨#[]⟩ : ByteArray),z2==2,z10,z11,[],[],[],[],[])) else none) else (bif decide ((1:Int) < (z1.length:Nat)) then (withCons ((z1.getD 1 .undef).cells) fun h107 r108=>
 withStr h107 fun s109=>
 some (1,true,y103,s109,(⟨#[]⟩ : ByteArray),z2==2,z7,z8,z9,[],[],z12,z13,z14,z15,z16)) else none)) else none
def Q3c.r12 (n:Nat) (c:Q3c.Z→Option Q3c.T) (z1:Bool) (z2 z3:ByteArray) (z4:Bool) (z5 z6:ByteArray) (z7:Bool) (z8 z9 z10 z11 z12 z13 z14:List AV):Option Q3c.T:=
 some (0,false,z1,z2,z3,z4,z5,z6,z7,z8,z9,z10,z11,z12,z13,z14)
def Q3c.r21 (n:Nat) (c:Q3c.Z→Option Q3c.T) (z1:Bool) (z2 z3:ByteArray) (z4:Bool) (z5 z6:ByteArray) (z7:Bool) (z8 z9 z10 z11 z12 z13 z14:List AV):Option Q3c.T:=
 some (0,false,z1,z2,z3,z4,z5,z6,z7,z8,z9,z10,z11,z12,z13,z14)
def Q3c.r26 (n:Nat) (c:Q3c.Z→Option Q3c.T) (z1:Bool) (z2 z3:ByteArray) (z4:Bool) (z5 z6:ByteArray) (z7:Bool) (z8 z9 z10 z11 z12 z13 z14:List AV):Option Q3c.T:=
 some (0,false,z1,z2,z3,z4,z5,z6,z7,z8,z9,z10,z11,z12,z13,z14)
def Q3c.r35 (n:Nat) (c:Q3c.Z→Option Q3c.T) (z1:Bool) (z2 z3:ByteArray) (z4:Bool) (z5 z6:ByteArray) (z7:Bool) (z8 z9 z10 z11 z12 z13 z14:List AV):Option Q3c.T:=
 some (0,false,z1,z2,z3,z4,z5,z6,z7,z8,z9,z10,z11,z12,z13,z14)
def Q3c.r40 (n:Nat) (c:Q3c.Z→Option Q3c.T) (z1:Bool) (z2 z3:ByteArray) (z4:Bool) (z5 z6:ByteArray) (z7:Bool) (z8 z9 z10 z11 z12 z13 z14:List AV):Option Q3c.T:=
 some (5,true,z1,z2,z3,z4,z5,z6,z7,z8,z9,z10,z11,z12,z13,z14)
def Q3c.r (n:Nat) (c:Q3c.Z→Option Q3c.T):Q3c.Z→Option Q3c.T
 | .z4 z1 z2 z3 z4 z5 z6 z7 z8 z9 z10 z11 z12 z13 z14=>Q3c.r4 n c z1 z2 z3 z4 z5 z6 z7 z8 z9 z10 z11 z12 z13 z14
 | .z5 z1 z2 z3 z4 z5 z6 z7 z8 z9 z10 z11 z12 z13 z14 z15 z16=>Q3c.r5 n c z1 z2 z3 z4 z5 z6 z7 z8 z9 z10 z11 z12 z13 z14 z15 z16
 | .z12 z1 z2 z3 z4 z5 z6 z7 z8 z9 z10 z11 z12 z13 z14=>Q3c.r12 n c z1 z2 z3 z4 z5 z6 z7 z8 z9 z10 z11 z12 z13 z14
 | .z21 z1 z2 z3 z4 z5 z6 z7 z8 z9 z10 z11 z12 z13 z14=>Q3c.r21 n c z1 z2 z3 z4 z5 z6 z7 z8 z9 z10 z11 z12 z13 z14
 | .z26 z1 z2 z3 z4 z5 z6 z7 z8 z9 z10 z11 z12 z13 z14=>Q3c.r26 n c z1 z2 z3 z4 z5 z6 z7 z8 z9 z10 z11 z12 z13 z14
 | .z35 z1 z2 z3 z4 z5 z6 z7 z8 z9 z10 z11 z12 z13 z14=>Q3c.r35 n c z1 z2 z3 z4 z5 z6 z7 z8 z9 z10 z11 z12 z13 z14
 | .z40 z1 z2 z3 z4 z5 z6 z7 z8 z9 z10 z11 z12 z13 z14=>Q3c.r40 n c z1 z2 z3 z4 z5 z6 z7 z8 z9 z10 z11 z12 z13 z14
def Q3c.e (n:Nat) (c:Q3c.Z→Option Q3c.T) (a0:List AV) (a1:Int) (a2:Bool) (a3 a4:ByteArray) (a5:Bool) (a6 a7:ByteArray) (a8:Bool) (a9 a10 a11 a12 a13 a14 a15:List AV):Option Q3c.T:=
 let y1:Int:=IntKind.i64.wrap (((a0.length:Nat):Int) - 1)
 bif a1==0 then (bif decide (y1 < 1) then (c (.z4 a2 a3 a4 a5 a6 a7 a8 a9 a10 a11 a12 a13 a14 a15)) else (bif decide (y1 > 2) then (c (.z4 a2 a3 a4 a5 a6 a7 a8 a9 a10 a11 a12 a13 a14 a15)) else (bif decide ((0:Int) < (a0.length:Nat)) then (withCons ((a0.getD 0 .undef).cells) fun h2 r3=>
 withStr h2 fun s4=>
 let y5:Bool:=!(s4.toList==(⟨#[80,70]⟩ : ByteArray).toList)
 bif y5 then (bif decide ((0:Int) < (a0.length:Nat)) then (withCons ((a0.getD 0 .undef).cells) fun h6 r7=>
 withStr h6 fun s8=>
 let y9:Bool:=!(s8.toList==(⟨#[76,70]⟩ : ByteArray).toList)
 bif y9 then (c (.z4 a2 a3 a4 a5 a6 a7 a8 a9 a10 a11 a12 a13 a14 a15)) else (bif decide ((1:Int) < (a0.length:Nat)) then (withCons ((a0.getD 1 .undef).cells) fun h10 r11=>
 withStr h10 fun s12=>
 (Q3e.F n s12).bind fun p13=>
 bif !p13 then (c (.z4 a2 a3 a4 a5 a6 a7 a8 a9 a10 a11 a12 a13 a14 a15)) else (bif y1==2 then (bif decide ((2:Int) < (a0.length:Nat)) then (withCons ((a0.getD 2 .undef).cells) fun h14 r15=>
 withStr h14 fun s16=>
 let y17:Bool:=!(s16.toList==(⟨#[85,78,73,81,85,69]⟩ : ByteArray).toList)
 bif y17 then (c (.z4 a2 a3 a4 a5 a6 a7 a8 a9 a10 a11 a12 a13 a14 a15)) else (c (.z5 a0 y1 a2 a3 a4 a5 a6 a7 a8 a9 a10 a11 a12 a13 a14 a15))) else none) else (c (.z5 a0 y1 a2 a3 a4 a5 a6 a7 a8 a9 a10 a11 a12 a13 a14 a15)))) else none)) else none) else (bif decide ((1:Int) < (a0.length:Nat)) then (withCons ((a0.getD 1 .undef).cells) fun h18 r19=>
 withStr h18 fun s20=>
 (Q3e.F n s20).bind fun p21=>
 bif !p21 then (c (.z4 a2 a3 a4 a5 a6 a7 a8 a9 a10 a11 a12 a13 a14 a15)) else (bif y1==2 then (bif decide ((2:Int) < (a0.length:Nat)) then (withCons ((a0.getD 2 .undef).cells) fun h22 r23=>
 withStr h22 fun s24=>
 let y25:Bool:=!(s24.toList==(⟨#[85,78,73,81,85,69]⟩ : ByteArray).toList)
 bif y25 then (c (.z4 a2 a3 a4 a5 a6 a7 a8 a9 a10 a11 a12 a13 a14 a15)) else (c (.z5 a0 y1 a2 a3 a4 a5 a6 a7 a8 a9 a10 a11 a12 a13 a14 a15))) else none) else (c (.z5 a0 y1 a2 a3 a4 a5 a6 a7 a8 a9 a10 a11 a12 a13 a14 a15)))) else none)) else none))) else (bif a1==1 then (bif y1 != 1 then (c (.z12 a2 a3 a4 a5 a6 a7 a8 a9 a10 a11 a12 a13 a14 a15)) else (bif decide ((0:Int) < (a0.length:Nat)) then (withCons ((a0.getD 0 .undef).cells) fun h26 r27=>
 withStr h26 fun s28=>
 let y29:Bool:=!(s28.toList==(⟨#[82]⟩ : ByteArray).toList)
 bif y29 then (c (.z12 a2 a3 a4 a5 a6 a7 a8 a9 a10 a11 a12 a13 a14 a15)) else (bif decide ((1:Int) < (a0.length:Nat)) then (withCons ((a0.getD 1 .undef).cells) fun h30 r31=>
 withStr h30 fun s32=>
 (Q3e.F n s32).bind fun p33=>
 bif !p33 then (c (.z12 a2 a3 a4 a5 a6 a7 a8 a9 a10 a11 a12 a13 a14 a15)) else (bif decide ((1:Int) < (a0.length:Nat)) then (withCons ((a0.getD 1 .undef).cells) fun h34 r35=>
 withStr h34 fun s36=>
 bif decide ((1:Int) < (a0.length:Nat)) then (withCons ((a0.getD 1 .undef).cells) fun h37 r38=>
 withStr h37 fun s39=>
 bif a2 then (some (2,true,a2,(⟨#[]⟩ : ByteArray),(⟨#[]⟩ : ByteArray),false,a6,s39,a8,[],[],a11,a12,a13,a14,a15)) else (some (2,true,a2,a3,s36,a5,(⟨#[]⟩ : ByteArray),(⟨#[]⟩ : ByteArray),false,a9,a10,[],[],[],[],[]))) else none) else none)) else none)) else none)) else (bif decide ((0:Int) < (a0.length:Nat)) then (withCons ((a0.getD 0 .undef).cells) fun h40 r41=>
 withStr h40 fun s42=>
 let y43:Bool:=s42.toList==(⟨#[66]⟩ : ByteArray).toList
 bif y43 then (bif decide (a1 > 2) then (c (.z21 a2 a3 a4 a5 a6 a7 a8 a9 a10 a11 a12 a13 a14 a15)) else (bif !a2 then (c (.z21 a2 a3 a4 a5 a6 a7 a8 a9 a10 a11 a12 a13 a14 a15)) else (bif y1 != 1 then (c (.z21 a2 a3 a4 a5 a6 a7 a8 a9 a10 a11 a12 a13 a14 a15)) else (bif decide ((1:Int) < (a0.length:Nat)) then (withCons ((a0.getD 1 .undef).cells) fun h44 r45=>
 withStr h44 fun s46=>
 (Q3e.F n s46).bind fun p47=>
 bif !p47 then (c (.z21 a2 a3 a4 a5 a6 a7 a8 a9 a10 a11 a12 a13 a14 a15)) else (bif decide ((1:Int) < (a0.length:Nat)) then (withCons ((a0.getD 1 .undef).cells) fun h48 r49=>
 withStr h48 fun s50=>
 bif decide (a11.length+[vs s50].length≤most) then (some (2,true,a2,a3,a4,a5,a6,a7,a8,a9,a10,a11++[vs s50],a12,a13,a14,a15)) else none) else none)) else none)))) else (let y51:Bool:=s42.toList==(⟨#[74]⟩ : ByteArray).toList
 bif y51 then (bif decide (a1 > 3) then (c (.z26 a2 a3 a4 a5 a6 a7 a8 a9 a10 a11 a12 a13 a14 a15)) else (bif !a2 then (c (.z26 a2 a3 a4 a5 a6 a7 a8 a9 a10 a11 a12 a13 a14 a15)) else (bif y1 != 4 then (c (.z26 a2 a3 a4 a5 a6 a7 a8 a9 a10 a11 a12 a13 a14 a15)) else (bif decide ((2:Int) < (a0.length:Nat)) then (withCons ((a0.getD 2 .undef).cells) fun h52 r53=>
 withStr h52 fun s54=>
 (Q3e.F n s54).bind fun p55=>
 bif !p55 then (c (.z26 a2 a3 a4 a5 a6 a7 a8 a9 a10 a11 a12 a13 a14 a15)) else (bif decide ((4:Int) < (a0.length:Nat)) then (withCons ((a0.getD 4 .undef).cells) fun h56 r57=>
 withStr h56 fun s58=>
 (Q3e.F n s58).bind fun p59=>
 bif !p59 then (c (.z26 a2 a3 a4 a5 a6 a7 a8 a9 a10 a11 a12 a13 a14 a15)) else (bif decide ((1:Int) < (a0.length:Nat)) then (withCons ((a0.getD 1 .undef).cells) fun h60 r61=>
 withStr h60 fun s62=>
 (Q3h.F n s62).bind fun p63=>
 bif decide ((3:Int) < (a0.length:Nat)) then (withCons ((a0.getD 3 .undef).cells) fun h64 r65=>
 withStr h64 fun s66=>
 (Q3h.F n s66).bind fun p67=>
 bif decide ((2:Int) < (a0.length:Nat)) then (withCons ((a0.getD 2 .undef).cells) fun h68 r69=>
 withStr h68 fun s70=>
 bif decide ((4:Int) < (a0.length:Nat)) then (withCons ((a0.getD 4 .undef).cells) fun h71 r72=>
 withStr h71 fun s73=>
 let y74:List AV:=[AV.agg [vi p63.1,vs s70,vi p67.1,vs s73]]
 bif decide (a13.length+y74.length≤most) then (bif p63.2 then (some (3,p67.2,a2,a3,a4,a5,a6,a7,a8,a9,a10,a11,a12,a13++y74,a14,a15)) else (some (3,false,a2,a3,a4,a5,a6,a7,a8,a9,a10,a11,a12,a13++y74,a14,a15))) else none) else none) else none) else none) else none)) else none)) else none)))) else (let y75:Bool:=s42.toList==(⟨#[70]⟩ : ByteArray).toList
 bif y75 then (bif decide (a1≤4) then ((Q3a.F n a0 a2 a3 a4 a5 a6 a7 a8 a9 a10 a11 a12 a13 a14 a15).bind fun p76=>
 some (4,p76.1,p76.2.1,p76.2.2.1,p76.2.2.2.1,p76.2.2.2.2.1,p76.2.2.2.2.2.1,p76.2.2.2.2.2.2.1,p76.2.2.2.2.2.2.2.1,p76.2.2.2.2.2.2.2.2.1,p76.2.2.2.2.2.2.2.2.2.1,p76.2.2.2.2.2.2.2.2.2.2.1,p76.2.2.2.2.2.2.2.2.2.2.2.1,p76.2.2.2.2.2.2.2.2.2.2.2.2.1,p76.2.2.2.2.2.2.2.2.2.2.2.2.2.1,p76.2.2.2.2.2.2.2.2.2.2.2.2.2.2)) else (some (4,false,a2,a3,a4,a5,a6,a7,a8,a9,a10,a11,a12,a13,a14,a15))) else (let y77:Bool:=s42.toList==(⟨#[75]⟩ : ByteArray).toList
 bif y77 then (bif decide (a1 > 5) then (c (.z35 a2 a3 a4 a5 a6 a7 a8 a9 a10 a11 a12 a13 a14 a15)) else (bif decide (y1 < 1) then (c (.z35 a2 a3 a4 a5 a6 a7 a8 a9 a10 a11 a12 a13 a14 a15)) else (bif decide (y1 > 2) then (c (.z35 a2 a3 a4 a5 a6 a7 a8 a9 a10 a11 a12 a13 a14 a15)) else (bif decide ((1:Int) < (a0.length:Nat)) then (withCons ((a0.getD 1 .undef).cells) fun h78 r79=>
 withStr h78 fun s80=>
 (Q3e.F n s80).bind fun p81=>
 bif !p81 then (c (.z35 a2 a3 a4 a5 a6 a7 a8 a9 a10 a11 a12 a13 a14 a15)) else (bif y1==2 then (bif decide ((2:Int) < (a0.length:Nat)) then (withCons ((a0.getD 2 .undef).cells) fun h82 r83=>
 withStr h82 fun s84=>
 let y85:Bool:=!(s84.toList==(⟨#[68,69,83,67,69,78,68]⟩ : ByteArray).toList)
 bif y85 then (c (.z35 a2 a3 a4 a5 a6 a7 a8 a9 a10 a11 a12 a13 a14 a15)) else (bif decide ((1:Int) < (a0.length:Nat)) then (withCons ((a0.getD 1 .undef).cells) fun h86 r87=>
 withStr h86 fun s88=>
 bif a2 then (let y89:List AV:=[AV.agg [vs s88,vb (y1==2)]]
 bif decide (a14.length+y89.length≤most) then (c (.z40 a2 a3 a4 a5 a6 a7 a8 a9 a10 a11 a12 a13 (a14++y89) a15)) else none) else (let y90:List AV:=[AV.agg [vs s88,vb (y1==2)]]
 bif decide (a10.length+y90.length≤most) then (c (.z40 a2 a3 a4 a5 a6 a7 a8 a9 (a10++y90) a11 a12 a13 a14 a15)) else none)) else none)) else none) else (bif decide ((1:Int) < (a0.length:Nat)) then (withCons ((a0.getD 1 .undef).cells) fun h91 r92=>
 withStr h91 fun s93=>
 bif a2 then (let y94:List AV:=[AV.agg [vs s93,vb (y1==2)]]
 bif decide (a14.length+y94.length≤most) then (c (.z40 a2 a3 a4 a5 a6 a7 a8 a9 a10 a11 a12 a13 (a14++y94) a15)) else none) else (let y95:List AV:=[AV.agg [vs s93,vb (y1==2)]]
 bif decide (a10.length+y95.length≤most) then (c (.z40 a2 a3 a4 a5 a6 a7 a8 a9 (a10++y95) a11 a12 a13 a14 a15)) else none)) else none))) else none)))) else (let y96:Bool:=s42.toList==(⟨#[83]⟩ : ByteArray).toList
 bif y96 then (bif a2 then ((Q3b.F n a0 a2 a3 a4 a5 a6 a7 a8 a9 a10 a11 a12 a13 a14 a15).bind fun p97=>
 some (6,p97.1,p97.2.1,p97.2.2.1,p97.2.2.2.1,p97.2.2.2.2.1,p97.2.2.2.2.2.1,p97.2.2.2.2.2.2.1,p97.2.2.2.2.2.2.2.1,p97.2.2.2.2.2.2.2.2.1,p97.2.2.2.2.2.2.2.2.2.1,p97.2.2.2.2.2.2.2.2.2.2.1,p97.2.2.2.2.2.2.2.2.2.2.2.1,p97.2.2.2.2.2.2.2.2.2.2.2.2.1,p97.2.2.2.2.2.2.2.2.2.2.2.2.2.1,p97.2.2.2.2.2.2.2.2.2.2.2.2.2.2)) else (some (6,false,a2,a3,a4,a5,a6,a7,a8,a9,a10,a11,a12,a13,a14,a15))) else (let y98:Bool:=s42.toList==(⟨#[79]⟩ : ByteArray).toList
 bif y98 then (bif a2 then ((Q3b.F n a0 a2 a3 a4 a5 a6 a7 a8 a9 a10 a11 a12 a13 a14 a15).bind fun p99=>
 some (6,p99.1,p99.2.1,p99.2.2.1,p99.2.2.2.1,p99.2.2.2.2.1,p99.2.2.2.2.2.1,p99.2.2.2.2.2.2.1,p99.2.2.2.2.2.2.2.1,p99.2.2.2.2.2.2.2.2.1,p99.2.2.2.2.2.2.2.2.2.1,p99.2.2.2.2.2.2.2.2.2.2.1,p99.2.2.2.2.2.2.2.2.2.2.2.1,p99.2.2.2.2.2.2.2.2.2.2.2.2.1,p99.2.2.2.2.2.2.2.2.2.2.2.2.2.1,p99.2.2.2.2.2.2.2.2.2.2.2.2.2.2)) else (some (6,false,a2,a3,a4,a5,a6,a7,a8,a9,a10,a11,a12,a13,a14,a15))) else (some (0,false,a2,a3,a4,a5,a6,a7,a8,a9,a10,a11,a12,a13,a14,a15)))))))) else none))
def Q3c.E (n:Nat) (c:Q3c.Z→Option Q3c.T):Q3c.A→Option Q3c.T:=fun (a0,a1,a2,a3,a4,a5,a6,a7,a8,a9,a10,a11,a12,a13,a14,a15)=>Q3c.e n c a0 a1 a2 a3 a4 a5 a6 a7 a8 a9 a10 a11 a12 a13 a14 a15
def Q3c.l (n:Nat):Nat→Q3c.Z→Option Q3c.T:=loopL (Q3c.r n)
def Q3c.F (n:Nat) (a0:List AV) (a1:Int) (a2:Bool) (a3 a4:ByteArray) (a5:Bool) (a6 a7:ByteArray) (a8:Bool) (a9 a10 a11 a12 a13 a14 a15:List AV):Option Q3c.T:=Q3c.e n (Q3c.l n n) a0 a1 a2 a3 a4 a5 a6 a7 a8 a9 a10 a11 a12 a13 a14 a15
def Q3c.FA (n:Nat):Q3c.A→Option Q3c.T:=Q3c.E n (Q3c.l n n)
def Q3c.nils:List (Nat × Nat × Fl × Nat):=[(0,8,⟨true,9⟩,1),(0,9,⟨true,95⟩,3),(0,10,⟨true,97⟩,4),(0,11,⟨true,111⟩,2),(0,13,⟨false,100⟩,2),(0,3,⟨true,125⟩,4),(0,4,⟨true,111⟩,2)]
theorem Q3c.hands (n:Nat):∀ a p,Q3c.FA n a=some p→HandsMIn Tryz.prog 67 (Q3c.i a) (Q3c.b a) (Q3c.y p) (Q3c.w p):=
 pfM_hands (G:=Gk 1) (C:=Q3c.C n) (cut:=Q3c.cut) (t:=Q3c.t) (s:=Q3c.s) (nils:=Q3c.nils) (e:=Q3c.E n) (r:=Q3c.r n) (n:=n) (cfg.kb 1) mixed globs Q3c.qi (fun a=>by kernel_rfl) (Q3c.tells n) Tryz.func67 (by kernel_rfl) (by kernel_rfl) (fun rec a=>by kernel_rfl) (fun rec z=>by cases z <;> kernel_rfl)
def Q3c.via {R:Type} (n:Nat):List AV→(AV→Option R)→Option R:=viaK (Q3c.FA n) Q3c.o Q3c.p
theorem Q3c.tells1 {R:Type} (n:Nat) (xs:List AV):Tells1 (R:=R) Tryz.prog 67 xs (Q3c.via n xs):=tells_viaM (fun _=>rfl) Q3c.oi (Q3c.hands n) xs
end Go.Proofs.YtmpglmcjoelciaaGreatDoor.Ev
namespace Go.Proofs.YtmpglmcjoelciaaGreatDoor.Ev
open Go Go.Proofs Go.Proofs.Ev
set_option linter.unusedVariables false
set_option maxRecDepth 100000
abbrev Q1x.A:=Int × Int × Int
abbrev Q1x.T:=Int
def Q1x.i:Q1x.A→List AV:=fun (a0,a1,a2)=>[AV.agg [vi a0,vi a1,vi a2]]
def Q1x.o (xs:List AV):Option Q1x.A:=match xs with | [.agg [.v (.int .i64 a0),.v (.int .i64 a1),.v (.int .i64 a2)]]=>some (a0,a1,a2) | _=>none
theorem Q1x.oi:∀ xs a,Q1x.o xs=some a→xs=Q1x.i a:=by
 intro xs a h
 unfold Q1x.o at h
 split at h
 ·cases h; rfl
 ·cases h
def Q1x.p (p:Q1x.T):AV:=vi p
def Q1x.q (x:AV):Option Q1x.T:=match x with | .v (.int .i64 p0)=>some p0 | _=>none
theorem Q1x.qi:∀ x p,Q1x.q x=some p→x=Q1x.p p:=by
 intro x p h
 unfold Q1x.q at h
 split at h
 ·cases h; rfl
 ·cases h
def Q1x.C {R:Type} (n:Nat) (f:FuncId) (xs:List AV):(AV→Option R)→Option R:=
 bif Nat.beq f 88 then Q1p.via n xs else fun _=>none
theorem Q1x.tells {R:Type} (n:Nat):Tells (R:=R) Tryz.prog (Q1x.C n):=fun _ xs=>tells_at (Q1p.tells1 n xs) (Tells1.none)
def Q1x.cut (r:Nat):Option Keep:=match r with  | _=>none
def Q1x.e (n:Nat) (a0 a1 a2:Int):Option Int:=
 bif a0==1 then (let y1:Int:=IntKind.i64.wrap (Int.tdiv a1 2)
 some (IntKind.i64.wrap (y1+1))) else (bif a0==3 then ((Q1p.F n (a1==9)).bind fun p2=>
 let y3:Int:=IntKind.i64.wrap ((2:Int)*p2)
 let y4:Int:=IntKind.i64.wrap ((2:Int)+y3)
 some y4) else (bif a0==4 then (some 16) else (some a1)))
def Q1x.E (n:Nat):Q1x.A→Option Q1x.T:=fun (a0,a1,a2)=>Q1x.e n a0 a1 a2
def Q1x.F (n:Nat) (a0 a1 a2:Int):Option Int:=Q1x.e n a0 a1 a2
def Q1x.FA (n:Nat):Q1x.A→Option Q1x.T:=Q1x.E n
theorem Q1x.hands (n:Nat):∀ a p,Q1x.FA n a=some p→HandsIn Tryz.prog 142 (Q1x.i a) (Q1x.p p):=
 pf_hands (C:=Q1x.C n) (cut:=Q1x.cut) (Z:=Empty) (t:=nofun) (s:=nofun) (e:=fun _=>Q1x.E n) (r:=fun _ z=>nomatch z) (n:=n) cfg mixed globs rfl Q1x.qi (Q1x.tells n) Tryz.func142 (by kernel_rfl) (by kernel_rfl) (fun rec a=>by kernel_rfl) (fun rec z=>nomatch z)
def Q1x.via {R:Type} (n:Nat):List AV→(AV→Option R)→Option R:=viaK (Q1x.FA n) Q1x.o Q1x.p
theorem Q1x.tells1 {R:Type} (n:Nat) (xs:List AV):Tells1 (R:=R) Tryz.prog 142 xs (Q1x.via n xs):=tells_via Q1x.oi (fun a=>by kernel_rfl) (Q1x.hands n) xs
end Go.Proofs.YtmpglmcjoelciaaGreatDoor.Ev
namespace Go.Proofs.YtmpglmcjoelciaaGreatDoor.Ev
open Go Go.Proofs Go.Proofs.Ev
set_option linter.unusedVariables false
set_option maxRecDepth 100000
abbrev Q27.A:=ByteArray × List AV
abbrev Q27.T:=Int
def Q27.i:Q27.A→List AV:=fun (a0,a1)=>[AV.agg [vs a0,.sl ⟨true,125⟩ 4 a1]]
def Q27.o (xs:List AV):Option Q27.A:=match xs with | [.agg [.v (.string a0),.sl ⟨true,125⟩ 4 a1]]=>some (a0,a1) | _=>none
theorem Q27.oi:∀ xs a,Q27.o xs=some a→xs=Q27.i a:=by
 intro xs a h
 unfold Q27.o at h
 split at h
 ·cases h; rfl
 ·cases h
def Q27.p (p:Q27.T):AV:=vi p
def Q27.q (x:AV):Option Q27.T:=match x with | .v (.int .i64 p0)=>some p0 | _=>none
theorem Q27.qi:∀ x p,Q27.q x=some p→x=Q27.p p:=by
 intro x p h
 unfold Q27.q at h
 split at h
 ·cases h; rfl
 ·cases h
inductive Q27.Z where
 | z3 (z1 z2:Int) (z3:ByteArray) (z4:List AV)
def Q27.C {R:Type} (n:Nat) (f:FuncId) (xs:List AV):(AV→Option R)→Option R:=
 bif Nat.beq f 142 then Q1x.via n xs else fun _=>none
theorem Q27.tells {R:Type} (n:Nat):Tells (R:=R) Tryz.prog (Q27.C n):=fun _ xs=>tells_at (Q1x.tells1 n xs) (Tells1.none)
def Q27.cut (r:Nat):Option Keep:=match r with | 3=>some ⟨[1,3,4],[]⟩ | _=>none
def Q27.t (z:Q27.Z):List Item:=(todoOf (match z with | .z3 _ _ _ _=>3) 1000 [.code (Tryz.f95.body.getD .skip)]).getD []
def Q27.s:Q27.Z→St
 | .z3 z1 z2 z3 z4=>⟨spr 22 0 [(1,.ptr 0 0),(3,vi z1),(4,vi z2)],Mem.ofList [.box 46 [vs z3,.sl ⟨true,125⟩ 4 z4]],1⟩
def Q27.r3 (n:Nat) (c:Q27.Z→Option Int) (z1 z2:Int) (z3:ByteArray) (z4:List AV):Option Int:=
 let y1:Bool:=decide (z2 < ((z4.length:Nat):Int))
 bif y1 then (bif decide ((0:Int)≤z2)&&decide (z2 < ((z4.length:Nat):Int)) then (withCons (((z4.getD ((z2).toNat) .undef).cells).drop 1) fun h2 r3=>
 withInt .i64 h2 fun x4=>
 withCons r3 fun h5 r6=>
 withInt .i64 h5 fun x7=>
 withCons r6 fun h8 r9=>
 withInt .i64 h8 fun x10=>
 (Q1x.F n x4 x7 x10).bind fun p11=>
 c (.z3 (IntKind.i64.wrap (z1+p11)) (IntKind.i64.wrap (z2+1)) z3 z4)) else none) else (some z1)
def Q27.r (n:Nat) (c:Q27.Z→Option Int):Q27.Z→Option Int
 | .z3 z1 z2 z3 z4=>Q27.r3 n c z1 z2 z3 z4
def Q27.e (n:Nat) (c:Q27.Z→Option Int) (a0:ByteArray) (a1:List AV):Option Int:=
 c (.z3 0 0 a0 a1)
def Q27.E (n:Nat) (c:Q27.Z→Option Int):Q27.A→Option Q27.T:=fun (a0,a1)=>Q27.e n c a0 a1
def Q27.l (n:Nat):Nat→Q27.Z→Option Int:=loopL (Q27.r n)
def Q27.F (n:Nat) (a0:ByteArray) (a1:List AV):Option Int:=Q27.e n (Q27.l n n) a0 a1
def Q27.FA (n:Nat):Q27.A→Option Q27.T:=Q27.E n (Q27.l n n)
theorem Q27.hands (n:Nat):∀ a p,Q27.FA n a=some p→HandsIn Tryz.prog 95 (Q27.i a) (Q27.p p):=
 pf_hands (C:=Q27.C n) (cut:=Q27.cut) (t:=Q27.t) (s:=Q27.s) (e:=Q27.E n) (r:=Q27.r n) (n:=n) cfg mixed globs rfl Q27.qi (Q27.tells n) Tryz.func95 (by kernel_rfl) (by kernel_rfl) (fun rec a=>by kernel_rfl) (fun rec z=>by cases z <;> kernel_rfl)
def Q27.via {R:Type} (n:Nat):List AV→(AV→Option R)→Option R:=viaK (Q27.FA n) Q27.o Q27.p
theorem Q27.tells1 {R:Type} (n:Nat) (xs:List AV):Tells1 (R:=R) Tryz.prog 95 xs (Q27.via n xs):=tells_via Q27.oi (fun a=>by kernel_rfl) (Q27.hands n) xs
end Go.Proofs.YtmpglmcjoelciaaGreatDoor.Ev
namespace Go.Proofs.YtmpglmcjoelciaaGreatDoor.Ev
open Go Go.Proofs Go.Proofs.Ev
set_option linter.unusedVariables false
set_option maxRecDepth 100000
abbrev Q21.A:=ByteArray × List AV × ByteArray
abbrev Q21.T:=Int
def Q21.i:Q21.A→List AV:=fun (a0,a1,a2)=>[AV.agg [vs a0,.sl ⟨true,125⟩ 4 a1],vs a2]
def Q21.o (xs:List AV):Option Q21.A:=match xs with | [.agg [.v (.string a0),.sl ⟨true,125⟩ 4 a1],.v (.string a2)]=>some (a0,a1,a2) | _=>none
theorem Q21.oi:∀ xs a,Q21.o xs=some a→xs=Q21.i a:=by
 intro xs a h
 unfold Q21.o at h
 split at h
 ·cases h; rfl
 ·cases h
def Q21.p (p:Q21.T):AV:=vi p
def Q21.q (x:AV):Option Q21.T:=match x with | .v (.int .i64 p0)=>some p0 | _=>none
theorem Q21.qi:∀ x p,Q21.q x=some p→x=Q21.p p:=by
 intro x p h
 unfold Q21.q at h
 split at h
 ·cases h; rfl
 ·cases h
inductive Q21.Z where
 | z2 (z1:ByteArray) (z2:Int) (z3:ByteArray) (z4:List AV)
def Q21.C {R:Type} (n:Nat) (f:FuncId) (xs:List AV):(AV→Option R)→Option R:=
 fun _=>none
theorem Q21.tells {R:Type} (n:Nat):Tells (R:=R) Tryz.prog (Q21.C n):=fun _ xs=>Tells1.none
def Q21.cut (r:Nat):Option Keep:=match r with | 2=>some ⟨[1,2,5],[]⟩ | _=>none
def Q21.t (z:Q21.Z):List Item:=(todoOf (match z with | .z2 _ _ _ _=>2) 1000 [.code (Tryz.f140.body.getD .skip)]).getD []
def Q21.s:Q21.Z→St
 | .z2 z1 z2 z3 z4=>⟨spr 22 0 [(1,vs z1),(2,.ptr 0 0),(5,vi z2)],Mem.ofList [.box 46 [vs z3,.sl ⟨true,125⟩ 4 z4]],1⟩
def Q21.r2 (n:Nat) (c:Q21.Z→Option Int) (z1:ByteArray) (z2:Int) (z3:ByteArray) (z4:List AV):Option Int:=
 let y1:Bool:=decide (z2 < ((z4.length:Nat):Int))
 bif y1 then (bif decide ((0:Int)≤z2)&&decide (z2 < ((z4.length:Nat):Int)) then (withCons ((z4.getD ((z2).toNat) .undef).cells) fun h2 r3=>
 withStr h2 fun s4=>
 bif s4.toList==z1.toList then (some z2) else (c (.z2 z1 (IntKind.i64.wrap (z2+1)) z3 z4))) else none) else (some (-1))
def Q21.r (n:Nat) (c:Q21.Z→Option Int):Q21.Z→Option Int
 | .z2 z1 z2 z3 z4=>Q21.r2 n c z1 z2 z3 z4
def Q21.e (n:Nat) (c:Q21.Z→Option Int) (a0:ByteArray) (a1:List AV) (a2:ByteArray):Option Int:=
 c (.z2 a2 0 a0 a1)
def Q21.E (n:Nat) (c:Q21.Z→Option Int):Q21.A→Option Q21.T:=fun (a0,a1,a2)=>Q21.e n c a0 a1 a2
def Q21.l (n:Nat):Nat→Q21.Z→Option Int:=loopL (Q21.r n)
def Q21.F (n:Nat) (a0:ByteArray) (a1:List AV) (a2:ByteArray):Option Int:=Q21.e n (Q21.l n n) a0 a1 a2
def Q21.FA (n:Nat):Q21.A→Option Q21.T:=Q21.E n (Q21.l n n)
theorem Q21.hands (n:Nat):∀ a p,Q21.FA n a=some p→HandsIn Tryz.prog 140 (Q21.i a) (Q21.p p):=
 pf_hands (C:=Q21.C n) (cut:=Q21.cut) (t:=Q21.t) (s:=Q21.s) (e:=Q21.E n) (r:=Q21.r n) (n:=n) cfg mixed globs rfl Q21.qi (Q21.tells n) Tryz.func140 (by kernel_rfl) (by kernel_rfl) (fun rec a=>by kernel_rfl) (fun rec z=>by cases z <;> kernel_rfl)
def Q21.via {R:Type} (n:Nat):List AV→(AV→Option R)→Option R:=viaK (Q21.FA n) Q21.o Q21.p
theorem Q21.tells1 {R:Type} (n:Nat) (xs:List AV):Tells1 (R:=R) Tryz.prog 140 xs (Q21.via n xs):=tells_via Q21.oi (fun a=>by kernel_rfl) (Q21.hands n) xs
end Go.Proofs.YtmpglmcjoelciaaGreatDoor.Ev
namespace Go.Proofs.YtmpglmcjoelciaaGreatDoor.Ev
open Go Go.Proofs Go.Proofs.Ev
set_option linter.unusedVariables false
set_option maxRecDepth 100000
abbrev Q22.A:=ByteArray × List AV
abbrev Q22.T:=Int × Int
def Q22.i:Q22.A→List AV:=fun (a0,a1)=>[AV.agg [vs a0,.sl ⟨true,125⟩ 4 a1]]
def Q22.o (xs:List AV):Option Q22.A:=match xs with | [.agg [.v (.string a0),.sl ⟨true,125⟩ 4 a1]]=>some (a0,a1) | _=>none
theorem Q22.oi:∀ xs a,Q22.o xs=some a→xs=Q22.i a:=by
 intro xs a h
 unfold Q22.o at h
 split at h
 ·cases h; rfl
 ·cases h
def Q22.p (p:Q22.T):AV:=.tup [vi p.1,vi p.2]
def Q22.q (x:AV):Option Q22.T:=match x with | .tup [.v (.int .i64 p0),.v (.int .i64 p1)]=>some (p0,p1) | _=>none
theorem Q22.qi:∀ x p,Q22.q x=some p→x=Q22.p p:=by
 intro x p h
 unfold Q22.q at h
 split at h
 ·cases h; rfl
 ·cases h
inductive Q22.Z where
 | z6 (z1:Int) (z2:ByteArray) (z3:List AV)
def Q22.C {R:Type} (n:Nat) (f:FuncId) (xs:List AV):(AV→Option R)→Option R:=
 bif Nat.beq f 32 then Q2q.via n xs else bif Nat.beq f 59 then Q1t.via n xs else bif Nat.beq f 88 then Q1p.via n xs else bif Nat.beq f 95 then Q27.via n xs else bif Nat.beq f 140 then Q21.via n xs else fun _=>none
theorem Q22.tells {R:Type} (n:Nat):Tells (R:=R) Tryz.prog (Q22.C n):=fun _ xs=>tells_at (Q2q.tells1 n xs) (tells_at (Q1t.tells1 n xs) (tells_at (Q1p.tells1 n xs) (tells_at (Q27.tells1 n xs) (tells_at (Q21.tells1 n xs) (Tells1.none)))))
def Q22.cut (r:Nat):Option Keep:=match r with | 6=>some ⟨[1,4],[]⟩ | _=>none
def Q22.t (z:Q22.Z):List Item:=(todoOf (match z with | .z6 _ _ _=>6) 1000 [.code (Tryz.f160.body.getD .skip)]).getD []
def Q22.s:Q22.Z→St
 | .z6 z1 z2 z3=>⟨spr 66 0 [(1,.ptr 0 0),(4,vi z1)],Mem.ofList [.box 46 [vs z2,.sl ⟨true,125⟩ 4 z3]],1⟩
def Q22.r6 (n:Nat) (c:Q22.Z→Option (Int × Int)) (z1:Int) (z2:ByteArray) (z3:List AV):Option (Int × Int):=
 let y3:Bool:=decide (z1 < ((z3.length:Nat):Int))
 bif y3 then (bif decide ((0:Int)≤z1)&&decide (z1 < ((z3.length:Nat):Int)) then (withCons ((z3.getD ((z1).toNat) .undef).cells) fun h4 r5=>
 withStr h4 fun s6=>
 (Q1t.F n s6).bind fun p7=>
 bif !p7 then (some (z1,7)) else (bif decide ((0:Int)≤z1)&&decide (z1 < ((z3.length:Nat):Int)) then (withCons ((z3.getD ((z1).toNat) .undef).cells) fun h8 r9=>
 withStr h8 fun s10=>
 (Q21.F n z2 z3 s10).bind fun p11=>
 bif decide (p11 < z1) then (some (z1,13)) else (bif decide ((0:Int)≤z1)&&decide (z1 < ((z3.length:Nat):Int)) then (withCons (((z3.getD ((z1).toNat) .undef).cells).drop 1) fun h12 r13=>
 withInt .i64 h12 fun x14=>
 withCons r13 fun h15 r16=>
 withInt .i64 h15 fun x17=>
 withCons r16 fun h18 r19=>
 withInt .i64 h18 fun x20=>
 (Q2q.F n x14 x17 x20).bind fun p21=>
 bif p21 != 0 then (some (z1,p21)) else (bif decide ((0:Int)≤z1)&&decide (z1 < ((z3.length:Nat):Int)) then (withCons (((z3.getD ((z1).toNat) .undef).cells).drop 1) fun h22 r23=>
 withInt .i64 h22 fun x24=>
 bif x24==4 then (some (z1,17)) else (c (.z6 (IntKind.i64.wrap (z1+1)) z2 z3))) else none)) else none)) else none)) else none) else ((Q27.F n z2 z3).bind fun p25=>
 (Q1p.F n (decide (p25 > 200))).bind fun p26=>
 let y27:Int:=IntKind.i64.wrap ((18:Int)*p26)
 some (0,y27))
def Q22.r (n:Nat) (c:Q22.Z→Option (Int × Int)):Q22.Z→Option (Int × Int)
 | .z6 z1 z2 z3=>Q22.r6 n c z1 z2 z3
def Q22.e (n:Nat) (c:Q22.Z→Option (Int × Int)) (a0:ByteArray) (a1:List AV):Option (Int × Int):=
 let y1:Bool:=((a1.length:Nat):Int)==0
 bif y1 then (some (0,1)) else (let y2:Bool:=decide (((a1.length:Nat):Int) > 20)
 bif y2 then (some (0,2)) else (c (.z6 0 a0 a1)))
def Q22.E (n:Nat) (c:Q22.Z→Option (Int × Int)):Q22.A→Option Q22.T:=fun (a0,a1)=>Q22.e n c a0 a1
def Q22.l (n:Nat):Nat→Q22.Z→Option (Int × Int):=loopL (Q22.r n)
def Q22.F (n:Nat) (a0:ByteArray) (a1:List AV):Option (Int × Int):=Q22.e n (Q22.l n n) a0 a1
def Q22.FA (n:Nat):Q22.A→Option Q22.T:=Q22.E n (Q22.l n n)
theorem Q22.hands (n:Nat):∀ a p,Q22.FA n a=some p→HandsIn Tryz.prog 160 (Q22.i a) (Q22.p p):=
 pf_hands (C:=Q22.C n) (cut:=Q22.cut) (t:=Q22.t) (s:=Q22.s) (e:=Q22.E n) (r:=Q22.r n) (n:=n) cfg mixed globs rfl Q22.qi (Q22.tells n) Tryz.func160 (by kernel_rfl) (by kernel_rfl) (fun rec a=>by kernel_rfl) (fun rec z=>by cases z <;> kernel_rfl)
def Q22.via {R:Type} (n:Nat):List AV→(AV→Option R)→Option R:=viaK (Q22.FA n) Q22.o Q22.p
theorem Q22.tells1 {R:Type} (n:Nat) (xs:List AV):Tells1 (R:=R) Tryz.prog 160 xs (Q22.via n xs):=tells_via Q22.oi (fun a=>by kernel_rfl) (Q22.hands n) xs
end Go.Proofs.YtmpglmcjoelciaaGreatDoor.Ev
namespace Go.Proofs.YtmpglmcjoelciaaGreatDoor.Ev
open Go Go.Proofs Go.Proofs.Ev
set_option linter.unusedVariables false
set_option maxRecDepth 100000
abbrev Q24.A:=ByteArray × List AV
abbrev Q24.T:=Int × Int
def Q24.i:Q24.A→List AV:=fun (a0,a1)=>[AV.agg [vs a0,.sl ⟨true,125⟩ 4 a1]]
def Q24.o (xs:List AV):Option Q24.A:=match xs with | [.agg [.v (.string a0),.sl ⟨true,125⟩ 4 a1]]=>some (a0,a1) | _=>none
theorem Q24.oi:∀ xs a,Q24.o xs=some a→xs=Q24.i a:=by
 intro xs a h
 unfold Q24.o at h
 split at h
 ·cases h; rfl
 ·cases h
def Q24.p (p:Q24.T):AV:=.tup [vi p.1,vi p.2]
def Q24.q (x:AV):Option Q24.T:=match x with | .tup [.v (.int .i64 p0),.v (.int .i64 p1)]=>some (p0,p1) | _=>none
theorem Q24.qi:∀ x p,Q24.q x=some p→x=Q24.p p:=by
 intro x p h
 unfold Q24.q at h
 split at h
 ·cases h; rfl
 ·cases h
def Q24.C {R:Type} (n:Nat) (f:FuncId) (xs:List AV):(AV→Option R)→Option R:=
 bif Nat.beq f 59 then Q1t.via n xs else bif Nat.beq f 160 then Q22.via n xs else fun _=>none
theorem Q24.tells {R:Type} (n:Nat):Tells (R:=R) Tryz.prog (Q24.C n):=fun _ xs=>tells_at (Q1t.tells1 n xs) (tells_at (Q22.tells1 n xs) (Tells1.none))
def Q24.cut (r:Nat):Option Keep:=match r with  | _=>none
def Q24.e (n:Nat) (a0:ByteArray) (a1:List AV):Option (Int × Int):=
 (Q1t.F n a0).bind fun p1=>
 bif !p1 then (some (0,7)) else ((Q22.F n a0 a1).bind fun p2=>
 some (p2.1,p2.2))
def Q24.E (n:Nat):Q24.A→Option Q24.T:=fun (a0,a1)=>Q24.e n a0 a1
def Q24.F (n:Nat) (a0:ByteArray) (a1:List AV):Option (Int × Int):=Q24.e n a0 a1
def Q24.FA (n:Nat):Q24.A→Option Q24.T:=Q24.E n
theorem Q24.hands (n:Nat):∀ a p,Q24.FA n a=some p→HandsIn Tryz.prog 138 (Q24.i a) (Q24.p p):=
 pf_hands (C:=Q24.C n) (cut:=Q24.cut) (Z:=Empty) (t:=nofun) (s:=nofun) (e:=fun _=>Q24.E n) (r:=fun _ z=>nomatch z) (n:=n) cfg mixed globs rfl Q24.qi (Q24.tells n) Tryz.func138 (by kernel_rfl) (by kernel_rfl) (fun rec a=>by kernel_rfl) (fun rec z=>nomatch z)
def Q24.via {R:Type} (n:Nat):List AV→(AV→Option R)→Option R:=viaK (Q24.FA n) Q24.o Q24.p
theorem Q24.tells1 {R:Type} (n:Nat) (xs:List AV):Tells1 (R:=R) Tryz.prog 138 xs (Q24.via n xs):=tells_via Q24.oi (fun a=>by kernel_rfl) (Q24.hands n) xs
end Go.Proofs.YtmpglmcjoelciaaGreatDoor.Ev
namespace Go.Proofs.YtmpglmcjoelciaaGreatDoor.Ev
open Go Go.Proofs Go.Proofs.Ev
set_option linter.unusedVariables false
set_option maxRecDepth 100000
abbrev Q25.A:=ByteArray × ByteArray × List AV × List AV × Bool
abbrev Q25.T:=Int × Int
def Q25.i:Q25.A→List AV:=fun (a0,a1,a2,a3,a4)=>[AV.agg [vs a0,vs a1,.sl ⟨true,125⟩ 4 a2,.sl ⟨true,111⟩ 2 a3,vb a4]]
def Q25.o (xs:List AV):Option Q25.A:=match xs with | [.agg [.v (.string a0),.v (.string a1),.sl ⟨true,125⟩ 4 a2,.sl ⟨true,111⟩ 2 a3,.v (.bool a4)]]=>some (a0,a1,a2,a3,a4) | _=>none
theorem Q25.oi:∀ xs a,Q25.o xs=some a→xs=Q25.i a:=by
 intro xs a h
 unfold Q25.o at h
 split at h
 ·cases h; rfl
 ·cases h
def Q25.p (p:Q25.T):AV:=.tup [vi p.1,vi p.2]
def Q25.q (x:AV):Option Q25.T:=match x with | .tup [.v (.int .i64 p0),.v (.int .i64 p1)]=>some (p0,p1) | _=>none
theorem Q25.qi:∀ x p,Q25.q x=some p→x=Q25.p p:=by
 intro x p h
 unfold Q25.q at h
 split at h
 ·cases h; rfl
 ·cases h
inductive Q25.Z where
 | z4 (z1:Int) (z2 z3:ByteArray) (z4 z5:List AV) (z6:Bool)
 | z9 (z1 z2:Int) (z3 z4:ByteArray) (z5 z6:List AV) (z7:Bool)
def Q25.C {R:Type} (n:Nat) (f:FuncId) (xs:List AV):(AV→Option R)→Option R:=
 bif Nat.beq f 140 then Q21.via n xs else fun _=>none
theorem Q25.tells {R:Type} (n:Nat):Tells (R:=R) Tryz.prog (Q25.C n):=fun _ xs=>tells_at (Q21.tells1 n xs) (Tells1.none)
def Q25.cut (r:Nat):Option Keep:=match r with | 4=>some ⟨[1,4],[]⟩ | 9=>some ⟨[1,4,5],[]⟩ | _=>none
def Q25.t (z:Q25.Z):List Item:=(todoOf (match z with | .z4 _ _ _ _ _ _=>4 | .z9 _ _ _ _ _ _ _=>9) 1000 [.code (Tryz.f139.body.getD .skip)]).getD []
def Q25.s:Q25.Z→St
 | .z4 z1 z2 z3 z4 z5 z6=>⟨spr 47 0 [(1,.ptr 0 0),(4,vi z1)],Mem.ofList [.box 48 [vs z2,vs z3,.sl ⟨true,125⟩ 4 z4,.sl ⟨true,111⟩ 2 z5,vb z6]],1⟩
 | .z9 z1 z2 z3 z4 z5 z6 z7=>⟨spr 47 0 [(1,.ptr 0 0),(4,vi z1),(5,vi z2)],Mem.ofList [.box 48 [vs z3,vs z4,.sl ⟨true,125⟩ 4 z5,.sl ⟨true,111⟩ 2 z6,vb z7]],1⟩
def Q25.r4 (n:Nat) (c:Q25.Z→Option (Int × Int)) (z1:Int) (z2 z3:ByteArray) (z4 z5:List AV) (z6:Bool):Option (Int × Int):=
 let y2:Bool:=decide (z1 < ((z5.length:Nat):Int))
 bif y2 then (bif decide ((0:Int)≤z1)&&decide (z1 < ((z5.length:Nat):Int)) then (withCons ((z5.getD ((z1).toNat) .undef).cells) fun h3 r4=>
 withStr h3 fun s5=>
 (Q21.F n z3 z4 s5).bind fun p6=>
 bif p6==(-1) then (some (z1,11)) else (c (.z9 z1 0 z2 z3 z4 z5 z6))) else none) else (some (0,0))
def Q25.r9 (n:Nat) (c:Q25.Z→Option (Int × Int)) (z1 z2:Int) (z3 z4:ByteArray) (z5 z6:List AV) (z7:Bool):Option (Int × Int):=
 bif decide (z2 < z1) then (bif decide ((0:Int)≤z2)&&decide (z2 < ((z6.length:Nat):Int)) then (withCons ((z6.getD ((z2).toNat) .undef).cells) fun h7 r8=>
 withStr h7 fun s9=>
 bif decide ((0:Int)≤z1)&&decide (z1 < ((z6.length:Nat):Int)) then (withCons ((z6.getD ((z1).toNat) .undef).cells) fun h10 r11=>
 withStr h10 fun s12=>
 bif s9.toList==s12.toList then (some (z1,13)) else (c (.z9 z1 (IntKind.i64.wrap (z2+1)) z3 z4 z5 z6 z7))) else none) else none) else (c (.z4 (IntKind.i64.wrap (z1+1)) z3 z4 z5 z6 z7))
def Q25.r (n:Nat) (c:Q25.Z→Option (Int × Int)):Q25.Z→Option (Int × Int)
 | .z4 z1 z2 z3 z4 z5 z6=>Q25.r4 n c z1 z2 z3 z4 z5 z6
 | .z9 z1 z2 z3 z4 z5 z6 z7=>Q25.r9 n c z1 z2 z3 z4 z5 z6 z7
def Q25.e (n:Nat) (c:Q25.Z→Option (Int × Int)) (a0 a1:ByteArray) (a2 a3:List AV) (a4:Bool):Option (Int × Int):=
 let y1:Bool:=decide (((a3.length:Nat):Int) > 4)
 bif y1 then (some (0,2)) else (c (.z4 0 a0 a1 a2 a3 a4))
def Q25.E (n:Nat) (c:Q25.Z→Option (Int × Int)):Q25.A→Option Q25.T:=fun (a0,a1,a2,a3,a4)=>Q25.e n c a0 a1 a2 a3 a4
def Q25.l (n:Nat):Nat→Q25.Z→Option (Int × Int):=loopL (Q25.r n)
def Q25.F (n:Nat) (a0 a1:ByteArray) (a2 a3:List AV) (a4:Bool):Option (Int × Int):=Q25.e n (Q25.l n n) a0 a1 a2 a3 a4
def Q25.FA (n:Nat):Q25.A→Option Q25.T:=Q25.E n (Q25.l n n)
theorem Q25.hands (n:Nat):∀ a p,Q25.FA n a=some p→HandsIn Tryz.prog 139 (Q25.i a) (Q25.p p):=
 pf_hands (C:=Q25.C n) (cut:=Q25.cut) (t:=Q25.t) (s:=Q25.s) (e:=Q25.E n) (r:=Q25.r n) (n:=n) cfg mixed globs rfl Q25.qi (Q25.tells n) Tryz.func139 (by kernel_rfl) (by kernel_rfl) (fun rec a=>by kernel_rfl) (fun rec z=>by cases z <;> kernel_rfl)
def Q25.via {R:Type} (n:Nat):List AV→(AV→Option R)→Option R:=viaK (Q25.FA n) Q25.o Q25.p
theorem Q25.tells1 {R:Type} (n:Nat) (xs:List AV):Tells1 (R:=R) Tryz.prog 139 xs (Q25.via n xs):=tells_via Q25.oi (fun a=>by kernel_rfl) (Q25.hands n) xs
end Go.Proofs.YtmpglmcjoelciaaGreatDoor.Ev
end
