import Derived.Test.YtnoldakbllfmnaaGreatDoorDYa
import Derived.Test.YtnoldakbllfmnaaGreatDoorDYVc
set_option linter.all false
set_option maxRecDepth 100000
noncomputable section
namespace Go.Proofs.YtnoldakbllfmnaaGreatDoor.Ev
open Go Go.Proofs Go.Proofs.Ev
def uE.C{R:Type}(n:Nat)(f:FuncId)(xs:List AV):(AV->Option R)->Option R:=
 bif Nat.beq f 215 then uD.via n xs else λ_=>none
theorem uE.c8{R:Type}(n:Nat):dt (R:=R) Tryz.prog (uE.C n):=λ_ xs=>cR (uD.cO n xs) (cT.none)
def uE.cut(r:Nat):Option dP:=match r with  | _=>none
def uE.e(n:Nat)(a0 a1:ByteArray):Option (ByteArray × Bool):=
 (uD.F n a0 a1).bind λp1=>
 bif !p1 then(some (a0,false))else(let y2:Int:=IntKind.i64.wrap (((a0.size:Nat):Int) - ((a1.size:Nat):Int))
 bif decide ((0:Int)<=y2)&&decide ((y2:Int)<=((a0.size:Nat):Int))then(some (a0.extract 0 (y2).toNat,true))else none)
def uE.E(n:Nat):g_.A->Option jY.T:=fun(a0,a1)=>uE.e n a0 a1
def uE.F(n:Nat)(a0 a1:ByteArray):Option (ByteArray × Bool):=uE.e n a0 a1
def uE.FA(n:Nat):g_.A->Option jY.T:=uE.E n
theorem uE.cW(n:Nat):∀a p,uE.FA n a=some p->dc Tryz.prog 184 (g_.i a) (jY.p p):=gp uE.cut (uE.E n) cfg mixed dB jY.qi (uE.c8 n) Tryz.func184
def uE.via{R:Type}(n:Nat):List AV->(AV->Option R)->Option R:=d_ (uE.FA n) g_.o jY.p
theorem uE.cO{R:Type}(n:Nat)(xs:List AV):cT (R:=R) Tryz.prog 184 xs (uE.via n xs):=c7 g_.oi (λa=>by kernel_rfl) (uE.cW n) xs
def q5.C{R:Type}(n:Nat)(f:FuncId)(xs:List AV):(AV->Option R)->Option R:=
 bif Nat.beq f 184 then uE.via n xs else λ_=>none
theorem q5.c8{R:Type}(n:Nat):dt (R:=R) Tryz.prog (q5.C n):=λ_ xs=>cR (uE.cO n xs) (cT.none)
def q5.cut(r:Nat):Option dP:=match r with  | _=>none
def q5.e(n:Nat)(a0 a1:ByteArray):Option (ByteArray × Bool):=
 (uE.F n a0 a1).bind λp1=>
 some (p1.1,p1.2)
def q5.E(n:Nat):g_.A->Option jY.T:=fun(a0,a1)=>q5.e n a0 a1
def q5.F(n:Nat)(a0 a1:ByteArray):Option (ByteArray × Bool):=q5.e n a0 a1
def q5.FA(n:Nat):g_.A->Option jY.T:=q5.E n
theorem q5.cW(n:Nat):∀a p,q5.FA n a=some p->dc Tryz.prog 154 (g_.i a) (jY.p p):=gp q5.cut (q5.E n) cfg mixed dB jY.qi (q5.c8 n) Tryz.func154
def q5.via{R:Type}(n:Nat):List AV->(AV->Option R)->Option R:=d_ (q5.FA n) g_.o jY.p
theorem q5.cO{R:Type}(n:Nat)(xs:List AV):cT (R:=R) Tryz.prog 154 xs (q5.via n xs):=c7 g_.oi (λa=>by kernel_rfl) (q5.cW n) xs
abbrev nj.T:=Int × Int × Int × Bool
def nj.p(p:nj.T):AV:=.eC [AV.agg [vi p.1,vi p.2.1,vi p.2.2.1],vb p.2.2.2]
def nj.q(x:AV):Option nj.T:=match x with | .eC [.agg [.v (.int .i64 p0),.v (.int .i64 p1),.v (.int .i64 p2)],.v (.bool p3)]=>some (p0,p1,p2,p3) | _=>none
theorem nj.qi:∀x p,nj.q x=some p->x=nj.p p:=by
 intro x p h;unfold nj.q at h;split at h
 ·cases h;rfl
 ·cases h
def nj.C{R:Type}(n:Nat)(f:FuncId)(xs:List AV):(AV->Option R)->Option R:=
 bif Nat.beq f 60 then ow.via n xs else bif Nat.beq f 108 then kU.via n xs else bif Nat.beq f 109 then iM.via n xs else bif Nat.beq f 154 then q5.via n xs else λ_=>none
theorem nj.c8{R:Type}(n:Nat):dt (R:=R) Tryz.prog (nj.C n):=λ_ xs=>cR (ow.cO n xs) (cR (kU.cO n xs) (cR (iM.cO n xs) (cR (q5.cO n xs) (cT.none))))
def nj.cut(r:Nat):Option dP:=match r with  | _=>none
def nj.e(n:Nat)(a0:ByteArray):Option (Int × Int × Int × Bool):=
 (ow.F n a0 (⟨#[40]⟩:ByteArray)).bind λp1=>
 (iM.F n AF p1.1).bind λp2=>
 (q5.F n p1.2.1 (⟨#[41]⟩:ByteArray)).bind λp3=>
 bif decide (p2<0)then(some (0,0,0,false))else(bif !p3.2 then(some (0,0,0,false))else(bif p2==0 then((kU.F n p3.1).bind λp4=>
 some (p2,p4.1,0,p4.2))else((ow.F n p3.1 (⟨#[44]⟩:ByteArray)).bind λp5=>
 (kU.F n p5.1).bind λp6=>
 (kU.F n p5.2.1).bind λp7=>
 bif p6.2 then(some (p2,p6.1,p7.1,p7.2))else(some (p2,p6.1,p7.1,false)))))
def nj.E(n:Nat):er.A->Option nj.T:=λa0=>nj.e n a0
def nj.F(n:Nat)(a0:ByteArray):Option (Int × Int × Int × Bool):=nj.e n a0
def nj.FA(n:Nat):er.A->Option nj.T:=nj.E n
theorem nj.cW(n:Nat):∀a p,nj.FA n a=some p->dc Tryz.prog 153 (er.i a) (nj.p p):=gp nj.cut (nj.E n) cfg mixed dB nj.qi (nj.c8 n) Tryz.func153
def nj.via{R:Type}(n:Nat):List AV->(AV->Option R)->Option R:=d_ (nj.FA n) er.o nj.p
theorem nj.cO{R:Type}(n:Nat)(xs:List AV):cT (R:=R) Tryz.prog 153 xs (nj.via n xs):=c7 er.oi (λa=>by kernel_rfl) (nj.cW n) xs
def sn.C{R:Type}(n:Nat)(f:FuncId)(xs:List AV):(AV->Option R)->Option R:=
 bif Nat.beq f 104 then g_.via n xs else λ_=>none
theorem sn.c8{R:Type}(n:Nat):dt (R:=R) Tryz.prog (sn.C n):=λ_ xs=>cR (g_.cO n xs) (cT.none)
def sn.cut(r:Nat):Option dP:=match r with  | _=>none
def sn.e(n:Nat)(a0 a1:ByteArray):Option Bool:=
 (g_.F n a0 a1).bind λp1=>
 some p1
def sn.E(n:Nat):g_.A->Option ee.T:=fun(a0,a1)=>sn.e n a0 a1
def sn.F(n:Nat)(a0 a1:ByteArray):Option Bool:=sn.e n a0 a1
def sn.FA(n:Nat):g_.A->Option ee.T:=sn.E n
theorem sn.cW(n:Nat):∀a p,sn.FA n a=some p->dc Tryz.prog 61 (g_.i a) (ee.p p):=gp sn.cut (sn.E n) cfg mixed dB ee.qi (sn.c8 n) Tryz.func61
def sn.via{R:Type}(n:Nat):List AV->(AV->Option R)->Option R:=d_ (sn.FA n) g_.o ee.p
theorem sn.cO{R:Type}(n:Nat)(xs:List AV):cT (R:=R) Tryz.prog 61 xs (sn.via n xs):=c7 g_.oi (λa=>by kernel_rfl) (sn.cW n) xs
abbrev mJ.A:=ByteArray × Int
def mJ.i:mJ.A->List AV:=fun(a0,a1)=>[vs a0,vi a1]
def mJ.o(xs:List AV):Option mJ.A:=match xs with | [.v (.string a0),.v (.int .i64 a1)]=>some (a0,a1) | _=>none
theorem mJ.oi:∀xs a,mJ.o xs=some a->xs=mJ.i a:=by
 intro xs a h;unfold mJ.o at h;split at h
 ·cases h;rfl
 ·cases h
def mJ.C{R:Type}(n:Nat)(f:FuncId)(xs:List AV):(AV->Option R)->Option R:=
 λ_=>none
theorem mJ.c8{R:Type}(n:Nat):dt (R:=R) Tryz.prog (mJ.C n):=λ_ xs=>cT.none
def mJ.cut(r:Nat):Option dP:=match r with  | _=>none
def mJ.e(n:Nat)(a0:ByteArray)(a1:Int):Option Bool:=
 let y1:Bool:=decide (a1<((a0.size:Nat):Int))
 bif y1 then(bif decide ((0:Int)<=a1)&&decide (a1<((a0.size:Nat):Int))then(let y2:Int:=(((a0.data.getD ((a1).toNat) 0).toNat:Nat):Int)
 bif decide ((48:Int)<=y2)then(bif decide ((0:Int)<=a1)&&decide (a1<((a0.size:Nat):Int))then(let y3:Int:=(((a0.data.getD ((a1).toNat) 0).toNat:Nat):Int)
 some (decide (y3<=57)))else none)else(some false))else none)else(some false)
def mJ.E(n:Nat):mJ.A->Option ee.T:=fun(a0,a1)=>mJ.e n a0 a1
def mJ.F(n:Nat)(a0:ByteArray)(a1:Int):Option Bool:=mJ.e n a0 a1
def mJ.FA(n:Nat):mJ.A->Option ee.T:=mJ.E n
theorem mJ.cW(n:Nat):∀a p,mJ.FA n a=some p->dc Tryz.prog 251 (mJ.i a) (ee.p p):=gp mJ.cut (mJ.E n) cfg mixed dB ee.qi (mJ.c8 n) Tryz.func251
def mJ.via{R:Type}(n:Nat):List AV->(AV->Option R)->Option R:=d_ (mJ.FA n) mJ.o ee.p
theorem mJ.cO{R:Type}(n:Nat)(xs:List AV):cT (R:=R) Tryz.prog 251 xs (mJ.via n xs):=c7 mJ.oi (λa=>by kernel_rfl) (mJ.cW n) xs
inductive kz.Z where
 | z5 (z1:ByteArray) (z2:Int)
def kz.C{R:Type}(n:Nat)(f:FuncId)(xs:List AV):(AV->Option R)->Option R:=
 bif Nat.beq f 251 then mJ.via n xs else λ_=>none
theorem kz.c8{R:Type}(n:Nat):dt (R:=R) Tryz.prog (kz.C n):=λ_ xs=>cR (mJ.cO n xs) (cT.none)
def kz.cut(r:Nat):Option dP:=match r with | 5=>some ⟨[0,1],[]⟩ | _=>none
noncomputable def kz.t (z:kz.Z):List Item:=(dL (match z with | .z5 _ _=>5) 1000 [.code (Tryz.f240.body.getD .skip)]).getD []
def kz.s:kz.Z->St
 | .z5 z1 z2=>⟨fx 22 0 [(0,vs z1),(1,vi z2)],Mem.ofList [],0⟩
def kz.r5(n:Nat)(c:kz.Z->Option (Int × Int))(z1:ByteArray)(z2:Int):Option (Int × Int):=
 (mJ.F n z1 z2).bind λp3=>
 bif p3 then(c (.z5 z1 (IntKind.i64.wrap (z2+1))))else(some (z2,0))
def kz.r(n:Nat)(c:kz.Z->Option (Int × Int)):kz.Z->Option (Int × Int)
 | .z5 z1 z2=>kz.r5 n c z1 z2
def kz.e(n:Nat)(c:kz.Z->Option (Int × Int))(a0:ByteArray)(a1:Int):Option (Int × Int):=
 (mJ.F n a0 a1).bind λp1=>
 bif !p1 then(let y2:Bool:=decide (a1<((a0.size:Nat):Int))
 bif y2 then(some (a1,8))else(some (a1,9)))else(c (.z5 a0 a1))
def kz.E(n:Nat)(c:kz.Z->Option (Int × Int)):mJ.A->Option mN.T:=fun(a0,a1)=>kz.e n c a0 a1
def kz.l(n:Nat):Nat->kz.Z->Option (Int × Int):=ez (kz.r n)
def kz.F(n:Nat)(a0:ByteArray)(a1:Int):Option (Int × Int):=kz.e n (kz.l n n) a0 a1
def kz.FA(n:Nat):mJ.A->Option mN.T:=kz.E n (kz.l n n)
theorem kz.cW(n:Nat):∀a p,kz.FA n a=some p->dc Tryz.prog 240 (mJ.i a) (mN.p p):=lN kz.cut kz.t kz.s (kz.E n) (kz.r n) cfg mixed dB mN.qi (kz.c8 n) Tryz.func240
def kz.via{R:Type}(n:Nat):List AV->(AV->Option R)->Option R:=d_ (kz.FA n) mJ.o mN.p
theorem kz.cO{R:Type}(n:Nat)(xs:List AV):cT (R:=R) Tryz.prog 240 xs (kz.via n xs):=c7 mJ.oi (λa=>by kernel_rfl) (kz.cW n) xs
abbrev iC.T:=Int × Int × Int
def iC.p(p:iC.T):AV:=.eC [vi p.1,vi p.2.1,vi p.2.2]
def iC.q(x:AV):Option iC.T:=match x with | .eC [.v (.int .i64 p0),.v (.int .i64 p1),.v (.int .i64 p2)]=>some (p0,p1,p2) | _=>none
theorem iC.qi:∀x p,iC.q x=some p->x=iC.p p:=by
 intro x p h;unfold iC.q at h;split at h
 ·cases h;rfl
 ·cases h
inductive iC.Z where
 | z8 (z1:ByteArray) (z2 z3:Int)
 | dE (z1 z2 z3 z4:Int)
def iC.C{R:Type}(n:Nat)(f:FuncId)(xs:List AV):(AV->Option R)->Option R:=
 bif Nat.beq f 240 then kz.via n xs else λ_=>none
theorem iC.c8{R:Type}(n:Nat):dt (R:=R) Tryz.prog (iC.C n):=λ_ xs=>cR (kz.cO n xs) (cT.none)
def iC.cut(r:Nat):Option dP:=match r with | 8=>some ⟨[0,2,3],[]⟩ | 15=>some ⟨[2,3,4,5],[]⟩ | _=>none
noncomputable def iC.t (z:iC.Z):List Item:=(dL (match z with | .z8 _ _ _=>8 | .dE _ _ _ _=>15) 1000 [.code (Tryz.f216.body.getD .skip)]).getD []
def iC.s:iC.Z->St
 | .z8 z1 z2 z3=>⟨fx 63 0 [(0,vs z1),(2,vi z2),(3,vi z3)],Mem.ofList [],0⟩
 | .dE z1 z2 z3 z4=>⟨fx 63 0 [(2,vi z1),(3,vi z2),(4,vi z3),(5,vi z4)],Mem.ofList [],0⟩
def iC.r8(n:Nat)(c:iC.Z->Option (Int × Int × Int))(z1:ByteArray)(z2 z3:Int):Option (Int × Int × Int):=
 let nh:Bool:=z3==((z1.size:Nat):Int)
 bif nh then(some (z2,z3,0))else(bif decide ((0:Int)<=z3)&&decide (z3<((z1.size:Nat):Int))then(let pw:Int:=(((z1.data.getD ((z3).toNat) 0).toNat:Nat):Int)
 bif pw != 46 then(some (0,z3,8))else((kz.F n z1 (IntKind.i64.wrap (z3+1))).bind λnV=>
 bif nV.2==0 then(let HG:Bool:=decide (nV.1<((z1.size:Nat):Int))
 bif HG then(c (.dE z2 z3 8 nV.1))else(c (.dE z2 z3 nV.2 nV.1)))else(c (.dE z2 z3 nV.2 nV.1))))else none)
def iC.qX(n:Nat)(c:iC.Z->Option (Int × Int × Int))(z1 z2 z3 z4:Int):Option (Int × Int × Int):=
 bif z3 != 0 then(some (0,z4,z3))else(some (z1,z2,0))
def iC.r(n:Nat)(c:iC.Z->Option (Int × Int × Int)):iC.Z->Option (Int × Int × Int)
 | .z8 z1 z2 z3=>iC.r8 n c z1 z2 z3
 | .dE z1 z2 z3 z4=>iC.qX n c z1 z2 z3 z4
def iC.e(n:Nat)(c:iC.Z->Option (Int × Int × Int))(a0:ByteArray):Option (Int × Int × Int):=
 bif decide ((0:Int)<(a0.size:Nat))then(let y1:Int:=(((a0.data.getD 0 0).toNat:Nat):Int)
 bif y1==45 then((kz.F n a0 1).bind λp2=>
 bif p2.2 != 0 then(some (0,p2.1,p2.2))else(bif decide ((1:Int)<(a0.size:Nat))then(let y3:Int:=(((a0.data.getD 1 0).toNat:Nat):Int)
 bif y3==48 then(let y4:Int:=IntKind.i64.wrap ((1:Int)+1)
 bif decide (p2.1>y4)then(let y5:Int:=IntKind.i64.wrap ((1:Int)+1)
 some (0,y5,8))else(c (.z8 a0 1 p2.1)))else(c (.z8 a0 1 p2.1)))else none))else((kz.F n a0 0).bind λp6=>
 bif p6.2 != 0 then(some (0,p6.1,p6.2))else(bif decide ((0:Int)<(a0.size:Nat))then(let y7:Int:=(((a0.data.getD 0 0).toNat:Nat):Int)
 bif y7==48 then(let y8:Int:=IntKind.i64.wrap ((0:Int)+1)
 bif decide (p6.1>y8)then(let y9:Int:=IntKind.i64.wrap ((0:Int)+1)
 some (0,y9,8))else(c (.z8 a0 0 p6.1)))else(c (.z8 a0 0 p6.1)))else none)))else none
def iC.E(n:Nat)(c:iC.Z->Option (Int × Int × Int)):er.A->Option iC.T:=λa0=>iC.e n c a0
def iC.l(n:Nat):Nat->iC.Z->Option (Int × Int × Int):=ez (iC.r n)
def iC.F(n:Nat)(a0:ByteArray):Option (Int × Int × Int):=iC.e n (iC.l n n) a0
def iC.FA(n:Nat):er.A->Option iC.T:=iC.E n (iC.l n n)
theorem iC.cW(n:Nat):∀a p,iC.FA n a=some p->dc Tryz.prog 216 (er.i a) (iC.p p):=lN iC.cut iC.t iC.s (iC.E n) (iC.r n) cfg mixed dB iC.qi (iC.c8 n) Tryz.func216
def iC.via{R:Type}(n:Nat):List AV->(AV->Option R)->Option R:=d_ (iC.FA n) er.o iC.p
theorem iC.cO{R:Type}(n:Nat)(xs:List AV):cT (R:=R) Tryz.prog 216 xs (iC.via n xs):=c7 er.oi (λa=>by kernel_rfl) (iC.cW n) xs
def HC.F(n:Nat)(s:ByteArray)(t:ByteArray):Option (ByteArray):=bif Nat.beq t.data.toList.length 1&&decide ((t.data.toList.headD 0).toNat<128)then Option.some (⟨(Lib.trimLeftB s.data.toList (t.data.toList.headD 0)).toArray⟩)else none
theorem HC.cW(n:Nat)(s:ByteArray)(t:ByteArray){p:ByteArray}(h:HC.F n s t=some p):dc Tryz.prog 217 [.v (.string s),.v (.string t)] (.v (.string p)):=by
 unfold HC.F at h;cases hc:(Nat.beq t.data.toList.length 1&&decide ((t.data.toList.headD 0).toNat<128))with
 | false=>rw[hc]at h;cases h
 | true=>
  rw[hc]at h;cases h;refine gR (fn:=Tryz.f217) Tryz.func217 (by kernel_rfl) (by kernel_rfl) λw F vals hQ hF hl hr=>?_;obtain⟨u0,u1,rfl,h0,h1⟩:=xU hl hr;obtain rfl:=ll h0;obtain rfl:=ll h1;rw[ae]at hc;have ht:=one_byte (aw hc.1);have:=Tryz.strings_TrimLeft_one s (t.data.toList.headD 0) (bj hc.2) w;rw[<-ht]at this;refine this.mono ?_;rintro e w' ⟨rfl,rfl⟩;exact⟨F,λ_=>none,Came.same hF,.v _ rfl⟩
def HC.via{R:Type}(n:Nat)(ys:List AV):(AV->Option R)->Option R:=match ys with | [.v (.string s),.v (.string t)]=>λK=>(HC.F n s t).bind λp=>K (.v (.string p)) | _=>λ_=>none
theorem HC.cO{R:Type}(n:Nat)(ys:List AV):cT (R:=R) Tryz.prog 217 ys (HC.via n ys):=by
 unfold HC.via;split
 ·exact cT.of (λp hp=>(HC.cW n _ _ hp).cW rfl)
 ·exact cT.none
abbrev jt.T:=Int × Int × Int × Int
def jt.p(p:jt.T):AV:=.eC [AV.agg [vi p.1,vi p.2.1],vi p.2.2.1,vi p.2.2.2]
def jt.q(x:AV):Option jt.T:=match x with | .eC [.agg [.v (.int .i64 p0),.v (.int .i64 p1)],.v (.int .i64 p2),.v (.int .i64 p3)]=>some (p0,p1,p2,p3) | _=>none
theorem jt.qi:∀x p,jt.q x=some p->x=jt.p p:=by
 intro x p h;unfold jt.q at h;split at h
 ·cases h;rfl
 ·cases h
inductive jt.Z where
 | dC (z1:ByteArray) (z2:Int) (z3:ByteArray) (z4 z5 z6 z7 z8:Int) (z9:List AV)
def jt.C{R:Type}(n:Nat)(f:FuncId)(xs:List AV):(AV->Option R)->Option R:=
 bif Nat.beq f 60 then ow.via n xs else bif Nat.beq f 132 then j_.via n xs else bif Nat.beq f 133 then nE.via n xs else bif Nat.beq f 216 then iC.via n xs else bif Nat.beq f 217 then HC.via n xs else λ_=>none
theorem jt.c8{R:Type}(n:Nat):dt (R:=R) Tryz.prog (jt.C n):=λ_ xs=>cR (ow.cO n xs) (cR (j_.cO n xs) (cR (nE.cO n xs) (cR (iC.cO n xs) (cR (HC.cO n xs) (cT.none)))))
def jt.cut(r:Nat):Option dP:=match r with | 13=>some ⟨[0,2,6,10,13,57,58,59],[]⟩ | _=>none
noncomputable def jt.t (z:jt.Z):List Item:=(dL (match z with | .dC _ _ _ _ _ _ _ _ _=>13) 1000 [.code (Tryz.f185.body.getD .skip)]).getD []
def jt.s:jt.Z->St
 | .dC z1 z2 z3 z4 z5 z6 z7 z8 z9=>⟨fx 80 0 [(0,vs z1),(2,.ptr 0 0),(6,vi z2),(10,vs z3),(13,vi z4),(57,.own 1 0 none),(58,vi z5),(59,vi z6)],Mem.ofList [.box 183 [vi z7,vi z8],.row ⟨true,5,false⟩ 1 z9],2⟩
def jt.uN(n:Nat)(c:jt.Z->Option (Int × Int × Int × Int))(z1:ByteArray)(z2:Int)(z3:ByteArray)(z4 z5 z6 z7 z8:Int)(z9:List AV):Option (Int × Int × Int × Int):=
 bif decide (z6<z5)then(bif decide ((0:Int)<=z6)&&decide (z6<((z9.length:Nat):Int))then(cN ((z9.getD ((z6).toNat) .undef).cells) λPH uN=>
 cQ .u8 PH λZH=>
 let K5:Int:=IntKind.i64.wrap (IntKind.u8.wrap (ZH - 48))
 let C9:Int:=IntKind.i64.wrap ((IntKind.i64.wrap (z4*10))+K5)
 c (.dC z1 z2 z3 C9 z5 (IntKind.i64.wrap (z6+1)) z7 z8 z9))else none)else(bif z2==1 then(some (IntKind.i64.wrap (0 - z4),((z3.size:Nat):Int),((z1.size:Nat):Int),0))else(some (z4,((z3.size:Nat):Int),((z1.size:Nat):Int),0)))
def jt.r(n:Nat)(c:jt.Z->Option (Int × Int × Int × Int)):jt.Z->Option (Int × Int × Int × Int)
 | .dC z1 z2 z3 z4 z5 z6 z7 z8 z9=>jt.uN n c z1 z2 z3 z4 z5 z6 z7 z8 z9
def jt.e(n:Nat)(c:jt.Z->Option (Int × Int × Int × Int))(a0:ByteArray):Option (Int × Int × Int × Int):=
 let y1:Bool:=decide (((a0.size:Nat):Int)>40)
 (nE.F n y1 2).bind λp2=>
 let y3:Bool:=a0.toList==(⟨#[]⟩:ByteArray).toList
 (nE.F n y3 1).bind λp4=>
 (j_.F n [vi p2,vi p4]).bind λp5=>
 bif p5 != 0 then(some (0,0,0,p5))else((iC.F n a0).bind λp6=>
 bif p6.2.2 != 0 then(some (0,0,p6.2.1,p6.2.2))else(bif decide ((0:Int)<=p6.1)&&decide ((p6.1:Int)<=((a0.size:Nat):Int))then(let y7:ByteArray:=a0.extract (p6.1).toNat a0.size
 (ow.F n y7 (⟨#[46]⟩:ByteArray)).bind λp8=>
 (HC.F n p8.1 (⟨#[48]⟩:ByteArray)).bind λp9=>
 js (decide (p9.size+p8.2.1.size<=9223372036854775807)) (let nh:Bool:=decide ((((p9++p8.2.1).size:Nat):Int)>15)
 bif nh then(some (0,0,0,19))else(let pw:List AV:=(p9++p8.2.1).toList.map λb=>vu b.toNat
 c (.dC a0 p6.1 p8.2.1 0 ((pw.length:Nat):Int) 0 0 0 pw))))else none))
def jt.E(n:Nat)(c:jt.Z->Option (Int × Int × Int × Int)):er.A->Option jt.T:=λa0=>jt.e n c a0
def jt.l(n:Nat):Nat->jt.Z->Option (Int × Int × Int × Int):=ez (jt.r n)
def jt.F(n:Nat)(a0:ByteArray):Option (Int × Int × Int × Int):=jt.e n (jt.l n n) a0
def jt.FA(n:Nat):er.A->Option jt.T:=jt.E n (jt.l n n)
theorem jt.cW(n:Nat):∀a p,jt.FA n a=some p->dc Tryz.prog 185 (er.i a) (jt.p p):=lN jt.cut jt.t jt.s (jt.E n) (jt.r n) cfg mixed dB jt.qi (jt.c8 n) Tryz.func185
def jt.via{R:Type}(n:Nat):List AV->(AV->Option R)->Option R:=d_ (jt.FA n) er.o jt.p
theorem jt.cO{R:Type}(n:Nat)(xs:List AV):cT (R:=R) Tryz.prog 185 xs (jt.via n xs):=c7 er.oi (λa=>by kernel_rfl) (jt.cW n) xs
def uC.C{R:Type}(n:Nat)(f:FuncId)(xs:List AV):(AV->Option R)->Option R:=
 bif Nat.beq f 104 then g_.via n xs else λ_=>none
theorem uC.c8{R:Type}(n:Nat):dt (R:=R) Tryz.prog (uC.C n):=λ_ xs=>cR (g_.cO n xs) (cT.none)
def uC.cut(r:Nat):Option dP:=match r with  | _=>none
def uC.e(n:Nat)(a0 a1:ByteArray):Option ByteArray:=
 (g_.F n a0 a1).bind λp1=>
 bif p1 then(bif decide ((0:Int)<=((a1.size:Nat):Int))&&decide ((((a1.size:Nat):Int):Int)<=((a0.size:Nat):Int))then(let y2:ByteArray:=a0.extract (((a1.size:Nat):Int)).toNat a0.size
 some y2)else none)else(some a0)
def uC.E(n:Nat):g_.A->Option hH.T:=fun(a0,a1)=>uC.e n a0 a1
def uC.F(n:Nat)(a0 a1:ByteArray):Option ByteArray:=uC.e n a0 a1
def uC.FA(n:Nat):g_.A->Option hH.T:=uC.E n
theorem uC.cW(n:Nat):∀a p,uC.FA n a=some p->dc Tryz.prog 218 (g_.i a) (hH.p p):=gp uC.cut (uC.E n) cfg mixed dB hH.qi (uC.c8 n) Tryz.func218
def uC.via{R:Type}(n:Nat):List AV->(AV->Option R)->Option R:=d_ (uC.FA n) g_.o hH.p
theorem uC.cO{R:Type}(n:Nat)(xs:List AV):cT (R:=R) Tryz.prog 218 xs (uC.via n xs):=c7 g_.oi (λa=>by kernel_rfl) (uC.cW n) xs
def ua.C{R:Type}(n:Nat)(f:FuncId)(xs:List AV):(AV->Option R)->Option R:=
 bif Nat.beq f 218 then uC.via n xs else λ_=>none
theorem ua.c8{R:Type}(n:Nat):dt (R:=R) Tryz.prog (ua.C n):=λ_ xs=>cR (uC.cO n xs) (cT.none)
def ua.cut(r:Nat):Option dP:=match r with  | _=>none
def ua.e(n:Nat)(a0 a1:ByteArray):Option ByteArray:=
 (uC.F n a0 a1).bind λp1=>
 some p1
def ua.E(n:Nat):g_.A->Option hH.T:=fun(a0,a1)=>ua.e n a0 a1
def ua.F(n:Nat)(a0 a1:ByteArray):Option ByteArray:=ua.e n a0 a1
def ua.FA(n:Nat):g_.A->Option hH.T:=ua.E n
theorem ua.cW(n:Nat):∀a p,ua.FA n a=some p->dc Tryz.prog 186 (g_.i a) (hH.p p):=gp ua.cut (ua.E n) cfg mixed dB hH.qi (ua.c8 n) Tryz.func186
def ua.via{R:Type}(n:Nat):List AV->(AV->Option R)->Option R:=d_ (ua.FA n) g_.o hH.p
theorem ua.cO{R:Type}(n:Nat)(xs:List AV):cT (R:=R) Tryz.prog 186 xs (ua.via n xs):=c7 g_.oi (λa=>by kernel_rfl) (ua.cW n) xs
def EK.F(n:Nat)(s:ByteArray)(c:Int):Option (Int):=bif true then Option.some (Lib.indexByte s.data.toList c.toNat.toUInt8)else none
theorem EK.cW(n:Nat)(s:ByteArray)(c:Int){p:Int}(h:EK.F n s c=some p):dc Tryz.prog 219 [.v (.string s),.v (.int .u8 c)] (.v (.int .i64 p)):=by
 unfold EK.F at h;cases hc:(true)with
 | false=>rw[hc]at h;cases h
 | true=>
  rw[hc]at h;cases h;refine gR (fn:=Tryz.f219) Tryz.func219 (by kernel_rfl) (by kernel_rfl) λw F vals hQ hF hl hr=>?_;obtain⟨u0,u1,rfl,h0,h1⟩:=xU hl hr;obtain rfl:=ll h0;obtain rfl:=ll h1;refine(Tryz.strings_IndexByte s c w).mono ?_;rintro e w' ⟨rfl,rfl⟩;exact⟨F,λ_=>none,Came.same hF,.v _ rfl⟩
def EK.via{R:Type}(n:Nat)(ys:List AV):(AV->Option R)->Option R:=match ys with | [.v (.string s),.v (.int .u8 c)]=>λK=>(EK.F n s c).bind λp=>K (.v (.int .i64 p)) | _=>λ_=>none
theorem EK.cO{R:Type}(n:Nat)(ys:List AV):cT (R:=R) Tryz.prog 219 ys (EK.via n ys):=by
 unfold EK.via;split
 ·exact cT.of (λp hp=>(EK.cW n _ _ hp).cW rfl)
 ·exact cT.none
inductive kP.Z where
 | z2 (z1:ByteArray) (z2:List AV)
def kP.C{R:Type}(n:Nat)(f:FuncId)(xs:List AV):(AV->Option R)->Option R:=
 bif Nat.beq f 219 then EK.via n xs else λ_=>none
theorem kP.c8{R:Type}(n:Nat):dt (R:=R) Tryz.prog (kP.C n):=λ_ xs=>cR (EK.cO n xs) (cT.none)
def kP.cut(r:Nat):Option dP:=match r with | 2=>some ⟨[0,4],[(4,none,⟨true,5,false⟩,1)]⟩ | _=>none
noncomputable def kP.t (z:kP.Z):List Item:=(dL (match z with | .z2 _ _=>2) 1000 [.code (Tryz.f187.body.getD .skip)]).getD []
def kP.s:kP.Z->St
 | .z2 z1 z2=>⟨fx 36 0 [(0,vs z1),(4,.own 0 0 none)],Mem.ofList [.row ⟨true,5,false⟩ 1 z2],1⟩
def kP.r2(n:Nat)(c:kP.Z->Option (ByteArray × Bool))(z1:ByteArray)(z2:List AV):Option (ByteArray × Bool):=
 let y1:Bool:=decide (((z1.size:Nat):Int)>=2)
 bif y1 then(bif decide ((0:Int)<(z1.size:Nat))then(let y2:Int:=(((z1.data.getD 0 0).toNat:Nat):Int)
 (EK.F n (⟨#[48,49,50,51,52,53,54,55,56,57,65,66,67,68,69,70]⟩:ByteArray) y2).bind λp3=>
 bif decide ((1:Int)<(z1.size:Nat))then(let y4:Int:=(((z1.data.getD 1 0).toNat:Nat):Int)
 (EK.F n (⟨#[48,49,50,51,52,53,54,55,56,57,65,66,67,68,69,70]⟩:ByteArray) y4).bind λp5=>
 bif decide (p3<0)then(some ((⟨#[]⟩:ByteArray),false))else(bif decide (p5<0)then(some ((⟨#[]⟩:ByteArray),false))else(let y6:Int:=IntKind.i64.wrap (p3*2 ^ min (4:Int).toNat 64)
 let y7:Int:=IntKind.i64.wrap (BitVec.ofInt 64 y6 ||| BitVec.ofInt 64 p5).toNat
 bif decide (z2.length+[vu (IntKind.u8.wrap y7)].length<=fe)then(let y8:List AV:=z2++[vu (IntKind.u8.wrap y7)]
 bif decide ((0:Int)<=2)&&decide ((2:Int)<=((z1.size:Nat):Int))then(c (.z2 (z1.extract 2 z1.size) y8))else none)else none)))else none)else none)else(cX (strOf z2) λbs9=>
 let nh:Bool:=z1.toList==(⟨#[]⟩:ByteArray).toList
 some ((⟨bs9.toArray⟩:ByteArray),nh))
def kP.r(n:Nat)(c:kP.Z->Option (ByteArray × Bool)):kP.Z->Option (ByteArray × Bool)
 | .z2 z1 z2=>kP.r2 n c z1 z2
def kP.e(n:Nat)(c:kP.Z->Option (ByteArray × Bool))(a0:ByteArray):Option (ByteArray × Bool):=
 c (.z2 a0 [])
def kP.E(n:Nat)(c:kP.Z->Option (ByteArray × Bool)):er.A->Option jY.T:=λa0=>kP.e n c a0
def kP.l(n:Nat):Nat->kP.Z->Option (ByteArray × Bool):=ez (kP.r n)
def kP.F(n:Nat)(a0:ByteArray):Option (ByteArray × Bool):=kP.e n (kP.l n n) a0
def kP.FA(n:Nat):er.A->Option jY.T:=kP.E n (kP.l n n)
theorem kP.cW(n:Nat):∀a p,kP.FA n a=some p->dc Tryz.prog 187 (er.i a) (jY.p p):=lN kP.cut kP.t kP.s (kP.E n) (kP.r n) cfg mixed dB jY.qi (kP.c8 n) Tryz.func187
def kP.via{R:Type}(n:Nat):List AV->(AV->Option R)->Option R:=d_ (kP.FA n) er.o jY.p
theorem kP.cO{R:Type}(n:Nat)(xs:List AV):cT (R:=R) Tryz.prog 187 xs (kP.via n xs):=c7 er.oi (λa=>by kernel_rfl) (kP.cW n) xs
abbrev iE.A:=Int × Int × Int × ByteArray
abbrev iE.T:=Int × ByteArray × Bool
def iE.i:iE.A->List AV:=fun(a0,a1,a2,a3)=>[AV.agg [vi a0,vi a1,vi a2],vs a3]
def iE.o(xs:List AV):Option iE.A:=match xs with | [.agg [.v (.int .i64 a0),.v (.int .i64 a1),.v (.int .i64 a2)],.v (.string a3)]=>some (a0,a1,a2,a3) | _=>none
theorem iE.oi:∀xs a,iE.o xs=some a->xs=iE.i a:=by
 intro xs a h;unfold iE.o at h;split at h
 ·cases h;rfl
 ·cases h
def iE.p(p:iE.T):AV:=.eC [AV.agg [vi p.1,vs p.2.1],vb p.2.2]
def iE.q(x:AV):Option iE.T:=match x with | .eC [.agg [.v (.int .i64 p0),.v (.string p1)],.v (.bool p2)]=>some (p0,p1,p2) | _=>none
theorem iE.qi:∀x p,iE.q x=some p->x=iE.p p:=by
 intro x p h;unfold iE.q at h;split at h
 ·cases h;rfl
 ·cases h
inductive iE.Z where
 | z7 (z1:Int) (z2:ByteArray)
def iE.C{R:Type}(n:Nat)(f:FuncId)(xs:List AV):(AV->Option R)->Option R:=
 bif Nat.beq f 61 then sn.via n xs else bif Nat.beq f 144 then zu.via n xs else bif Nat.beq f 185 then jt.via n xs else bif Nat.beq f 186 then ua.via n xs else bif Nat.beq f 187 then kP.via n xs else λ_=>none
theorem iE.c8{R:Type}(n:Nat):dt (R:=R) Tryz.prog (iE.C n):=λ_ xs=>cR (sn.cO n xs) (cR (zu.cO n xs) (cR (jt.cO n xs) (cR (ua.cO n xs) (cR (kP.cO n xs) (cT.none)))))
def iE.cut(r:Nat):Option dP:=match r with | 7=>some ⟨[4],[]⟩ | _=>none
noncomputable def iE.t (z:iE.Z):List Item:=(dL (match z with | .z7 _ _=>7) 1000 [.code (Tryz.f155.body.getD .skip)]).getD []
def iE.s:iE.Z->St
 | .z7 z1 z2=>⟨fx 71 0 [(4,.ptr 0 0)],Mem.ofList [.box 72 [vi z1,vs z2]],1⟩
def iE.r7(n:Nat)(c:iE.Z->Option (Int × ByteArray × Bool))(z1:Int)(z2:ByteArray):Option (Int × ByteArray × Bool):=
 some (0,(⟨#[]⟩:ByteArray),false)
def iE.r(n:Nat)(c:iE.Z->Option (Int × ByteArray × Bool)):iE.Z->Option (Int × ByteArray × Bool)
 | .z7 z1 z2=>iE.r7 n c z1 z2
def iE.e(n:Nat)(c:iE.Z->Option (Int × ByteArray × Bool))(a0 a1 a2:Int)(a3:ByteArray):Option (Int × ByteArray × Bool):=
 bif a0 != 0 then((jt.F n a3).bind λp1=>
 bif p1.2.2.2==0 then(some (p1.1,(⟨#[]⟩:ByteArray),p1.2.1==a2))else(some (p1.1,(⟨#[]⟩:ByteArray),false)))else((sn.F n a3 (⟨#[88]⟩:ByteArray)).bind λp2=>
 (ua.F n a3 (⟨#[88]⟩:ByteArray)).bind λp3=>
 let y4:Bool:=decide (((p3.size:Nat):Int)<2)
 bif y4 then(c (.z7 0 (⟨#[]⟩:ByteArray)))else(bif decide ((0:Int)<(p3.size:Nat))then(let y5:Int:=(((p3.data.getD 0 0).toNat:Nat):Int)
 bif y5 != 39 then(c (.z7 0 (⟨#[]⟩:ByteArray)))else(let y6:Int:=IntKind.i64.wrap (((p3.size:Nat):Int) - 1)
 bif decide ((0:Int)<=y6)&&decide (y6<((p3.size:Nat):Int))then(let y7:Int:=(((p3.data.getD ((y6).toNat) 0).toNat:Nat):Int)
 bif y7 != 39 then(c (.z7 0 (⟨#[]⟩:ByteArray)))else(let y8:Int:=IntKind.i64.wrap (((p3.size:Nat):Int) - 1)
 bif decide ((0:Int)<=y8)&&decide ((y8:Int)<=((p3.size:Nat):Int))then(bif decide ((0:Int)<=1)&&decide ((1:Int)<=y8)then(bif p2 then((kP.F n (p3.extract 1 (y8).toNat)).bind λp9=>
 some (0,p9.1,p9.2))else((zu.F n (p3.extract 1 (y8).toNat) (⟨#[39,39]⟩:ByteArray) (⟨#[39]⟩:ByteArray)).bind λku=>
 some (0,ku,true)))else none)else none))else none))else none))
def iE.E(n:Nat)(c:iE.Z->Option (Int × ByteArray × Bool)):iE.A->Option iE.T:=fun(a0,a1,a2,a3)=>iE.e n c a0 a1 a2 a3
def iE.l(n:Nat):Nat->iE.Z->Option (Int × ByteArray × Bool):=ez (iE.r n)
def iE.F(n:Nat)(a0 a1 a2:Int)(a3:ByteArray):Option (Int × ByteArray × Bool):=iE.e n (iE.l n n) a0 a1 a2 a3
def iE.FA(n:Nat):iE.A->Option iE.T:=iE.E n (iE.l n n)
theorem iE.cW(n:Nat):∀a p,iE.FA n a=some p->dc Tryz.prog 155 (iE.i a) (iE.p p):=lN iE.cut iE.t iE.s (iE.E n) (iE.r n) cfg mixed dB iE.qi (iE.c8 n) Tryz.func155
def iE.via{R:Type}(n:Nat):List AV->(AV->Option R)->Option R:=d_ (iE.FA n) iE.o iE.p
theorem iE.cO{R:Type}(n:Nat)(xs:List AV):cT (R:=R) Tryz.prog 155 xs (iE.via n xs):=c7 iE.oi (λa=>by kernel_rfl) (iE.cW n) xs
abbrev fE.T:=ByteArray × Int × Int × Int × Int × Int × ByteArray × ByteArray × Int × Int × Bool
def fE.p(p:fE.T):AV:=.eC [AV.agg [vs p.1,vi p.2.1,vi p.2.2.1,vi p.2.2.2.1,vi p.2.2.2.2.1,vi p.2.2.2.2.2.1,vs p.2.2.2.2.2.2.1,vs p.2.2.2.2.2.2.2.1,vi p.2.2.2.2.2.2.2.2.1,vi p.2.2.2.2.2.2.2.2.2.1],vb p.2.2.2.2.2.2.2.2.2.2]
def fE.q(x:AV):Option fE.T:=match x with | .eC [.agg [.v (.string p0),.v (.int .i64 p1),.v (.int .i64 p2),.v (.int .i64 p3),.v (.int .i64 p4),.v (.int .i64 p5),.v (.string p6),.v (.string p7),.v (.int .i64 p8),.v (.int .i64 p9)],.v (.bool ku)]=>some (p0,p1,p2,p3,p4,p5,p6,p7,p8,p9,ku) | _=>none
theorem fE.qi:∀x p,fE.q x=some p->x=fE.p p:=by
 intro x p h;unfold fE.q at h;split at h
 ·cases h;rfl
 ·cases h
inductive fE.Z where
 | z22 (z1:ByteArray) (z2 z3 z4 z5 z6:Int) (z7 z8:ByteArray) (z9 dk:Int) (dp:ByteArray) (z12 dC dG dE dM:Int) (dS dJ:ByteArray) (dO z20:Int)
 | z26 (z1 z2:ByteArray) (z3 z4 z5 z6 z7:Int) (z8 z9:ByteArray) (dk dp:Int) (z12:ByteArray) (dC dG dE dM dS:Int) (dJ dO:ByteArray) (z20 z21 z22 z23 z24:Int)
 | mw (z1:ByteArray) (z2:Bool) (z3 z4:ByteArray) (z5 z6 z7 z8 z9:Int) (dk dp:ByteArray) (z12 dC:Int) (dG:ByteArray) (dE dM dS dJ dO:Int) (z20 z21:ByteArray) (z22 z23:Int)
def fE.C{R:Type}(n:Nat)(f:FuncId)(xs:List AV):(AV->Option R)->Option R:=
 bif Nat.beq f 60 then ow.via n xs else bif Nat.beq f 78 then er.via n xs else bif Nat.beq f 108 then kU.via n xs else bif Nat.beq f 153 then nj.via n xs else bif Nat.beq f 154 then q5.via n xs else bif Nat.beq f 155 then iE.via n xs else λ_=>none
theorem fE.c8{R:Type}(n:Nat):dt (R:=R) Tryz.prog (fE.C n):=λ_ xs=>cR (ow.cO n xs) (cR (er.cO n xs) (cR (kU.cO n xs) (cR (nj.cO n xs) (cR (q5.cO n xs) (cR (iE.cO n xs) (cT.none))))))
def fE.cut(r:Nat):Option dP:=match r with | 22=>some ⟨[2,9],[]⟩ | 26=>some ⟨[2,9,13,16],[]⟩ | 36=>some ⟨[2,4,9,14,19],[]⟩ | _=>none
noncomputable def fE.t (z:fE.Z):List Item:=(dL (match z with | .z22 _ _ _ _ _ _ _ _ _ _ _ _ _ _ _ _ _ _ _ _=>22 | .z26 _ _ _ _ _ _ _ _ _ _ _ _ _ _ _ _ _ _ _ _ _ _ _ _=>26 | .mw _ _ _ _ _ _ _ _ _ _ _ _ _ _ _ _ _ _ _ _ _ _ _=>36) 1000 [.code (Tryz.f106.body.getD .skip)]).getD []
def fE.s:fE.Z->St
 | .z22 z1 z2 z3 z4 z5 z6 z7 z8 z9 dk dp z12 dC dG dE dM dS dJ dO z20=>⟨fx 139 0 [(2,.ptr 0 0),(9,.ptr 1 0)],Mem.ofList [.box 74 [vs z1,vi z2,vi z3,vi z4,vi z5,vi z6,vs z7,vs z8,vi z9,vi dk],.box 74 [vs dp,vi z12,vi dC,vi dG,vi dE,vi dM,vs dS,vs dJ,vi dO,vi z20]],2⟩
 | .z26 z1 z2 z3 z4 z5 z6 z7 z8 z9 dk dp z12 dC dG dE dM dS dJ dO z20 z21 z22 z23 z24=>⟨fx 139 0 [(2,.ptr 0 0),(9,.ptr 1 0),(13,.ptr 2 0),(16,vs z1)],Mem.ofList [.box 74 [vs z2,vi z3,vi z4,vi z5,vi z6,vi z7,vs z8,vs z9,vi dk,vi dp],.box 74 [vs z12,vi dC,vi dG,vi dE,vi dM,vi dS,vs dJ,vs dO,vi z20,vi z21],.box 70 [vi z22,vi z23,vi z24]],3⟩
 | .mw z1 z2 z3 z4 z5 z6 z7 z8 z9 dk dp z12 dC dG dE dM dS dJ dO z20 z21 z22 z23=>⟨fx 139 0 [(2,.ptr 0 0),(4,vs z1),(9,.ptr 1 0),(14,vb z2),(19,vs z3)],Mem.ofList [.box 74 [vs z4,vi z5,vi z6,vi z7,vi z8,vi z9,vs dk,vs dp,vi z12,vi dC],.box 74 [vs dG,vi dE,vi dM,vi dS,vi dJ,vi dO,vs z20,vs z21,vi z22,vi z23]],2⟩
def fE.LL(n:Nat)(c:fE.Z->Option fE.T)(z1:ByteArray)(z2 z3 z4 z5 z6:Int)(z7 z8:ByteArray)(z9 dk:Int)(dp:ByteArray)(z12 dC dG dE dM:Int)(dS dJ:ByteArray)(dO z20:Int):Option fE.T:=
 some (dp,z12,dC,dG,dE,dM,dS,dJ,dO,z20,false)
def fE.A3(n:Nat)(c:fE.Z->Option fE.T)(z1 z2:ByteArray)(z3 z4 z5 z6 z7:Int)(z8 z9:ByteArray)(dk dp:Int)(z12:ByteArray)(dC dG dE dM dS:Int)(dJ dO:ByteArray)(z20 z21 z22 z23 z24:Int):Option fE.T:=
 (iE.F n z22 z23 z24 z1).bind λDa=>
 some (z12,dC,dG,dE,dM,Da.1,Da.2.1,dO,z20,z21,Da.2.2)
def fE.zW(n:Nat)(c:fE.Z->Option fE.T)(z1:ByteArray)(z2:Bool)(z3 z4:ByteArray)(z5 z6 z7 z8 z9:Int)(dk dp:ByteArray)(z12 dC:Int)(dG:ByteArray)(dE dM dS dJ dO:Int)(z20 z21:ByteArray)(z22 z23:Int):Option fE.T:=
 bif z2 then(let QO:Bool:=z1.toList==(⟨#[68,68]⟩:ByteArray).toList
 bif QO then(bif dE != 0 then((er.F n z3).bind λGj=>
 some (dG,dE,dM,dS,dJ,dO,z20,z21,z22,z23,Gj))else(some (dG,dE,dM,dS,dJ,dO,z20,z21,z22,z23,false)))else(some (dG,dE,dM,dS,dJ,dO,z20,z21,z22,z23,false)))else(some (dG,dE,dM,dS,dJ,dO,z20,z21,z22,z23,false))
def fE.r(n:Nat)(c:fE.Z->Option fE.T):fE.Z->Option fE.T
 | .z22 z1 z2 z3 z4 z5 z6 z7 z8 z9 dk dp z12 dC dG dE dM dS dJ dO z20=>fE.LL n c z1 z2 z3 z4 z5 z6 z7 z8 z9 dk dp z12 dC dG dE dM dS dJ dO z20
 | .z26 z1 z2 z3 z4 z5 z6 z7 z8 z9 dk dp z12 dC dG dE dM dS dJ dO z20 z21 z22 z23 z24=>fE.A3 n c z1 z2 z3 z4 z5 z6 z7 z8 z9 dk dp z12 dC dG dE dM dS dJ dO z20 z21 z22 z23 z24
 | .mw z1 z2 z3 z4 z5 z6 z7 z8 z9 dk dp z12 dC dG dE dM dS dJ dO z20 z21 z22 z23=>fE.zW n c z1 z2 z3 z4 z5 z6 z7 z8 z9 dk dp z12 dC dG dE dM dS dJ dO z20 z21 z22 z23
def fE.e(n:Nat)(c:fE.Z->Option fE.T)(a0:ByteArray):Option fE.T:=
 (ow.F n a0 (⟨#[32]⟩:ByteArray)).bind λp1=>
 (ow.F n p1.2.1 (⟨#[32]⟩:ByteArray)).bind λp2=>
 let y3:Bool:=p1.1.toList==(⟨#[80,84,82]⟩:ByteArray).toList
 bif y3 then(some (p2.1,3,0,0,0,0,(⟨#[]⟩:ByteArray),(⟨#[]⟩:ByteArray),0,0,!p2.2.2))else(let y4:Bool:=p1.1.toList==(⟨#[76,65,66,69,76]⟩:ByteArray).toList
 bif y4 then((kU.F n p2.2.1).bind λp5=>
 some (p2.1,5,0,0,0,0,(⟨#[]⟩:ByteArray),(⟨#[]⟩:ByteArray),0,p5.1,p5.2))else(let y6:Bool:=p1.1.toList==(⟨#[68,68]⟩:ByteArray).toList
 bif y6 then((ow.F n p2.2.1 (⟨#[32]⟩:ByteArray)).bind λp7=>
 (nj.F n p7.1).bind λp8=>
 (ow.F n p7.2.1 (⟨#[40]⟩:ByteArray)).bind λp9=>
 (q5.F n p9.2.1 (⟨#[41]⟩:ByteArray)).bind λku=>
 bif !p8.2.2.2 then(c (.z22 (⟨#[]⟩:ByteArray) 0 0 0 0 0 (⟨#[]⟩:ByteArray) (⟨#[]⟩:ByteArray) 0 0 p2.1 0 p8.1 p8.2.1 p8.2.2.1 0 (⟨#[]⟩:ByteArray) (⟨#[]⟩:ByteArray) 0 0))else(bif !ku.2 then(c (.z22 (⟨#[]⟩:ByteArray) 0 0 0 0 0 (⟨#[]⟩:ByteArray) (⟨#[]⟩:ByteArray) 0 0 p2.1 0 p8.1 p8.2.1 p8.2.2.1 0 (⟨#[]⟩:ByteArray) (⟨#[]⟩:ByteArray) 0 0))else(let pw:Bool:=p9.1.toList==(⟨#[73,78,73,84]⟩:ByteArray).toList
 bif pw then(let zC:Bool:=p1.1.toList==(⟨#[67,79,78]⟩:ByteArray).toList
 bif zC then(c (.z26 ku.1 (⟨#[]⟩:ByteArray) 0 0 0 0 0 (⟨#[]⟩:ByteArray) (⟨#[]⟩:ByteArray) 0 0 p2.1 4 p8.1 p8.2.1 p8.2.2.1 0 (⟨#[]⟩:ByteArray) (⟨#[]⟩:ByteArray) 0 0 p8.1 p8.2.1 p8.2.2.1))else(c (.z26 ku.1 (⟨#[]⟩:ByteArray) 0 0 0 0 0 (⟨#[]⟩:ByteArray) (⟨#[]⟩:ByteArray) 0 0 p2.1 0 p8.1 p8.2.1 p8.2.2.1 0 (⟨#[]⟩:ByteArray) (⟨#[]⟩:ByteArray) 0 0 p8.1 p8.2.1 p8.2.2.1)))else((ow.F n ku.1 (⟨#[44]⟩:ByteArray)).bind λkR=>
 (kU.F n kR.2.1).bind λI4=>
 let K5:Bool:=p9.1.toList==(⟨#[68,69,70]⟩:ByteArray).toList
 bif K5 then(c (.mw p1.1 I4.2 kR.1 (⟨#[]⟩:ByteArray) 0 0 0 0 0 (⟨#[]⟩:ByteArray) (⟨#[]⟩:ByteArray) 0 0 p2.1 1 p8.1 p8.2.1 p8.2.2.1 0 (⟨#[]⟩:ByteArray) kR.1 I4.1 0))else(let C9:Bool:=p9.1.toList==(⟨#[66,65,83]⟩:ByteArray).toList
 bif C9 then(c (.mw p1.1 I4.2 kR.1 (⟨#[]⟩:ByteArray) 0 0 0 0 0 (⟨#[]⟩:ByteArray) (⟨#[]⟩:ByteArray) 0 0 p2.1 2 p8.1 p8.2.1 p8.2.2.1 0 (⟨#[]⟩:ByteArray) kR.1 I4.1 0))else(c (.mw p1.1 I4.2 kR.1 (⟨#[]⟩:ByteArray) 0 0 0 0 0 (⟨#[]⟩:ByteArray) (⟨#[]⟩:ByteArray) 0 0 p2.1 0 p8.1 p8.2.1 p8.2.2.1 0 (⟨#[]⟩:ByteArray) kR.1 I4.1 0)))))))else(let If:Bool:=p1.1.toList==(⟨#[67,79,78]⟩:ByteArray).toList
 bif If then((ow.F n p2.2.1 (⟨#[32]⟩:ByteArray)).bind λK8=>
 (nj.F n K8.1).bind λlZ=>
 (ow.F n K8.2.1 (⟨#[40]⟩:ByteArray)).bind λOO=>
 (q5.F n OO.2.1 (⟨#[41]⟩:ByteArray)).bind λDb=>
 bif !lZ.2.2.2 then(c (.z22 (⟨#[]⟩:ByteArray) 0 0 0 0 0 (⟨#[]⟩:ByteArray) (⟨#[]⟩:ByteArray) 0 0 p2.1 0 lZ.1 lZ.2.1 lZ.2.2.1 0 (⟨#[]⟩:ByteArray) (⟨#[]⟩:ByteArray) 0 0))else(bif !Db.2 then(c (.z22 (⟨#[]⟩:ByteArray) 0 0 0 0 0 (⟨#[]⟩:ByteArray) (⟨#[]⟩:ByteArray) 0 0 p2.1 0 lZ.1 lZ.2.1 lZ.2.2.1 0 (⟨#[]⟩:ByteArray) (⟨#[]⟩:ByteArray) 0 0))else(let Oc:Bool:=OO.1.toList==(⟨#[73,78,73,84]⟩:ByteArray).toList
 bif Oc then(let Zm:Bool:=p1.1.toList==(⟨#[67,79,78]⟩:ByteArray).toList
 bif Zm then(c (.z26 Db.1 (⟨#[]⟩:ByteArray) 0 0 0 0 0 (⟨#[]⟩:ByteArray) (⟨#[]⟩:ByteArray) 0 0 p2.1 4 lZ.1 lZ.2.1 lZ.2.2.1 0 (⟨#[]⟩:ByteArray) (⟨#[]⟩:ByteArray) 0 0 lZ.1 lZ.2.1 lZ.2.2.1))else(c (.z26 Db.1 (⟨#[]⟩:ByteArray) 0 0 0 0 0 (⟨#[]⟩:ByteArray) (⟨#[]⟩:ByteArray) 0 0 p2.1 0 lZ.1 lZ.2.1 lZ.2.2.1 0 (⟨#[]⟩:ByteArray) (⟨#[]⟩:ByteArray) 0 0 lZ.1 lZ.2.1 lZ.2.2.1)))else((ow.F n Db.1 (⟨#[44]⟩:ByteArray)).bind λDM=>
 (kU.F n DM.2.1).bind λGl=>
 let Us:Bool:=OO.1.toList==(⟨#[68,69,70]⟩:ByteArray).toList
 bif Us then(c (.mw p1.1 Gl.2 DM.1 (⟨#[]⟩:ByteArray) 0 0 0 0 0 (⟨#[]⟩:ByteArray) (⟨#[]⟩:ByteArray) 0 0 p2.1 1 lZ.1 lZ.2.1 lZ.2.2.1 0 (⟨#[]⟩:ByteArray) DM.1 Gl.1 0))else(let Ur:Bool:=OO.1.toList==(⟨#[66,65,83]⟩:ByteArray).toList
 bif Ur then(c (.mw p1.1 Gl.2 DM.1 (⟨#[]⟩:ByteArray) 0 0 0 0 0 (⟨#[]⟩:ByteArray) (⟨#[]⟩:ByteArray) 0 0 p2.1 2 lZ.1 lZ.2.1 lZ.2.2.1 0 (⟨#[]⟩:ByteArray) DM.1 Gl.1 0))else(c (.mw p1.1 Gl.2 DM.1 (⟨#[]⟩:ByteArray) 0 0 0 0 0 (⟨#[]⟩:ByteArray) (⟨#[]⟩:ByteArray) 0 0 p2.1 0 lZ.1 lZ.2.1 lZ.2.2.1 0 (⟨#[]⟩:ByteArray) DM.1 Gl.1 0)))))))else(some (p2.1,0,0,0,0,0,(⟨#[]⟩:ByteArray),(⟨#[]⟩:ByteArray),0,0,false)))))
def fE.E(n:Nat)(c:fE.Z->Option fE.T):er.A->Option fE.T:=λa0=>fE.e n c a0
def fE.l(n:Nat):Nat->fE.Z->Option fE.T:=ez (fE.r n)
def fE.F(n:Nat)(a0:ByteArray):Option fE.T:=fE.e n (fE.l n n) a0
def fE.FA(n:Nat):er.A->Option fE.T:=fE.E n (fE.l n n)
theorem fE.cW(n:Nat):∀a p,fE.FA n a=some p->dc Tryz.prog 106 (er.i a) (fE.p p):=lN fE.cut fE.t fE.s (fE.E n) (fE.r n) cfg mixed dB fE.qi (fE.c8 n) Tryz.func106
def fE.via{R:Type}(n:Nat):List AV->(AV->Option R)->Option R:=d_ (fE.FA n) er.o fE.p
theorem fE.cO{R:Type}(n:Nat)(xs:List AV):cT (R:=R) Tryz.prog 106 xs (fE.via n xs):=c7 er.oi (λa=>by kernel_rfl) (fE.cW n) xs
def Di.F(n:Nat)(s:ByteArray)(t:ByteArray):Option (List AV):=bif(decide (s.size<4294967281)&&decide (1<=t.size))&&(Nat.beq (Lib.splitB t 0 (Lib.countB s t) s).length (Lib.countB s t+1)&&decide (Lib.countB s t+1<=fe))then Option.some ((Lib.splitB t 0 (Lib.countB s t) s).map λx=>vs x)else none
theorem Di.cW(n:Nat)(s:ByteArray)(t:ByteArray){p:List AV}(h:Di.F n s t=some p):dc Tryz.prog 107 [.v (.string s),.v (.string t)] (.fr ⟨true,9,false⟩ 1 p):=by
 unfold Di.F at h;cases hc:((decide (s.size<4294967281)&&decide (1<=t.size))&&(Nat.beq (Lib.splitB t 0 (Lib.countB s t) s).length (Lib.countB s t+1)&&decide (Lib.countB s t+1<=fe)))with
 | false=>rw[hc]at h;cases h
 | true=>
  rw[hc]at h;cases h;refine gR (fn:=Tryz.f107) Tryz.func107 (by kernel_rfl) (by kernel_rfl) λw F vals hQ hF hl hr=>?_;obtain⟨u0,u1,rfl,h0,h1⟩:=xU hl hr;obtain rfl:=ll h0;obtain rfl:=ll h1;rw[ae,ae,ae]at hc;refine(Tryz.strings_Split_shaped s t w (eE.opened _ hQ) (bj hc.1.1) (bj hc.1.2)).mono ?_;rintro e w' ⟨rfl,rfl⟩;exact Iy rfl hF (aw hc.2.1) (bj hc.2.2)
def Di.via{R:Type}(n:Nat)(ys:List AV):(AV->Option R)->Option R:=match ys with | [.v (.string s),.v (.string t)]=>λK=>(Di.F n s t).bind λp=>K (.fr ⟨true,9,false⟩ 1 p) | _=>λ_=>none
theorem Di.cO{R:Type}(n:Nat)(ys:List AV):cT (R:=R) Tryz.prog 107 ys (Di.via n ys):=by
 unfold Di.via;split
 ·exact cT.of (λp hp=>(Di.cW n _ _ hp).cW rfl)
 ·exact cT.none
def uG.C{R:Type}(n:Nat)(f:FuncId)(xs:List AV):(AV->Option R)->Option R:=
 bif Nat.beq f 78 then er.via n xs else λ_=>none
theorem uG.c8{R:Type}(n:Nat):dt (R:=R) Tryz.prog (uG.C n):=λ_ xs=>cR (er.cO n xs) (cT.none)
def uG.cut(r:Nat):Option dP:=match r with  | _=>none
def uG.e(n:Nat)(a0:ByteArray):Option Bool:=
 (er.F n a0).bind λp1=>
 some (!p1)
def uG.E(n:Nat):er.A->Option ee.T:=λa0=>uG.e n a0
def uG.F(n:Nat)(a0:ByteArray):Option Bool:=uG.e n a0
def uG.FA(n:Nat):er.A->Option ee.T:=uG.E n
theorem uG.cW(n:Nat):∀a p,uG.FA n a=some p->dc Tryz.prog 111 (er.i a) (ee.p p):=gp uG.cut (uG.E n) cfg mixed dB ee.qi (uG.c8 n) Tryz.func111
def uG.via{R:Type}(n:Nat):List AV->(AV->Option R)->Option R:=d_ (uG.FA n) er.o ee.p
theorem uG.cO{R:Type}(n:Nat)(xs:List AV):cT (R:=R) Tryz.prog 111 xs (uG.via n xs):=c7 er.oi (λa=>by kernel_rfl) (uG.cW n) xs
abbrev iY.A:=List AV
def iY.i:iY.A->List AV:=λa0=>[.sl ⟨true,9,false⟩ 1 a0,.fn 111 []]
def iY.o(xs:List AV):Option iY.A:=match xs with | [.sl ⟨true,9,false⟩ 1 a0,.fn 111 []]=>some a0 | _=>none
theorem iY.oi:∀xs a,iY.o xs=some a->xs=iY.i a:=by
 intro xs a h;unfold iY.o at h;split at h
 ·cases h;rfl
 ·cases h
inductive iY.Z where
 | z2 (z1:List AV) (z2 z3:Int)
def iY.C{R:Type}(n:Nat)(f:FuncId)(xs:List AV):(AV->Option R)->Option R:=
 bif Nat.beq f 111 then uG.via n xs else λ_=>none
theorem iY.c8{R:Type}(n:Nat):dt (R:=R) Tryz.prog (iY.C n):=λ_ xs=>cR (uG.cO n xs) (cT.none)
def iY.cut(r:Nat):Option dP:=match r with | 2=>some ⟨[0,1,7,8],[]⟩ | _=>none
noncomputable def iY.t (z:iY.Z):List Item:=(dL (match z with | .z2 _ _ _=>2) 1000 [.code (Tryz.f158.body.getD .skip)]).getD []
def iY.s:iY.Z->St
 | .z2 z1 z2 z3=>⟨fx 19 0 [(0,.sl ⟨true,9,false⟩ 1 z1),(1,.fn 111 []),(7,vi z2),(8,vi z3)],Mem.ofList [],0⟩
def iY.r2(n:Nat)(c:iY.Z->Option Int)(z1:List AV)(z2 z3:Int):Option Int:=
 bif decide (z3<z2)then(bif decide ((0:Int)<=z3)&&decide (z3<((z1.length:Nat):Int))then(cN ((z1.getD ((z3).toNat) .undef).cells) λh1 r2=>
 df h1 λs3=>
 (uG.F n s3).bind λp4=>
 bif p4 then(some z3)else(c (.z2 z1 z2 (IntKind.i64.wrap (z3+1)))))else none)else(some (-1))
def iY.r(n:Nat)(c:iY.Z->Option Int):iY.Z->Option Int
 | .z2 z1 z2 z3=>iY.r2 n c z1 z2 z3
def iY.e(n:Nat)(c:iY.Z->Option Int)(a0:List AV):Option Int:=
 c (.z2 a0 ((a0.length:Nat):Int) 0)
def iY.E(n:Nat)(c:iY.Z->Option Int):iY.A->Option dU.T:=λa0=>iY.e n c a0
def iY.l(n:Nat):Nat->iY.Z->Option Int:=ez (iY.r n)
def iY.F(n:Nat)(a0:List AV):Option Int:=iY.e n (iY.l n n) a0
def iY.FA(n:Nat):iY.A->Option dU.T:=iY.E n (iY.l n n)
theorem iY.cW(n:Nat):∀a p,iY.FA n a=some p->dc Tryz.prog 158 (iY.i a) (dU.p p):=lN iY.cut iY.t iY.s (iY.E n) (iY.r n) cfg mixed dB dU.qi (iY.c8 n) Tryz.func158
def iY.via{R:Type}(n:Nat):List AV->(AV->Option R)->Option R:=d_ (iY.FA n) iY.o dU.p
theorem iY.cO{R:Type}(n:Nat)(xs:List AV):cT (R:=R) Tryz.prog 158 xs (iY.via n xs):=c7 iY.oi (λa=>by kernel_rfl) (iY.cW n) xs
def so.C{R:Type}(n:Nat)(f:FuncId)(xs:List AV):(AV->Option R)->Option R:=
 bif Nat.beq f 158 then iY.via n xs else λ_=>none
theorem so.c8{R:Type}(n:Nat):dt (R:=R) Tryz.prog (so.C n):=λ_ xs=>cR (iY.cO n xs) (cT.none)
def so.cut(r:Nat):Option dP:=match r with  | _=>none
def so.e(n:Nat)(a0:List AV):Option Bool:=
 (iY.F n a0).bind λp1=>
 some (decide (p1>=0))
def so.E(n:Nat):iY.A->Option ee.T:=λa0=>so.e n a0
def so.F(n:Nat)(a0:List AV):Option Bool:=so.e n a0
def so.FA(n:Nat):iY.A->Option ee.T:=so.E n
theorem so.cW(n:Nat):∀a p,so.FA n a=some p->dc Tryz.prog 110 (iY.i a) (ee.p p):=gp so.cut (so.E n) cfg mixed dB ee.qi (so.c8 n) Tryz.func110
def so.via{R:Type}(n:Nat):List AV->(AV->Option R)->Option R:=d_ (so.FA n) iY.o ee.p
theorem so.cO{R:Type}(n:Nat)(xs:List AV):cT (R:=R) Tryz.prog 110 xs (so.via n xs):=c7 iY.oi (λa=>by kernel_rfl) (so.cW n) xs
abbrev fP.T:=Int × Int × ByteArray × Int × Int × Int × Int × Int × ByteArray × ByteArray × Int × Int × Int × List AV × Int × Int × Int × Int × Bool
def fP.p(p:fP.T):AV:=.eC [AV.agg [vi p.1,vi p.2.1,vs p.2.2.1,vi p.2.2.2.1,vi p.2.2.2.2.1,vi p.2.2.2.2.2.1,vi p.2.2.2.2.2.2.1,vi p.2.2.2.2.2.2.2.1,vs p.2.2.2.2.2.2.2.2.1,vs p.2.2.2.2.2.2.2.2.2.1,vi p.2.2.2.2.2.2.2.2.2.2.1,vi p.2.2.2.2.2.2.2.2.2.2.2.1,vi p.2.2.2.2.2.2.2.2.2.2.2.2.1,.fr ⟨true,9,false⟩ 1 p.2.2.2.2.2.2.2.2.2.2.2.2.2.1,vi p.2.2.2.2.2.2.2.2.2.2.2.2.2.2.1,vi p.2.2.2.2.2.2.2.2.2.2.2.2.2.2.2.1,vi p.2.2.2.2.2.2.2.2.2.2.2.2.2.2.2.2.1,vi p.2.2.2.2.2.2.2.2.2.2.2.2.2.2.2.2.2.1],vb p.2.2.2.2.2.2.2.2.2.2.2.2.2.2.2.2.2.2]
def fP.q(x:AV):Option fP.T:=match x with | .eC [.agg [.v (.int .i64 p0),.v (.int .i64 p1),.v (.string p2),.v (.int .i64 p3),.v (.int .i64 p4),.v (.int .i64 p5),.v (.int .i64 p6),.v (.int .i64 p7),.v (.string p8),.v (.string p9),.v (.int .i64 ku),.v (.int .i64 ln),.v (.int .i64 nV),.fr ⟨true,9,false⟩ 1 kR,.v (.int .i64 I4),.v (.int .i64 yq),.v (.int .i64 LU),.v (.int .i64 Rz)],.v (.bool K8)]=>some (p0,p1,p2,p3,p4,p5,p6,p7,p8,p9,ku,ln,nV,kR,I4,yq,LU,Rz,K8) | _=>none
theorem fP.qi:∀x p,fP.q x=some p->x=fP.p p:=by
 intro x p h;unfold fP.q at h;split at h
 ·cases h;rfl
 ·cases h
inductive fP.Z where
 | z9 (z1 z2 z3 z4:Int) (z5:ByteArray) (z6 z7 z8 z9 dk:Int) (dp z12:ByteArray) (dC dG dE dM dS dJ dO:Int) (z20 z21:List AV)
def fP.C{R:Type}(n:Nat)(f:FuncId)(xs:List AV):(AV->Option R)->Option R:=
 bif Nat.beq f 53 then sr.via n xs else bif Nat.beq f 60 then ow.via n xs else bif Nat.beq f 78 then er.via n xs else bif Nat.beq f 105 then uc.via n xs else bif Nat.beq f 106 then fE.via n xs else bif Nat.beq f 107 then Di.via n xs else bif Nat.beq f 108 then kU.via n xs else bif Nat.beq f 109 then iM.via n xs else bif Nat.beq f 110 then so.via n xs else λ_=>none
theorem fP.c8{R:Type}(n:Nat):dt (R:=R) Tryz.prog (fP.C n):=λ_ xs=>cR (sr.cO n xs) (cR (ow.cO n xs) (cR (er.cO n xs) (cR (uc.cO n xs) (cR (fE.cO n xs) (cR (Di.cO n xs) (cR (kU.cO n xs) (cR (iM.cO n xs) (cR (so.cO n xs) (cT.none)))))))))
def fP.cut(r:Nat):Option dP:=match r with | 9=>some ⟨[2,11,51,52,53],[(11,none,⟨true,3,false⟩,1)]⟩ | _=>none
noncomputable def fP.t (z:fP.Z):List Item:=(dL (match z with | .z9 _ _ _ _ _ _ _ _ _ _ _ _ _ _ _ _ _ _ _ _ _=>9) 1000 [.code (Tryz.f62.body.getD .skip)]).getD []
def fP.s:fP.Z->St
 | .z9 z1 z2 z3 z4 z5 z6 z7 z8 z9 dk dp z12 dC dG dE dM dS dJ dO z20 z21=>⟨fx 106 0 [(2,.ptr 0 0),(11,.own 1 0 none),(51,.own 2 0 none),(52,vi z1),(53,vi z2)],Mem.ofList [.box 109 [vi z3,vi z4,vs z5,vi z6,vi z7,vi z8,vi z9,vi dk,vs dp,vs z12,vi dC,vi dG,vi dE,.v (.slice none 0 0),vi dM,vi dS,vi dJ,vi dO],.row ⟨true,3,false⟩ 1 z20,.row ⟨true,9,false⟩ 1 z21],3⟩
def fP.r9(n:Nat)(c:fP.Z->Option fP.T)(z1 z2 z3 z4:Int)(z5:ByteArray)(z6 z7 z8 z9 dk:Int)(dp z12:ByteArray)(dC dG dE dM dS dJ dO:Int)(z20 z21:List AV):Option fP.T:=
 bif decide (z2<z1)then(bif decide ((0:Int)<=z2)&&decide (z2<((z21.length:Nat):Int))then(cN ((z21.getD ((z2).toNat) .undef).cells) λPH uN=>
 df PH λZ6=>
 (kU.F n Z6).bind λyq=>
 bif !yq.2 then(some (0,0,(⟨#[]⟩:ByteArray),0,0,0,0,0,(⟨#[]⟩:ByteArray),(⟨#[]⟩:ByteArray),0,0,0,[],0,0,0,0,false))else(bif decide (z20.length+[vi yq.1].length<=fe)then(c (.z9 z1 (IntKind.i64.wrap (z2+1)) z3 z4 z5 z6 z7 z8 z9 dk dp z12 dC dG dE dM dS dJ dO (z20++[vi yq.1]) z21))else none))else none)else(let C9:Bool:=((z20.length:Nat):Int) != 4
 bif C9 then(some (0,0,(⟨#[]⟩:ByteArray),0,0,0,0,0,(⟨#[]⟩:ByteArray),(⟨#[]⟩:ByteArray),0,0,0,[],0,0,0,0,false))else(bif decide ((0:Int)<(z20.length:Nat))then(cN ((z20.getD 0 .undef).cells) λCw sE=>
 cQ .i64 Cw λA9=>
 bif decide ((1:Int)<(z20.length:Nat))then(cN ((z20.getD 1 .undef).cells) λCv qw=>
 cQ .i64 Cv λHI=>
 bif decide ((2:Int)<(z20.length:Nat))then(cN ((z20.getD 2 .undef).cells) λCu qW=>
 cQ .i64 Cu λM8=>
 bif decide ((3:Int)<(z20.length:Nat))then(cN ((z20.getD 3 .undef).cells) λCt yj=>
 cQ .i64 Ct λHH=>
 some (0,3,(⟨#[]⟩:ByteArray),0,0,0,0,0,(⟨#[]⟩:ByteArray),(⟨#[]⟩:ByteArray),0,0,0,[],A9,HI,M8,HH,true))else none)else none)else none)else none))
def fP.r(n:Nat)(c:fP.Z->Option fP.T):fP.Z->Option fP.T
 | .z9 z1 z2 z3 z4 z5 z6 z7 z8 z9 dk dp z12 dC dG dE dM dS dJ dO z20 z21=>fP.r9 n c z1 z2 z3 z4 z5 z6 z7 z8 z9 dk dp z12 dC dG dE dM dS dJ dO z20 z21
def fP.e(n:Nat)(c:fP.Z->Option fP.T)(a0:ByteArray):Option fP.T:=
 (uc.F n a0 (⟨#[68,67,76,32]⟩:ByteArray)).bind λp1=>
 bif p1.2 then((fE.F n p1.1).bind λp2=>
 bif p2.2.2.2.2.2.2.2.2.2.2 then((er.F n p2.1).bind λp3=>
 bif p3 then((sr.F n p2.1 p2.2.1 p2.2.2.1 p2.2.2.2.1 p2.2.2.2.2.1 p2.2.2.2.2.2.1 p2.2.2.2.2.2.2.1 p2.2.2.2.2.2.2.2.1 p2.2.2.2.2.2.2.2.2.1 p2.2.2.2.2.2.2.2.2.2.1).bind λp4=>
 some (0,1,p2.1,p2.2.1,p2.2.2.1,p2.2.2.2.1,p2.2.2.2.2.1,p2.2.2.2.2.2.1,p2.2.2.2.2.2.2.1,p2.2.2.2.2.2.2.2.1,p2.2.2.2.2.2.2.2.2.1,p2.2.2.2.2.2.2.2.2.2.1,0,[],0,0,0,0,p4.toList==a0.toList))else(some (0,1,p2.1,p2.2.1,p2.2.2.1,p2.2.2.2.1,p2.2.2.2.2.1,p2.2.2.2.2.2.1,p2.2.2.2.2.2.2.1,p2.2.2.2.2.2.2.2.1,p2.2.2.2.2.2.2.2.2.1,p2.2.2.2.2.2.2.2.2.2.1,0,[],0,0,0,0,false)))else(some (0,1,p2.1,p2.2.1,p2.2.2.1,p2.2.2.2.1,p2.2.2.2.2.1,p2.2.2.2.2.2.1,p2.2.2.2.2.2.2.1,p2.2.2.2.2.2.2.2.1,p2.2.2.2.2.2.2.2.2.1,p2.2.2.2.2.2.2.2.2.2.1,0,[],0,0,0,0,false)))else((ow.F n a0 (⟨#[32]⟩:ByteArray)).bind λp5=>
 let y6:Bool:=p5.1.toList==(⟨#[77,79,78,73,84,79,82]⟩:ByteArray).toList
 bif y6 then((Di.F n p5.2.1 (⟨#[32]⟩:ByteArray)).bind λp7=>
 c (.z9 ((p7.length:Nat):Int) 0 0 0 (⟨#[]⟩:ByteArray) 0 0 0 0 0 (⟨#[]⟩:ByteArray) (⟨#[]⟩:ByteArray) 0 0 0 0 0 0 0 [] p7))else((iM.F n [vs (⟨#[77,79,86,69]⟩:ByteArray),vs (⟨#[77,79,86,69,72]⟩:ByteArray),vs (⟨#[65,68,68]⟩:ByteArray),vs (⟨#[83,85,66]⟩:ByteArray),vs (⟨#[77,85,76]⟩:ByteArray),vs (⟨#[68,73,86]⟩:ByteArray),vs (⟨#[82,69,77]⟩:ByteArray),vs (⟨#[73,70,69,81]⟩:ByteArray),vs (⟨#[73,70,76,84]⟩:ByteArray),vs (⟨#[71,79,84,79]⟩:ByteArray),vs (⟨#[65,68,68,82]⟩:ByteArray),vs (⟨#[77,79,86,69,80]⟩:ByteArray),vs (⟨#[65,68,86,65,78,67,69]⟩:ByteArray),vs (⟨#[67,65,76,76]⟩:ByteArray),vs (⟨#[82,69,84,85,82,78]⟩:ByteArray),vs (⟨#[83,73,71,78,65,76]⟩:ByteArray),vs (⟨#[69,88,67,69,80,84,73,79,78]⟩:ByteArray),vs (⟨#[80,82,73,78,84]⟩:ByteArray),vs (⟨#[69,78,68]⟩:ByteArray)] p5.1).bind λp8=>
 bif p5.2.2 then((Di.F n p5.2.1 (⟨#[44]⟩:ByteArray)).bind λp9=>
 bif decide (p8>=0)then((so.F n p9).bind λku=>
 some (0,2,(⟨#[]⟩:ByteArray),0,0,0,0,0,(⟨#[]⟩:ByteArray),(⟨#[]⟩:ByteArray),0,0,p8,p9,0,0,0,0,!ku))else(some (0,2,(⟨#[]⟩:ByteArray),0,0,0,0,0,(⟨#[]⟩:ByteArray),(⟨#[]⟩:ByteArray),0,0,p8,p9,0,0,0,0,false)))else(bif decide (p8>=0)then((so.F n []).bind λln=>
 some (0,2,(⟨#[]⟩:ByteArray),0,0,0,0,0,(⟨#[]⟩:ByteArray),(⟨#[]⟩:ByteArray),0,0,p8,[],0,0,0,0,!ln))else(some (0,2,(⟨#[]⟩:ByteArray),0,0,0,0,0,(⟨#[]⟩:ByteArray),(⟨#[]⟩:ByteArray),0,0,p8,[],0,0,0,0,false)))))
def fP.E(n:Nat)(c:fP.Z->Option fP.T):er.A->Option fP.T:=λa0=>fP.e n c a0
def fP.l(n:Nat):Nat->fP.Z->Option fP.T:=ez (fP.r n)
def fP.F(n:Nat)(a0:ByteArray):Option fP.T:=fP.e n (fP.l n n) a0
def fP.FA(n:Nat):er.A->Option fP.T:=fP.E n (fP.l n n)
theorem fP.cW(n:Nat):∀a p,fP.FA n a=some p->dc Tryz.prog 62 (er.i a) (fP.p p):=lN fP.cut fP.t fP.s (fP.E n) (fP.r n) cfg mixed dB fP.qi (fP.c8 n) Tryz.func62
def fP.via{R:Type}(n:Nat):List AV->(AV->Option R)->Option R:=d_ (fP.FA n) er.o fP.p
theorem fP.cO{R:Type}(n:Nat)(xs:List AV):cT (R:=R) Tryz.prog 62 xs (fP.via n xs):=c7 er.oi (λa=>by kernel_rfl) (fP.cW n) xs
def A7.own(f:FuncId):Bool:=Nat.beq f 14||Nat.beq f 17||Nat.beq f 22||Nat.beq f 60||Nat.beq f 62
def A7.C0{R:Type}(f:FuncId)(xs:List AV):(AV->Option R)->Option R:=bif Nat.beq f 14 then eP.via 1000 xs else bif Nat.beq f 17 then mj.via 1000 xs else bif Nat.beq f 22 then gg.via 1000 xs else bif Nat.beq f 60 then ow.via 1000 xs else bif Nat.beq f 62 then fP.via 1000 xs else λ_=>none
theorem A7.Oq{R:Type}:dt (R:=R) Tryz.prog A7.C0:=λ_ xs=>cR (eP.cO 1000 xs) (cR (mj.cO 1000 xs) (cR (gg.cO 1000 xs) (cR (ow.cO 1000 xs) (cR (fP.cO 1000 xs) (cT.none)))))
def A7.F(n:Nat):Option Bool:=Option.some true
theorem A7.run:qI Tryz.prog G A7.own A7.C0 (λ_ _=>none) 1000 100 12 []=Option.some (vb true):=by kernel_rfl
def A7.via{R:Type}(n:Nat)(ys:List AV):(AV->Option R)->Option R:=match ys with | []=>λK=>(A7.F n).bind λp=>K (.v (.bool p)) | _=>λ_=>none
theorem A7.cO{R:Type}(n:Nat)(ys:List AV):cT (R:=R) Tryz.prog 12 ys (A7.via n ys):=by
 unfold A7.via;split
 ·exact cT.of (λp hp=>by cases hp;exact Av cfg mixed dB rfl A7.Oq 100 _ _ _ A7.run)
 ·exact cT.none
abbrev dI.A:=List AV
abbrev dI.T:=List AV × List AV × List AV × Int × Int
def dI.i:dI.A->List AV:=λa0=>[.sl ⟨false,109,false⟩ 18 a0]
def dI.o(xs:List AV):Option dI.A:=match xs with | [.sl ⟨false,109,false⟩ 18 a0]=>some a0 | _=>none
theorem dI.oi:∀xs a,dI.o xs=some a->xs=dI.i a:=by
 intro xs a h;unfold dI.o at h;split at h
 ·cases h;rfl
 ·cases h
def dI.p(p:dI.T):AV:=.eC [AV.agg [.fr ⟨true,74,false⟩ 10 p.1,.fr ⟨false,86,false⟩ 2 p.2.1,.fr ⟨true,82,false⟩ 4 p.2.2.1],vi p.2.2.2.1,vi p.2.2.2.2]
def dI.q(x:AV):Option dI.T:=match x with | .eC [.agg [.fr ⟨true,74,false⟩ 10 p0,.fr ⟨false,86,false⟩ 2 p1,.fr ⟨true,82,false⟩ 4 p2],.v (.int .i64 p3),.v (.int .i64 p4)]=>some (p0,p1,p2,p3,p4) | _=>none
theorem dI.qi:∀x p,dI.q x=some p->x=dI.p p:=by
 intro x p h;unfold dI.q at h;split at h
 ·cases h;rfl
 ·cases h
inductive dI.Z where
 | z4 (z1 z2:List AV) (z3 z4:Int) (z5 z6 z7 z8 z9 dk:List AV)
 | z6 (z1 z2:List AV) (z3 z4:Int) (z5 z6 z7 z8 z9 dk:List AV) (dp z12:Int) (dC:ByteArray) (dG dE dM dS dJ:Int) (dO z20:ByteArray) (z21 z22 z23:Int) (z24:List AV) (z25 z26 fD z28:Int)
 | z7 (z1 z2:List AV) (z3 z4:Int) (z5 z6 z7 z8 z9 dk:List AV) (dp z12:Int) (dC:ByteArray) (dG dE dM dS dJ:Int) (dO z20:ByteArray) (z21 z22 z23:Int) (z24:List AV) (z25 z26 fD z28:Int)
 | z12 (z1 z2:List AV) (z3 z4:Int) (z5 z6 z7 z8 z9 dk:List AV)
 | dG (z1:List AV) (z2 z3:Int) (z4 z5 z6 z7 z8 z9 dk:List AV)
 | z21 (z1:List AV) (z2 z3:Int) (z4:List AV) (z5 z6:Int) (z7 z8 z9 dk dp z12 dC:List AV) (dG dE:Int) (dM:ByteArray) (dS dJ dO z20 z21:Int) (z22 z23:ByteArray) (z24 z25 z26:Int) (fD:List AV) (z28 iD jx z31 ng:Int) (re:List AV)
 | ng (z1 z2 z3 z4:List AV) (z5 z6 z7:Int)
def dI.C{R:Type}(n:Nat)(f:FuncId)(xs:List AV):(AV->Option R)->Option R:=
 bif Nat.beq f 14 then eP.via n xs else bif Nat.beq f 66 then mh.via n xs else λ_=>none
theorem dI.c8{R:Type}(n:Nat):dt (R:=R) Tryz.prog (dI.C n):=λ_ xs=>cR (eP.cO n xs) (cR (mh.cO n xs) (cT.none))
def dI.cut(r:Nat):Option dP:=match r with | 4=>some ⟨[0,2,5,6,19,20,21],[(5,some 2,⟨true,82,false⟩,4),(6,some 3,⟨true,3,false⟩,1),(6,some 2,⟨true,3,false⟩,1),(5,some 0,⟨true,74,false⟩,10),(6,some 1,⟨true,3,false⟩,1)]⟩ | 6=>some ⟨[0,2,5,6,8,19,20,21],[(8,some 2000001,⟨true,0,false⟩,4)]⟩ | 7=>some ⟨[0,2,5,6,8,19,20,21],[]⟩ | 12=>some ⟨[0,2,5,6,19,20,21],[]⟩ | 14=>some ⟨[2,5,6,57,58,59],[(5,some 1,⟨false,86,false⟩,2)]⟩ | 21=>some ⟨[2,5,6,10,11,57,58,59,82,83,84],[(11,some 1,⟨true,3,false⟩,1)]⟩ | 32=>some ⟨[2,6,15,16],[(6,some 1000000,⟨true,0,false⟩,0)]⟩ | _=>none
noncomputable def dI.t (z:dI.Z):List Item:=(dL (match z with | .z4 _ _ _ _ _ _ _ _ _ _=>4 | .z6 _ _ _ _ _ _ _ _ _ _ _ _ _ _ _ _ _ _ _ _ _ _ _ _ _ _ _ _=>6 | .z7 _ _ _ _ _ _ _ _ _ _ _ _ _ _ _ _ _ _ _ _ _ _ _ _ _ _ _ _=>7 | .z12 _ _ _ _ _ _ _ _ _ _=>12 | .dG _ _ _ _ _ _ _ _ _ _=>14 | .z21 _ _ _ _ _ _ _ _ _ _ _ _ _ _ _ _ _ _ _ _ _ _ _ _ _ _ _ _ _ _ _ _ _=>21 | .ng _ _ _ _ _ _ _=>32) 1000 [.code (Tryz.f63.body.getD .skip)]).getD []
def dI.s:dI.Z->St
 | .z4 z1 z2 z3 z4 z5 z6 z7 z8 z9 dk=>⟨fx 129 0 [(0,.sl ⟨false,109,false⟩ 18 z1),(2,.ptr 0 0),(5,.ptr 1 0),(6,.ptr 4 0),(19,.sl ⟨false,109,false⟩ 18 z2),(20,vi z3),(21,vi z4)],Mem.ofList [.box 26 [.v (.slice none 0 0),.v (.slice none 0 0),.v (.slice none 0 0)],.box 26 [.own 2 0 none,.v (.slice none 0 0),.own 3 0 none],.row ⟨true,74,false⟩ 10 z5,.row ⟨true,82,false⟩ 4 z6,.box 118 [.own 5 0 none,.own 6 0 none,.own 7 0 none,.own 8 0 none],.row ⟨true,3,false⟩ 1 z7,.row ⟨true,3,false⟩ 1 z8,.row ⟨true,3,false⟩ 1 z9,.row ⟨true,3,false⟩ 1 dk],9⟩
 | .z6 z1 z2 z3 z4 z5 z6 z7 z8 z9 dk dp z12 dC dG dE dM dS dJ dO z20 z21 z22 z23 z24 z25 z26 fD z28=>⟨fx 129 0 [(0,.sl ⟨false,109,false⟩ 18 z1),(2,.ptr 0 0),(5,.ptr 1 0),(6,.ptr 4 0),(8,.ptr 9 0),(19,.sl ⟨false,109,false⟩ 18 z2),(20,vi z3),(21,vi z4)],Mem.ofList [.box 26 [.v (.slice none 0 0),.v (.slice none 0 0),.v (.slice none 0 0)],.box 26 [.own 2 0 none,.v (.slice none 0 0),.own 3 0 none],.row ⟨true,74,false⟩ 10 z5,.row ⟨true,82,false⟩ 4 z6,.box 118 [.own 5 0 none,.own 6 0 none,.own 7 0 none,.own 8 0 none],.row ⟨true,3,false⟩ 1 z7,.row ⟨true,3,false⟩ 1 z8,.row ⟨true,3,false⟩ 1 z9,.row ⟨true,3,false⟩ 1 dk,.box 109 [vi dp,vi z12,vs dC,vi dG,vi dE,vi dM,vi dS,vi dJ,vs dO,vs z20,vi z21,vi z22,vi z23,.sl ⟨true,9,false⟩ 1 z24,vi z25,vi z26,vi fD,vi z28]],10⟩
 | .z7 z1 z2 z3 z4 z5 z6 z7 z8 z9 dk dp z12 dC dG dE dM dS dJ dO z20 z21 z22 z23 z24 z25 z26 fD z28=>⟨fx 129 0 [(0,.sl ⟨false,109,false⟩ 18 z1),(2,.ptr 0 0),(5,.ptr 1 0),(6,.ptr 4 0),(8,.ptr 9 0),(19,.sl ⟨false,109,false⟩ 18 z2),(20,vi z3),(21,vi z4)],Mem.ofList [.box 26 [.v (.slice none 0 0),.v (.slice none 0 0),.v (.slice none 0 0)],.box 26 [.own 2 0 none,.v (.slice none 0 0),.own 3 0 none],.row ⟨true,74,false⟩ 10 z5,.row ⟨true,82,false⟩ 4 z6,.box 118 [.own 5 0 none,.own 6 0 none,.own 7 0 none,.own 8 0 none],.row ⟨true,3,false⟩ 1 z7,.row ⟨true,3,false⟩ 1 z8,.row ⟨true,3,false⟩ 1 z9,.row ⟨true,3,false⟩ 1 dk,.box 109 [vi dp,vi z12,vs dC,vi dG,vi dE,vi dM,vi dS,vi dJ,vs dO,vs z20,vi z21,vi z22,vi z23,.sl ⟨true,9,false⟩ 1 z24,vi z25,vi z26,vi fD,vi z28]],10⟩
 | .z12 z1 z2 z3 z4 z5 z6 z7 z8 z9 dk=>⟨fx 129 0 [(0,.sl ⟨false,109,false⟩ 18 z1),(2,.ptr 0 0),(5,.ptr 1 0),(6,.ptr 4 0),(19,.sl ⟨false,109,false⟩ 18 z2),(20,vi z3),(21,vi z4)],Mem.ofList [.box 26 [.v (.slice none 0 0),.v (.slice none 0 0),.v (.slice none 0 0)],.box 26 [.own 2 0 none,.v (.slice none 0 0),.own 3 0 none],.row ⟨true,74,false⟩ 10 z5,.row ⟨true,82,false⟩ 4 z6,.box 118 [.own 5 0 none,.own 6 0 none,.own 7 0 none,.own 8 0 none],.row ⟨true,3,false⟩ 1 z7,.row ⟨true,3,false⟩ 1 z8,.row ⟨true,3,false⟩ 1 z9,.row ⟨true,3,false⟩ 1 dk],9⟩
 | .dG z1 z2 z3 z4 z5 z6 z7 z8 z9 dk=>⟨fx 129 0 [(2,.ptr 0 0),(5,.ptr 1 0),(6,.ptr 5 0),(57,.sl ⟨false,109,false⟩ 18 z1),(58,vi z2),(59,vi z3)],Mem.ofList [.box 26 [.v (.slice none 0 0),.v (.slice none 0 0),.v (.slice none 0 0)],.box 26 [.own 2 0 none,.own 3 0 none,.own 4 0 none],.row ⟨true,74,false⟩ 10 z4,.row ⟨false,86,false⟩ 2 z5,.row ⟨true,82,false⟩ 4 z6,.box 118 [.own 6 0 none,.own 7 0 none,.own 8 0 none,.own 9 0 none],.row ⟨true,3,false⟩ 1 z7,.row ⟨true,3,false⟩ 1 z8,.row ⟨true,3,false⟩ 1 z9,.row ⟨true,3,false⟩ 1 dk],10⟩
 | .z21 z1 z2 z3 z4 z5 z6 z7 z8 z9 dk dp z12 dC dG dE dM dS dJ dO z20 z21 z22 z23 z24 z25 z26 fD z28 iD jx z31 ng re=>⟨fx 129 0 [(2,.ptr 0 0),(5,.ptr 1 0),(6,.ptr 5 0),(10,.ptr 10 0),(11,.ptr 11 0),(57,.sl ⟨false,109,false⟩ 18 z1),(58,vi z2),(59,vi z3),(82,.sl ⟨true,9,false⟩ 1 z4),(83,vi z5),(84,vi z6)],Mem.ofList [.box 26 [.v (.slice none 0 0),.v (.slice none 0 0),.v (.slice none 0 0)],.box 26 [.own 2 0 none,.own 3 0 none,.own 4 0 none],.row ⟨true,74,false⟩ 10 z7,.row ⟨false,86,false⟩ 2 z8,.row ⟨true,82,false⟩ 4 z9,.box 118 [.own 6 0 none,.own 7 0 none,.own 8 0 none,.own 9 0 none],.row ⟨true,3,false⟩ 1 dk,.row ⟨true,3,false⟩ 1 dp,.row ⟨true,3,false⟩ 1 z12,.row ⟨true,3,false⟩ 1 dC,.box 109 [vi dG,vi dE,vs dM,vi dS,vi dJ,vi dO,vi z20,vi z21,vs z22,vs z23,vi z24,vi z25,vi z26,.sl ⟨true,9,false⟩ 1 fD,vi z28,vi iD,vi jx,vi z31],.box 86 [vi ng,.own 12 0 none],.row ⟨true,3,false⟩ 1 re],13⟩
 | .ng z1 z2 z3 z4 z5 z6 z7=>⟨fx 129 0 [(2,.ptr 0 0),(6,.rd [.sl ⟨true,3,false⟩ 1 z1,.sl ⟨true,3,false⟩ 1 z2,.sl ⟨true,3,false⟩ 1 z3,.sl ⟨true,3,false⟩ 1 z4]),(15,.ptr 1 0),(16,vi z5)],Mem.ofList [.box 26 [.v (.slice none 0 0),.v (.slice none 0 0),.v (.slice none 0 0)],.box 30 [vi z6,vi z7]],2⟩
def dI.r4(n:Nat)(c:dI.Z->Option (List AV × List AV × List AV × Int × Int))(z1 z2:List AV)(z3 z4:Int)(z5 z6 z7 z8 z9 dk:List AV):Option (List AV × List AV × List AV × Int × Int):=
 bif decide (z4<z3)then(bif decide ((0:Int)<=z4)&&decide (z4<((z2.length:Nat):Int))then(cN ((z2.getD ((z4).toNat) .undef).cells) λh1 r2=>
 cQ .i64 h1 λx3=>
 cN r2 λh4 r5=>
 cQ .i64 h4 λx6=>
 cN r5 λh7 r8=>
 df h7 λs9=>
 cN r8 λxG vN=>
 cQ .i64 xG λpV=>
 cN vN λDg xk=>
 cQ .i64 Dg λsy=>
 cN xk λCx I0=>
 cQ .i64 Cx λoo=>
 cN I0 λEk DF=>
 cQ .i64 Ek λOg=>
 cN DF λGV yk=>
 cQ .i64 GV λQ5=>
 cN yk λAE A3=>
 df AE λZ5=>
 cN A3 λxm HM=>
 df xm λZ4=>
 cN HM λPG LK=>
 cQ .i64 PG λUQ=>
 cN LK λSL Rr=>
 cQ .i64 SL λUP=>
 cN Rr λSJ Rq=>
 cQ .i64 SJ λOf=>
 cN Rq λGU Qj=>
 gU ⟨true,9,false⟩ 1 GU λUB=>
 cN Qj λPE Qi=>
 cQ .i64 PE λIi=>
 cN Qi λoD OK=>
 cQ .i64 oD λP_=>
 cN OK λPC OI=>
 cQ .i64 PC λP9=>
 cN OI λPA Qh=>
 cQ .i64 PA λP8=>
 c (.z6 z1 z2 z3 z4 z5 z6 z7 z8 z9 dk x3 x6 s9 pV sy oo Og Q5 Z5 Z4 UQ UP Of UB Ii P_ P9 P8))else none)else(c (.dG z1 ((z1.length:Nat):Int) 0 z5 [] z6 z7 z8 z9 dk))
def dI.r6(n:Nat)(c:dI.Z->Option (List AV × List AV × List AV × Int × Int))(z1 z2:List AV)(z3 z4:Int)(z5 z6 z7 z8 z9 dk:List AV)(dp z12:Int)(dC:ByteArray)(dG dE dM dS dJ:Int)(dO z20:ByteArray)(z21 z22 z23:Int)(z24:List AV)(z25 z26 fD z28:Int):Option (List AV × List AV × List AV × Int × Int):=
 bif decide (z12=((3:Nat):Int))then(bif decide (dk.length+[vi dp].length<=fe)then(c (.z7 z1 z2 z3 z4 z5 z6 z7 z8 z9 (dk++[vi dp]) dp 3 dC dG dE dM dS dJ dO z20 z21 z22 z23 z24 z25 z26 fD z28))else none)else(bif decide (z12=((2:Nat):Int))then(bif decide (z9.length+[vi dp].length<=fe)then(c (.z7 z1 z2 z3 z4 z5 z6 z7 z8 (z9++[vi dp]) dk dp 2 dC dG dE dM dS dJ dO z20 z21 z22 z23 z24 z25 z26 fD z28))else none)else(bif decide (z12=((1:Nat):Int))then(bif decide (z8.length+[vi dp].length<=fe)then(c (.z7 z1 z2 z3 z4 z5 z6 z7 (z8++[vi dp]) z9 dk dp 1 dC dG dE dM dS dJ dO z20 z21 z22 z23 z24 z25 z26 fD z28))else none)else(bif decide (z12=((0:Nat):Int))then(bif decide (z7.length+[vi dp].length<=fe)then(c (.z7 z1 z2 z3 z4 z5 z6 (z7++[vi dp]) z8 z9 dk dp 0 dC dG dE dM dS dJ dO z20 z21 z22 z23 z24 z25 z26 fD z28))else none)else(none))))
def dI.r7(n:Nat)(c:dI.Z->Option (List AV × List AV × List AV × Int × Int))(z1 z2:List AV)(z3 z4:Int)(z5 z6 z7 z8 z9 dk:List AV)(dp z12:Int)(dC:ByteArray)(dG dE dM dS dJ:Int)(dO z20:ByteArray)(z21 z22 z23:Int)(z24:List AV)(z25 z26 fD z28:Int):Option (List AV × List AV × List AV × Int × Int):=
 bif z12==1 then(let QV:List AV:=[AV.agg [vs dC,vi dG,vi dE,vi dM,vi dS,vi dJ,vs dO,vs z20,vi z21,vi z22]]
 bif decide (z5.length+QV.length<=fe)then(c (.z12 z1 z2 z3 z4 (z5++QV) z6 z7 z8 z9 dk))else none)else(bif z12==3 then(let QU:List AV:=[AV.agg [vi z25,vi z26,vi fD,vi z28]]
 bif decide (z6.length+QU.length<=fe)then(c (.z12 z1 z2 z3 z4 z5 (z6++QU) z7 z8 z9 dk))else none)else(c (.z12 z1 z2 z3 z4 z5 z6 z7 z8 z9 dk)))
def dI.ry(n:Nat)(c:dI.Z->Option (List AV × List AV × List AV × Int × Int))(z1 z2:List AV)(z3 z4:Int)(z5 z6 z7 z8 z9 dk:List AV):Option (List AV × List AV × List AV × Int × Int):=
 c (.z4 z1 z2 z3 (IntKind.i64.wrap (z4+1)) z5 z6 z7 z8 z9 dk)
def dI.xk(n:Nat)(c:dI.Z->Option (List AV × List AV × List AV × Int × Int))(z1:List AV)(z2 z3:Int)(z4 z5 z6 z7 z8 z9 dk:List AV):Option (List AV × List AV × List AV × Int × Int):=
 bif decide (z3<z2)then(bif decide ((0:Int)<=z3)&&decide (z3<((z1.length:Nat):Int))then(cN ((z1.getD ((z3).toNat) .undef).cells) λPy Qg=>
 cQ .i64 Py λQ0=>
 cN Qg λSG Rp=>
 cQ .i64 SG λTD=>
 cN Rp λSF Ro=>
 df SF λVa=>
 cN Ro λSC Rm=>
 cQ .i64 SC λQZ=>
 cN Rm λPw TP=>
 cQ .i64 Pw λP7=>
 cN TP λW1 Ya=>
 cQ .i64 W1 λUI=>
 cN Ya λWZ X_=>
 cQ .i64 WZ λZB=>
 cN X_ λWY X9=>
 cQ .i64 WY λZA=>
 cN X9 λh79 r80=>
 df h79 λZR=>
 cN r80 λh82 r83=>
 df h82 λZQ=>
 cN r83 λh85 r86=>
 cQ .i64 h85 λZx=>
 cN r86 λh88 r89=>
 cQ .i64 h88 λZv=>
 cN r89 λh91 r92=>
 cQ .i64 h91 λQY=>
 cN r92 λWU X8=>
 gU ⟨true,9,false⟩ 1 WU λLj=>
 cN X8 λh97 Z9=>
 cQ .i64 h97 λZp=>
 cN Z9 λXv Vx=>
 cQ .i64 Xv λU4=>
 cN Vx λXs Vv=>
 cQ .i64 Xs λU0=>
 cN Vv λXq aah=>
 cQ .i64 Xq λUY=>
 bif TD != 2 then(c (.dG z1 z2 (IntKind.i64.wrap (z3+1)) z4 z5 z6 z7 z8 z9 dk))else(bif decide ((0:Int)<=QY)&&decide (QY<((19:Nat):Int))then(cN (kO ((QY).toNat*1) [.sl ⟨true,3,false⟩ 1 SY,.sl ⟨true,3,false⟩ 1 SX,.sl ⟨true,3,false⟩ 1 SW,.sl ⟨true,3,false⟩ 1 SV,.sl ⟨true,3,false⟩ 1 SU,.sl ⟨true,3,false⟩ 1 SS,.sl ⟨true,3,false⟩ 1 SR,.sl ⟨true,3,false⟩ 1 SQ,.sl ⟨true,3,false⟩ 1 SP,.sl ⟨true,3,false⟩ 1 SO,.sl ⟨true,3,false⟩ 1 Kn,.sl ⟨true,3,false⟩ 1 Km,.sl ⟨true,3,false⟩ 1 Kl,.sl ⟨true,3,false⟩ 1 Kk,.sl ⟨true,3,false⟩ 1 Kj,.sl ⟨true,3,false⟩ 1 Ki,.sl ⟨true,3,false⟩ 1 Kh,.sl ⟨true,3,false⟩ 1 Kg,.sl ⟨true,3,false⟩ 1 Kf]) λXo aag=>
 gU ⟨true,3,false⟩ 1 Xo λQX=>
 let Uw:Bool:=((Lj.length:Nat):Int) != ((QX.length:Nat):Int)
 bif Uw then(some ([],[],[],Q0,37))else(c (.z21 z1 z2 z3 Lj ((Lj.length:Nat):Int) 0 z4 z5 z6 z7 z8 z9 dk Q0 TD Va QZ P7 UI ZB ZA ZR ZQ Zx Zv QY Lj Zp U4 U0 UY QY [])))else none))else none)else((eP.F n z4 z5 z6).bind λLV=>
 bif LV.2.2 != 0 then(c (.ng z7 z8 z9 dk LV.2.2 LV.1 LV.2.1))else(some (z4,z5,z6,0,0)))
def dI.qw(n:Nat)(c:dI.Z->Option (List AV × List AV × List AV × Int × Int))(z1:List AV)(z2 z3:Int)(z4:List AV)(z5 z6:Int)(z7 z8 z9 dk dp z12 dC:List AV)(dG dE:Int)(dM:ByteArray)(dS dJ dO z20 z21:Int)(z22 z23:ByteArray)(z24 z25 z26:Int)(fD:List AV)(z28 iD jx z31 ng:Int)(re:List AV):Option (List AV × List AV × List AV × Int × Int):=
 bif decide (z6<z5)then(bif decide ((0:Int)<=z6)&&decide (z6<((z4.length:Nat):Int))then(cN ((z4.getD ((z6).toNat) .undef).cells) λPI Rs=>
 df PI λVh=>
 (mh.F n z7 Vh).bind λOR=>
 bif decide (OR<0)then(some ([],[],[],dG,11))else(bif decide (re.length+[vi OR].length<=fe)then(c (.z21 z1 z2 z3 z4 z5 (IntKind.i64.wrap (z6+1)) z7 z8 z9 dk dp z12 dC dG dE dM dS dJ dO z20 z21 z22 z23 z24 z25 z26 fD z28 iD jx z31 ng (re++[vi OR])))else none))else none)else(let QT:List AV:=[AV.agg [vi ng,.sl ⟨true,3,false⟩ 1 re]]
 bif decide (z8.length+QT.length<=fe)then(c (.dG z1 z2 (IntKind.i64.wrap (z3+1)) z7 (z8++QT) z9 dk dp z12 dC))else none)
def dI.LK(n:Nat)(c:dI.Z->Option (List AV × List AV × List AV × Int × Int))(z1 z2 z3 z4:List AV)(z5 z6 z7:Int):Option (List AV × List AV × List AV × Int × Int):=
 bif decide ((0:Int)<=z6)&&decide (z6<((4:Nat):Int))then(cN (kO ((z6).toNat*1) [.sl ⟨true,3,false⟩ 1 z1,.sl ⟨true,3,false⟩ 1 z2,.sl ⟨true,3,false⟩ 1 z3,.sl ⟨true,3,false⟩ 1 z4]) λXk aaf=>
 gU ⟨true,3,false⟩ 1 Xk λM6=>
 bif decide ((0:Int)<=z7)&&decide (z7<((M6.length:Nat):Int))then(cN ((M6.getD ((z7).toNat) .undef).cells) λXi aad=>
 cQ .i64 Xi λUS=>
 some ([],[],[],US,z5))else none)else none
def dI.r(n:Nat)(c:dI.Z->Option (List AV × List AV × List AV × Int × Int)):dI.Z->Option (List AV × List AV × List AV × Int × Int)
 | .z4 z1 z2 z3 z4 z5 z6 z7 z8 z9 dk=>dI.r4 n c z1 z2 z3 z4 z5 z6 z7 z8 z9 dk
 | .z6 z1 z2 z3 z4 z5 z6 z7 z8 z9 dk dp z12 dC dG dE dM dS dJ dO z20 z21 z22 z23 z24 z25 z26 fD z28=>dI.r6 n c z1 z2 z3 z4 z5 z6 z7 z8 z9 dk dp z12 dC dG dE dM dS dJ dO z20 z21 z22 z23 z24 z25 z26 fD z28
 | .z7 z1 z2 z3 z4 z5 z6 z7 z8 z9 dk dp z12 dC dG dE dM dS dJ dO z20 z21 z22 z23 z24 z25 z26 fD z28=>dI.r7 n c z1 z2 z3 z4 z5 z6 z7 z8 z9 dk dp z12 dC dG dE dM dS dJ dO z20 z21 z22 z23 z24 z25 z26 fD z28
 | .z12 z1 z2 z3 z4 z5 z6 z7 z8 z9 dk=>dI.ry n c z1 z2 z3 z4 z5 z6 z7 z8 z9 dk
 | .dG z1 z2 z3 z4 z5 z6 z7 z8 z9 dk=>dI.xk n c z1 z2 z3 z4 z5 z6 z7 z8 z9 dk
 | .z21 z1 z2 z3 z4 z5 z6 z7 z8 z9 dk dp z12 dC dG dE dM dS dJ dO z20 z21 z22 z23 z24 z25 z26 fD z28 iD jx z31 ng re=>dI.qw n c z1 z2 z3 z4 z5 z6 z7 z8 z9 dk dp z12 dC dG dE dM dS dJ dO z20 z21 z22 z23 z24 z25 z26 fD z28 iD jx z31 ng re
 | .ng z1 z2 z3 z4 z5 z6 z7=>dI.LK n c z1 z2 z3 z4 z5 z6 z7
def dI.e(n:Nat)(c:dI.Z->Option (List AV × List AV × List AV × Int × Int))(a0:List AV):Option (List AV × List AV × List AV × Int × Int):=
 c (.z4 a0 a0 ((a0.length:Nat):Int) 0 [] [] [vi 0] [] [] [])
def dI.E(n:Nat)(c:dI.Z->Option (List AV × List AV × List AV × Int × Int)):dI.A->Option dI.T:=λa0=>dI.e n c a0
def dI.l(n:Nat):Nat->dI.Z->Option (List AV × List AV × List AV × Int × Int):=ez (dI.r n)
def dI.F(n:Nat)(a0:List AV):Option (List AV × List AV × List AV × Int × Int):=dI.e n (dI.l n n) a0
def dI.FA(n:Nat):dI.A->Option dI.T:=dI.E n (dI.l n n)
theorem dI.h4(n:Nat)(rec:List Item->St->Option dI.T)(z1 z2:List AV)(z3 z4:Int)(z5 z6 z7 z8 z9 dk:List AV):uz G (dI.C n) dI.cut (λS=>jE G Tryz.f63.resultTypes.toList Tryz.f63.results.toList S dI.q) rec (dI.t (.z4 z1 z2 z3 z4 z5 z6 z7 z8 z9 dk)) (dI.s (.z4 z1 z2 z3 z4 z5 z6 z7 z8 z9 dk))=dI.r n (λz=>rec (dI.t z) (dI.s z)) (.z4 z1 z2 z3 z4 z5 z6 z7 z8 z9 dk):=by kernel_rfl
theorem dI.h6(n:Nat)(rec:List Item->St->Option dI.T)(z1 z2:List AV)(z3 z4:Int)(z5 z6 z7 z8 z9 dk:List AV)(dp z12:Int)(dC:ByteArray)(dG dE dM dS dJ:Int)(dO z20:ByteArray)(z21 z22 z23:Int)(z24:List AV)(z25 z26 fD z28:Int):uz G (dI.C n) dI.cut (λS=>jE G Tryz.f63.resultTypes.toList Tryz.f63.results.toList S dI.q) rec (dI.t (.z6 z1 z2 z3 z4 z5 z6 z7 z8 z9 dk dp z12 dC dG dE dM dS dJ dO z20 z21 z22 z23 z24 z25 z26 fD z28)) (dI.s (.z6 z1 z2 z3 z4 z5 z6 z7 z8 z9 dk dp z12 dC dG dE dM dS dJ dO z20 z21 z22 z23 z24 z25 z26 fD z28))=dI.r n (λz=>rec (dI.t z) (dI.s z)) (.z6 z1 z2 z3 z4 z5 z6 z7 z8 z9 dk dp z12 dC dG dE dM dS dJ dO z20 z21 z22 z23 z24 z25 z26 fD z28):=by kernel_rfl
theorem dI.h7(n:Nat)(rec:List Item->St->Option dI.T)(z1 z2:List AV)(z3 z4:Int)(z5 z6 z7 z8 z9 dk:List AV)(dp z12:Int)(dC:ByteArray)(dG dE dM dS dJ:Int)(dO z20:ByteArray)(z21 z22 z23:Int)(z24:List AV)(z25 z26 fD z28:Int):uz G (dI.C n) dI.cut (λS=>jE G Tryz.f63.resultTypes.toList Tryz.f63.results.toList S dI.q) rec (dI.t (.z7 z1 z2 z3 z4 z5 z6 z7 z8 z9 dk dp z12 dC dG dE dM dS dJ dO z20 z21 z22 z23 z24 z25 z26 fD z28)) (dI.s (.z7 z1 z2 z3 z4 z5 z6 z7 z8 z9 dk dp z12 dC dG dE dM dS dJ dO z20 z21 z22 z23 z24 z25 z26 fD z28))=dI.r n (λz=>rec (dI.t z) (dI.s z)) (.z7 z1 z2 z3 z4 z5 z6 z7 z8 z9 dk dp z12 dC dG dE dM dS dJ dO z20 z21 z22 z23 z24 z25 z26 fD z28):=by kernel_rfl
theorem dI.PH(n:Nat)(rec:List Item->St->Option dI.T)(z1 z2:List AV)(z3 z4:Int)(z5 z6 z7 z8 z9 dk:List AV):uz G (dI.C n) dI.cut (λS=>jE G Tryz.f63.resultTypes.toList Tryz.f63.results.toList S dI.q) rec (dI.t (.z12 z1 z2 z3 z4 z5 z6 z7 z8 z9 dk)) (dI.s (.z12 z1 z2 z3 z4 z5 z6 z7 z8 z9 dk))=dI.r n (λz=>rec (dI.t z) (dI.s z)) (.z12 z1 z2 z3 z4 z5 z6 z7 z8 z9 dk):=by kernel_rfl
theorem dI.El(n:Nat)(rec:List Item->St->Option dI.T)(z1:List AV)(z2 z3:Int)(z4 z5 z6 z7 z8 z9 dk:List AV):uz G (dI.C n) dI.cut (λS=>jE G Tryz.f63.resultTypes.toList Tryz.f63.results.toList S dI.q) rec (dI.t (.dG z1 z2 z3 z4 z5 z6 z7 z8 z9 dk)) (dI.s (.dG z1 z2 z3 z4 z5 z6 z7 z8 z9 dk))=dI.r n (λz=>rec (dI.t z) (dI.s z)) (.dG z1 z2 z3 z4 z5 z6 z7 z8 z9 dk):=by kernel_rfl
theorem dI.Xc(n:Nat)(rec:List Item->St->Option dI.T)(z1:List AV)(z2 z3:Int)(z4:List AV)(z5 z6:Int)(z7 z8 z9 dk dp z12 dC:List AV)(dG dE:Int)(dM:ByteArray)(dS dJ dO z20 z21:Int)(z22 z23:ByteArray)(z24 z25 z26:Int)(fD:List AV)(z28 iD jx z31 ng:Int)(re:List AV):uz G (dI.C n) dI.cut (λS=>jE G Tryz.f63.resultTypes.toList Tryz.f63.results.toList S dI.q) rec (dI.t (.z21 z1 z2 z3 z4 z5 z6 z7 z8 z9 dk dp z12 dC dG dE dM dS dJ dO z20 z21 z22 z23 z24 z25 z26 fD z28 iD jx z31 ng re)) (dI.s (.z21 z1 z2 z3 z4 z5 z6 z7 z8 z9 dk dp z12 dC dG dE dM dS dJ dO z20 z21 z22 z23 z24 z25 z26 fD z28 iD jx z31 ng re))=dI.r n (λz=>rec (dI.t z) (dI.s z)) (.z21 z1 z2 z3 z4 z5 z6 z7 z8 z9 dk dp z12 dC dG dE dM dS dJ dO z20 z21 z22 z23 z24 z25 z26 fD z28 iD jx z31 ng re):=by kernel_rfl
theorem dI.MA(n:Nat)(rec:List Item->St->Option dI.T)(z1 z2 z3 z4:List AV)(z5 z6 z7:Int):uz G (dI.C n) dI.cut (λS=>jE G Tryz.f63.resultTypes.toList Tryz.f63.results.toList S dI.q) rec (dI.t (.ng z1 z2 z3 z4 z5 z6 z7)) (dI.s (.ng z1 z2 z3 z4 z5 z6 z7))=dI.r n (λz=>rec (dI.t z) (dI.s z)) (.ng z1 z2 z3 z4 z5 z6 z7):=by kernel_rfl
theorem dI.he(n:Nat)(rec:List Item->St->Option dI.T)(a:dI.A):tW G (dI.C n) dI.cut (λS=>jE G Tryz.f63.resultTypes.toList Tryz.f63.results.toList S dI.q) rec 1000 [.code (Tryz.f63.body.getD .skip)] (_root_.Go.Proofs.Ev.start Tryz.f63 (dI.i a))=dI.E n (λz=>rec (dI.t z) (dI.s z)) a:=by kernel_rfl
theorem dI.cW(n:Nat):∀a p,dI.FA n a=some p->dc Tryz.prog 63 (dI.i a) (dI.p p):=
 oX (C:=dI.C n) (cut:=dI.cut) (t:=dI.t) (s:=dI.s) (e:=dI.E n) (r:=dI.r n) (n:=n) cfg mixed dB rfl dI.qi (dI.c8 n) Tryz.func63 (by kernel_rfl) (by kernel_rfl) (dI.he n) (λrec z=>match z with | .z4 z1 z2 z3 z4 z5 z6 z7 z8 z9 dk=>dI.h4 n rec z1 z2 z3 z4 z5 z6 z7 z8 z9 dk | .z6 z1 z2 z3 z4 z5 z6 z7 z8 z9 dk dp z12 dC dG dE dM dS dJ dO z20 z21 z22 z23 z24 z25 z26 fD z28=>dI.h6 n rec z1 z2 z3 z4 z5 z6 z7 z8 z9 dk dp z12 dC dG dE dM dS dJ dO z20 z21 z22 z23 z24 z25 z26 fD z28 | .z7 z1 z2 z3 z4 z5 z6 z7 z8 z9 dk dp z12 dC dG dE dM dS dJ dO z20 z21 z22 z23 z24 z25 z26 fD z28=>dI.h7 n rec z1 z2 z3 z4 z5 z6 z7 z8 z9 dk dp z12 dC dG dE dM dS dJ dO z20 z21 z22 z23 z24 z25 z26 fD z28 | .z12 z1 z2 z3 z4 z5 z6 z7 z8 z9 dk=>dI.PH n rec z1 z2 z3 z4 z5 z6 z7 z8 z9 dk | .dG z1 z2 z3 z4 z5 z6 z7 z8 z9 dk=>dI.El n rec z1 z2 z3 z4 z5 z6 z7 z8 z9 dk | .z21 z1 z2 z3 z4 z5 z6 z7 z8 z9 dk dp z12 dC dG dE dM dS dJ dO z20 z21 z22 z23 z24 z25 z26 fD z28 iD jx z31 ng re=>dI.Xc n rec z1 z2 z3 z4 z5 z6 z7 z8 z9 dk dp z12 dC dG dE dM dS dJ dO z20 z21 z22 z23 z24 z25 z26 fD z28 iD jx z31 ng re | .ng z1 z2 z3 z4 z5 z6 z7=>dI.MA n rec z1 z2 z3 z4 z5 z6 z7)
def dI.via{R:Type}(n:Nat):List AV->(AV->Option R)->Option R:=d_ (dI.FA n) dI.o dI.p
theorem dI.cO{R:Type}(n:Nat)(xs:List AV):cT (R:=R) Tryz.prog 63 xs (dI.via n xs):=c7 dI.oi (λa=>by kernel_rfl) (dI.cW n) xs
inductive jz.Z where
 | z5 (z1:ByteArray) (z2 z3:Int) (z4:List AV)
 | dk (z1:Int)
def jz.C{R:Type}(n:Nat)(f:FuncId)(xs:List AV):(AV->Option R)->Option R:=
 bif Nat.beq f 60 then ow.via n xs else bif Nat.beq f 61 then sn.via n xs else bif Nat.beq f 62 then fP.via n xs else bif Nat.beq f 63 then dI.via n xs else λ_=>none
theorem jz.c8{R:Type}(n:Nat):dt (R:=R) Tryz.prog (jz.C n):=λ_ xs=>cR (ow.cO n xs) (cR (sn.cO n xs) (cR (fP.cO n xs) (cR (dI.cO n xs) (cT.none))))
def jz.cut(r:Nat):Option dP:=match r with | 5=>some ⟨[0,2,5,6,7],[(5,none,⟨false,109,false⟩,18)]⟩ | 10=>some ⟨[2,6],[]⟩ | _=>none
noncomputable def jz.t (z:jz.Z):List Item:=(dL (match z with | .z5 _ _ _ _=>5 | .dk _=>10) 1000 [.code (Tryz.f20.body.getD .skip)]).getD []
def jz.s:jz.Z->St
 | .z5 z1 z2 z3 z4=>⟨fx 74 0 [(0,vs z1),(2,.ptr 0 0),(5,.own 1 0 none),(6,vi z2),(7,vi z3)],Mem.ofList [.box 26 [.v (.slice none 0 0),.v (.slice none 0 0),.v (.slice none 0 0)],.row ⟨false,109,false⟩ 18 z4],2⟩
 | .dk z1=>⟨fx 74 0 [(2,.ptr 0 0),(6,vi z1)],Mem.ofList [.box 26 [.v (.slice none 0 0),.v (.slice none 0 0),.v (.slice none 0 0)]],1⟩
def jz.r5(n:Nat)(c:jz.Z->Option (List AV × List AV × List AV × Int × Int))(z1:ByteArray)(z2 z3:Int)(z4:List AV):Option (List AV × List AV × List AV × Int × Int):=
 let y2:Bool:=decide (z2<((z1.size:Nat):Int))
 bif y2 then(bif decide ((0:Int)<=z2)&&decide ((z2:Int)<=((z1.size:Nat):Int))then(let y3:ByteArray:=z1.extract (z2).toNat z1.size
 (ow.F n y3 (⟨#[59,10]⟩:ByteArray)).bind λp4=>
 let y5:Int:=IntKind.i64.wrap (z2+((p4.1.size:Nat):Int))
 bif decide ((0:Int)<=y5)&&decide ((y5:Int)<=((z1.size:Nat):Int))then(let y6:ByteArray:=z1.extract (y5).toNat z1.size
 (sn.F n y6 (⟨#[59,10]⟩:ByteArray)).bind λp7=>
 (fP.F n p4.1).bind λp8=>
 bif !p8.2.2.2.2.2.2.2.2.2.2.2.2.2.2.2.2.2.2 then(c (.dk z2))else(bif !p7 then(c (.dk z2))else(bif decide (p8.2.1<z3)then(c (.dk z2))else(let y9:List AV:=[AV.agg [vi z2,vi p8.2.1,vs p8.2.2.1,vi p8.2.2.2.1,vi p8.2.2.2.2.1,vi p8.2.2.2.2.2.1,vi p8.2.2.2.2.2.2.1,vi p8.2.2.2.2.2.2.2.1,vs p8.2.2.2.2.2.2.2.2.1,vs p8.2.2.2.2.2.2.2.2.2.1,vi p8.2.2.2.2.2.2.2.2.2.2.1,vi p8.2.2.2.2.2.2.2.2.2.2.2.1,vi p8.2.2.2.2.2.2.2.2.2.2.2.2.1,.sl ⟨true,9,false⟩ 1 p8.2.2.2.2.2.2.2.2.2.2.2.2.2.1,vi p8.2.2.2.2.2.2.2.2.2.2.2.2.2.2.1,vi p8.2.2.2.2.2.2.2.2.2.2.2.2.2.2.2.1,vi p8.2.2.2.2.2.2.2.2.2.2.2.2.2.2.2.2.1,vi p8.2.2.2.2.2.2.2.2.2.2.2.2.2.2.2.2.2.1]]
 bif decide (z4.length+y9.length<=fe)then(let nh:Int:=IntKind.i64.wrap (((p4.1.size:Nat):Int)+2)
 c (.z5 z1 (IntKind.i64.wrap (z2+nh)) p8.2.1 (z4++y9)))else none))))else none)else none)else((dI.F n z4).bind λln=>
 some (ln.1,ln.2.1,ln.2.2.1,ln.2.2.2.1,ln.2.2.2.2))
def jz.E4(n:Nat)(c:jz.Z->Option (List AV × List AV × List AV × Int × Int))(z1:Int):Option (List AV × List AV × List AV × Int × Int):=
 some ([],[],[],z1,8)
def jz.r(n:Nat)(c:jz.Z->Option (List AV × List AV × List AV × Int × Int)):jz.Z->Option (List AV × List AV × List AV × Int × Int)
 | .z5 z1 z2 z3 z4=>jz.r5 n c z1 z2 z3 z4
 | .dk z1=>jz.E4 n c z1
def jz.e(n:Nat)(c:jz.Z->Option (List AV × List AV × List AV × Int × Int))(a0:ByteArray):Option (List AV × List AV × List AV × Int × Int):=
 let y1:Bool:=decide (((a0.size:Nat):Int)>6000)
 bif y1 then(some ([],[],[],0,2))else(c (.z5 a0 0 1 []))
def jz.E(n:Nat)(c:jz.Z->Option (List AV × List AV × List AV × Int × Int)):er.A->Option dI.T:=λa0=>jz.e n c a0
def jz.l(n:Nat):Nat->jz.Z->Option (List AV × List AV × List AV × Int × Int):=ez (jz.r n)
def jz.F(n:Nat)(a0:ByteArray):Option (List AV × List AV × List AV × Int × Int):=jz.e n (jz.l n n) a0
def jz.FA(n:Nat):er.A->Option dI.T:=jz.E n (jz.l n n)
theorem jz.cW(n:Nat):∀a p,jz.FA n a=some p->dc Tryz.prog 20 (er.i a) (dI.p p):=lN jz.cut jz.t jz.s (jz.E n) (jz.r n) cfg mixed dB dI.qi (jz.c8 n) Tryz.func20
def jz.via{R:Type}(n:Nat):List AV->(AV->Option R)->Option R:=d_ (jz.FA n) er.o dI.p
theorem jz.cO{R:Type}(n:Nat)(xs:List AV):cT (R:=R) Tryz.prog 20 xs (jz.via n xs):=c7 er.oi (λa=>by kernel_rfl) (jz.cW n) xs
def jT.C{R:Type}(n:Nat)(f:FuncId)(xs:List AV):(AV->Option R)->Option R:=
 λ_=>none
theorem jT.c8{R:Type}(n:Nat):dt (R:=R) Tryz.prog (jT.C n):=λ_ xs=>cT.none
def jT.cut(r:Nat):Option dP:=match r with  | _=>none
def jT.e(n:Nat)(a0 a1 a2:Int):Option Bool:=
 bif decide (a1<=a0)then(some (decide (a0<=a2)))else(some false)
def jT.E(n:Nat):ee.A->Option ee.T:=fun(a0,a1,a2)=>jT.e n a0 a1 a2
def jT.F(n:Nat)(a0 a1 a2:Int):Option Bool:=jT.e n a0 a1 a2
def jT.FA(n:Nat):ee.A->Option ee.T:=jT.E n
theorem jT.cW(n:Nat):∀a p,jT.FA n a=some p->dc Tryz.prog 27 (ee.i a) (ee.p p):=gp jT.cut (jT.E n) cfg mixed dB ee.qi (jT.c8 n) Tryz.func27
def jT.via{R:Type}(n:Nat):List AV->(AV->Option R)->Option R:=d_ (jT.FA n) ee.o ee.p
theorem jT.cO{R:Type}(n:Nat)(xs:List AV):cT (R:=R) Tryz.prog 27 xs (jT.via n xs):=c7 ee.oi (λa=>by kernel_rfl) (jT.cW n) xs
abbrev iO.A:=List AV × List AV × List AV × ByteArray
def iO.i:iO.A->List AV:=fun(a0,a1,a2,a3)=>[AV.agg [.sl ⟨true,74,false⟩ 10 a0,.sl ⟨false,86,false⟩ 2 a1,.sl ⟨true,82,false⟩ 4 a2],vs a3]
def iO.o(xs:List AV):Option iO.A:=match xs with | [.agg [.sl ⟨true,74,false⟩ 10 a0,.sl ⟨false,86,false⟩ 2 a1,.sl ⟨true,82,false⟩ 4 a2],.v (.string a3)]=>some (a0,a1,a2,a3) | _=>none
theorem iO.oi:∀xs a,iO.o xs=some a->xs=iO.i a:=by
 intro xs a h;unfold iO.o at h;split at h
 ·cases h;rfl
 ·cases h
inductive iO.Z where
 | z2 (z1:ByteArray) (z2:Int) (z3 z4 z5:List AV)
def iO.C{R:Type}(n:Nat)(f:FuncId)(xs:List AV):(AV->Option R)->Option R:=
 λ_=>none
theorem iO.c8{R:Type}(n:Nat):dt (R:=R) Tryz.prog (iO.C n):=λ_ xs=>cT.none
def iO.cut(r:Nat):Option dP:=match r with | 2=>some ⟨[1,2,5],[]⟩ | _=>none
noncomputable def iO.t (z:iO.Z):List Item:=(dL (match z with | .z2 _ _ _ _ _=>2) 1000 [.code (Tryz.f26.body.getD .skip)]).getD []
def iO.s:iO.Z->St
 | .z2 z1 z2 z3 z4 z5=>⟨fx 22 0 [(1,vs z1),(2,.ptr 0 0),(5,vi z2)],Mem.ofList [.box 26 [.sl ⟨true,74,false⟩ 10 z3,.sl ⟨false,86,false⟩ 2 z4,.sl ⟨true,82,false⟩ 4 z5]],1⟩
def iO.r2(n:Nat)(c:iO.Z->Option Int)(z1:ByteArray)(z2:Int)(z3 z4 z5:List AV):Option Int:=
 let y1:Bool:=decide (z2<((z3.length:Nat):Int))
 bif y1 then(bif decide ((0:Int)<=z2)&&decide (z2<((z3.length:Nat):Int))then(cN ((z3.getD ((z2).toNat) .undef).cells) λh2 r3=>
 df h2 λs4=>
 bif s4.toList==z1.toList then(some z2)else(c (.z2 z1 (IntKind.i64.wrap (z2+1)) z3 z4 z5)))else none)else(some (-1))
def iO.r(n:Nat)(c:iO.Z->Option Int):iO.Z->Option Int
 | .z2 z1 z2 z3 z4 z5=>iO.r2 n c z1 z2 z3 z4 z5
def iO.e(n:Nat)(c:iO.Z->Option Int)(a0 a1 a2:List AV)(a3:ByteArray):Option Int:=
 c (.z2 a3 0 a0 a1 a2)
def iO.E(n:Nat)(c:iO.Z->Option Int):iO.A->Option dU.T:=fun(a0,a1,a2,a3)=>iO.e n c a0 a1 a2 a3
def iO.l(n:Nat):Nat->iO.Z->Option Int:=ez (iO.r n)
def iO.F(n:Nat)(a0 a1 a2:List AV)(a3:ByteArray):Option Int:=iO.e n (iO.l n n) a0 a1 a2 a3
def iO.FA(n:Nat):iO.A->Option dU.T:=iO.E n (iO.l n n)
theorem iO.cW(n:Nat):∀a p,iO.FA n a=some p->dc Tryz.prog 26 (iO.i a) (dU.p p):=lN iO.cut iO.t iO.s (iO.E n) (iO.r n) cfg mixed dB dU.qi (iO.c8 n) Tryz.func26
def iO.via{R:Type}(n:Nat):List AV->(AV->Option R)->Option R:=d_ (iO.FA n) iO.o dU.p
theorem iO.cO{R:Type}(n:Nat)(xs:List AV):cT (R:=R) Tryz.prog 26 xs (iO.via n xs):=c7 iO.oi (λa=>by kernel_rfl) (iO.cW n) xs
abbrev lU.A:=Bool
def lU.i:lU.A->List AV:=λa0=>[vb a0]
def lU.o(xs:List AV):Option lU.A:=match xs with | [.v (.bool a0)]=>some a0 | _=>none
theorem lU.oi:∀xs a,lU.o xs=some a->xs=lU.i a:=by
 intro xs a h;unfold lU.o at h;split at h
 ·cases h;rfl
 ·cases h
def lU.C{R:Type}(n:Nat)(f:FuncId)(xs:List AV):(AV->Option R)->Option R:=
 λ_=>none
theorem lU.c8{R:Type}(n:Nat):dt (R:=R) Tryz.prog (lU.C n):=λ_ xs=>cT.none
def lU.cut(r:Nat):Option dP:=match r with  | _=>none
def lU.e(n:Nat)(a0:Bool):Option Int:=
 bif a0 then(some 1)else(some 0)
def lU.E(n:Nat):lU.A->Option dU.T:=λa0=>lU.e n a0
def lU.F(n:Nat)(a0:Bool):Option Int:=lU.e n a0
def lU.FA(n:Nat):lU.A->Option dU.T:=lU.E n
theorem lU.cW(n:Nat):∀a p,lU.FA n a=some p->dc Tryz.prog 76 (lU.i a) (dU.p p):=gp lU.cut (lU.E n) cfg mixed dB dU.qi (lU.c8 n) Tryz.func76
def lU.via{R:Type}(n:Nat):List AV->(AV->Option R)->Option R:=d_ (lU.FA n) lU.o dU.p
theorem lU.cO{R:Type}(n:Nat)(xs:List AV):cT (R:=R) Tryz.prog 76 xs (lU.via n xs):=c7 lU.oi (λa=>by kernel_rfl) (lU.cW n) xs
def q9.C{R:Type}(n:Nat)(f:FuncId)(xs:List AV):(AV->Option R)->Option R:=
 bif Nat.beq f 76 then lU.via n xs else λ_=>none
theorem q9.c8{R:Type}(n:Nat):dt (R:=R) Tryz.prog (q9.C n):=λ_ xs=>cR (lU.cO n xs) (cT.none)
def q9.cut(r:Nat):Option dP:=match r with  | _=>none
def q9.e(n:Nat)(a0 a1 a2:Int):Option Int:=
 bif a0==1 then(let y1:Int:=IntKind.i64.wrap (Int.tdiv a1 2)
 some (IntKind.i64.wrap (y1+1)))else(bif a0==3 then((lU.F n (a1==9)).bind λp2=>
 let y3:Int:=IntKind.i64.wrap ((2:Int)*p2)
 let y4:Int:=IntKind.i64.wrap ((2:Int)+y3)
 some y4)else(bif a0==4 then(some 16)else(some a1)))
def q9.E(n:Nat):gj.A->Option dU.T:=fun(a0,a1,a2)=>q9.e n a0 a1 a2
def q9.F(n:Nat)(a0 a1 a2:Int):Option Int:=q9.e n a0 a1 a2
def q9.FA(n:Nat):gj.A->Option dU.T:=q9.E n
theorem q9.cW(n:Nat):∀a p,q9.FA n a=some p->dc Tryz.prog 35 (gj.i a) (dU.p p):=gp q9.cut (q9.E n) cfg mixed dB dU.qi (q9.c8 n) Tryz.func35
def q9.via{R:Type}(n:Nat):List AV->(AV->Option R)->Option R:=d_ (q9.FA n) gj.o dU.p
theorem q9.cO{R:Type}(n:Nat)(xs:List AV):cT (R:=R) Tryz.prog 35 xs (q9.via n xs):=c7 gj.oi (λa=>by kernel_rfl) (q9.cW n) xs
inductive ix.Z where
 | z4 (z1 z2:Int) (z3 z4 z5 z6:List AV)
 | dp (z1 z2:Int) (z3 z4 z5 z6:List AV)
 | dJ (z1 z2:Int) (z3 z4 z5 z6:List AV)
def ix.C{R:Type}(n:Nat)(f:FuncId)(xs:List AV):(AV->Option R)->Option R:=
 bif Nat.beq f 26 then iO.via n xs else bif Nat.beq f 35 then q9.via n xs else λ_=>none
theorem ix.c8{R:Type}(n:Nat):dt (R:=R) Tryz.prog (ix.C n):=λ_ xs=>cR (iO.cO n xs) (cR (q9.cO n xs) (cT.none))
def ix.cut(r:Nat):Option dP:=match r with | 4=>some ⟨[1,4,5,6],[]⟩ | 11=>some ⟨[1,4,5,7],[]⟩ | 18=>some ⟨[1,4,5,9],[]⟩ | _=>none
noncomputable def ix.t (z:ix.Z):List Item:=(dL (match z with | .z4 _ _ _ _ _ _=>4 | .dp _ _ _ _ _ _=>11 | .dJ _ _ _ _ _ _=>18) 1000 [.code (Tryz.f32.body.getD .skip)]).getD []
def ix.s:ix.Z->St
 | .z4 z1 z2 z3 z4 z5 z6=>⟨fx 95 0 [(1,.ptr 0 0),(4,.own 1 0 none),(5,vi z1),(6,vi z2)],Mem.ofList [.box 26 [.sl ⟨true,74,false⟩ 10 z3,.sl ⟨false,86,false⟩ 2 z4,.sl ⟨true,82,false⟩ 4 z5],.row ⟨true,3,false⟩ 1 z6],2⟩
 | .dp z1 z2 z3 z4 z5 z6=>⟨fx 95 0 [(1,.ptr 0 0),(4,.own 1 0 none),(5,vi z1),(7,vi z2)],Mem.ofList [.box 26 [.sl ⟨true,74,false⟩ 10 z3,.sl ⟨false,86,false⟩ 2 z4,.sl ⟨true,82,false⟩ 4 z5],.row ⟨true,3,false⟩ 1 z6],2⟩
 | .dJ z1 z2 z3 z4 z5 z6=>⟨fx 95 0 [(1,.ptr 0 0),(4,.own 1 0 none),(5,vi z1),(9,vi z2)],Mem.ofList [.box 26 [.sl ⟨true,74,false⟩ 10 z3,.sl ⟨false,86,false⟩ 2 z4,.sl ⟨true,82,false⟩ 4 z5],.row ⟨true,3,false⟩ 1 z6],2⟩
def ix.r4(n:Nat)(c:ix.Z->Option (List AV × Int))(z1 z2:Int)(z3 z4 z5 z6:List AV):Option (List AV × Int):=
 let y2:Bool:=decide (z2<((z3.length:Nat):Int))
 bif y2 then(bif decide ((0:Int)<=z2)&&decide (z2<((z6.length:Nat):Int))then(let y3:List AV:=z6.set ((z2).toNat) (vi (-1))
 bif decide ((0:Int)<=z2)&&decide (z2<((z3.length:Nat):Int))then(cN (((z3.getD ((z2).toNat) .undef).cells).drop 1) λh4 r5=>
 cQ .i64 h4 λx6=>
 bif x6==3 then(bif decide ((0:Int)<=z2)&&decide (z2<((y3.length:Nat):Int))then(c (.z4 (IntKind.i64.wrap (z1+16)) (IntKind.i64.wrap (z2+1)) z3 z4 z5 (y3.set ((z2).toNat) (vi z1))))else none)else(c (.z4 z1 (IntKind.i64.wrap (z2+1)) z3 z4 z5 y3)))else none)else none)else(c (.dp z1 0 z3 z4 z5 z6))
def ix.vN(n:Nat)(c:ix.Z->Option (List AV × Int))(z1 z2:Int)(z3 z4 z5 z6:List AV):Option (List AV × Int):=
 let y7:Bool:=decide (z2<((z3.length:Nat):Int))
 bif y7 then(bif decide ((0:Int)<=z2)&&decide (z2<((z3.length:Nat):Int))then(cN ((z3.getD ((z2).toNat) .undef).cells) λh8 r9=>
 df h8 λs10=>
 cN r9 λGW ry=>
 cQ .i64 GW λM9=>
 cN ry λEl qX=>
 cQ .i64 El λK6=>
 cN qX λCw sE=>
 cQ .i64 Cw λA9=>
 cN sE λCv qw=>
 cQ .i64 Cv λHI=>
 cN qw λCu qW=>
 cQ .i64 Cu λM8=>
 cN qW λCt yj=>
 df Ct λX7=>
 cN yj λKe Ns=>
 df Ke λX6=>
 cN Ns λMA Qk=>
 cQ .i64 MA λXW=>
 cN Qk λPF zW=>
 cQ .i64 PF λQ4=>
 bif M9==0 then(bif decide ((0:Int)<=z2)&&decide (z2<((z6.length:Nat):Int))then((q9.F n K6 A9 HI).bind λVK=>
 c (.dp (IntKind.i64.wrap (z1+VK)) (IntKind.i64.wrap (z2+1)) z3 z4 z5 (z6.set ((z2).toNat) (vi z1))))else none)else(c (.dp z1 (IntKind.i64.wrap (z2+1)) z3 z4 z5 z6)))else none)else(c (.dJ z1 0 z3 z4 z5 z6))
def ix.sE(n:Nat)(c:ix.Z->Option (List AV × Int))(z1 z2:Int)(z3 z4 z5 z6:List AV):Option (List AV × Int):=
 let Zh:Bool:=decide (z2<((z3.length:Nat):Int))
 bif Zh then(bif decide ((0:Int)<=z2)&&decide (z2<((z3.length:Nat):Int))then(cN ((z3.getD ((z2).toNat) .undef).cells) λGU Qj=>
 df GU λX5=>
 cN Qj λPE Qi=>
 cQ .i64 PE λIi=>
 cN Qi λoD OK=>
 cQ .i64 oD λP_=>
 cN OK λPC OI=>
 cQ .i64 PC λP9=>
 cN OI λPA Qh=>
 cQ .i64 PA λP8=>
 cN Qh λPy Qg=>
 cQ .i64 Py λQ0=>
 cN Qg λSG Rp=>
 df SG λs60=>
 cN Rp λSF Ro=>
 df SF λVa=>
 cN Ro λSC Rm=>
 cQ .i64 SC λQZ=>
 cN Rm λPw TP=>
 cQ .i64 Pw λP7=>
 bif Ii==1 then((iO.F n z3 z4 z5 Va).bind λVC=>
 bif decide ((0:Int)<=VC)&&decide (VC<((z6.length:Nat):Int))then(cN ((z6.getD ((VC).toNat) .undef).cells) λPv TO=>
 cQ .i64 Pv λEN=>
 bif decide ((0:Int)<=z2)&&decide (z2<((z6.length:Nat):Int))then(let Y_:List AV:=z6.set ((z2).toNat) (vi (IntKind.i64.wrap (EN+QZ)))
 c (.dJ z1 (IntKind.i64.wrap (z2+1)) z3 z4 z5 Y_))else none)else none)else(c (.dJ z1 (IntKind.i64.wrap (z2+1)) z3 z4 z5 z6)))else none)else(let Y9:Int:=IntKind.i64.wrap ((IntKind.i64.wrap (z1+16)) - 1)
 let Y8:Int:=IntKind.i64.wrap (Int.tdiv Y9 16)
 some (z6,Y8))
def ix.r(n:Nat)(c:ix.Z->Option (List AV × Int)):ix.Z->Option (List AV × Int)
 | .z4 z1 z2 z3 z4 z5 z6=>ix.r4 n c z1 z2 z3 z4 z5 z6
 | .dp z1 z2 z3 z4 z5 z6=>ix.vN n c z1 z2 z3 z4 z5 z6
 | .dJ z1 z2 z3 z4 z5 z6=>ix.sE n c z1 z2 z3 z4 z5 z6
def ix.e(n:Nat)(c:ix.Z->Option (List AV × Int))(a0 a1 a2:List AV):Option (List AV × Int):=
 bif(decide ((0:Int)<=((a0.length:Nat):Int))&&decide ((((a0.length:Nat):Int):Int)<=fe))&&decide ((((a0.length:Nat):Int):Int)=((a0.length:Nat):Int))&&true&&true then(let y1:List AV:=List.replicate (((a0.length:Nat):Int)).toNat (vi 0)
 c (.z4 0 0 a0 a1 a2 y1))else none
def ix.E(n:Nat)(c:ix.Z->Option (List AV × Int)):eP.A->Option fO.T:=fun(a0,a1,a2)=>ix.e n c a0 a1 a2
def ix.l(n:Nat):Nat->ix.Z->Option (List AV × Int):=ez (ix.r n)
def ix.F(n:Nat)(a0 a1 a2:List AV):Option (List AV × Int):=ix.e n (ix.l n n) a0 a1 a2
def ix.FA(n:Nat):eP.A->Option fO.T:=ix.E n (ix.l n n)
theorem ix.cW(n:Nat):∀a p,ix.FA n a=some p->dc Tryz.prog 32 (eP.i a) (fO.p p):=lN ix.cut ix.t ix.s (ix.E n) (ix.r n) cfg mixed dB fO.qi (ix.c8 n) Tryz.func32
def ix.via{R:Type}(n:Nat):List AV->(AV->Option R)->Option R:=d_ (ix.FA n) eP.o fO.p
theorem ix.cO{R:Type}(n:Nat)(xs:List AV):cT (R:=R) Tryz.prog 32 xs (ix.via n xs):=c7 eP.oi (λa=>by kernel_rfl) (ix.cW n) xs
def ug.C{R:Type}(n:Nat)(f:FuncId)(xs:List AV):(AV->Option R)->Option R:=
 λ_=>none
theorem ug.c8{R:Type}(n:Nat):dt (R:=R) Tryz.prog (ug.C n):=λ_ xs=>cT.none
def ug.cut(r:Nat):Option dP:=match r with  | _=>none
def ug.e(n:Nat)(a0:Int):Option Bool:=
 bif decide ((65:Int)<=a0)then(some (decide (a0<=90)))else(some false)
def ug.E(n:Nat):mi.A->Option ee.T:=λa0=>ug.e n a0
def ug.F(n:Nat)(a0:Int):Option Bool:=ug.e n a0
def ug.FA(n:Nat):mi.A->Option ee.T:=ug.E n
theorem ug.cW(n:Nat):∀a p,ug.FA n a=some p->dc Tryz.prog 138 (mi.i a) (ee.p p):=gp ug.cut (ug.E n) cfg mixed dB ee.qi (ug.c8 n) Tryz.func138
def ug.via{R:Type}(n:Nat):List AV->(AV->Option R)->Option R:=d_ (ug.FA n) mi.o ee.p
theorem ug.cO{R:Type}(n:Nat)(xs:List AV):cT (R:=R) Tryz.prog 138 xs (ug.via n xs):=c7 mi.oi (λa=>by kernel_rfl) (ug.cW n) xs
def oM.C{R:Type}(n:Nat)(f:FuncId)(xs:List AV):(AV->Option R)->Option R:=
 λ_=>none
theorem oM.c8{R:Type}(n:Nat):dt (R:=R) Tryz.prog (oM.C n):=λ_ xs=>cT.none
def oM.cut(r:Nat):Option dP:=match r with  | _=>none
def oM.e(n:Nat)(a0:Int):Option Bool:=
 bif decide ((48:Int)<=a0)then(some (decide (a0<=57)))else(some false)
def oM.E(n:Nat):mi.A->Option ee.T:=λa0=>oM.e n a0
def oM.F(n:Nat)(a0:Int):Option Bool:=oM.e n a0
def oM.FA(n:Nat):mi.A->Option ee.T:=oM.E n
theorem oM.cW(n:Nat):∀a p,oM.FA n a=some p->dc Tryz.prog 139 (mi.i a) (ee.p p):=gp oM.cut (oM.E n) cfg mixed dB ee.qi (oM.c8 n) Tryz.func139
def oM.via{R:Type}(n:Nat):List AV->(AV->Option R)->Option R:=d_ (oM.FA n) mi.o ee.p
theorem oM.cO{R:Type}(n:Nat)(xs:List AV):cT (R:=R) Tryz.prog 139 xs (oM.via n xs):=c7 mi.oi (λa=>by kernel_rfl) (oM.cW n) xs
inductive iF.Z where
 | z4 (z1:ByteArray) (z2:Int)
 | z5 (z1:ByteArray) (z2:Int)
 | z8 (z1:ByteArray) (z2 z3:Int) (z4:Bool)
def iF.C{R:Type}(n:Nat)(f:FuncId)(xs:List AV):(AV->Option R)->Option R:=
 bif Nat.beq f 27 then jT.via n xs else bif Nat.beq f 138 then ug.via n xs else bif Nat.beq f 139 then oM.via n xs else λ_=>none
theorem iF.c8{R:Type}(n:Nat):dt (R:=R) Tryz.prog (iF.C n):=λ_ xs=>cR (jT.cO n xs) (cR (ug.cO n xs) (cR (oM.cO n xs) (cT.none)))
def iF.cut(r:Nat):Option dP:=match r with | 4=>some ⟨[0,3],[]⟩ | 5=>some ⟨[0,3],[]⟩ | 8=>some ⟨[0,3,4,5],[]⟩ | _=>none
noncomputable def iF.t (z:iF.Z):List Item:=(dL (match z with | .z4 _ _=>4 | .z5 _ _=>5 | .z8 _ _ _ _=>8) 1000 [.code (Tryz.f87.body.getD .skip)]).getD []
def iF.s:iF.Z->St
 | .z4 z1 z2=>⟨fx 52 0 [(0,vs z1),(3,vi z2)],Mem.ofList [],0⟩
 | .z5 z1 z2=>⟨fx 52 0 [(0,vs z1),(3,vi z2)],Mem.ofList [],0⟩
 | .z8 z1 z2 z3 z4=>⟨fx 52 0 [(0,vs z1),(3,vi z2),(4,vu z3),(5,vb z4)],Mem.ofList [],0⟩
def iF.r4(n:Nat)(c:iF.Z->Option Bool)(z1:ByteArray)(z2:Int):Option Bool:=
 let y2:Bool:=decide (z2<((z1.size:Nat):Int))
 bif y2 then(bif decide ((0:Int)<=z2)&&decide (z2<((z1.size:Nat):Int))then(let y3:Int:=(((z1.data.getD ((z2).toNat) 0).toNat:Nat):Int)
 (ug.F n y3).bind λp4=>
 bif p4 then(c (.z8 z1 z2 y3 true))else(bif y3==36 then(c (.z8 z1 z2 y3 true))else(bif y3==35 then(c (.z8 z1 z2 y3 true))else(c (.z8 z1 z2 y3 (y3==64))))))else none)else(some true)
def iF.r5(n:Nat)(c:iF.Z->Option Bool)(z1:ByteArray)(z2:Int):Option Bool:=
 c (.z4 z1 (IntKind.i64.wrap (z2+1)))
def iF.r8(n:Nat)(c:iF.Z->Option Bool)(z1:ByteArray)(z2 z3:Int)(z4:Bool):Option Bool:=
 bif !z4 then(bif z2==0 then(some false)else((oM.F n z3).bind λp5=>
 bif !p5 then(bif z3 != 95 then(bif z3 != 46 then(some false)else(c (.z5 z1 z2)))else(c (.z5 z1 z2)))else(c (.z5 z1 z2))))else(c (.z5 z1 z2))
def iF.r(n:Nat)(c:iF.Z->Option Bool):iF.Z->Option Bool
 | .z4 z1 z2=>iF.r4 n c z1 z2
 | .z5 z1 z2=>iF.r5 n c z1 z2
 | .z8 z1 z2 z3 z4=>iF.r8 n c z1 z2 z3 z4
def iF.e(n:Nat)(c:iF.Z->Option Bool)(a0:ByteArray):Option Bool:=
 (jT.F n ((a0.size:Nat):Int) 1 10).bind λp1=>
 bif !p1 then(some false)else(c (.z4 a0 0))
def iF.E(n:Nat)(c:iF.Z->Option Bool):er.A->Option ee.T:=λa0=>iF.e n c a0
def iF.l(n:Nat):Nat->iF.Z->Option Bool:=ez (iF.r n)
def iF.F(n:Nat)(a0:ByteArray):Option Bool:=iF.e n (iF.l n n) a0
def iF.FA(n:Nat):er.A->Option ee.T:=iF.E n (iF.l n n)
theorem iF.cW(n:Nat):∀a p,iF.FA n a=some p->dc Tryz.prog 87 (er.i a) (ee.p p):=lN iF.cut iF.t iF.s (iF.E n) (iF.r n) cfg mixed dB ee.qi (iF.c8 n) Tryz.func87
def iF.via{R:Type}(n:Nat):List AV->(AV->Option R)->Option R:=d_ (iF.FA n) er.o ee.p
theorem iF.cO{R:Type}(n:Nat)(xs:List AV):cT (R:=R) Tryz.prog 87 xs (iF.via n xs):=c7 er.oi (λa=>by kernel_rfl) (iF.cW n) xs
inductive kl.Z where
 | z5 (z1:Bool) (z2:ByteArray) (z3 z4 z5 z6 z7:Int) (z8 z9:ByteArray) (dk dp:Int)
 | z8 (z1:Bool) (z2:ByteArray) (z3 z4 z5 z6 z7:Int) (z8 z9:ByteArray) (dk dp:Int)
def kl.C{R:Type}(n:Nat)(f:FuncId)(xs:List AV):(AV->Option R)->Option R:=
 λ_=>none
theorem kl.c8{R:Type}(n:Nat):dt (R:=R) Tryz.prog (kl.C n):=λ_ xs=>cT.none
def kl.cut(r:Nat):Option dP:=match r with | 5=>some ⟨[1,4],[]⟩ | 8=>some ⟨[1,3],[]⟩ | _=>none
noncomputable def kl.t (z:kl.Z):List Item:=(dL (match z with | .z5 _ _ _ _ _ _ _ _ _ _ _=>5 | .z8 _ _ _ _ _ _ _ _ _ _ _=>8) 1000 [.code (Tryz.f88.body.getD .skip)]).getD []
def kl.s:kl.Z->St
 | .z5 z1 z2 z3 z4 z5 z6 z7 z8 z9 dk dp=>⟨fx 70 0 [(1,.ptr 0 0),(4,vb z1)],Mem.ofList [.box 74 [vs z2,vi z3,vi z4,vi z5,vi z6,vi z7,vs z8,vs z9,vi dk,vi dp]],1⟩
 | .z8 z1 z2 z3 z4 z5 z6 z7 z8 z9 dk dp=>⟨fx 70 0 [(1,.ptr 0 0),(3,vb z1)],Mem.ofList [.box 74 [vs z2,vi z3,vi z4,vi z5,vi z6,vi z7,vs z8,vs z9,vi dk,vi dp]],1⟩
def kl.r5(n:Nat)(c:kl.Z->Option Bool)(z1:Bool)(z2:ByteArray)(z3 z4 z5 z6 z7:Int)(z8 z9:ByteArray)(dk dp:Int):Option Bool:=
 bif !z1 then(some true)else(some (dp != 0))
def kl.r8(n:Nat)(c:kl.Z->Option Bool)(z1:Bool)(z2:ByteArray)(z3 z4 z5 z6 z7:Int)(z8 z9:ByteArray)(dk dp:Int):Option Bool:=
 bif !z1 then(some true)else(some (dp != 0))
def kl.r(n:Nat)(c:kl.Z->Option Bool):kl.Z->Option Bool
 | .z5 z1 z2 z3 z4 z5 z6 z7 z8 z9 dk dp=>kl.r5 n c z1 z2 z3 z4 z5 z6 z7 z8 z9 dk dp
 | .z8 z1 z2 z3 z4 z5 z6 z7 z8 z9 dk dp=>kl.r8 n c z1 z2 z3 z4 z5 z6 z7 z8 z9 dk dp
def kl.e(n:Nat)(c:kl.Z->Option Bool)(a0:ByteArray)(a1 a2 a3 a4 a5:Int)(a6 a7:ByteArray)(a8 a9:Int):Option Bool:=
 let y1:Bool:=((a5==0)&&((a6==(⟨#[]⟩:ByteArray))&&true))
 let y2:Bool:=a7.toList==(⟨#[]⟩:ByteArray).toList
 bif y2 then(bif a1==0 then(c (.z5 (a8==0) a0 a1 a2 a3 a4 a5 a6 a7 a8 a9))else(bif a1==4 then(c (.z5 (a8==0) a0 a1 a2 a3 a4 a5 a6 a7 a8 a9))else(bif a1==1 then(c (.z8 y1 a0 a1 a2 a3 a4 a5 a6 a7 a8 a9))else(bif a1==2 then(c (.z8 y1 a0 a1 a2 a3 a4 a5 a6 a7 a8 a9))else(bif a1==3 then(let y3:Bool:=!((a2==0)&&((a3==0)&&((a4==0)&&true)))
 bif y3 then(some true)else(bif !y1 then(some true)else(bif !(a8==0)then(some true)else(some (a9 != 0)))))else(let y4:Bool:=!((a2==0)&&((a3==0)&&((a4==0)&&true)))
 bif y4 then(some true)else(bif !y1 then(some true)else(some (!(a8==0))))))))))else(bif a1==0 then(c (.z5 false a0 a1 a2 a3 a4 a5 a6 a7 a8 a9))else(bif a1==4 then(c (.z5 false a0 a1 a2 a3 a4 a5 a6 a7 a8 a9))else(bif a1==1 then(c (.z8 y1 a0 a1 a2 a3 a4 a5 a6 a7 a8 a9))else(bif a1==2 then(c (.z8 y1 a0 a1 a2 a3 a4 a5 a6 a7 a8 a9))else(bif a1==3 then(let y5:Bool:=!((a2==0)&&((a3==0)&&((a4==0)&&true)))
 bif y5 then(some true)else(bif !y1 then(some true)else(some true)))else(let y6:Bool:=!((a2==0)&&((a3==0)&&((a4==0)&&true)))
 bif y6 then(some true)else(bif !y1 then(some true)else(some true))))))))
def kl.E(n:Nat)(c:kl.Z->Option Bool):iZ.A->Option ee.T:=fun(a0,a1,a2,a3,a4,a5,a6,a7,a8,a9)=>kl.e n c a0 a1 a2 a3 a4 a5 a6 a7 a8 a9
def kl.l(n:Nat):Nat->kl.Z->Option Bool:=ez (kl.r n)
def kl.F(n:Nat)(a0:ByteArray)(a1 a2 a3 a4 a5:Int)(a6 a7:ByteArray)(a8 a9:Int):Option Bool:=kl.e n (kl.l n n) a0 a1 a2 a3 a4 a5 a6 a7 a8 a9
def kl.FA(n:Nat):iZ.A->Option ee.T:=kl.E n (kl.l n n)
theorem kl.cW(n:Nat):∀a p,kl.FA n a=some p->dc Tryz.prog 88 (iZ.i a) (ee.p p):=lN kl.cut kl.t kl.s (kl.E n) (kl.r n) cfg mixed dB ee.qi (kl.c8 n) Tryz.func88
def kl.via{R:Type}(n:Nat):List AV->(AV->Option R)->Option R:=d_ (kl.FA n) iZ.o ee.p
theorem kl.cO{R:Type}(n:Nat)(xs:List AV):cT (R:=R) Tryz.prog 88 xs (kl.via n xs):=c7 iZ.oi (λa=>by kernel_rfl) (kl.cW n) xs
def q7.C{R:Type}(n:Nat)(f:FuncId)(xs:List AV):(AV->Option R)->Option R:=
 λ_=>none
theorem q7.c8{R:Type}(n:Nat):dt (R:=R) Tryz.prog (q7.C n):=λ_ xs=>cT.none
def q7.cut(r:Nat):Option dP:=match r with  | _=>none
def q7.e(n:Nat)(a0:Int):Option Bool:=
 bif a0==0 then(some true)else(bif a0==1 then(some true)else(some (a0==2)))
def q7.E(n:Nat):fK.A->Option ee.T:=λa0=>q7.e n a0
def q7.F(n:Nat)(a0:Int):Option Bool:=q7.e n a0
def q7.FA(n:Nat):fK.A->Option ee.T:=q7.E n
theorem q7.cW(n:Nat):∀a p,q7.FA n a=some p->dc Tryz.prog 93 (fK.i a) (ee.p p):=gp q7.cut (q7.E n) cfg mixed dB ee.qi (q7.c8 n) Tryz.func93
def q7.via{R:Type}(n:Nat):List AV->(AV->Option R)->Option R:=d_ (q7.FA n) fK.o ee.p
theorem q7.cO{R:Type}(n:Nat)(xs:List AV):cT (R:=R) Tryz.prog 93 xs (q7.via n xs):=c7 fK.oi (λa=>by kernel_rfl) (q7.cW n) xs
def qT.C{R:Type}(n:Nat)(f:FuncId)(xs:List AV):(AV->Option R)->Option R:=
 bif Nat.beq f 93 then q7.via n xs else λ_=>none
theorem qT.c8{R:Type}(n:Nat):dt (R:=R) Tryz.prog (qT.C n):=λ_ xs=>cR (q7.cO n xs) (cT.none)
def qT.cut(r:Nat):Option dP:=match r with  | _=>none
def qT.e(n:Nat)(a0:Int):Option Bool:=
 (q7.F n a0).bind λp1=>
 bif p1 then(some true)else(some (a0==4))
def qT.E(n:Nat):fK.A->Option ee.T:=λa0=>qT.e n a0
def qT.F(n:Nat)(a0:Int):Option Bool:=qT.e n a0
def qT.FA(n:Nat):fK.A->Option ee.T:=qT.E n
theorem qT.cW(n:Nat):∀a p,qT.FA n a=some p->dc Tryz.prog 89 (fK.i a) (ee.p p):=gp qT.cut (qT.E n) cfg mixed dB ee.qi (qT.c8 n) Tryz.func89
def qT.via{R:Type}(n:Nat):List AV->(AV->Option R)->Option R:=d_ (qT.FA n) fK.o ee.p
theorem qT.cO{R:Type}(n:Nat)(xs:List AV):cT (R:=R) Tryz.prog 89 xs (qT.via n xs):=c7 fK.oi (λa=>by kernel_rfl) (qT.cW n) xs
def q8.C{R:Type}(n:Nat)(f:FuncId)(xs:List AV):(AV->Option R)->Option R:=
 bif Nat.beq f 27 then jT.via n xs else λ_=>none
theorem q8.c8{R:Type}(n:Nat):dt (R:=R) Tryz.prog (q8.C n):=λ_ xs=>cR (jT.cO n xs) (cT.none)
def q8.cut(r:Nat):Option dP:=match r with  | _=>none
def q8.e(n:Nat)(a0:Int):Option Bool:=
 (jT.F n a0 1 3).bind λp1=>
 some p1
def q8.E(n:Nat):fK.A->Option ee.T:=λa0=>q8.e n a0
def q8.F(n:Nat)(a0:Int):Option Bool:=q8.e n a0
def q8.FA(n:Nat):fK.A->Option ee.T:=q8.E n
theorem q8.cW(n:Nat):∀a p,q8.FA n a=some p->dc Tryz.prog 140 (fK.i a) (ee.p p):=gp q8.cut (q8.E n) cfg mixed dB ee.qi (q8.c8 n) Tryz.func140
def q8.via{R:Type}(n:Nat):List AV->(AV->Option R)->Option R:=d_ (q8.FA n) fK.o ee.p
theorem q8.cO{R:Type}(n:Nat)(xs:List AV):cT (R:=R) Tryz.prog 140 xs (q8.via n xs):=c7 fK.oi (λa=>by kernel_rfl) (q8.cW n) xs
inductive lh.Z where
 | z12 (z1:Bool) (z2 z3 z4:Int)
def lh.C{R:Type}(n:Nat)(f:FuncId)(xs:List AV):(AV->Option R)->Option R:=
 bif Nat.beq f 27 then jT.via n xs else bif Nat.beq f 76 then lU.via n xs else bif Nat.beq f 140 then q8.via n xs else λ_=>none
theorem lh.c8{R:Type}(n:Nat):dt (R:=R) Tryz.prog (lh.C n):=λ_ xs=>cR (jT.cO n xs) (cR (lU.cO n xs) (cR (q8.cO n xs) (cT.none)))
def lh.cut(r:Nat):Option dP:=match r with | 12=>some ⟨[1,3],[]⟩ | _=>none
noncomputable def lh.t (z:lh.Z):List Item:=(dL (match z with | .z12 _ _ _ _=>12) 1000 [.code (Tryz.f90.body.getD .skip)]).getD []
def lh.s:lh.Z->St
 | .z12 z1 z2 z3 z4=>⟨fx 49 0 [(1,.ptr 0 0),(3,vb z1)],Mem.ofList [.box 70 [vi z2,vi z3,vi z4]],1⟩
def lh.ry(n:Nat)(c:lh.Z->Option Int)(z1:Bool)(z2 z3 z4:Int):Option Int:=
 bif !z1 then(some 18)else((q8.F n z2).bind λp5=>
 bif p5 then((jT.F n z4 0 z3).bind λp6=>
 (lU.F n (!p6)).bind λp7=>
 let y8:Int:=IntKind.i64.wrap ((3:Int)*p7)
 some y8)else((jT.F n z4 0 0).bind λp9=>
 (lU.F n (!p9)).bind λku=>
 let pw:Int:=IntKind.i64.wrap ((3:Int)*ku)
 some pw))
def lh.r(n:Nat)(c:lh.Z->Option Int):lh.Z->Option Int
 | .z12 z1 z2 z3 z4=>lh.ry n c z1 z2 z3 z4
def lh.e(n:Nat)(c:lh.Z->Option Int)(a0 a1 a2:Int):Option Int:=
 (jT.F n a0 0 4).bind λp1=>
 bif !p1 then(some 4)else(bif a0==0 then((jT.F n a1 1 256).bind λp2=>
 c (.z12 p2 a0 a1 a2))else(bif a0==1 then((jT.F n a1 1 15).bind λp3=>
 c (.z12 p3 a0 a1 a2))else(bif a0==2 then((jT.F n a1 1 15).bind λp4=>
 c (.z12 p4 a0 a1 a2))else(bif a0==3 then(bif a1==4 then(c (.z12 true a0 a1 a2))else(c (.z12 (a1==9) a0 a1 a2)))else(c (.z12 (a1==0) a0 a1 a2))))))
def lh.E(n:Nat)(c:lh.Z->Option Int):gj.A->Option dU.T:=fun(a0,a1,a2)=>lh.e n c a0 a1 a2
def lh.l(n:Nat):Nat->lh.Z->Option Int:=ez (lh.r n)
def lh.F(n:Nat)(a0 a1 a2:Int):Option Int:=lh.e n (lh.l n n) a0 a1 a2
def lh.FA(n:Nat):gj.A->Option dU.T:=lh.E n (lh.l n n)
theorem lh.cW(n:Nat):∀a p,lh.FA n a=some p->dc Tryz.prog 90 (gj.i a) (dU.p p):=lN lh.cut lh.t lh.s (lh.E n) (lh.r n) cfg mixed dB dU.qi (lh.c8 n) Tryz.func90
def lh.via{R:Type}(n:Nat):List AV->(AV->Option R)->Option R:=d_ (lh.FA n) gj.o dU.p
theorem lh.cO{R:Type}(n:Nat)(xs:List AV):cT (R:=R) Tryz.prog 90 xs (lh.via n xs):=c7 gj.oi (λa=>by kernel_rfl) (lh.cW n) xs
inductive kW.Z where
 | z3 (z1 z2 z3:Int)
def kW.C{R:Type}(n:Nat)(f:FuncId)(xs:List AV):(AV->Option R)->Option R:=
 λ_=>none
theorem kW.c8{R:Type}(n:Nat):dt (R:=R) Tryz.prog (kW.C n):=λ_ xs=>cT.none
def kW.cut(r:Nat):Option dP:=match r with | 3=>some ⟨[0,3,4],[]⟩ | _=>none
noncomputable def kW.t (z:kW.Z):List Item:=(dL (match z with | .z3 _ _ _=>3) 1000 [.code (Tryz.f172.body.getD .skip)]).getD []
def kW.s:kW.Z->St
 | .z3 z1 z2 z3=>⟨fx 13 0 [(0,vi z1),(3,vi z2),(4,vi z3)],Mem.ofList [],0⟩
def kW.r3(n:Nat)(c:kW.Z->Option Int)(z1 z2 z3:Int):Option Int:=
 bif decide (z3<z1)then(c (.z3 z1 (IntKind.i64.wrap (z2*10)) (IntKind.i64.wrap (z3+1))))else(some z2)
def kW.r(n:Nat)(c:kW.Z->Option Int):kW.Z->Option Int
 | .z3 z1 z2 z3=>kW.r3 n c z1 z2 z3
def kW.e(n:Nat)(c:kW.Z->Option Int)(a0:Int):Option Int:=
 c (.z3 a0 1 0)
def kW.E(n:Nat)(c:kW.Z->Option Int):fK.A->Option dU.T:=λa0=>kW.e n c a0
def kW.l(n:Nat):Nat->kW.Z->Option Int:=ez (kW.r n)
def kW.F(n:Nat)(a0:Int):Option Int:=kW.e n (kW.l n n) a0
def kW.FA(n:Nat):fK.A->Option dU.T:=kW.E n (kW.l n n)
theorem kW.cW(n:Nat):∀a p,kW.FA n a=some p->dc Tryz.prog 172 (fK.i a) (dU.p p):=lN kW.cut kW.t kW.s (kW.E n) (kW.r n) cfg mixed dB dU.qi (kW.c8 n) Tryz.func172
def kW.via{R:Type}(n:Nat):List AV->(AV->Option R)->Option R:=d_ (kW.FA n) fK.o dU.p
theorem kW.cO{R:Type}(n:Nat)(xs:List AV):cT (R:=R) Tryz.prog 172 xs (kW.via n xs):=c7 fK.oi (λa=>by kernel_rfl) (kW.cW n) xs
def tu.C{R:Type}(n:Nat)(f:FuncId)(xs:List AV):(AV->Option R)->Option R:=
 bif Nat.beq f 172 then kW.via n xs else λ_=>none
theorem tu.c8{R:Type}(n:Nat):dt (R:=R) Tryz.prog (tu.C n):=λ_ xs=>cR (kW.cO n xs) (cT.none)
def tu.cut(r:Nat):Option dP:=match r with  | _=>none
def tu.e(n:Nat)(a0 a1 a2:Int):Option Int:=
 (kW.F n a1).bind λp1=>
 some (IntKind.i64.wrap (p1 - 1))
def tu.E(n:Nat):gj.A->Option dU.T:=fun(a0,a1,a2)=>tu.e n a0 a1 a2
def tu.F(n:Nat)(a0 a1 a2:Int):Option Int:=tu.e n a0 a1 a2
def tu.FA(n:Nat):gj.A->Option dU.T:=tu.E n
theorem tu.cW(n:Nat):∀a p,tu.FA n a=some p->dc Tryz.prog 141 (gj.i a) (dU.p p):=gp tu.cut (tu.E n) cfg mixed dB dU.qi (tu.c8 n) Tryz.func141
def tu.via{R:Type}(n:Nat):List AV->(AV->Option R)->Option R:=d_ (tu.FA n) gj.o dU.p
theorem tu.cO{R:Type}(n:Nat)(xs:List AV):cT (R:=R) Tryz.prog 141 xs (tu.via n xs):=c7 gj.oi (λa=>by kernel_rfl) (tu.cW n) xs
inductive km.Z where
 | z7
 | z8 (z1 z2 z3 z4:Int) (z5:ByteArray)
def km.C{R:Type}(n:Nat)(f:FuncId)(xs:List AV):(AV->Option R)->Option R:=
 bif Nat.beq f 27 then jT.via n xs else bif Nat.beq f 76 then lU.via n xs else bif Nat.beq f 90 then lh.via n xs else bif Nat.beq f 141 then tu.via n xs else λ_=>none
theorem km.c8{R:Type}(n:Nat):dt (R:=R) Tryz.prog (km.C n):=λ_ xs=>cR (jT.cO n xs) (cR (lU.cO n xs) (cR (lh.cO n xs) (cR (tu.cO n xs) (cT.none))))
def km.cut(r:Nat):Option dP:=match r with | 7=>some ⟨[],[]⟩ | 8=>some ⟨[2,3],[]⟩ | _=>none
noncomputable def km.t (z:km.Z):List Item:=(dL (match z with | .z7=>7 | .z8 _ _ _ _ _=>8) 1000 [.code (Tryz.f91.body.getD .skip)]).getD []
def km.s:km.Z->St
 | .z7=>⟨fx 54 0 [],Mem.ofList [],0⟩
 | .z8 z1 z2 z3 z4 z5=>⟨fx 54 0 [(2,.ptr 0 0),(3,.ptr 1 0)],Mem.ofList [.box 70 [vi z1,vi z2,vi z3],.box 72 [vi z4,vs z5]],2⟩
def km.r7(n:Nat)(c:km.Z->Option Int)  : Option Int:=
 some 5
def km.r8(n:Nat)(c:km.Z->Option Int)(z1 z2 z3 z4:Int)(z5:ByteArray):Option Int:=
 bif z1==0 then(let y4:Bool:=((z5.size:Nat):Int) != z2
 (lU.F n y4).bind λp5=>
 let y6:Int:=IntKind.i64.wrap ((18:Int)*p5)
 some y6)else((tu.F n z1 z2 z3).bind λp7=>
 (tu.F n z1 z2 z3).bind λp8=>
 (jT.F n z4 (IntKind.i64.wrap (0 - p7)) p8).bind λp9=>
 (lU.F n (!p9)).bind λku=>
 let pw:Int:=IntKind.i64.wrap ((19:Int)*ku)
 some pw)
def km.r(n:Nat)(c:km.Z->Option Int):km.Z->Option Int
 | .z7=>km.r7 n c
 | .z8 z1 z2 z3 z4 z5=>km.r8 n c z1 z2 z3 z4 z5
def km.e(n:Nat)(c:km.Z->Option Int)(a0 a1 a2 a3:Int)(a4:ByteArray):Option Int:=
 (lh.F n a0 a1 a2).bind λp1=>
 bif p1 != 0 then(some p1)else(bif a0==4 then(some 17)else(bif a0==0 then(bif a3 != 0 then(c .z7)else(bif a0 != 0 then(let y2:Bool:=!(a4.toList==(⟨#[]⟩:ByteArray).toList)
 bif y2 then(c .z7)else(c (.z8 a0 a1 a2 a3 a4)))else(c (.z8 a0 a1 a2 a3 a4))))else(bif a0 != 0 then(let y3:Bool:=!(a4.toList==(⟨#[]⟩:ByteArray).toList)
 bif y3 then(c .z7)else(c (.z8 a0 a1 a2 a3 a4)))else(c (.z8 a0 a1 a2 a3 a4)))))
def km.E(n:Nat)(c:km.Z->Option Int):lR.A->Option dU.T:=fun(a0,a1,a2,a3,a4)=>km.e n c a0 a1 a2 a3 a4
def km.l(n:Nat):Nat->km.Z->Option Int:=ez (km.r n)
def km.F(n:Nat)(a0 a1 a2 a3:Int)(a4:ByteArray):Option Int:=km.e n (km.l n n) a0 a1 a2 a3 a4
def km.FA(n:Nat):lR.A->Option dU.T:=km.E n (km.l n n)
theorem km.cW(n:Nat):∀a p,km.FA n a=some p->dc Tryz.prog 91 (lR.i a) (dU.p p):=lN km.cut km.t km.s (km.E n) (km.r n) cfg mixed dB dU.qi (km.c8 n) Tryz.func91
def km.via{R:Type}(n:Nat):List AV->(AV->Option R)->Option R:=d_ (km.FA n) lR.o dU.p
theorem km.cO{R:Type}(n:Nat)(xs:List AV):cT (R:=R) Tryz.prog 91 xs (km.via n xs):=c7 lR.oi (λa=>by kernel_rfl) (km.cW n) xs
inductive h_.Z where
 | z20 (z1:ByteArray) (z2 z3 z4 z5 z6:Int) (z7 z8:ByteArray) (z9 dk:Int)
 | z23 (z1 z2:Int) (z3 z4 z5:List AV) (z6:ByteArray) (z7 z8 z9 dk dp:Int) (z12 dC:ByteArray) (dG dE:Int)
 | fD
 | z28 (z1:ByteArray) (z2 z3 z4 z5 z6:Int) (z7 z8:ByteArray) (z9 dk:Int) (dp:ByteArray) (z12 dC dG dE dM:Int) (dS dJ:ByteArray) (dO z20:Int)
 | mw
def h_.C{R:Type}(n:Nat)(f:FuncId)(xs:List AV):(AV->Option R)->Option R:=
 bif Nat.beq f 26 then iO.via n xs else bif Nat.beq f 27 then jT.via n xs else bif Nat.beq f 35 then q9.via n xs else bif Nat.beq f 87 then iF.via n xs else bif Nat.beq f 88 then kl.via n xs else bif Nat.beq f 89 then qT.via n xs else bif Nat.beq f 90 then lh.via n xs else bif Nat.beq f 91 then km.via n xs else λ_=>none
theorem h_.c8{R:Type}(n:Nat):dt (R:=R) Tryz.prog (h_.C n):=λ_ xs=>cR (iO.cO n xs) (cR (jT.cO n xs) (cR (q9.cO n xs) (cR (iF.cO n xs) (cR (kl.cO n xs) (cR (qT.cO n xs) (cR (lh.cO n xs) (cR (km.cO n xs) (cT.none))))))))
def h_.cut(r:Nat):Option dP:=match r with | 20=>some ⟨[5],[]⟩ | 23=>some ⟨[1,2,5,7],[]⟩ | 27=>some ⟨[],[]⟩ | 28=>some ⟨[5,8],[]⟩ | 36=>some ⟨[],[]⟩ | _=>none
noncomputable def h_.t (z:h_.Z):List Item:=(dL (match z with | .z20 _ _ _ _ _ _ _ _ _ _=>20 | .z23 _ _ _ _ _ _ _ _ _ _ _ _ _ _ _=>23 | .fD=>27 | .z28 _ _ _ _ _ _ _ _ _ _ _ _ _ _ _ _ _ _ _ _=>28 | .mw=>36) 1000 [.code (Tryz.f50.body.getD .skip)]).getD []
def h_.s:h_.Z->St
 | .z20 z1 z2 z3 z4 z5 z6 z7 z8 z9 dk=>⟨fx 120 0 [(5,.ptr 0 0)],Mem.ofList [.box 74 [vs z1,vi z2,vi z3,vi z4,vi z5,vi z6,vs z7,vs z8,vi z9,vi dk]],1⟩
 | .z23 z1 z2 z3 z4 z5 z6 z7 z8 z9 dk dp z12 dC dG dE=>⟨fx 120 0 [(1,vi z1),(2,.ptr 0 0),(5,.ptr 1 0),(7,vi z2)],Mem.ofList [.box 26 [.sl ⟨true,74,false⟩ 10 z3,.sl ⟨false,86,false⟩ 2 z4,.sl ⟨true,82,false⟩ 4 z5],.box 74 [vs z6,vi z7,vi z8,vi z9,vi dk,vi dp,vs z12,vs dC,vi dG,vi dE]],2⟩
 | .fD=>⟨fx 120 0 [],Mem.ofList [],0⟩
 | .z28 z1 z2 z3 z4 z5 z6 z7 z8 z9 dk dp z12 dC dG dE dM dS dJ dO z20=>⟨fx 120 0 [(5,.ptr 0 0),(8,.ptr 1 0)],Mem.ofList [.box 74 [vs z1,vi z2,vi z3,vi z4,vi z5,vi z6,vs z7,vs z8,vi z9,vi dk],.box 74 [vs dp,vi z12,vi dC,vi dG,vi dE,vi dM,vs dS,vs dJ,vi dO,vi z20]],2⟩
 | .mw=>⟨fx 120 0 [],Mem.ofList [],0⟩
def h_.DF(n:Nat)(c:h_.Z->Option Int)(z1:ByteArray)(z2 z3 z4 z5 z6:Int)(z7 z8:ByteArray)(z9 dk:Int):Option Int:=
 (km.F n z3 z4 z5 z6 z7).bind λVI=>
 some VI
def h_.yk(n:Nat)(c:h_.Z->Option Int)(z1 z2:Int)(z3 z4 z5:List AV)(z6:ByteArray)(z7 z8 z9 dk dp:Int)(z12 dC:ByteArray)(dG dE:Int):Option Int:=
 bif z2==(-1)then(some 11)else(bif decide (z2>=z1)then(some 11)else(bif decide ((0:Int)<=z2)&&decide (z2<((z3.length:Nat):Int))then(cN ((z3.getD ((z2).toNat) .undef).cells) λMz Nr=>
 df Mz λLB=>
 cN Nr λPD OJ=>
 cQ .i64 PD λzD=>
 cN OJ λPB OH=>
 cQ .i64 PB λIh=>
 cN OH λPz OG=>
 cQ .i64 Pz λLl=>
 cN OG λPx OF=>
 cQ .i64 Px λIg=>
 cN OF λMy Qf=>
 cQ .i64 My λFZ=>
 cN Qf λSE TQ=>
 df SE λLA=>
 cN TQ λW3 Vn=>
 df W3 λLz=>
 cN Vn λW2 Vm=>
 cQ .i64 W2 λLk=>
 cN Vm λPv TO=>
 cQ .i64 Pv λEN=>
 bif z7==1 then(bif zD != 0 then(c .fD)else(bif z7==2 then(bif zD != 3 then(c .fD)else(c (.z28 z6 z7 z8 z9 dk dp z12 dC dG dE LB zD Ih Ll Ig FZ LA Lz Lk EN)))else(c (.z28 z6 z7 z8 z9 dk dp z12 dC dG dE LB zD Ih Ll Ig FZ LA Lz Lk EN))))else(bif z7==2 then(bif zD != 3 then(c .fD)else(c (.z28 z6 z7 z8 z9 dk dp z12 dC dG dE LB zD Ih Ll Ig FZ LA Lz Lk EN)))else(c (.z28 z6 z7 z8 z9 dk dp z12 dC dG dE LB zD Ih Ll Ig FZ LA Lz Lk EN))))else none))
def h_.yj(n:Nat)(c:h_.Z->Option Int)  : Option Int:=
 some 17
def h_.OL(n:Nat)(c:h_.Z->Option Int)(z1:ByteArray)(z2 z3 z4 z5 z6:Int)(z7 z8:ByteArray)(z9 dk:Int)(dp:ByteArray)(z12 dC dG dE dM:Int)(dS dJ:ByteArray)(dO z20:Int):Option Int:=
 bif z2==1 then((q9.F n dC dG dE).bind λp74=>
 (q9.F n z3 z4 z5).bind λp75=>
 (jT.F n z9 0 (IntKind.i64.wrap (p74 - p75))).bind λp76=>
 bif !p76 then(some 3)else(c .mw))else((jT.F n z9 0 256).bind λp77=>
 bif !p77 then(some 3)else(c .mw))
def h_.zW(n:Nat)(c:h_.Z->Option Int)  : Option Int:=
 some 0
def h_.r(n:Nat)(c:h_.Z->Option Int):h_.Z->Option Int
 | .z20 z1 z2 z3 z4 z5 z6 z7 z8 z9 dk=>h_.DF n c z1 z2 z3 z4 z5 z6 z7 z8 z9 dk
 | .z23 z1 z2 z3 z4 z5 z6 z7 z8 z9 dk dp z12 dC dG dE=>h_.yk n c z1 z2 z3 z4 z5 z6 z7 z8 z9 dk dp z12 dC dG dE
 | .fD=>h_.yj n c
 | .z28 z1 z2 z3 z4 z5 z6 z7 z8 z9 dk dp z12 dC dG dE dM dS dJ dO z20=>h_.OL n c z1 z2 z3 z4 z5 z6 z7 z8 z9 dk dp z12 dC dG dE dM dS dJ dO z20
 | .mw=>h_.zW n c
def h_.e(n:Nat)(c:h_.Z->Option Int)(a0 a1 a2:List AV)(a3:Int):Option Int:=
 bif decide ((0:Int)<=a3)&&decide (a3<((a0.length:Nat):Int))then(cN ((a0.getD ((a3).toNat) .undef).cells) λh1 r2=>
 df h1 λs3=>
 cN r2 λh4 r5=>
 cQ .i64 h4 λx6=>
 cN r5 λh7 r8=>
 cQ .i64 h7 λx9=>
 cN r8 λxG vN=>
 cQ .i64 xG λpV=>
 cN vN λDg xk=>
 cQ .i64 Dg λsy=>
 cN xk λCx I0=>
 cQ .i64 Cx λoo=>
 cN I0 λEk DF=>
 df Ek λvG=>
 cN DF λGV yk=>
 df GV λsC=>
 cN yk λAE A3=>
 cQ .i64 AE λrf=>
 cN A3 λxm HM=>
 cQ .i64 xm λpU=>
 (iF.F n s3).bind λA4=>
 bif !A4 then(some 7)else((iO.F n a0 a1 a2 s3).bind λGi=>
 bif decide (Gi<a3)then(some 13)else((jT.F n x6 0 5).bind λHO=>
 bif !HO then(some 4)else((kl.F n s3 x6 x9 pV sy oo vG sC rf pU).bind λAc=>
 bif Ac then(some 5)else((qT.F n x6).bind λLR=>
 bif LR then((lh.F n x9 pV sy).bind λHN=>
 bif HN != 0 then(some HN)else(bif x9==4 then(some 17)else((iO.F n a0 a1 a2 sC).bind λyp=>
 bif x6==0 then(c (.z20 s3 x6 x9 pV sy oo vG sC rf pU))else(bif x6==4 then(c (.z20 s3 x6 x9 pV sy oo vG sC rf pU))else(bif x6==1 then(c (.z23 a3 yp a0 a1 a2 s3 x6 x9 pV sy oo vG sC rf pU))else(bif x6==2 then(c (.z23 a3 yp a0 a1 a2 s3 x6 x9 pV sy oo vG sC rf pU))else(bif x6==5 then(let QN:Int:=IntKind.i64.wrap (((a1.length:Nat):Int) - 1)
 (jT.F n pU 0 QN).bind λRy=>
 bif !Ry then(some 3)else(c .mw))else(c .mw))))))))else((iO.F n a0 a1 a2 sC).bind λRx=>
 bif x6==0 then(c (.z20 s3 x6 x9 pV sy oo vG sC rf pU))else(bif x6==4 then(c (.z20 s3 x6 x9 pV sy oo vG sC rf pU))else(bif x6==1 then(c (.z23 a3 Rx a0 a1 a2 s3 x6 x9 pV sy oo vG sC rf pU))else(bif x6==2 then(c (.z23 a3 Rx a0 a1 a2 s3 x6 x9 pV sy oo vG sC rf pU))else(bif x6==5 then(let Zg:Int:=IntKind.i64.wrap (((a1.length:Nat):Int) - 1)
 (jT.F n pU 0 Zg).bind λVJ=>
 bif !VJ then(some 3)else(c .mw))else(c .mw)))))))))))else none
def h_.E(n:Nat)(c:h_.Z->Option Int):iB.A->Option dU.T:=fun(a0,a1,a2,a3)=>h_.e n c a0 a1 a2 a3
def h_.l(n:Nat):Nat->h_.Z->Option Int:=ez (h_.r n)
def h_.F(n:Nat)(a0 a1 a2:List AV)(a3:Int):Option Int:=h_.e n (h_.l n n) a0 a1 a2 a3
def h_.FA(n:Nat):iB.A->Option dU.T:=h_.E n (h_.l n n)
theorem h_.cW(n:Nat):∀a p,h_.FA n a=some p->dc Tryz.prog 50 (iB.i a) (dU.p p):=lN h_.cut h_.t h_.s (h_.E n) (h_.r n) cfg mixed dB dU.qi (h_.c8 n) Tryz.func50
def h_.via{R:Type}(n:Nat):List AV->(AV->Option R)->Option R:=d_ (h_.FA n) iB.o dU.p
theorem h_.cO{R:Type}(n:Nat)(xs:List AV):cT (R:=R) Tryz.prog 50 xs (h_.via n xs):=c7 iB.oi (λa=>by kernel_rfl) (h_.cW n) xs
inductive kV.Z where
 | dp
def kV.C{R:Type}(n:Nat)(f:FuncId)(xs:List AV):(AV->Option R)->Option R:=
 λ_=>none
theorem kV.c8{R:Type}(n:Nat):dt (R:=R) Tryz.prog (kV.C n):=λ_ xs=>cT.none
def kV.cut(r:Nat):Option dP:=match r with | 11=>some ⟨[],[]⟩ | _=>none
noncomputable def kV.t (z:kV.Z):List Item:=(dL (match z with | .dp=>11) 1000 [.code (Tryz.f92.body.getD .skip)]).getD []
def kV.s:kV.Z->St
 | .dp=>⟨fx 43 0 [],Mem.ofList [],0⟩
def kV.vN(n:Nat)(c:kV.Z->Option (List AV))  : Option (List AV):=
 some [vi 1,vi 3,vi 3]
def kV.r(n:Nat)(c:kV.Z->Option (List AV)):kV.Z->Option (List AV)
 | .dp=>kV.vN n c
def kV.e(n:Nat)(c:kV.Z->Option (List AV))(a0:Int):Option (List AV):=
 bif a0==0 then(some [vi 0,vi 4])else(bif a0==1 then(some [vi 1,vi 3])else(bif a0==2 then(c .dp)else(bif a0==3 then(c .dp)else(bif a0==4 then(c .dp)else(bif a0==5 then(c .dp)else(bif a0==6 then(c .dp)else(bif a0==7 then(some [vi 2,vi 4,vi 6])else(bif a0==8 then(some [vi 2,vi 4,vi 6])else(bif a0==9 then(some [vi 6])else(bif a0==13 then(some [vi 6])else(bif a0==10 then(some [vi 5,vi 0])else(bif a0==11 then(some [vi 5,vi 5])else(bif a0==12 then(some [vi 5,vi 3])else(bif a0==15 then(some [vi 3])else(bif a0==16 then(some [vi 1])else(bif a0==17 then(some [vi 2])else(some [])))))))))))))))))
def kV.E(n:Nat)(c:kV.Z->Option (List AV)):fK.A->Option iN.T:=λa0=>kV.e n c a0
def kV.l(n:Nat):Nat->kV.Z->Option (List AV):=ez (kV.r n)
def kV.F(n:Nat)(a0:Int):Option (List AV):=kV.e n (kV.l n n) a0
def kV.FA(n:Nat):fK.A->Option iN.T:=kV.E n (kV.l n n)
theorem kV.cW(n:Nat):∀a p,kV.FA n a=some p->dc Tryz.prog 92 (fK.i a) (iN.p p):=lN kV.cut kV.t kV.s (kV.E n) (kV.r n) cfg mixed dB iN.qi (kV.c8 n) Tryz.func92
def kV.via{R:Type}(n:Nat):List AV->(AV->Option R)->Option R:=d_ (kV.FA n) fK.o iN.p
theorem kV.cO{R:Type}(n:Nat)(xs:List AV):cT (R:=R) Tryz.prog 92 xs (kV.via n xs):=c7 fK.oi (λa=>by kernel_rfl) (kV.cW n) xs
def q6.C{R:Type}(n:Nat)(f:FuncId)(xs:List AV):(AV->Option R)->Option R:=
 bif Nat.beq f 140 then q8.via n xs else λ_=>none
theorem q6.c8{R:Type}(n:Nat):dt (R:=R) Tryz.prog (q6.C n):=λ_ xs=>cR (q8.cO n xs) (cT.none)
def q6.cut(r:Nat):Option dP:=match r with  | _=>none
def q6.e(n:Nat)(a0:ByteArray)(a1 a2 a3 a4 a5:Int)(a6 a7:ByteArray)(a8 a9:Int):Option Bool:=
 (q8.F n a2).bind λp1=>
 some p1
def q6.E(n:Nat):iZ.A->Option ee.T:=fun(a0,a1,a2,a3,a4,a5,a6,a7,a8,a9)=>q6.e n a0 a1 a2 a3 a4 a5 a6 a7 a8 a9
def q6.F(n:Nat)(a0:ByteArray)(a1 a2 a3 a4 a5:Int)(a6 a7:ByteArray)(a8 a9:Int):Option Bool:=q6.e n a0 a1 a2 a3 a4 a5 a6 a7 a8 a9
def q6.FA(n:Nat):iZ.A->Option ee.T:=q6.E n
theorem q6.cW(n:Nat):∀a p,q6.FA n a=some p->dc Tryz.prog 94 (iZ.i a) (ee.p p):=gp q6.cut (q6.E n) cfg mixed dB ee.qi (q6.c8 n) Tryz.func94
def q6.via{R:Type}(n:Nat):List AV->(AV->Option R)->Option R:=d_ (q6.FA n) iZ.o ee.p
theorem q6.cO{R:Type}(n:Nat)(xs:List AV):cT (R:=R) Tryz.prog 94 xs (q6.via n xs):=c7 iZ.oi (λa=>by kernel_rfl) (q6.cW n) xs
inductive je.Z where
 | z7 (z1:Int) (z2 z3 z4:List AV) (z5:Int) (z6 z7:List AV)
 | z8 (z1:Int) (z2 z3 z4:List AV) (z5:Int) (z6 z7:List AV)
 | z28 (z1:Int) (z2:Bool) (z3 z4 z5:List AV) (z6:Int) (z7 z8:List AV)
def je.C{R:Type}(n:Nat)(f:FuncId)(xs:List AV):(AV->Option R)->Option R:=
 bif Nat.beq f 27 then jT.via n xs else bif Nat.beq f 89 then qT.via n xs else bif Nat.beq f 92 then kV.via n xs else bif Nat.beq f 93 then q7.via n xs else bif Nat.beq f 94 then q6.via n xs else λ_=>none
theorem je.c8{R:Type}(n:Nat):dt (R:=R) Tryz.prog (je.C n):=λ_ xs=>cR (jT.cO n xs) (cR (qT.cO n xs) (cR (kV.cO n xs) (cR (q7.cO n xs) (cR (q6.cO n xs) (cT.none)))))
def je.cut(r:Nat):Option dP:=match r with | 7=>some ⟨[2,3,5,6],[]⟩ | 8=>some ⟨[2,3,5,6],[]⟩ | 28=>some ⟨[2,3,5,6,8],[]⟩ | _=>none
noncomputable def je.t (z:je.Z):List Item:=(dL (match z with | .z7 _ _ _ _ _ _ _=>7 | .z8 _ _ _ _ _ _ _=>8 | .z28 _ _ _ _ _ _ _ _=>28) 1000 [.code (Tryz.f51.body.getD .skip)]).getD []
def je.s:je.Z->St
 | .z7 z1 z2 z3 z4 z5 z6 z7=>⟨fx 113 0 [(2,.ptr 0 0),(3,.ptr 1 0),(5,.own 2 0 none),(6,vi z1)],Mem.ofList [.box 26 [.sl ⟨true,74,false⟩ 10 z2,.sl ⟨false,86,false⟩ 2 z3,.sl ⟨true,82,false⟩ 4 z4],.box 86 [vi z5,.sl ⟨true,3,false⟩ 1 z6],.row ⟨true,3,false⟩ 1 z7],3⟩
 | .z8 z1 z2 z3 z4 z5 z6 z7=>⟨fx 113 0 [(2,.ptr 0 0),(3,.ptr 1 0),(5,.own 2 0 none),(6,vi z1)],Mem.ofList [.box 26 [.sl ⟨true,74,false⟩ 10 z2,.sl ⟨false,86,false⟩ 2 z3,.sl ⟨true,82,false⟩ 4 z4],.box 86 [vi z5,.sl ⟨true,3,false⟩ 1 z6],.row ⟨true,3,false⟩ 1 z7],3⟩
 | .z28 z1 z2 z3 z4 z5 z6 z7 z8=>⟨fx 113 0 [(2,.ptr 0 0),(3,.ptr 1 0),(5,.own 2 0 none),(6,vi z1),(8,vb z2)],Mem.ofList [.box 26 [.sl ⟨true,74,false⟩ 10 z3,.sl ⟨false,86,false⟩ 2 z4,.sl ⟨true,82,false⟩ 4 z5],.box 86 [vi z6,.sl ⟨true,3,false⟩ 1 z7],.row ⟨true,3,false⟩ 1 z8],3⟩
def je.r7(n:Nat)(c:je.Z->Option Int)(z1:Int)(z2 z3 z4:List AV)(z5:Int)(z6 z7:List AV):Option Int:=
 let y4:Bool:=decide (z1<((z7.length:Nat):Int))
 bif y4 then(bif decide ((0:Int)<=z1)&&decide (z1<((z6.length:Nat):Int))then(cN ((z6.getD ((z1).toNat) .undef).cells) λh5 r6=>
 cQ .i64 h5 λx7=>
 let y8:Int:=IntKind.i64.wrap (((z2.length:Nat):Int) - 1)
 (jT.F n x7 0 y8).bind λp9=>
 bif !p9 then(some 3)else(bif decide ((0:Int)<=z1)&&decide (z1<((z6.length:Nat):Int))then(cN ((z6.getD ((z1).toNat) .undef).cells) λxG vN=>
 cQ .i64 xG λpV=>
 bif decide ((0:Int)<=pV)&&decide (pV<((z2.length:Nat):Int))then(cN ((z2.getD ((pV).toNat) .undef).cells) λDg xk=>
 df Dg λVf=>
 cN xk λCx I0=>
 cQ .i64 Cx λoo=>
 cN I0 λEk DF=>
 cQ .i64 Ek λOg=>
 cN DF λGV yk=>
 cQ .i64 GV λQ5=>
 cN yk λAE A3=>
 cQ .i64 AE λrf=>
 cN A3 λxm HM=>
 cQ .i64 xm λpU=>
 cN HM λPG LK=>
 df PG λVe=>
 cN LK λSL Rr=>
 df SL λVc=>
 cN Rr λSJ Rq=>
 cQ .i64 SJ λOf=>
 cN Rq λGU Qj=>
 cQ .i64 GU λUN=>
 bif decide ((0:Int)<=z1)&&decide (z1<((z7.length:Nat):Int))then(cN ((z7.getD ((z1).toNat) .undef).cells) λPE Qi=>
 cQ .i64 PE λIi=>
 bif Ii==0 then((q7.F n oo).bind λVH=>
 c (.z28 z1 VH z2 z3 z4 z5 z6 z7))else(bif Ii==1 then((q7.F n oo).bind λRw=>
 bif Rw then((q6.F n Vf oo Og Q5 rf pU Ve Vc Of UN).bind λp48=>
 c (.z28 z1 p48 z2 z3 z4 z5 z6 z7))else(c (.z28 z1 false z2 z3 z4 z5 z6 z7)))else(bif Ii==2 then((qT.F n oo).bind λVG=>
 c (.z28 z1 VG z2 z3 z4 z5 z6 z7))else(bif Ii==3 then((qT.F n oo).bind λVF=>
 bif VF then((q6.F n Vf oo Og Q5 rf pU Ve Vc Of UN).bind λVE=>
 c (.z28 z1 VE z2 z3 z4 z5 z6 z7))else(c (.z28 z1 false z2 z3 z4 z5 z6 z7)))else(bif Ii==4 then((qT.F n oo).bind λVD=>
 bif VD then((q6.F n Vf oo Og Q5 rf pU Ve Vc Of UN).bind λp53=>
 bif decide ((0:Int)<=IntKind.i64.wrap (z1 - 1))&&decide (IntKind.i64.wrap (z1 - 1)<((z6.length:Nat):Int))then(cN ((z6.getD ((IntKind.i64.wrap (z1 - 1)).toNat) .undef).cells) λW6 Yb=>
 cQ .i64 W6 λQ1=>
 bif decide ((0:Int)<=Q1)&&decide (Q1<((z2.length:Nat):Int))then(cN ((z2.getD ((Q1).toNat) .undef).cells) λW5 Vp=>
 df W5 λZX=>
 cN Vp λW4 Vo=>
 cQ .i64 W4 λUL=>
 cN Vo λSD Rn=>
 cQ .i64 SD λUK=>
 cN Rn λSB Rl=>
 cQ .i64 SB λUJ=>
 cN Rl λSA Rk=>
 cQ .i64 SA λXV=>
 cN Rk λSz Rj=>
 cQ .i64 Sz λTC=>
 cN Rj λSy TN=>
 df Sy λZU=>
 cN TN λWX Vl=>
 df WX λZS=>
 cN Vl λSx Ri=>
 cQ .i64 Sx λUH=>
 cN Ri λSw TM=>
 cQ .i64 Sw λUG=>
 (q6.F n ZX UL UK UJ XV TC ZU ZS UH UG).bind λp87=>
 c (.z28 z1 (p53==p87) z2 z3 z4 z5 z6 z7))else none)else none)else(c (.z28 z1 false z2 z3 z4 z5 z6 z7)))else(bif Ii==5 then(c (.z28 z1 (oo==3) z2 z3 z4 z5 z6 z7))else(bif Ii==6 then(c (.z28 z1 (oo==5) z2 z3 z4 z5 z6 z7))else(c (.z28 z1 false z2 z3 z4 z5 z6 z7)))))))))else none)else none)else none))else none)else(some 0)
def je.r8(n:Nat)(c:je.Z->Option Int)(z1:Int)(z2 z3 z4:List AV)(z5:Int)(z6 z7:List AV):Option Int:=
 c (.z7 (IntKind.i64.wrap (z1+1)) z2 z3 z4 z5 z6 z7)
def je.OL(n:Nat)(c:je.Z->Option Int)(z1:Int)(z2:Bool)(z3 z4 z5:List AV)(z6:Int)(z7 z8:List AV):Option Int:=
 bif !z2 then(some 17)else(c (.z8 z1 z3 z4 z5 z6 z7 z8))
def je.r(n:Nat)(c:je.Z->Option Int):je.Z->Option Int
 | .z7 z1 z2 z3 z4 z5 z6 z7=>je.r7 n c z1 z2 z3 z4 z5 z6 z7
 | .z8 z1 z2 z3 z4 z5 z6 z7=>je.r8 n c z1 z2 z3 z4 z5 z6 z7
 | .z28 z1 z2 z3 z4 z5 z6 z7 z8=>je.OL n c z1 z2 z3 z4 z5 z6 z7 z8
def je.e(n:Nat)(c:je.Z->Option Int)(a0 a1 a2:List AV)(a3:Int)(a4:List AV):Option Int:=
 (jT.F n a3 0 18).bind λp1=>
 bif !p1 then(some 4)else((kV.F n a3).bind λp2=>
 let y3:Bool:=((a4.length:Nat):Int) != ((p2.length:Nat):Int)
 bif y3 then(some 37)else(c (.z7 0 a0 a1 a2 a3 a4 p2)))
def je.E(n:Nat)(c:je.Z->Option Int):jc.A->Option dU.T:=fun(a0,a1,a2,a3,a4)=>je.e n c a0 a1 a2 a3 a4
def je.l(n:Nat):Nat->je.Z->Option Int:=ez (je.r n)
def je.F(n:Nat)(a0 a1 a2:List AV)(a3:Int)(a4:List AV):Option Int:=je.e n (je.l n n) a0 a1 a2 a3 a4
def je.FA(n:Nat):jc.A->Option dU.T:=je.E n (je.l n n)
theorem je.cW(n:Nat):∀a p,je.FA n a=some p->dc Tryz.prog 51 (jc.i a) (dU.p p):=lN je.cut je.t je.s (je.E n) (je.r n) cfg mixed dB dU.qi (je.c8 n) Tryz.func51
def je.via{R:Type}(n:Nat):List AV->(AV->Option R)->Option R:=d_ (je.FA n) jc.o dU.p
theorem je.cO{R:Type}(n:Nat)(xs:List AV):cT (R:=R) Tryz.prog 51 xs (je.via n xs):=c7 jc.oi (λa=>by kernel_rfl) (je.cW n) xs
inductive gL.Z where
 | z2 (z1 z2:Int)
 | z6 (z1:Int) (z2 z3 z4:List AV) (z5 z6:Int)
 | dE (z1:Int) (z2 z3 z4:List AV) (z5 z6:Int)
 | z21 (z1:Int) (z2 z3 z4:List AV) (z5 z6:Int)
 | z25 (z1 z2 z3:Int)
def gL.C{R:Type}(n:Nat)(f:FuncId)(xs:List AV):(AV->Option R)->Option R:=
 bif Nat.beq f 27 then jT.via n xs else bif Nat.beq f 32 then ix.via n xs else bif Nat.beq f 50 then h_.via n xs else bif Nat.beq f 51 then je.via n xs else λ_=>none
theorem gL.c8{R:Type}(n:Nat):dt (R:=R) Tryz.prog (gL.C n):=λ_ xs=>cR (jT.cO n xs) (cR (ix.cO n xs) (cR (h_.cO n xs) (cR (je.cO n xs) (cT.none))))
def gL.cut(r:Nat):Option dP:=match r with | 2=>some ⟨[2],[]⟩ | 6=>some ⟨[1,2,4],[]⟩ | 15=>some ⟨[1,2,8],[]⟩ | 21=>some ⟨[1,2,10],[]⟩ | 25=>some ⟨[2,10],[]⟩ | _=>none
noncomputable def gL.t (z:gL.Z):List Item:=(dL (match z with | .z2 _ _=>2 | .z6 _ _ _ _ _ _=>6 | .dE _ _ _ _ _ _=>15 | .z21 _ _ _ _ _ _=>21 | .z25 _ _ _=>25) 1000 [.code (Tryz.f16.body.getD .skip)]).getD []
def gL.s:gL.Z->St
 | .z2 z1 z2=>⟨fx 125 0 [(2,.ptr 0 0)],Mem.ofList [.box 30 [vi z1,vi z2]],1⟩
 | .z6 z1 z2 z3 z4 z5 z6=>⟨fx 125 0 [(1,.ptr 0 0),(2,.ptr 1 0),(4,vi z1)],Mem.ofList [.box 26 [.sl ⟨true,74,false⟩ 10 z2,.sl ⟨false,86,false⟩ 2 z3,.sl ⟨true,82,false⟩ 4 z4],.box 30 [vi z5,vi z6]],2⟩
 | .dE z1 z2 z3 z4 z5 z6=>⟨fx 125 0 [(1,.ptr 0 0),(2,.ptr 1 0),(8,vi z1)],Mem.ofList [.box 26 [.sl ⟨true,74,false⟩ 10 z2,.sl ⟨false,86,false⟩ 2 z3,.sl ⟨true,82,false⟩ 4 z4],.box 30 [vi z5,vi z6]],2⟩
 | .z21 z1 z2 z3 z4 z5 z6=>⟨fx 125 0 [(1,.ptr 0 0),(2,.ptr 1 0),(10,vi z1)],Mem.ofList [.box 26 [.sl ⟨true,74,false⟩ 10 z2,.sl ⟨false,86,false⟩ 2 z3,.sl ⟨true,82,false⟩ 4 z4],.box 30 [vi z5,vi z6]],2⟩
 | .z25 z1 z2 z3=>⟨fx 125 0 [(2,.ptr 0 0),(10,vi z1)],Mem.ofList [.box 30 [vi z2,vi z3]],1⟩
def gL.r2(n:Nat)(c:gL.Z->Option (Int × Int × Int))(z1 z2:Int):Option (Int × Int × Int):=
 some (0,0,2)
def gL.r6(n:Nat)(c:gL.Z->Option (Int × Int × Int))(z1:Int)(z2 z3 z4:List AV)(z5 z6:Int):Option (Int × Int × Int):=
 let y5:Bool:=decide (z1<((z2.length:Nat):Int))
 bif y5 then((h_.F n z2 z3 z4 z1).bind λp6=>
 bif p6 != 0 then(some (1,z1,p6))else(c (.z6 (IntKind.i64.wrap (z1+1)) z2 z3 z4 z5 z6)))else((ix.F n z2 z3 z4).bind λp7=>
 bif decide (p7.2>24)then(some (0,0,30))else(c (.dE 0 z2 z3 z4 z5 z6)))
def gL.qX(n:Nat)(c:gL.Z->Option (Int × Int × Int))(z1:Int)(z2 z3 z4:List AV)(z5 z6:Int):Option (Int × Int × Int):=
 let y8:Bool:=decide (z1<((z3.length:Nat):Int))
 bif y8 then(bif decide ((0:Int)<=z1)&&decide (z1<((z3.length:Nat):Int))then(cN ((z3.getD ((z1).toNat) .undef).cells) λh9 E4=>
 cQ .i64 h9 λZI=>
 cN E4 λPH uN=>
 gU ⟨true,3,false⟩ 1 PH λUD=>
 (je.F n z2 z3 z4 ZI UD).bind λyq=>
 bif yq != 0 then(some (2,z1,yq))else(c (.dE (IntKind.i64.wrap (z1+1)) z2 z3 z4 z5 z6)))else none)else(c (.z21 0 z2 z3 z4 z5 z6))
def gL.qw(n:Nat)(c:gL.Z->Option (Int × Int × Int))(z1:Int)(z2 z3 z4:List AV)(z5 z6:Int):Option (Int × Int × Int):=
 let C9:Bool:=decide (z1<((z4.length:Nat):Int))
 bif C9 then(bif decide ((0:Int)<=z1)&&decide (z1<((z4.length:Nat):Int))then(cN ((z4.getD ((z1).toNat) .undef).cells) λCw sE=>
 cQ .i64 Cw λA9=>
 cN sE λCv qw=>
 cQ .i64 Cv λHI=>
 cN qw λCu qW=>
 cQ .i64 Cu λM8=>
 cN qW λCt yj=>
 cQ .i64 Ct λHH=>
 bif decide (A9<0)then(c (.z25 z1 z5 z6))else(bif decide (A9>=HI)then(c (.z25 z1 z5 z6))else(let QO:Bool:=decide (HI>((z3.length:Nat):Int))
 bif QO then(c (.z25 z1 z5 z6))else((jT.F n M8 0 999).bind λGj=>
 bif !Gj then(c (.z25 z1 z5 z6))else(let Zk:Int:=IntKind.i64.wrap (((z3.length:Nat):Int) - 1)
 (jT.F n HH 0 Zk).bind λGi=>
 bif !Gi then(c (.z25 z1 z5 z6))else(c (.z21 (IntKind.i64.wrap (z1+1)) z2 z3 z4 z5 z6)))))))else none)else(some (0,0,0))
def gL.IZ(n:Nat)(c:gL.Z->Option (Int × Int × Int))(z1 z2 z3:Int):Option (Int × Int × Int):=
 some (3,z1,3)
def gL.r(n:Nat)(c:gL.Z->Option (Int × Int × Int)):gL.Z->Option (Int × Int × Int)
 | .z2 z1 z2=>gL.r2 n c z1 z2
 | .z6 z1 z2 z3 z4 z5 z6=>gL.r6 n c z1 z2 z3 z4 z5 z6
 | .dE z1 z2 z3 z4 z5 z6=>gL.qX n c z1 z2 z3 z4 z5 z6
 | .z21 z1 z2 z3 z4 z5 z6=>gL.qw n c z1 z2 z3 z4 z5 z6
 | .z25 z1 z2 z3=>gL.IZ n c z1 z2 z3
def gL.e(n:Nat)(c:gL.Z->Option (Int × Int × Int))(a0 a1 a2:List AV):Option (Int × Int × Int):=
 let y1:Bool:=decide (((a0.length:Nat):Int)>24)
 bif y1 then(c (.z2 0 0))else(let y2:Bool:=decide (((a1.length:Nat):Int)>40)
 bif y2 then(c (.z2 0 0))else(let y3:Bool:=decide (((a2.length:Nat):Int)>6)
 bif y3 then(c (.z2 0 0))else(let y4:Bool:=((a1.length:Nat):Int)==0
 bif y4 then(some (0,0,1))else(c (.z6 0 a0 a1 a2 0 0)))))
def gL.E(n:Nat)(c:gL.Z->Option (Int × Int × Int)):eP.A->Option eP.T:=fun(a0,a1,a2)=>gL.e n c a0 a1 a2
def gL.l(n:Nat):Nat->gL.Z->Option (Int × Int × Int):=ez (gL.r n)
def gL.F(n:Nat)(a0 a1 a2:List AV):Option (Int × Int × Int):=gL.e n (gL.l n n) a0 a1 a2
def gL.FA(n:Nat):eP.A->Option eP.T:=gL.E n (gL.l n n)
theorem gL.cW(n:Nat):∀a p,gL.FA n a=some p->dc Tryz.prog 16 (eP.i a) (eP.p p):=lN gL.cut gL.t gL.s (gL.E n) (gL.r n) cfg mixed dB eP.qi (gL.c8 n) Tryz.func16
def gL.via{R:Type}(n:Nat):List AV->(AV->Option R)->Option R:=d_ (gL.FA n) eP.o eP.p
theorem gL.cO{R:Type}(n:Nat)(xs:List AV):cT (R:=R) Tryz.prog 16 xs (gL.via n xs):=c7 eP.oi (λa=>by kernel_rfl) (gL.cW n) xs
abbrev lB.A:=Unit
abbrev lB.T:=List AV
def lB.i:lB.A->List AV:=λ_=>[]
def lB.o(xs:List AV):Option lB.A:=match xs with | []=>some () | _=>none
theorem lB.oi:∀xs a,lB.o xs=some a->xs=lB.i a:=by
 intro xs a h;unfold lB.o at h;split at h
 ·cases h;rfl
 ·cases h
def lB.p(p:lB.T):AV:=.fr ⟨true,9,false⟩ 1 p
def lB.q(x:AV):Option lB.T:=match x with | .fr ⟨true,9,false⟩ 1 p0=>some p0 | _=>none
theorem lB.qi:∀x p,lB.q x=some p->x=lB.p p:=by
 intro x p h;unfold lB.q at h;split at h
 ·cases h;rfl
 ·cases h
def lB.C{R:Type}(n:Nat)(f:FuncId)(xs:List AV):(AV->Option R)->Option R:=
 λ_=>none
theorem lB.c8{R:Type}(n:Nat):dt (R:=R) Tryz.prog (lB.C n):=λ_ xs=>cT.none
def lB.cut(r:Nat):Option dP:=match r with  | _=>none
def lB.e(n:Nat)  : Option (List AV):=
 some [vs (⟨#[77,79,86,69]⟩:ByteArray),vs (⟨#[77,79,86,69,72]⟩:ByteArray),vs (⟨#[65,68,68]⟩:ByteArray),vs (⟨#[83,85,66]⟩:ByteArray),vs (⟨#[77,85,76]⟩:ByteArray),vs (⟨#[68,73,86]⟩:ByteArray),vs (⟨#[82,69,77]⟩:ByteArray),vs (⟨#[73,70,69,81]⟩:ByteArray),vs (⟨#[73,70,76,84]⟩:ByteArray),vs (⟨#[71,79,84,79]⟩:ByteArray),vs (⟨#[65,68,68,82]⟩:ByteArray),vs (⟨#[77,79,86,69,80]⟩:ByteArray),vs (⟨#[65,68,86,65,78,67,69]⟩:ByteArray),vs (⟨#[67,65,76,76]⟩:ByteArray),vs (⟨#[82,69,84,85,82,78]⟩:ByteArray),vs (⟨#[83,73,71,78,65,76]⟩:ByteArray),vs (⟨#[69,88,67,69,80,84,73,79,78]⟩:ByteArray),vs (⟨#[80,82,73,78,84]⟩:ByteArray),vs (⟨#[69,78,68]⟩:ByteArray)]
def lB.E(n:Nat):lB.A->Option lB.T:=λ_=>lB.e n
def lB.F(n:Nat)  : Option (List AV):=lB.e n
def lB.FA(n:Nat):lB.A->Option lB.T:=lB.E n
theorem lB.cW(n:Nat):∀a p,lB.FA n a=some p->dc Tryz.prog 58 (lB.i a) (lB.p p):=gp lB.cut (lB.E n) cfg mixed dB lB.qi (lB.c8 n) Tryz.func58
def lB.via{R:Type}(n:Nat):List AV->(AV->Option R)->Option R:=d_ (lB.FA n) lB.o lB.p
theorem lB.cO{R:Type}(n:Nat)(xs:List AV):cT (R:=R) Tryz.prog 58 xs (lB.via n xs):=c7 lB.oi (λa=>by kernel_rfl) (lB.cW n) xs
abbrev eK.A:=ByteArray × ByteArray × Bool
abbrev eK.T:=ByteArray × ByteArray × Bool
def eK.i:eK.A->List AV:=fun(a0,a1,a2)=>[.ptr 0 0,vs a0]
def eK.b:eK.A->List AV:=fun(a0,a1,a2)=>[.fn 165 [vs a1,vb a2]]
def eK.o(xs:List AV):Option eK.A:=match xs with | [.ptr 0 0,.v (.string a0),.eC [.fn 165 [.v (.string a1),.v (.bool a2)]]]=>some (a0,a1,a2) | _=>none
theorem eK.oi:∀xs a,eK.o xs=some a->xs=eK.i a++[.eC (eK.b a)]:=by
 intro xs a h;unfold eK.o at h;split at h
 ·cases h;rfl
 ·cases h
def eK.y(p:eK.T):AV:=vs p.1
def eK.w(p:eK.T):List AV:=[.fn 165 [vs p.2.1,vb p.2.2]]
def eK.p(p:eK.T):AV:=.eC [eK.y p,.eC (eK.w p)]
def eK.q(x:AV):Option eK.T:=match x with | .eC [.v (.string p0),.eC [.fn 165 [.v (.string p1),.v (.bool p2)]]]=>some (p0,p1,p2) | _=>none
theorem eK.qi:∀x p,eK.q x=some p->x=eK.p p:=by
 intro x p h;unfold eK.q at h;split at h
 ·cases h;rfl
 ·cases h
inductive eK.Z where
 | z2 (z1:ByteArray) (z2:Int) (z3:ByteArray) (z4:Bool)
 | z4 (z1:ByteArray) (z2 z3:Int) (z4:ByteArray) (z5:Bool)
def eK.C{R:Type}(n:Nat)(f:FuncId)(xs:List AV):(AV->Option R)->Option R:=
 λ_=>none
theorem eK.c8{R:Type}(n:Nat):dt (R:=R) Tryz.prog (eK.C n):=λ_ xs=>cT.none
def eK.cut(r:Nat):Option dP:=match r with | 2=>some ⟨[0,1,5],[]⟩ | 4=>some ⟨[0,1,5,6],[]⟩ | _=>none
noncomputable def eK.t (z:eK.Z):List Item:=(dL (match z with | .z2 _ _ _ _=>2 | .z4 _ _ _ _ _=>4) 1000 [.code (Tryz.f113.body.getD .skip)]).getD []
def eK.s:eK.Z->St
 | .z2 z1 z2 z3 z4=>⟨fx 58 0 [(0,.ptr 0 0),(1,vs z1),(5,vi z2)],Mem.ofList [.box 165 [vs z3,vb z4]],1⟩
 | .z4 z1 z2 z3 z4 z5=>⟨fx 58 0 [(0,.ptr 0 0),(1,vs z1),(5,vi z2),(6,vi z3)],Mem.ofList [.box 165 [vs z4,vb z5]],1⟩
def eK.r2(n:Nat)(c:eK.Z->Option (ByteArray × ByteArray × Bool))(z1:ByteArray)(z2:Int)(z3:ByteArray)(z4:Bool):Option (ByteArray × ByteArray × Bool):=
 let y1:Bool:=decide (z2<((z3.size:Nat):Int))
 bif y1 then(c (.z4 z1 z2 0 z3 z4))else(some (z3,(⟨#[]⟩:ByteArray),z4))
def eK.r4(n:Nat)(c:eK.Z->Option (ByteArray × ByteArray × Bool))(z1:ByteArray)(z2 z3:Int)(z4:ByteArray)(z5:Bool):Option (ByteArray × ByteArray × Bool):=
 let y2:Bool:=decide (z3<((z1.size:Nat):Int))
 bif y2 then(bif decide ((0:Int)<=z2)&&decide (z2<((z4.size:Nat):Int))then(let y3:Int:=(((z4.data.getD ((z2).toNat) 0).toNat:Nat):Int)
 bif decide ((0:Int)<=z3)&&decide (z3<((z1.size:Nat):Int))then(let y4:Int:=(((z1.data.getD ((z3).toNat) 0).toNat:Nat):Int)
 bif y3==y4 then(bif decide ((0:Int)<=z2)&&decide ((z2:Int)<=((z4.size:Nat):Int))then(bif decide ((0:Int)<=z2)&&decide ((z2:Int)<=((z4.size:Nat):Int))then(let y5:ByteArray:=z4.extract (z2).toNat z4.size
 some (z4.extract 0 (z2).toNat,y5,z5))else none)else none)else(c (.z4 z1 z2 (IntKind.i64.wrap (z3+1)) z4 z5)))else none)else none)else(c (.z2 z1 (IntKind.i64.wrap (z2+1)) z4 z5))
def eK.r(n:Nat)(c:eK.Z->Option (ByteArray × ByteArray × Bool)):eK.Z->Option (ByteArray × ByteArray × Bool)
 | .z2 z1 z2 z3 z4=>eK.r2 n c z1 z2 z3 z4
 | .z4 z1 z2 z3 z4 z5=>eK.r4 n c z1 z2 z3 z4 z5
def eK.e(n:Nat)(c:eK.Z->Option (ByteArray × ByteArray × Bool))(a0 a1:ByteArray)(a2:Bool):Option (ByteArray × ByteArray × Bool):=
 c (.z2 a0 0 a1 a2)
def eK.E(n:Nat)(c:eK.Z->Option (ByteArray × ByteArray × Bool)):eK.A->Option eK.T:=fun(a0,a1,a2)=>eK.e n c a0 a1 a2
def eK.l(n:Nat):Nat->eK.Z->Option (ByteArray × ByteArray × Bool):=ez (eK.r n)
def eK.F(n:Nat)(a0 a1:ByteArray)(a2:Bool):Option (ByteArray × ByteArray × Bool):=eK.e n (eK.l n n) a0 a1 a2
def eK.FA(n:Nat):eK.A->Option eK.T:=eK.E n (eK.l n n)
def eK.fS:List (Nat × Nat × Fl × Nat):=[]
theorem eK.cW(n:Nat):∀a p,eK.FA n a=some p->gT Tryz.prog 113 (eK.i a) (eK.b a) (eK.y p) (eK.w p):=
 kf (G:=Gk 1) (C:=eK.C n) (cut:=eK.cut) (t:=eK.t) (s:=eK.s) (fS:=eK.fS) (e:=eK.E n) (r:=eK.r n) (n:=n) (cfg.kb 1) mixed dB eK.qi (λa=>by kernel_rfl) (eK.c8 n) Tryz.func113 (by kernel_rfl) (by kernel_rfl) (λrec a=>by kernel_rfl) (λrec z=>by cases z<;>kernel_rfl)
def eK.via{R:Type}(n:Nat):List AV->(AV->Option R)->Option R:=d_ (eK.FA n) eK.o eK.p
theorem eK.cO{R:Type}(n:Nat)(xs:List AV):cT (R:=R) Tryz.prog 113 xs (eK.via n xs):=jk (λ_=>rfl) eK.oi (eK.cW n) xs
abbrev fk.T:=ByteArray × Bool
def fk.b:eK.A->List AV:=fun(a0,a1,a2)=>[.fn 165 [vs a1,vb a2]]
def fk.y(p:fk.T):AV:=.eC []
def fk.w(p:fk.T):List AV:=[.fn 165 [vs p.1,vb p.2]]
def fk.p(p:fk.T):AV:=.eC [fk.y p,.eC (fk.w p)]
def fk.q(x:AV):Option fk.T:=match x with | .eC [.eC [],.eC [.fn 165 [.v (.string p0),.v (.bool p1)]]]=>some (p0,p1) | _=>none
theorem fk.qi:∀x p,fk.q x=some p->x=fk.p p:=by
 intro x p h;unfold fk.q at h;split at h
 ·cases h;rfl
 ·cases h
inductive fk.Z where
 | z1 (z1:ByteArray) (z2:Bool)
def fk.C{R:Type}(n:Nat)(f:FuncId)(xs:List AV):(AV->Option R)->Option R:=
 λ_=>none
theorem fk.c8{R:Type}(n:Nat):dt (R:=R) Tryz.prog (fk.C n):=λ_ xs=>cT.none
def fk.cut(r:Nat):Option dP:=match r with | 1=>some ⟨[0],[]⟩ | _=>none
noncomputable def fk.t (z:fk.Z):List Item:=(dL (match z with | .z1 _ _=>1) 1000 [.code (Tryz.f114.body.getD .skip)]).getD []
def fk.s:fk.Z->St
 | .z1 z1 z2=>⟨fx 42 0 [(0,.ptr 0 0)],Mem.ofList [.box 165 [vs z1,vb z2]],1⟩
def fk.r1(n:Nat)(c:fk.Z->Option (ByteArray × Bool))(z1:ByteArray)(z2:Bool):Option (ByteArray × Bool):=
 some (z1,true)
def fk.r(n:Nat)(c:fk.Z->Option (ByteArray × Bool)):fk.Z->Option (ByteArray × Bool)
 | .z1 z1 z2=>fk.r1 n c z1 z2
def fk.e(n:Nat)(c:fk.Z->Option (ByteArray × Bool))(a0 a1:ByteArray)(a2:Bool):Option (ByteArray × Bool):=
 bif a2 then(c (.z1 a1 a2))else(let y1:Bool:=decide (((a1.size:Nat):Int)<((a0.size:Nat):Int))
 bif y1 then(c (.z1 a1 a2))else(bif decide ((0:Int)<=((a0.size:Nat):Int))&&decide ((((a0.size:Nat):Int):Int)<=((a1.size:Nat):Int))then(let y2:ByteArray:=a1.extract 0 (((a0.size:Nat):Int)).toNat
 bif !(y2.toList==a0.toList)then(c (.z1 a1 a2))else(bif decide ((0:Int)<=((a0.size:Nat):Int))&&decide ((((a0.size:Nat):Int):Int)<=((a1.size:Nat):Int))then(let y3:ByteArray:=a1.extract (((a0.size:Nat):Int)).toNat a1.size
 some (y3,a2))else none))else none))
def fk.E(n:Nat)(c:fk.Z->Option (ByteArray × Bool)):eK.A->Option fk.T:=fun(a0,a1,a2)=>fk.e n c a0 a1 a2
def fk.l(n:Nat):Nat->fk.Z->Option (ByteArray × Bool):=ez (fk.r n)
def fk.F(n:Nat)(a0 a1:ByteArray)(a2:Bool):Option (ByteArray × Bool):=fk.e n (fk.l n n) a0 a1 a2
def fk.FA(n:Nat):eK.A->Option fk.T:=fk.E n (fk.l n n)
def fk.fS:List (Nat × Nat × Fl × Nat):=[]
theorem fk.cW(n:Nat):∀a p,fk.FA n a=some p->gT Tryz.prog 114 (eK.i a) (fk.b a) (fk.y p) (fk.w p):=
 kf (G:=Gk 1) (C:=fk.C n) (cut:=fk.cut) (t:=fk.t) (s:=fk.s) (fS:=fk.fS) (e:=fk.E n) (r:=fk.r n) (n:=n) (cfg.kb 1) mixed dB fk.qi (λa=>by kernel_rfl) (fk.c8 n) Tryz.func114 (by kernel_rfl) (by kernel_rfl) (λrec a=>by kernel_rfl) (λrec z=>by cases z<;>kernel_rfl)
def fk.via{R:Type}(n:Nat):List AV->(AV->Option R)->Option R:=d_ (fk.FA n) eK.o fk.p
theorem fk.cO{R:Type}(n:Nat)(xs:List AV):cT (R:=R) Tryz.prog 114 xs (fk.via n xs):=jk (λ_=>rfl) eK.oi (fk.cW n) xs
inductive ji.Z where
 | z4 (z1:ByteArray) (z2:Bool)
 | z5
 | z8 (z1:ByteArray) (z2:Bool) (z3 z4:Int)
def ji.C{R:Type}(n:Nat)(f:FuncId)(xs:List AV):(AV->Option R)->Option R:=
 bif Nat.beq f 27 then jT.via n xs else bif Nat.beq f 139 then oM.via n xs else λ_=>none
theorem ji.c8{R:Type}(n:Nat):dt (R:=R) Tryz.prog (ji.C n):=λ_ xs=>cR (jT.cO n xs) (cR (oM.cO n xs) (cT.none))
def ji.cut(r:Nat):Option dP:=match r with | 4=>some ⟨[0,4],[]⟩ | 5=>some ⟨[],[]⟩ | 8=>some ⟨[0,4,5,6],[]⟩ | _=>none
noncomputable def ji.t (z:ji.Z):List Item:=(dL (match z with | .z4 _ _=>4 | .z5=>5 | .z8 _ _ _ _=>8) 1000 [.code (Tryz.f161.body.getD .skip)]).getD []
def ji.s:ji.Z->St
 | .z4 z1 z2=>⟨fx 58 0 [(0,vs z1),(4,vb z2)],Mem.ofList [],0⟩
 | .z5=>⟨fx 58 0 [],Mem.ofList [],0⟩
 | .z8 z1 z2 z3 z4=>⟨fx 58 0 [(0,vs z1),(4,vb z2),(5,vi z3),(6,vi z4)],Mem.ofList [],0⟩
def ji.r4(n:Nat)(c:ji.Z->Option (Int × Bool))(z1:ByteArray)(z2:Bool):Option (Int × Bool):=
 (jT.F n ((z1.size:Nat):Int) 1 15).bind λp3=>
 bif !p3 then(c .z5)else(bif decide ((0:Int)<(z1.size:Nat))then(let y4:Int:=(((z1.data.getD 0 0).toNat:Nat):Int)
 bif y4==48 then(bif z2 then(c .z5)else(let y5:Bool:=decide (((z1.size:Nat):Int)>1)
 bif y5 then(c .z5)else(c (.z8 z1 z2 0 0))))else(c (.z8 z1 z2 0 0)))else none)
def ji.r5(n:Nat)(c:ji.Z->Option (Int × Bool))  : Option (Int × Bool):=
 some (0,false)
def ji.r8(n:Nat)(c:ji.Z->Option (Int × Bool))(z1:ByteArray)(z2:Bool)(z3 z4:Int):Option (Int × Bool):=
 let y6:Bool:=decide (z4<((z1.size:Nat):Int))
 bif y6 then(bif decide ((0:Int)<=z4)&&decide (z4<((z1.size:Nat):Int))then(let y7:Int:=(((z1.data.getD ((z4).toNat) 0).toNat:Nat):Int)
 (oM.F n y7).bind λp8=>
 bif !p8 then(some (0,false))else(bif decide ((0:Int)<=z4)&&decide (z4<((z1.size:Nat):Int))then(let y9:Int:=(((z1.data.getD ((z4).toNat) 0).toNat:Nat):Int)
 let nh:Int:=IntKind.i64.wrap (IntKind.u8.wrap (y9 - 48))
 let pw:Int:=IntKind.i64.wrap ((IntKind.i64.wrap (z3*10))+nh)
 c (.z8 z1 z2 pw (IntKind.i64.wrap (z4+1))))else none))else none)else(bif z2 then(some (IntKind.i64.wrap (0 - z3),true))else(some (z3,true)))
def ji.r(n:Nat)(c:ji.Z->Option (Int × Bool)):ji.Z->Option (Int × Bool)
 | .z4 z1 z2=>ji.r4 n c z1 z2
 | .z5=>ji.r5 n c
 | .z8 z1 z2 z3 z4=>ji.r8 n c z1 z2 z3 z4
def ji.e(n:Nat)(c:ji.Z->Option (Int × Bool))(a0:ByteArray):Option (Int × Bool):=
 let y1:Bool:=decide (((a0.size:Nat):Int)>0)
 bif y1 then(bif decide ((0:Int)<(a0.size:Nat))then(let y2:Int:=(((a0.data.getD 0 0).toNat:Nat):Int)
 bif y2==45 then(bif decide ((0:Int)<=1)&&decide ((1:Int)<=((a0.size:Nat):Int))then(c (.z4 (a0.extract 1 a0.size) (y2==45)))else none)else(c (.z4 a0 (y2==45))))else none)else(c (.z4 a0 false))
def ji.E(n:Nat)(c:ji.Z->Option (Int × Bool)):er.A->Option kU.T:=λa0=>ji.e n c a0
def ji.l(n:Nat):Nat->ji.Z->Option (Int × Bool):=ez (ji.r n)
def ji.F(n:Nat)(a0:ByteArray):Option (Int × Bool):=ji.e n (ji.l n n) a0
def ji.FA(n:Nat):er.A->Option kU.T:=ji.E n (ji.l n n)
theorem ji.cW(n:Nat):∀a p,ji.FA n a=some p->dc Tryz.prog 161 (er.i a) (kU.p p):=lN ji.cut ji.t ji.s (ji.E n) (ji.r n) cfg mixed dB kU.qi (ji.c8 n) Tryz.func161
def ji.via{R:Type}(n:Nat):List AV->(AV->Option R)->Option R:=d_ (ji.FA n) er.o kU.p
theorem ji.cO{R:Type}(n:Nat)(xs:List AV):cT (R:=R) Tryz.prog 161 xs (ji.via n xs):=c7 er.oi (λa=>by kernel_rfl) (ji.cW n) xs
abbrev gO.T:=Int × ByteArray × Bool
def gO.b:eK.A->List AV:=fun(a0,a1,a2)=>[.fn 165 [vs a1,vb a2]]
def gO.y(p:gO.T):AV:=vi p.1
def gO.w(p:gO.T):List AV:=[.fn 165 [vs p.2.1,vb p.2.2]]
def gO.p(p:gO.T):AV:=.eC [gO.y p,.eC (gO.w p)]
def gO.q(x:AV):Option gO.T:=match x with | .eC [.v (.int .i64 p0),.eC [.fn 165 [.v (.string p1),.v (.bool p2)]]]=>some (p0,p1,p2) | _=>none
theorem gO.qi:∀x p,gO.q x=some p->x=gO.p p:=by
 intro x p h;unfold gO.q at h;split at h
 ·cases h;rfl
 ·cases h
def gO.C{R:Type}(n:Nat)(f:FuncId)(xs:List AV):(AV->Option R)->Option R:=
 bif Nat.beq f 113 then eK.via n xs else bif Nat.beq f 161 then ji.via n xs else λ_=>none
theorem gO.c8{R:Type}(n:Nat):dt (R:=R) Tryz.prog (gO.C n):=λ_ xs=>cR (eK.cO n xs) (cR (ji.cO n xs) (cT.none))
def gO.cut(r:Nat):Option dP:=match r with  | _=>none
def gO.e(n:Nat)(a0 a1:ByteArray)(a2:Bool):Option (Int × ByteArray × Bool):=
 (eK.F n a0 a1 a2).bind λp1=>
 (ji.F n p1.1).bind λp2=>
 bif !p2.2 then(some (0,p1.2.1,true))else(bif decide ((0:Int)<(p1.1.size:Nat))then(let y3:Int:=(((p1.1.data.getD 0 0).toNat:Nat):Int)
 bif y3==45 then(some (0,p1.2.1,true))else(some (p2.1,p1.2.1,p1.2.2)))else none)
def gO.E(n:Nat):eK.A->Option gO.T:=fun(a0,a1,a2)=>gO.e n a0 a1 a2
def gO.F(n:Nat)(a0 a1:ByteArray)(a2:Bool):Option (Int × ByteArray × Bool):=gO.e n a0 a1 a2
def gO.FA(n:Nat):eK.A->Option gO.T:=gO.E n
def gO.fS:List (Nat × Nat × Fl × Nat):=[]
theorem gO.cW(n:Nat):∀a p,gO.FA n a=some p->gT Tryz.prog 115 (eK.i a) (gO.b a) (gO.y p) (gO.w p):=
 kf (G:=Gk 1) (C:=gO.C n) (cut:=gO.cut) (Z:=Empty) (t:=nofun) (s:=nofun) (fS:=gO.fS) (e:=λ_=>gO.E n) (r:=λ_ z=>nomatch z) (n:=n) (cfg.kb 1) mixed dB gO.qi (λa=>by kernel_rfl) (gO.c8 n) Tryz.func115 (by kernel_rfl) (by kernel_rfl) (λrec a=>by kernel_rfl) (λrec z=>nomatch z)
def gO.via{R:Type}(n:Nat):List AV->(AV->Option R)->Option R:=d_ (gO.FA n) eK.o gO.p
theorem gO.cO{R:Type}(n:Nat)(xs:List AV):cT (R:=R) Tryz.prog 115 xs (gO.via n xs):=jk (λ_=>rfl) eK.oi (gO.cW n) xs
def lT.b:eK.A->List AV:=fun(a0,a1,a2)=>[.fn 165 [vs a1,vb a2]]
def lT.y(p:eK.T):AV:=vs p.1
def lT.w(p:eK.T):List AV:=[.fn 165 [vs p.2.1,vb p.2.2]]
def lT.C{R:Type}(n:Nat)(f:FuncId)(xs:List AV):(AV->Option R)->Option R:=
 bif Nat.beq f 87 then iF.via n xs else bif Nat.beq f 113 then eK.via n xs else λ_=>none
theorem lT.c8{R:Type}(n:Nat):dt (R:=R) Tryz.prog (lT.C n):=λ_ xs=>cR (iF.cO n xs) (cR (eK.cO n xs) (cT.none))
def lT.cut(r:Nat):Option dP:=match r with  | _=>none
def lT.e(n:Nat)(a0 a1:ByteArray)(a2:Bool):Option (ByteArray × ByteArray × Bool):=
 (eK.F n a0 a1 a2).bind λp1=>
 bif p1.2.2 then(some (p1.1,p1.2.1,true))else((iF.F n p1.1).bind λp2=>
 some (p1.1,p1.2.1,!p2))
def lT.E(n:Nat):eK.A->Option eK.T:=fun(a0,a1,a2)=>lT.e n a0 a1 a2
def lT.F(n:Nat)(a0 a1:ByteArray)(a2:Bool):Option (ByteArray × ByteArray × Bool):=lT.e n a0 a1 a2
def lT.FA(n:Nat):eK.A->Option eK.T:=lT.E n
def lT.fS:List (Nat × Nat × Fl × Nat):=[]
theorem lT.cW(n:Nat):∀a p,lT.FA n a=some p->gT Tryz.prog 117 (eK.i a) (lT.b a) (lT.y p) (lT.w p):=
 kf (G:=Gk 1) (C:=lT.C n) (cut:=lT.cut) (Z:=Empty) (t:=nofun) (s:=nofun) (fS:=lT.fS) (e:=λ_=>lT.E n) (r:=λ_ z=>nomatch z) (n:=n) (cfg.kb 1) mixed dB eK.qi (λa=>by kernel_rfl) (lT.c8 n) Tryz.func117 (by kernel_rfl) (by kernel_rfl) (λrec a=>by kernel_rfl) (λrec z=>nomatch z)
def lT.via{R:Type}(n:Nat):List AV->(AV->Option R)->Option R:=d_ (lT.FA n) eK.o eK.p
theorem lT.cO{R:Type}(n:Nat)(xs:List AV):cT (R:=R) Tryz.prog 117 xs (lT.via n xs):=jk (λ_=>rfl) eK.oi (lT.cW n) xs
inductive kA.Z where
 | z2 (z1:List AV) (z2:ByteArray) (z3:Int)
def kA.C{R:Type}(n:Nat)(f:FuncId)(xs:List AV):(AV->Option R)->Option R:=
 λ_=>none
theorem kA.c8{R:Type}(n:Nat):dt (R:=R) Tryz.prog (kA.C n):=λ_ xs=>cT.none
def kA.cut(r:Nat):Option dP:=match r with | 2=>some ⟨[0,1,5],[]⟩ | _=>none
noncomputable def kA.t (z:kA.Z):List Item:=(dL (match z with | .z2 _ _ _=>2) 1000 [.code (Tryz.f116.body.getD .skip)]).getD []
def kA.s:kA.Z->St
 | .z2 z1 z2 z3=>⟨fx 19 0 [(0,.sl ⟨true,9,false⟩ 1 z1),(1,vs z2),(5,vi z3)],Mem.ofList [],0⟩
def kA.r2(n:Nat)(c:kA.Z->Option Int)(z1:List AV)(z2:ByteArray)(z3:Int):Option Int:=
 let y1:Bool:=decide (z3<((z1.length:Nat):Int))
 bif y1 then(bif decide ((0:Int)<=z3)&&decide (z3<((z1.length:Nat):Int))then(cN ((z1.getD ((z3).toNat) .undef).cells) λh2 r3=>
 df h2 λs4=>
 bif s4.toList==z2.toList then(some z3)else(c (.z2 z1 z2 (IntKind.i64.wrap (z3+1)))))else none)else(some (-1))
def kA.r(n:Nat)(c:kA.Z->Option Int):kA.Z->Option Int
 | .z2 z1 z2 z3=>kA.r2 n c z1 z2 z3
def kA.e(n:Nat)(c:kA.Z->Option Int)(a0:List AV)(a1:ByteArray):Option Int:=
 c (.z2 a0 a1 0)
def kA.E(n:Nat)(c:kA.Z->Option Int):iM.A->Option dU.T:=fun(a0,a1)=>kA.e n c a0 a1
def kA.l(n:Nat):Nat->kA.Z->Option Int:=ez (kA.r n)
def kA.F(n:Nat)(a0:List AV)(a1:ByteArray):Option Int:=kA.e n (kA.l n n) a0 a1
def kA.FA(n:Nat):iM.A->Option dU.T:=kA.E n (kA.l n n)
theorem kA.cW(n:Nat):∀a p,kA.FA n a=some p->dc Tryz.prog 116 (iM.i a) (dU.p p):=lN kA.cut kA.t kA.s (kA.E n) (kA.r n) cfg mixed dB dU.qi (kA.c8 n) Tryz.func116
def kA.via{R:Type}(n:Nat):List AV->(AV->Option R)->Option R:=d_ (kA.FA n) iM.o dU.p
theorem kA.cO{R:Type}(n:Nat)(xs:List AV):cT (R:=R) Tryz.prog 116 xs (kA.via n xs):=c7 iM.oi (λa=>by kernel_rfl) (kA.cW n) xs
abbrev jq.A:=ByteArray × Bool
abbrev jq.T:=Int × Int × Int × ByteArray × Bool
def jq.i:jq.A->List AV:=fun(a0,a1)=>[.ptr 0 0]
def jq.b:jq.A->List AV:=fun(a0,a1)=>[.fn 165 [vs a0,vb a1]]
def jq.o(xs:List AV):Option jq.A:=match xs with | [.ptr 0 0,.eC [.fn 165 [.v (.string a0),.v (.bool a1)]]]=>some (a0,a1) | _=>none
theorem jq.oi:∀xs a,jq.o xs=some a->xs=jq.i a++[.eC (jq.b a)]:=by
 intro xs a h;unfold jq.o at h;split at h
 ·cases h;rfl
 ·cases h
def jq.y(p:jq.T):AV:=AV.agg [vi p.1,vi p.2.1,vi p.2.2.1]
def jq.w(p:jq.T):List AV:=[.fn 165 [vs p.2.2.2.1,vb p.2.2.2.2]]
def jq.p(p:jq.T):AV:=.eC [jq.y p,.eC (jq.w p)]
def jq.q(x:AV):Option jq.T:=match x with | .eC [.agg [.v (.int .i64 p0),.v (.int .i64 p1),.v (.int .i64 p2)],.eC [.fn 165 [.v (.string p3),.v (.bool p4)]]]=>some (p0,p1,p2,p3,p4) | _=>none
theorem jq.qi:∀x p,jq.q x=some p->x=jq.p p:=by
 intro x p h;unfold jq.q at h;split at h
 ·cases h;rfl
 ·cases h
def jq.C{R:Type}(n:Nat)(f:FuncId)(xs:List AV):(AV->Option R)->Option R:=
 bif Nat.beq f 113 then eK.via n xs else bif Nat.beq f 114 then fk.via n xs else bif Nat.beq f 115 then gO.via n xs else bif Nat.beq f 116 then kA.via n xs else λ_=>none
theorem jq.c8{R:Type}(n:Nat):dt (R:=R) Tryz.prog (jq.C n):=λ_ xs=>cR (eK.cO n xs) (cR (fk.cO n xs) (cR (gO.cO n xs) (cR (kA.cO n xs) (cT.none))))
def jq.cut(r:Nat):Option dP:=match r with  | _=>none
def jq.e(n:Nat)(a0:ByteArray)(a1:Bool):Option (Int × Int × Int × ByteArray × Bool):=
 (eK.F n (⟨#[40]⟩:ByteArray) a0 a1).bind λp1=>
 (kA.F n [vs (⟨#[67,72,65,82]⟩:ByteArray),vs (⟨#[80,65,67,75,69,68]⟩:ByteArray),vs (⟨#[90,79,78,69,68]⟩:ByteArray),vs (⟨#[66,73,78,65,82,89]⟩:ByteArray)] p1.1).bind λp2=>
 bif p2==(-1)then(some (0,0,0,p1.2.1,true))else((fk.F n (⟨#[40]⟩:ByteArray) p1.2.1 p1.2.2).bind λp3=>
 bif p2==0 then((gO.F n (⟨#[41]⟩:ByteArray) p3.1 p3.2).bind λp4=>
 (fk.F n (⟨#[41]⟩:ByteArray) p4.2.1 p4.2.2).bind λp5=>
 some (p2,p4.1,0,p5.1,p5.2))else((gO.F n (⟨#[44]⟩:ByteArray) p3.1 p3.2).bind λp6=>
 (fk.F n (⟨#[44]⟩:ByteArray) p6.2.1 p6.2.2).bind λp7=>
 (gO.F n (⟨#[41]⟩:ByteArray) p7.1 p7.2).bind λp8=>
 (fk.F n (⟨#[41]⟩:ByteArray) p8.2.1 p8.2.2).bind λp9=>
 some (p2,p6.1,p8.1,p9.1,p9.2)))
def jq.E(n:Nat):jq.A->Option jq.T:=fun(a0,a1)=>jq.e n a0 a1
def jq.F(n:Nat)(a0:ByteArray)(a1:Bool):Option (Int × Int × Int × ByteArray × Bool):=jq.e n a0 a1
def jq.FA(n:Nat):jq.A->Option jq.T:=jq.E n
def jq.fS:List (Nat × Nat × Fl × Nat):=[]
theorem jq.cW(n:Nat):∀a p,jq.FA n a=some p->gT Tryz.prog 159 (jq.i a) (jq.b a) (jq.y p) (jq.w p):=
 kf (G:=Gk 1) (C:=jq.C n) (cut:=jq.cut) (Z:=Empty) (t:=nofun) (s:=nofun) (fS:=jq.fS) (e:=λ_=>jq.E n) (r:=λ_ z=>nomatch z) (n:=n) (cfg.kb 1) mixed dB jq.qi (λa=>by kernel_rfl) (jq.c8 n) Tryz.func159 (by kernel_rfl) (by kernel_rfl) (λrec a=>by kernel_rfl) (λrec z=>nomatch z)
def jq.via{R:Type}(n:Nat):List AV->(AV->Option R)->Option R:=d_ (jq.FA n) jq.o jq.p
theorem jq.cO{R:Type}(n:Nat)(xs:List AV):cT (R:=R) Tryz.prog 159 xs (jq.via n xs):=jk (λ_=>rfl) jq.oi (jq.cW n) xs
def oG.C{R:Type}(n:Nat)(Y:fK.A->Option ByteArray)(f:FuncId)(xs:List AV):(AV->Option R)->Option R:=
 bif Nat.beq f 59 then d_ Y fK.o hH.p xs else λ_=>none
theorem oG.c8{R:Type}(n:Nat)(Y:fK.A->Option ByteArray)(hY:∀a p,Y a=some p->dc Tryz.prog 59 (fK.i a) (hH.p p)):dt (R:=R) Tryz.prog (oG.C n Y):=λ_ xs=>cR (c7 fK.oi (λa=>by kernel_rfl) hY xs) (cT.none)
def oG.cut(r:Nat):Option dP:=match r with  | _=>none
def oG.e(n:Nat)(Y:fK.A->Option ByteArray)(a0:Int):Option ByteArray:=
 bif decide (a0<(-9))then(let y1:Int:=IntKind.i64.wrap (Int.tdiv a0 10)
 (Y (IntKind.i64.wrap (0 - y1))).bind λp2=>
 js (decide (1+p2.size<=9223372036854775807)) ((Y (IntKind.i64.wrap (0 - (Int.tmod a0 10)))).bind λp3=>
 js (decide (((⟨#[45]⟩:ByteArray)++p2).size+p3.size<=9223372036854775807)) (let y4:ByteArray:=((⟨#[45]⟩:ByteArray)++p2)++p3
 some y4)))else(bif decide (a0<0)then((Y (IntKind.i64.wrap (0 - a0))).bind λp5=>
 js (decide (1+p5.size<=9223372036854775807)) (some ((⟨#[45]⟩:ByteArray)++p5)))else(bif decide (a0<10)then(let y6:Int:=IntKind.i64.wrap ((48:Int)+a0)
 cX (strOf [vu (IntKind.u8.wrap y6)]) λbs7=>
 some (⟨bs7.toArray⟩:ByteArray))else(let y8:Int:=IntKind.i64.wrap (Int.tdiv a0 10)
 (Y y8).bind λp9=>
 let nh:Int:=IntKind.i64.wrap ((48:Int)+(Int.tmod a0 10))
 cX (strOf [vu (IntKind.u8.wrap nh)]) λTq=>
 js (decide (p9.size+(⟨Tq.toArray⟩:ByteArray).size<=9223372036854775807)) (let zC:ByteArray:=p9++(⟨Tq.toArray⟩:ByteArray)
 some zC))))
def oG.E(n:Nat)(Y:fK.A->Option ByteArray):fK.A->Option hH.T:=λa0=>oG.e n Y a0
def oG.D(n d:Nat):fK.A->Option hH.T:=FO (Z:=Empty) (λY _=>oG.E n Y) (λ_ _ z=>nomatch z) n d
theorem oG.K2(n d:Nat)(a0:Int):oG.D n (d+1) a0=oG.e n (oG.D n d) a0:=rfl
def oG.F(n:Nat)(a0:Int):Option ByteArray:=oG.D n n a0
def oG.FA(n:Nat):fK.A->Option hH.T:=oG.D n n
theorem oG.cW(n:Nat):∀a p,oG.FA n a=some p->dc Tryz.prog 59 (fK.i a) (hH.p p):=
 yo (C:=oG.C n) (cut:=oG.cut) (Z:=Empty) (t:=nofun) (s:=nofun) (e:=(λY _=>oG.E n Y)) (r:=(λ_ _ z=>nomatch z)) (n:=n) cfg mixed dB rfl hH.qi (oG.c8 n) Tryz.func59 (by kernel_rfl) (by kernel_rfl) (λY rec a=>by kernel_rfl) (λY rec z=>nomatch z) n
def oG.via{R:Type}(n:Nat):List AV->(AV->Option R)->Option R:=d_ (oG.FA n) fK.o hH.p
theorem oG.cO{R:Type}(n:Nat)(xs:List AV):cT (R:=R) Tryz.prog 59 xs (oG.via n xs):=c7 fK.oi (λa=>by kernel_rfl) (oG.cW n) xs
def uH.C{R:Type}(n:Nat)(f:FuncId)(xs:List AV):(AV->Option R)->Option R:=
 λ_=>none
theorem uH.c8{R:Type}(n:Nat):dt (R:=R) Tryz.prog (uH.C n):=λ_ xs=>cT.none
def uH.cut(r:Nat):Option dP:=match r with  | _=>none
def uH.e(n:Nat)(a0:Int):Option Int:=
 let y1:Int:=if IntKind.i64.wrap (0 - a0)>a0 then IntKind.i64.wrap (0 - a0)else a0
 some y1
def uH.E(n:Nat):fK.A->Option dU.T:=λa0=>uH.e n a0
def uH.F(n:Nat)(a0:Int):Option Int:=uH.e n a0
def uH.FA(n:Nat):fK.A->Option dU.T:=uH.E n
theorem uH.cW(n:Nat):∀a p,uH.FA n a=some p->dc Tryz.prog 128 (fK.i a) (dU.p p):=gp uH.cut (uH.E n) cfg mixed dB dU.qi (uH.c8 n) Tryz.func128
def uH.via{R:Type}(n:Nat):List AV->(AV->Option R)->Option R:=d_ (uH.FA n) fK.o dU.p
theorem uH.cO{R:Type}(n:Nat)(xs:List AV):cT (R:=R) Tryz.prog 128 xs (uH.via n xs):=c7 fK.oi (λa=>by kernel_rfl) (uH.cW n) xs
inductive ko.Z where
 | z2 (z1:ByteArray) (z2 z3:Int)
 | z8 (z1:ByteArray)
def ko.C{R:Type}(n:Nat)(f:FuncId)(xs:List AV):(AV->Option R)->Option R:=
 bif Nat.beq f 59 then oG.via n xs else bif Nat.beq f 128 then uH.via n xs else λ_=>none
theorem ko.c8{R:Type}(n:Nat):dt (R:=R) Tryz.prog (ko.C n):=λ_ xs=>cR (oG.cO n xs) (cR (uH.cO n xs) (cT.none))
def ko.cut(r:Nat):Option dP:=match r with | 2=>some ⟨[1,3],[]⟩ | 8=>some ⟨[3],[]⟩ | _=>none
noncomputable def ko.t (z:ko.Z):List Item:=(dL (match z with | .z2 _ _ _=>2 | .z8 _=>8) 1000 [.code (Tryz.f148.body.getD .skip)]).getD []
def ko.s:ko.Z->St
 | .z2 z1 z2 z3=>⟨fx 40 0 [(1,.ptr 0 0),(3,vs z1)],Mem.ofList [.box 183 [vi z2,vi z3]],1⟩
 | .z8 z1=>⟨fx 40 0 [(3,vs z1)],Mem.ofList [],0⟩
def ko.r2(n:Nat)(c:ko.Z->Option ByteArray)(z1:ByteArray)(z2 z3:Int):Option ByteArray:=
 let y3:Bool:=decide (((z1.size:Nat):Int)<=z3)
 bif y3 then(js (decide (1+z1.size<=9223372036854775807)) (c (.z2 ((⟨#[48]⟩:ByteArray)++z1) z2 z3)))else(bif decide (z3>0)then(let y4:Int:=IntKind.i64.wrap (((z1.size:Nat):Int) - z3)
 bif decide ((0:Int)<=y4)&&decide ((y4:Int)<=((z1.size:Nat):Int))then(js (decide ((z1.extract 0 (y4).toNat).size+1<=9223372036854775807)) (let y5:ByteArray:=(z1.extract 0 (y4).toNat)++(⟨#[46]⟩:ByteArray)
 let y6:Int:=IntKind.i64.wrap (((z1.size:Nat):Int) - z3)
 bif decide ((0:Int)<=y6)&&decide ((y6:Int)<=((z1.size:Nat):Int))then(let y7:ByteArray:=z1.extract (y6).toNat z1.size
 js (decide (y5.size+y7.size<=9223372036854775807)) (bif decide (z2<0)then(js (decide (1+(y5++y7).size<=9223372036854775807)) (let y8:ByteArray:=(⟨#[45]⟩:ByteArray)++(y5++y7)
 c (.z8 y8)))else(c (.z8 (y5++y7)))))else none))else none)else(bif decide (z2<0)then(js (decide (1+z1.size<=9223372036854775807)) (c (.z8 ((⟨#[45]⟩:ByteArray)++z1))))else(c (.z8 z1))))
def ko.r8(n:Nat)(c:ko.Z->Option ByteArray)(z1:ByteArray):Option ByteArray:=
 some z1
def ko.r(n:Nat)(c:ko.Z->Option ByteArray):ko.Z->Option ByteArray
 | .z2 z1 z2 z3=>ko.r2 n c z1 z2 z3
 | .z8 z1=>ko.r8 n c z1
def ko.e(n:Nat)(c:ko.Z->Option ByteArray)(a0 a1:Int):Option ByteArray:=
 (uH.F n a0).bind λp1=>
 (oG.F n p1).bind λp2=>
 c (.z2 p2 a0 a1)
def ko.E(n:Nat)(c:ko.Z->Option ByteArray):lS.A->Option hH.T:=fun(a0,a1)=>ko.e n c a0 a1
def ko.l(n:Nat):Nat->ko.Z->Option ByteArray:=ez (ko.r n)
def ko.F(n:Nat)(a0 a1:Int):Option ByteArray:=ko.e n (ko.l n n) a0 a1
def ko.FA(n:Nat):lS.A->Option hH.T:=ko.E n (ko.l n n)
theorem ko.cW(n:Nat):∀a p,ko.FA n a=some p->dc Tryz.prog 148 (lS.i a) (hH.p p):=lN ko.cut ko.t ko.s (ko.E n) (ko.r n) cfg mixed dB hH.qi (ko.c8 n) Tryz.func148
def ko.via{R:Type}(n:Nat):List AV->(AV->Option R)->Option R:=d_ (ko.FA n) lS.o hH.p
theorem ko.cO{R:Type}(n:Nat)(xs:List AV):cT (R:=R) Tryz.prog 148 xs (ko.via n xs):=c7 lS.oi (λa=>by kernel_rfl) (ko.cW n) xs
inductive kQ.Z where
 | z2 (z1:ByteArray) (z2:Int)
def kQ.C{R:Type}(n:Nat)(f:FuncId)(xs:List AV):(AV->Option R)->Option R:=
 bif Nat.beq f 27 then jT.via n xs else λ_=>none
theorem kQ.c8{R:Type}(n:Nat):dt (R:=R) Tryz.prog (kQ.C n):=λ_ xs=>cR (jT.cO n xs) (cT.none)
def kQ.cut(r:Nat):Option dP:=match r with | 2=>some ⟨[0,3],[]⟩ | _=>none
noncomputable def kQ.t (z:kQ.Z):List Item:=(dL (match z with | .z2 _ _=>2) 1000 [.code (Tryz.f149.body.getD .skip)]).getD []
def kQ.s:kQ.Z->St
 | .z2 z1 z2=>⟨fx 16 0 [(0,vs z1),(3,vi z2)],Mem.ofList [],0⟩
def kQ.r2(n:Nat)(c:kQ.Z->Option Bool)(z1:ByteArray)(z2:Int):Option Bool:=
 let y1:Bool:=decide (z2<((z1.size:Nat):Int))
 bif y1 then(bif decide ((0:Int)<=z2)&&decide (z2<((z1.size:Nat):Int))then(let y2:Int:=(((z1.data.getD ((z2).toNat) 0).toNat:Nat):Int)
 (jT.F n (IntKind.i64.wrap y2) 32 126).bind λp3=>
 bif !p3 then(some false)else(c (.z2 z1 (IntKind.i64.wrap (z2+1)))))else none)else(some true)
def kQ.r(n:Nat)(c:kQ.Z->Option Bool):kQ.Z->Option Bool
 | .z2 z1 z2=>kQ.r2 n c z1 z2
def kQ.e(n:Nat)(c:kQ.Z->Option Bool)(a0:ByteArray):Option Bool:=
 c (.z2 a0 0)
def kQ.E(n:Nat)(c:kQ.Z->Option Bool):er.A->Option ee.T:=λa0=>kQ.e n c a0
def kQ.l(n:Nat):Nat->kQ.Z->Option Bool:=ez (kQ.r n)
def kQ.F(n:Nat)(a0:ByteArray):Option Bool:=kQ.e n (kQ.l n n) a0
def kQ.FA(n:Nat):er.A->Option ee.T:=kQ.E n (kQ.l n n)
theorem kQ.cW(n:Nat):∀a p,kQ.FA n a=some p->dc Tryz.prog 149 (er.i a) (ee.p p):=lN kQ.cut kQ.t kQ.s (kQ.E n) (kQ.r n) cfg mixed dB ee.qi (kQ.c8 n) Tryz.func149
def kQ.via{R:Type}(n:Nat):List AV->(AV->Option R)->Option R:=d_ (kQ.FA n) er.o ee.p
theorem kQ.cO{R:Type}(n:Nat)(xs:List AV):cT (R:=R) Tryz.prog 149 xs (kQ.via n xs):=c7 er.oi (λa=>by kernel_rfl) (kQ.cW n) xs
abbrev eB.T:=Int × Int × Int × Int
def eB.p(p:eB.T):AV:=AV.agg [vi p.1,vi p.2.1,vi p.2.2.1,vi p.2.2.2]
def eB.q(x:AV):Option eB.T:=match x with | .agg [.v (.int .i64 p0),.v (.int .i64 p1),.v (.int .i64 p2),.v (.int .i64 p3)]=>some (p0,p1,p2,p3) | _=>none
theorem eB.qi:∀x p,eB.q x=some p->x=eB.p p:=by
 intro x p h;unfold eB.q at h;split at h
 ·cases h;rfl
 ·cases h
inductive eB.Z where
 | z7 (z1:ByteArray) (z2 z3 z4 z5 z6 z7 z8:Int)
 | z8 (z1:ByteArray) (z2 z3 z4 z5 z6 z7 z8:Int)
 | dk (z1 z2 z3 z4 z5:Int)
 | dC (z1:ByteArray) (z2 z3 z4 z5 z6 z7 z8 z9:Int)
 | dJ (z1:ByteArray) (z2 z3 z4 z5 z6 z7 z8 z9 dk dp:Int)
 | dO (z1:ByteArray) (z2 z3 z4 z5 z6 z7 z8 z9 dk dp:Int)
 | z24 (z1:ByteArray) (z2 z3 z4 z5 z6 z7:Int) (z8:Bool) (z9 dk dp z12:Int)
 | z25 (z1:ByteArray) (z2 z3 z4 z5 z6 z7 z8 z9 dk dp:Int)
def eB.C{R:Type}(n:Nat)(f:FuncId)(xs:List AV):(AV->Option R)->Option R:=
 bif Nat.beq f 76 then lU.via n xs else bif Nat.beq f 139 then oM.via n xs else λ_=>none
theorem eB.c8{R:Type}(n:Nat):dt (R:=R) Tryz.prog (eB.C n):=λ_ xs=>cR (lU.cO n xs) (cR (oM.cO n xs) (cT.none))
def eB.cut(r:Nat):Option dP:=match r with | 7=>some ⟨[0,2,3,4,5],[]⟩ | 8=>some ⟨[0,2,3,4,5],[]⟩ | 10=>some ⟨[2,3],[]⟩ | 13=>some ⟨[0,2,3,4,5,6],[]⟩ | 18=>some ⟨[0,2,4,5,7,8,9,10],[]⟩ | 19=>some ⟨[0,2,4,5,7,8,9,10],[]⟩ | 24=>some ⟨[0,2,4,5,7,8,9,10,11],[]⟩ | 25=>some ⟨[0,2,4,5,7,8,9,10],[]⟩ | _=>none
noncomputable def eB.t (z:eB.Z):List Item:=(dL (match z with | .z7 _ _ _ _ _ _ _ _=>7 | .z8 _ _ _ _ _ _ _ _=>8 | .dk _ _ _ _ _=>10 | .dC _ _ _ _ _ _ _ _ _=>13 | .dJ _ _ _ _ _ _ _ _ _ _ _=>18 | .dO _ _ _ _ _ _ _ _ _ _ _=>19 | .z24 _ _ _ _ _ _ _ _ _ _ _ _=>24 | .z25 _ _ _ _ _ _ _ _ _ _ _=>25) 1000 [.code (Tryz.f193.body.getD .skip)]).getD []
def eB.s:eB.Z->St
 | .z7 z1 z2 z3 z4 z5 z6 z7 z8=>⟨fx 136 0 [(0,vs z1),(2,.ptr 0 0),(3,vi z2),(4,vi z3),(5,vi z4)],Mem.ofList [.box 224 [vi z5,vi z6,vi z7,vi z8]],1⟩
 | .z8 z1 z2 z3 z4 z5 z6 z7 z8=>⟨fx 136 0 [(0,vs z1),(2,.ptr 0 0),(3,vi z2),(4,vi z3),(5,vi z4)],Mem.ofList [.box 224 [vi z5,vi z6,vi z7,vi z8]],1⟩
 | .dk z1 z2 z3 z4 z5=>⟨fx 136 0 [(2,.ptr 0 0),(3,vi z1)],Mem.ofList [.box 224 [vi z2,vi z3,vi z4,vi z5]],1⟩
 | .dC z1 z2 z3 z4 z5 z6 z7 z8 z9=>⟨fx 136 0 [(0,vs z1),(2,.ptr 0 0),(3,vi z2),(4,vi z3),(5,vi z4),(6,vu z5)],Mem.ofList [.box 224 [vi z6,vi z7,vi z8,vi z9]],1⟩
 | .dJ z1 z2 z3 z4 z5 z6 z7 z8 z9 dk dp=>⟨fx 136 0 [(0,vs z1),(2,.ptr 0 0),(4,vi z2),(5,vi z3),(7,vi z4),(8,vi z5),(9,vi z6),(10,vi z7)],Mem.ofList [.box 224 [vi z8,vi z9,vi dk,vi dp]],1⟩
 | .dO z1 z2 z3 z4 z5 z6 z7 z8 z9 dk dp=>⟨fx 136 0 [(0,vs z1),(2,.ptr 0 0),(4,vi z2),(5,vi z3),(7,vi z4),(8,vi z5),(9,vi z6),(10,vi z7)],Mem.ofList [.box 224 [vi z8,vi z9,vi dk,vi dp]],1⟩
 | .z24 z1 z2 z3 z4 z5 z6 z7 z8 z9 dk dp z12=>⟨fx 136 0 [(0,vs z1),(2,.ptr 0 0),(4,vi z2),(5,vi z3),(7,vi z4),(8,vi z5),(9,vi z6),(10,vi z7),(11,vb z8)],Mem.ofList [.box 224 [vi z9,vi dk,vi dp,vi z12]],1⟩
 | .z25 z1 z2 z3 z4 z5 z6 z7 z8 z9 dk dp=>⟨fx 136 0 [(0,vs z1),(2,.ptr 0 0),(4,vi z2),(5,vi z3),(7,vi z4),(8,vi z5),(9,vi z6),(10,vi z7)],Mem.ofList [.box 224 [vi z8,vi z9,vi dk,vi dp]],1⟩
def eB.r7(n:Nat)(c:eB.Z->Option (Int × Int × Int × Int))(z1:ByteArray)(z2 z3 z4 z5 z6 z7 z8:Int):Option (Int × Int × Int × Int):=
 let y5:Bool:=decide (z2<((z1.size:Nat):Int))
 bif y5 then(bif decide ((0:Int)<=z2)&&decide (z2<((z1.size:Nat):Int))then(let y6:Int:=(((z1.data.getD ((z2).toNat) 0).toNat:Nat):Int)
 bif y6==46 then(bif z4==(-1)then(bif decide (z2>z3)then(c (.z8 z1 z2 z3 z2 z5 z6 z7 z8))else(c (.dC z1 z2 z3 z4 y6 z5 z6 z7 z8)))else(c (.dC z1 z2 z3 z4 y6 z5 z6 z7 z8)))else(c (.dC z1 z2 z3 z4 y6 z5 z6 z7 z8)))else none)else(bif z2==z3 then(some (0,0,((z1.size:Nat):Int),9))else(let y7:Bool:=z4==(IntKind.i64.wrap (z2 - 1))
 bif y7 then(some (0,0,((z1.size:Nat):Int),9))else(c (.dJ z1 z3 z4 0 0 0 z3 z5 z6 z7 z8))))
def eB.r8(n:Nat)(c:eB.Z->Option (Int × Int × Int × Int))(z1:ByteArray)(z2 z3 z4 z5 z6 z7 z8:Int):Option (Int × Int × Int × Int):=
 c (.z7 z1 (IntKind.i64.wrap (z2+1)) z3 z4 z5 z6 z7 z8)
def eB.E4(n:Nat)(c:eB.Z->Option (Int × Int × Int × Int))(z1 z2 z3 z4 z5:Int):Option (Int × Int × Int × Int):=
 some (0,0,z1,8)
def eB.uN(n:Nat)(c:eB.Z->Option (Int × Int × Int × Int))(z1:ByteArray)(z2 z3 z4 z5 z6 z7 z8 z9:Int):Option (Int × Int × Int × Int):=
 (oM.F n z5).bind λp8=>
 bif p8 then(bif z4==(-1)then(let y9:Bool:=z2==(IntKind.i64.wrap (z3+1))
 bif y9 then(bif decide ((0:Int)<=z3)&&decide (z3<((z1.size:Nat):Int))then(let nh:Int:=(((z1.data.getD ((z3).toNat) 0).toNat:Nat):Int)
 bif !(nh==48)then(c (.z8 z1 z2 z3 z4 z6 z7 z8 z9))else(c (.dk z2 z6 z7 z8 z9)))else none)else(c (.z8 z1 z2 z3 z4 z6 z7 z8 z9)))else(c (.z8 z1 z2 z3 z4 z6 z7 z8 z9)))else(c (.dk z2 z6 z7 z8 z9))
def eB.sE(n:Nat)(c:eB.Z->Option (Int × Int × Int × Int))(z1:ByteArray)(z2 z3 z4 z5 z6 z7 z8 z9 dk dp:Int):Option (Int × Int × Int × Int):=
 let pw:Bool:=decide (z7<((z1.size:Nat):Int))
 bif pw then(bif z7==z3 then(c (.dO z1 z2 z3 z4 z5 z6 z7 z8 z9 dk dp))else(bif z3 != (-1)then(bif decide (z7>z3)then(c (.z24 z1 z2 z3 z4 z5 (IntKind.i64.wrap (z6+1)) z7 (decide (z7>z3)) z8 z9 dk dp))else(c (.z24 z1 z2 z3 z4 z5 z6 z7 (decide (z7>z3)) z8 z9 dk dp)))else(c (.z24 z1 z2 z3 z4 z5 z6 z7 false z8 z9 dk dp))))else(bif decide (z5>15)then(some (0,0,0,19))else(bif z2==1 then(some (IntKind.i64.wrap (0 - z4),z6,((z1.size:Nat):Int),0))else(some (z4,z6,((z1.size:Nat):Int),0))))
def eB.Ql(n:Nat)(c:eB.Z->Option (Int × Int × Int × Int))(z1:ByteArray)(z2 z3 z4 z5 z6 z7 z8 z9 dk dp:Int):Option (Int × Int × Int × Int):=
 c (.dJ z1 z2 z3 z4 z5 z6 (IntKind.i64.wrap (z7+1)) z8 z9 dk dp)
def eB.qW(n:Nat)(c:eB.Z->Option (Int × Int × Int × Int))(z1:ByteArray)(z2 z3 z4 z5 z6 z7:Int)(z8:Bool)(z9 dk dp z12:Int):Option (Int × Int × Int × Int):=
 bif z8 then(c (.z25 z1 z2 z3 z4 z5 z6 z7 z9 dk dp z12))else(bif decide (z5>0)then(c (.z25 z1 z2 z3 z4 z5 z6 z7 z9 dk dp z12))else(bif decide ((0:Int)<=z7)&&decide (z7<((z1.size:Nat):Int))then(let zC:Int:=(((z1.data.getD ((z7).toNat) 0).toNat:Nat):Int)
 bif zC != 48 then(c (.z25 z1 z2 z3 z4 z5 z6 z7 z9 dk dp z12))else(bif decide (z5<=15)then(let HG:Int:=IntKind.i64.wrap ((10:Int)*z4)
 bif decide ((0:Int)<=z7)&&decide (z7<((z1.size:Nat):Int))then(let xS:Int:=(((z1.data.getD ((z7).toNat) 0).toNat:Nat):Int)
 let K5:Int:=IntKind.i64.wrap (IntKind.u8.wrap (xS - 48))
 c (.dO z1 z2 z3 (IntKind.i64.wrap (HG+K5)) z5 z6 z7 z9 dk dp z12))else none)else(c (.dO z1 z2 z3 z4 z5 z6 z7 z9 dk dp z12))))else none))
def eB.IZ(n:Nat)(c:eB.Z->Option (Int × Int × Int × Int))(z1:ByteArray)(z2 z3 z4 z5 z6 z7 z8 z9 dk dp:Int):Option (Int × Int × Int × Int):=
 let C9:Bool:=decide ((IntKind.i64.wrap (z5+1))<=15)
 bif C9 then(let If:Int:=IntKind.i64.wrap ((10:Int)*z4)
 bif decide ((0:Int)<=z7)&&decide (z7<((z1.size:Nat):Int))then(let Od:Int:=(((z1.data.getD ((z7).toNat) 0).toNat:Nat):Int)
 let TB:Int:=IntKind.i64.wrap (IntKind.u8.wrap (Od - 48))
 c (.dO z1 z2 z3 (IntKind.i64.wrap (If+TB)) (IntKind.i64.wrap (z5+1)) z6 z7 z8 z9 dk dp))else none)else(c (.dO z1 z2 z3 z4 (IntKind.i64.wrap (z5+1)) z6 z7 z8 z9 dk dp))
def eB.r(n:Nat)(c:eB.Z->Option (Int × Int × Int × Int)):eB.Z->Option (Int × Int × Int × Int)
 | .z7 z1 z2 z3 z4 z5 z6 z7 z8=>eB.r7 n c z1 z2 z3 z4 z5 z6 z7 z8
 | .z8 z1 z2 z3 z4 z5 z6 z7 z8=>eB.r8 n c z1 z2 z3 z4 z5 z6 z7 z8
 | .dk z1 z2 z3 z4 z5=>eB.E4 n c z1 z2 z3 z4 z5
 | .dC z1 z2 z3 z4 z5 z6 z7 z8 z9=>eB.uN n c z1 z2 z3 z4 z5 z6 z7 z8 z9
 | .dJ z1 z2 z3 z4 z5 z6 z7 z8 z9 dk dp=>eB.sE n c z1 z2 z3 z4 z5 z6 z7 z8 z9 dk dp
 | .dO z1 z2 z3 z4 z5 z6 z7 z8 z9 dk dp=>eB.Ql n c z1 z2 z3 z4 z5 z6 z7 z8 z9 dk dp
 | .z24 z1 z2 z3 z4 z5 z6 z7 z8 z9 dk dp z12=>eB.qW n c z1 z2 z3 z4 z5 z6 z7 z8 z9 dk dp z12
 | .z25 z1 z2 z3 z4 z5 z6 z7 z8 z9 dk dp=>eB.IZ n c z1 z2 z3 z4 z5 z6 z7 z8 z9 dk dp
def eB.e(n:Nat)(c:eB.Z->Option (Int × Int × Int × Int))(a0:ByteArray):Option (Int × Int × Int × Int):=
 let y1:Bool:=decide (((a0.size:Nat):Int)>40)
 bif y1 then(some (0,0,0,2))else(let y2:Bool:=a0.toList==(⟨#[]⟩:ByteArray).toList
 bif y2 then(some (0,0,0,1))else(bif decide ((0:Int)<(a0.size:Nat))then(let y3:Int:=(((a0.data.getD 0 0).toNat:Nat):Int)
 (lU.F n (y3==45)).bind λp4=>
 c (.z7 a0 p4 p4 (-1) 0 0 0 0))else none))
def eB.E(n:Nat)(c:eB.Z->Option (Int × Int × Int × Int)):er.A->Option eB.T:=λa0=>eB.e n c a0
def eB.l(n:Nat):Nat->eB.Z->Option (Int × Int × Int × Int):=ez (eB.r n)
def eB.F(n:Nat)(a0:ByteArray):Option (Int × Int × Int × Int):=eB.e n (eB.l n n) a0
def eB.FA(n:Nat):er.A->Option eB.T:=eB.E n (eB.l n n)
theorem eB.cW(n:Nat):∀a p,eB.FA n a=some p->dc Tryz.prog 193 (er.i a) (eB.p p):=lN eB.cut eB.t eB.s (eB.E n) (eB.r n) cfg mixed dB eB.qi (eB.c8 n) Tryz.func193
def eB.via{R:Type}(n:Nat):List AV->(AV->Option R)->Option R:=d_ (eB.FA n) er.o eB.p
theorem eB.cO{R:Type}(n:Nat)(xs:List AV):cT (R:=R) Tryz.prog 193 xs (eB.via n xs):=c7 er.oi (λa=>by kernel_rfl) (eB.cW n) xs
inductive jj.Z where
 | z5 (z1:ByteArray) (z2:Int) (z3:List AV)
 | z9 (z1:ByteArray) (z2 z3 z4:Int) (z5:List AV)
def jj.C{R:Type}(n:Nat)(f:FuncId)(xs:List AV):(AV->Option R)->Option R:=
 bif Nat.beq f 27 then jT.via n xs else bif Nat.beq f 139 then oM.via n xs else λ_=>none
theorem jj.c8{R:Type}(n:Nat):dt (R:=R) Tryz.prog (jj.C n):=λ_ xs=>cR (jT.cO n xs) (cR (oM.cO n xs) (cT.none))
def jj.cut(r:Nat):Option dP:=match r with | 5=>some ⟨[0,4,5],[(4,none,⟨true,5,false⟩,1)]⟩ | 9=>some ⟨[0,4,5,6,7],[]⟩ | _=>none
noncomputable def jj.t (z:jj.Z):List Item:=(dL (match z with | .z5 _ _ _=>5 | .z9 _ _ _ _ _=>9) 1000 [.code (Tryz.f194.body.getD .skip)]).getD []
def jj.s:jj.Z->St
 | .z5 z1 z2 z3=>⟨fx 55 0 [(0,vs z1),(4,.own 0 0 none),(5,vi z2)],Mem.ofList [.row ⟨true,5,false⟩ 1 z3],1⟩
 | .z9 z1 z2 z3 z4 z5=>⟨fx 55 0 [(0,vs z1),(4,.own 0 0 none),(5,vi z2),(6,vi z3),(7,vi z4)],Mem.ofList [.row ⟨true,5,false⟩ 1 z5],1⟩
def jj.r5(n:Nat)(c:jj.Z->Option (ByteArray × Bool))(z1:ByteArray)(z2:Int)(z3:List AV):Option (ByteArray × Bool):=
 let y2:Bool:=decide (z2<((z1.size:Nat):Int))
 bif y2 then(c (.z9 z1 z2 0 0 z3))else(cX (strOf z3) λbs3=>
 some ((⟨bs3.toArray⟩:ByteArray),true))
def jj.r9(n:Nat)(c:jj.Z->Option (ByteArray × Bool))(z1:ByteArray)(z2 z3 z4:Int)(z5:List AV):Option (ByteArray × Bool):=
 bif decide (z4<2)then(bif decide ((0:Int)<=IntKind.i64.wrap (z2+z4))&&decide (IntKind.i64.wrap (z2+z4)<((z1.size:Nat):Int))then(let y4:Int:=(((z1.data.getD ((IntKind.i64.wrap (z2+z4)).toNat) 0).toNat:Nat):Int)
 (oM.F n y4).bind λp5=>
 bif p5 then(let y6:Int:=IntKind.i64.wrap (IntKind.u8.wrap (y4 - 48))
 let y7:Int:=IntKind.i64.wrap ((IntKind.i64.wrap (z3*16))+y6)
 c (.z9 z1 z2 y7 (IntKind.i64.wrap (z4+1)) z5))else((jT.F n (IntKind.i64.wrap y4) 65 70).bind λp8=>
 bif p8 then(let y9:Int:=IntKind.i64.wrap (IntKind.u8.wrap (y4 - 65))
 let nh:Int:=IntKind.i64.wrap ((IntKind.i64.wrap (z3*16))+y9)
 c (.z9 z1 z2 (IntKind.i64.wrap (nh+10)) (IntKind.i64.wrap (z4+1)) z5))else(some ((⟨#[]⟩:ByteArray),false))))else none)else(bif decide (z5.length+[vu (IntKind.u8.wrap z3)].length<=fe)then(let pw:List AV:=z5++[vu (IntKind.u8.wrap z3)]
 c (.z5 z1 (IntKind.i64.wrap (z2+2)) pw))else none)
def jj.r(n:Nat)(c:jj.Z->Option (ByteArray × Bool)):jj.Z->Option (ByteArray × Bool)
 | .z5 z1 z2 z3=>jj.r5 n c z1 z2 z3
 | .z9 z1 z2 z3 z4 z5=>jj.r9 n c z1 z2 z3 z4 z5
def jj.e(n:Nat)(c:jj.Z->Option (ByteArray × Bool))(a0:ByteArray):Option (ByteArray × Bool):=
 let y1:Int:=Int.tmod ((a0.size:Nat):Int) 2
 bif y1 != 0 then(some ((⟨#[]⟩:ByteArray),false))else(c (.z5 a0 0 []))
def jj.E(n:Nat)(c:jj.Z->Option (ByteArray × Bool)):er.A->Option jY.T:=λa0=>jj.e n c a0
def jj.l(n:Nat):Nat->jj.Z->Option (ByteArray × Bool):=ez (jj.r n)
def jj.F(n:Nat)(a0:ByteArray):Option (ByteArray × Bool):=jj.e n (jj.l n n) a0
def jj.FA(n:Nat):er.A->Option jY.T:=jj.E n (jj.l n n)
theorem jj.cW(n:Nat):∀a p,jj.FA n a=some p->dc Tryz.prog 194 (er.i a) (jY.p p):=lN jj.cut jj.t jj.s (jj.E n) (jj.r n) cfg mixed dB jY.qi (jj.c8 n) Tryz.func194
def jj.via{R:Type}(n:Nat):List AV->(AV->Option R)->Option R:=d_ (jj.FA n) er.o jY.p
theorem jj.cO{R:Type}(n:Nat)(xs:List AV):cT (R:=R) Tryz.prog 194 xs (jj.via n xs):=c7 er.oi (λa=>by kernel_rfl) (jj.cW n) xs
abbrev eV.A:=Int × Int × Int × ByteArray × Bool
abbrev eV.T:=Int × ByteArray × ByteArray × Bool
def eV.i:eV.A->List AV:=fun(a0,a1,a2,a3,a4)=>[.ptr 0 0,AV.agg [vi a0,vi a1,vi a2]]
def eV.b:eV.A->List AV:=fun(a0,a1,a2,a3,a4)=>[.fn 165 [vs a3,vb a4]]
def eV.o(xs:List AV):Option eV.A:=match xs with | [.ptr 0 0,.agg [.v (.int .i64 a0),.v (.int .i64 a1),.v (.int .i64 a2)],.eC [.fn 165 [.v (.string a3),.v (.bool a4)]]]=>some (a0,a1,a2,a3,a4) | _=>none
theorem eV.oi:∀xs a,eV.o xs=some a->xs=eV.i a++[.eC (eV.b a)]:=by
 intro xs a h;unfold eV.o at h;split at h
 ·cases h;rfl
 ·cases h
def eV.y(p:eV.T):AV:=AV.agg [vi p.1,vs p.2.1]
def eV.w(p:eV.T):List AV:=[.fn 165 [vs p.2.2.1,vb p.2.2.2]]
def eV.p(p:eV.T):AV:=.eC [eV.y p,.eC (eV.w p)]
def eV.q(x:AV):Option eV.T:=match x with | .eC [.agg [.v (.int .i64 p0),.v (.string p1)],.eC [.fn 165 [.v (.string p2),.v (.bool p3)]]]=>some (p0,p1,p2,p3) | _=>none
theorem eV.qi:∀x p,eV.q x=some p->x=eV.p p:=by
 intro x p h;unfold eV.q at h;split at h
 ·cases h;rfl
 ·cases h
inductive eV.Z where
 | z6 (z1:ByteArray) (z2:Bool) (z3:Int) (z4:ByteArray) (z5:Int) (z6:ByteArray)
 | dC (z1:ByteArray) (z2:Bool) (z3:Int) (z4:ByteArray) (z5:Int) (z6:ByteArray)
 | dO (z1:ByteArray) (z2:Bool) (z3:Int) (z4:ByteArray) (z5:Int) (z6:ByteArray)
 | fD (z1 z2:ByteArray) (z3:Bool) (z4:Int) (z5:ByteArray) (z6:Int) (z7:ByteArray)
 | iD (z1:ByteArray) (z2:Bool) (z3:Int) (z4:ByteArray) (z5:Int) (z6:ByteArray)
def eV.C{R:Type}(n:Nat)(f:FuncId)(xs:List AV):(AV->Option R)->Option R:=
 bif Nat.beq f 113 then eK.via n xs else bif Nat.beq f 114 then fk.via n xs else bif Nat.beq f 148 then ko.via n xs else bif Nat.beq f 149 then kQ.via n xs else bif Nat.beq f 193 then eB.via n xs else bif Nat.beq f 194 then jj.via n xs else λ_=>none
theorem eV.c8{R:Type}(n:Nat):dt (R:=R) Tryz.prog (eV.C n):=λ_ xs=>cR (eK.cO n xs) (cR (fk.cO n xs) (cR (ko.cO n xs) (cR (kQ.cO n xs) (cR (eB.cO n xs) (cR (jj.cO n xs) (cT.none))))))
def eV.cut(r:Nat):Option dP:=match r with | 6=>some ⟨[0,4,5],[]⟩ | 13=>some ⟨[0,4,5],[]⟩ | 19=>some ⟨[0,4,5],[]⟩ | 27=>some ⟨[0,4,5,9],[]⟩ | 29=>some ⟨[0,4,5],[]⟩ | _=>none
noncomputable def eV.t (z:eV.Z):List Item:=(dL (match z with | .z6 _ _ _ _ _ _=>6 | .dC _ _ _ _ _ _=>13 | .dO _ _ _ _ _ _=>19 | .fD _ _ _ _ _ _ _=>27 | .iD _ _ _ _ _ _=>29) 1000 [.code (Tryz.f160.body.getD .skip)]).getD []
def eV.s:eV.Z->St
 | .z6 z1 z2 z3 z4 z5 z6=>⟨fx 182 0 [(0,.ptr 0 0),(4,.ptr 1 0),(5,.ptr 2 0)],Mem.ofList [.box 165 [vs z1,vb z2],.box 72 [vi z3,vs z4],.box 72 [vi z5,vs z6]],3⟩
 | .dC z1 z2 z3 z4 z5 z6=>⟨fx 182 0 [(0,.ptr 0 0),(4,.ptr 1 0),(5,.ptr 2 0)],Mem.ofList [.box 165 [vs z1,vb z2],.box 72 [vi z3,vs z4],.box 72 [vi z5,vs z6]],3⟩
 | .dO z1 z2 z3 z4 z5 z6=>⟨fx 182 0 [(0,.ptr 0 0),(4,.ptr 1 0),(5,.ptr 2 0)],Mem.ofList [.box 165 [vs z1,vb z2],.box 72 [vi z3,vs z4],.box 72 [vi z5,vs z6]],3⟩
 | .fD z1 z2 z3 z4 z5 z6 z7=>⟨fx 182 0 [(0,.ptr 0 0),(4,.ptr 1 0),(5,.ptr 2 0),(9,vs z1)],Mem.ofList [.box 165 [vs z2,vb z3],.box 72 [vi z4,vs z5],.box 72 [vi z6,vs z7]],3⟩
 | .iD z1 z2 z3 z4 z5 z6=>⟨fx 182 0 [(0,.ptr 0 0),(4,.ptr 1 0),(5,.ptr 2 0)],Mem.ofList [.box 165 [vs z1,vb z2],.box 72 [vi z3,vs z4],.box 72 [vi z5,vs z6]],3⟩
def eV.r6(n:Nat)(c:eV.Z->Option (Int × ByteArray × ByteArray × Bool))(z1:ByteArray)(z2:Bool)(z3:Int)(z4:ByteArray)(z5:Int)(z6:ByteArray):Option (Int × ByteArray × ByteArray × Bool):=
 bif !z2 then(bif((z1.size:Nat):Int)==0 then(c (.dC z1 true z3 z4 z5 z6))else(bif decide ((0:Int)<(z1.size:Nat))then(let C9:Int:=(((z1.data.getD 0 0).toNat:Nat):Int)
 bif C9==39 then(let If:Bool:=decide (((z1.size:Nat):Int)<2)
 bif If then(c (.dC z1 z2 z3 z4 z5 z6))else(bif decide ((1:Int)<(z1.size:Nat))then(let Od:Int:=(((z1.data.getD 1 0).toNat:Nat):Int)
 bif Od != 39 then(c (.dC z1 z2 z3 z4 z5 z6))else(bif decide ((0:Int)<=1)&&decide ((1:Int)<=((z1.size:Nat):Int))then(bif decide ((0:Int)<=1)&&decide ((1:Int)<=(((z1.extract 1 z1.size).size:Nat):Int))then(let TB:ByteArray:=(z1.extract 1 z1.size).extract 0 1
 js (decide (z6.size+TB.size<=9223372036854775807)) (bif decide ((0:Int)<=1)&&decide ((1:Int)<=(((z1.extract 1 z1.size).size:Nat):Int))then(let QP:ByteArray:=(z1.extract 1 z1.size).extract 1 (z1.extract 1 z1.size).size
 c (.z6 QP z2 z3 z4 z5 (z6++TB)))else none))else none)else none))else none))else(bif decide ((0:Int)<=1)&&decide ((1:Int)<=((z1.size:Nat):Int))then(js (decide (z6.size+(z1.extract 0 1).size<=9223372036854775807)) (bif decide ((0:Int)<=1)&&decide ((1:Int)<=((z1.size:Nat):Int))then(c (.z6 (z1.extract 1 z1.size) z2 z3 z4 z5 (z6++(z1.extract 0 1))))else none))else none))else none))else(c (.dC z1 z2 z3 z4 z5 z6))
def eV.uN(n:Nat)(c:eV.Z->Option (Int × ByteArray × ByteArray × Bool))(z1:ByteArray)(z2:Bool)(z3:Int)(z4:ByteArray)(z5:Int)(z6:ByteArray):Option (Int × ByteArray × ByteArray × Bool):=
 (fk.F n (⟨#[39]⟩:ByteArray) z1 z2).bind λDb=>
 bif Db.2 then(c (.iD Db.1 true z3 z4 z5 z6))else((kQ.F n z6).bind λQm=>
 c (.iD Db.1 (!Qm) z3 z4 z5 z6))
def eV.Ql(n:Nat)(c:eV.Z->Option (Int × ByteArray × ByteArray × Bool))(z1:ByteArray)(z2:Bool)(z3:Int)(z4:ByteArray)(z5:Int)(z6:ByteArray):Option (Int × ByteArray × ByteArray × Bool):=
 some (z5,z6,z1,true)
def eV.yj(n:Nat)(c:eV.Z->Option (Int × ByteArray × ByteArray × Bool))(z1 z2:ByteArray)(z3:Bool)(z4:Int)(z5:ByteArray)(z6:Int)(z7:ByteArray):Option (Int × ByteArray × ByteArray × Bool):=
 (fk.F n (⟨#[39]⟩:ByteArray) z2 z3).bind λyq=>
 c (.iD yq.1 yq.2 z4 z5 z6 z1)
def eV.HM(n:Nat)(c:eV.Z->Option (Int × ByteArray × ByteArray × Bool))(z1:ByteArray)(z2:Bool)(z3:Int)(z4:ByteArray)(z5:Int)(z6:ByteArray):Option (Int × ByteArray × ByteArray × Bool):=
 (fk.F n (⟨#[41]⟩:ByteArray) z1 z2).bind λI4=>
 some (z5,z6,I4.1,I4.2)
def eV.r(n:Nat)(c:eV.Z->Option (Int × ByteArray × ByteArray × Bool)):eV.Z->Option (Int × ByteArray × ByteArray × Bool)
 | .z6 z1 z2 z3 z4 z5 z6=>eV.r6 n c z1 z2 z3 z4 z5 z6
 | .dC z1 z2 z3 z4 z5 z6=>eV.uN n c z1 z2 z3 z4 z5 z6
 | .dO z1 z2 z3 z4 z5 z6=>eV.Ql n c z1 z2 z3 z4 z5 z6
 | .fD z1 z2 z3 z4 z5 z6 z7=>eV.yj n c z1 z2 z3 z4 z5 z6 z7
 | .iD z1 z2 z3 z4 z5 z6=>eV.HM n c z1 z2 z3 z4 z5 z6
def eV.e(n:Nat)(c:eV.Z->Option (Int × ByteArray × ByteArray × Bool))(a0 a1 a2:Int)(a3:ByteArray)(a4:Bool):Option (Int × ByteArray × ByteArray × Bool):=
 (fk.F n (⟨#[73,78,73,84,40]⟩:ByteArray) a3 a4).bind λp1=>
 bif p1.2 then(some (0,(⟨#[]⟩:ByteArray),p1.1,p1.2))else(bif a0 != 0 then((eK.F n (⟨#[41]⟩:ByteArray) p1.1 p1.2).bind λp2=>
 (eB.F n p2.1).bind λp3=>
 bif p3.2.2.2 != 0 then(c (.dO p2.2.1 p2.2.2 0 (⟨#[]⟩:ByteArray) 0 (⟨#[]⟩:ByteArray)))else(let y4:Bool:=p3.2.2.1 != ((p2.1.size:Nat):Int)
 bif y4 then(c (.dO p2.2.1 p2.2.2 0 (⟨#[]⟩:ByteArray) 0 (⟨#[]⟩:ByteArray)))else(bif p3.2.1 != a2 then(c (.dO p2.2.1 p2.2.2 0 (⟨#[]⟩:ByteArray) 0 (⟨#[]⟩:ByteArray)))else((ko.F n p3.1 p3.2.1).bind λp5=>
 bif !(p5.toList==p2.1.toList)then(c (.dO p2.2.1 p2.2.2 0 (⟨#[]⟩:ByteArray) 0 (⟨#[]⟩:ByteArray)))else(c (.iD p2.2.1 p2.2.2 0 (⟨#[]⟩:ByteArray) p3.1 (⟨#[]⟩:ByteArray)))))))else(let y6:Bool:=decide (((p1.1.size:Nat):Int)>0)
 bif y6 then(bif decide ((0:Int)<(p1.1.size:Nat))then(let y7:Int:=(((p1.1.data.getD 0 0).toNat:Nat):Int)
 bif y7==88 then((fk.F n (⟨#[88,39]⟩:ByteArray) p1.1 p1.2).bind λp8=>
 (eK.F n (⟨#[39]⟩:ByteArray) p8.1 p8.2).bind λp9=>
 (jj.F n p9.1).bind λku=>
 bif p9.2.2 then(c (.fD ku.1 p9.2.1 true 0 (⟨#[]⟩:ByteArray) 0 (⟨#[]⟩:ByteArray)))else(bif !ku.2 then(c (.fD ku.1 p9.2.1 true 0 (⟨#[]⟩:ByteArray) 0 (⟨#[]⟩:ByteArray)))else((kQ.F n ku.1).bind λln=>
 c (.fD ku.1 p9.2.1 ln 0 (⟨#[]⟩:ByteArray) 0 (⟨#[]⟩:ByteArray)))))else((fk.F n (⟨#[39]⟩:ByteArray) p1.1 p1.2).bind λnV=>
 c (.z6 nV.1 nV.2 0 (⟨#[]⟩:ByteArray) 0 (⟨#[]⟩:ByteArray))))else none)else((fk.F n (⟨#[39]⟩:ByteArray) p1.1 p1.2).bind λkR=>
 c (.z6 kR.1 kR.2 0 (⟨#[]⟩:ByteArray) 0 (⟨#[]⟩:ByteArray)))))
def eV.E(n:Nat)(c:eV.Z->Option (Int × ByteArray × ByteArray × Bool)):eV.A->Option eV.T:=fun(a0,a1,a2,a3,a4)=>eV.e n c a0 a1 a2 a3 a4
def eV.l(n:Nat):Nat->eV.Z->Option (Int × ByteArray × ByteArray × Bool):=ez (eV.r n)
def eV.F(n:Nat)(a0 a1 a2:Int)(a3:ByteArray)(a4:Bool):Option (Int × ByteArray × ByteArray × Bool):=eV.e n (eV.l n n) a0 a1 a2 a3 a4
def eV.FA(n:Nat):eV.A->Option eV.T:=eV.E n (eV.l n n)
def eV.fS:List (Nat × Nat × Fl × Nat):=[]
theorem eV.cW(n:Nat):∀a p,eV.FA n a=some p->gT Tryz.prog 160 (eV.i a) (eV.b a) (eV.y p) (eV.w p):=
 kf (G:=Gk 1) (C:=eV.C n) (cut:=eV.cut) (t:=eV.t) (s:=eV.s) (fS:=eV.fS) (e:=eV.E n) (r:=eV.r n) (n:=n) (cfg.kb 1) mixed dB eV.qi (λa=>by kernel_rfl) (eV.c8 n) Tryz.func160 (by kernel_rfl) (by kernel_rfl) (λrec a=>by kernel_rfl) (λrec z=>by cases z<;>kernel_rfl)
def eV.via{R:Type}(n:Nat):List AV->(AV->Option R)->Option R:=d_ (eV.FA n) eV.o eV.p
theorem eV.cO{R:Type}(n:Nat)(xs:List AV):cT (R:=R) Tryz.prog 160 xs (eV.via n xs):=jk (λ_=>rfl) eV.oi (eV.cW n) xs
inductive gP.Z where
 | z12 (z1:ByteArray) (z2 z3 z4 z5 z6:Int) (z7 z8:ByteArray) (z9 dk:Int) (dp:ByteArray) (z12:Bool) (dC:ByteArray) (dG dE dM dS dJ:Int) (dO z20:ByteArray) (z21 z22:Int)
 | dE (z1:ByteArray) (z2 z3 z4 z5 z6:Int) (z7 z8:ByteArray) (z9 dk:Int) (dp:ByteArray) (z12:Bool) (dC:ByteArray) (dG dE dM dS dJ:Int) (dO z20:ByteArray) (z21 z22:Int)
 | mw (z1:ByteArray) (z2 z3 z4 z5 z6:Int) (z7 z8:ByteArray) (z9 dk:Int) (dp:ByteArray) (z12:Bool) (dC:ByteArray) (dG dE dM dS dJ:Int) (dO z20:ByteArray) (z21 z22:Int)
def gP.C{R:Type}(n:Nat)(f:FuncId)(xs:List AV):(AV->Option R)->Option R:=
 bif Nat.beq f 113 then eK.via n xs else bif Nat.beq f 114 then fk.via n xs else bif Nat.beq f 115 then gO.via n xs else bif Nat.beq f 117 then lT.via n xs else bif Nat.beq f 159 then jq.via n xs else bif Nat.beq f 160 then eV.via n xs else λ_=>none
theorem gP.c8{R:Type}(n:Nat):dt (R:=R) Tryz.prog (gP.C n):=λ_ xs=>cR (eK.cO n xs) (cR (fk.cO n xs) (cR (gO.cO n xs) (cR (lT.cO n xs) (cR (jq.cO n xs) (cR (eV.cO n xs) (cT.none))))))
def gP.cut(r:Nat):Option dP:=match r with | 12=>some ⟨[2,4,6],[]⟩ | 15=>some ⟨[2,4,6],[]⟩ | 36=>some ⟨[2,4,6],[]⟩ | _=>none
noncomputable def gP.t (z:gP.Z):List Item:=(dL (match z with | .z12 _ _ _ _ _ _ _ _ _ _ _ _ _ _ _ _ _ _ _ _ _ _=>12 | .dE _ _ _ _ _ _ _ _ _ _ _ _ _ _ _ _ _ _ _ _ _ _=>15 | .mw _ _ _ _ _ _ _ _ _ _ _ _ _ _ _ _ _ _ _ _ _ _=>36) 1000 [.code (Tryz.f112.body.getD .skip)]).getD []
def gP.s:gP.Z->St
 | .z12 z1 z2 z3 z4 z5 z6 z7 z8 z9 dk dp z12 dC dG dE dM dS dJ dO z20 z21 z22=>⟨fx 135 0 [(2,.ptr 0 0),(4,.ptr 1 0),(6,.ptr 2 0)],Mem.ofList [.box 74 [vs z1,vi z2,vi z3,vi z4,vi z5,vi z6,vs z7,vs z8,vi z9,vi dk],.box 165 [vs dp,vb z12],.box 74 [vs dC,vi dG,vi dE,vi dM,vi dS,vi dJ,vs dO,vs z20,vi z21,vi z22]],3⟩
 | .dE z1 z2 z3 z4 z5 z6 z7 z8 z9 dk dp z12 dC dG dE dM dS dJ dO z20 z21 z22=>⟨fx 135 0 [(2,.ptr 0 0),(4,.ptr 1 0),(6,.ptr 2 0)],Mem.ofList [.box 74 [vs z1,vi z2,vi z3,vi z4,vi z5,vi z6,vs z7,vs z8,vi z9,vi dk],.box 165 [vs dp,vb z12],.box 74 [vs dC,vi dG,vi dE,vi dM,vi dS,vi dJ,vs dO,vs z20,vi z21,vi z22]],3⟩
 | .mw z1 z2 z3 z4 z5 z6 z7 z8 z9 dk dp z12 dC dG dE dM dS dJ dO z20 z21 z22=>⟨fx 135 0 [(2,.ptr 0 0),(4,.ptr 1 0),(6,.ptr 2 0)],Mem.ofList [.box 74 [vs z1,vi z2,vi z3,vi z4,vi z5,vi z6,vs z7,vs z8,vi z9,vi dk],.box 165 [vs dp,vb z12],.box 74 [vs dC,vi dG,vi dE,vi dM,vi dS,vi dJ,vs dO,vs z20,vi z21,vi z22]],3⟩
def gP.ry(n:Nat)(c:gP.Z->Option fE.T)(z1:ByteArray)(z2 z3 z4 z5 z6:Int)(z7 z8:ByteArray)(z9 dk:Int)(dp:ByteArray)(z12:Bool)(dC:ByteArray)(dG dE dM dS dJ:Int)(dO z20:ByteArray)(z21 z22:Int):Option fE.T:=
 (eV.F n dE dM dS dp z12).bind λyp=>
 c (.mw z1 z2 z3 z4 z5 z6 z7 z8 z9 dk yp.2.2.1 yp.2.2.2 dC dG dE dM dS yp.1 yp.2.1 z20 z21 z22)
def gP.qX(n:Nat)(c:gP.Z->Option fE.T)(z1:ByteArray)(z2 z3 z4 z5 z6:Int)(z7 z8:ByteArray)(z9 dk:Int)(dp:ByteArray)(z12:Bool)(dC:ByteArray)(dG dE dM dS dJ:Int)(dO z20:ByteArray)(z21 z22:Int):Option fE.T:=
 bif decide ((0:Int)<(dp.size:Nat))then(let Us:Int:=(((dp.data.getD 0 0).toNat:Nat):Int)
 bif Us==66 then((fk.F n (⟨#[66,65,83,40]⟩:ByteArray) dp z12).bind λNv=>
 (lT.F n (⟨#[44]⟩:ByteArray) Nv.1 Nv.2).bind λDa=>
 (fk.F n (⟨#[44]⟩:ByteArray) Da.2.1 Da.2.2).bind λI3=>
 (gO.F n (⟨#[41]⟩:ByteArray) I3.1 I3.2).bind λGj=>
 (fk.F n (⟨#[41]⟩:ByteArray) Gj.2.1 Gj.2.2).bind λA4=>
 c (.mw z1 z2 z3 z4 z5 z6 z7 z8 z9 dk A4.1 A4.2 dC 2 dE dM dS dJ dO Da.1 Gj.1 z22))else((fk.F n (⟨#[68,69,70,40]⟩:ByteArray) dp z12).bind λGi=>
 (lT.F n (⟨#[44]⟩:ByteArray) Gi.1 Gi.2).bind λHO=>
 (fk.F n (⟨#[44]⟩:ByteArray) HO.2.1 HO.2.2).bind λAc=>
 (gO.F n (⟨#[41]⟩:ByteArray) Ac.1 Ac.2).bind λLR=>
 (fk.F n (⟨#[41]⟩:ByteArray) LR.2.1 LR.2.2).bind λHN=>
 c (.mw z1 z2 z3 z4 z5 z6 z7 z8 z9 dk HN.1 HN.2 dC 1 dE dM dS dJ dO HO.1 LR.1 z22)))else none
def gP.zW(n:Nat)(c:gP.Z->Option fE.T)(z1:ByteArray)(z2 z3 z4 z5 z6:Int)(z7 z8:ByteArray)(z9 dk:Int)(dp:ByteArray)(z12:Bool)(dC:ByteArray)(dG dE dM dS dJ:Int)(dO z20:ByteArray)(z21 z22:Int):Option fE.T:=
 bif !z12 then(let QN:Bool:=dp.toList==(⟨#[]⟩:ByteArray).toList
 some (dC,dG,dE,dM,dS,dJ,dO,z20,z21,z22,QN))else(some (dC,dG,dE,dM,dS,dJ,dO,z20,z21,z22,false))
def gP.r(n:Nat)(c:gP.Z->Option fE.T):gP.Z->Option fE.T
 | .z12 z1 z2 z3 z4 z5 z6 z7 z8 z9 dk dp z12 dC dG dE dM dS dJ dO z20 z21 z22=>gP.ry n c z1 z2 z3 z4 z5 z6 z7 z8 z9 dk dp z12 dC dG dE dM dS dJ dO z20 z21 z22
 | .dE z1 z2 z3 z4 z5 z6 z7 z8 z9 dk dp z12 dC dG dE dM dS dJ dO z20 z21 z22=>gP.qX n c z1 z2 z3 z4 z5 z6 z7 z8 z9 dk dp z12 dC dG dE dM dS dJ dO z20 z21 z22
 | .mw z1 z2 z3 z4 z5 z6 z7 z8 z9 dk dp z12 dC dG dE dM dS dJ dO z20 z21 z22=>gP.zW n c z1 z2 z3 z4 z5 z6 z7 z8 z9 dk dp z12 dC dG dE dM dS dJ dO z20 z21 z22
def gP.e(n:Nat)(c:gP.Z->Option fE.T)(a0:ByteArray):Option fE.T:=
 (eK.F n (⟨#[32]⟩:ByteArray) a0 false).bind λp1=>
 (fk.F n (⟨#[32]⟩:ByteArray) p1.2.1 p1.2.2).bind λp2=>
 let y3:Bool:=p1.1.toList==(⟨#[68,68]⟩:ByteArray).toList
 bif y3 then((lT.F n (⟨#[32]⟩:ByteArray) p2.1 p2.2).bind λp4=>
 (fk.F n (⟨#[32]⟩:ByteArray) p4.2.1 p4.2.2).bind λp5=>
 (jq.F n p5.1 p5.2).bind λp6=>
 (fk.F n (⟨#[32]⟩:ByteArray) p6.2.2.2.1 p6.2.2.2.2).bind λp7=>
 let y8:Bool:=decide (((p7.1.size:Nat):Int)>0)
 bif y8 then(bif decide ((0:Int)<(p7.1.size:Nat))then(let y9:Int:=(((p7.1.data.getD 0 0).toNat:Nat):Int)
 bif y9==68 then(c (.dE (⟨#[]⟩:ByteArray) 0 0 0 0 0 (⟨#[]⟩:ByteArray) (⟨#[]⟩:ByteArray) 0 0 p7.1 p7.2 p4.1 0 p6.1 p6.2.1 p6.2.2.1 0 (⟨#[]⟩:ByteArray) (⟨#[]⟩:ByteArray) 0 0))else(let nh:Bool:=decide (((p7.1.size:Nat):Int)>0)
 bif nh then(bif decide ((0:Int)<(p7.1.size:Nat))then(let pw:Int:=(((p7.1.data.getD 0 0).toNat:Nat):Int)
 bif pw==66 then(c (.dE (⟨#[]⟩:ByteArray) 0 0 0 0 0 (⟨#[]⟩:ByteArray) (⟨#[]⟩:ByteArray) 0 0 p7.1 p7.2 p4.1 0 p6.1 p6.2.1 p6.2.2.1 0 (⟨#[]⟩:ByteArray) (⟨#[]⟩:ByteArray) 0 0))else(c (.z12 (⟨#[]⟩:ByteArray) 0 0 0 0 0 (⟨#[]⟩:ByteArray) (⟨#[]⟩:ByteArray) 0 0 p7.1 p7.2 p4.1 0 p6.1 p6.2.1 p6.2.2.1 0 (⟨#[]⟩:ByteArray) (⟨#[]⟩:ByteArray) 0 0)))else none)else(c (.z12 (⟨#[]⟩:ByteArray) 0 0 0 0 0 (⟨#[]⟩:ByteArray) (⟨#[]⟩:ByteArray) 0 0 p7.1 p7.2 p4.1 0 p6.1 p6.2.1 p6.2.2.1 0 (⟨#[]⟩:ByteArray) (⟨#[]⟩:ByteArray) 0 0))))else none)else(let zC:Bool:=decide (((p7.1.size:Nat):Int)>0)
 bif zC then(bif decide ((0:Int)<(p7.1.size:Nat))then(let HG:Int:=(((p7.1.data.getD 0 0).toNat:Nat):Int)
 bif HG==66 then(c (.dE (⟨#[]⟩:ByteArray) 0 0 0 0 0 (⟨#[]⟩:ByteArray) (⟨#[]⟩:ByteArray) 0 0 p7.1 p7.2 p4.1 0 p6.1 p6.2.1 p6.2.2.1 0 (⟨#[]⟩:ByteArray) (⟨#[]⟩:ByteArray) 0 0))else(c (.z12 (⟨#[]⟩:ByteArray) 0 0 0 0 0 (⟨#[]⟩:ByteArray) (⟨#[]⟩:ByteArray) 0 0 p7.1 p7.2 p4.1 0 p6.1 p6.2.1 p6.2.2.1 0 (⟨#[]⟩:ByteArray) (⟨#[]⟩:ByteArray) 0 0)))else none)else(c (.z12 (⟨#[]⟩:ByteArray) 0 0 0 0 0 (⟨#[]⟩:ByteArray) (⟨#[]⟩:ByteArray) 0 0 p7.1 p7.2 p4.1 0 p6.1 p6.2.1 p6.2.2.1 0 (⟨#[]⟩:ByteArray) (⟨#[]⟩:ByteArray) 0 0))))else(let xS:Bool:=p1.1.toList==(⟨#[80,84,82]⟩:ByteArray).toList
 bif xS then((lT.F n (⟨#[]⟩:ByteArray) p2.1 p2.2).bind λyq=>
 c (.mw (⟨#[]⟩:ByteArray) 0 0 0 0 0 (⟨#[]⟩:ByteArray) (⟨#[]⟩:ByteArray) 0 0 yq.2.1 yq.2.2 yq.1 3 0 0 0 0 (⟨#[]⟩:ByteArray) (⟨#[]⟩:ByteArray) 0 0))else(let C9:Bool:=p1.1.toList==(⟨#[67,79,78]⟩:ByteArray).toList
 bif C9 then((lT.F n (⟨#[32]⟩:ByteArray) p2.1 p2.2).bind λRz=>
 (fk.F n (⟨#[32]⟩:ByteArray) Rz.2.1 Rz.2.2).bind λK8=>
 (jq.F n K8.1 K8.2).bind λlZ=>
 (fk.F n (⟨#[32]⟩:ByteArray) lZ.2.2.2.1 lZ.2.2.2.2).bind λOO=>
 (eV.F n lZ.1 lZ.2.1 lZ.2.2.1 OO.1 OO.2).bind λDb=>
 c (.mw (⟨#[]⟩:ByteArray) 0 0 0 0 0 (⟨#[]⟩:ByteArray) (⟨#[]⟩:ByteArray) 0 0 Db.2.2.1 Db.2.2.2 Rz.1 4 lZ.1 lZ.2.1 lZ.2.2.1 Db.1 Db.2.1 (⟨#[]⟩:ByteArray) 0 0))else(let Oc:Bool:=p1.1.toList==(⟨#[76,65,66,69,76]⟩:ByteArray).toList
 bif Oc then((lT.F n (⟨#[32]⟩:ByteArray) p2.1 p2.2).bind λLS=>
 (fk.F n (⟨#[32]⟩:ByteArray) LS.2.1 LS.2.2).bind λDM=>
 (gO.F n (⟨#[]⟩:ByteArray) DM.1 DM.2).bind λGl=>
 c (.mw (⟨#[]⟩:ByteArray) 0 0 0 0 0 (⟨#[]⟩:ByteArray) (⟨#[]⟩:ByteArray) 0 0 Gl.2.1 Gl.2.2 LS.1 5 0 0 0 0 (⟨#[]⟩:ByteArray) (⟨#[]⟩:ByteArray) 0 Gl.1))else(c (.mw (⟨#[]⟩:ByteArray) 0 0 0 0 0 (⟨#[]⟩:ByteArray) (⟨#[]⟩:ByteArray) 0 0 p2.1 true (⟨#[]⟩:ByteArray) 0 0 0 0 0 (⟨#[]⟩:ByteArray) (⟨#[]⟩:ByteArray) 0 0)))))
def gP.E(n:Nat)(c:gP.Z->Option fE.T):er.A->Option fE.T:=λa0=>gP.e n c a0
def gP.l(n:Nat):Nat->gP.Z->Option fE.T:=ez (gP.r n)
def gP.F(n:Nat)(a0:ByteArray):Option fE.T:=gP.e n (gP.l n n) a0
def gP.FA(n:Nat):er.A->Option fE.T:=gP.E n (gP.l n n)
theorem gP.cW(n:Nat):∀a p,gP.FA n a=some p->dc Tryz.prog 112 (er.i a) (fE.p p):=lN gP.cut gP.t gP.s (gP.E n) (gP.r n) cfg mixed dB fE.qi (gP.c8 n) Tryz.func112
def gP.via{R:Type}(n:Nat):List AV->(AV->Option R)->Option R:=d_ (gP.FA n) er.o fE.p
theorem gP.cO{R:Type}(n:Nat)(xs:List AV):cT (R:=R) Tryz.prog 112 xs (gP.via n xs):=c7 er.oi (λa=>by kernel_rfl) (gP.cW n) xs
inductive jA.Z where
 | z24 (z1 z2:Int) (z3:ByteArray) (z4 z5 z6 z7 z8:Int) (z9 dk:ByteArray) (dp z12 dC dG dE dM dS dJ dO:Int) (z20:ByteArray) (z21 z22 z23 z24 z25:Int) (z26 fD:ByteArray) (z28 iD jx z31 ng re Ia:Int) (HF:List AV) (mw:ByteArray) (z37:Bool)
def jA.C{R:Type}(n:Nat)(f:FuncId)(xs:List AV):(AV->Option R)->Option R:=
 bif Nat.beq f 58 then lB.via n xs else bif Nat.beq f 112 then gP.via n xs else bif Nat.beq f 113 then eK.via n xs else bif Nat.beq f 114 then fk.via n xs else bif Nat.beq f 115 then gO.via n xs else bif Nat.beq f 116 then kA.via n xs else bif Nat.beq f 117 then lT.via n xs else λ_=>none
theorem jA.c8{R:Type}(n:Nat):dt (R:=R) Tryz.prog (jA.C n):=λ_ xs=>cR (lB.cO n xs) (cR (gP.cO n xs) (cR (eK.cO n xs) (cR (fk.cO n xs) (cR (gO.cO n xs) (cR (kA.cO n xs) (cR (lT.cO n xs) (cT.none)))))))
def jA.cut(r:Nat):Option dP:=match r with | 24=>some ⟨[2,4,7],[(4,some 13,⟨true,9,false⟩,1)]⟩ | _=>none
noncomputable def jA.t (z:jA.Z):List Item:=(dL (match z with | .z24 _ _ _ _ _ _ _ _ _ _ _ _ _ _ _ _ _ _ _ _ _ _ _ _ _ _ _ _ _ _ _ _ _ _ _ _ _=>24) 1000 [.code (Tryz.f64.body.getD .skip)]).getD []
def jA.s:jA.Z->St
 | .z24 z1 z2 z3 z4 z5 z6 z7 z8 z9 dk dp z12 dC dG dE dM dS dJ dO z20 z21 z22 z23 z24 z25 z26 fD z28 iD jx z31 ng re Ia HF mw z37=>⟨fx 115 0 [(2,.ptr 0 0),(4,.ptr 1 0),(7,.ptr 3 0)],Mem.ofList [.box 115 [vi z1,vi z2,vs z3,vi z4,vi z5,vi z6,vi z7,vi z8,vs z9,vs dk,vi dp,vi z12,vi dC,.v (.slice none 0 0),vi dG,vi dE,vi dM,vi dS],.box 115 [vi dJ,vi dO,vs z20,vi z21,vi z22,vi z23,vi z24,vi z25,vs z26,vs fD,vi z28,vi iD,vi jx,.own 2 0 none,vi z31,vi ng,vi re,vi Ia],.row ⟨true,9,false⟩ 1 HF,.box 165 [vs mw,vb z37]],4⟩
def jA.qW(n:Nat)(c:jA.Z->Option fP.T)(z1 z2:Int)(z3:ByteArray)(z4 z5 z6 z7 z8:Int)(z9 dk:ByteArray)(dp z12 dC dG dE dM dS dJ dO:Int)(z20:ByteArray)(z21 z22 z23 z24 z25:Int)(z26 fD:ByteArray)(z28 iD jx z31 ng re Ia:Int)(HF:List AV)(mw:ByteArray)(z37:Bool):Option fP.T:=
 (lT.F n (⟨#[44]⟩:ByteArray) mw z37).bind λAc=>
 bif decide (HF.length+[vs Ac.1].length<=fe)then(bif Ac.2.2 then(some (dJ,dO,z20,z21,z22,z23,z24,z25,z26,fD,z28,iD,jx,HF++[vs Ac.1],z31,ng,re,Ia,!Ac.2.2))else(let Zi:Bool:=Ac.2.1.toList==(⟨#[]⟩:ByteArray).toList
 bif Zi then(some (dJ,dO,z20,z21,z22,z23,z24,z25,z26,fD,z28,iD,jx,HF++[vs Ac.1],z31,ng,re,Ia,!Ac.2.2))else((fk.F n (⟨#[44]⟩:ByteArray) Ac.2.1 Ac.2.2).bind λHN=>
 c (.z24 z1 z2 z3 z4 z5 z6 z7 z8 z9 dk dp z12 dC dG dE dM dS dJ dO z20 z21 z22 z23 z24 z25 z26 fD z28 iD jx z31 ng re Ia (HF++[vs Ac.1]) HN.1 HN.2))))else none
def jA.r(n:Nat)(c:jA.Z->Option fP.T):jA.Z->Option fP.T
 | .z24 z1 z2 z3 z4 z5 z6 z7 z8 z9 dk dp z12 dC dG dE dM dS dJ dO z20 z21 z22 z23 z24 z25 z26 fD z28 iD jx z31 ng re Ia HF mw z37=>jA.qW n c z1 z2 z3 z4 z5 z6 z7 z8 z9 dk dp z12 dC dG dE dM dS dJ dO z20 z21 z22 z23 z24 z25 z26 fD z28 iD jx z31 ng re Ia HF mw z37
def jA.e(n:Nat)(c:jA.Z->Option fP.T)(a0:ByteArray):Option fP.T:=
 let y1:Bool:=decide (((a0.size:Nat):Int)>=4)
 bif y1 then(bif decide ((0:Int)<=4)&&decide ((4:Int)<=((a0.size:Nat):Int))then(let y2:Bool:=(a0.extract 0 4).toList==(⟨#[68,67,76,32]⟩:ByteArray).toList
 bif y2 then(bif decide ((0:Int)<=4)&&decide ((4:Int)<=((a0.size:Nat):Int))then((gP.F n (a0.extract 4 a0.size)).bind λp3=>
 some (1,0,p3.1,p3.2.1,p3.2.2.1,p3.2.2.2.1,p3.2.2.2.2.1,p3.2.2.2.2.2.1,p3.2.2.2.2.2.2.1,p3.2.2.2.2.2.2.2.1,p3.2.2.2.2.2.2.2.2.1,p3.2.2.2.2.2.2.2.2.2.1,0,[],0,0,0,0,p3.2.2.2.2.2.2.2.2.2.2))else none)else((eK.F n (⟨#[32]⟩:ByteArray) a0 false).bind λp4=>
 let y5:Bool:=p4.1.toList==(⟨#[77,79,78,73,84,79,82]⟩:ByteArray).toList
 bif y5 then((fk.F n (⟨#[32]⟩:ByteArray) p4.2.1 p4.2.2).bind λp6=>
 (gO.F n (⟨#[32]⟩:ByteArray) p6.1 p6.2).bind λp7=>
 (fk.F n (⟨#[32]⟩:ByteArray) p7.2.1 p7.2.2).bind λp8=>
 (gO.F n (⟨#[32]⟩:ByteArray) p8.1 p8.2).bind λp9=>
 (fk.F n (⟨#[32]⟩:ByteArray) p9.2.1 p9.2.2).bind λku=>
 (gO.F n (⟨#[32]⟩:ByteArray) ku.1 ku.2).bind λln=>
 (fk.F n (⟨#[32]⟩:ByteArray) ln.2.1 ln.2.2).bind λnV=>
 (gO.F n (⟨#[]⟩:ByteArray) nV.1 nV.2).bind λkR=>
 bif !kR.2.2 then(let xS:Bool:=kR.2.1.toList==(⟨#[]⟩:ByteArray).toList
 some (3,0,(⟨#[]⟩:ByteArray),0,0,0,0,0,(⟨#[]⟩:ByteArray),(⟨#[]⟩:ByteArray),0,0,0,[],p7.1,p9.1,ln.1,kR.1,xS))else(some (3,0,(⟨#[]⟩:ByteArray),0,0,0,0,0,(⟨#[]⟩:ByteArray),(⟨#[]⟩:ByteArray),0,0,0,[],p7.1,p9.1,ln.1,kR.1,false)))else((lB.F n ).bind λyq=>
 (kA.F n yq p4.1).bind λLU=>
 bif LU==(-1)then(some (2,0,(⟨#[]⟩:ByteArray),0,0,0,0,0,(⟨#[]⟩:ByteArray),(⟨#[]⟩:ByteArray),0,0,LU,[],0,0,0,0,false))else(let If:Bool:=p4.2.1.toList==(⟨#[]⟩:ByteArray).toList
 bif If then(some (2,0,(⟨#[]⟩:ByteArray),0,0,0,0,0,(⟨#[]⟩:ByteArray),(⟨#[]⟩:ByteArray),0,0,LU,[],0,0,0,0,true))else((fk.F n (⟨#[32]⟩:ByteArray) p4.2.1 p4.2.2).bind λK8=>
 c (.z24 0 0 (⟨#[]⟩:ByteArray) 0 0 0 0 0 (⟨#[]⟩:ByteArray) (⟨#[]⟩:ByteArray) 0 0 0 0 0 0 0 2 0 (⟨#[]⟩:ByteArray) 0 0 0 0 0 (⟨#[]⟩:ByteArray) (⟨#[]⟩:ByteArray) 0 0 LU 0 0 0 0 [] K8.1 K8.2))))))else none)else((eK.F n (⟨#[32]⟩:ByteArray) a0 false).bind λlZ=>
 let QP:Bool:=lZ.1.toList==(⟨#[77,79,78,73,84,79,82]⟩:ByteArray).toList
 bif QP then((fk.F n (⟨#[32]⟩:ByteArray) lZ.2.1 lZ.2.2).bind λDb=>
 (gO.F n (⟨#[32]⟩:ByteArray) Db.1 Db.2).bind λQm=>
 (fk.F n (⟨#[32]⟩:ByteArray) Qm.2.1 Qm.2.2).bind λLS=>
 (gO.F n (⟨#[32]⟩:ByteArray) LS.1 LS.2).bind λDM=>
 (fk.F n (⟨#[32]⟩:ByteArray) DM.2.1 DM.2.2).bind λGl=>
 (gO.F n (⟨#[32]⟩:ByteArray) Gl.1 Gl.2).bind λNw=>
 (fk.F n (⟨#[32]⟩:ByteArray) Nw.2.1 Nw.2.2).bind λNv=>
 (gO.F n (⟨#[]⟩:ByteArray) Nv.1 Nv.2).bind λDa=>
 bif !Da.2.2 then(let QO:Bool:=Da.2.1.toList==(⟨#[]⟩:ByteArray).toList
 some (3,0,(⟨#[]⟩:ByteArray),0,0,0,0,0,(⟨#[]⟩:ByteArray),(⟨#[]⟩:ByteArray),0,0,0,[],Qm.1,DM.1,Nw.1,Da.1,QO))else(some (3,0,(⟨#[]⟩:ByteArray),0,0,0,0,0,(⟨#[]⟩:ByteArray),(⟨#[]⟩:ByteArray),0,0,0,[],Qm.1,DM.1,Nw.1,Da.1,false)))else((lB.F n ).bind λGj=>
 (kA.F n Gj lZ.1).bind λA4=>
 bif A4==(-1)then(some (2,0,(⟨#[]⟩:ByteArray),0,0,0,0,0,(⟨#[]⟩:ByteArray),(⟨#[]⟩:ByteArray),0,0,A4,[],0,0,0,0,false))else(let Zj:Bool:=lZ.2.1.toList==(⟨#[]⟩:ByteArray).toList
 bif Zj then(some (2,0,(⟨#[]⟩:ByteArray),0,0,0,0,0,(⟨#[]⟩:ByteArray),(⟨#[]⟩:ByteArray),0,0,A4,[],0,0,0,0,true))else((fk.F n (⟨#[32]⟩:ByteArray) lZ.2.1 lZ.2.2).bind λHO=>
 c (.z24 0 0 (⟨#[]⟩:ByteArray) 0 0 0 0 0 (⟨#[]⟩:ByteArray) (⟨#[]⟩:ByteArray) 0 0 0 0 0 0 0 2 0 (⟨#[]⟩:ByteArray) 0 0 0 0 0 (⟨#[]⟩:ByteArray) (⟨#[]⟩:ByteArray) 0 0 A4 0 0 0 0 [] HO.1 HO.2)))))
def jA.E(n:Nat)(c:jA.Z->Option fP.T):er.A->Option fP.T:=λa0=>jA.e n c a0
def jA.l(n:Nat):Nat->jA.Z->Option fP.T:=ez (jA.r n)
def jA.F(n:Nat)(a0:ByteArray):Option fP.T:=jA.e n (jA.l n n) a0
def jA.FA(n:Nat):er.A->Option fP.T:=jA.E n (jA.l n n)
theorem jA.cW(n:Nat):∀a p,jA.FA n a=some p->dc Tryz.prog 64 (er.i a) (fP.p p):=lN jA.cut jA.t jA.s (jA.E n) (jA.r n) cfg mixed dB fP.qi (jA.c8 n) Tryz.func64
def jA.via{R:Type}(n:Nat):List AV->(AV->Option R)->Option R:=d_ (jA.FA n) er.o fP.p
theorem jA.cO{R:Type}(n:Nat)(xs:List AV):cT (R:=R) Tryz.prog 64 xs (jA.via n xs):=c7 er.oi (λa=>by kernel_rfl) (jA.cW n) xs
def uf.C{R:Type}(n:Nat)(f:FuncId)(xs:List AV):(AV->Option R)->Option R:=
 bif Nat.beq f 92 then kV.via n xs else λ_=>none
theorem uf.c8{R:Type}(n:Nat):dt (R:=R) Tryz.prog (uf.C n):=λ_ xs=>cR (kV.cO n xs) (cT.none)
def uf.cut(r:Nat):Option dP:=match r with  | _=>none
def uf.e(n:Nat)(a0:Int):Option Int:=
 (kV.F n a0).bind λp1=>
 some ((p1.length:Nat):Int)
def uf.E(n:Nat):fK.A->Option dU.T:=λa0=>uf.e n a0
def uf.F(n:Nat)(a0:Int):Option Int:=uf.e n a0
def uf.FA(n:Nat):fK.A->Option dU.T:=uf.E n
theorem uf.cW(n:Nat):∀a p,uf.FA n a=some p->dc Tryz.prog 65 (fK.i a) (dU.p p):=gp uf.cut (uf.E n) cfg mixed dB dU.qi (uf.c8 n) Tryz.func65
def uf.via{R:Type}(n:Nat):List AV->(AV->Option R)->Option R:=d_ (uf.FA n) fK.o dU.p
theorem uf.cO{R:Type}(n:Nat)(xs:List AV):cT (R:=R) Tryz.prog 65 xs (uf.via n xs):=c7 fK.oi (λa=>by kernel_rfl) (uf.cW n) xs
end Go.Proofs.YtnoldakbllfmnaaGreatDoor.Ev
end