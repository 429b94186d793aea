import Derived.Test.YtnoldakbllfmnaaGreatDoorDTVc
import Derived.Test.YtnoldakbllfmnaaGreatDoorProg
import Derived.KernelRfl
import Derived.Shelf.Strings.Builder1
import Derived.Shelf.Strings.Builder2
import Derived.Shelf.Strings.OnBuilder
import Derived.Shelf.Strings.Trim
import Derived.Shelf.Small.Utf8
import Derived.Shelf.Small.Strs
import Derived.Shelf.Strings.BuilderF
import Derived.Shelf.Strconv.Atoi
import Derived.Shelf.Strconv.Itoa0
import Derived.Shelf.Strconv.Itoa1
import Derived.Shelf.LaysM
import Derived.Shelf.Strconv.Itoa2
import Derived.Shelf.Strconv.Itoa3
import Derived.Shelf.Strconv.AtoiErrFast
import Derived.Shelf.Strconv.ParseIntEmpty
import Derived.Shelf.Strconv.AtoiFail
import Derived.Shelf.Strconv.Clone
import Derived.Shelf.Strconv.SyntaxError
import Derived.Shelf.LaysC
import Derived.Shelf.Strconv.ToError
import Derived.Shelf.Strconv.Lower
import Derived.Shelf.Strconv.ParseUint10
import Derived.Shelf.Strconv.ParseUint10Empty
import Derived.Shelf.Strconv.ParseUint10Any
import Derived.Shelf.Strconv.ParseInt10
import Derived.Shelf.Strconv.AtoiLong
import Derived.Shelf.Strconv.AtoiInnerAll
import Derived.Shelf.Strconv.RangeError
import Derived.Shelf.Strconv.ToErrorRange
import Derived.Shelf.Strconv.AtoiAll
import Derived.Shelf.Strconv.ErrVarAll
import Derived.Shelf.Strings.Search1
import Derived.Shelf.Strings.Search2
import Derived.Shelf.Strings.Search3
import Derived.Shelf.Strings.Cut
import Derived.Shelf.Strings.Count
import Derived.Shelf.Strings.Shaped
import Derived.Shelf.Strings.Prefix
import Derived.Shelf.Strings.Split
import Derived.Shelf.Strings.Replace
import Derived.Shelf.Strings.SplitShaped
import Derived.Shelf.Strings.Runes
import Derived.Shelf.Strings.AsciiSet
import Derived.Shelf.Bits.Mul64
import Derived.Shelf.Strings.Repeat
import Derived.Shelf.Unicode.DecodeSlow
import Derived.Ground.Names2Prog
import Derived.Shelf.Slices.CompactI
import Derived.Shelf.Slices.In.SortNone
import Derived.Shelf.Strings.SlTrimAscii
set_option linter.all false
set_option maxRecDepth 100000
noncomputable section
namespace Go.Proofs.YtnoldakbllfmnaaGreatDoor.Ev
open Go Go.Proofs Go.Proofs.Ev
def Ny:List (TypeId × TE):=[(1,wQ),(2,yr .i64 8),(3,yr .i64 8),(4,NA),(5,yr .u8 1),(9,QY),(20,FJ),(21,yr .i32 4),(22,Io 74 true 10),(23,Io 86 false 2),(24,Io 82 true 4),(26,AQ [(22,0),(23,1),(24,2)] 72 [(.slice ⟨true,74,false⟩ 10),(.slice ⟨false,86,false⟩ 2),(.slice ⟨true,82,false⟩ 4)]),(30,AQ [(3,0),(3,1)] 16 [(.int .i64),(.int .i64)]),(31,yr .i64 8),(46,wQ),(50,Io 3 true 1),(60,Io 4 true 1),(62,AQ [(9,0),(60,1)] 40 [.str,(.slice ⟨true,4,false⟩ 1)]),(70,AQ [(3,0),(3,1),(3,2)] 24 [(.int .i64),(.int .i64),(.int .i64)]),(72,AQ [(3,0),(9,1)] 24 [(.int .i64),.str]),(74,AQ [(9,0),(3,1),(70,2),(72,5),(9,7),(3,8),(3,9)] 104 [.str,(.int .i64),(.int .i64),(.int .i64),(.int .i64),(.int .i64),.str,.str,(.int .i64),(.int .i64)]),(82,AQ [(3,0),(3,1),(3,2),(3,3)] 32 [(.int .i64),(.int .i64),(.int .i64),(.int .i64)]),(86,AQ [(3,0),(50,1)] 32 [(.int .i64),(.slice ⟨true,3,false⟩ 1)]),(97,Io 9 true 1),(104,Io 109 false 18),(109,AQ [(3,0),(3,1),(74,2),(3,12),(97,13),(82,14)] 184 [(.int .i64),(.int .i64),.str,(.int .i64),(.int .i64),(.int .i64),(.int .i64),(.int .i64),.str,.str,(.int .i64),(.int .i64),(.int .i64),(.slice ⟨true,9,false⟩ 1),(.int .i64),(.int .i64),(.int .i64),(.int .i64)]),(113,Io 115 false 18),(115,AQ [(3,0),(3,1),(74,2),(3,12),(97,13),(82,14)] 184 [(.int .i64),(.int .i64),.str,(.int .i64),(.int .i64),(.int .i64),(.int .i64),(.int .i64),.str,.str,(.int .i64),(.int .i64),(.int .i64),(.slice ⟨true,9,false⟩ 1),(.int .i64),(.int .i64),(.int .i64),(.int .i64)]),(118,IX 4 50 96 [(.slice ⟨true,3,false⟩ 1)]),(130,Io 31 true 1),(132,wQ),(138,IX 19 50 456 [(.slice ⟨true,3,false⟩ 1)]),(144,IX 19 9 304 [.str]),(145,FI 148),(146,Io 5 true 1),(148,Nz [(145,0),(146,1)] 32 [.any,(.slice ⟨true,5,false⟩ 1)] [.pointer none,.slice none 0 0]),(151,FJ),(163,FI 165),(165,AQ [(9,0),(4,1)] 24 [.str,.bool]),(176,yr .u64 8),(180,wQ),(183,AQ [(3,0),(3,1)] 16 [(.int .i64),(.int .i64)]),(185,FI 5),(203,yr .u32 4),(206,yr .u64 8),(224,AQ [(183,0),(3,2),(3,3)] 32 [(.int .i64),(.int .i64),(.int .i64),(.int .i64)]),(227,AQ [(3,0),(3,1)] 16 [(.int .i64),(.int .i64)]),(229,AQ [(3,0),(227,1),(3,3)] 32 [(.int .i64),(.int .i64),(.int .i64),(.int .i64)]),(255,FI 278),(270,IX 256 4 256 [.bool]),(274,FI 270),(278,Nz [(9,0),(9,1),(151,2)] 48 [.str,.str,.any] [.string ⟨#[]⟩,.string ⟨#[]⟩,.nilIface])]
def O6:List AV:=[vi 0,vi 4]
def O5:List AV:=[vi 2,vi 3]
def O4:List AV:=[vi 2,vi 3,vi 3]
def O3:List AV:=[vi 2,vi 3,vi 3]
def O2:List AV:=[vi 2,vi 3,vi 3]
def O1:List AV:=[vi 2,vi 3,vi 3]
def O0:List AV:=[vi 2,vi 3,vi 3]
def OZ:List AV:=[vi 1,vi 4,vi 6]
def OY:List AV:=[vi 1,vi 4,vi 6]
def OX:List AV:=[vi 6]
def Hu:List AV:=[vi 5,vi 0]
def Ht:List AV:=[vi 5,vi 5]
def Hs:List AV:=[vi 5,vi 3]
def Hr:List AV:=[vi 6]
def Hq:List AV:=[]
def Hp:List AV:=[vi 3]
def Ho:List AV:=[vi 2]
def Hn:List AV:=[vi 1]
def Hm:List AV:=[]
def ql:List AV:=[vs (⟨#[67,72,65,82]⟩:ByteArray),vs (⟨#[80,65,67,75,69,68]⟩:ByteArray),vs (⟨#[90,79,78,69,68]⟩:ByteArray),vs (⟨#[66,73,78,65,82,89]⟩:ByteArray)]
def Hv:List (Nat × List AV):=[(0,[.sl ⟨true,3,false⟩ 1 O6,.sl ⟨true,3,false⟩ 1 O5,.sl ⟨true,3,false⟩ 1 O4,.sl ⟨true,3,false⟩ 1 O3,.sl ⟨true,3,false⟩ 1 O2,.sl ⟨true,3,false⟩ 1 O1,.sl ⟨true,3,false⟩ 1 O0,.sl ⟨true,3,false⟩ 1 OZ,.sl ⟨true,3,false⟩ 1 OY,.sl ⟨true,3,false⟩ 1 OX,.sl ⟨true,3,false⟩ 1 Hu,.sl ⟨true,3,false⟩ 1 Ht,.sl ⟨true,3,false⟩ 1 Hs,.sl ⟨true,3,false⟩ 1 Hr,.sl ⟨true,3,false⟩ 1 Hq,.sl ⟨true,3,false⟩ 1 Hp,.sl ⟨true,3,false⟩ 1 Ho,.sl ⟨true,3,false⟩ 1 Hn,.sl ⟨true,3,false⟩ 1 Hm]),(1,[vs (⟨#[77,79,86,69]⟩:ByteArray),vs (⟨#[77,79,86,69,72]⟩:ByteArray),vs (⟨#[65,68,68]⟩:ByteArray),vs (⟨#[83,85,66]⟩:ByteArray),vs (⟨#[77,85,76]⟩:ByteArray),vs (⟨#[68,73,86]⟩:ByteArray),vs (⟨#[82,69,77]⟩:ByteArray),vs (⟨#[73,70,69,81]⟩:ByteArray),vs (⟨#[73,70,76,84]⟩:ByteArray),vs (⟨#[71,79,84,79]⟩:ByteArray),vs (⟨#[65,68,68,82]⟩:ByteArray),vs (⟨#[77,79,86,69,80]⟩:ByteArray),vs (⟨#[65,68,86,65,78,67,69]⟩:ByteArray),vs (⟨#[67,65,76,76]⟩:ByteArray),vs (⟨#[82,69,84,85,82,78]⟩:ByteArray),vs (⟨#[83,73,71,78,65,76]⟩:ByteArray),vs (⟨#[69,88,67,69,80,84,73,79,78]⟩:ByteArray),vs (⟨#[80,82,73,78,84]⟩:ByteArray),vs (⟨#[69,78,68]⟩:ByteArray)]),(2,[.sl ⟨true,9,false⟩ 1 ql])]
def ND(f:FuncId):Bool:=Nat.beq f 54||Nat.beq f 56
def NF(f:FuncId):Bool:=Nat.beq f 129||Nat.beq f 130
def G:eH:=⟨IW Ny,zG Hv,Rt [(3,[26]),(4,[26]),(5,[9]),(6,[26,9]),(7,[26,9,3]),(8,[26]),(9,[26]),(10,[26,3]),(11,[26]),(13,[26]),(14,[26]),(15,[26]),(16,[26]),(17,[26]),(18,[26]),(19,[26]),(20,[9]),(21,[9]),(22,[26,26]),(23,[26]),(24,[26,9]),(25,[26,3]),(26,[26,9]),(27,[3,3,3]),(28,[50,50]),(29,[26,3]),(30,[26]),(31,[26]),(32,[26]),(33,[62,62]),(34,[26]),(35,[70]),(36,[26,3]),(37,[26]),(38,[60,60]),(39,[26]),(40,[26,3]),(43,[130]),(44,[4,31]),(45,[26,3]),(46,[22]),(47,[26,86]),(48,[26,82]),(49,[50]),(50,[26,3]),(51,[26,86]),(52,[26]),(53,[74]),(54,[3,97]),(55,[82]),(56,[97,9]),(57,[74]),(59,[3]),(60,[9,9]),(61,[9,9]),(62,[9]),(63,[104]),(64,[9]),(65,[3]),(66,[22,9]),(67,[3,3,3]),(68,[50,3]),(69,[50,3]),(70,[3]),(71,[70,72]),(72,[62,3,9]),(73,[5,3]),(74,[9,3,9]),(75,[70,72]),(76,[4]),(77,[26,3]),(78,[9]),(79,[74]),(80,[74]),(81,[70]),(82,[70,72]),(83,[74,22]),(84,[50,3]),(85,[74]),(86,[74,74,3]),(87,[9]),(88,[74]),(89,[3]),(90,[70]),(91,[70,72]),(92,[3]),(93,[3]),(94,[74]),(95,[70]),(96,[70,72]),(97,[3]),(98,[145,3]),(99,[145,9]),(100,[145]),(101,[70]),(102,[70,72]),(103,[9,9]),(104,[9,9]),(105,[9,9]),(106,[9]),(107,[9,9]),(108,[9]),(109,[97,9]),(110,[97,46]),(111,[9]),(112,[9]),(113,[163,9]),(114,[163,9]),(115,[163,9]),(116,[97,9]),(117,[163,9]),(118,[22,132]),(119,[74]),(120,[50,3]),(121,[3,3,3]),(122,[9,3]),(123,[70,72]),(124,[62,3,3]),(125,[62,3,9]),(126,[3,3]),(127,[3,3]),(128,[3]),(129,[50]),(130,[50]),(131,[3,3,3]),(132,[130]),(133,[4,31]),(134,[3]),(135,[176,176]),(136,[70]),(137,[74]),(138,[5]),(139,[5]),(140,[3]),(141,[70]),(142,[183]),(143,[9]),(144,[9,9,9]),(145,[3]),(148,[183]),(149,[9]),(150,[9]),(152,[9,9]),(153,[9]),(154,[9,9]),(155,[70,9]),(156,[9,9,3,3]),(157,[9]),(158,[97,46]),(159,[163]),(160,[163,70]),(161,[9]),(162,[145]),(163,[3,3]),(164,[146]),(165,[70]),(166,[62]),(167,[60]),(168,[50,3,3,3]),(169,[176]),(170,[203,203]),(171,[206,206]),(172,[3]),(173,[183]),(174,[146,180]),(175,[5]),(176,[9,9,9,3]),(180,[9,5]),(184,[9,9]),(185,[9]),(186,[9,9]),(187,[9]),(191,[9]),(192,[9,9,3,3,151]),(193,[9]),(194,[9]),(195,[9]),(207,[146,180]),(215,[9,9]),(216,[9]),(217,[9,9]),(218,[9,9]),(219,[9,5]),(227,[9]),(228,[229]),(240,[9,3]),(241,[9,5]),(242,[9]),(243,[9,274]),(244,[9,9]),(251,[9,3])],0,ND,NF⟩
theorem mixed:Tryz.prog.follows .mixedOrders=true:=by kernel_rfl
instance Q5 : dH Tryz.prog := O7 Tryz.prog ["strconv.ErrSyntax", "strconv.ErrRange"] [("internal/strconv.uint64pow10", .u64, Lib.pow10Tab)] Hv
theorem C6(R0:World)(hQ:dH.Q Tryz.prog R0):mE G R0:=by
 have h:kI Tryz.prog _ R0/\rz Tryz.prog _ R0/\ik Hv R0:=hQ;exact h.2.2.C6 rfl
theorem cfg:dK Tryz.prog G:=ED (l:=Ny) rfl (by kernel_rfl)
theorem cx:Cx Tryz.prog G:=⟨cfg,mixed,C6,rfl⟩
abbrev fx.A:=List AV
abbrev fx.T:=Int
def fx.i:fx.A->List AV:=λa0=>[.sl ⟨true,31,false⟩ 1 a0]
def fx.o(xs:List AV):Option fx.A:=match xs with | [.sl ⟨true,31,false⟩ 1 a0]=>some a0 | _=>none
theorem fx.oi:∀xs a,fx.o xs=some a->xs=fx.i a:=by
 intro xs a h;unfold fx.o at h;split at h
 ·cases h;rfl
 ·cases h
def fx.p(p:fx.T):AV:=vi p
def fx.q(x:AV):Option fx.T:=match x with | .v (.int .i64 p0)=>some p0 | _=>none
theorem fx.qi:∀x p,fx.q x=some p->x=fx.p p:=by
 intro x p h;unfold fx.q at h;split at h
 ·cases h;rfl
 ·cases h
inductive fx.Z where
 | z2 (z1:List AV) (z2 z3:Int)
def fx.s:fx.Z->Nat × St
 | .z2 z1 z2 z3=>gX 2 15 [(5,.sl ⟨true,31,false⟩ 1 z1),(6,vi z2),(7,vi z3)] []
def fx.r2(n:Nat)(c:fx.Z->Option Int)(z1:List AV)(z2 z3:Int):Option Int:=
 bif decide (z3<z2)then(bif decide ((0:Int)<=z3)&&decide (z3<((z1.length:Nat):Int))then(cM ((z1.getD ((z3).toNat) .undef).cells) λh1 r2=>
 cQ .i64 h1 λx3=>
 bif x3 != 0 then(some x3)else(c (.z2 z1 z2 (IntKind.i64.wrap (z3+1)))))else none)else(some 0)
def fx.r(n:Nat)(c:fx.Z->Option Int):fx.Z->Option Int
 | .z2 z1 z2 z3=>fx.r2 n c z1 z2 z3
def fx.e(n:Nat)(c:fx.Z->Option Int)(a0:List AV):Option Int:=
 c (.z2 a0 ((a0.length:Nat):Int) 0)
def fx.l(n:Nat):Nat->fx.Z->Option Int:=eg (fx.r n)
def fx.F(n:Nat)(a0:List AV):Option Int:=fx.e n (fx.l n n) a0
theorem fx.cZ(n:Nat):dt Tryz.prog 43 fx.i fx.p (kP (fx.e n (fx.l n n))):=pf [(2,⟨[5,6,7],[]⟩)] fx.s (λc=>kP (fx.e n c)) (fx.r n) [] cx fx.qi Tryz.func43
def fx.u:fO Tryz.prog:=gT fx.oi fx.cZ
abbrev mD.A:=Bool × Int
def mD.i:mD.A->List AV:=fun(a0,a1)=>[vb a0,vi a1]
def mD.o(xs:List AV):Option mD.A:=match xs with | [.v (.bool a0),.v (.int .i64 a1)]=>some (a0,a1) | _=>none
theorem mD.oi:∀xs a,mD.o xs=some a->xs=mD.i a:=by
 intro xs a h;unfold mD.o at h;split at h
 ·cases h;rfl
 ·cases h
def mD.e(n:Nat)(a0:Bool)(a1:Int):Option Int:=
 bif a0 then(some a1)else(some 0)
def mD.F(n:Nat)(a0:Bool)(a1:Int):Option Int:=mD.e n a0 a1
theorem mD.cZ(n:Nat):dt Tryz.prog 44 mD.i fx.p (kM (mD.e n)):=mA n (kM (mD.e n)) [] cx fx.qi Tryz.func44
def mD.u:fO Tryz.prog:=gT mD.oi mD.cZ
abbrev jY.A:=ByteArray × Int × Int × Int × Int × Int × ByteArray × ByteArray × Int × Int × ByteArray
abbrev jY.T:=Bool × ByteArray
def jY.i:jY.A->List AV:=fun(a0,a1,a2,a3,a4,a5,a6,a7,a8,a9,mN)=>[AV.agg [vs a0,vi a1,vi a2,vi a3,vi a4,vi a5,vs a6,vs a7,vi a8,vi a9],.ptr 0 0]
def jY.b:jY.A->List AV:=fun(a0,a1,a2,a3,a4,a5,a6,a7,a8,a9,mN)=>[.fn 9 [vs mN]]
def jY.o(xs:List AV):Option jY.A:=match xs with | [.agg [.v (.string a0),.v (.int .i64 a1),.v (.int .i64 a2),.v (.int .i64 a3),.v (.int .i64 a4),.v (.int .i64 a5),.v (.string a6),.v (.string a7),.v (.int .i64 a8),.v (.int .i64 a9)],.ptr 0 0,.dU [.fn 9 [.v (.string mN)]]]=>some (a0,a1,a2,a3,a4,a5,a6,a7,a8,a9,mN) | _=>none
theorem jY.oi:∀xs a,jY.o xs=some a->xs=jY.i a++[.dU (jY.b a)]:=by
 intro xs a h;unfold jY.o at h;split at h
 ·cases h;rfl
 ·cases h
def jY.y(p:jY.T):AV:=vb p.1
def jY.w(p:jY.T):List AV:=[.fn 9 [vs p.2]]
def jY.p(p:jY.T):AV:=.dU [jY.y p,.dU (jY.w p)]
def jY.q(x:AV):Option jY.T:=match x with | .dU [.v (.bool p0),.dU [.fn 9 [.v (.string p1)]]]=>some (p0,p1) | _=>none
theorem jY.qi:∀x p,jY.q x=some p->x=jY.p p:=by
 intro x p h;unfold jY.q at h;split at h
 ·cases h;rfl
 ·cases h
def jY.e(n:Nat)(a0:ByteArray)(a1 a2 a3 a4 a5:Int)(a6 a7:ByteArray)(a8 a9:Int)(mN:ByteArray):Option jY.T:=
 some (a0.toList==mN.toList,mN)
def jY.E(n:Nat):jY.A->Option jY.T:=fun(a0,a1,a2,a3,a4,a5,a6,a7,a8,a9,mN)=>jY.e n a0 a1 a2 a3 a4 a5 a6 a7 a8 a9 mN
def jY.F(n:Nat)(a0:ByteArray)(a1 a2 a3 a4 a5:Int)(a6 a7:ByteArray)(a8 a9:Int)(mN:ByteArray):Option jY.T:=jY.e n a0 a1 a2 a3 a4 a5 a6 a7 a8 a9 mN
theorem jY.cZ(n:Nat):pG Tryz.prog 119 jY.i jY.b jY.y jY.w (jY.E n):=Rr n 1 [] (jY.E n) [] cx jY.qi Tryz.func119
def jY.u:fO Tryz.prog:=Po jY.p jY.oi jY.cZ
abbrev gD.A:=List AV × ByteArray
abbrev gD.T:=Int × ByteArray
def gD.i:gD.A->List AV:=fun(a0,a1)=>[.sl ⟨true,74,false⟩ 10 a0,.fn 119 [.ptr 0 0]]
def gD.b:gD.A->List AV:=fun(a0,a1)=>[.fn 9 [vs a1]]
def gD.o(xs:List AV):Option gD.A:=match xs with | [.sl ⟨true,74,false⟩ 10 a0,.fn 119 [.ptr 0 0],.dU [.fn 9 [.v (.string a1)]]]=>some (a0,a1) | _=>none
theorem gD.oi:∀xs a,gD.o xs=some a->xs=gD.i a++[.dU (gD.b a)]:=by
 intro xs a h;unfold gD.o at h;split at h
 ·cases h;rfl
 ·cases h
def gD.y(p:gD.T):AV:=vi p.1
def gD.w(p:gD.T):List AV:=[.fn 9 [vs p.2]]
def gD.p(p:gD.T):AV:=.dU [gD.y p,.dU (gD.w p)]
def gD.q(x:AV):Option gD.T:=match x with | .dU [.v (.int .i64 p0),.dU [.fn 9 [.v (.string p1)]]]=>some (p0,p1) | _=>none
theorem gD.qi:∀x p,gD.q x=some p->x=gD.p p:=by
 intro x p h;unfold gD.q at h;split at h
 ·cases h;rfl
 ·cases h
inductive gD.Z where
 | z2 (z1:List AV) (z2 z3:Int) (z4:ByteArray)
def gD.s:gD.Z->Nat × St
 | .z2 z1 z2 z3 z4=>gX 2 19 [(0,.sl ⟨true,74,false⟩ 10 z1),(1,.fn 119 [.ptr 0 0]),(7,vi z2),(8,vi z3)] [.box 9 [vs z4]]
def gD.r2(n:Nat)(c:gD.Z->Option gD.T)(z1:List AV)(z2 z3:Int)(z4:ByteArray):Option gD.T:=
 bif decide (z3<z2)then(bif decide ((0:Int)<=z3)&&decide (z3<((z1.length:Nat):Int))then(cM ((z1.getD ((z3).toNat) .undef).cells) λh1 r2=>
 dm h1 λs3=>
 cM r2 λh4 r5=>
 cQ .i64 h4 λx6=>
 cM r5 λh7 r8=>
 cQ .i64 h7 λx9=>
 cM r8 λIz EX=>
 cQ .i64 Iz λxT=>
 cM EX λMl As=>
 cQ .i64 Ml λAr=>
 cM As λK6 NJ=>
 cQ .i64 K6 λAJ=>
 cM NJ λOV NI=>
 dm OV λDx=>
 cM NI λOU Iq=>
 dm OU λDw=>
 cM Iq λOT EW=>
 cQ .i64 OT λDj=>
 cM EW λOR Rl=>
 cQ .i64 OR λAI=>
 (jY.F n s3 x6 x9 xT Ar AJ Dx Dw Dj AI z4).bind λNN=>
 bif NN.1 then(some (z3,NN.2))else(c (.z2 z1 z2 (IntKind.i64.wrap (z3+1)) NN.2)))else none)else(some ((-1),z4))
def gD.r(n:Nat)(c:gD.Z->Option gD.T):gD.Z->Option gD.T
 | .z2 z1 z2 z3 z4=>gD.r2 n c z1 z2 z3 z4
def gD.e(n:Nat)(c:gD.Z->Option gD.T)(a0:List AV)(a1:ByteArray):Option gD.T:=
 c (.z2 a0 ((a0.length:Nat):Int) 0 a1)
def gD.l(n:Nat):Nat->gD.Z->Option gD.T:=eg (gD.r n)
def gD.F(n:Nat)(a0:List AV)(a1:ByteArray):Option gD.T:=gD.e n (gD.l n n) a0 a1
theorem gD.cZ(n:Nat):pG Tryz.prog 118 gD.i gD.b gD.y gD.w (kM (gD.e n (gD.l n n))):=WJ 1 [] [(2,⟨[0,1,7,8],[]⟩)] gD.s (λc=>kM (gD.e n c)) (gD.r n) [jY.u] cx gD.qi Tryz.func118
def gD.u:fO Tryz.prog:=Po gD.p gD.oi gD.cZ
abbrev pD.A:=List AV × ByteArray
def pD.i:pD.A->List AV:=fun(a0,a1)=>[.sl ⟨true,74,false⟩ 10 a0,vs a1]
def pD.o(xs:List AV):Option pD.A:=match xs with | [.sl ⟨true,74,false⟩ 10 a0,.v (.string a1)]=>some (a0,a1) | _=>none
theorem pD.oi:∀xs a,pD.o xs=some a->xs=pD.i a:=by
 intro xs a h;unfold pD.o at h;split at h
 ·cases h;rfl
 ·cases h
def pD.e(n:Nat)(a0:List AV)(a1:ByteArray):Option Int:=
 (gD.F n a0 a1).bind λp1=>
 some p1.1
def pD.F(n:Nat)(a0:List AV)(a1:ByteArray):Option Int:=pD.e n a0 a1
theorem pD.cZ(n:Nat):dt Tryz.prog 66 pD.i fx.p (kM (pD.e n)):=mA n (kM (pD.e n)) [gD.u] cx fx.qi Tryz.func66
def pD.u:fO Tryz.prog:=gT pD.oi pD.cZ
abbrev fY.A:=Int × Int × Int
abbrev fY.T:=Bool
def fY.i:fY.A->List AV:=fun(a0,a1,a2)=>[vi a0,vi a1,vi a2]
def fY.o(xs:List AV):Option fY.A:=match xs with | [.v (.int .i64 a0),.v (.int .i64 a1),.v (.int .i64 a2)]=>some (a0,a1,a2) | _=>none
theorem fY.oi:∀xs a,fY.o xs=some a->xs=fY.i a:=by
 intro xs a h;unfold fY.o at h;split at h
 ·cases h;rfl
 ·cases h
def fY.p(p:fY.T):AV:=vb p
def fY.q(x:AV):Option fY.T:=match x with | .v (.bool p0)=>some p0 | _=>none
theorem fY.qi:∀x p,fY.q x=some p->x=fY.p p:=by
 intro x p h;unfold fY.q at h;split at h
 ·cases h;rfl
 ·cases h
def fY.e(n:Nat)(a0 a1 a2:Int):Option Bool:=
 bif decide (a1<=a0)then(some (decide (a0<=a2)))else(some false)
def fY.F(n:Nat)(a0 a1 a2:Int):Option Bool:=fY.e n a0 a1 a2
theorem fY.cZ(n:Nat):dt Tryz.prog 67 fY.i fY.p (rG (fY.e n)):=mA n (rG (fY.e n)) [] cx fY.qi Tryz.func67
def fY.u:fO Tryz.prog:=gT fY.oi fY.cZ
abbrev fI.A:=ByteArray
def fI.i:fI.A->List AV:=λa0=>[vs a0]
def fI.o(xs:List AV):Option fI.A:=match xs with | [.v (.string a0)]=>some a0 | _=>none
theorem fI.oi:∀xs a,fI.o xs=some a->xs=fI.i a:=by
 intro xs a h;unfold fI.o at h;split at h
 ·cases h;rfl
 ·cases h
inductive fI.Z where
 | z4 (z1 z2:Int) (z3:List AV)
 | z7 (z1 z2:Int) (z3:Bool) (z4 z5:Int) (z6:List AV)
 | z8 (z1:Int) (z2 z3:Bool) (z4 z5:Int) (z6:List AV)
def fI.s:fI.Z->Nat × St
 | .z4 z1 z2 z3=>gX 4 65 [(15,.own 0 0 none),(16,vi z1),(17,vi z2)] [.row ⟨true,5,false⟩ 1 z3]
 | .z7 z1 z2 z3 z4 z5 z6=>gX 7 65 [(3,vi z1),(4,vu z2),(5,vb z3),(15,.own 0 0 none),(16,vi z4),(17,vi z5)] [.row ⟨true,5,false⟩ 1 z6]
 | .z8 z1 z2 z3 z4 z5 z6=>gX 8 65 [(3,vi z1),(5,vb z2),(6,vb z3),(15,.own 0 0 none),(16,vi z4),(17,vi z5)] [.row ⟨true,5,false⟩ 1 z6]
def fI.r4(n:Nat)(c:fI.Z->Option Bool)(z1 z2:Int)(z3:List AV):Option Bool:=
 bif decide (z2<z1)then(bif decide ((0:Int)<=z2)&&decide (z2<((z3.length:Nat):Int))then(cM ((z3.getD ((z2).toNat) .undef).cells) λh4 r5=>
 cQ .u8 h4 λx6=>
 bif decide ((65:Int)<=x6)then(bif decide (x6<=90)then(c (.z7 z2 x6 true z1 z2 z3))else(bif x6==35 then(c (.z7 z2 x6 true z1 z2 z3))else(bif x6==36 then(c (.z7 z2 x6 true z1 z2 z3))else(c (.z7 z2 x6 (x6==64) z1 z2 z3)))))else(bif x6==35 then(c (.z7 z2 x6 true z1 z2 z3))else(bif x6==36 then(c (.z7 z2 x6 true z1 z2 z3))else(c (.z7 z2 x6 (x6==64) z1 z2 z3)))))else none)else(some true)
def fI.r7(n:Nat)(c:fI.Z->Option Bool)(z1 z2:Int)(z3:Bool)(z4 z5:Int)(z6:List AV):Option Bool:=
 bif decide ((48:Int)<=z2)then(bif decide (z2<=57)then(c (.z8 z1 z3 true z4 z5 z6))else(bif z2==95 then(c (.z8 z1 z3 true z4 z5 z6))else(c (.z8 z1 z3 (z2==46) z4 z5 z6))))else(bif z2==95 then(c (.z8 z1 z3 true z4 z5 z6))else(c (.z8 z1 z3 (z2==46) z4 z5 z6)))
def fI.r8(n:Nat)(c:fI.Z->Option Bool)(z1:Int)(z2 z3:Bool)(z4 z5:Int)(z6:List AV):Option Bool:=
 bif !z2 then(bif z1==0 then(some false)else(bif !z3 then(some false)else(c (.z4 z4 (IntKind.i64.wrap (z5+1)) z6))))else(c (.z4 z4 (IntKind.i64.wrap (z5+1)) z6))
def fI.r(n:Nat)(c:fI.Z->Option Bool):fI.Z->Option Bool
 | .z4 z1 z2 z3=>fI.r4 n c z1 z2 z3
 | .z7 z1 z2 z3 z4 z5 z6=>fI.r7 n c z1 z2 z3 z4 z5 z6
 | .z8 z1 z2 z3 z4 z5 z6=>fI.r8 n c z1 z2 z3 z4 z5 z6
def fI.e(n:Nat)(c:fI.Z->Option Bool)(a0:ByteArray):Option Bool:=
 let y1:Bool:=a0.toList==(⟨#[]⟩:ByteArray).toList
 bif y1 then(some false)else(let y2:Bool:=decide (((a0.size:Nat):Int)>10)
 bif y2 then(some false)else(let y3:List AV:=a0.toList.map λb=>vu b.toNat
 c (.z4 ((y3.length:Nat):Int) 0 y3)))
def fI.l(n:Nat):Nat->fI.Z->Option Bool:=eg (fI.r n)
def fI.F(n:Nat)(a0:ByteArray):Option Bool:=fI.e n (fI.l n n) a0
theorem fI.cZ(n:Nat):dt Tryz.prog 78 fI.i fY.p (kP (fI.e n (fI.l n n))):=pf [(4,⟨[15,16,17],[]⟩),(7,⟨[3,4,5,15,16,17],[]⟩),(8,⟨[3,5,6,15,16,17],[]⟩)] fI.s (λc=>kP (fI.e n c)) (fI.r n) [] cx fY.qi Tryz.func78
def fI.u:fO Tryz.prog:=gT fI.oi fI.cZ
abbrev lr.A:=ByteArray × Int × Int × Int × Int × Int × ByteArray × ByteArray × Int × Int
def lr.i:lr.A->List AV:=fun(a0,a1,a2,a3,a4,a5,a6,a7,a8,a9)=>[AV.agg [vs a0,vi a1,vi a2,vi a3,vi a4,vi a5,vs a6,vs a7,vi a8,vi a9]]
def lr.o(xs:List AV):Option lr.A:=match xs with | [.agg [.v (.string a0),.v (.int .i64 a1),.v (.int .i64 a2),.v (.int .i64 a3),.v (.int .i64 a4),.v (.int .i64 a5),.v (.string a6),.v (.string a7),.v (.int .i64 a8),.v (.int .i64 a9)]]=>some (a0,a1,a2,a3,a4,a5,a6,a7,a8,a9) | _=>none
theorem lr.oi:∀xs a,lr.o xs=some a->xs=lr.i a:=by
 intro xs a h;unfold lr.o at h;split at h
 ·cases h;rfl
 ·cases h
def lr.e(n:Nat)(a0:ByteArray)(a1 a2 a3 a4 a5:Int)(a6 a7:ByteArray)(a8 a9:Int):Option Bool:=
 bif a1==0 then(some true)else(bif a1==1 then(some true)else(bif a1==2 then(some true)else(some (a1==4))))
def lr.E(n:Nat):lr.A->Option Bool:=fun(a0,a1,a2,a3,a4,a5,a6,a7,a8,a9)=>lr.e n a0 a1 a2 a3 a4 a5 a6 a7 a8 a9
def lr.F(n:Nat)(a0:ByteArray)(a1 a2 a3 a4 a5:Int)(a6 a7:ByteArray)(a8 a9:Int):Option Bool:=lr.e n a0 a1 a2 a3 a4 a5 a6 a7 a8 a9
theorem lr.cZ(n:Nat):dt Tryz.prog 80 lr.i fY.p (lr.E n):=mA n (lr.E n) [] cx fY.qi Tryz.func80
def lr.u:fO Tryz.prog:=gT lr.oi lr.cZ
abbrev gi.T:=ByteArray × Int × Int × Int × Int × Int × ByteArray × ByteArray × Int × Int
def gi.p(p:gi.T):AV:=AV.agg [vs p.1,vi p.2.1,vi p.2.2.1,vi p.2.2.2.1,vi p.2.2.2.2.1,vi p.2.2.2.2.2.1,vs p.2.2.2.2.2.2.1,vs p.2.2.2.2.2.2.2.1,vi p.2.2.2.2.2.2.2.2.1,vi p.2.2.2.2.2.2.2.2.2]
def gi.q(x:AV):Option gi.T:=match x with | .agg [.v (.string p0),.v (.int .i64 p1),.v (.int .i64 p2),.v (.int .i64 p3),.v (.int .i64 p4),.v (.int .i64 p5),.v (.string p6),.v (.string p7),.v (.int .i64 p8),.v (.int .i64 p9)]=>some (p0,p1,p2,p3,p4,p5,p6,p7,p8,p9) | _=>none
theorem gi.qi:∀x p,gi.q x=some p->x=gi.p p:=by
 intro x p h;unfold gi.q at h;split at h
 ·cases h;rfl
 ·cases h
inductive gi.Z where
 | z7 (z1:ByteArray) (z2 z3 z4 z5 z6:Int) (z7 z8:ByteArray) (z9 dy:Int) (dO:ByteArray) (z12 dN dQ dR dV:Int) (ef ee:ByteArray) (eD z20:Int) (z21:ByteArray) (z22 z23 z24 z25 z26:Int) (gP z28:ByteArray) (mF mv:Int)
 | dy (z1:ByteArray) (z2 z3 z4 z5 z6:Int) (z7 z8:ByteArray) (z9 dy:Int) (dO:ByteArray) (z12 dN dQ dR dV:Int) (ef ee:ByteArray) (eD z20:Int) (z21:ByteArray) (z22 z23 z24 z25 z26:Int) (gP z28:ByteArray) (mF mv:Int)
 | dN (z1:ByteArray) (z2 z3 z4 z5 z6:Int) (z7 z8:ByteArray) (z9 dy:Int) (dO:ByteArray) (z12 dN dQ dR dV:Int) (ef ee:ByteArray) (eD z20:Int)
def gi.s:gi.Z->Nat × St
 | .z7 z1 z2 z3 z4 z5 z6 z7 z8 z9 dy dO z12 dN dQ dR dV ef ee eD z20 z21 z22 z23 z24 z25 z26 gP z28 mF mv=>gX 7 37 [(1,.ptr 0 0),(2,.ptr 1 0),(3,.ptr 2 0)] [.box 74 [vs z1,vi z2,vi z3,vi z4,vi z5,vi z6,vs z7,vs z8,vi z9,vi dy],.box 74 [vs dO,vi z12,vi dN,vi dQ,vi dR,vi dV,vs ef,vs ee,vi eD,vi z20],.box 74 [vs z21,vi z22,vi z23,vi z24,vi z25,vi z26,vs gP,vs z28,vi mF,vi mv]]
 | .dy z1 z2 z3 z4 z5 z6 z7 z8 z9 dy dO z12 dN dQ dR dV ef ee eD z20 z21 z22 z23 z24 z25 z26 gP z28 mF mv=>gX 10 37 [(1,.ptr 0 0),(2,.ptr 1 0),(3,.ptr 2 0)] [.box 74 [vs z1,vi z2,vi z3,vi z4,vi z5,vi z6,vs z7,vs z8,vi z9,vi dy],.box 74 [vs dO,vi z12,vi dN,vi dQ,vi dR,vi dV,vs ef,vs ee,vi eD,vi z20],.box 74 [vs z21,vi z22,vi z23,vi z24,vi z25,vi z26,vs gP,vs z28,vi mF,vi mv]]
 | .dN z1 z2 z3 z4 z5 z6 z7 z8 z9 dy dO z12 dN dQ dR dV ef ee eD z20=>gX 13 37 [(2,.ptr 0 0),(3,.ptr 1 0)] [.box 74 [vs z1,vi z2,vi z3,vi z4,vi z5,vi z6,vs z7,vs z8,vi z9,vi dy],.box 74 [vs dO,vi z12,vi dN,vi dQ,vi dR,vi dV,vs ef,vs ee,vi eD,vi z20]]
def gi.r7(n:Nat)(c:gi.Z->Option gi.T)(z1:ByteArray)(z2 z3 z4 z5 z6:Int)(z7 z8:ByteArray)(z9 dy:Int)(dO:ByteArray)(z12 dN dQ dR dV:Int)(ef ee:ByteArray)(eD z20:Int)(z21:ByteArray)(z22 z23 z24 z25 z26:Int)(gP z28:ByteArray)(mF mv:Int):Option gi.T:=
 c (.dN dO z12 dN dQ dR dV ef ee eD z20 z21 z22 z23 z24 z25 z6 z7 z28 mF mv)
def gi.A3(n:Nat)(c:gi.Z->Option gi.T)(z1:ByteArray)(z2 z3 z4 z5 z6:Int)(z7 z8:ByteArray)(z9 dy:Int)(dO:ByteArray)(z12 dN dQ dR dV:Int)(ef ee:ByteArray)(eD z20:Int)(z21:ByteArray)(z22 z23 z24 z25 z26:Int)(gP z28:ByteArray)(mF mv:Int):Option gi.T:=
 c (.dN dO z12 dN dQ dR dV ef ee eD z20 z21 z22 z23 z24 z25 z26 gP z8 z9 mv)
def gi.Cp(n:Nat)(c:gi.Z->Option gi.T)(z1:ByteArray)(z2 z3 z4 z5 z6:Int)(z7 z8:ByteArray)(z9 dy:Int)(dO:ByteArray)(z12 dN dQ dR dV:Int)(ef ee:ByteArray)(eD z20:Int):Option gi.T:=
 some (dO,z12,dN,dQ,dR,dV,ef,ee,eD,z20)
def gi.r(n:Nat)(c:gi.Z->Option gi.T):gi.Z->Option gi.T
 | .z7 z1 z2 z3 z4 z5 z6 z7 z8 z9 dy dO z12 dN dQ dR dV ef ee eD z20 z21 z22 z23 z24 z25 z26 gP z28 mF mv=>gi.r7 n c z1 z2 z3 z4 z5 z6 z7 z8 z9 dy dO z12 dN dQ dR dV ef ee eD z20 z21 z22 z23 z24 z25 z26 gP z28 mF mv
 | .dy z1 z2 z3 z4 z5 z6 z7 z8 z9 dy dO z12 dN dQ dR dV ef ee eD z20 z21 z22 z23 z24 z25 z26 gP z28 mF mv=>gi.A3 n c z1 z2 z3 z4 z5 z6 z7 z8 z9 dy dO z12 dN dQ dR dV ef ee eD z20 z21 z22 z23 z24 z25 z26 gP z28 mF mv
 | .dN z1 z2 z3 z4 z5 z6 z7 z8 z9 dy dO z12 dN dQ dR dV ef ee eD z20=>gi.Cp n c z1 z2 z3 z4 z5 z6 z7 z8 z9 dy dO z12 dN dQ dR dV ef ee eD z20
def gi.e(n:Nat)(c:gi.Z->Option gi.T)(a0:ByteArray)(a1 a2 a3 a4 a5:Int)(a6 a7:ByteArray)(a8 a9:Int):Option gi.T:=
 (lr.F n a0 a1 a2 a3 a4 a5 a6 a7 a8 a9).bind λp1=>
 bif p1 then(bif a1==0 then(c (.z7 a0 a1 a2 a3 a4 a5 a6 a7 a8 a9 (⟨#[]⟩:ByteArray) 0 0 0 0 0 (⟨#[]⟩:ByteArray) (⟨#[]⟩:ByteArray) 0 0 a0 a1 a2 a3 a4 0 (⟨#[]⟩:ByteArray) (⟨#[]⟩:ByteArray) 0 0))else(bif a1==4 then(c (.z7 a0 a1 a2 a3 a4 a5 a6 a7 a8 a9 (⟨#[]⟩:ByteArray) 0 0 0 0 0 (⟨#[]⟩:ByteArray) (⟨#[]⟩:ByteArray) 0 0 a0 a1 a2 a3 a4 0 (⟨#[]⟩:ByteArray) (⟨#[]⟩:ByteArray) 0 0))else(bif a1==1 then(c (.dy a0 a1 a2 a3 a4 a5 a6 a7 a8 a9 (⟨#[]⟩:ByteArray) 0 0 0 0 0 (⟨#[]⟩:ByteArray) (⟨#[]⟩:ByteArray) 0 0 a0 a1 a2 a3 a4 0 (⟨#[]⟩:ByteArray) (⟨#[]⟩:ByteArray) 0 0))else(bif a1==2 then(c (.dy a0 a1 a2 a3 a4 a5 a6 a7 a8 a9 (⟨#[]⟩:ByteArray) 0 0 0 0 0 (⟨#[]⟩:ByteArray) (⟨#[]⟩:ByteArray) 0 0 a0 a1 a2 a3 a4 0 (⟨#[]⟩:ByteArray) (⟨#[]⟩:ByteArray) 0 0))else(bif a1==5 then(c (.dN (⟨#[]⟩:ByteArray) 0 0 0 0 0 (⟨#[]⟩:ByteArray) (⟨#[]⟩:ByteArray) 0 0 a0 a1 a2 a3 a4 0 (⟨#[]⟩:ByteArray) (⟨#[]⟩:ByteArray) 0 a9))else(c (.dN (⟨#[]⟩:ByteArray) 0 0 0 0 0 (⟨#[]⟩:ByteArray) (⟨#[]⟩:ByteArray) 0 0 a0 a1 a2 a3 a4 0 (⟨#[]⟩:ByteArray) (⟨#[]⟩:ByteArray) 0 0)))))))else(bif a1==0 then(c (.z7 a0 a1 a2 a3 a4 a5 a6 a7 a8 a9 (⟨#[]⟩:ByteArray) 0 0 0 0 0 (⟨#[]⟩:ByteArray) (⟨#[]⟩:ByteArray) 0 0 a0 a1 0 0 0 0 (⟨#[]⟩:ByteArray) (⟨#[]⟩:ByteArray) 0 0))else(bif a1==4 then(c (.z7 a0 a1 a2 a3 a4 a5 a6 a7 a8 a9 (⟨#[]⟩:ByteArray) 0 0 0 0 0 (⟨#[]⟩:ByteArray) (⟨#[]⟩:ByteArray) 0 0 a0 a1 0 0 0 0 (⟨#[]⟩:ByteArray) (⟨#[]⟩:ByteArray) 0 0))else(bif a1==1 then(c (.dy a0 a1 a2 a3 a4 a5 a6 a7 a8 a9 (⟨#[]⟩:ByteArray) 0 0 0 0 0 (⟨#[]⟩:ByteArray) (⟨#[]⟩:ByteArray) 0 0 a0 a1 0 0 0 0 (⟨#[]⟩:ByteArray) (⟨#[]⟩:ByteArray) 0 0))else(bif a1==2 then(c (.dy a0 a1 a2 a3 a4 a5 a6 a7 a8 a9 (⟨#[]⟩:ByteArray) 0 0 0 0 0 (⟨#[]⟩:ByteArray) (⟨#[]⟩:ByteArray) 0 0 a0 a1 0 0 0 0 (⟨#[]⟩:ByteArray) (⟨#[]⟩:ByteArray) 0 0))else(bif a1==5 then(c (.dN (⟨#[]⟩:ByteArray) 0 0 0 0 0 (⟨#[]⟩:ByteArray) (⟨#[]⟩:ByteArray) 0 0 a0 a1 0 0 0 0 (⟨#[]⟩:ByteArray) (⟨#[]⟩:ByteArray) 0 a9))else(c (.dN (⟨#[]⟩:ByteArray) 0 0 0 0 0 (⟨#[]⟩:ByteArray) (⟨#[]⟩:ByteArray) 0 0 a0 a1 0 0 0 0 (⟨#[]⟩:ByteArray) (⟨#[]⟩:ByteArray) 0 0)))))))
def gi.E(n:Nat)(c:gi.Z->Option gi.T):lr.A->Option gi.T:=fun(a0,a1,a2,a3,a4,a5,a6,a7,a8,a9)=>gi.e n c a0 a1 a2 a3 a4 a5 a6 a7 a8 a9
def gi.l(n:Nat):Nat->gi.Z->Option gi.T:=eg (gi.r n)
def gi.F(n:Nat)(a0:ByteArray)(a1 a2 a3 a4 a5:Int)(a6 a7:ByteArray)(a8 a9:Int):Option gi.T:=gi.e n (gi.l n n) a0 a1 a2 a3 a4 a5 a6 a7 a8 a9
theorem gi.cZ(n:Nat):dt Tryz.prog 79 lr.i gi.p (gi.E n (gi.l n n)):=pf [(7,⟨[1,2,3],[]⟩),(10,⟨[1,2,3],[]⟩),(13,⟨[2,3],[]⟩)] gi.s (gi.E n) (gi.r n) [lr.u] cx gi.qi Tryz.func79
def gi.u:fO Tryz.prog:=gT lr.oi gi.cZ
def uv.e(n:Nat)(a0 a1 a2:Int):Option Bool:=
 bif decide (a1<=a0)then(some (decide (a0<=a2)))else(some false)
def uv.F(n:Nat)(a0 a1 a2:Int):Option Bool:=uv.e n a0 a1 a2
theorem uv.cZ(n:Nat):dt Tryz.prog 131 fY.i fY.p (rG (uv.e n)):=mA n (rG (uv.e n)) [] cx fY.qi Tryz.func131
def uv.u:fO Tryz.prog:=gT fY.oi uv.cZ
inductive ln.Z where
 | z2 (z1:List AV) (z2 z3:Int)
def ln.s:ln.Z->Nat × St
 | .z2 z1 z2 z3=>gX 2 15 [(5,.sl ⟨true,31,false⟩ 1 z1),(6,vi z2),(7,vi z3)] []
def ln.r2(n:Nat)(c:ln.Z->Option Int)(z1:List AV)(z2 z3:Int):Option Int:=
 bif decide (z3<z2)then(bif decide ((0:Int)<=z3)&&decide (z3<((z1.length:Nat):Int))then(cM ((z1.getD ((z3).toNat) .undef).cells) λh1 r2=>
 cQ .i64 h1 λx3=>
 bif x3 != 0 then(some x3)else(c (.z2 z1 z2 (IntKind.i64.wrap (z3+1)))))else none)else(some 0)
def ln.r(n:Nat)(c:ln.Z->Option Int):ln.Z->Option Int
 | .z2 z1 z2 z3=>ln.r2 n c z1 z2 z3
def ln.e(n:Nat)(c:ln.Z->Option Int)(a0:List AV):Option Int:=
 c (.z2 a0 ((a0.length:Nat):Int) 0)
def ln.l(n:Nat):Nat->ln.Z->Option Int:=eg (ln.r n)
def ln.F(n:Nat)(a0:List AV):Option Int:=ln.e n (ln.l n n) a0
theorem ln.cZ(n:Nat):dt Tryz.prog 132 fx.i fx.p (kP (ln.e n (ln.l n n))):=pf [(2,⟨[5,6,7],[]⟩)] ln.s (λc=>kP (ln.e n c)) (ln.r n) [] cx fx.qi Tryz.func132
def ln.u:fO Tryz.prog:=gT fx.oi ln.cZ
def sb.e(n:Nat)(a0:Bool)(a1:Int):Option Int:=
 bif a0 then(some a1)else(some 0)
def sb.F(n:Nat)(a0:Bool)(a1:Int):Option Int:=sb.e n a0 a1
theorem sb.cZ(n:Nat):dt Tryz.prog 133 mD.i fx.p (kM (sb.e n)):=mA n (kM (sb.e n)) [] cx fx.qi Tryz.func133
def sb.u:fO Tryz.prog:=gT mD.oi sb.cZ
abbrev jx.A:=Int × Int × Int
def jx.i:jx.A->List AV:=fun(a0,a1,a2)=>[AV.agg [vi a0,vi a1,vi a2]]
def jx.o(xs:List AV):Option jx.A:=match xs with | [.agg [.v (.int .i64 a0),.v (.int .i64 a1),.v (.int .i64 a2)]]=>some (a0,a1,a2) | _=>none
theorem jx.oi:∀xs a,jx.o xs=some a->xs=jx.i a:=by
 intro xs a h;unfold jx.o at h;split at h
 ·cases h;rfl
 ·cases h
inductive jx.Z where
 | dN (z1 z2:Bool)
def jx.s:jx.Z->Nat × St
 | .dN z1 z2=>gX 13 54 [(3,vb z1),(4,vb z2)] []
def jx.Cp(n:Nat)(c:jx.Z->Option Int)(z1 z2:Bool):Option Int:=
 (sb.F n (!z1) 18).bind λp8=>
 (sb.F n (!z2) 3).bind λp9=>
 (ln.F n [vi p8,vi p9]).bind λoG=>
 some oG
def jx.r(n:Nat)(c:jx.Z->Option Int):jx.Z->Option Int
 | .dN z1 z2=>jx.Cp n c z1 z2
def jx.e(n:Nat)(c:jx.Z->Option Int)(a0 a1 a2:Int):Option Int:=
 bif a0==0 then((uv.F n a1 1 256).bind λp1=>
 c (.dN p1 (a2==0)))else(bif a0==1 then((uv.F n a1 1 15).bind λp2=>
 (uv.F n a2 0 a1).bind λp3=>
 c (.dN p2 p3))else(bif a0==2 then((uv.F n a1 1 15).bind λp4=>
 (uv.F n a2 0 a1).bind λp5=>
 c (.dN p4 p5))else(bif a0==3 then(bif a1==4 then((uv.F n a2 0 a1).bind λp6=>
 c (.dN true p6))else((uv.F n a2 0 a1).bind λp7=>
 c (.dN (a1==9) p7)))else(bif a0==4 then(c (.dN (a1==0) (a2==0)))else(some 4)))))
def jx.l(n:Nat):Nat->jx.Z->Option Int:=eg (jx.r n)
def jx.F(n:Nat)(a0 a1 a2:Int):Option Int:=jx.e n (jx.l n n) a0 a1 a2
theorem jx.cZ(n:Nat):dt Tryz.prog 81 jx.i fx.p (rG (jx.e n (jx.l n n))):=pf [(13,⟨[3,4],[]⟩)] jx.s (λc=>rG (jx.e n c)) (jx.r n) [uv.u,ln.u,sb.u] cx fx.qi Tryz.func81
def jx.u:fO Tryz.prog:=gT jx.oi jx.cZ
abbrev kj.A:=Int
def kj.i:kj.A->List AV:=λa0=>[vi a0]
def kj.o(xs:List AV):Option kj.A:=match xs with | [.v (.int .i64 a0)]=>some a0 | _=>none
theorem kj.oi:∀xs a,kj.o xs=some a->xs=kj.i a:=by
 intro xs a h;unfold kj.o at h;split at h
 ·cases h;rfl
 ·cases h
inductive kj.Z where
 | z3 (z1 z2 z3:Int)
def kj.s:kj.Z->Nat × St
 | .z3 z1 z2 z3=>gX 3 12 [(3,vi z1),(5,vi z2),(6,vi z3)] []
def kj.r3(n:Nat)(c:kj.Z->Option Int)(z1 z2 z3:Int):Option Int:=
 bif decide (z3<z2)then(c (.z3 (IntKind.i64.wrap (z1*10)) z2 (IntKind.i64.wrap (z3+1))))else(some z1)
def kj.r(n:Nat)(c:kj.Z->Option Int):kj.Z->Option Int
 | .z3 z1 z2 z3=>kj.r3 n c z1 z2 z3
def kj.e(n:Nat)(c:kj.Z->Option Int)(a0:Int):Option Int:=
 c (.z3 1 (if 18<a0 then 18 else a0) 0)
def kj.l(n:Nat):Nat->kj.Z->Option Int:=eg (kj.r n)
def kj.F(n:Nat)(a0:Int):Option Int:=kj.e n (kj.l n n) a0
theorem kj.cZ(n:Nat):dt Tryz.prog 134 kj.i fx.p (kP (kj.e n (kj.l n n))):=pf [(3,⟨[3,5,6],[]⟩)] kj.s (λc=>kP (kj.e n c)) (kj.r n) [] cx fx.qi Tryz.func134
def kj.u:fO Tryz.prog:=gT kj.oi kj.cZ
abbrev rC.A:=Int × Int × Int × Int × ByteArray
def rC.i:rC.A->List AV:=fun(a0,a1,a2,a3,a4)=>[AV.agg [vi a0,vi a1,vi a2],AV.agg [vi a3,vs a4]]
def rC.o(xs:List AV):Option rC.A:=match xs with | [.agg [.v (.int .i64 a0),.v (.int .i64 a1),.v (.int .i64 a2)],.agg [.v (.int .i64 a3),.v (.string a4)]]=>some (a0,a1,a2,a3,a4) | _=>none
theorem rC.oi:∀xs a,rC.o xs=some a->xs=rC.i a:=by
 intro xs a h;unfold rC.o at h;split at h
 ·cases h;rfl
 ·cases h
def rC.e(n:Nat)(a0 a1 a2 a3:Int)(a4:ByteArray):Option Int:=
 (jx.F n a0 a1 a2).bind λp1=>
 (sb.F n (a0==4) 17).bind λp2=>
 (ln.F n [vi p1,vi p2]).bind λp3=>
 bif p3 != 0 then(some p3)else(bif a0==0 then((sb.F n (a3 != 0) 5).bind λp4=>
 let y5:Bool:=((a4.size:Nat):Int) != a1
 (sb.F n y5 18).bind λp6=>
 (ln.F n [vi p4,vi p6]).bind λp7=>
 some p7)else((kj.F n a1).bind λp8=>
 let y9:Bool:=!(a4.toList==(⟨#[]⟩:ByteArray).toList)
 (sb.F n y9 5).bind λoG=>
 (uv.F n a3 (IntKind.i64.wrap (0 - (IntKind.i64.wrap (p8 - 1)))) (IntKind.i64.wrap (p8 - 1))).bind λoZ=>
 (sb.F n (!oZ) 19).bind λuO=>
 (ln.F n [vi oG,vi uO]).bind λCt=>
 some Ct))
def rC.F(n:Nat)(a0 a1 a2 a3:Int)(a4:ByteArray):Option Int:=rC.e n a0 a1 a2 a3 a4
theorem rC.cZ(n:Nat):dt Tryz.prog 82 rC.i fx.p (MK (rC.e n)):=mA n (MK (rC.e n)) [jx.u,uv.u,ln.u,sb.u,kj.u] cx fx.qi Tryz.func82
def rC.u:fO Tryz.prog:=gT rC.oi rC.cZ
def EU.e(n:Nat)(a0 a1 a2:Int):Option Int:=
 bif a0==1 then(let y1:Int:=IntKind.i64.wrap (Int.tdiv a1 2)
 some (IntKind.i64.wrap (y1+1)))else(bif a0==3 then(let y2:Int:=IntKind.i64.wrap (Int.tdiv a1 9)
 let y3:Int:=IntKind.i64.wrap ((2:Int)+(IntKind.i64.wrap (y2*2)))
 some y3)else(bif a0==4 then(some 16)else(some a1)))
def EU.F(n:Nat)(a0 a1 a2:Int):Option Int:=EU.e n a0 a1 a2
theorem EU.cZ(n:Nat):dt Tryz.prog 165 jx.i fx.p (rG (EU.e n)):=mA n (rG (EU.e n)) [] cx fx.qi Tryz.func165
def EU.u:fO Tryz.prog:=gT jx.oi EU.cZ
abbrev rB.T:=Int × Int
def rB.p(p:rB.T):AV:=.dU [vi p.1,vi p.2]
def rB.q(x:AV):Option rB.T:=match x with | .dU [.v (.int .i64 p0),.v (.int .i64 p1)]=>some (p0,p1) | _=>none
theorem rB.qi:∀x p,rB.q x=some p->x=rB.p p:=by
 intro x p h;unfold rB.q at h;split at h
 ·cases h;rfl
 ·cases h
def rB.e(n:Nat)(a0 a1 a2:Int):Option (Int × Int):=
 (jx.F n a0 a1 a2).bind λp1=>
 bif p1 != 0 then(some (0,p1))else((EU.F n a0 a1 a2).bind λp2=>
 some (p2,0))
def rB.F(n:Nat)(a0 a1 a2:Int):Option (Int × Int):=rB.e n a0 a1 a2
theorem rB.cZ(n:Nat):dt Tryz.prog 136 jx.i rB.p (rG (rB.e n)):=mA n (rG (rB.e n)) [jx.u,EU.u] cx rB.qi Tryz.func136
def rB.u:fO Tryz.prog:=gT jx.oi rB.cZ
def xZ.e(n:Nat)(a0:ByteArray)(a1 a2 a3 a4 a5:Int)(a6 a7:ByteArray)(a8 a9:Int):Option Int:=
 (rB.F n a2 a3 a4).bind λp1=>
 some p1.1
def xZ.E(n:Nat):lr.A->Option Int:=fun(a0,a1,a2,a3,a4,a5,a6,a7,a8,a9)=>xZ.e n a0 a1 a2 a3 a4 a5 a6 a7 a8 a9
def xZ.F(n:Nat)(a0:ByteArray)(a1 a2 a3 a4 a5:Int)(a6 a7:ByteArray)(a8 a9:Int):Option Int:=xZ.e n a0 a1 a2 a3 a4 a5 a6 a7 a8 a9
theorem xZ.cZ(n:Nat):dt Tryz.prog 85 lr.i fx.p (xZ.E n):=mA n (xZ.E n) [rB.u] cx fx.qi Tryz.func85
def xZ.u:fO Tryz.prog:=gT lr.oi xZ.cZ
abbrev re.A:=ByteArray × Int × Int × Int × Int × Int × ByteArray × ByteArray × Int × Int × List AV
def re.i:re.A->List AV:=fun(a0,a1,a2,a3,a4,a5,a6,a7,a8,a9,mN)=>[AV.agg [vs a0,vi a1,vi a2,vi a3,vi a4,vi a5,vs a6,vs a7,vi a8,vi a9],.sl ⟨true,74,false⟩ 10 mN]
def re.o(xs:List AV):Option re.A:=match xs with | [.agg [.v (.string a0),.v (.int .i64 a1),.v (.int .i64 a2),.v (.int .i64 a3),.v (.int .i64 a4),.v (.int .i64 a5),.v (.string a6),.v (.string a7),.v (.int .i64 a8),.v (.int .i64 a9)],.sl ⟨true,74,false⟩ 10 mN]=>some (a0,a1,a2,a3,a4,a5,a6,a7,a8,a9,mN) | _=>none
theorem re.oi:∀xs a,re.o xs=some a->xs=re.i a:=by
 intro xs a h;unfold re.o at h;split at h
 ·cases h;rfl
 ·cases h
def re.e(n:Nat)(a0:ByteArray)(a1 a2 a3 a4 a5:Int)(a6 a7:ByteArray)(a8 a9:Int)(mN:List AV):Option Int:=
 (pD.F n mN a7).bind λp1=>
 bif decide (p1<0)then(some 11)else(bif decide ((0:Int)<=p1)&&decide (p1<((mN.length:Nat):Int))then(cM ((mN.getD ((p1).toNat) .undef).cells) λh2 r3=>
 dm h2 λs4=>
 cM r3 λh5 r6=>
 cQ .i64 h5 λx7=>
 cM r6 λh8 r9=>
 cQ .i64 h8 λLl=>
 cM r9 λHl uM=>
 cQ .i64 Hl λLk=>
 cM uM λEa rI=>
 cQ .i64 Ea λIm=>
 cM rI λBK Co=>
 cQ .i64 BK λDk=>
 cM Co λBJ wW=>
 dm BJ λPQ=>
 cM wW λBI Cm=>
 dm BI λKu=>
 cM Cm λBH DE=>
 cQ .i64 BH λIl=>
 cM DE λHk Kz=>
 cQ .i64 Hk λLj=>
 bif a1==2 then((mD.F n (x7 != 3) 17).bind λMM=>
 (fY.F n a8 0 256).bind λRA=>
 (mD.F n (!RA) 3).bind λRz=>
 (fx.F n [vi MM,vi Rz]).bind λRy=>
 some Ry)else(bif x7 != 0 then(some 17)else((xZ.F n s4 x7 Ll Lk Im Dk PQ Ku Il Lj).bind λRx=>
 (xZ.F n a0 a1 a2 a3 a4 a5 a6 a7 a8 a9).bind λEY=>
 (fY.F n a8 0 (IntKind.i64.wrap (Rx - EY))).bind λWX=>
 (mD.F n (!WX) 3).bind λRw=>
 some Rw)))else none)
def re.E(n:Nat):re.A->Option Int:=fun(a0,a1,a2,a3,a4,a5,a6,a7,a8,a9,mN)=>re.e n a0 a1 a2 a3 a4 a5 a6 a7 a8 a9 mN
def re.F(n:Nat)(a0:ByteArray)(a1 a2 a3 a4 a5:Int)(a6 a7:ByteArray)(a8 a9:Int)(mN:List AV):Option Int:=re.e n a0 a1 a2 a3 a4 a5 a6 a7 a8 a9 mN
theorem re.cZ(n:Nat):dt Tryz.prog 83 re.i fx.p (re.E n):=mA n (re.E n) [fx.u,mD.u,pD.u,fY.u,xZ.u] cx fx.qi Tryz.func83
def re.u:fO Tryz.prog:=gT re.oi re.cZ
abbrev jw.A:=List AV × List AV × List AV × Int
def jw.i:jw.A->List AV:=fun(a0,a1,a2,a3)=>[AV.agg [.sl ⟨true,74,false⟩ 10 a0,.sl ⟨false,86,false⟩ 2 a1,.sl ⟨true,82,false⟩ 4 a2],vi a3]
def jw.o(xs:List AV):Option jw.A:=match xs with | [.agg [.sl ⟨true,74,false⟩ 10 a0,.sl ⟨false,86,false⟩ 2 a1,.sl ⟨true,82,false⟩ 4 a2],.v (.int .i64 a3)]=>some (a0,a1,a2,a3) | _=>none
theorem jw.oi:∀xs a,jw.o xs=some a->xs=jw.i a:=by
 intro xs a h;unfold jw.o at h;split at h
 ·cases h;rfl
 ·cases h
inductive jw.Z where
 | z12 (z1:ByteArray) (z2 z3 z4 z5 z6:Int) (z7 z8:ByteArray) (z9 dy:Int)
 | dR (z1:List AV) (z2:ByteArray) (z3 z4 z5 z6 z7:Int) (z8 z9:ByteArray) (dy dO:Int)
def jw.s:jw.Z->Nat × St
 | .z12 z1 z2 z3 z4 z5 z6 z7 z8 z9 dy=>gX 12 86 [(5,.ptr 0 0)] [.box 74 [vs z1,vi z2,vi z3,vi z4,vi z5,vi z6,vs z7,vs z8,vi z9,vi dy]]
 | .dR z1 z2 z3 z4 z5 z6 z7 z8 z9 dy dO=>gX 15 86 [(5,.ptr 0 0),(6,.sl ⟨true,74,false⟩ 10 z1)] [.box 74 [vs z2,vi z3,vi z4,vi z5,vi z6,vi z7,vs z8,vs z9,vi dy,vi dO]]
def jw.uM(n:Nat)(c:jw.Z->Option Int)(z1:ByteArray)(z2 z3 z4 z5 z6:Int)(z7 z8:ByteArray)(z9 dy:Int):Option Int:=
 (rC.F n z3 z4 z5 z6 z7).bind λWQ=>
 some WQ
def jw.rI(n:Nat)(c:jw.Z->Option Int)(z1:List AV)(z2:ByteArray)(z3 z4 z5 z6 z7:Int)(z8 z9:ByteArray)(dy dO:Int):Option Int:=
 (re.F n z2 z3 z4 z5 z6 z7 z8 z9 dy dO z1).bind λWO=>
 some WO
def jw.r(n:Nat)(c:jw.Z->Option Int):jw.Z->Option Int
 | .z12 z1 z2 z3 z4 z5 z6 z7 z8 z9 dy=>jw.uM n c z1 z2 z3 z4 z5 z6 z7 z8 z9 dy
 | .dR z1 z2 z3 z4 z5 z6 z7 z8 z9 dy dO=>jw.rI n c z1 z2 z3 z4 z5 z6 z7 z8 z9 dy dO
def jw.e(n:Nat)(c:jw.Z->Option Int)(a0 a1 a2:List AV)(a3:Int):Option Int:=
 bif decide ((0:Int)<=a3)&&decide (a3<((a0.length:Nat):Int))then(cM ((a0.getD ((a3).toNat) .undef).cells) λh1 r2=>
 dm h1 λs3=>
 cM r2 λh4 r5=>
 cQ .i64 h4 λx6=>
 cM r5 λh7 r8=>
 cQ .i64 h7 λx9=>
 cM r8 λIz EX=>
 cQ .i64 Iz λxT=>
 cM EX λMl As=>
 cQ .i64 Ml λAr=>
 cM As λK6 NJ=>
 cQ .i64 K6 λAJ=>
 cM NJ λOV NI=>
 dm OV λDx=>
 cM NI λOU Iq=>
 dm OU λDw=>
 cM Iq λOT EW=>
 cQ .i64 OT λDj=>
 cM EW λOR Rl=>
 cQ .i64 OR λAI=>
 bif decide ((0:Int)<=a3)&&decide ((a3:Int)<=((a0.length:Nat):Int))then((fI.F n s3).bind λNN=>
 (mD.F n (!NN) 7).bind λMM=>
 (pD.F n ((a0.take (a3).toNat).drop 0) s3).bind λRA=>
 (mD.F n (decide (RA>=0)) 13).bind λRz=>
 (fY.F n x6 0 5).bind λRy=>
 (mD.F n (!Ry) 4).bind λRx=>
 (gi.F n s3 x6 x9 xT Ar AJ Dx Dw Dj AI).bind λEY=>
 let Qv:Bool:=!((EY.1==s3)&&((EY.2.1==x6)&&((EY.2.2.1==x9)&&((EY.2.2.2.1==xT)&&((EY.2.2.2.2.1==Ar)&&((EY.2.2.2.2.2.1==AJ)&&((EY.2.2.2.2.2.2.1==Dx)&&((EY.2.2.2.2.2.2.2.1==Dw)&&((EY.2.2.2.2.2.2.2.2.1==Dj)&&((EY.2.2.2.2.2.2.2.2.2==AI)&&true))))))))))
 (mD.F n Qv 5).bind λRw=>
 (fx.F n [vi MM,vi Rz,vi Rx,vi Rw]).bind λT9=>
 bif T9 != 0 then(some T9)else((lr.F n s3 x6 x9 xT Ar AJ Dx Dw Dj AI).bind λWW=>
 bif WW then((jx.F n x9 xT Ar).bind λWV=>
 (mD.F n (x9==4) 17).bind λWU=>
 (fx.F n [vi WV,vi WU]).bind λT8=>
 bif T8 != 0 then(some T8)else(bif x6==0 then(c (.z12 s3 x6 x9 xT Ar AJ Dx Dw Dj AI))else(bif x6==4 then(c (.z12 s3 x6 x9 xT Ar AJ Dx Dw Dj AI))else(bif x6==1 then(c (.dR ((a0.take (a3).toNat).drop 0) s3 x6 x9 xT Ar AJ Dx Dw Dj AI))else(bif x6==2 then(c (.dR ((a0.take (a3).toNat).drop 0) s3 x6 x9 xT Ar AJ Dx Dw Dj AI))else(bif x6==5 then(let Vh:Int:=IntKind.i64.wrap (((a1.length:Nat):Int) - 1)
 (fY.F n AI 0 Vh).bind λWT=>
 (mD.F n (!WT) 3).bind λRv=>
 some Rv)else(some 0)))))))else(bif x6==0 then(c (.z12 s3 x6 x9 xT Ar AJ Dx Dw Dj AI))else(bif x6==4 then(c (.z12 s3 x6 x9 xT Ar AJ Dx Dw Dj AI))else(bif x6==1 then(c (.dR ((a0.take (a3).toNat).drop 0) s3 x6 x9 xT Ar AJ Dx Dw Dj AI))else(bif x6==2 then(c (.dR ((a0.take (a3).toNat).drop 0) s3 x6 x9 xT Ar AJ Dx Dw Dj AI))else(bif x6==5 then(let Vg:Int:=IntKind.i64.wrap (((a1.length:Nat):Int) - 1)
 (fY.F n AI 0 Vg).bind λWS=>
 (mD.F n (!WS) 3).bind λWR=>
 some WR)else(some 0))))))))else none)else none
def jw.l(n:Nat):Nat->jw.Z->Option Int:=eg (jw.r n)
def jw.F(n:Nat)(a0 a1 a2:List AV)(a3:Int):Option Int:=jw.e n (jw.l n n) a0 a1 a2 a3
theorem jw.cZ(n:Nat):dt Tryz.prog 45 jw.i fx.p (Kl (jw.e n (jw.l n n))):=pf [(12,⟨[5],[]⟩),(15,⟨[5,6],[]⟩)] jw.s (λc=>Kl (jw.e n c)) (jw.r n) [fx.u,mD.u,pD.u,fY.u,fI.u,gi.u,lr.u,jx.u,rC.u,re.u] cx fx.qi Tryz.func45
def jw.u:fO Tryz.prog:=gT jw.oi jw.cZ
abbrev nv.A:=Int × Int
abbrev nv.T:=Int × Int
def nv.i:nv.A->List AV:=fun(a0,a1)=>[.v (.int .u64 a0),.v (.int .u64 a1)]
def nv.o(xs:List AV):Option nv.A:=match xs with | [.v (.int .u64 a0),.v (.int .u64 a1)]=>some (a0,a1) | _=>none
theorem nv.oi:∀xs a,nv.o xs=some a->xs=nv.i a:=by
 intro xs a h;unfold nv.o at h;split at h
 ·cases h;rfl
 ·cases h
def nv.p(p:nv.T):AV:=.dU [.v (.int .u64 p.1),.v (.int .u64 p.2)]
def nv.q(x:AV):Option nv.T:=match x with | .dU [.v (.int .u64 p0),.v (.int .u64 p1)]=>some (p0,p1) | _=>none
theorem nv.qi:∀x p,nv.q x=some p->x=nv.p p:=by
 intro x p h;unfold nv.q at h;split at h
 ·cases h;rfl
 ·cases h
def nv.e(n:Nat)(a0 a1:Int):Option (Int × Int):=
 let y1:Int:=IntKind.u64.wrap (BitVec.ofInt 64 a0 &&& BitVec.ofInt 64 4294967295).toNat
 let y2:Int:=Int.fdiv a0 (2 ^ min (32:Int).toNat 64)
 let y3:Int:=IntKind.u64.wrap (BitVec.ofInt 64 a1 &&& BitVec.ofInt 64 4294967295).toNat
 let y4:Int:=Int.fdiv a1 (2 ^ min (32:Int).toNat 64)
 let y5:Int:=Int.fdiv (IntKind.u64.wrap (y1*y3)) (2 ^ min (32:Int).toNat 64)
 let y6:Int:=IntKind.u64.wrap ((IntKind.u64.wrap (y2*y3))+y5)
 let y7:Int:=IntKind.u64.wrap (BitVec.ofInt 64 y6 &&& BitVec.ofInt 64 4294967295).toNat
 let y8:Int:=Int.fdiv y6 (2 ^ min (32:Int).toNat 64)
 let y9:Int:=IntKind.u64.wrap (y7+(IntKind.u64.wrap (y1*y4)))
 let pJ:Int:=IntKind.u64.wrap ((IntKind.u64.wrap (y2*y4))+y8)
 let uz:Int:=Int.fdiv y9 (2 ^ min (32:Int).toNat 64)
 some (IntKind.u64.wrap (pJ+uz),IntKind.u64.wrap (a0*a1))
def nv.F(n:Nat)(a0 a1:Int):Option (Int × Int):=nv.e n a0 a1
theorem nv.cZ(n:Nat):dt Tryz.prog 171 nv.i nv.p (kM (nv.e n)):=mA n (kM (nv.e n)) [] cx nv.qi Tryz.func171
def nv.u:fO Tryz.prog:=gT nv.oi nv.cZ
def Ke.e(n:Nat)(a0 a1:Int):Option (Int × Int):=
 (nv.F n a0 a1).bind λp1=>
 some (p1.1,p1.2)
def Ke.F(n:Nat)(a0 a1:Int):Option (Int × Int):=Ke.e n a0 a1
theorem Ke.cZ(n:Nat):dt Tryz.prog 135 nv.i nv.p (kM (Ke.e n)):=mA n (kM (Ke.e n)) [nv.u] cx nv.qi Tryz.func135
def Ke.u:fO Tryz.prog:=gT nv.oi Ke.cZ
abbrev jW.A:=List AV × Int
abbrev jW.T:=List AV
def jW.i:jW.A->List AV:=fun(a0,a1)=>[.sl ⟨true,3,false⟩ 1 a0,vi a1]
def jW.o(xs:List AV):Option jW.A:=match xs with | [.sl ⟨true,3,false⟩ 1 a0,.v (.int .i64 a1)]=>some (a0,a1) | _=>none
theorem jW.oi:∀xs a,jW.o xs=some a->xs=jW.i a:=by
 intro xs a h;unfold jW.o at h;split at h
 ·cases h;rfl
 ·cases h
def jW.p(p:jW.T):AV:=.fr ⟨true,3,false⟩ 1 p
def jW.q(x:AV):Option jW.T:=match x with | .fr ⟨true,3,false⟩ 1 p0=>some p0 | _=>none
theorem jW.qi:∀x p,jW.q x=some p->x=jW.p p:=by
 intro x p h;unfold jW.q at h;split at h
 ·cases h;rfl
 ·cases h
inductive jW.Z where
 | z8 (z1:Int) (z2:List AV)
def jW.s:jW.Z->Nat × St
 | .z8 z1 z2=>gX 8 48 [(7,.own 0 0 none),(8,vi z1)] [.row ⟨true,3,false⟩ 1 z2]
def jW.r8(n:Nat)(c:jW.Z->Option (List AV))(z1:Int)(z2:List AV):Option (List AV):=
 let y6:Bool:=decide (z1<((z2.length:Nat):Int))
 bif y6 then(bif decide ((0:Int)<=z1)&&decide ((z1:Int)<=((z2.length:Nat):Int))then(bif decide ((0:Int)<=z1)&&decide ((z1:Int)<=((z2.length:Nat):Int))then(let y7:List AV:=(z2.drop 0).take ((z1 - 0).toNat)
 let y8:Nat:=min (z2.length - ((z1).toNat)) y7.length
 let y9:List AV:=z2.take ((z1).toNat)++y7.take y8++z2.drop (y8+((z1).toNat))
 let pJ:Int:=IntKind.i64.wrap (z1+((y8:Nat):Int))
 c (.z8 pJ y9))else none)else none)else(some z2)
def jW.r(n:Nat)(c:jW.Z->Option (List AV)):jW.Z->Option (List AV)
 | .z8 z1 z2=>jW.r8 n c z1 z2
def jW.e(n:Nat)(c:jW.Z->Option (List AV))(a0:List AV)(a1:Int):Option (List AV):=
 bif decide (a1<0)then(none)else(let y1:Int:=IntKind.u64.wrap ((a0.length:Nat):Int)
 (Ke.F n y1 (IntKind.u64.wrap a1)).bind λp2=>
 bif decide (p2.1>0)then(none)else(let y3:Bool:=decide (p2.2>9223372036854775807)
 bif y3 then(none)else(bif(decide ((0:Int)<=IntKind.i64.wrap p2.2)&&decide ((IntKind.i64.wrap p2.2:Int)<=eR))&&decide ((IntKind.i64.wrap p2.2:Int)=IntKind.i64.wrap p2.2)&&true&&true then(let y4:List AV:=List.replicate (IntKind.i64.wrap p2.2).toNat (vi 0)
 let y5:List AV:=y4.take 0++a0.take (min y4.length a0.length)++y4.drop ((min y4.length a0.length)+0)
 c (.z8 ((min y4.length a0.length:Nat):Int) y5))else none)))
def jW.l(n:Nat):Nat->jW.Z->Option (List AV):=eg (jW.r n)
def jW.F(n:Nat)(a0:List AV)(a1:Int):Option (List AV):=jW.e n (jW.l n n) a0 a1
theorem jW.cZ(n:Nat):dt Tryz.prog 84 jW.i jW.p (kM (jW.e n (jW.l n n))):=pf [(8,⟨[7,8],[]⟩)] jW.s (λc=>kM (jW.e n c)) (jW.r n) [Ke.u] cx jW.qi Tryz.func84
def jW.u:fO Tryz.prog:=gT jW.oi jW.cZ
abbrev fH.A:=List AV
abbrev fH.T:=List AV × Int
def fH.i:fH.A->List AV:=λa0=>[.sl ⟨true,74,false⟩ 10 a0]
def fH.o(xs:List AV):Option fH.A:=match xs with | [.sl ⟨true,74,false⟩ 10 a0]=>some a0 | _=>none
theorem fH.oi:∀xs a,fH.o xs=some a->xs=fH.i a:=by
 intro xs a h;unfold fH.o at h;split at h
 ·cases h;rfl
 ·cases h
def fH.p(p:fH.T):AV:=.dU [.fr ⟨true,3,false⟩ 1 p.1,vi p.2]
def fH.q(x:AV):Option fH.T:=match x with | .dU [.fr ⟨true,3,false⟩ 1 p0,.v (.int .i64 p1)]=>some (p0,p1) | _=>none
theorem fH.qi:∀x p,fH.q x=some p->x=fH.p p:=by
 intro x p h;unfold fH.q at h;split at h
 ·cases h;rfl
 ·cases h
inductive fH.Z where
 | z4 (z1:List AV) (z2:Int) (z3:List AV) (z4 z5:Int) (z6:List AV)
 | dy (z1:List AV) (z2:Int) (z3:List AV) (z4 z5:Int) (z6:List AV)
 | dV (z1:List AV) (z2:Int) (z3:List AV) (z4 z5:Int) (z6:List AV)
def fH.s:fH.Z->Nat × St
 | .z4 z1 z2 z3 z4 z5 z6=>gX 4 81 [(0,.sl ⟨true,74,false⟩ 10 z1),(4,.own 0 0 none),(5,vi z2),(16,.sl ⟨true,74,false⟩ 10 z3),(17,vi z4),(18,vi z5)] [.row ⟨true,3,false⟩ 1 z6]
 | .dy z1 z2 z3 z4 z5 z6=>gX 10 81 [(0,.sl ⟨true,74,false⟩ 10 z1),(4,.own 0 0 none),(5,vi z2),(33,.sl ⟨true,74,false⟩ 10 z3),(34,vi z4),(35,vi z5)] [.row ⟨true,3,false⟩ 1 z6]
 | .dV z1 z2 z3 z4 z5 z6=>gX 16 81 [(0,.sl ⟨true,74,false⟩ 10 z1),(4,.own 0 0 none),(5,vi z2),(52,.sl ⟨true,74,false⟩ 10 z3),(53,vi z4),(54,vi z5)] [.row ⟨true,3,false⟩ 1 z6]
def fH.r4(n:Nat)(c:fH.Z->Option fH.T)(z1:List AV)(z2:Int)(z3:List AV)(z4 z5:Int)(z6:List AV):Option fH.T:=
 bif decide (z5<z4)then(bif decide ((0:Int)<=z5)&&decide (z5<((z3.length:Nat):Int))then(cM ((z3.getD ((z5).toNat) .undef).cells) λh2 r3=>
 dm h2 λs4=>
 cM r3 λh5 r6=>
 cQ .i64 h5 λx7=>
 cM r6 λh8 r9=>
 cQ .i64 h8 λLl=>
 cM r9 λHl uM=>
 cQ .i64 Hl λLk=>
 cM uM λEa rI=>
 cQ .i64 Ea λIm=>
 cM rI λBK Co=>
 cQ .i64 BK λDk=>
 cM Co λBJ wW=>
 dm BJ λPQ=>
 cM wW λBI Cm=>
 dm BI λKu=>
 cM Cm λBH DE=>
 cQ .i64 BH λIl=>
 cM DE λHk Kz=>
 cQ .i64 Hk λLj=>
 bif x7==3 then(bif decide ((0:Int)<=z5)&&decide (z5<((z6.length:Nat):Int))then(c (.z4 z1 (IntKind.i64.wrap (z2+16)) z3 z4 (IntKind.i64.wrap (z5+1)) (z6.set ((z5).toNat) (vi z2))))else none)else(c (.z4 z1 z2 z3 z4 (IntKind.i64.wrap (z5+1)) z6)))else none)else(c (.dy z1 z2 z1 ((z1.length:Nat):Int) 0 z6))
def fH.A3(n:Nat)(c:fH.Z->Option fH.T)(z1:List AV)(z2:Int)(z3:List AV)(z4 z5:Int)(z6:List AV):Option fH.T:=
 bif decide (z5<z4)then(bif decide ((0:Int)<=z5)&&decide (z5<((z3.length:Nat):Int))then(cM ((z3.getD ((z5).toNat) .undef).cells) λJL NG=>
 dm JL λQ2=>
 cM NG λOQ Ip=>
 cQ .i64 OQ λPJ=>
 cM Ip λOO PU=>
 cQ .i64 OO λNs=>
 cM PU λON PT=>
 cQ .i64 ON λQP=>
 cM PT λOM PS=>
 cQ .i64 OM λNr=>
 cM PS λTa Rj=>
 cQ .i64 Ta λQN=>
 cM Rj λS8 Rh=>
 dm S8 λV4=>
 cM Rh λS6 Rf=>
 dm S6 λQ1=>
 cM Rf λS4 Re=>
 cQ .i64 S4 λVH=>
 cM Re λS3 T1=>
 cQ .i64 S3 λQK=>
 bif PJ==0 then((xZ.F n Q2 PJ Ns QP Nr QN V4 Q1 VH QK).bind λWN=>
 bif decide ((0:Int)<=z5)&&decide (z5<((z6.length:Nat):Int))then(c (.dy z1 (IntKind.i64.wrap (z2+WN)) z3 z4 (IntKind.i64.wrap (z5+1)) (z6.set ((z5).toNat) (vi z2))))else none)else(c (.dy z1 z2 z3 z4 (IntKind.i64.wrap (z5+1)) z6)))else none)else(c (.dV z1 z2 z1 ((z1.length:Nat):Int) 0 z6))
def fH.I4(n:Nat)(c:fH.Z->Option fH.T)(z1:List AV)(z2:Int)(z3:List AV)(z4 z5:Int)(z6:List AV):Option fH.T:=
 bif decide (z5<z4)then(bif decide ((0:Int)<=z5)&&decide (z5<((z3.length:Nat):Int))then(cM ((z3.getD ((z5).toNat) .undef).cells) λS0 Rc=>
 dm S0 λZa=>
 cM Rc λSZ Rb=>
 cQ .i64 SZ λVB=>
 cM Rb λSX Ra=>
 cQ .i64 SX λY7=>
 cM Ra λSV Q_=>
 cQ .i64 SV λTJ=>
 cM Q_ λSS TX=>
 cQ .i64 SS λTH=>
 cM TX λYz Wl=>
 cQ .i64 Yz λY6=>
 cM Wl λSQ Q9=>
 dm SQ λY_=>
 cM Q9 λSP Q8=>
 dm SP λVX=>
 cM Q8 λSO Q7=>
 cQ .i64 SO λQH=>
 cM Q7 λSN Wg=>
 cQ .i64 SN λTG=>
 bif VB==1 then((pD.F n z1 VX).bind λRu=>
 bif decide ((0:Int)<=Ru)&&decide (Ru<((z6.length:Nat):Int))then(cM ((z6.getD ((Ru).toNat) .undef).cells) λSM TV=>
 cQ .i64 SM λVt=>
 bif decide ((0:Int)<=z5)&&decide (z5<((z6.length:Nat):Int))then(let Vb:List AV:=z6.set ((z5).toNat) (vi (IntKind.i64.wrap (Vt+QH)))
 c (.dV z1 z2 z3 z4 (IntKind.i64.wrap (z5+1)) Vb))else none)else none)else(c (.dV z1 z2 z3 z4 (IntKind.i64.wrap (z5+1)) z6)))else none)else(let Va:Int:=IntKind.i64.wrap ((IntKind.i64.wrap (z2+16)) - 1)
 let U_:Int:=IntKind.i64.wrap (Int.tdiv Va 16)
 some (z6,U_))
def fH.r(n:Nat)(c:fH.Z->Option fH.T):fH.Z->Option fH.T
 | .z4 z1 z2 z3 z4 z5 z6=>fH.r4 n c z1 z2 z3 z4 z5 z6
 | .dy z1 z2 z3 z4 z5 z6=>fH.A3 n c z1 z2 z3 z4 z5 z6
 | .dV z1 z2 z3 z4 z5 z6=>fH.I4 n c z1 z2 z3 z4 z5 z6
def fH.e(n:Nat)(c:fH.Z->Option fH.T)(a0:List AV):Option fH.T:=
 (jW.F n [vi (-1)] ((a0.length:Nat):Int)).bind λp1=>
 c (.z4 a0 0 a0 ((a0.length:Nat):Int) 0 p1)
def fH.l(n:Nat):Nat->fH.Z->Option fH.T:=eg (fH.r n)
def fH.F(n:Nat)(a0:List AV):Option fH.T:=fH.e n (fH.l n n) a0
theorem fH.cZ(n:Nat):dt Tryz.prog 46 fH.i fH.p (kP (fH.e n (fH.l n n))):=pf [(4,⟨[0,4,5,16,17,18],[]⟩),(10,⟨[0,4,5,33,34,35],[]⟩),(16,⟨[0,4,5,52,53,54],[]⟩)] fH.s (λc=>kP (fH.e n c)) (fH.r n) [pD.u,jW.u,xZ.u] cx fH.qi Tryz.func46
def fH.u:fO Tryz.prog:=gT fH.oi fH.cZ
def u7.e(n:Nat)(a0:ByteArray)(a1 a2 a3 a4 a5:Int)(a6 a7:ByteArray)(a8 a9:Int):Option Bool:=
 some (a2 != 0)
def u7.E(n:Nat):lr.A->Option Bool:=fun(a0,a1,a2,a3,a4,a5,a6,a7,a8,a9)=>u7.e n a0 a1 a2 a3 a4 a5 a6 a7 a8 a9
def u7.F(n:Nat)(a0:ByteArray)(a1 a2 a3 a4 a5:Int)(a6 a7:ByteArray)(a8 a9:Int):Option Bool:=u7.e n a0 a1 a2 a3 a4 a5 a6 a7 a8 a9
theorem u7.cZ(n:Nat):dt Tryz.prog 137 lr.i fY.p (u7.E n):=mA n (u7.E n) [] cx fY.qi Tryz.func137
def u7.u:fO Tryz.prog:=gT lr.oi u7.cZ
abbrev j9.A:=ByteArray × Int × Int × Int × Int × Int × ByteArray × ByteArray × Int × Int × ByteArray × Int × Int × Int × Int × Int × ByteArray × ByteArray × Int × Int × Int
def j9.i:j9.A->List AV:=fun(a0,a1,a2,a3,a4,a5,a6,a7,a8,a9,mN,Fe,a12,Fc,Fb,Fa,E_,EP,E9,E8,a20)=>[AV.agg [vs a0,vi a1,vi a2,vi a3,vi a4,vi a5,vs a6,vs a7,vi a8,vi a9],AV.agg [vs mN,vi Fe,vi a12,vi Fc,vi Fb,vi Fa,vs E_,vs EP,vi E9,vi E8],vi a20]
def j9.o(xs:List AV):Option j9.A:=match xs with | [.agg [.v (.string a0),.v (.int .i64 a1),.v (.int .i64 a2),.v (.int .i64 a3),.v (.int .i64 a4),.v (.int .i64 a5),.v (.string a6),.v (.string a7),.v (.int .i64 a8),.v (.int .i64 a9)],.agg [.v (.string mN),.v (.int .i64 Fe),.v (.int .i64 a12),.v (.int .i64 Fc),.v (.int .i64 Fb),.v (.int .i64 Fa),.v (.string E_),.v (.string EP),.v (.int .i64 E9),.v (.int .i64 E8)],.v (.int .i64 a20)]=>some (a0,a1,a2,a3,a4,a5,a6,a7,a8,a9,mN,Fe,a12,Fc,Fb,Fa,E_,EP,E9,E8,a20) | _=>none
theorem j9.oi:∀xs a,j9.o xs=some a->xs=j9.i a:=by
 intro xs a h;unfold j9.o at h;split at h
 ·cases h;rfl
 ·cases h
inductive j9.Z where
 | z8 (z1:Int) (z2 z3:Bool) (z4:ByteArray) (z5 z6 z7 z8 z9:Int) (dy dO:ByteArray) (z12 dN:Int) (dQ:ByteArray) (dR dV ef ee eD:Int) (z20 z21:ByteArray) (z22 z23:Int)
def j9.s:j9.Z->Nat × St
 | .z8 z1 z2 z3 z4 z5 z6 z7 z8 z9 dy dO z12 dN dQ dR dV ef ee eD z20 z21 z22 z23=>gX 8 64 [(2,vi z1),(3,.ptr 0 0),(4,.ptr 1 0),(7,vb z2),(8,vb z3)] [.box 74 [vs z4,vi z5,vi z6,vi z7,vi z8,vi z9,vs dy,vs dO,vi z12,vi dN],.box 74 [vs dQ,vi dR,vi dV,vi ef,vi ee,vi eD,vs z20,vs z21,vi z22,vi z23]]
def j9.r8(n:Nat)(c:j9.Z->Option Bool)(z1:Int)(z2 z3:Bool)(z4:ByteArray)(z5 z6 z7 z8 z9:Int)(dy dO:ByteArray)(z12 dN:Int)(dQ:ByteArray)(dR dV ef ee eD:Int)(z20 z21:ByteArray)(z22 z23:Int):Option Bool:=
 (lr.F n z4 z5 z6 z7 z8 z9 dy dO z12 dN).bind λp1=>
 bif p1 then(bif z2 then(bif !(z5==4)then(bif z3 then((u7.F n z4 z5 z6 z7 z8 z9 dy dO z12 dN).bind λp2=>
 bif !(!p2)then(bif z1==4 then((u7.F n z4 z5 z6 z7 z8 z9 dy dO z12 dN).bind λp3=>
 (u7.F n dQ dR dV ef ee eD z20 z21 z22 z23).bind λp4=>
 some (!(!(p3==p4))))else(some true))else(some false))else(bif z1==4 then((u7.F n z4 z5 z6 z7 z8 z9 dy dO z12 dN).bind λp5=>
 (u7.F n dQ dR dV ef ee eD z20 z21 z22 z23).bind λp6=>
 some (!(!(p5==p6))))else(some true)))else(some false))else(bif z3 then((u7.F n z4 z5 z6 z7 z8 z9 dy dO z12 dN).bind λp7=>
 bif !(!p7)then(bif z1==4 then((u7.F n z4 z5 z6 z7 z8 z9 dy dO z12 dN).bind λp8=>
 (u7.F n dQ dR dV ef ee eD z20 z21 z22 z23).bind λp9=>
 some (!(!(p8==p9))))else(some true))else(some false))else(bif z1==4 then((u7.F n z4 z5 z6 z7 z8 z9 dy dO z12 dN).bind λoG=>
 (u7.F n dQ dR dV ef ee eD z20 z21 z22 z23).bind λoZ=>
 some (!(!(oG==oZ))))else(some true))))else(some false)
def j9.r(n:Nat)(c:j9.Z->Option Bool):j9.Z->Option Bool
 | .z8 z1 z2 z3 z4 z5 z6 z7 z8 z9 dy dO z12 dN dQ dR dV ef ee eD z20 z21 z22 z23=>j9.r8 n c z1 z2 z3 z4 z5 z6 z7 z8 z9 dy dO z12 dN dQ dR dV ef ee eD z20 z21 z22 z23
def j9.e(n:Nat)(c:j9.Z->Option Bool)(a0:ByteArray)(a1 a2 a3 a4 a5:Int)(a6 a7:ByteArray)(a8 a9:Int)(mN:ByteArray)(Fe a12 Fc Fb Fa:Int)(E_ EP:ByteArray)(E9 E8 a20:Int):Option Bool:=
 bif a20==5 then(some (a1==3))else(bif a20==6 then(some (a1==5))else(bif a20==0 then(bif a20==2 then(c (.z8 a20 true true a0 a1 a2 a3 a4 a5 a6 a7 a8 a9 mN Fe a12 Fc Fb Fa E_ EP E9 E8))else(c (.z8 a20 true (a20==3) a0 a1 a2 a3 a4 a5 a6 a7 a8 a9 mN Fe a12 Fc Fb Fa E_ EP E9 E8)))else(bif a20==2 then(c (.z8 a20 (a20==2) true a0 a1 a2 a3 a4 a5 a6 a7 a8 a9 mN Fe a12 Fc Fb Fa E_ EP E9 E8))else(c (.z8 a20 (a20==2) (a20==3) a0 a1 a2 a3 a4 a5 a6 a7 a8 a9 mN Fe a12 Fc Fb Fa E_ EP E9 E8)))))
def j9.E(n:Nat)(c:j9.Z->Option Bool):j9.A->Option Bool:=fun(a0,a1,a2,a3,a4,a5,a6,a7,a8,a9,mN,Fe,a12,Fc,Fb,Fa,E_,EP,E9,E8,a20)=>j9.e n c a0 a1 a2 a3 a4 a5 a6 a7 a8 a9 mN Fe a12 Fc Fb Fa E_ EP E9 E8 a20
def j9.l(n:Nat):Nat->j9.Z->Option Bool:=eg (j9.r n)
def j9.F(n:Nat)(a0:ByteArray)(a1 a2 a3 a4 a5:Int)(a6 a7:ByteArray)(a8 a9:Int)(mN:ByteArray)(Fe a12 Fc Fb Fa:Int)(E_ EP:ByteArray)(E9 E8 a20:Int):Option Bool:=j9.e n (j9.l n n) a0 a1 a2 a3 a4 a5 a6 a7 a8 a9 mN Fe a12 Fc Fb Fa E_ EP E9 E8 a20
theorem j9.cZ(n:Nat):dt Tryz.prog 86 j9.i fY.p (j9.E n (j9.l n n)):=pf [(8,⟨[2,3,4,7,8],[]⟩)] j9.s (j9.E n) (j9.r n) [lr.u,u7.u] cx fY.qi Tryz.func86
def j9.u:fO Tryz.prog:=gT j9.oi j9.cZ
abbrev ki.A:=List AV × List AV × List AV × Int × List AV
def ki.i:ki.A->List AV:=fun(a0,a1,a2,a3,a4)=>[AV.agg [.sl ⟨true,74,false⟩ 10 a0,.sl ⟨false,86,false⟩ 2 a1,.sl ⟨true,82,false⟩ 4 a2],AV.agg [vi a3,.sl ⟨true,3,false⟩ 1 a4]]
def ki.o(xs:List AV):Option ki.A:=match xs with | [.agg [.sl ⟨true,74,false⟩ 10 a0,.sl ⟨false,86,false⟩ 2 a1,.sl ⟨true,82,false⟩ 4 a2],.agg [.v (.int .i64 a3),.sl ⟨true,3,false⟩ 1 a4]]=>some (a0,a1,a2,a3,a4) | _=>none
theorem ki.oi:∀xs a,ki.o xs=some a->xs=ki.i a:=by
 intro xs a h;unfold ki.o at h;split at h
 ·cases h;rfl
 ·cases h
inductive ki.Z where
 | z7 (z1:List AV) (z2 z3:Int) (z4 z5 z6:List AV) (z7:Int) (z8:List AV) (z9:ByteArray) (dy dO z12 dN dQ:Int) (dR dV:ByteArray) (ef ee:Int)
def ki.s:ki.Z->Nat × St
 | .z7 z1 z2 z3 z4 z5 z6 z7 z8 z9 dy dO z12 dN dQ dR dV ef ee=>gX 7 57 [(2,.ptr 0 0),(3,.ptr 1 0),(5,.ptr 2 0),(22,.sl ⟨true,3,false⟩ 1 z1),(23,vi z2),(24,vi z3)] [.box 26 [.sl ⟨true,74,false⟩ 10 z4,.sl ⟨false,86,false⟩ 2 z5,.sl ⟨true,82,false⟩ 4 z6],.box 86 [vi z7,.sl ⟨true,3,false⟩ 1 z8],.box 74 [vs z9,vi dy,vi dO,vi z12,vi dN,vi dQ,vs dR,vs dV,vi ef,vi ee]]
def ki.r7(n:Nat)(c:ki.Z->Option Int)(z1:List AV)(z2 z3:Int)(z4 z5 z6:List AV)(z7:Int)(z8:List AV)(z9:ByteArray)(dy dO z12 dN dQ:Int)(dR dV:ByteArray)(ef ee:Int):Option Int:=
 bif decide (z3<z2)then(bif decide ((0:Int)<=z3)&&decide (z3<((z1.length:Nat):Int))then(cM ((z1.getD ((z3).toNat) .undef).cells) λh6 r7=>
 cQ .i64 h6 λx8=>
 let y9:Int:=IntKind.i64.wrap (((z4.length:Nat):Int) - 1)
 (fY.F n x8 0 y9).bind λoG=>
 bif !oG then(some 3)else(bif decide ((0:Int)<=x8)&&decide (x8<((z4.length:Nat):Int))then(cM ((z4.getD ((x8).toNat) .undef).cells) λHl uM=>
 dm Hl λWa=>
 cM uM λEa rI=>
 cQ .i64 Ea λIm=>
 cM rI λBK Co=>
 cQ .i64 BK λDk=>
 cM Co λBJ wW=>
 cQ .i64 BJ λKi=>
 cM wW λBI Cm=>
 cQ .i64 BI λNt=>
 cM Cm λBH DE=>
 cQ .i64 BH λIl=>
 cM DE λHk Kz=>
 dm Hk λV7=>
 cM Kz λJL NG=>
 dm JL λQ2=>
 cM NG λOQ Ip=>
 cQ .i64 OQ λPJ=>
 cM Ip λOO PU=>
 cQ .i64 OO λNs=>
 bif decide ((0:Int)<=z7)&&decide (z7<((19:Nat):Int))then(cM (jV ((z7).toNat*1) [.sl ⟨true,3,false⟩ 1 O6,.sl ⟨true,3,false⟩ 1 O5,.sl ⟨true,3,false⟩ 1 O4,.sl ⟨true,3,false⟩ 1 O3,.sl ⟨true,3,false⟩ 1 O2,.sl ⟨true,3,false⟩ 1 O1,.sl ⟨true,3,false⟩ 1 O0,.sl ⟨true,3,false⟩ 1 OZ,.sl ⟨true,3,false⟩ 1 OY,.sl ⟨true,3,false⟩ 1 OX,.sl ⟨true,3,false⟩ 1 Hu,.sl ⟨true,3,false⟩ 1 Ht,.sl ⟨true,3,false⟩ 1 Hs,.sl ⟨true,3,false⟩ 1 Hr,.sl ⟨true,3,false⟩ 1 Hq,.sl ⟨true,3,false⟩ 1 Hp,.sl ⟨true,3,false⟩ 1 Ho,.sl ⟨true,3,false⟩ 1 Hn,.sl ⟨true,3,false⟩ 1 Hm]) λON PT=>
 gq ⟨true,3,false⟩ 1 ON λNo=>
 bif decide ((0:Int)<=z3)&&decide (z3<((No.length:Nat):Int))then(cM ((No.getD ((z3).toNat) .undef).cells) λOM PS=>
 cQ .i64 OM λNr=>
 (j9.F n Wa Im Dk Ki Nt Il V7 Q2 PJ Ns z9 dy dO z12 dN dQ dR dV ef ee Nr).bind λRv=>
 bif !Rv then(some 17)else(bif decide ((0:Int)<=x8)&&decide (x8<((z4.length:Nat):Int))then(cM ((z4.getD ((x8).toNat) .undef).cells) λHj Wu=>
 dm Hj λV5=>
 cM Wu λYH Wt=>
 cQ .i64 YH λVJ=>
 cM Wt λYG Wr=>
 cQ .i64 YG λVI=>
 cM Wr λYF Wq=>
 cQ .i64 YF λVG=>
 cM Wq λYD Wo=>
 cQ .i64 YD λVF=>
 cM Wo λS0 Rc=>
 cQ .i64 S0 λVD=>
 cM Rc λSZ Rb=>
 dm SZ λV1=>
 cM Rb λSX Ra=>
 dm SX λV0=>
 cM Ra λSV Q_=>
 cQ .i64 SV λTJ=>
 cM Q_ λSS TX=>
 cQ .i64 SS λTH=>
 c (.z7 z1 z2 (IntKind.i64.wrap (z3+1)) z4 z5 z6 z7 z8 V5 VJ VI VG VF VD V1 V0 TJ TH))else none))else none)else none)else none))else none)else(some 0)
def ki.r(n:Nat)(c:ki.Z->Option Int):ki.Z->Option Int
 | .z7 z1 z2 z3 z4 z5 z6 z7 z8 z9 dy dO z12 dN dQ dR dV ef ee=>ki.r7 n c z1 z2 z3 z4 z5 z6 z7 z8 z9 dy dO z12 dN dQ dR dV ef ee
def ki.e(n:Nat)(c:ki.Z->Option Int)(a0 a1 a2:List AV)(a3:Int)(a4:List AV):Option Int:=
 (fY.F n a3 0 18).bind λp1=>
 bif !p1 then(some 4)else(bif decide ((0:Int)<=a3)&&decide (a3<((19:Nat):Int))then(cM (jV ((a3).toNat*1) [.sl ⟨true,3,false⟩ 1 O6,.sl ⟨true,3,false⟩ 1 O5,.sl ⟨true,3,false⟩ 1 O4,.sl ⟨true,3,false⟩ 1 O3,.sl ⟨true,3,false⟩ 1 O2,.sl ⟨true,3,false⟩ 1 O1,.sl ⟨true,3,false⟩ 1 O0,.sl ⟨true,3,false⟩ 1 OZ,.sl ⟨true,3,false⟩ 1 OY,.sl ⟨true,3,false⟩ 1 OX,.sl ⟨true,3,false⟩ 1 Hu,.sl ⟨true,3,false⟩ 1 Ht,.sl ⟨true,3,false⟩ 1 Hs,.sl ⟨true,3,false⟩ 1 Hr,.sl ⟨true,3,false⟩ 1 Hq,.sl ⟨true,3,false⟩ 1 Hp,.sl ⟨true,3,false⟩ 1 Ho,.sl ⟨true,3,false⟩ 1 Hn,.sl ⟨true,3,false⟩ 1 Hm]) λh2 r3=>
 gq ⟨true,3,false⟩ 1 h2 λVq=>
 let y5:Bool:=((a4.length:Nat):Int) != ((Vq.length:Nat):Int)
 bif y5 then(some 37)else(c (.z7 a4 ((a4.length:Nat):Int) 0 a0 a1 a2 a3 a4 (⟨#[]⟩:ByteArray) 0 0 0 0 0 (⟨#[]⟩:ByteArray) (⟨#[]⟩:ByteArray) 0 0)))else none)
def ki.l(n:Nat):Nat->ki.Z->Option Int:=eg (ki.r n)
def ki.F(n:Nat)(a0 a1 a2:List AV)(a3:Int)(a4:List AV):Option Int:=ki.e n (ki.l n n) a0 a1 a2 a3 a4
theorem ki.cZ(n:Nat):dt Tryz.prog 47 ki.i fx.p (MK (ki.e n (ki.l n n))):=pf [(7,⟨[2,3,5,22,23,24],[]⟩)] ki.s (λc=>MK (ki.e n c)) (ki.r n) [fY.u,j9.u] cx fx.qi Tryz.func47
def ki.u:fO Tryz.prog:=gT ki.oi ki.cZ
abbrev j8.A:=List AV × List AV × List AV × Int × Int × Int × Int
def j8.i:j8.A->List AV:=fun(a0,a1,a2,a3,a4,a5,a6)=>[AV.agg [.sl ⟨true,74,false⟩ 10 a0,.sl ⟨false,86,false⟩ 2 a1,.sl ⟨true,82,false⟩ 4 a2],AV.agg [vi a3,vi a4,vi a5,vi a6]]
def j8.o(xs:List AV):Option j8.A:=match xs with | [.agg [.sl ⟨true,74,false⟩ 10 a0,.sl ⟨false,86,false⟩ 2 a1,.sl ⟨true,82,false⟩ 4 a2],.agg [.v (.int .i64 a3),.v (.int .i64 a4),.v (.int .i64 a5),.v (.int .i64 a6)]]=>some (a0,a1,a2,a3,a4,a5,a6) | _=>none
theorem j8.oi:∀xs a,j8.o xs=some a->xs=j8.i a:=by
 intro xs a h;unfold j8.o at h;split at h
 ·cases h;rfl
 ·cases h
inductive j8.Z where
 | z3 (z1:Bool)
def j8.s:j8.Z->Nat × St
 | .z3 z1=>gX 3 41 [(6,vb z1)] []
def j8.r3(n:Nat)(c:j8.Z->Option Int)(z1:Bool):Option Int:=
 (mD.F n (!z1) 3).bind λp5=>
 some p5
def j8.r(n:Nat)(c:j8.Z->Option Int):j8.Z->Option Int
 | .z3 z1=>j8.r3 n c z1
def j8.e(n:Nat)(c:j8.Z->Option Int)(a0 a1 a2:List AV)(a3 a4 a5 a6:Int):Option Int:=
 bif decide (a3>=0)then(bif decide (a3<a4)then(let y1:Bool:=decide (a4<=((a1.length:Nat):Int))
 bif y1 then((fY.F n a5 0 999).bind λp2=>
 bif p2 then(let y3:Int:=IntKind.i64.wrap (((a1.length:Nat):Int) - 1)
 (fY.F n a6 0 y3).bind λp4=>
 c (.z3 p4))else(c (.z3 false)))else(c (.z3 false)))else(c (.z3 false)))else(c (.z3 false))
def j8.E(n:Nat)(c:j8.Z->Option Int):j8.A->Option Int:=fun(a0,a1,a2,a3,a4,a5,a6)=>j8.e n c a0 a1 a2 a3 a4 a5 a6
def j8.l(n:Nat):Nat->j8.Z->Option Int:=eg (j8.r n)
def j8.F(n:Nat)(a0 a1 a2:List AV)(a3 a4 a5 a6:Int):Option Int:=j8.e n (j8.l n n) a0 a1 a2 a3 a4 a5 a6
theorem j8.cZ(n:Nat):dt Tryz.prog 48 j8.i fx.p (j8.E n (j8.l n n)):=pf [(3,⟨[6],[]⟩)] j8.s (j8.E n) (j8.r n) [mD.u,fY.u] cx fx.qi Tryz.func48
def j8.u:fO Tryz.prog:=gT j8.oi j8.cZ
abbrev eL.A:=List AV × List AV × List AV
abbrev eL.T:=Int × Int × Int
def eL.i:eL.A->List AV:=fun(a0,a1,a2)=>[AV.agg [.sl ⟨true,74,false⟩ 10 a0,.sl ⟨false,86,false⟩ 2 a1,.sl ⟨true,82,false⟩ 4 a2]]
def eL.o(xs:List AV):Option eL.A:=match xs with | [.agg [.sl ⟨true,74,false⟩ 10 a0,.sl ⟨false,86,false⟩ 2 a1,.sl ⟨true,82,false⟩ 4 a2]]=>some (a0,a1,a2) | _=>none
theorem eL.oi:∀xs a,eL.o xs=some a->xs=eL.i a:=by
 intro xs a h;unfold eL.o at h;split at h
 ·cases h;rfl
 ·cases h
def eL.p(p:eL.T):AV:=.dU [AV.agg [vi p.1,vi p.2.1],vi p.2.2]
def eL.q(x:AV):Option eL.T:=match x with | .dU [.agg [.v (.int .i64 p0),.v (.int .i64 p1)],.v (.int .i64 p2)]=>some (p0,p1,p2) | _=>none
theorem eL.qi:∀x p,eL.q x=some p->x=eL.p p:=by
 intro x p h;unfold eL.q at h;split at h
 ·cases h;rfl
 ·cases h
inductive eL.Z where
 | z2 (z1:Bool) (z2 z3 z4:List AV) (z5 z6:Int)
 | z6 (z1 z2:Int) (z3 z4 z5:List AV) (z6 z7:Int)
 | dV (z1:List AV) (z2 z3:Int) (z4 z5 z6:List AV) (z7 z8:Int)
 | z23 (z1:List AV) (z2 z3:Int) (z4 z5 z6:List AV) (z7 z8:Int)
def eL.s:eL.Z->Nat × St
 | .z2 z1 z2 z3 z4 z5 z6=>gX 2 104 [(1,.ptr 0 0),(2,.ptr 1 0),(4,vb z1)] [.box 26 [.sl ⟨true,74,false⟩ 10 z2,.sl ⟨false,86,false⟩ 2 z3,.sl ⟨true,82,false⟩ 4 z4],.box 30 [vi z5,vi z6]]
 | .z6 z1 z2 z3 z4 z5 z6 z7=>gX 6 104 [(1,.ptr 0 0),(2,.ptr 1 0),(47,vi z1),(48,vi z2)] [.box 26 [.sl ⟨true,74,false⟩ 10 z3,.sl ⟨false,86,false⟩ 2 z4,.sl ⟨true,82,false⟩ 4 z5],.box 30 [vi z6,vi z7]]
 | .dV z1 z2 z3 z4 z5 z6 z7 z8=>gX 16 104 [(1,.ptr 0 0),(2,.ptr 1 0),(70,.sl ⟨false,86,false⟩ 2 z1),(71,vi z2),(72,vi z3)] [.box 26 [.sl ⟨true,74,false⟩ 10 z4,.sl ⟨false,86,false⟩ 2 z5,.sl ⟨true,82,false⟩ 4 z6],.box 30 [vi z7,vi z8]]
 | .z23 z1 z2 z3 z4 z5 z6 z7 z8=>gX 23 104 [(1,.ptr 0 0),(2,.ptr 1 0),(87,.sl ⟨true,82,false⟩ 4 z1),(88,vi z2),(89,vi z3)] [.box 26 [.sl ⟨true,74,false⟩ 10 z4,.sl ⟨false,86,false⟩ 2 z5,.sl ⟨true,82,false⟩ 4 z6],.box 30 [vi z7,vi z8]]
def eL.r2(n:Nat)(c:eL.Z->Option eL.T)(z1:Bool)(z2 z3 z4:List AV)(z5 z6:Int):Option eL.T:=
 (mD.F n z1 2).bind λp4=>
 let y5:Bool:=((z3.length:Nat):Int)==0
 (mD.F n y5 1).bind λp6=>
 (fx.F n [vi p4,vi p6]).bind λp7=>
 bif p7 != 0 then(some (0,0,p7))else(c (.z6 ((z2.length:Nat):Int) 0 z2 z3 z4 z5 z6))
def eL.r6(n:Nat)(c:eL.Z->Option eL.T)(z1 z2:Int)(z3 z4 z5:List AV)(z6 z7:Int):Option eL.T:=
 bif decide (z2<z1)then((jw.F n z3 z4 z5 z2).bind λp8=>
 bif p8 != 0 then(some (1,z2,p8))else(c (.z6 z1 (IntKind.i64.wrap (z2+1)) z3 z4 z5 z6 z7)))else((fH.F n z3).bind λp9=>
 bif decide (p9.2>24)then(some (0,0,30))else(c (.dV z4 ((z4.length:Nat):Int) 0 z3 z4 z5 z6 z7)))
def eL.I4(n:Nat)(c:eL.Z->Option eL.T)(z1:List AV)(z2 z3:Int)(z4 z5 z6:List AV)(z7 z8:Int):Option eL.T:=
 bif decide (z3<z2)then(bif decide ((0:Int)<=z3)&&decide (z3<((z1.length:Nat):Int))then(cM ((z1.getD ((z3).toNat) .undef).cells) λIz EX=>
 cQ .i64 Iz λxT=>
 cM EX λMl As=>
 gq ⟨true,3,false⟩ 1 Ml λQF=>
 (ki.F n z4 z5 z6 xT QF).bind λPY=>
 bif PY != 0 then(some (2,z3,PY))else(c (.dV z1 z2 (IntKind.i64.wrap (z3+1)) z4 z5 z6 z7 z8)))else none)else(c (.z23 z6 ((z6.length:Nat):Int) 0 z4 z5 z6 z7 z8))
def eL.Iq(n:Nat)(c:eL.Z->Option eL.T)(z1:List AV)(z2 z3:Int)(z4 z5 z6:List AV)(z7 z8:Int):Option eL.T:=
 bif decide (z3<z2)then(bif decide ((0:Int)<=z3)&&decide (z3<((z1.length:Nat):Int))then(cM ((z1.getD ((z3).toNat) .undef).cells) λBK Co=>
 cQ .i64 BK λDk=>
 cM Co λBJ wW=>
 cQ .i64 BJ λKi=>
 cM wW λBI Cm=>
 cQ .i64 BI λNt=>
 cM Cm λBH DE=>
 cQ .i64 BH λIl=>
 (j8.F n z4 z5 z6 Dk Ki Nt Il).bind λKB=>
 bif KB != 0 then(some (3,z3,KB))else(c (.z23 z1 z2 (IntKind.i64.wrap (z3+1)) z4 z5 z6 z7 z8)))else none)else(some (0,0,0))
def eL.r(n:Nat)(c:eL.Z->Option eL.T):eL.Z->Option eL.T
 | .z2 z1 z2 z3 z4 z5 z6=>eL.r2 n c z1 z2 z3 z4 z5 z6
 | .z6 z1 z2 z3 z4 z5 z6 z7=>eL.r6 n c z1 z2 z3 z4 z5 z6 z7
 | .dV z1 z2 z3 z4 z5 z6 z7 z8=>eL.I4 n c z1 z2 z3 z4 z5 z6 z7 z8
 | .z23 z1 z2 z3 z4 z5 z6 z7 z8=>eL.Iq n c z1 z2 z3 z4 z5 z6 z7 z8
def eL.e(n:Nat)(c:eL.Z->Option eL.T)(a0 a1 a2:List AV):Option eL.T:=
 let y1:Bool:=decide (((a0.length:Nat):Int)>24)
 bif y1 then(c (.z2 true a0 a1 a2 0 0))else(let y2:Bool:=decide (((a1.length:Nat):Int)>40)
 bif y2 then(c (.z2 true a0 a1 a2 0 0))else(let y3:Bool:=decide (((a2.length:Nat):Int)>6)
 c (.z2 y3 a0 a1 a2 0 0)))
def eL.l(n:Nat):Nat->eL.Z->Option eL.T:=eg (eL.r n)
def eL.F(n:Nat)(a0 a1 a2:List AV):Option eL.T:=eL.e n (eL.l n n) a0 a1 a2
theorem eL.cZ(n:Nat):dt Tryz.prog 14 eL.i eL.p (rG (eL.e n (eL.l n n))):=pf [(2,⟨[1,2,4],[]⟩),(6,⟨[1,2,47,48],[]⟩),(16,⟨[1,2,70,71,72],[]⟩),(23,⟨[1,2,87,88,89],[]⟩)] eL.s (λc=>rG (eL.e n c)) (eL.r n) [fx.u,mD.u,jw.u,fH.u,ki.u,j8.u] cx eL.qi Tryz.func14
def eL.u:fO Tryz.prog:=gT eL.oi eL.cZ
def Fh.e(n:Nat)(a0 a1 a2:List AV):Option Int:=
 (eL.F n a0 a1 a2).bind λp1=>
 some p1.2.2
def Fh.F(n:Nat)(a0 a1 a2:List AV):Option Int:=Fh.e n a0 a1 a2
theorem Fh.cZ(n:Nat):dt Tryz.prog 52 eL.i fx.p (rG (Fh.e n)):=mA n (rG (Fh.e n)) [eL.u] cx fx.qi Tryz.func52
def Fh.u:fO Tryz.prog:=gT eL.oi Fh.cZ
end Go.Proofs.YtnoldakbllfmnaaGreatDoor.Ev
namespace Go.Proofs
open Go.Shelf
def Tryz.y0:Go.Shelf.Ren:=⟨fun | 137=>219 | 217=>180 | 266=>213 | n=>n,fun | 9=>9 | 5=>5 | 3=>3 | n=>n,fun | n=>n⟩
theorem Tryz.Jl:Go.Proofs.Lays.n137 Tryz.prog Tryz.y0:={
 mixed:=by kernel_rfl
 f137:=Tryz.func219.trans (congrArg some (by kernel_rfl))
 f217:=Tryz.func180.trans (congrArg some (by kernel_rfl))
 f266:=Tryz.func213.trans (congrArg some (by kernel_rfl))
 t3:=Tryz.underlying3
 a3:=Tryz.isAgg3
 z3:=Tryz.sizeOf3
 v3:=Tryz.zeroValue3
 t5:=Tryz.underlying5
 a5:=Tryz.isAgg5
 z5:=Tryz.sizeOf5
 v5:=Tryz.zeroValue5
 t9:=Tryz.underlying9
 a9:=Tryz.isAgg9
 z9:=Tryz.sizeOf9
 v9:=Tryz.zeroValue9 }
open Go.RowKit in
theorem Tryz.strings_IndexByte(s:ByteArray)(c:Int)(w:World) :
 Calls Tryz.prog 219 #[.string s,.int .u8 c] w λe w'=>e=.returned (.int .i64 (Lib.indexByte s.data.toList c.toNat.toUInt8))/\w'=w:=Any.strings_IndexByte Tryz.Jl s c w
def Tryz.xf:Go.Shelf.Ren:=⟨fun | 171=>97 | 243=>145 | 246=>177 | 283=>209 | 284=>210 | 285=>211 | 286=>212 | 129=>206 | 317=>236 | 318=>237 | 319=>238 | 320=>239 | 337=>249 | 338=>250 | n=>n,fun | 3=>3 | 9=>9 | 2=>2 | 4=>4 | 171=>245 | 0=>0 | 53=>206 | 37=>146 | 5=>5 | 173=>247 | 212=>265 | 51=>203 | 20=>20 | 213=>266 | 46=>176 | 232=>293 | 233=>294 | n=>n,fun | 17=>4 | 18=>9 | 19=>10 | n=>n⟩
theorem Tryz.GA:Go.Proofs.LaysM.n171 Tryz.prog Tryz.xf:={
 mixed:=by kernel_rfl
 f129:=Tryz.func206.trans (congrArg some (by kernel_rfl))
 f171:=Tryz.func97.trans (congrArg some (by kernel_rfl))
 f243:=Tryz.func145.trans (congrArg some (by kernel_rfl))
 f246:=Tryz.func177.trans (congrArg some (by kernel_rfl))
 f283:=Tryz.func209.trans (congrArg some (by kernel_rfl))
 f284:=Tryz.func210.trans (congrArg some (by kernel_rfl))
 f285:=Tryz.func211.trans (congrArg some (by kernel_rfl))
 f286:=Tryz.func212.trans (congrArg some (by kernel_rfl))
 f317:=Tryz.func236.trans (congrArg some (by kernel_rfl))
 f318:=Tryz.func237.trans (congrArg some (by kernel_rfl))
 f319:=Tryz.func238.trans (congrArg some (by kernel_rfl))
 f320:=Tryz.func239.trans (congrArg some (by kernel_rfl))
 f337:=Tryz.func249.trans (congrArg some (by kernel_rfl))
 f338:=Tryz.func250.trans (congrArg some (by kernel_rfl))
 t0:=Tryz.underlying0
 a0:=Tryz.isAgg0
 z0:=Tryz.sizeOf0
 v0:=Tryz.zeroValue0
 t2:=Tryz.underlying2
 a2:=Tryz.isAgg2
 z2:=Tryz.sizeOf2
 v2:=Tryz.zeroValue2
 t3:=Tryz.underlying3
 a3:=Tryz.isAgg3
 z3:=Tryz.sizeOf3
 v3:=Tryz.zeroValue3
 t4:=Tryz.underlying4
 a4:=Tryz.isAgg4
 z4:=Tryz.sizeOf4
 v4:=Tryz.zeroValue4
 t5:=Tryz.underlying5
 a5:=Tryz.isAgg5
 z5:=Tryz.sizeOf5
 v5:=Tryz.zeroValue5
 t9:=Tryz.underlying9
 a9:=Tryz.isAgg9
 z9:=Tryz.sizeOf9
 v9:=Tryz.zeroValue9
 t20:=Tryz.underlying20
 a20:=Tryz.isAgg20
 z20:=Tryz.sizeOf20
 v20:=Tryz.zeroValue20
 t37:=Tryz.underlying146
 a37:=Tryz.isAgg146
 z37:=Tryz.sizeOf146
 v37:=Tryz.zeroValue146
 t46:=Tryz.underlying176
 a46:=Tryz.isAgg176
 z46:=Tryz.sizeOf176
 v46:=Tryz.zeroValue176
 t51:=Tryz.underlying203
 a51:=Tryz.isAgg203
 z51:=Tryz.sizeOf203
 v51:=Tryz.zeroValue203
 t53:=Tryz.underlying206
 a53:=Tryz.isAgg206
 z53:=Tryz.sizeOf206
 v53:=Tryz.zeroValue206
 t171:=Tryz.underlying245
 a171:=Tryz.isAgg245
 z171:=Tryz.sizeOf245
 v171:=Tryz.zeroValue245
 t173:=Tryz.underlying247
 a173:=Tryz.isAgg247
 z173:=Tryz.sizeOf247
 v173:=Tryz.zeroValue247
 t212:=Tryz.underlying265
 a212:=Tryz.isAgg265
 z212:=Tryz.sizeOf265
 v212:=Tryz.zeroValue265
 t213:=Tryz.underlying266
 a213:=Tryz.isAgg266
 z213:=Tryz.sizeOf266
 t232:=Tryz.underlying293
 a232:=Tryz.isAgg293
 z232:=Tryz.sizeOf293
 v232:=Tryz.zeroValue293
 t233:=Tryz.underlying294
 a233:=Tryz.isAgg294
 z233:=Tryz.sizeOf294
 v233:=Tryz.zeroValue294
 g17:=by kernel_rfl
 g18:=by kernel_rfl
 g19:=by kernel_rfl
 i0:=by kernel_rfl
 i2:=by kernel_rfl
 i3:=by kernel_rfl
 i4:=by kernel_rfl
 i5:=by kernel_rfl
 i9:=by kernel_rfl
 i20:=by kernel_rfl
 i37:=by kernel_rfl
 i46:=by kernel_rfl
 i51:=by kernel_rfl
 i53:=by kernel_rfl
 i171:=by kernel_rfl
 i173:=by kernel_rfl
 i212:=by kernel_rfl
 i232:=by kernel_rfl
 i233:=by kernel_rfl
 m17:=by kernel_rfl
 m18:=by kernel_rfl
 m19:=by kernel_rfl }
open Go.RowKit Go.Sort Go.Lib in
theorem Tryz.strconv_Itoa(n : Int)(h0 : -9223372036854775808 ≤ n)(h1 : n ≤ 9223372036854775807)(w : World)(RQ : Lib.TabIs Tryz.prog w "internal/strconv.uint64pow10" .u64 Lib.pow10Tab) :
 Calls Tryz.prog 97 #[.int .i64 n] w λe w'=>e=.returned (.string ⟨(Lib.itoa n).toArray⟩)/\∃k os,w'=grow (w.drewN k) os:=Any.strconv_Itoa Tryz.GA n h0 h1 w RQ
def Tryz.xh:Go.Shelf.Ren:=⟨fun | 145=>60 | 220=>103 | 219=>151 | 217=>180 | 225=>181 | 224=>182 | 267=>183 | 266=>213 | 314=>214 | n=>n,fun | 9=>9 | 4=>4 | 59=>105 | 3=>3 | 5=>5 | 46=>176 | 146=>204 | 51=>203 | n=>n,fun | 1=>3 | n=>n⟩
theorem Tryz.GD:Go.Proofs.LaysM.n145 Tryz.prog Tryz.xh:={
 mixed:=by kernel_rfl
 f145:=Tryz.func60.trans (congrArg some (by kernel_rfl))
 f217:=Tryz.func180.trans (congrArg some (by kernel_rfl))
 f219:=Tryz.func151.trans (congrArg some (by kernel_rfl))
 f220:=Tryz.func103.trans (congrArg some (by kernel_rfl))
 f224:=Tryz.func182.trans (congrArg some (by kernel_rfl))
 f225:=Tryz.func181.trans (congrArg some (by kernel_rfl))
 f266:=Tryz.func213.trans (congrArg some (by kernel_rfl))
 f267:=Tryz.func183.trans (congrArg some (by kernel_rfl))
 f314:=Tryz.func214.trans (congrArg some (by kernel_rfl))
 t3:=Tryz.underlying3
 a3:=Tryz.isAgg3
 z3:=Tryz.sizeOf3
 v3:=Tryz.zeroValue3
 t4:=Tryz.underlying4
 a4:=Tryz.isAgg4
 z4:=Tryz.sizeOf4
 v4:=Tryz.zeroValue4
 t5:=Tryz.underlying5
 a5:=Tryz.isAgg5
 z5:=Tryz.sizeOf5
 v5:=Tryz.zeroValue5
 t9:=Tryz.underlying9
 a9:=Tryz.isAgg9
 z9:=Tryz.sizeOf9
 v9:=Tryz.zeroValue9
 t46:=Tryz.underlying176
 a46:=Tryz.isAgg176
 z46:=Tryz.sizeOf176
 v46:=Tryz.zeroValue176
 t51:=Tryz.underlying203
 a51:=Tryz.isAgg203
 z51:=Tryz.sizeOf203
 v51:=Tryz.zeroValue203
 t59:=Tryz.underlying105
 a59:=Tryz.isAgg105
 z59:=Tryz.sizeOf105
 v59:=Tryz.zeroValue105
 t146:=Tryz.underlying204
 a146:=Tryz.isAgg204
 z146:=Tryz.sizeOf204
 v146:=Tryz.zeroValue204
 g1:=by kernel_rfl
 i3:=by kernel_rfl
 i4:=by kernel_rfl
 i5:=by kernel_rfl
 i9:=by kernel_rfl
 i46:=by kernel_rfl
 i51:=by kernel_rfl
 i59:=by kernel_rfl
 i146:=by kernel_rfl
 m1:=by kernel_rfl
 s1_3:=λw h=>Go.Proofs.cell_of_shapedOpen_int (zero:=#[.int .i64 0]) (t:=3) h (bc (by kernel_rfl)) (by kernel_rfl) rfl (by kernel_rfl) (by kernel_rfl) Tryz.underlying3 }
open Go.RowKit Go.Lib in
theorem Tryz.strings_Cut_shaped(s sep:ByteArray)(w:World)(h:w.ShapedOpen Tryz.prog)(hs:s.size<4294967281) :
 Calls Tryz.prog 60 #[.string s,.string sep] w λe w'=>e=.returned (.tuple #[.string ⟨(Lib.cut s.data.toList sep.data.toList).1.toArray⟩,.string ⟨(Lib.cut s.data.toList sep.data.toList).2.1.toArray⟩,.bool (Lib.cut s.data.toList sep.data.toList).2.2])/\∃n,w'=w.drewN n:=Any.strings_Cut_shaped Tryz.GD s sep w h hs
def Tryz.yZ:Go.Shelf.Ren:=⟨fun | 161=>217 | 231=>241 | 227=>242 | 233=>243 | 235=>244 | 228=>252 | 197=>208 | 151=>253 | 260=>235 | 152=>256 | 137=>219 | 119=>257 | 224=>182 | 225=>181 | 217=>180 | 266=>213 | n=>n,fun | 9=>9 | 4=>4 | 3=>3 | 5=>5 | 117=>271 | 116=>270 | 0=>0 | 124=>274 | 105=>243 | 21=>21 | 119=>283 | 46=>176 | 139=>286 | 138=>285 | n=>n,fun | 3=>7 | 4=>8 | n=>n⟩
theorem Tryz.Jk:Go.Proofs.Lays.n161 Tryz.prog Tryz.yZ:={
 mixed:=by kernel_rfl
 f119:=Tryz.func257.trans (congrArg some (by kernel_rfl))
 f137:=Tryz.func219.trans (congrArg some (by kernel_rfl))
 f151:=Tryz.func253.trans (congrArg some (by kernel_rfl))
 f152:=Tryz.func256.trans (congrArg some (by kernel_rfl))
 f161:=Tryz.func217.trans (congrArg some (by kernel_rfl))
 f197:=Tryz.func208.trans (congrArg some (by kernel_rfl))
 f217:=Tryz.func180.trans (congrArg some (by kernel_rfl))
 f224:=Tryz.func182.trans (congrArg some (by kernel_rfl))
 f225:=Tryz.func181.trans (congrArg some (by kernel_rfl))
 f227:=Tryz.func242.trans (congrArg some (by kernel_rfl))
 f228:=Tryz.func252.trans (congrArg some (by kernel_rfl))
 f231:=Tryz.func241.trans (congrArg some (by kernel_rfl))
 f233:=Tryz.func243.trans (congrArg some (by kernel_rfl))
 f235:=Tryz.func244.trans (congrArg some (by kernel_rfl))
 f260:=Tryz.func235.trans (congrArg some (by kernel_rfl))
 f266:=Tryz.func213.trans (congrArg some (by kernel_rfl))
 t0:=Tryz.underlying0
 a0:=Tryz.isAgg0
 z0:=Tryz.sizeOf0
 v0:=Tryz.zeroValue0
 t3:=Tryz.underlying3
 a3:=Tryz.isAgg3
 z3:=Tryz.sizeOf3
 v3:=Tryz.zeroValue3
 t4:=Tryz.underlying4
 a4:=Tryz.isAgg4
 z4:=Tryz.sizeOf4
 v4:=Tryz.zeroValue4
 t5:=Tryz.underlying5
 a5:=Tryz.isAgg5
 z5:=Tryz.sizeOf5
 v5:=Tryz.zeroValue5
 t9:=Tryz.underlying9
 a9:=Tryz.isAgg9
 z9:=Tryz.sizeOf9
 v9:=Tryz.zeroValue9
 t21:=Tryz.underlying21
 a21:=Tryz.isAgg21
 z21:=Tryz.sizeOf21
 v21:=Tryz.zeroValue21
 t46:=Tryz.underlying176
 a46:=Tryz.isAgg176
 z46:=Tryz.sizeOf176
 v46:=Tryz.zeroValue176
 t105:=Tryz.underlying243
 a105:=Tryz.isAgg243
 z105:=Tryz.sizeOf243
 v105:=Tryz.zeroValue243
 t116:=Tryz.underlying270
 a116:=Tryz.isAgg270
 z116:=Tryz.sizeOf270
 t117:=Tryz.underlying271
 a117:=Tryz.isAgg271
 z117:=Tryz.sizeOf271
 v117:=Tryz.zeroValue271
 t119:=Tryz.underlying283
 a119:=Tryz.isAgg283
 z119:=Tryz.sizeOf283
 t124:=Tryz.underlying274
 a124:=Tryz.isAgg274
 z124:=Tryz.sizeOf274
 v124:=Tryz.zeroValue274
 t138:=Tryz.underlying285
 a138:=Tryz.isAgg285
 z138:=Tryz.sizeOf285
 v138:=Tryz.zeroValue285
 t139:=Tryz.underlying286
 a139:=Tryz.isAgg286
 z139:=Tryz.sizeOf286
 v139:=Tryz.zeroValue286
 g3:=by kernel_rfl
 g4:=by kernel_rfl }
open Go.RowKit in
theorem Tryz.strings_TrimLeft_one(s:ByteArray)(c:UInt8)(hc:c.toNat<128)(w:World) :
 Calls Tryz.prog 217 #[.string s,.string ⟨#[c]⟩] w λe w'=>e=.returned (.string ⟨(Lib.trimLeftB s.data.toList c).toArray⟩)/\w'=w:=Any.strings_TrimLeft_one Tryz.Jk s c hc w
def Tryz.o_:Go.Shelf.Ren:=⟨fun | 155=>144 | 154=>176 | 138=>189 | 165=>98 | 143=>190 | 166=>99 | 197=>208 | 169=>100 | 195=>220 | 218=>221 | 240=>146 | 241=>147 | 219=>151 | 260=>235 | 276=>178 | 277=>179 | 217=>180 | 225=>181 | 224=>182 | 267=>183 | 266=>213 | 314=>214 | n=>n,fun | 9=>9 | 3=>3 | 4=>4 | 72=>148 | 0=>0 | 76=>152 | 105=>243 | 21=>21 | 5=>5 | 70=>145 | 20=>20 | 37=>146 | 75=>151 | 127=>185 | 164=>213 | 46=>176 | 119=>283 | 139=>286 | 138=>285 | 146=>204 | 51=>203 | 80=>84 | n=>n,fun | 1=>3 | 3=>7 | 4=>8 | n=>n⟩
theorem Tryz.GB:Go.Proofs.LaysM.n155 Tryz.prog Tryz.o_:={
 mixed:=by kernel_rfl
 f138:=Tryz.func189.trans (congrArg some (by kernel_rfl))
 f143:=Tryz.func190.trans (congrArg some (by kernel_rfl))
 f154:=Tryz.func176.trans (congrArg some (by kernel_rfl))
 f155:=Tryz.func144.trans (congrArg some (by kernel_rfl))
 f165:=Tryz.func98.trans (congrArg some (by kernel_rfl))
 f166:=Tryz.func99.trans (congrArg some (by kernel_rfl))
 f169:=Tryz.func100.trans (congrArg some (by kernel_rfl))
 f195:=Tryz.func220.trans (congrArg some (by kernel_rfl))
 f197:=Tryz.func208.trans (congrArg some (by kernel_rfl))
 f217:=Tryz.func180.trans (congrArg some (by kernel_rfl))
 f218:=Tryz.func221.trans (congrArg some (by kernel_rfl))
 f219:=Tryz.func151.trans (congrArg some (by kernel_rfl))
 f224:=Tryz.func182.trans (congrArg some (by kernel_rfl))
 f225:=Tryz.func181.trans (congrArg some (by kernel_rfl))
 f240:=Tryz.func146.trans (congrArg some (by kernel_rfl))
 f241:=Tryz.func147.trans (congrArg some (by kernel_rfl))
 f260:=Tryz.func235.trans (congrArg some (by kernel_rfl))
 f266:=Tryz.func213.trans (congrArg some (by kernel_rfl))
 f267:=Tryz.func183.trans (congrArg some (by kernel_rfl))
 f276:=Tryz.func178.trans (congrArg some (by kernel_rfl))
 f277:=Tryz.func179.trans (congrArg some (by kernel_rfl))
 f314:=Tryz.func214.trans (congrArg some (by kernel_rfl))
 t0:=Tryz.underlying0
 a0:=Tryz.isAgg0
 z0:=Tryz.sizeOf0
 v0:=Tryz.zeroValue0
 t3:=Tryz.underlying3
 a3:=Tryz.isAgg3
 z3:=Tryz.sizeOf3
 v3:=Tryz.zeroValue3
 t4:=Tryz.underlying4
 a4:=Tryz.isAgg4
 z4:=Tryz.sizeOf4
 v4:=Tryz.zeroValue4
 t5:=Tryz.underlying5
 a5:=Tryz.isAgg5
 z5:=Tryz.sizeOf5
 v5:=Tryz.zeroValue5
 t9:=Tryz.underlying9
 a9:=Tryz.isAgg9
 z9:=Tryz.sizeOf9
 v9:=Tryz.zeroValue9
 t20:=Tryz.underlying20
 a20:=Tryz.isAgg20
 z20:=Tryz.sizeOf20
 v20:=Tryz.zeroValue20
 t21:=Tryz.underlying21
 a21:=Tryz.isAgg21
 z21:=Tryz.sizeOf21
 v21:=Tryz.zeroValue21
 t37:=Tryz.underlying146
 a37:=Tryz.isAgg146
 z37:=Tryz.sizeOf146
 v37:=Tryz.zeroValue146
 t46:=Tryz.underlying176
 a46:=Tryz.isAgg176
 z46:=Tryz.sizeOf176
 v46:=Tryz.zeroValue176
 t51:=Tryz.underlying203
 a51:=Tryz.isAgg203
 z51:=Tryz.sizeOf203
 v51:=Tryz.zeroValue203
 t70:=Tryz.underlying145
 a70:=Tryz.isAgg145
 z70:=Tryz.sizeOf145
 v70:=Tryz.zeroValue145
 t72:=Tryz.underlying148
 a72:=Tryz.isAgg148
 z72:=Tryz.sizeOf148
 v72:=Tryz.zeroValue148
 t75:=Tryz.underlying151
 a75:=Tryz.isAgg151
 z75:=Tryz.sizeOf151
 v75:=Tryz.zeroValue151
 t76:=Tryz.underlying152
 a76:=Tryz.isAgg152
 z76:=Tryz.sizeOf152
 v76:=Tryz.zeroValue152
 t105:=Tryz.underlying243
 a105:=Tryz.isAgg243
 z105:=Tryz.sizeOf243
 v105:=Tryz.zeroValue243
 t119:=Tryz.underlying283
 a119:=Tryz.isAgg283
 z119:=Tryz.sizeOf283
 t127:=Tryz.underlying185
 a127:=Tryz.isAgg185
 z127:=Tryz.sizeOf185
 v127:=Tryz.zeroValue185
 t138:=Tryz.underlying285
 a138:=Tryz.isAgg285
 z138:=Tryz.sizeOf285
 v138:=Tryz.zeroValue285
 t139:=Tryz.underlying286
 a139:=Tryz.isAgg286
 z139:=Tryz.sizeOf286
 v139:=Tryz.zeroValue286
 t146:=Tryz.underlying204
 a146:=Tryz.isAgg204
 z146:=Tryz.sizeOf204
 v146:=Tryz.zeroValue204
 t164:=Tryz.underlying213
 a164:=Tryz.isAgg213
 z164:=Tryz.sizeOf213
 v164:=Tryz.zeroValue213
 g1:=by kernel_rfl
 g3:=by kernel_rfl
 g4:=by kernel_rfl
 t80:=Tryz.underlying84
 a80:=Tryz.isAgg84
 z80:=Tryz.sizeOf84
 v80:=Tryz.zeroValue84
 i0:=by kernel_rfl
 i3:=by kernel_rfl
 i4:=by kernel_rfl
 i5:=by kernel_rfl
 i9:=by kernel_rfl
 i20:=by kernel_rfl
 i21:=by kernel_rfl
 i37:=by kernel_rfl
 i46:=by kernel_rfl
 i51:=by kernel_rfl
 i70:=by kernel_rfl
 i72:=by kernel_rfl
 i75:=by kernel_rfl
 i76:=by kernel_rfl
 i80:=by kernel_rfl
 i105:=by kernel_rfl
 i127:=by kernel_rfl
 i138:=by kernel_rfl
 i139:=by kernel_rfl
 i146:=by kernel_rfl
 i164:=by kernel_rfl
 m1:=by kernel_rfl
 s1_3:=λw h=>Go.Proofs.cell_of_shapedOpen_int (zero:=#[.int .i64 0]) (t:=3) h (bc (by kernel_rfl)) (by kernel_rfl) rfl (by kernel_rfl) (by kernel_rfl) Tryz.underlying3
 m3:=by kernel_rfl
 m4:=by kernel_rfl }
theorem Tryz.oF:Builder.Extra Tryz.prog Tryz.o_:={
 sizeBuilder:=by kernel_rfl
 liesBuilder:=by kernel_rfl
 t5:=Tryz.underlying5
 a5:=Tryz.isAgg5
 z5:=Tryz.sizeOf5
 v5:=Tryz.zeroValue5
 infoByte:=by kernel_rfl
 cellsByte:=by kernel_rfl
 sizeByte:=by kernel_rfl
 neB5:=by decide }
open Go.RowKit Go.Lib in
theorem Tryz.strings_ReplaceAll_shaped(s old new:ByteArray)(w:World)(h:w.ShapedOpen Tryz.prog)(hs:s.size<4294967281)(h1:1<=old.size)(hlen:s.size+Lib.countB s old*new.size<=140737488355328) :
 Calls Tryz.prog 144 #[.string s,.string old,.string new] w λe w'=>
  e=.returned (.string ⟨(Lib.replaceAll s.data.toList old.data.toList new.data.toList).toArray⟩)/\Below w.heap.size w w':=Any.strings_ReplaceAll_shaped Tryz.GB Tryz.oF s old new w h hs h1 hlen
def Tryz.xg:Go.Shelf.Ren:=⟨fun | 146=>107 | 221=>156 | 268=>188 | 138=>189 | 143=>190 | 195=>220 | 197=>208 | 218=>221 | 219=>151 | 260=>235 | 217=>180 | 225=>181 | 224=>182 | 267=>183 | 266=>213 | 314=>214 | n=>n,fun | 9=>9 | 31=>97 | 3=>3 | 4=>4 | 0=>0 | 105=>243 | 21=>21 | 5=>5 | 46=>176 | 119=>283 | 139=>286 | 138=>285 | 146=>204 | 51=>203 | n=>n,fun | 1=>3 | 3=>7 | 4=>8 | n=>n⟩
theorem Tryz.GC:Go.Proofs.LaysM.n146 Tryz.prog Tryz.xg:={
 mixed:=by kernel_rfl
 f138:=Tryz.func189.trans (congrArg some (by kernel_rfl))
 f143:=Tryz.func190.trans (congrArg some (by kernel_rfl))
 f146:=Tryz.func107.trans (congrArg some (by kernel_rfl))
 f195:=Tryz.func220.trans (congrArg some (by kernel_rfl))
 f197:=Tryz.func208.trans (congrArg some (by kernel_rfl))
 f217:=Tryz.func180.trans (congrArg some (by kernel_rfl))
 f218:=Tryz.func221.trans (congrArg some (by kernel_rfl))
 f219:=Tryz.func151.trans (congrArg some (by kernel_rfl))
 f221:=Tryz.func156.trans (congrArg some (by kernel_rfl))
 f224:=Tryz.func182.trans (congrArg some (by kernel_rfl))
 f225:=Tryz.func181.trans (congrArg some (by kernel_rfl))
 f260:=Tryz.func235.trans (congrArg some (by kernel_rfl))
 f266:=Tryz.func213.trans (congrArg some (by kernel_rfl))
 f267:=Tryz.func183.trans (congrArg some (by kernel_rfl))
 f268:=Tryz.func188.trans (congrArg some (by kernel_rfl))
 f314:=Tryz.func214.trans (congrArg some (by kernel_rfl))
 t0:=Tryz.underlying0
 a0:=Tryz.isAgg0
 z0:=Tryz.sizeOf0
 v0:=Tryz.zeroValue0
 t3:=Tryz.underlying3
 a3:=Tryz.isAgg3
 z3:=Tryz.sizeOf3
 v3:=Tryz.zeroValue3
 t4:=Tryz.underlying4
 a4:=Tryz.isAgg4
 z4:=Tryz.sizeOf4
 v4:=Tryz.zeroValue4
 t5:=Tryz.underlying5
 a5:=Tryz.isAgg5
 z5:=Tryz.sizeOf5
 v5:=Tryz.zeroValue5
 t9:=Tryz.underlying9
 a9:=Tryz.isAgg9
 z9:=Tryz.sizeOf9
 v9:=Tryz.zeroValue9
 t21:=Tryz.underlying21
 a21:=Tryz.isAgg21
 z21:=Tryz.sizeOf21
 v21:=Tryz.zeroValue21
 t31:=Tryz.underlying97
 a31:=Tryz.isAgg97
 z31:=Tryz.sizeOf97
 v31:=Tryz.zeroValue97
 t46:=Tryz.underlying176
 a46:=Tryz.isAgg176
 z46:=Tryz.sizeOf176
 v46:=Tryz.zeroValue176
 t51:=Tryz.underlying203
 a51:=Tryz.isAgg203
 z51:=Tryz.sizeOf203
 v51:=Tryz.zeroValue203
 t105:=Tryz.underlying243
 a105:=Tryz.isAgg243
 z105:=Tryz.sizeOf243
 v105:=Tryz.zeroValue243
 t119:=Tryz.underlying283
 a119:=Tryz.isAgg283
 z119:=Tryz.sizeOf283
 t138:=Tryz.underlying285
 a138:=Tryz.isAgg285
 z138:=Tryz.sizeOf285
 v138:=Tryz.zeroValue285
 t139:=Tryz.underlying286
 a139:=Tryz.isAgg286
 z139:=Tryz.sizeOf286
 v139:=Tryz.zeroValue286
 t146:=Tryz.underlying204
 a146:=Tryz.isAgg204
 z146:=Tryz.sizeOf204
 v146:=Tryz.zeroValue204
 g1:=by kernel_rfl
 g3:=by kernel_rfl
 g4:=by kernel_rfl
 i0:=by kernel_rfl
 i3:=by kernel_rfl
 i4:=by kernel_rfl
 i5:=by kernel_rfl
 i9:=by kernel_rfl
 i21:=by kernel_rfl
 i31:=by kernel_rfl
 i46:=by kernel_rfl
 i51:=by kernel_rfl
 i105:=by kernel_rfl
 i138:=by kernel_rfl
 i139:=by kernel_rfl
 i146:=by kernel_rfl
 m1:=by kernel_rfl
 s1_3:=λw h=>Go.Proofs.cell_of_shapedOpen_int (zero:=#[.int .i64 0]) (t:=3) h (bc (by kernel_rfl)) (by kernel_rfl) rfl (by kernel_rfl) (by kernel_rfl) Tryz.underlying3
 m3:=by kernel_rfl
 m4:=by kernel_rfl }
open Go.RowKit Go.Lib in
theorem Tryz.strings_Split_shaped(s sep:ByteArray)(w:World)(h:w.ShapedOpen Tryz.prog)(hs:s.size<4294967281)(h1:1<=sep.size) :
 Calls Tryz.prog 107 #[.string s,.string sep] w λe w'=>
  e=.returned (.slice (some ⟨w.heap.size,0,none⟩) (Lib.countB s sep+1) (Lib.countB s sep+1))/\w'=w.alloc (.cells ((Lib.splitB sep 0 (Lib.countB s sep) s).map Value.string).toArray 9):=Any.strings_Split_shaped Tryz.GC s sep w h hs h1
def Tryz.qP:Go.Shelf.Ren:=⟨fun | 105=>122 | 212=>135 | 99=>61 | 165=>98 | 166=>99 | 170=>162 | 169=>100 | 263=>170 | 264=>171 | 206=>104 | 240=>146 | 241=>147 | 276=>178 | 277=>179 | n=>n,fun | 9=>9 | 3=>3 | 4=>4 | 20=>20 | 0=>0 | 46=>176 | 109=>177 | 5=>5 | 72=>148 | 76=>152 | 51=>203 | 146=>204 | 53=>206 | 148=>207 | 70=>145 | 37=>146 | 75=>151 | 127=>185 | 164=>213 | 80=>84 | n=>n,fun | n=>n⟩
theorem Tryz.Jm:Go.Proofs.Lays.n105 Tryz.prog Tryz.qP:={
 mixed:=by kernel_rfl
 f99:=Tryz.func61.trans (congrArg some (by kernel_rfl))
 f105:=Tryz.func122.trans (congrArg some (by kernel_rfl))
 f165:=Tryz.func98.trans (congrArg some (by kernel_rfl))
 f166:=Tryz.func99.trans (congrArg some (by kernel_rfl))
 f169:=Tryz.func100.trans (congrArg some (by kernel_rfl))
 f170:=Tryz.func162.trans (congrArg some (by kernel_rfl))
 f206:=Tryz.func104.trans (congrArg some (by kernel_rfl))
 f212:=Tryz.func135.trans (congrArg some (by kernel_rfl))
 f240:=Tryz.func146.trans (congrArg some (by kernel_rfl))
 f241:=Tryz.func147.trans (congrArg some (by kernel_rfl))
 f263:=Tryz.func170.trans (congrArg some (by kernel_rfl))
 f264:=Tryz.func171.trans (congrArg some (by kernel_rfl))
 f276:=Tryz.func178.trans (congrArg some (by kernel_rfl))
 f277:=Tryz.func179.trans (congrArg some (by kernel_rfl))
 t0:=Tryz.underlying0
 a0:=Tryz.isAgg0
 z0:=Tryz.sizeOf0
 v0:=Tryz.zeroValue0
 t3:=Tryz.underlying3
 a3:=Tryz.isAgg3
 z3:=Tryz.sizeOf3
 v3:=Tryz.zeroValue3
 t4:=Tryz.underlying4
 a4:=Tryz.isAgg4
 z4:=Tryz.sizeOf4
 v4:=Tryz.zeroValue4
 t5:=Tryz.underlying5
 a5:=Tryz.isAgg5
 z5:=Tryz.sizeOf5
 v5:=Tryz.zeroValue5
 t9:=Tryz.underlying9
 a9:=Tryz.isAgg9
 z9:=Tryz.sizeOf9
 v9:=Tryz.zeroValue9
 t20:=Tryz.underlying20
 a20:=Tryz.isAgg20
 z20:=Tryz.sizeOf20
 v20:=Tryz.zeroValue20
 t37:=Tryz.underlying146
 a37:=Tryz.isAgg146
 z37:=Tryz.sizeOf146
 v37:=Tryz.zeroValue146
 t46:=Tryz.underlying176
 a46:=Tryz.isAgg176
 z46:=Tryz.sizeOf176
 v46:=Tryz.zeroValue176
 t51:=Tryz.underlying203
 a51:=Tryz.isAgg203
 z51:=Tryz.sizeOf203
 v51:=Tryz.zeroValue203
 t53:=Tryz.underlying206
 a53:=Tryz.isAgg206
 z53:=Tryz.sizeOf206
 v53:=Tryz.zeroValue206
 t70:=Tryz.underlying145
 a70:=Tryz.isAgg145
 z70:=Tryz.sizeOf145
 v70:=Tryz.zeroValue145
 t72:=Tryz.underlying148
 a72:=Tryz.isAgg148
 z72:=Tryz.sizeOf148
 v72:=Tryz.zeroValue148
 t75:=Tryz.underlying151
 a75:=Tryz.isAgg151
 z75:=Tryz.sizeOf151
 v75:=Tryz.zeroValue151
 t76:=Tryz.underlying152
 a76:=Tryz.isAgg152
 z76:=Tryz.sizeOf152
 v76:=Tryz.zeroValue152
 t109:=Tryz.underlying177
 a109:=Tryz.isAgg177
 z109:=Tryz.sizeOf177
 v109:=Tryz.zeroValue177
 t127:=Tryz.underlying185
 a127:=Tryz.isAgg185
 z127:=Tryz.sizeOf185
 v127:=Tryz.zeroValue185
 t146:=Tryz.underlying204
 a146:=Tryz.isAgg204
 z146:=Tryz.sizeOf204
 v146:=Tryz.zeroValue204
 t148:=Tryz.underlying207
 a148:=Tryz.isAgg207
 z148:=Tryz.sizeOf207
 v148:=Tryz.zeroValue207
 t164:=Tryz.underlying213
 a164:=Tryz.isAgg213
 z164:=Tryz.sizeOf213
 v164:=Tryz.zeroValue213 }
theorem Tryz.pH:Builder.Extra Tryz.prog Tryz.qP:={
 sizeBuilder:=by kernel_rfl
 liesBuilder:=by kernel_rfl
 t5:=Tryz.underlying5
 a5:=Tryz.isAgg5
 z5:=Tryz.sizeOf5
 v5:=Tryz.zeroValue5
 infoByte:=by kernel_rfl
 cellsByte:=by kernel_rfl
 sizeByte:=by kernel_rfl
 neB5:=by decide }
open Go.RowKit Go.Lib in
theorem Tryz.strings_Repeat(s:ByteArray)(c:Nat)(w:World)(hc:c<=9223372036854775807)(hlen:s.size*c<=140737488355328) :
 Calls Tryz.prog 122 #[.string s,.int .i64 c] w λe w'=>e=.returned (.string ⟨(Lib.repeatL s.data.toList c).toArray⟩)/\Below w.heap.size w w':=Any.strings_Repeat Tryz.Jm Tryz.pH s c w hc hlen
def Tryz.qO:Go.Shelf.Ren:=⟨fun | 156=>56 | 165=>98 | 166=>99 | 169=>100 | 240=>146 | 241=>147 | 276=>178 | 277=>179 | n=>n,fun | 31=>97 | 9=>9 | 3=>3 | 4=>4 | 0=>0 | 20=>20 | 72=>148 | 76=>152 | 70=>145 | 37=>146 | 75=>151 | 127=>185 | 164=>213 | 5=>5 | 80=>84 | n=>n,fun | n=>n⟩
theorem Tryz.CK:Go.Proofs.Lays.n156 Tryz.prog Tryz.qO:={
 mixed:=by kernel_rfl
 f156:=Tryz.func56.trans (congrArg some (by kernel_rfl))
 f165:=Tryz.func98.trans (congrArg some (by kernel_rfl))
 f166:=Tryz.func99.trans (congrArg some (by kernel_rfl))
 f169:=Tryz.func100.trans (congrArg some (by kernel_rfl))
 f240:=Tryz.func146.trans (congrArg some (by kernel_rfl))
 f241:=Tryz.func147.trans (congrArg some (by kernel_rfl))
 f276:=Tryz.func178.trans (congrArg some (by kernel_rfl))
 f277:=Tryz.func179.trans (congrArg some (by kernel_rfl))
 t0:=Tryz.underlying0
 a0:=Tryz.isAgg0
 z0:=Tryz.sizeOf0
 v0:=Tryz.zeroValue0
 t3:=Tryz.underlying3
 a3:=Tryz.isAgg3
 z3:=Tryz.sizeOf3
 v3:=Tryz.zeroValue3
 t4:=Tryz.underlying4
 a4:=Tryz.isAgg4
 z4:=Tryz.sizeOf4
 v4:=Tryz.zeroValue4
 t9:=Tryz.underlying9
 a9:=Tryz.isAgg9
 z9:=Tryz.sizeOf9
 v9:=Tryz.zeroValue9
 t20:=Tryz.underlying20
 a20:=Tryz.isAgg20
 z20:=Tryz.sizeOf20
 v20:=Tryz.zeroValue20
 t31:=Tryz.underlying97
 a31:=Tryz.isAgg97
 z31:=Tryz.sizeOf97
 v31:=Tryz.zeroValue97
 t37:=Tryz.underlying146
 a37:=Tryz.isAgg146
 z37:=Tryz.sizeOf146
 v37:=Tryz.zeroValue146
 t70:=Tryz.underlying145
 a70:=Tryz.isAgg145
 z70:=Tryz.sizeOf145
 v70:=Tryz.zeroValue145
 t72:=Tryz.underlying148
 a72:=Tryz.isAgg148
 z72:=Tryz.sizeOf148
 v72:=Tryz.zeroValue148
 t75:=Tryz.underlying151
 a75:=Tryz.isAgg151
 z75:=Tryz.sizeOf151
 v75:=Tryz.zeroValue151
 t76:=Tryz.underlying152
 a76:=Tryz.isAgg152
 z76:=Tryz.sizeOf152
 v76:=Tryz.zeroValue152
 t127:=Tryz.underlying185
 a127:=Tryz.isAgg185
 z127:=Tryz.sizeOf185
 v127:=Tryz.zeroValue185
 t164:=Tryz.underlying213
 a164:=Tryz.isAgg213
 z164:=Tryz.sizeOf213
 v164:=Tryz.zeroValue213 }
theorem Tryz.lb:Builder.Extra Tryz.prog Tryz.qO:={
 sizeBuilder:=by kernel_rfl
 liesBuilder:=by kernel_rfl
 t5:=Tryz.underlying5
 a5:=Tryz.isAgg5
 z5:=Tryz.sizeOf5
 v5:=Tryz.zeroValue5
 infoByte:=by kernel_rfl
 cellsByte:=by kernel_rfl
 sizeByte:=by kernel_rfl
 neB5:=by decide }
open Go.RowKit in
theorem Tryz.strings_Join(bk o c:Nat)(xs:List ByteArray)(sep:ByteArray)(w:World)(Mg:∀(j:Nat) x,xs[j]?=some x->w.cell? ⟨bk,o+j,none⟩=some (.string x))(Hh:bk<w.heap.size)(hN:xs.length<=140737488355328)(jg:xs.length<=c)(hlen:(Lib.join (xs.map (·.data.toList)) sep.data.toList).length<=140737488355328) :
 Calls Tryz.prog 56 #[.slice (some ⟨bk,o,none⟩) xs.length c,.string sep] w λe w'=>e=.returned (.string ⟨(Lib.join (xs.map (·.data.toList)) sep.data.toList).toArray⟩)/\Below w.heap.size w w':=Any.strings_Join Tryz.CK Tryz.lb bk o c xs sep w Mg Hh hN jg hlen
open Go.RowKit in
theorem Tryz.strings_Join_none(a:Option Addr)(c:Nat)(sep:ByteArray)(w:World) :
 Calls Tryz.prog 56 #[.slice a 0 c,.string sep] w λe w'=>e=.returned (.string ⟨#[]⟩)/\w'=w:=Any.strings_Join_none Tryz.CK Tryz.lb a c sep w
def Tryz.xi:Go.Shelf.Ren:=⟨fun | 172=>157 | 244=>191 | 245=>192 | 247=>222 | 279=>223 | 280=>224 | 281=>225 | 282=>226 | 287=>245 | 316=>246 | 171=>97 | 205=>247 | 321=>254 | 322=>255 | 243=>145 | 246=>177 | 283=>209 | 284=>210 | 285=>211 | 286=>212 | 129=>206 | 317=>236 | 318=>237 | 319=>238 | 320=>239 | 337=>249 | 338=>250 | n=>n,fun | 9=>9 | 3=>3 | 75=>151 | 76=>152 | 4=>4 | 5=>5 | 167=>252 | 37=>146 | 0=>0 | 85=>253 | 2=>2 | 168=>255 | 53=>206 | 175=>275 | 46=>176 | 210=>278 | 127=>185 | 145=>292 | 143=>290 | 21=>21 | 171=>245 | 173=>247 | 212=>265 | 51=>203 | 20=>20 | 213=>266 | 232=>293 | 233=>294 | 80=>84 | n=>n,fun | 15=>5 | 16=>6 | 17=>4 | 18=>9 | 19=>10 | n=>n⟩
theorem Tryz.GF:Go.Proofs.LaysC.n172 Tryz.prog Tryz.xi:={
 mixed:=by kernel_rfl
 f129:=Tryz.func206.trans (congrArg some (by kernel_rfl))
 f171:=Tryz.func97.trans (congrArg some (by kernel_rfl))
 f172:=Tryz.func157.trans (congrArg some (by kernel_rfl))
 f205:=Tryz.func247.trans (congrArg some (by kernel_rfl))
 f243:=Tryz.func145.trans (congrArg some (by kernel_rfl))
 f244:=Tryz.func191.trans (congrArg some (by kernel_rfl))
 f245:=Tryz.func192.trans (congrArg some (by kernel_rfl))
 f246:=Tryz.func177.trans (congrArg some (by kernel_rfl))
 f247:=Tryz.func222.trans (congrArg some (by kernel_rfl))
 f279:=Tryz.func223.trans (congrArg some (by kernel_rfl))
 f280:=Tryz.func224.trans (congrArg some (by kernel_rfl))
 f281:=Tryz.func225.trans (congrArg some (by kernel_rfl))
 f282:=Tryz.func226.trans (congrArg some (by kernel_rfl))
 f283:=Tryz.func209.trans (congrArg some (by kernel_rfl))
 f284:=Tryz.func210.trans (congrArg some (by kernel_rfl))
 f285:=Tryz.func211.trans (congrArg some (by kernel_rfl))
 f286:=Tryz.func212.trans (congrArg some (by kernel_rfl))
 f287:=Tryz.func245.trans (congrArg some (by kernel_rfl))
 f316:=Tryz.func246.trans (congrArg some (by kernel_rfl))
 f317:=Tryz.func236.trans (congrArg some (by kernel_rfl))
 f318:=Tryz.func237.trans (congrArg some (by kernel_rfl))
 f319:=Tryz.func238.trans (congrArg some (by kernel_rfl))
 f320:=Tryz.func239.trans (congrArg some (by kernel_rfl))
 f321:=Tryz.func254.trans (congrArg some (by kernel_rfl))
 f322:=Tryz.func255.trans (congrArg some (by kernel_rfl))
 f337:=Tryz.func249.trans (congrArg some (by kernel_rfl))
 f338:=Tryz.func250.trans (congrArg some (by kernel_rfl))
 t0:=Tryz.underlying0
 a0:=Tryz.isAgg0
 z0:=Tryz.sizeOf0
 v0:=Tryz.zeroValue0
 t2:=Tryz.underlying2
 a2:=Tryz.isAgg2
 z2:=Tryz.sizeOf2
 v2:=Tryz.zeroValue2
 t3:=Tryz.underlying3
 a3:=Tryz.isAgg3
 z3:=Tryz.sizeOf3
 v3:=Tryz.zeroValue3
 t4:=Tryz.underlying4
 a4:=Tryz.isAgg4
 z4:=Tryz.sizeOf4
 v4:=Tryz.zeroValue4
 t5:=Tryz.underlying5
 a5:=Tryz.isAgg5
 z5:=Tryz.sizeOf5
 v5:=Tryz.zeroValue5
 t9:=Tryz.underlying9
 a9:=Tryz.isAgg9
 z9:=Tryz.sizeOf9
 v9:=Tryz.zeroValue9
 t20:=Tryz.underlying20
 a20:=Tryz.isAgg20
 z20:=Tryz.sizeOf20
 v20:=Tryz.zeroValue20
 t21:=Tryz.underlying21
 a21:=Tryz.isAgg21
 z21:=Tryz.sizeOf21
 v21:=Tryz.zeroValue21
 t37:=Tryz.underlying146
 a37:=Tryz.isAgg146
 z37:=Tryz.sizeOf146
 v37:=Tryz.zeroValue146
 t46:=Tryz.underlying176
 a46:=Tryz.isAgg176
 z46:=Tryz.sizeOf176
 v46:=Tryz.zeroValue176
 t51:=Tryz.underlying203
 a51:=Tryz.isAgg203
 z51:=Tryz.sizeOf203
 v51:=Tryz.zeroValue203
 t53:=Tryz.underlying206
 a53:=Tryz.isAgg206
 z53:=Tryz.sizeOf206
 v53:=Tryz.zeroValue206
 t75:=Tryz.underlying151
 a75:=Tryz.isAgg151
 z75:=Tryz.sizeOf151
 v75:=Tryz.zeroValue151
 t76:=Tryz.underlying152
 a76:=Tryz.isAgg152
 z76:=Tryz.sizeOf152
 v76:=Tryz.zeroValue152
 t85:=Tryz.underlying253
 a85:=Tryz.isAgg253
 z85:=Tryz.sizeOf253
 v85:=Tryz.zeroValue253
 t127:=Tryz.underlying185
 a127:=Tryz.isAgg185
 z127:=Tryz.sizeOf185
 v127:=Tryz.zeroValue185
 t143:=Tryz.underlying290
 a143:=Tryz.isAgg290
 z143:=Tryz.sizeOf290
 v143:=Tryz.zeroValue290
 t145:=Tryz.underlying292
 a145:=Tryz.isAgg292
 z145:=Tryz.sizeOf292
 v145:=Tryz.zeroValue292
 t167:=Tryz.underlying252
 a167:=Tryz.isAgg252
 z167:=Tryz.sizeOf252
 v167:=Tryz.zeroValue252
 t168:=Tryz.underlying255
 a168:=Tryz.isAgg255
 z168:=Tryz.sizeOf255
 v168:=Tryz.zeroValue255
 t171:=Tryz.underlying245
 a171:=Tryz.isAgg245
 z171:=Tryz.sizeOf245
 v171:=Tryz.zeroValue245
 t173:=Tryz.underlying247
 a173:=Tryz.isAgg247
 z173:=Tryz.sizeOf247
 v173:=Tryz.zeroValue247
 t175:=Tryz.underlying275
 a175:=Tryz.isAgg275
 z175:=Tryz.sizeOf275
 v175:=Tryz.zeroValue275
 t210:=Tryz.underlying278
 a210:=Tryz.isAgg278
 z210:=Tryz.sizeOf278
 v210:=Tryz.zeroValue278
 t212:=Tryz.underlying265
 a212:=Tryz.isAgg265
 z212:=Tryz.sizeOf265
 v212:=Tryz.zeroValue265
 t213:=Tryz.underlying266
 a213:=Tryz.isAgg266
 z213:=Tryz.sizeOf266
 t232:=Tryz.underlying293
 a232:=Tryz.isAgg293
 z232:=Tryz.sizeOf293
 v232:=Tryz.zeroValue293
 t233:=Tryz.underlying294
 a233:=Tryz.isAgg294
 z233:=Tryz.sizeOf294
 v233:=Tryz.zeroValue294
 g15:=by kernel_rfl
 g16:=by kernel_rfl
 g17:=by kernel_rfl
 g18:=by kernel_rfl
 g19:=by kernel_rfl
 t80:=Tryz.underlying84
 a80:=Tryz.isAgg84
 z80:=Tryz.sizeOf84
 v80:=Tryz.zeroValue84
 i0:=by kernel_rfl
 i2:=by kernel_rfl
 i3:=by kernel_rfl
 i4:=by kernel_rfl
 i5:=by kernel_rfl
 i9:=by kernel_rfl
 i20:=by kernel_rfl
 i21:=by kernel_rfl
 i37:=by kernel_rfl
 i46:=by kernel_rfl
 i51:=by kernel_rfl
 i53:=by kernel_rfl
 i75:=by kernel_rfl
 i76:=by kernel_rfl
 i80:=by kernel_rfl
 i85:=by kernel_rfl
 i127:=by kernel_rfl
 i143:=by kernel_rfl
 i145:=by kernel_rfl
 i167:=by kernel_rfl
 i168:=by kernel_rfl
 i171:=by kernel_rfl
 i173:=by kernel_rfl
 i175:=by kernel_rfl
 i210:=by kernel_rfl
 i212:=by kernel_rfl
 i232:=by kernel_rfl
 i233:=by kernel_rfl
 m15:=by kernel_rfl
 m16:=by kernel_rfl
 m17:=by kernel_rfl
 m18:=by kernel_rfl
 m19:=by kernel_rfl
 c0:=by kernel_rfl
 c2:=by kernel_rfl
 c3:=by kernel_rfl
 c4:=by kernel_rfl
 c5:=by kernel_rfl
 c9:=by kernel_rfl
 c20:=by kernel_rfl
 c21:=by kernel_rfl
 c37:=by kernel_rfl
 c46:=by kernel_rfl
 c51:=by kernel_rfl
 c53:=by kernel_rfl
 c75:=by kernel_rfl
 c76:=by kernel_rfl
 c80:=by kernel_rfl
 c85:=by kernel_rfl
 c127:=by kernel_rfl
 c143:=by kernel_rfl
 c145:=by kernel_rfl
 c167:=by kernel_rfl
 c168:=by kernel_rfl
 c171:=by kernel_rfl
 c173:=by kernel_rfl
 c175:=by kernel_rfl
 c210:=by kernel_rfl
 c212:=by kernel_rfl
 c213:=by kernel_rfl
 c232:=by kernel_rfl
 c233:=by kernel_rfl }
end Go.Proofs
namespace Go.Proofs.YtnoldakbllfmnaaGreatDoor.Ev
open Go Go.Proofs Go.Proofs.Ev
def oI.F(n:Nat)(c:Int):Option (ByteArray):=bif decide (-9223372036854775808<=c)&&decide (c<=9223372036854775807)then Option.some (⟨(Lib.itoa c).toArray⟩)else none
theorem oI.cZ(n:Nat)(c:Int){p:ByteArray}(h:oI.F n c=some p):fD Tryz.prog 97 [.v (.int .i64 c)] (.v (.string p)):=by
 unfold oI.F at h;cases hc:(decide (-9223372036854775808<=c)&&decide (c<=9223372036854775807))with
 | false=>rw[hc]at h;cases h
 | true=>
  rw[hc]at h;cases h;refine fR (fn:=Tryz.f97) Tryz.func97 (by kernel_rfl) (by kernel_rfl) λw F vals hQ hF hl hr=>?_;obtain⟨u0,rfl,h0⟩:=Kj hl hr;obtain rfl:=jC h0;rw[ae]at hc;refine(Tryz.strconv_Itoa c (bc hc.1) (bc hc.2) w (hQ.2.1 _ (bU ..))).mono ?_;rintro e w' ⟨rfl,k,os,rfl⟩;exact⟨F,λ_=>none,Came.jF hF (BX w k os),.v _ rfl⟩
def oI.via{R:Type}(n:Nat)(ys:List AV):(AV->Option R)->Option R:=match ys with | [.v (.int .i64 c)]=>λK=>(oI.F n c).bind λp=>K (.v (.string p)) | _=>λ_=>none
theorem oI.gu{R:Type}(n:Nat)(ys:List AV):dL (R:=R) Tryz.prog 97 ys (oI.via n ys):=by
 unfold oI.via;split
 ·exact dL.of (λp hp=>(oI.cZ n _ hp).cZ rfl)
 ·exact dL.none
def oI.u:fO Tryz.prog:=⟨97,λ_=>true,λn xs=>oI.via n xs,λn xs=>oI.gu n xs⟩
abbrev lP.T:=ByteArray
def lP.p(p:lP.T):AV:=vs p
def lP.q(x:AV):Option lP.T:=match x with | .v (.string p0)=>some p0 | _=>none
theorem lP.qi:∀x p,lP.q x=some p->x=lP.p p:=by
 intro x p h;unfold lP.q at h;split at h
 ·cases h;rfl
 ·cases h
def lP.e(n:Nat)(a0 a1 a2:Int):Option ByteArray:=
 bif decide ((0:Int)<=a0)&&decide (a0<((ql.length:Nat):Int))then(cM ((ql.getD ((a0).toNat) .undef).cells) λh1 r2=>
 dm h1 λs3=>
 eW (decide (s3.size+1<=9223372036854775807)) ((oI.F n a1).bind λp4=>
 eW (decide ((s3++(⟨#[40]⟩:ByteArray)).size+p4.size<=9223372036854775807)) (let y5:ByteArray:=(s3++(⟨#[40]⟩:ByteArray))++p4
 bif a0 != 0 then((oI.F n a2).bind λp6=>
 eW (decide (1+p6.size<=9223372036854775807)) (eW (decide (y5.size+((⟨#[44]⟩:ByteArray)++p6).size<=9223372036854775807)) (let y7:ByteArray:=y5++((⟨#[44]⟩:ByteArray)++p6)
 eW (decide (y7.size+1<=9223372036854775807)) (some (y7++(⟨#[41]⟩:ByteArray))))))else(eW (decide (y5.size+1<=9223372036854775807)) (some (y5++(⟨#[41]⟩:ByteArray)))))))else none
def lP.F(n:Nat)(a0 a1 a2:Int):Option ByteArray:=lP.e n a0 a1 a2
theorem lP.cZ(n:Nat):dt Tryz.prog 95 jx.i lP.p (rG (lP.e n)):=mA n (rG (lP.e n)) [oI.u] cx lP.qi Tryz.func95
def lP.u:fO Tryz.prog:=gT jx.oi lP.cZ
def AD.F(n:Nat)(s:ByteArray)(c:Int):Option (ByteArray):=bif decide (0<=c)&&decide ((s.size:Int)*c<=140737488355328)&&decide (c<=9223372036854775807)then Option.some (⟨(Lib.repeatL s.data.toList c.toNat).toArray⟩)else none
theorem AD.cZ(n:Nat)(s:ByteArray)(c:Int){p:ByteArray}(h:AD.F n s c=some p):fD Tryz.prog 122 [vs s,vi c] (vs p):=by
 unfold AD.F at h;cases hc:(decide (0<=c)&&decide ((s.size:Int)*c<=140737488355328)&&decide (c<=9223372036854775807))with
 | false=>rw[hc]at h;cases h
 | true=>
  rw[hc]at h;cases h;refine fR (fn:=Tryz.f122) Tryz.func122 (by kernel_rfl) (by kernel_rfl) λw F vals hQ hF hl hr=>?_;obtain⟨u,v,rfl,hu,hv⟩:=vd hl hr;obtain rfl:=jC hu;obtain rfl:=jC hv;rw[ae,ae]at hc;have h0:=bc hc.1.1;have h1:=bc hc.1.2;have h2:=bc hc.2;obtain⟨m,rfl⟩:=Int.eq_ofNat_of_zero_le h0;refine(Tryz.strings_Repeat s m w (by omega) (by have:=Int.natCast_mul s.size m;omega)).mono ?_;rintro e w' ⟨rfl,hB⟩;exact⟨F,λ_=>none,Came.jF hF hB,.v _ rfl⟩
def AD.via{R:Type}(n:Nat)(ys:List AV):(AV->Option R)->Option R:=match ys with | [.v (.string s),.v (.int .i64 c)]=>λK=>(AD.F n s c).bind λp=>K (vs p) | _=>λ_=>none
theorem AD.gu{R:Type}(n:Nat)(ys:List AV):dL (R:=R) Tryz.prog 122 ys (AD.via n ys):=by
 unfold AD.via;split
 ·exact dL.of (λp hp=>(AD.cZ n _ _ hp).cZ rfl)
 ·exact dL.none
def AD.u:fO Tryz.prog:=⟨122,λ_=>true,λn xs=>AD.via n xs,λn xs=>AD.gu n xs⟩
abbrev rD.A:=Int × Int
def rD.i:rD.A->List AV:=fun(a0,a1)=>[AV.agg [vi a0,vi a1]]
def rD.o(xs:List AV):Option rD.A:=match xs with | [.agg [.v (.int .i64 a0),.v (.int .i64 a1)]]=>some (a0,a1) | _=>none
theorem rD.oi:∀xs a,rD.o xs=some a->xs=rD.i a:=by
 intro xs a h;unfold rD.o at h;split at h
 ·cases h;rfl
 ·cases h
def rD.e(n:Nat)(a0 a1:Int):Option Int:=
 (uv.F n a0 (-999999999999999) 999999999999999).bind λp1=>
 bif !p1 then((sb.F n true 3).bind λp2=>
 some p2)else((uv.F n a1 0 15).bind λp3=>
 (sb.F n (!p3) 3).bind λp4=>
 some p4)
def rD.F(n:Nat)(a0 a1:Int):Option Int:=rD.e n a0 a1
theorem rD.cZ(n:Nat):dt Tryz.prog 173 rD.i fx.p (kM (rD.e n)):=mA n (kM (rD.e n)) [uv.u,sb.u] cx fx.qi Tryz.func173
def rD.u:fO Tryz.prog:=gT rD.oi rD.cZ
abbrev gO.T:=ByteArray × Int
def gO.p(p:gO.T):AV:=.dU [vs p.1,vi p.2]
def gO.q(x:AV):Option gO.T:=match x with | .dU [.v (.string p0),.v (.int .i64 p1)]=>some (p0,p1) | _=>none
theorem gO.qi:∀x p,gO.q x=some p->x=gO.p p:=by
 intro x p h;unfold gO.q at h;split at h
 ·cases h;rfl
 ·cases h
inductive gO.Z where
 | z9 (z1:ByteArray) (z2 z3:Int)
def gO.s:gO.Z->Nat × St
 | .z9 z1 z2 z3=>gX 9 57 [(1,.ptr 0 0),(5,vs z1)] [.box 183 [vi z2,vi z3]]
def gO.r9(n:Nat)(c:gO.Z->Option gO.T)(z1:ByteArray)(z2 z3:Int):Option gO.T:=
 bif decide (z2<0)then(eW (decide (1+z1.size<=9223372036854775807)) (some ((⟨#[45]⟩:ByteArray)++z1,0)))else(some (z1,0))
def gO.r(n:Nat)(c:gO.Z->Option gO.T):gO.Z->Option gO.T
 | .z9 z1 z2 z3=>gO.r9 n c z1 z2 z3
def gO.e(n:Nat)(c:gO.Z->Option gO.T)(a0 a1:Int):Option gO.T:=
 (rD.F n a0 a1).bind λp1=>
 bif p1 != 0 then(some ((⟨#[]⟩:ByteArray),p1))else(let y2:Int:=if IntKind.i64.wrap (0 - a0)>a0 then IntKind.i64.wrap (0 - a0)else a0
 (oI.F n y2).bind λp3=>
 let y4:Bool:=decide (((p3.size:Nat):Int)<=a1)
 bif y4 then(let y5:Int:=IntKind.i64.wrap ((IntKind.i64.wrap (a1+1)) - ((p3.size:Nat):Int))
 (AD.F n (⟨#[48]⟩:ByteArray) y5).bind λp6=>
 eW (decide (p6.size+p3.size<=9223372036854775807)) (bif decide (a1>0)then(let y7:Int:=IntKind.i64.wrap ((((p6++p3).size:Nat):Int) - a1)
 bif decide ((0:Int)<=y7)&&decide ((y7:Int)<=(((p6++p3).size:Nat):Int))then(let y8:ByteArray:=(p6++p3).extract 0 (y7).toNat
 eW (decide (y8.size+1<=9223372036854775807)) (let y9:Int:=IntKind.i64.wrap ((((p6++p3).size:Nat):Int) - a1)
 bif decide ((0:Int)<=y9)&&decide ((y9:Int)<=(((p6++p3).size:Nat):Int))then(let pJ:ByteArray:=(p6++p3).extract (y9).toNat (p6++p3).size
 eW (decide ((y8++(⟨#[46]⟩:ByteArray)).size+pJ.size<=9223372036854775807)) (let uz:ByteArray:=(y8++(⟨#[46]⟩:ByteArray))++pJ
 c (.z9 uz a0 a1)))else none))else none)else(c (.z9 (p6++p3) a0 a1))))else(bif decide (a1>0)then(let Fq:Int:=IntKind.i64.wrap (((p3.size:Nat):Int) - a1)
 bif decide ((0:Int)<=Fq)&&decide ((Fq:Int)<=((p3.size:Nat):Int))then(eW (decide ((p3.extract 0 (Fq).toNat).size+1<=9223372036854775807)) (let Kg:ByteArray:=(p3.extract 0 (Fq).toNat)++(⟨#[46]⟩:ByteArray)
 let Fp:Int:=IntKind.i64.wrap (((p3.size:Nat):Int) - a1)
 bif decide ((0:Int)<=Fp)&&decide ((Fp:Int)<=((p3.size:Nat):Int))then(let MI:ByteArray:=p3.extract (Fp).toNat p3.size
 eW (decide (Kg.size+MI.size<=9223372036854775807)) (c (.z9 (Kg++MI) a0 a1)))else none))else none)else(c (.z9 p3 a0 a1))))
def gO.l(n:Nat):Nat->gO.Z->Option gO.T:=eg (gO.r n)
def gO.F(n:Nat)(a0 a1:Int):Option gO.T:=gO.e n (gO.l n n) a0 a1
theorem gO.cZ(n:Nat):dt Tryz.prog 142 rD.i gO.p (kM (gO.e n (gO.l n n))):=pf [(9,⟨[1,5],[]⟩)] gO.s (λc=>kM (gO.e n c)) (gO.r n) [oI.u,AD.u,rD.u] cx gO.qi Tryz.func142
def gO.u:fO Tryz.prog:=gT rD.oi gO.cZ
abbrev uG.A:=Int
def uG.i:uG.A->List AV:=λa0=>[vu a0]
def uG.o(xs:List AV):Option uG.A:=match xs with | [.v (.int .u8 a0)]=>some a0 | _=>none
theorem uG.oi:∀xs a,uG.o xs=some a->xs=uG.i a:=by
 intro xs a h;unfold uG.o at h;split at h
 ·cases h;rfl
 ·cases h
def uG.e(n:Nat)(a0:Int):Option Bool:=
 bif decide (a0<32)then(some true)else(some (decide (a0>126)))
def uG.F(n:Nat)(a0:Int):Option Bool:=uG.e n a0
theorem uG.cZ(n:Nat):dt Tryz.prog 175 uG.i fY.p (kP (uG.e n)):=mA n (kP (uG.e n)) [] cx fY.qi Tryz.func175
def uG.u:fO Tryz.prog:=gT uG.oi uG.cZ
abbrev jX.A:=List AV
def jX.i:jX.A->List AV:=λa0=>[.sl ⟨true,5,false⟩ 1 a0,.fn 175 []]
def jX.o(xs:List AV):Option jX.A:=match xs with | [.sl ⟨true,5,false⟩ 1 a0,.fn 175 []]=>some a0 | _=>none
theorem jX.oi:∀xs a,jX.o xs=some a->xs=jX.i a:=by
 intro xs a h;unfold jX.o at h;split at h
 ·cases h;rfl
 ·cases h
inductive jX.Z where
 | z2 (z1:List AV) (z2 z3:Int)
def jX.s:jX.Z->Nat × St
 | .z2 z1 z2 z3=>gX 2 19 [(0,.sl ⟨true,5,false⟩ 1 z1),(1,.fn 175 []),(7,vi z2),(8,vi z3)] []
def jX.r2(n:Nat)(c:jX.Z->Option Int)(z1:List AV)(z2 z3:Int):Option Int:=
 bif decide (z3<z2)then(bif decide ((0:Int)<=z3)&&decide (z3<((z1.length:Nat):Int))then(cM ((z1.getD ((z3).toNat) .undef).cells) λh1 r2=>
 cQ .u8 h1 λx3=>
 (uG.F n x3).bind λp4=>
 bif p4 then(some z3)else(c (.z2 z1 z2 (IntKind.i64.wrap (z3+1)))))else none)else(some (-1))
def jX.r(n:Nat)(c:jX.Z->Option Int):jX.Z->Option Int
 | .z2 z1 z2 z3=>jX.r2 n c z1 z2 z3
def jX.e(n:Nat)(c:jX.Z->Option Int)(a0:List AV):Option Int:=
 c (.z2 a0 ((a0.length:Nat):Int) 0)
def jX.l(n:Nat):Nat->jX.Z->Option Int:=eg (jX.r n)
def jX.F(n:Nat)(a0:List AV):Option Int:=jX.e n (jX.l n n) a0
theorem jX.cZ(n:Nat):dt Tryz.prog 207 jX.i fx.p (kP (jX.e n (jX.l n n))):=pf [(2,⟨[0,1,7,8],[]⟩)] jX.s (λc=>kP (jX.e n c)) (jX.r n) [uG.u] cx fx.qi Tryz.func207
def jX.u:fO Tryz.prog:=gT jX.oi jX.cZ
def Ic.e(n:Nat)(a0:List AV):Option Bool:=
 (jX.F n a0).bind λp1=>
 some (decide (p1>=0))
def Ic.F(n:Nat)(a0:List AV):Option Bool:=Ic.e n a0
theorem Ic.cZ(n:Nat):dt Tryz.prog 174 jX.i fY.p (kP (Ic.e n)):=mA n (kP (Ic.e n)) [jX.u] cx fY.qi Tryz.func174
def Ic.u:fO Tryz.prog:=gT jX.oi Ic.cZ
def Fi.e(n:Nat)(a0:ByteArray):Option Bool:=
 let y1:List AV:=a0.toList.map λb=>vu b.toNat
 (Ic.F n y1).bind λp2=>
 some (!p2)
def Fi.F(n:Nat)(a0:ByteArray):Option Bool:=Fi.e n a0
theorem Fi.cZ(n:Nat):dt Tryz.prog 143 fI.i fY.p (kP (Fi.e n)):=mA n (kP (Fi.e n)) [Ic.u] cx fY.qi Tryz.func143
def Fi.u:fO Tryz.prog:=gT fI.oi Fi.cZ
def u6.F(n:Nat)(s:ByteArray)(t:ByteArray)(u:ByteArray):Option (ByteArray):=bif(decide (s.size<4294967281)&&decide (1<=t.size))&&decide (s.size+Lib.countB s t*u.size<=140737488355328)then Option.some (⟨(Lib.replaceAll s.data.toList t.data.toList u.data.toList).toArray⟩)else none
theorem u6.cZ(n:Nat)(s:ByteArray)(t:ByteArray)(u:ByteArray){p:ByteArray}(h:u6.F n s t u=some p):fD Tryz.prog 144 [.v (.string s),.v (.string t),.v (.string u)] (.v (.string p)):=by
 unfold u6.F at h;cases hc:((decide (s.size<4294967281)&&decide (1<=t.size))&&decide (s.size+Lib.countB s t*u.size<=140737488355328))with
 | false=>rw[hc]at h;cases h
 | true=>
  rw[hc]at h;cases h;refine fR (fn:=Tryz.f144) Tryz.func144 (by kernel_rfl) (by kernel_rfl) λw F vals hQ hF hl hr=>?_;obtain⟨u0,u1,u2,rfl,h0,h1,h2⟩:=Nv hl hr;obtain rfl:=jC h0;obtain rfl:=jC h1;obtain rfl:=jC h2;rw[ae,ae]at hc;refine(Tryz.strings_ReplaceAll_shaped s t u w (dH.opened _ hQ) (bc hc.1.1) (bc hc.1.2) (bc hc.2)).mono ?_;rintro e w' ⟨rfl,hB⟩;exact⟨F,λ_=>none,Came.jF hF hB,.v _ rfl⟩
def u6.via{R:Type}(n:Nat)(ys:List AV):(AV->Option R)->Option R:=match ys with | [.v (.string s),.v (.string t),.v (.string u)]=>λK=>(u6.F n s t u).bind λp=>K (.v (.string p)) | _=>λ_=>none
theorem u6.gu{R:Type}(n:Nat)(ys:List AV):dL (R:=R) Tryz.prog 144 ys (u6.via n ys):=by
 unfold u6.via;split
 ·exact dL.of (λp hp=>(u6.cZ n _ _ _ hp).cZ rfl)
 ·exact dL.none
def u6.u:fO Tryz.prog:=⟨144,λ_=>true,λn xs=>u6.via n xs,λn xs=>u6.gu n xs⟩
inductive la.Z where
 | z8 (z1 z2:Int) (z3 z4:List AV)
def la.s:la.Z->Nat × St
 | .z8 z1 z2 z3 z4=>gX 8 55 [(7,.own 0 0 none),(35,.own 1 0 none),(36,vi z1),(37,vi z2)] [.row ⟨true,5,false⟩ 1 z3,.row ⟨true,5,false⟩ 1 z4]
def la.r8(n:Nat)(c:la.Z->Option ByteArray)(z1 z2:Int)(z3 z4:List AV):Option ByteArray:=
 bif decide (z2<z1)then(bif decide ((0:Int)<=z2)&&decide (z2<((z4.length:Nat):Int))then(cM ((z4.getD ((z2).toNat) .undef).cells) λh6 r7=>
 cQ .u8 h6 λx8=>
 let y9:Int:=Int.fdiv x8 (2 ^ min (4:Int).toNat 8)
 bif decide ((0:Int)<=y9)&&decide (y9<((16:Nat):Int))then(let pJ:Int:=((((⟨#[48,49,50,51,52,53,54,55,56,57,65,66,67,68,69,70]⟩:ByteArray).data.getD ((y9).toNat) 0).toNat:Nat):Int)
 let uz:Int:=IntKind.u8.wrap (BitVec.ofInt 8 x8 &&& BitVec.ofInt 8 15).toNat
 bif decide ((0:Int)<=uz)&&decide (uz<((16:Nat):Int))then(let Fq:Int:=((((⟨#[48,49,50,51,52,53,54,55,56,57,65,66,67,68,69,70]⟩:ByteArray).data.getD ((uz).toNat) 0).toNat:Nat):Int)
 bif decide (z3.length+[vu pJ,vu Fq].length<=eR)then(c (.z8 z1 (IntKind.i64.wrap (z2+1)) (z3++[vu pJ,vu Fq]) z4))else none)else none)else none)else none)else(bif decide (z3.length+[vu 39].length<=eR)then(cR (strOf (z3++[vu 39])) λTA=>
 some (⟨TA.toArray⟩:ByteArray))else none)
def la.r(n:Nat)(c:la.Z->Option ByteArray):la.Z->Option ByteArray
 | .z8 z1 z2 z3 z4=>la.r8 n c z1 z2 z3 z4
def la.e(n:Nat)(c:la.Z->Option ByteArray)(a0 a1 a2 a3:Int)(a4:ByteArray):Option ByteArray:=
 bif a0 != 0 then((gO.F n a3 a2).bind λp1=>
 some p1.1)else((Fi.F n a4).bind λp2=>
 bif p2 then((u6.F n a4 (⟨#[39]⟩:ByteArray) (⟨#[39,39]⟩:ByteArray)).bind λp3=>
 eW (decide (1+p3.size<=9223372036854775807)) (eW (decide (((⟨#[39]⟩:ByteArray)++p3).size+1<=9223372036854775807)) (let y4:ByteArray:=((⟨#[39]⟩:ByteArray)++p3)++(⟨#[39]⟩:ByteArray)
 some y4)))else(let y5:List AV:=a4.toList.map λb=>vu b.toNat
 c (.z8 ((y5.length:Nat):Int) 0 [vu 88,vu 39] y5)))
def la.l(n:Nat):Nat->la.Z->Option ByteArray:=eg (la.r n)
def la.F(n:Nat)(a0 a1 a2 a3:Int)(a4:ByteArray):Option ByteArray:=la.e n (la.l n n) a0 a1 a2 a3 a4
theorem la.cZ(n:Nat):dt Tryz.prog 96 rC.i lP.p (MK (la.e n (la.l n n))):=pf [(8,⟨[7,35,36,37],[]⟩)] la.s (λc=>MK (la.e n c)) (la.r n) [gO.u,Fi.u,u6.u] cx lP.qi Tryz.func96
def la.u:fO Tryz.prog:=gT rC.oi la.cZ
def xS.e(n:Nat)(a0:ByteArray)(a1 a2 a3 a4 a5:Int)(a6 a7:ByteArray)(a8 a9:Int):Option ByteArray:=
 bif a1==0 then(eW (decide (7+a0.size<=9223372036854775807)) (let y1:ByteArray:=(⟨#[68,67,76,32,68,68,32]⟩:ByteArray)++a0
 eW (decide (y1.size+1<=9223372036854775807)) ((lP.F n a2 a3 a4).bind λp2=>
 eW (decide ((y1++(⟨#[32]⟩:ByteArray)).size+p2.size<=9223372036854775807)) (let y3:ByteArray:=(y1++(⟨#[32]⟩:ByteArray))++p2
 eW (decide (y3.size+6<=9223372036854775807)) (let y4:ByteArray:=y3++(⟨#[32,73,78,73,84,40]⟩:ByteArray)
 (la.F n a2 a3 a4 a5 a6).bind λp5=>
 eW (decide (y4.size+p5.size<=9223372036854775807)) (eW (decide ((y4++p5).size+1<=9223372036854775807)) (let y6:ByteArray:=(y4++p5)++(⟨#[41]⟩:ByteArray)
 some y6)))))))else(bif a1==1 then(eW (decide (7+a0.size<=9223372036854775807)) (let y7:ByteArray:=(⟨#[68,67,76,32,68,68,32]⟩:ByteArray)++a0
 eW (decide (y7.size+1<=9223372036854775807)) ((lP.F n a2 a3 a4).bind λp8=>
 eW (decide ((y7++(⟨#[32]⟩:ByteArray)).size+p8.size<=9223372036854775807)) (let y9:ByteArray:=(y7++(⟨#[32]⟩:ByteArray))++p8
 eW (decide (y9.size+5<=9223372036854775807)) (let pJ:ByteArray:=y9++(⟨#[32,68,69,70,40]⟩:ByteArray)
 eW (decide (pJ.size+a7.size<=9223372036854775807)) (eW (decide ((pJ++a7).size+1<=9223372036854775807)) (let uz:ByteArray:=(pJ++a7)++(⟨#[44]⟩:ByteArray)
 (oI.F n a8).bind λuO=>
 eW (decide (uz.size+uO.size<=9223372036854775807)) (eW (decide ((uz++uO).size+1<=9223372036854775807)) (let Kg:ByteArray:=(uz++uO)++(⟨#[41]⟩:ByteArray)
 some Kg)))))))))else(bif a1==2 then(eW (decide (7+a0.size<=9223372036854775807)) (let Fp:ByteArray:=(⟨#[68,67,76,32,68,68,32]⟩:ByteArray)++a0
 eW (decide (Fp.size+1<=9223372036854775807)) ((lP.F n a2 a3 a4).bind λGb=>
 eW (decide ((Fp++(⟨#[32]⟩:ByteArray)).size+Gb.size<=9223372036854775807)) (let Fo:ByteArray:=(Fp++(⟨#[32]⟩:ByteArray))++Gb
 eW (decide (Fo.size+5<=9223372036854775807)) (let IF:ByteArray:=Fo++(⟨#[32,66,65,83,40]⟩:ByteArray)
 eW (decide (IF.size+a7.size<=9223372036854775807)) (eW (decide ((IF++a7).size+1<=9223372036854775807)) (let Lh:ByteArray:=(IF++a7)++(⟨#[44]⟩:ByteArray)
 (oI.F n a8).bind λmM=>
 eW (decide (Lh.size+mM.size<=9223372036854775807)) (eW (decide ((Lh++mM).size+1<=9223372036854775807)) (let Qy:ByteArray:=(Lh++mM)++(⟨#[41]⟩:ByteArray)
 some Qy)))))))))else(bif a1==3 then(eW (decide (8+a0.size<=9223372036854775807)) (let Qx:ByteArray:=(⟨#[68,67,76,32,80,84,82,32]⟩:ByteArray)++a0
 some Qx))else(bif a1==4 then(eW (decide (8+a0.size<=9223372036854775807)) (let IE:ByteArray:=(⟨#[68,67,76,32,67,79,78,32]⟩:ByteArray)++a0
 eW (decide (IE.size+1<=9223372036854775807)) ((lP.F n a2 a3 a4).bind λNO=>
 eW (decide ((IE++(⟨#[32]⟩:ByteArray)).size+NO.size<=9223372036854775807)) (let Nj:ByteArray:=(IE++(⟨#[32]⟩:ByteArray))++NO
 eW (decide (Nj.size+6<=9223372036854775807)) (let Lg:ByteArray:=Nj++(⟨#[32,73,78,73,84,40]⟩:ByteArray)
 (la.F n a2 a3 a4 a5 a6).bind λLD=>
 eW (decide (Lg.size+LD.size<=9223372036854775807)) (eW (decide ((Lg++LD).size+1<=9223372036854775807)) (let Ni:ByteArray:=(Lg++LD)++(⟨#[41]⟩:ByteArray)
 some Ni)))))))else(eW (decide (10+a0.size<=9223372036854775807)) (let Lf:ByteArray:=(⟨#[68,67,76,32,76,65,66,69,76,32]⟩:ByteArray)++a0
 eW (decide (Lf.size+1<=9223372036854775807)) ((oI.F n a9).bind λKB=>
 eW (decide ((Lf++(⟨#[32]⟩:ByteArray)).size+KB.size<=9223372036854775807)) (let Qw:ByteArray:=(Lf++(⟨#[32]⟩:ByteArray))++KB
 some Qw))))))))
def xS.E(n:Nat):lr.A->Option ByteArray:=fun(a0,a1,a2,a3,a4,a5,a6,a7,a8,a9)=>xS.e n a0 a1 a2 a3 a4 a5 a6 a7 a8 a9
def xS.F(n:Nat)(a0:ByteArray)(a1 a2 a3 a4 a5:Int)(a6 a7:ByteArray)(a8 a9:Int):Option ByteArray:=xS.e n a0 a1 a2 a3 a4 a5 a6 a7 a8 a9
theorem xS.cZ(n:Nat):dt Tryz.prog 53 lr.i lP.p (xS.E n):=mA n (xS.E n) [lP.u,la.u,oI.u] cx lP.qi Tryz.func53
def xS.u:fO Tryz.prog:=gT lr.oi xS.cZ
def xY.F(n:Nat)(l:List AV)(t:ByteArray):Option (ByteArray):=bif tB l t then Option.some (CL l t)else none
theorem xY.cZ(n:Nat)(l:List AV)(t:ByteArray){p:ByteArray}(h:xY.F n l t=some p):fD Tryz.prog 56 [.sl ⟨true,9,true⟩ 1 l,.v (.string t)] (.v (.string p)):=by
 unfold xY.F at h;cases hc:(tB l t)with
 | false=>rw[hc]at h;cases h
 | true=>
  rw[hc]at h;cases h;refine fR (fn:=Tryz.f56) Tryz.func56 (by kernel_rfl) (by kernel_rfl) λw F vals hQ hF hl hr=>?_;obtain⟨u0,u1,rfl,h0,h1⟩:=vd hl hr;obtain rfl:=jC h1;exact Bt (λa c=>Tryz.strings_Join_none a c t w) (λbk o c xs h1 h2 h3 h4 h5=>Tryz.strings_Join bk o c xs t w h1 h2 h3 h4 h5) hF h0 hc
def xY.via{R:Type}(n:Nat)(ys:List AV):(AV->Option R)->Option R:=match ys with | [.sl ⟨true,9,true⟩ 1 l,.v (.string t)]=>λK=>(xY.F n l t).bind λp=>K (.v (.string p)) | _=>λ_=>none
theorem xY.gu{R:Type}(n:Nat)(ys:List AV):dL (R:=R) Tryz.prog 56 ys (xY.via n ys):=by
 unfold xY.via;split
 ·exact dL.of (λp hp=>(xY.cZ n _ _ hp).cZ rfl)
 ·exact dL.none
def xY.u:fO Tryz.prog:=⟨56,λ_=>true,λn xs=>xY.via n xs,λn xs=>xY.gu n xs⟩
abbrev uu.A:=Int × List AV
def uu.i:uu.A->List AV:=fun(a0,a1)=>[vi a0,.sl ⟨true,9,true⟩ 1 a1]
def uu.o(xs:List AV):Option uu.A:=match xs with | [.v (.int .i64 a0),.sl ⟨true,9,true⟩ 1 a1]=>some (a0,a1) | _=>none
theorem uu.oi:∀xs a,uu.o xs=some a->xs=uu.i a:=by
 intro xs a h;unfold uu.o at h;split at h
 ·cases h;rfl
 ·cases h
def uu.e(n:Nat)(a0:Int)(a1:List AV):Option ByteArray:=
 let y1:Bool:=((a1.length:Nat):Int)==0
 bif y1 then(bif decide ((0:Int)<=a0)&&decide (a0<((19:Nat):Int))then(cM (jV ((a0).toNat*1) [vs (⟨#[77,79,86,69]⟩:ByteArray),vs (⟨#[77,79,86,69,72]⟩:ByteArray),vs (⟨#[65,68,68]⟩:ByteArray),vs (⟨#[83,85,66]⟩:ByteArray),vs (⟨#[77,85,76]⟩:ByteArray),vs (⟨#[68,73,86]⟩:ByteArray),vs (⟨#[82,69,77]⟩:ByteArray),vs (⟨#[73,70,69,81]⟩:ByteArray),vs (⟨#[73,70,76,84]⟩:ByteArray),vs (⟨#[71,79,84,79]⟩:ByteArray),vs (⟨#[65,68,68,82]⟩:ByteArray),vs (⟨#[77,79,86,69,80]⟩:ByteArray),vs (⟨#[65,68,86,65,78,67,69]⟩:ByteArray),vs (⟨#[67,65,76,76]⟩:ByteArray),vs (⟨#[82,69,84,85,82,78]⟩:ByteArray),vs (⟨#[83,73,71,78,65,76]⟩:ByteArray),vs (⟨#[69,88,67,69,80,84,73,79,78]⟩:ByteArray),vs (⟨#[80,82,73,78,84]⟩:ByteArray),vs (⟨#[69,78,68]⟩:ByteArray)]) λh2 r3=>
 dm h2 λs4=>
 some s4)else none)else(bif decide ((0:Int)<=a0)&&decide (a0<((19:Nat):Int))then(cM (jV ((a0).toNat*1) [vs (⟨#[77,79,86,69]⟩:ByteArray),vs (⟨#[77,79,86,69,72]⟩:ByteArray),vs (⟨#[65,68,68]⟩:ByteArray),vs (⟨#[83,85,66]⟩:ByteArray),vs (⟨#[77,85,76]⟩:ByteArray),vs (⟨#[68,73,86]⟩:ByteArray),vs (⟨#[82,69,77]⟩:ByteArray),vs (⟨#[73,70,69,81]⟩:ByteArray),vs (⟨#[73,70,76,84]⟩:ByteArray),vs (⟨#[71,79,84,79]⟩:ByteArray),vs (⟨#[65,68,68,82]⟩:ByteArray),vs (⟨#[77,79,86,69,80]⟩:ByteArray),vs (⟨#[65,68,86,65,78,67,69]⟩:ByteArray),vs (⟨#[67,65,76,76]⟩:ByteArray),vs (⟨#[82,69,84,85,82,78]⟩:ByteArray),vs (⟨#[83,73,71,78,65,76]⟩:ByteArray),vs (⟨#[69,88,67,69,80,84,73,79,78]⟩:ByteArray),vs (⟨#[80,82,73,78,84]⟩:ByteArray),vs (⟨#[69,78,68]⟩:ByteArray)]) λh5 r6=>
 dm h5 λs7=>
 eW (decide (s7.size+1<=9223372036854775807)) ((xY.F n a1 (⟨#[44]⟩:ByteArray)).bind λp8=>
 eW (decide ((s7++(⟨#[32]⟩:ByteArray)).size+p8.size<=9223372036854775807)) (let y9:ByteArray:=(s7++(⟨#[32]⟩:ByteArray))++p8
 some y9)))else none)
def uu.F(n:Nat)(a0:Int)(a1:List AV):Option ByteArray:=uu.e n a0 a1
theorem uu.cZ(n:Nat):dt Tryz.prog 54 uu.i lP.p (kM (uu.e n)):=mA n (kM (uu.e n)) [xY.u] cx lP.qi Tryz.func54
def uu.u:fO Tryz.prog:=gT uu.oi uu.cZ
abbrev jZ.A:=Int × Int × Int × Int
def jZ.i:jZ.A->List AV:=fun(a0,a1,a2,a3)=>[AV.agg [vi a0,vi a1,vi a2,vi a3]]
def jZ.o(xs:List AV):Option jZ.A:=match xs with | [.agg [.v (.int .i64 a0),.v (.int .i64 a1),.v (.int .i64 a2),.v (.int .i64 a3)]]=>some (a0,a1,a2,a3) | _=>none
theorem jZ.oi:∀xs a,jZ.o xs=some a->xs=jZ.i a:=by
 intro xs a h;unfold jZ.o at h;split at h
 ·cases h;rfl
 ·cases h
inductive jZ.Z where
 | z3 (z1:ByteArray) (z2 z3:Int) (z4:List AV)
def jZ.s:jZ.Z->Nat × St
 | .z3 z1 z2 z3 z4=>gX 3 27 [(3,vs z1),(14,.own 0 0 none),(15,vi z2),(16,vi z3)] [.row ⟨true,3,false⟩ 1 z4]
def jZ.r3(n:Nat)(c:jZ.Z->Option ByteArray)(z1:ByteArray)(z2 z3:Int)(z4:List AV):Option ByteArray:=
 bif decide (z3<z2)then(bif decide ((0:Int)<=z3)&&decide (z3<((z4.length:Nat):Int))then(cM ((z4.getD ((z3).toNat) .undef).cells) λh1 r2=>
 cQ .i64 h1 λx3=>
 (oI.F n x3).bind λp4=>
 eW (decide (1+p4.size<=9223372036854775807)) (eW (decide (z1.size+((⟨#[32]⟩:ByteArray)++p4).size<=9223372036854775807)) (let y5:ByteArray:=z1++((⟨#[32]⟩:ByteArray)++p4)
 c (.z3 y5 z2 (IntKind.i64.wrap (z3+1)) z4))))else none)else(some z1)
def jZ.r(n:Nat)(c:jZ.Z->Option ByteArray):jZ.Z->Option ByteArray
 | .z3 z1 z2 z3 z4=>jZ.r3 n c z1 z2 z3 z4
def jZ.e(n:Nat)(c:jZ.Z->Option ByteArray)(a0 a1 a2 a3:Int):Option ByteArray:=
 c (.z3 (⟨#[77,79,78,73,84,79,82]⟩:ByteArray) (([vi a0,vi a1,vi a2,vi a3].length:Nat):Int) 0 [vi a0,vi a1,vi a2,vi a3])
def jZ.l(n:Nat):Nat->jZ.Z->Option ByteArray:=eg (jZ.r n)
def jZ.F(n:Nat)(a0 a1 a2 a3:Int):Option ByteArray:=jZ.e n (jZ.l n n) a0 a1 a2 a3
theorem jZ.cZ(n:Nat):dt Tryz.prog 55 jZ.i lP.p (Kl (jZ.e n (jZ.l n n))):=pf [(3,⟨[3,14,15,16],[]⟩)] jZ.s (λc=>Kl (jZ.e n c)) (jZ.r n) [oI.u] cx lP.qi Tryz.func55
def jZ.u:fO Tryz.prog:=gT jZ.oi jZ.cZ
inductive gC.Z where
 | z6 (z1:List AV) (z2 z3:Int) (z4 z5 z6 z7:List AV)
 | dO (z1:List AV) (z2 z3:Int) (z4 z5 z6 z7:List AV)
 | dR (z1:List AV) (z2 z3:Int) (z4:List AV) (z5 z6:Int) (z7 z8 z9 dy:List AV) (dO:Int) (z12 dN:List AV)
 | z22 (z1:List AV) (z2 z3:Int) (z4:List AV)
def gC.s:gC.Z->Nat × St
 | .z6 z1 z2 z3 z4 z5 z6 z7=>gX 6 86 [(1,.ptr 0 0),(5,.own 1 0 none),(22,.sl ⟨true,74,false⟩ 10 z1),(23,vi z2),(24,vi z3)] [.box 26 [.sl ⟨true,74,false⟩ 10 z4,.sl ⟨false,86,false⟩ 2 z5,.sl ⟨true,82,false⟩ 4 z6],.row ⟨true,9,false⟩ 1 z7]
 | .dO z1 z2 z3 z4 z5 z6 z7=>gX 11 86 [(1,.ptr 0 0),(5,.own 1 0 none),(35,.sl ⟨false,86,false⟩ 2 z1),(36,vi z2),(37,vi z3)] [.box 26 [.sl ⟨true,74,false⟩ 10 z4,.sl ⟨false,86,false⟩ 2 z5,.sl ⟨true,82,false⟩ 4 z6],.row ⟨true,9,false⟩ 1 z7]
 | .dR z1 z2 z3 z4 z5 z6 z7 z8 z9 dy dO z12 dN=>gX 15 86 [(1,.ptr 0 0),(5,.own 1 0 none),(9,.ptr 2 0),(10,.own 3 0 none),(35,.sl ⟨false,86,false⟩ 2 z1),(36,vi z2),(37,vi z3),(42,.sl ⟨true,3,false⟩ 1 z4),(43,vi z5),(44,vi z6)] [.box 26 [.sl ⟨true,74,false⟩ 10 z7,.sl ⟨false,86,false⟩ 2 z8,.sl ⟨true,82,false⟩ 4 z9],.row ⟨true,9,false⟩ 1 dy,.box 86 [vi dO,.sl ⟨true,3,false⟩ 1 z12],.row ⟨true,9,false⟩ 1 dN]
 | .z22 z1 z2 z3 z4=>gX 22 86 [(5,.own 0 0 none),(67,.sl ⟨true,82,false⟩ 4 z1),(68,vi z2),(69,vi z3)] [.row ⟨true,9,false⟩ 1 z4]
def gC.r6(n:Nat)(c:gC.Z->Option gO.T)(z1:List AV)(z2 z3:Int)(z4 z5 z6 z7:List AV):Option gO.T:=
 bif decide (z3<z2)then(bif decide ((0:Int)<=z3)&&decide (z3<((z1.length:Nat):Int))then(cM ((z1.getD ((z3).toNat) .undef).cells) λh2 r3=>
 dm h2 λs4=>
 cM r3 λh5 r6=>
 cQ .i64 h5 λx7=>
 cM r6 λh8 r9=>
 cQ .i64 h8 λLl=>
 cM r9 λHl uM=>
 cQ .i64 Hl λLk=>
 cM uM λEa rI=>
 cQ .i64 Ea λIm=>
 cM rI λBK Co=>
 cQ .i64 BK λDk=>
 cM Co λBJ wW=>
 dm BJ λPQ=>
 cM wW λBI Cm=>
 dm BI λKu=>
 cM Cm λBH DE=>
 cQ .i64 BH λIl=>
 cM DE λHk Kz=>
 cQ .i64 Hk λLj=>
 (xS.F n s4 x7 Ll Lk Im Dk PQ Ku Il Lj).bind λMM=>
 bif decide (z7.length+[vs MM].length<=eR)then(c (.z6 z1 z2 (IntKind.i64.wrap (z3+1)) z4 z5 z6 (z7++[vs MM])))else none)else none)else(c (.dO z5 ((z5.length:Nat):Int) 0 z4 z5 z6 z7))
def gC.EX(n:Nat)(c:gC.Z->Option gO.T)(z1:List AV)(z2 z3:Int)(z4 z5 z6 z7:List AV):Option gO.T:=
 bif decide (z3<z2)then(bif decide ((0:Int)<=z3)&&decide (z3<((z1.length:Nat):Int))then(cM ((z1.getD ((z3).toNat) .undef).cells) λYP WA=>
 cQ .i64 YP λVO=>
 cM WA λYN Zd=>
 gq ⟨true,3,false⟩ 1 YN λLi=>
 c (.dR z1 z2 z3 Li ((Li.length:Nat):Int) 0 z4 z5 z6 z7 VO Li []))else none)else(c (.z22 z6 ((z6.length:Nat):Int) 0 z7))
def gC.rI(n:Nat)(c:gC.Z->Option gO.T)(z1:List AV)(z2 z3:Int)(z4:List AV)(z5 z6:Int)(z7 z8 z9 dy:List AV)(dO:Int)(z12 dN:List AV):Option gO.T:=
 bif decide (z6<z5)then(bif decide ((0:Int)<=z6)&&decide (z6<((z4.length:Nat):Int))then(cM ((z4.getD ((z6).toNat) .undef).cells) λTc Wx=>
 cQ .i64 Tc λQQ=>
 bif decide ((0:Int)<=QQ)&&decide (QQ<((z7.length:Nat):Int))then(cM ((z7.getD ((QQ).toNat) .undef).cells) λYJ Zc=>
 dm YJ λTU=>
 bif decide (dN.length+[vs TU].length<=eR)then(c (.dR z1 z2 z3 z4 z5 (IntKind.i64.wrap (z6+1)) z7 z8 z9 dy dO z12 (dN++[vs TU])))else none)else none)else none)else((uu.F n dO dN).bind λT7=>
 bif decide (dy.length+[vs T7].length<=eR)then(c (.dO z1 z2 (IntKind.i64.wrap (z3+1)) z7 z8 z9 (dy++[vs T7])))else none)
def gC.ML(n:Nat)(c:gC.Z->Option gO.T)(z1:List AV)(z2 z3:Int)(z4:List AV):Option gO.T:=
 bif decide (z3<z2)then(bif decide ((0:Int)<=z3)&&decide (z3<((z1.length:Nat):Int))then(cM ((z1.getD ((z3).toNat) .undef).cells) λzF Rk=>
 cQ .i64 zF λQO=>
 cM Rk λS9 Ri=>
 cQ .i64 S9 λQM=>
 cM Ri λS7 T3=>
 cQ .i64 S7 λQL=>
 cM T3 λS5 T2=>
 cQ .i64 S5 λPI=>
 (jZ.F n QO QM QL PI).bind λT6=>
 bif decide (z4.length+[vs T6].length<=eR)then(c (.z22 z1 z2 (IntKind.i64.wrap (z3+1)) (z4++[vs T6])))else none)else none)else((xY.F n z4 (⟨#[59,10]⟩:ByteArray)).bind λT5=>
 eW (decide (T5.size+2<=9223372036854775807)) (let TF:ByteArray:=T5++(⟨#[59,10]⟩:ByteArray)
 let Vf:Bool:=decide (((TF.size:Nat):Int)>6000)
 bif Vf then(some ((⟨#[]⟩:ByteArray),2))else(some (TF,0))))
def gC.r(n:Nat)(c:gC.Z->Option gO.T):gC.Z->Option gO.T
 | .z6 z1 z2 z3 z4 z5 z6 z7=>gC.r6 n c z1 z2 z3 z4 z5 z6 z7
 | .dO z1 z2 z3 z4 z5 z6 z7=>gC.EX n c z1 z2 z3 z4 z5 z6 z7
 | .dR z1 z2 z3 z4 z5 z6 z7 z8 z9 dy dO z12 dN=>gC.rI n c z1 z2 z3 z4 z5 z6 z7 z8 z9 dy dO z12 dN
 | .z22 z1 z2 z3 z4=>gC.ML n c z1 z2 z3 z4
def gC.e(n:Nat)(c:gC.Z->Option gO.T)(a0 a1 a2:List AV):Option gO.T:=
 (Fh.F n a0 a1 a2).bind λp1=>
 bif p1 != 0 then(some ((⟨#[]⟩:ByteArray),p1))else(c (.z6 a0 ((a0.length:Nat):Int) 0 a0 a1 a2 []))
def gC.l(n:Nat):Nat->gC.Z->Option gO.T:=eg (gC.r n)
def gC.F(n:Nat)(a0 a1 a2:List AV):Option gO.T:=gC.e n (gC.l n n) a0 a1 a2
theorem gC.cZ(n:Nat):dt Tryz.prog 17 eL.i gO.p (rG (gC.e n (gC.l n n))):=pf [(6,⟨[1,5,22,23,24],[(5,none,⟨true,9,false⟩,1)]⟩),(11,⟨[1,5,35,36,37],[]⟩),(15,⟨[1,5,9,10,35,36,37,42,43,44],[(10,none,⟨true,9,false⟩,1)]⟩),(22,⟨[5,67,68,69],[]⟩)] gC.s (λc=>rG (gC.e n c)) (gC.r n) [Fh.u,xS.u,uu.u,jZ.u,xY.u] cx gO.qi Tryz.func17
def gC.u:fO Tryz.prog:=gT eL.oi gC.cZ
abbrev kl.A:=List AV × List AV
def kl.i:kl.A->List AV:=fun(a0,a1)=>[.sl ⟨true,3,false⟩ 1 a0,.sl ⟨true,3,false⟩ 1 a1]
def kl.o(xs:List AV):Option kl.A:=match xs with | [.sl ⟨true,3,false⟩ 1 a0,.sl ⟨true,3,false⟩ 1 a1]=>some (a0,a1) | _=>none
theorem kl.oi:∀xs a,kl.o xs=some a->xs=kl.i a:=by
 intro xs a h;unfold kl.o at h;split at h
 ·cases h;rfl
 ·cases h
inductive kl.Z where
 | z4 (z1 z2:List AV) (z3:Int)
def kl.s:kl.Z->Nat × St
 | .z4 z1 z2 z3=>gX 4 26 [(0,.sl ⟨true,3,false⟩ 1 z1),(1,.sl ⟨true,3,false⟩ 1 z2),(5,vi z3)] []
def kl.r4(n:Nat)(c:kl.Z->Option Bool)(z1 z2:List AV)(z3:Int):Option Bool:=
 let y2:Bool:=decide (z3<((z1.length:Nat):Int))
 bif y2 then(bif decide ((0:Int)<=z3)&&decide (z3<((z1.length:Nat):Int))then(cM ((z1.getD ((z3).toNat) .undef).cells) λh3 r4=>
 cQ .i64 h3 λx5=>
 bif decide ((0:Int)<=z3)&&decide (z3<((z2.length:Nat):Int))then(cM ((z2.getD ((z3).toNat) .undef).cells) λh6 r7=>
 cQ .i64 h6 λx8=>
 bif x5 != x8 then(some false)else(c (.z4 z1 z2 (IntKind.i64.wrap (z3+1)))))else none)else none)else(some true)
def kl.r(n:Nat)(c:kl.Z->Option Bool):kl.Z->Option Bool
 | .z4 z1 z2 z3=>kl.r4 n c z1 z2 z3
def kl.e(n:Nat)(c:kl.Z->Option Bool)(a0 a1:List AV):Option Bool:=
 let y1:Bool:=((a0.length:Nat):Int) != ((a1.length:Nat):Int)
 bif y1 then(some false)else(c (.z4 a0 a1 0))
def kl.l(n:Nat):Nat->kl.Z->Option Bool:=eg (kl.r n)
def kl.F(n:Nat)(a0 a1:List AV):Option Bool:=kl.e n (kl.l n n) a0 a1
theorem kl.cZ(n:Nat):dt Tryz.prog 28 kl.i fY.p (kM (kl.e n (kl.l n n))):=pf [(4,⟨[0,1,5],[]⟩)] kl.s (λc=>kM (kl.e n c)) (kl.r n) [] cx fY.qi Tryz.func28
def kl.u:fO Tryz.prog:=gT kl.oi kl.cZ
abbrev gj.A:=List AV × List AV × List AV × List AV × List AV × List AV
def gj.i:gj.A->List AV:=fun(a0,a1,a2,a3,a4,a5)=>[AV.agg [.sl ⟨true,74,false⟩ 10 a0,.sl ⟨false,86,false⟩ 2 a1,.sl ⟨true,82,false⟩ 4 a2],AV.agg [.sl ⟨true,74,false⟩ 10 a3,.sl ⟨false,86,false⟩ 2 a4,.sl ⟨true,82,false⟩ 4 a5]]
def gj.o(xs:List AV):Option gj.A:=match xs with | [.agg [.sl ⟨true,74,false⟩ 10 a0,.sl ⟨false,86,false⟩ 2 a1,.sl ⟨true,82,false⟩ 4 a2],.agg [.sl ⟨true,74,false⟩ 10 a3,.sl ⟨false,86,false⟩ 2 a4,.sl ⟨true,82,false⟩ 4 a5]]=>some (a0,a1,a2,a3,a4,a5) | _=>none
theorem gj.oi:∀xs a,gj.o xs=some a->xs=gj.i a:=by
 intro xs a h;unfold gj.o at h;split at h
 ·cases h;rfl
 ·cases h
inductive gj.Z where
 | z2
 | z4 (z1:Int) (z2 z3 z4 z5 z6 z7:List AV)
 | z9 (z1:Int) (z2 z3 z4 z5 z6 z7:List AV)
 | dQ (z1:Int) (z2 z3 z4 z5 z6 z7:List AV)
def gj.s:gj.Z->Nat × St
 | .z2=>gX 2 105 [] []
 | .z4 z1 z2 z3 z4 z5 z6 z7=>gX 4 105 [(2,.ptr 0 0),(3,.ptr 1 0),(5,vi z1)] [.box 26 [.sl ⟨true,74,false⟩ 10 z2,.sl ⟨false,86,false⟩ 2 z3,.sl ⟨true,82,false⟩ 4 z4],.box 26 [.sl ⟨true,74,false⟩ 10 z5,.sl ⟨false,86,false⟩ 2 z6,.sl ⟨true,82,false⟩ 4 z7]]
 | .z9 z1 z2 z3 z4 z5 z6 z7=>gX 9 105 [(2,.ptr 0 0),(3,.ptr 1 0),(6,vi z1)] [.box 26 [.sl ⟨true,74,false⟩ 10 z2,.sl ⟨false,86,false⟩ 2 z3,.sl ⟨true,82,false⟩ 4 z4],.box 26 [.sl ⟨true,74,false⟩ 10 z5,.sl ⟨false,86,false⟩ 2 z6,.sl ⟨true,82,false⟩ 4 z7]]
 | .dQ z1 z2 z3 z4 z5 z6 z7=>gX 14 105 [(2,.ptr 0 0),(3,.ptr 1 0),(7,vi z1)] [.box 26 [.sl ⟨true,74,false⟩ 10 z2,.sl ⟨false,86,false⟩ 2 z3,.sl ⟨true,82,false⟩ 4 z4],.box 26 [.sl ⟨true,74,false⟩ 10 z5,.sl ⟨false,86,false⟩ 2 z6,.sl ⟨true,82,false⟩ 4 z7]]
def gj.r2(n:Nat)(c:gj.Z->Option Bool)  : Option Bool:=
 some false
def gj.r4(n:Nat)(c:gj.Z->Option Bool)(z1:Int)(z2 z3 z4 z5 z6 z7:List AV):Option Bool:=
 let y4:Bool:=decide (z1<((z2.length:Nat):Int))
 bif y4 then(bif decide ((0:Int)<=z1)&&decide (z1<((z2.length:Nat):Int))then(cM ((z2.getD ((z1).toNat) .undef).cells) λh5 r6=>
 dm h5 λs7=>
 cM r6 λh8 r9=>
 cQ .i64 h8 λLl=>
 cM r9 λHl uM=>
 cQ .i64 Hl λLk=>
 cM uM λEa rI=>
 cQ .i64 Ea λIm=>
 cM rI λBK Co=>
 cQ .i64 BK λDk=>
 cM Co λBJ wW=>
 cQ .i64 BJ λKi=>
 cM wW λBI Cm=>
 dm BI λKu=>
 cM Cm λBH DE=>
 dm BH λQ3=>
 cM DE λHk Kz=>
 cQ .i64 Hk λLj=>
 cM Kz λJL NG=>
 cQ .i64 JL λTM=>
 bif decide ((0:Int)<=z1)&&decide (z1<((z5.length:Nat):Int))then(cM ((z5.getD ((z1).toNat) .undef).cells) λOQ Ip=>
 dm OQ λV6=>
 cM Ip λOO PU=>
 cQ .i64 OO λNs=>
 cM PU λON PT=>
 cQ .i64 ON λQP=>
 cM PT λOM PS=>
 cQ .i64 OM λNr=>
 cM PS λTa Rj=>
 cQ .i64 Ta λQN=>
 cM Rj λS8 Rh=>
 cQ .i64 S8 λVK=>
 cM Rh λS6 Rf=>
 dm S6 λQ1=>
 cM Rf λS4 Re=>
 dm S4 λV3=>
 cM Re λS3 T1=>
 cQ .i64 S3 λQK=>
 cM T1 λYB Zb=>
 cQ .i64 YB λVE=>
 let Ve:Bool:=!((s7==V6)&&((Ll==Ns)&&((Lk==QP)&&((Im==Nr)&&((Dk==QN)&&((Ki==VK)&&((Ku==Q1)&&((Q3==V3)&&((Lj==QK)&&((TM==VE)&&true))))))))))
 bif Ve then(some false)else(c (.z4 (IntKind.i64.wrap (z1+1)) z2 z3 z4 z5 z6 z7)))else none)else none)else(c (.z9 0 z2 z3 z4 z5 z6 z7))
def gj.r9(n:Nat)(c:gj.Z->Option Bool)(z1:Int)(z2 z3 z4 z5 z6 z7:List AV):Option Bool:=
 let Vd:Bool:=decide (z1<((z3.length:Nat):Int))
 bif Vd then(bif decide ((0:Int)<=z1)&&decide (z1<((z3.length:Nat):Int))then(cM ((z3.getD ((z1).toNat) .undef).cells) λSY T0=>
 cQ .i64 SY λQJ=>
 bif decide ((0:Int)<=z1)&&decide (z1<((z6.length:Nat):Int))then(cM ((z6.getD ((z1).toNat) .undef).cells) λSW TZ=>
 cQ .i64 SW λQI=>
 bif QJ != QI then(some false)else(bif decide ((0:Int)<=z1)&&decide (z1<((z3.length:Nat):Int))then(cM (((z3.getD ((z1).toNat) .undef).cells).drop 1) λSU TY=>
 gq ⟨true,3,false⟩ 1 SU λQC=>
 bif decide ((0:Int)<=z1)&&decide (z1<((z6.length:Nat):Int))then(cM (((z6.getD ((z1).toNat) .undef).cells).drop 1) λSR TW=>
 gq ⟨true,3,false⟩ 1 SR λQB=>
 (kl.F n QC QB).bind λWM=>
 bif !WM then(some false)else(c (.z9 (IntKind.i64.wrap (z1+1)) z2 z3 z4 z5 z6 z7)))else none)else none))else none)else none)else(c (.dQ 0 z2 z3 z4 z5 z6 z7))
def gj.As(n:Nat)(c:gj.Z->Option Bool)(z1:Int)(z2 z3 z4 z5 z6 z7:List AV):Option Bool:=
 let Vc:Bool:=decide (z1<((z4.length:Nat):Int))
 bif Vc then(bif decide ((0:Int)<=z1)&&decide (z1<((z4.length:Nat):Int))then(cM ((z4.getD ((z1).toNat) .undef).cells) λSQ Q9=>
 cQ .i64 SQ λVy=>
 cM Q9 λSP Q8=>
 cQ .i64 SP λVx=>
 cM Q8 λSO Q7=>
 cQ .i64 SO λQH=>
 cM Q7 λSN Wg=>
 cQ .i64 SN λTG=>
 bif decide ((0:Int)<=z1)&&decide (z1<((z7.length:Nat):Int))then(cM ((z7.getD ((z1).toNat) .undef).cells) λYt We=>
 cQ .i64 Yt λVu=>
 cM We λYs Wd=>
 cQ .i64 Ys λVs=>
 cM Wd λYq Ro=>
 cQ .i64 Yq λQW=>
 cM Ro λTm WH=>
 cQ .i64 Tm λQU=>
 let QA:Bool:=!((Vy==Vu)&&((Vx==Vs)&&((QH==QW)&&((TG==QU)&&true))))
 bif QA then(some false)else(c (.dQ (IntKind.i64.wrap (z1+1)) z2 z3 z4 z5 z6 z7)))else none)else none)else(some true)
def gj.r(n:Nat)(c:gj.Z->Option Bool):gj.Z->Option Bool
 | .z2=>gj.r2 n c
 | .z4 z1 z2 z3 z4 z5 z6 z7=>gj.r4 n c z1 z2 z3 z4 z5 z6 z7
 | .z9 z1 z2 z3 z4 z5 z6 z7=>gj.r9 n c z1 z2 z3 z4 z5 z6 z7
 | .dQ z1 z2 z3 z4 z5 z6 z7=>gj.As n c z1 z2 z3 z4 z5 z6 z7
def gj.e(n:Nat)(c:gj.Z->Option Bool)(a0 a1 a2 a3 a4 a5:List AV):Option Bool:=
 let y1:Bool:=((a0.length:Nat):Int) != ((a3.length:Nat):Int)
 bif y1 then(c .z2)else(let y2:Bool:=((a1.length:Nat):Int) != ((a4.length:Nat):Int)
 bif y2 then(c .z2)else(let y3:Bool:=((a2.length:Nat):Int) != ((a5.length:Nat):Int)
 bif y3 then(c .z2)else(c (.z4 0 a0 a1 a2 a3 a4 a5))))
def gj.E(n:Nat)(c:gj.Z->Option Bool):gj.A->Option Bool:=fun(a0,a1,a2,a3,a4,a5)=>gj.e n c a0 a1 a2 a3 a4 a5
def gj.l(n:Nat):Nat->gj.Z->Option Bool:=eg (gj.r n)
def gj.F(n:Nat)(a0 a1 a2 a3 a4 a5:List AV):Option Bool:=gj.e n (gj.l n n) a0 a1 a2 a3 a4 a5
theorem gj.cZ(n:Nat):dt Tryz.prog 22 gj.i fY.p (gj.E n (gj.l n n)):=pf [(2,⟨[],[]⟩),(4,⟨[2,3,5],[]⟩),(9,⟨[2,3,6],[]⟩),(14,⟨[2,3,7],[]⟩)] gj.s (gj.E n) (gj.r n) [kl.u] cx fY.qi Tryz.func22
def gj.u:fO Tryz.prog:=gT gj.oi gj.cZ
def nt.F(n:Nat)(s:ByteArray)(t:ByteArray):Option (ByteArray × ByteArray × Bool):=bif decide (s.size<4294967281)then Option.some ((⟨(Lib.cut s.data.toList t.data.toList).1.toArray⟩,⟨(Lib.cut s.data.toList t.data.toList).2.1.toArray⟩,(Lib.cut s.data.toList t.data.toList).2.2))else none
theorem nt.cZ(n:Nat)(s:ByteArray)(t:ByteArray){p:ByteArray × ByteArray × Bool}(h:nt.F n s t=some p):fD Tryz.prog 60 [.v (.string s),.v (.string t)] (.dU [.v (.string p.1),.v (.string p.2.1),.v (.bool p.2.2)]):=by
 unfold nt.F at h;cases hc:(decide (s.size<4294967281))with
 | false=>rw[hc]at h;cases h
 | true=>
  rw[hc]at h;cases h;refine fR (fn:=Tryz.f60) Tryz.func60 (by kernel_rfl) (by kernel_rfl) λw F vals hQ hF hl hr=>?_;obtain⟨u0,u1,rfl,h0,h1⟩:=vd hl hr;obtain rfl:=jC h0;obtain rfl:=jC h1;refine(Tryz.strings_Cut_shaped s t w (dH.opened _ hQ) (bc hc)).mono ?_;rintro e w' ⟨rfl,n,rfl⟩;exact⟨F,λ_=>none,Came.jF hF ⟨rfl,rfl,rfl,aJ _,λ_ _=>rfl⟩,#[_,_,_],rfl,rfl,.v _ rfl,.v _ rfl,.v _ rfl,trivial⟩
def nt.via{R:Type}(n:Nat)(ys:List AV):(AV->Option R)->Option R:=match ys with | [.v (.string s),.v (.string t)]=>λK=>(nt.F n s t).bind λp=>K (.dU [.v (.string p.1),.v (.string p.2.1),.v (.bool p.2.2)]) | _=>λ_=>none
theorem nt.gu{R:Type}(n:Nat)(ys:List AV):dL (R:=R) Tryz.prog 60 ys (nt.via n ys):=by
 unfold nt.via;split
 ·exact dL.of (λp hp=>(nt.cZ n _ _ hp).cZ rfl)
 ·exact dL.none
def nt.u:fO Tryz.prog:=⟨60,λ_=>true,λn xs=>nt.via n xs,λn xs=>nt.gu n xs⟩
abbrev ll.A:=ByteArray × ByteArray
def ll.i:ll.A->List AV:=fun(a0,a1)=>[vs a0,vs a1]
def ll.o(xs:List AV):Option ll.A:=match xs with | [.v (.string a0),.v (.string a1)]=>some (a0,a1) | _=>none
theorem ll.oi:∀xs a,ll.o xs=some a->xs=ll.i a:=by
 intro xs a h;unfold ll.o at h;split at h
 ·cases h;rfl
 ·cases h
def ll.e(n:Nat)(a0 a1:ByteArray):Option Bool:=
 let y1:Bool:=decide (((a0.size:Nat):Int)>=((a1.size:Nat):Int))
 bif y1 then(bif decide ((0:Int)<=((a1.size:Nat):Int))&&decide ((((a1.size:Nat):Int):Int)<=((a0.size:Nat):Int))then(let y2:ByteArray:=a0.extract 0 (((a1.size:Nat):Int)).toNat
 some (y2.toList==a1.toList))else none)else(some false)
def ll.F(n:Nat)(a0 a1:ByteArray):Option Bool:=ll.e n a0 a1
theorem ll.cZ(n:Nat):dt Tryz.prog 104 ll.i fY.p (kM (ll.e n)):=mA n (kM (ll.e n)) [] cx fY.qi Tryz.func104
def ll.u:fO Tryz.prog:=gT ll.oi ll.cZ
abbrev kO.T:=ByteArray × Bool
def kO.p(p:kO.T):AV:=.dU [vs p.1,vb p.2]
def kO.q(x:AV):Option kO.T:=match x with | .dU [.v (.string p0),.v (.bool p1)]=>some (p0,p1) | _=>none
theorem kO.qi:∀x p,kO.q x=some p->x=kO.p p:=by
 intro x p h;unfold kO.q at h;split at h
 ·cases h;rfl
 ·cases h
def kO.e(n:Nat)(a0 a1:ByteArray):Option kO.T:=
 (ll.F n a0 a1).bind λp1=>
 bif !p1 then(some (a0,false))else(bif decide ((0:Int)<=((a1.size:Nat):Int))&&decide ((((a1.size:Nat):Int):Int)<=((a0.size:Nat):Int))then(let y2:ByteArray:=a0.extract (((a1.size:Nat):Int)).toNat a0.size
 some (y2,true))else none)
def kO.F(n:Nat)(a0 a1:ByteArray):Option kO.T:=kO.e n a0 a1
theorem kO.cZ(n:Nat):dt Tryz.prog 152 ll.i kO.p (kM (kO.e n)):=mA n (kM (kO.e n)) [ll.u] cx kO.qi Tryz.func152
def kO.u:fO Tryz.prog:=gT ll.oi kO.cZ
def Fg.e(n:Nat)(a0 a1:ByteArray):Option kO.T:=
 (kO.F n a0 a1).bind λp1=>
 some (p1.1,p1.2)
def Fg.F(n:Nat)(a0 a1:ByteArray):Option kO.T:=Fg.e n a0 a1
theorem Fg.cZ(n:Nat):dt Tryz.prog 105 ll.i kO.p (kM (Fg.e n)):=mA n (kM (Fg.e n)) [kO.u] cx kO.qi Tryz.func105
def Fg.u:fO Tryz.prog:=gT ll.oi Fg.cZ
def B7.F(n:Nat)(s:ByteArray):Option (Int × Bool):=bif decide (s.size<=281474976710656)then Option.some (jm s.data.toList)else none
theorem B7.cZ(n:Nat)(s:ByteArray){p:Int × Bool}(h:B7.F n s=some p):fD Tryz.prog 157 [.v (.string s)] (.dU [.v (.int .i64 p.1),.err p.2]):=by
 unfold B7.F at h;cases hc:(decide (s.size<=281474976710656))with
 | false=>rw[hc]at h;cases h
 | true=>
  rw[hc]at h;cases h;refine fR (fn:=Tryz.f157) Tryz.func157 (by kernel_rfl) (by kernel_rfl) λw F vals hQ hF hl hr=>?_;obtain⟨u0,rfl,h0⟩:=Kj hl hr;obtain rfl:=jC h0;exact BZ Tryz.GF hF s (bc hc) (kI.at hQ.1 rfl) (kI.at hQ.1 rfl)
def B7.via{R:Type}(n:Nat)(ys:List AV):(AV->Option R)->Option R:=match ys with | [.v (.string s)]=>λK=>(B7.F n s).bind λp=>K (.dU [.v (.int .i64 p.1),.err p.2]) | _=>λ_=>none
theorem B7.gu{R:Type}(n:Nat)(ys:List AV):dL (R:=R) Tryz.prog 157 ys (B7.via n ys):=by
 unfold B7.via;split
 ·exact dL.of (λp hp=>(B7.cZ n _ hp).cZ rfl)
 ·exact dL.none
def B7.u:fO Tryz.prog:=⟨157,λ_=>true,λn xs=>B7.via n xs,λn xs=>B7.gu n xs⟩
abbrev nL.T:=Int × Bool
def nL.p(p:nL.T):AV:=.dU [vi p.1,vb p.2]
def nL.q(x:AV):Option nL.T:=match x with | .dU [.v (.int .i64 p0),.v (.bool p1)]=>some (p0,p1) | _=>none
theorem nL.qi:∀x p,nL.q x=some p->x=nL.p p:=by
 intro x p h;unfold nL.q at h;split at h
 ·cases h;rfl
 ·cases h
def nL.e(n:Nat)(a0:ByteArray):Option nL.T:=
 (B7.F n a0).bind λp1=>
 bif !p1.2 then(let y2:Bool:=decide (((a0.size:Nat):Int)<=15)
 bif y2 then((oI.F n p1.1).bind λp3=>
 bif p3.toList==a0.toList then(some (p1.1,decide (p1.1>=0)))else(some (p1.1,false)))else(some (p1.1,false)))else(some (p1.1,false))
def nL.F(n:Nat)(a0:ByteArray):Option nL.T:=nL.e n a0
theorem nL.cZ(n:Nat):dt Tryz.prog 108 fI.i nL.p (kP (nL.e n)):=mA n (kP (nL.e n)) [oI.u,B7.u] cx nL.qi Tryz.func108
def nL.u:fO Tryz.prog:=gT fI.oi nL.cZ
abbrev jN.A:=List AV × ByteArray
def jN.i:jN.A->List AV:=fun(a0,a1)=>[.sl ⟨true,9,false⟩ 1 a0,vs a1]
def jN.o(xs:List AV):Option jN.A:=match xs with | [.sl ⟨true,9,false⟩ 1 a0,.v (.string a1)]=>some (a0,a1) | _=>none
theorem jN.oi:∀xs a,jN.o xs=some a->xs=jN.i a:=by
 intro xs a h;unfold jN.o at h;split at h
 ·cases h;rfl
 ·cases h
inductive jN.Z where
 | z2 (z1:List AV) (z2:ByteArray) (z3 z4:Int)
def jN.s:jN.Z->Nat × St
 | .z2 z1 z2 z3 z4=>gX 2 19 [(0,.sl ⟨true,9,false⟩ 1 z1),(1,vs z2),(7,vi z3),(8,vi z4)] []
def jN.r2(n:Nat)(c:jN.Z->Option Int)(z1:List AV)(z2:ByteArray)(z3 z4:Int):Option Int:=
 bif decide (z4<z3)then(bif decide ((0:Int)<=z4)&&decide (z4<((z1.length:Nat):Int))then(cM ((z1.getD ((z4).toNat) .undef).cells) λh1 r2=>
 dm h1 λs3=>
 bif z2.toList==s3.toList then(some z4)else(c (.z2 z1 z2 z3 (IntKind.i64.wrap (z4+1)))))else none)else(some (-1))
def jN.r(n:Nat)(c:jN.Z->Option Int):jN.Z->Option Int
 | .z2 z1 z2 z3 z4=>jN.r2 n c z1 z2 z3 z4
def jN.e(n:Nat)(c:jN.Z->Option Int)(a0:List AV)(a1:ByteArray):Option Int:=
 c (.z2 a0 a1 ((a0.length:Nat):Int) 0)
def jN.l(n:Nat):Nat->jN.Z->Option Int:=eg (jN.r n)
def jN.F(n:Nat)(a0:List AV)(a1:ByteArray):Option Int:=jN.e n (jN.l n n) a0 a1
theorem jN.cZ(n:Nat):dt Tryz.prog 109 jN.i fx.p (kM (jN.e n (jN.l n n))):=pf [(2,⟨[0,1,7,8],[]⟩)] jN.s (λc=>kM (jN.e n c)) (jN.r n) [] cx fx.qi Tryz.func109
def jN.u:fO Tryz.prog:=gT jN.oi jN.cZ
def Ia.e(n:Nat)(a0 a1:ByteArray):Option Bool:=
 let y1:Bool:=decide (((a0.size:Nat):Int)>=((a1.size:Nat):Int))
 bif y1 then(let y2:Int:=IntKind.i64.wrap (((a0.size:Nat):Int) - ((a1.size:Nat):Int))
 bif decide ((0:Int)<=y2)&&decide ((y2:Int)<=((a0.size:Nat):Int))then(let y3:ByteArray:=a0.extract (y2).toNat a0.size
 some (y3.toList==a1.toList))else none)else(some false)
def Ia.F(n:Nat)(a0 a1:ByteArray):Option Bool:=Ia.e n a0 a1
theorem Ia.cZ(n:Nat):dt Tryz.prog 215 ll.i fY.p (kM (Ia.e n)):=mA n (kM (Ia.e n)) [] cx fY.qi Tryz.func215
def Ia.u:fO Tryz.prog:=gT ll.oi Ia.cZ
def Ib.e(n:Nat)(a0 a1:ByteArray):Option kO.T:=
 (Ia.F n a0 a1).bind λp1=>
 bif !p1 then(some (a0,false))else(let y2:Int:=IntKind.i64.wrap (((a0.size:Nat):Int) - ((a1.size:Nat):Int))
 bif decide ((0:Int)<=y2)&&decide ((y2:Int)<=((a0.size:Nat):Int))then(some (a0.extract 0 (y2).toNat,true))else none)
def Ib.F(n:Nat)(a0 a1:ByteArray):Option kO.T:=Ib.e n a0 a1
theorem Ib.cZ(n:Nat):dt Tryz.prog 184 ll.i kO.p (kM (Ib.e n)):=mA n (kM (Ib.e n)) [Ia.u] cx kO.qi Tryz.func184
def Ib.u:fO Tryz.prog:=gT ll.oi Ib.cZ
def B6.e(n:Nat)(a0 a1:ByteArray):Option kO.T:=
 (Ib.F n a0 a1).bind λp1=>
 some (p1.1,p1.2)
def B6.F(n:Nat)(a0 a1:ByteArray):Option kO.T:=B6.e n a0 a1
theorem B6.cZ(n:Nat):dt Tryz.prog 154 ll.i kO.p (kM (B6.e n)):=mA n (kM (B6.e n)) [Ib.u] cx kO.qi Tryz.func154
def B6.u:fO Tryz.prog:=gT ll.oi B6.cZ
abbrev qx.T:=Int × Int × Int × Bool
def qx.p(p:qx.T):AV:=.dU [AV.agg [vi p.1,vi p.2.1,vi p.2.2.1],vb p.2.2.2]
def qx.q(x:AV):Option qx.T:=match x with | .dU [.agg [.v (.int .i64 p0),.v (.int .i64 p1),.v (.int .i64 p2)],.v (.bool p3)]=>some (p0,p1,p2,p3) | _=>none
theorem qx.qi:∀x p,qx.q x=some p->x=qx.p p:=by
 intro x p h;unfold qx.q at h;split at h
 ·cases h;rfl
 ·cases h
def qx.e(n:Nat)(a0:ByteArray):Option qx.T:=
 (nt.F n a0 (⟨#[40]⟩:ByteArray)).bind λp1=>
 (jN.F n ql p1.1).bind λp2=>
 (B6.F n p1.2.1 (⟨#[41]⟩:ByteArray)).bind λp3=>
 bif decide (p2<0)then(some (0,0,0,false))else(bif !p3.2 then(some (0,0,0,false))else(bif p2==0 then((nL.F n p3.1).bind λp4=>
 some (p2,p4.1,0,p4.2))else((nt.F n p3.1 (⟨#[44]⟩:ByteArray)).bind λp5=>
 (nL.F n p5.1).bind λp6=>
 (nL.F n p5.2.1).bind λp7=>
 bif p6.2 then(some (p2,p6.1,p7.1,p7.2))else(some (p2,p6.1,p7.1,false)))))
def qx.F(n:Nat)(a0:ByteArray):Option qx.T:=qx.e n a0
theorem qx.cZ(n:Nat):dt Tryz.prog 153 fI.i qx.p (kP (qx.e n)):=mA n (kP (qx.e n)) [nt.u,nL.u,jN.u,B6.u] cx qx.qi Tryz.func153
def qx.u:fO Tryz.prog:=gT fI.oi qx.cZ
def Df.e(n:Nat)(a0 a1:ByteArray):Option Bool:=
 (ll.F n a0 a1).bind λp1=>
 some p1
def Df.F(n:Nat)(a0 a1:ByteArray):Option Bool:=Df.e n a0 a1
theorem Df.cZ(n:Nat):dt Tryz.prog 61 ll.i fY.p (kM (Df.e n)):=mA n (kM (Df.e n)) [ll.u] cx fY.qi Tryz.func61
def Df.u:fO Tryz.prog:=gT ll.oi Df.cZ
abbrev rf.A:=ByteArray × Int
def rf.i:rf.A->List AV:=fun(a0,a1)=>[vs a0,vi a1]
def rf.o(xs:List AV):Option rf.A:=match xs with | [.v (.string a0),.v (.int .i64 a1)]=>some (a0,a1) | _=>none
theorem rf.oi:∀xs a,rf.o xs=some a->xs=rf.i a:=by
 intro xs a h;unfold rf.o at h;split at h
 ·cases h;rfl
 ·cases h
def rf.e(n:Nat)(a0:ByteArray)(a1:Int):Option Bool:=
 let y1:Bool:=decide (a1<((a0.size:Nat):Int))
 bif y1 then(bif decide ((0:Int)<=a1)&&decide (a1<((a0.size:Nat):Int))then(let y2:Int:=(((a0.data.getD ((a1).toNat) 0).toNat:Nat):Int)
 bif decide ((48:Int)<=y2)then(bif decide ((0:Int)<=a1)&&decide (a1<((a0.size:Nat):Int))then(let y3:Int:=(((a0.data.getD ((a1).toNat) 0).toNat:Nat):Int)
 some (decide (y3<=57)))else none)else(some false))else none)else(some false)
def rf.F(n:Nat)(a0:ByteArray)(a1:Int):Option Bool:=rf.e n a0 a1
theorem rf.cZ(n:Nat):dt Tryz.prog 251 rf.i fY.p (kM (rf.e n)):=mA n (kM (rf.e n)) [] cx fY.qi Tryz.func251
def rf.u:fO Tryz.prog:=gT rf.oi rf.cZ
inductive lu.Z where
 | z5 (z1:ByteArray) (z2:Int)
def lu.s:lu.Z->Nat × St
 | .z5 z1 z2=>gX 5 22 [(0,vs z1),(1,vi z2)] []
def lu.r5(n:Nat)(c:lu.Z->Option (Int × Int))(z1:ByteArray)(z2:Int):Option (Int × Int):=
 (rf.F n z1 z2).bind λp3=>
 bif p3 then(c (.z5 z1 (IntKind.i64.wrap (z2+1))))else(some (z2,0))
def lu.r(n:Nat)(c:lu.Z->Option (Int × Int)):lu.Z->Option (Int × Int)
 | .z5 z1 z2=>lu.r5 n c z1 z2
def lu.e(n:Nat)(c:lu.Z->Option (Int × Int))(a0:ByteArray)(a1:Int):Option (Int × Int):=
 (rf.F n a0 a1).bind λp1=>
 bif !p1 then(let y2:Bool:=decide (a1<((a0.size:Nat):Int))
 bif y2 then(some (a1,8))else(some (a1,9)))else(c (.z5 a0 a1))
def lu.l(n:Nat):Nat->lu.Z->Option (Int × Int):=eg (lu.r n)
def lu.F(n:Nat)(a0:ByteArray)(a1:Int):Option (Int × Int):=lu.e n (lu.l n n) a0 a1
theorem lu.cZ(n:Nat):dt Tryz.prog 240 rf.i rB.p (kM (lu.e n (lu.l n n))):=pf [(5,⟨[0,1],[]⟩)] lu.s (λc=>kM (lu.e n c)) (lu.r n) [rf.u] cx rB.qi Tryz.func240
def lu.u:fO Tryz.prog:=gT rf.oi lu.cZ
abbrev gW.T:=Int × Int × Int
def gW.p(p:gW.T):AV:=.dU [vi p.1,vi p.2.1,vi p.2.2]
def gW.q(x:AV):Option gW.T:=match x with | .dU [.v (.int .i64 p0),.v (.int .i64 p1),.v (.int .i64 p2)]=>some (p0,p1,p2) | _=>none
theorem gW.qi:∀x p,gW.q x=some p->x=gW.p p:=by
 intro x p h;unfold gW.q at h;split at h
 ·cases h;rfl
 ·cases h
inductive gW.Z where
 | z8 (z1:ByteArray) (z2 z3:Int)
 | dR (z1 z2 z3 z4:Int)
def gW.s:gW.Z->Nat × St
 | .z8 z1 z2 z3=>gX 8 63 [(0,vs z1),(2,vi z2),(3,vi z3)] []
 | .dR z1 z2 z3 z4=>gX 15 63 [(2,vi z1),(3,vi z2),(4,vi z3),(5,vi z4)] []
def gW.r8(n:Nat)(c:gW.Z->Option gW.T)(z1:ByteArray)(z2 z3:Int):Option gW.T:=
 let pJ:Bool:=z3==((z1.size:Nat):Int)
 bif pJ then(some (z2,z3,0))else(bif decide ((0:Int)<=z3)&&decide (z3<((z1.size:Nat):Int))then(let uz:Int:=(((z1.data.getD ((z3).toNat) 0).toNat:Nat):Int)
 bif uz != 46 then(some (0,z3,8))else((lu.F n z1 (IntKind.i64.wrap (z3+1))).bind λuO=>
 bif uO.2==0 then(let Kg:Bool:=decide (uO.1<((z1.size:Nat):Int))
 bif Kg then(c (.dR z2 z3 8 uO.1))else(c (.dR z2 z3 uO.2 uO.1)))else(c (.dR z2 z3 uO.2 uO.1))))else none)
def gW.rI(n:Nat)(c:gW.Z->Option gW.T)(z1 z2 z3 z4:Int):Option gW.T:=
 bif z3 != 0 then(some (0,z4,z3))else(some (z1,z2,0))
def gW.r(n:Nat)(c:gW.Z->Option gW.T):gW.Z->Option gW.T
 | .z8 z1 z2 z3=>gW.r8 n c z1 z2 z3
 | .dR z1 z2 z3 z4=>gW.rI n c z1 z2 z3 z4
def gW.e(n:Nat)(c:gW.Z->Option gW.T)(a0:ByteArray):Option gW.T:=
 bif decide ((0:Int)<(a0.size:Nat))then(let y1:Int:=(((a0.data.getD 0 0).toNat:Nat):Int)
 bif y1==45 then((lu.F n a0 1).bind λp2=>
 bif p2.2 != 0 then(some (0,p2.1,p2.2))else(bif decide ((1:Int)<(a0.size:Nat))then(let y3:Int:=(((a0.data.getD 1 0).toNat:Nat):Int)
 bif y3==48 then(let y4:Int:=IntKind.i64.wrap ((1:Int)+1)
 bif decide (p2.1>y4)then(let y5:Int:=IntKind.i64.wrap ((1:Int)+1)
 some (0,y5,8))else(c (.z8 a0 1 p2.1)))else(c (.z8 a0 1 p2.1)))else none))else((lu.F n a0 0).bind λp6=>
 bif p6.2 != 0 then(some (0,p6.1,p6.2))else(bif decide ((0:Int)<(a0.size:Nat))then(let y7:Int:=(((a0.data.getD 0 0).toNat:Nat):Int)
 bif y7==48 then(let y8:Int:=IntKind.i64.wrap ((0:Int)+1)
 bif decide (p6.1>y8)then(let y9:Int:=IntKind.i64.wrap ((0:Int)+1)
 some (0,y9,8))else(c (.z8 a0 0 p6.1)))else(c (.z8 a0 0 p6.1)))else none)))else none
def gW.l(n:Nat):Nat->gW.Z->Option gW.T:=eg (gW.r n)
def gW.F(n:Nat)(a0:ByteArray):Option gW.T:=gW.e n (gW.l n n) a0
theorem gW.cZ(n:Nat):dt Tryz.prog 216 fI.i gW.p (kP (gW.e n (gW.l n n))):=pf [(8,⟨[0,2,3],[]⟩),(15,⟨[2,3,4,5],[]⟩)] gW.s (λc=>kP (gW.e n c)) (gW.r n) [lu.u] cx gW.qi Tryz.func216
def gW.u:fO Tryz.prog:=gT fI.oi gW.cZ
def B5.F(n:Nat)(s:ByteArray)(t:ByteArray):Option (ByteArray):=bif Nat.beq t.data.toList.length 1&&decide ((t.data.toList.headD 0).toNat<128)then Option.some (⟨(Lib.trimLeftB s.data.toList (t.data.toList.headD 0)).toArray⟩)else none
theorem B5.cZ(n:Nat)(s:ByteArray)(t:ByteArray){p:ByteArray}(h:B5.F n s t=some p):fD Tryz.prog 217 [.v (.string s),.v (.string t)] (.v (.string p)):=by
 unfold B5.F at h;cases hc:(Nat.beq t.data.toList.length 1&&decide ((t.data.toList.headD 0).toNat<128))with
 | false=>rw[hc]at h;cases h
 | true=>
  rw[hc]at h;cases h;refine fR (fn:=Tryz.f217) Tryz.func217 (by kernel_rfl) (by kernel_rfl) λw F vals hQ hF hl hr=>?_;obtain⟨u0,u1,rfl,h0,h1⟩:=vd hl hr;obtain rfl:=jC h0;obtain rfl:=jC h1;rw[ae]at hc;have ht:=one_byte (aj hc.1);have:=Tryz.strings_TrimLeft_one s (t.data.toList.headD 0) (bc hc.2) w;rw[<-ht]at this;refine this.mono ?_;rintro e w' ⟨rfl,rfl⟩;exact⟨F,λ_=>none,Came.same hF,.v _ rfl⟩
def B5.via{R:Type}(n:Nat)(ys:List AV):(AV->Option R)->Option R:=match ys with | [.v (.string s),.v (.string t)]=>λK=>(B5.F n s t).bind λp=>K (.v (.string p)) | _=>λ_=>none
theorem B5.gu{R:Type}(n:Nat)(ys:List AV):dL (R:=R) Tryz.prog 217 ys (B5.via n ys):=by
 unfold B5.via;split
 ·exact dL.of (λp hp=>(B5.cZ n _ _ hp).cZ rfl)
 ·exact dL.none
def B5.u:fO Tryz.prog:=⟨217,λ_=>true,λn xs=>B5.via n xs,λn xs=>B5.gu n xs⟩
abbrev ji.T:=Int × Int × Int × Int
def ji.p(p:ji.T):AV:=.dU [AV.agg [vi p.1,vi p.2.1],vi p.2.2.1,vi p.2.2.2]
def ji.q(x:AV):Option ji.T:=match x with | .dU [.agg [.v (.int .i64 p0),.v (.int .i64 p1)],.v (.int .i64 p2),.v (.int .i64 p3)]=>some (p0,p1,p2,p3) | _=>none
theorem ji.qi:∀x p,ji.q x=some p->x=ji.p p:=by
 intro x p h;unfold ji.q at h;split at h
 ·cases h;rfl
 ·cases h
inductive ji.Z where
 | dN (z1:ByteArray) (z2:Int) (z3:ByteArray) (z4 z5 z6 z7 z8:Int) (z9:List AV)
def ji.s:ji.Z->Nat × St
 | .dN z1 z2 z3 z4 z5 z6 z7 z8 z9=>gX 13 80 [(0,vs z1),(2,.ptr 0 0),(6,vi z2),(10,vs z3),(13,vi z4),(57,.own 1 0 none),(58,vi z5),(59,vi z6)] [.box 183 [vi z7,vi z8],.row ⟨true,5,false⟩ 1 z9]
def ji.Cp(n:Nat)(c:ji.Z->Option ji.T)(z1:ByteArray)(z2:Int)(z3:ByteArray)(z4 z5 z6 z7 z8:Int)(z9:List AV):Option ji.T:=
 bif decide (z6<z5)then(bif decide ((0:Int)<=z6)&&decide (z6<((z9.length:Nat):Int))then(cM ((z9.getD ((z6).toNat) .undef).cells) λOW Cp=>
 cQ .u8 OW λVS=>
 let MI:Int:=IntKind.i64.wrap (IntKind.u8.wrap (VS - 48))
 let Fo:Int:=IntKind.i64.wrap ((IntKind.i64.wrap (z4*10))+MI)
 c (.dN z1 z2 z3 Fo z5 (IntKind.i64.wrap (z6+1)) z7 z8 z9))else none)else(bif z2==1 then(some (IntKind.i64.wrap (0 - z4),((z3.size:Nat):Int),((z1.size:Nat):Int),0))else(some (z4,((z3.size:Nat):Int),((z1.size:Nat):Int),0)))
def ji.r(n:Nat)(c:ji.Z->Option ji.T):ji.Z->Option ji.T
 | .dN z1 z2 z3 z4 z5 z6 z7 z8 z9=>ji.Cp n c z1 z2 z3 z4 z5 z6 z7 z8 z9
def ji.e(n:Nat)(c:ji.Z->Option ji.T)(a0:ByteArray):Option ji.T:=
 let y1:Bool:=decide (((a0.size:Nat):Int)>40)
 (sb.F n y1 2).bind λp2=>
 let y3:Bool:=a0.toList==(⟨#[]⟩:ByteArray).toList
 (sb.F n y3 1).bind λp4=>
 (ln.F n [vi p2,vi p4]).bind λp5=>
 bif p5 != 0 then(some (0,0,0,p5))else((gW.F n a0).bind λp6=>
 bif p6.2.2 != 0 then(some (0,0,p6.2.1,p6.2.2))else(bif decide ((0:Int)<=p6.1)&&decide ((p6.1:Int)<=((a0.size:Nat):Int))then(let y7:ByteArray:=a0.extract (p6.1).toNat a0.size
 (nt.F n y7 (⟨#[46]⟩:ByteArray)).bind λp8=>
 (B5.F n p8.1 (⟨#[48]⟩:ByteArray)).bind λp9=>
 eW (decide (p9.size+p8.2.1.size<=9223372036854775807)) (let pJ:Bool:=decide ((((p9++p8.2.1).size:Nat):Int)>15)
 bif pJ then(some (0,0,0,19))else(let uz:List AV:=(p9++p8.2.1).toList.map λb=>vu b.toNat
 c (.dN a0 p6.1 p8.2.1 0 ((uz.length:Nat):Int) 0 0 0 uz))))else none))
def ji.l(n:Nat):Nat->ji.Z->Option ji.T:=eg (ji.r n)
def ji.F(n:Nat)(a0:ByteArray):Option ji.T:=ji.e n (ji.l n n) a0
theorem ji.cZ(n:Nat):dt Tryz.prog 185 fI.i ji.p (kP (ji.e n (ji.l n n))):=pf [(13,⟨[0,2,6,10,13,57,58,59],[]⟩)] ji.s (λc=>kP (ji.e n c)) (ji.r n) [nt.u,ln.u,sb.u,gW.u,B5.u] cx ji.qi Tryz.func185
def ji.u:fO Tryz.prog:=gT fI.oi ji.cZ
def H_.e(n:Nat)(a0 a1:ByteArray):Option ByteArray:=
 (ll.F n a0 a1).bind λp1=>
 bif p1 then(bif decide ((0:Int)<=((a1.size:Nat):Int))&&decide ((((a1.size:Nat):Int):Int)<=((a0.size:Nat):Int))then(let y2:ByteArray:=a0.extract (((a1.size:Nat):Int)).toNat a0.size
 some y2)else none)else(some a0)
def H_.F(n:Nat)(a0 a1:ByteArray):Option ByteArray:=H_.e n a0 a1
theorem H_.cZ(n:Nat):dt Tryz.prog 218 ll.i lP.p (kM (H_.e n)):=mA n (kM (H_.e n)) [ll.u] cx lP.qi Tryz.func218
def H_.u:fO Tryz.prog:=gT ll.oi H_.cZ
def Ff.e(n:Nat)(a0 a1:ByteArray):Option ByteArray:=
 (H_.F n a0 a1).bind λp1=>
 some p1
def Ff.F(n:Nat)(a0 a1:ByteArray):Option ByteArray:=Ff.e n a0 a1
theorem Ff.cZ(n:Nat):dt Tryz.prog 186 ll.i lP.p (kM (Ff.e n)):=mA n (kM (Ff.e n)) [H_.u] cx lP.qi Tryz.func186
def Ff.u:fO Tryz.prog:=gT ll.oi Ff.cZ
def Aq.F(n:Nat)(s:ByteArray)(c:Int):Option (Int):=bif true then Option.some (Lib.indexByte s.data.toList c.toNat.toUInt8)else none
theorem Aq.cZ(n:Nat)(s:ByteArray)(c:Int){p:Int}(h:Aq.F n s c=some p):fD Tryz.prog 219 [.v (.string s),.v (.int .u8 c)] (.v (.int .i64 p)):=by
 unfold Aq.F at h;cases hc:(true)with
 | false=>rw[hc]at h;cases h
 | true=>
  rw[hc]at h;cases h;refine fR (fn:=Tryz.f219) Tryz.func219 (by kernel_rfl) (by kernel_rfl) λw F vals hQ hF hl hr=>?_;obtain⟨u0,u1,rfl,h0,h1⟩:=vd hl hr;obtain rfl:=jC h0;obtain rfl:=jC h1;refine(Tryz.strings_IndexByte s c w).mono ?_;rintro e w' ⟨rfl,rfl⟩;exact⟨F,λ_=>none,Came.same hF,.v _ rfl⟩
def Aq.via{R:Type}(n:Nat)(ys:List AV):(AV->Option R)->Option R:=match ys with | [.v (.string s),.v (.int .u8 c)]=>λK=>(Aq.F n s c).bind λp=>K (.v (.int .i64 p)) | _=>λ_=>none
theorem Aq.gu{R:Type}(n:Nat)(ys:List AV):dL (R:=R) Tryz.prog 219 ys (Aq.via n ys):=by
 unfold Aq.via;split
 ·exact dL.of (λp hp=>(Aq.cZ n _ _ hp).cZ rfl)
 ·exact dL.none
def Aq.u:fO Tryz.prog:=⟨219,λ_=>true,λn xs=>Aq.via n xs,λn xs=>Aq.gu n xs⟩
inductive mr.Z where
 | z2 (z1:ByteArray) (z2:List AV)
def mr.s:mr.Z->Nat × St
 | .z2 z1 z2=>gX 2 36 [(0,vs z1),(4,.own 0 0 none)] [.row ⟨true,5,false⟩ 1 z2]
def mr.r2(n:Nat)(c:mr.Z->Option kO.T)(z1:ByteArray)(z2:List AV):Option kO.T:=
 let y1:Bool:=decide (((z1.size:Nat):Int)>=2)
 bif y1 then(bif decide ((0:Int)<(z1.size:Nat))then(let y2:Int:=(((z1.data.getD 0 0).toNat:Nat):Int)
 (Aq.F n (⟨#[48,49,50,51,52,53,54,55,56,57,65,66,67,68,69,70]⟩:ByteArray) y2).bind λp3=>
 bif decide ((1:Int)<(z1.size:Nat))then(let y4:Int:=(((z1.data.getD 1 0).toNat:Nat):Int)
 (Aq.F n (⟨#[48,49,50,51,52,53,54,55,56,57,65,66,67,68,69,70]⟩:ByteArray) y4).bind λp5=>
 bif decide (p3<0)then(some ((⟨#[]⟩:ByteArray),false))else(bif decide (p5<0)then(some ((⟨#[]⟩:ByteArray),false))else(let y6:Int:=IntKind.i64.wrap (p3*2 ^ min (4:Int).toNat 64)
 let y7:Int:=IntKind.i64.wrap (BitVec.ofInt 64 y6 ||| BitVec.ofInt 64 p5).toNat
 bif decide (z2.length+[vu (IntKind.u8.wrap y7)].length<=eR)then(let y8:List AV:=z2++[vu (IntKind.u8.wrap y7)]
 bif decide ((0:Int)<=2)&&decide ((2:Int)<=((z1.size:Nat):Int))then(c (.z2 (z1.extract 2 z1.size) y8))else none)else none)))else none)else none)else(cR (strOf z2) λY2=>
 let pJ:Bool:=z1.toList==(⟨#[]⟩:ByteArray).toList
 some ((⟨Y2.toArray⟩:ByteArray),pJ))
def mr.r(n:Nat)(c:mr.Z->Option kO.T):mr.Z->Option kO.T
 | .z2 z1 z2=>mr.r2 n c z1 z2
def mr.e(n:Nat)(c:mr.Z->Option kO.T)(a0:ByteArray):Option kO.T:=
 c (.z2 a0 [])
def mr.l(n:Nat):Nat->mr.Z->Option kO.T:=eg (mr.r n)
def mr.F(n:Nat)(a0:ByteArray):Option kO.T:=mr.e n (mr.l n n) a0
theorem mr.cZ(n:Nat):dt Tryz.prog 187 fI.i kO.p (kP (mr.e n (mr.l n n))):=pf [(2,⟨[0,4],[(4,none,⟨true,5,false⟩,1)]⟩)] mr.s (λc=>kP (mr.e n c)) (mr.r n) [Aq.u] cx kO.qi Tryz.func187
def mr.u:fO Tryz.prog:=gT fI.oi mr.cZ
abbrev iC.A:=Int × Int × Int × ByteArray
abbrev iC.T:=Int × ByteArray × Bool
def iC.i:iC.A->List AV:=fun(a0,a1,a2,a3)=>[AV.agg [vi a0,vi a1,vi a2],vs a3]
def iC.o(xs:List AV):Option iC.A:=match xs with | [.agg [.v (.int .i64 a0),.v (.int .i64 a1),.v (.int .i64 a2)],.v (.string a3)]=>some (a0,a1,a2,a3) | _=>none
theorem iC.oi:∀xs a,iC.o xs=some a->xs=iC.i a:=by
 intro xs a h;unfold iC.o at h;split at h
 ·cases h;rfl
 ·cases h
def iC.p(p:iC.T):AV:=.dU [AV.agg [vi p.1,vs p.2.1],vb p.2.2]
def iC.q(x:AV):Option iC.T:=match x with | .dU [.agg [.v (.int .i64 p0),.v (.string p1)],.v (.bool p2)]=>some (p0,p1,p2) | _=>none
theorem iC.qi:∀x p,iC.q x=some p->x=iC.p p:=by
 intro x p h;unfold iC.q at h;split at h
 ·cases h;rfl
 ·cases h
inductive iC.Z where
 | z7 (z1:Int) (z2:ByteArray)
def iC.s:iC.Z->Nat × St
 | .z7 z1 z2=>gX 7 71 [(4,.ptr 0 0)] [.box 72 [vi z1,vs z2]]
def iC.r7(n:Nat)(c:iC.Z->Option iC.T)(z1:Int)(z2:ByteArray):Option iC.T:=
 some (0,(⟨#[]⟩:ByteArray),false)
def iC.r(n:Nat)(c:iC.Z->Option iC.T):iC.Z->Option iC.T
 | .z7 z1 z2=>iC.r7 n c z1 z2
def iC.e(n:Nat)(c:iC.Z->Option iC.T)(a0 a1 a2:Int)(a3:ByteArray):Option iC.T:=
 bif a0 != 0 then((ji.F n a3).bind λp1=>
 bif p1.2.2.2==0 then(some (p1.1,(⟨#[]⟩:ByteArray),p1.2.1==a2))else(some (p1.1,(⟨#[]⟩:ByteArray),false)))else((Df.F n a3 (⟨#[88]⟩:ByteArray)).bind λp2=>
 (Ff.F n a3 (⟨#[88]⟩:ByteArray)).bind λp3=>
 let y4:Bool:=decide (((p3.size:Nat):Int)<2)
 bif y4 then(c (.z7 0 (⟨#[]⟩:ByteArray)))else(bif decide ((0:Int)<(p3.size:Nat))then(let y5:Int:=(((p3.data.getD 0 0).toNat:Nat):Int)
 bif y5 != 39 then(c (.z7 0 (⟨#[]⟩:ByteArray)))else(let y6:Int:=IntKind.i64.wrap (((p3.size:Nat):Int) - 1)
 bif decide ((0:Int)<=y6)&&decide (y6<((p3.size:Nat):Int))then(let y7:Int:=(((p3.data.getD ((y6).toNat) 0).toNat:Nat):Int)
 bif y7 != 39 then(c (.z7 0 (⟨#[]⟩:ByteArray)))else(let y8:Int:=IntKind.i64.wrap (((p3.size:Nat):Int) - 1)
 bif decide ((0:Int)<=y8)&&decide ((y8:Int)<=((p3.size:Nat):Int))then(bif decide ((0:Int)<=1)&&decide ((1:Int)<=y8)then(bif p2 then((mr.F n (p3.extract 1 (y8).toNat)).bind λp9=>
 some (0,p9.1,p9.2))else((u6.F n (p3.extract 1 (y8).toNat) (⟨#[39,39]⟩:ByteArray) (⟨#[39]⟩:ByteArray)).bind λoG=>
 some (0,oG,true)))else none)else none))else none))else none))
def iC.l(n:Nat):Nat->iC.Z->Option iC.T:=eg (iC.r n)
def iC.F(n:Nat)(a0 a1 a2:Int)(a3:ByteArray):Option iC.T:=iC.e n (iC.l n n) a0 a1 a2 a3
theorem iC.cZ(n:Nat):dt Tryz.prog 155 iC.i iC.p (Kl (iC.e n (iC.l n n))):=pf [(7,⟨[4],[]⟩)] iC.s (λc=>Kl (iC.e n c)) (iC.r n) [Df.u,u6.u,ji.u,Ff.u,mr.u] cx iC.qi Tryz.func155
def iC.u:fO Tryz.prog:=gT iC.oi iC.cZ
abbrev f_.T:=ByteArray × Int × Int × Int × Int × Int × ByteArray × ByteArray × Int × Int × Bool
def f_.p(p:f_.T):AV:=.dU [AV.agg [vs p.1,vi p.2.1,vi p.2.2.1,vi p.2.2.2.1,vi p.2.2.2.2.1,vi p.2.2.2.2.2.1,vs p.2.2.2.2.2.2.1,vs p.2.2.2.2.2.2.2.1,vi p.2.2.2.2.2.2.2.2.1,vi p.2.2.2.2.2.2.2.2.2.1],vb p.2.2.2.2.2.2.2.2.2.2]
def f_.q(x:AV):Option f_.T:=match x with | .dU [.agg [.v (.string p0),.v (.int .i64 p1),.v (.int .i64 p2),.v (.int .i64 p3),.v (.int .i64 p4),.v (.int .i64 p5),.v (.string p6),.v (.string p7),.v (.int .i64 p8),.v (.int .i64 p9)],.v (.bool oG)]=>some (p0,p1,p2,p3,p4,p5,p6,p7,p8,p9,oG) | _=>none
theorem f_.qi:∀x p,f_.q x=some p->x=f_.p p:=by
 intro x p h;unfold f_.q at h;split at h
 ·cases h;rfl
 ·cases h
inductive f_.Z where
 | z22 (z1:ByteArray) (z2 z3 z4 z5 z6:Int) (z7 z8:ByteArray) (z9 dy:Int) (dO:ByteArray) (z12 dN dQ dR dV:Int) (ef ee:ByteArray) (eD z20:Int)
 | z26 (z1 z2:ByteArray) (z3 z4 z5 z6 z7:Int) (z8 z9:ByteArray) (dy dO:Int) (z12:ByteArray) (dN dQ dR dV ef:Int) (ee eD:ByteArray) (z20 z21 z22 z23 z24:Int)
 | Fm (z1:ByteArray) (z2:Bool) (z3 z4:ByteArray) (z5 z6 z7 z8 z9:Int) (dy dO:ByteArray) (z12 dN:Int) (dQ:ByteArray) (dR dV ef ee eD:Int) (z20 z21:ByteArray) (z22 z23:Int)
def f_.s:f_.Z->Nat × St
 | .z22 z1 z2 z3 z4 z5 z6 z7 z8 z9 dy dO z12 dN dQ dR dV ef ee eD z20=>gX 22 139 [(2,.ptr 0 0),(9,.ptr 1 0)] [.box 74 [vs z1,vi z2,vi z3,vi z4,vi z5,vi z6,vs z7,vs z8,vi z9,vi dy],.box 74 [vs dO,vi z12,vi dN,vi dQ,vi dR,vi dV,vs ef,vs ee,vi eD,vi z20]]
 | .z26 z1 z2 z3 z4 z5 z6 z7 z8 z9 dy dO z12 dN dQ dR dV ef ee eD z20 z21 z22 z23 z24=>gX 26 139 [(2,.ptr 0 0),(9,.ptr 1 0),(13,.ptr 2 0),(16,vs z1)] [.box 74 [vs z2,vi z3,vi z4,vi z5,vi z6,vi z7,vs z8,vs z9,vi dy,vi dO],.box 74 [vs z12,vi dN,vi dQ,vi dR,vi dV,vi ef,vs ee,vs eD,vi z20,vi z21],.box 70 [vi z22,vi z23,vi z24]]
 | .Fm z1 z2 z3 z4 z5 z6 z7 z8 z9 dy dO z12 dN dQ dR dV ef ee eD z20 z21 z22 z23=>gX 36 139 [(2,.ptr 0 0),(4,vs z1),(9,.ptr 1 0),(14,vb z2),(19,vs z3)] [.box 74 [vs z4,vi z5,vi z6,vi z7,vi z8,vi z9,vs dy,vs dO,vi z12,vi dN],.box 74 [vs dQ,vi dR,vi dV,vi ef,vi ee,vi eD,vs z20,vs z21,vi z22,vi z23]]
def f_.ML(n:Nat)(c:f_.Z->Option f_.T)(z1:ByteArray)(z2 z3 z4 z5 z6:Int)(z7 z8:ByteArray)(z9 dy:Int)(dO:ByteArray)(z12 dN dQ dR dV:Int)(ef ee:ByteArray)(eD z20:Int):Option f_.T:=
 some (dO,z12,dN,dQ,dR,dV,ef,ee,eD,z20,false)
def f_.EW(n:Nat)(c:f_.Z->Option f_.T)(z1 z2:ByteArray)(z3 z4 z5 z6 z7:Int)(z8 z9:ByteArray)(dy dO:Int)(z12:ByteArray)(dN dQ dR dV ef:Int)(ee eD:ByteArray)(z20 z21 z22 z23 z24:Int):Option f_.T:=
 (iC.F n z22 z23 z24 z1).bind λRB=>
 some (z12,dN,dQ,dR,dV,RB.1,RB.2.1,eD,z20,z21,RB.2.2)
def f_.Ip(n:Nat)(c:f_.Z->Option f_.T)(z1:ByteArray)(z2:Bool)(z3 z4:ByteArray)(z5 z6 z7 z8 z9:Int)(dy dO:ByteArray)(z12 dN:Int)(dQ:ByteArray)(dR dV ef ee eD:Int)(z20 z21:ByteArray)(z22 z23:Int):Option f_.T:=
 bif z2 then(let Vm:Bool:=z1.toList==(⟨#[68,68]⟩:ByteArray).toList
 bif Vm then(bif dR != 0 then((fI.F n z3).bind λWY=>
 some (dQ,dR,dV,ef,ee,eD,z20,z21,z22,z23,WY))else(some (dQ,dR,dV,ef,ee,eD,z20,z21,z22,z23,false)))else(some (dQ,dR,dV,ef,ee,eD,z20,z21,z22,z23,false)))else(some (dQ,dR,dV,ef,ee,eD,z20,z21,z22,z23,false))
def f_.r(n:Nat)(c:f_.Z->Option f_.T):f_.Z->Option f_.T
 | .z22 z1 z2 z3 z4 z5 z6 z7 z8 z9 dy dO z12 dN dQ dR dV ef ee eD z20=>f_.ML n c z1 z2 z3 z4 z5 z6 z7 z8 z9 dy dO z12 dN dQ dR dV ef ee eD z20
 | .z26 z1 z2 z3 z4 z5 z6 z7 z8 z9 dy dO z12 dN dQ dR dV ef ee eD z20 z21 z22 z23 z24=>f_.EW n c z1 z2 z3 z4 z5 z6 z7 z8 z9 dy dO z12 dN dQ dR dV ef ee eD z20 z21 z22 z23 z24
 | .Fm z1 z2 z3 z4 z5 z6 z7 z8 z9 dy dO z12 dN dQ dR dV ef ee eD z20 z21 z22 z23=>f_.Ip n c z1 z2 z3 z4 z5 z6 z7 z8 z9 dy dO z12 dN dQ dR dV ef ee eD z20 z21 z22 z23
def f_.e(n:Nat)(c:f_.Z->Option f_.T)(a0:ByteArray):Option f_.T:=
 (nt.F n a0 (⟨#[32]⟩:ByteArray)).bind λp1=>
 (nt.F n p1.2.1 (⟨#[32]⟩:ByteArray)).bind λp2=>
 let y3:Bool:=p1.1.toList==(⟨#[80,84,82]⟩:ByteArray).toList
 bif y3 then(some (p2.1,3,0,0,0,0,(⟨#[]⟩:ByteArray),(⟨#[]⟩:ByteArray),0,0,!p2.2.2))else(let y4:Bool:=p1.1.toList==(⟨#[76,65,66,69,76]⟩:ByteArray).toList
 bif y4 then((nL.F n p2.2.1).bind λp5=>
 some (p2.1,5,0,0,0,0,(⟨#[]⟩:ByteArray),(⟨#[]⟩:ByteArray),0,p5.1,p5.2))else(let y6:Bool:=p1.1.toList==(⟨#[68,68]⟩:ByteArray).toList
 bif y6 then((nt.F n p2.2.1 (⟨#[32]⟩:ByteArray)).bind λp7=>
 (qx.F n p7.1).bind λp8=>
 (nt.F n p7.2.1 (⟨#[40]⟩:ByteArray)).bind λp9=>
 (B6.F n p9.2.1 (⟨#[41]⟩:ByteArray)).bind λoG=>
 bif !p8.2.2.2 then(c (.z22 (⟨#[]⟩:ByteArray) 0 0 0 0 0 (⟨#[]⟩:ByteArray) (⟨#[]⟩:ByteArray) 0 0 p2.1 0 p8.1 p8.2.1 p8.2.2.1 0 (⟨#[]⟩:ByteArray) (⟨#[]⟩:ByteArray) 0 0))else(bif !oG.2 then(c (.z22 (⟨#[]⟩:ByteArray) 0 0 0 0 0 (⟨#[]⟩:ByteArray) (⟨#[]⟩:ByteArray) 0 0 p2.1 0 p8.1 p8.2.1 p8.2.2.1 0 (⟨#[]⟩:ByteArray) (⟨#[]⟩:ByteArray) 0 0))else(let uz:Bool:=p9.1.toList==(⟨#[73,78,73,84]⟩:ByteArray).toList
 bif uz then(let Fq:Bool:=p1.1.toList==(⟨#[67,79,78]⟩:ByteArray).toList
 bif Fq then(c (.z26 oG.1 (⟨#[]⟩:ByteArray) 0 0 0 0 0 (⟨#[]⟩:ByteArray) (⟨#[]⟩:ByteArray) 0 0 p2.1 4 p8.1 p8.2.1 p8.2.2.1 0 (⟨#[]⟩:ByteArray) (⟨#[]⟩:ByteArray) 0 0 p8.1 p8.2.1 p8.2.2.1))else(c (.z26 oG.1 (⟨#[]⟩:ByteArray) 0 0 0 0 0 (⟨#[]⟩:ByteArray) (⟨#[]⟩:ByteArray) 0 0 p2.1 0 p8.1 p8.2.1 p8.2.2.1 0 (⟨#[]⟩:ByteArray) (⟨#[]⟩:ByteArray) 0 0 p8.1 p8.2.1 p8.2.2.1)))else((nt.F n oG.1 (⟨#[44]⟩:ByteArray)).bind λCt=>
 (nL.F n Ct.2.1).bind λKC=>
 let MI:Bool:=p9.1.toList==(⟨#[68,69,70]⟩:ByteArray).toList
 bif MI then(c (.Fm p1.1 KC.2 Ct.1 (⟨#[]⟩:ByteArray) 0 0 0 0 0 (⟨#[]⟩:ByteArray) (⟨#[]⟩:ByteArray) 0 0 p2.1 1 p8.1 p8.2.1 p8.2.2.1 0 (⟨#[]⟩:ByteArray) Ct.1 KC.1 0))else(let Fo:Bool:=p9.1.toList==(⟨#[66,65,83]⟩:ByteArray).toList
 bif Fo then(c (.Fm p1.1 KC.2 Ct.1 (⟨#[]⟩:ByteArray) 0 0 0 0 0 (⟨#[]⟩:ByteArray) (⟨#[]⟩:ByteArray) 0 0 p2.1 2 p8.1 p8.2.1 p8.2.2.1 0 (⟨#[]⟩:ByteArray) Ct.1 KC.1 0))else(c (.Fm p1.1 KC.2 Ct.1 (⟨#[]⟩:ByteArray) 0 0 0 0 0 (⟨#[]⟩:ByteArray) (⟨#[]⟩:ByteArray) 0 0 p2.1 0 p8.1 p8.2.1 p8.2.2.1 0 (⟨#[]⟩:ByteArray) Ct.1 KC.1 0)))))))else(let IF:Bool:=p1.1.toList==(⟨#[67,79,78]⟩:ByteArray).toList
 bif IF then((nt.F n p2.2.1 (⟨#[32]⟩:ByteArray)).bind λPX=>
 (qx.F n PX.1).bind λmM=>
 (nt.F n PX.2.1 (⟨#[40]⟩:ByteArray)).bind λPW=>
 (B6.F n PW.2.1 (⟨#[41]⟩:ByteArray)).bind λPV=>
 bif !mM.2.2.2 then(c (.z22 (⟨#[]⟩:ByteArray) 0 0 0 0 0 (⟨#[]⟩:ByteArray) (⟨#[]⟩:ByteArray) 0 0 p2.1 0 mM.1 mM.2.1 mM.2.2.1 0 (⟨#[]⟩:ByteArray) (⟨#[]⟩:ByteArray) 0 0))else(bif !PV.2 then(c (.z22 (⟨#[]⟩:ByteArray) 0 0 0 0 0 (⟨#[]⟩:ByteArray) (⟨#[]⟩:ByteArray) 0 0 p2.1 0 mM.1 mM.2.1 mM.2.2.1 0 (⟨#[]⟩:ByteArray) (⟨#[]⟩:ByteArray) 0 0))else(let IE:Bool:=PW.1.toList==(⟨#[73,78,73,84]⟩:ByteArray).toList
 bif IE then(let Vo:Bool:=p1.1.toList==(⟨#[67,79,78]⟩:ByteArray).toList
 bif Vo then(c (.z26 PV.1 (⟨#[]⟩:ByteArray) 0 0 0 0 0 (⟨#[]⟩:ByteArray) (⟨#[]⟩:ByteArray) 0 0 p2.1 4 mM.1 mM.2.1 mM.2.2.1 0 (⟨#[]⟩:ByteArray) (⟨#[]⟩:ByteArray) 0 0 mM.1 mM.2.1 mM.2.2.1))else(c (.z26 PV.1 (⟨#[]⟩:ByteArray) 0 0 0 0 0 (⟨#[]⟩:ByteArray) (⟨#[]⟩:ByteArray) 0 0 p2.1 0 mM.1 mM.2.1 mM.2.2.1 0 (⟨#[]⟩:ByteArray) (⟨#[]⟩:ByteArray) 0 0 mM.1 mM.2.1 mM.2.2.1)))else((nt.F n PV.1 (⟨#[44]⟩:ByteArray)).bind λLF=>
 (nL.F n LF.2.1).bind λMO=>
 let Vn:Bool:=PW.1.toList==(⟨#[68,69,70]⟩:ByteArray).toList
 bif Vn then(c (.Fm p1.1 MO.2 LF.1 (⟨#[]⟩:ByteArray) 0 0 0 0 0 (⟨#[]⟩:ByteArray) (⟨#[]⟩:ByteArray) 0 0 p2.1 1 mM.1 mM.2.1 mM.2.2.1 0 (⟨#[]⟩:ByteArray) LF.1 MO.1 0))else(let Ni:Bool:=PW.1.toList==(⟨#[66,65,83]⟩:ByteArray).toList
 bif Ni then(c (.Fm p1.1 MO.2 LF.1 (⟨#[]⟩:ByteArray) 0 0 0 0 0 (⟨#[]⟩:ByteArray) (⟨#[]⟩:ByteArray) 0 0 p2.1 2 mM.1 mM.2.1 mM.2.2.1 0 (⟨#[]⟩:ByteArray) LF.1 MO.1 0))else(c (.Fm p1.1 MO.2 LF.1 (⟨#[]⟩:ByteArray) 0 0 0 0 0 (⟨#[]⟩:ByteArray) (⟨#[]⟩:ByteArray) 0 0 p2.1 0 mM.1 mM.2.1 mM.2.2.1 0 (⟨#[]⟩:ByteArray) LF.1 MO.1 0)))))))else(some (p2.1,0,0,0,0,0,(⟨#[]⟩:ByteArray),(⟨#[]⟩:ByteArray),0,0,false)))))
def f_.l(n:Nat):Nat->f_.Z->Option f_.T:=eg (f_.r n)
def f_.F(n:Nat)(a0:ByteArray):Option f_.T:=f_.e n (f_.l n n) a0
theorem f_.cZ(n:Nat):dt Tryz.prog 106 fI.i f_.p (kP (f_.e n (f_.l n n))):=pf [(22,⟨[2,9],[]⟩),(26,⟨[2,9,13,16],[]⟩),(36,⟨[2,4,9,14,19],[]⟩)] f_.s (λc=>kP (f_.e n c)) (f_.r n) [nt.u,fI.u,nL.u,qx.u,B6.u,iC.u] cx f_.qi Tryz.func106
def f_.u:fO Tryz.prog:=gT fI.oi f_.cZ
def xX.F(n:Nat)(s:ByteArray)(t:ByteArray):Option (List AV):=bif(decide (s.size<4294967281)&&decide (1<=t.size))&&(Nat.beq (Lib.splitB t 0 (Lib.countB s t) s).length (Lib.countB s t+1)&&decide (Lib.countB s t+1<=eR))then Option.some ((Lib.splitB t 0 (Lib.countB s t) s).map λx=>vs x)else none
theorem xX.cZ(n:Nat)(s:ByteArray)(t:ByteArray){p:List AV}(h:xX.F n s t=some p):fD Tryz.prog 107 [.v (.string s),.v (.string t)] (.fr ⟨true,9,false⟩ 1 p):=by
 unfold xX.F at h;cases hc:((decide (s.size<4294967281)&&decide (1<=t.size))&&(Nat.beq (Lib.splitB t 0 (Lib.countB s t) s).length (Lib.countB s t+1)&&decide (Lib.countB s t+1<=eR)))with
 | false=>rw[hc]at h;cases h
 | true=>
  rw[hc]at h;cases h;refine fR (fn:=Tryz.f107) Tryz.func107 (by kernel_rfl) (by kernel_rfl) λw F vals hQ hF hl hr=>?_;obtain⟨u0,u1,rfl,h0,h1⟩:=vd hl hr;obtain rfl:=jC h0;obtain rfl:=jC h1;rw[ae,ae,ae]at hc;refine(Tryz.strings_Split_shaped s t w (dH.opened _ hQ) (bc hc.1.1) (bc hc.1.2)).mono ?_;rintro e w' ⟨rfl,rfl⟩;exact FN rfl hF (aj hc.2.1) (bc hc.2.2)
def xX.via{R:Type}(n:Nat)(ys:List AV):(AV->Option R)->Option R:=match ys with | [.v (.string s),.v (.string t)]=>λK=>(xX.F n s t).bind λp=>K (.fr ⟨true,9,false⟩ 1 p) | _=>λ_=>none
theorem xX.gu{R:Type}(n:Nat)(ys:List AV):dL (R:=R) Tryz.prog 107 ys (xX.via n ys):=by
 unfold xX.via;split
 ·exact dL.of (λp hp=>(xX.cZ n _ _ hp).cZ rfl)
 ·exact dL.none
def xX.u:fO Tryz.prog:=⟨107,λ_=>true,λn xs=>xX.via n xs,λn xs=>xX.gu n xs⟩
def Ie.e(n:Nat)(a0:ByteArray):Option Bool:=
 (fI.F n a0).bind λp1=>
 some (!p1)
def Ie.F(n:Nat)(a0:ByteArray):Option Bool:=Ie.e n a0
theorem Ie.cZ(n:Nat):dt Tryz.prog 111 fI.i fY.p (kP (Ie.e n)):=mA n (kP (Ie.e n)) [fI.u] cx fY.qi Tryz.func111
def Ie.u:fO Tryz.prog:=gT fI.oi Ie.cZ
abbrev jO.A:=List AV
def jO.i:jO.A->List AV:=λa0=>[.sl ⟨true,9,false⟩ 1 a0,.fn 111 []]
def jO.o(xs:List AV):Option jO.A:=match xs with | [.sl ⟨true,9,false⟩ 1 a0,.fn 111 []]=>some a0 | _=>none
theorem jO.oi:∀xs a,jO.o xs=some a->xs=jO.i a:=by
 intro xs a h;unfold jO.o at h;split at h
 ·cases h;rfl
 ·cases h
inductive jO.Z where
 | z2 (z1:List AV) (z2 z3:Int)
def jO.s:jO.Z->Nat × St
 | .z2 z1 z2 z3=>gX 2 19 [(0,.sl ⟨true,9,false⟩ 1 z1),(1,.fn 111 []),(7,vi z2),(8,vi z3)] []
def jO.r2(n:Nat)(c:jO.Z->Option Int)(z1:List AV)(z2 z3:Int):Option Int:=
 bif decide (z3<z2)then(bif decide ((0:Int)<=z3)&&decide (z3<((z1.length:Nat):Int))then(cM ((z1.getD ((z3).toNat) .undef).cells) λh1 r2=>
 dm h1 λs3=>
 (Ie.F n s3).bind λp4=>
 bif p4 then(some z3)else(c (.z2 z1 z2 (IntKind.i64.wrap (z3+1)))))else none)else(some (-1))
def jO.r(n:Nat)(c:jO.Z->Option Int):jO.Z->Option Int
 | .z2 z1 z2 z3=>jO.r2 n c z1 z2 z3
def jO.e(n:Nat)(c:jO.Z->Option Int)(a0:List AV):Option Int:=
 c (.z2 a0 ((a0.length:Nat):Int) 0)
def jO.l(n:Nat):Nat->jO.Z->Option Int:=eg (jO.r n)
def jO.F(n:Nat)(a0:List AV):Option Int:=jO.e n (jO.l n n) a0
theorem jO.cZ(n:Nat):dt Tryz.prog 158 jO.i fx.p (kP (jO.e n (jO.l n n))):=pf [(2,⟨[0,1,7,8],[]⟩)] jO.s (λc=>kP (jO.e n c)) (jO.r n) [Ie.u] cx fx.qi Tryz.func158
def jO.u:fO Tryz.prog:=gT jO.oi jO.cZ
def B8.e(n:Nat)(a0:List AV):Option Bool:=
 (jO.F n a0).bind λp1=>
 some (decide (p1>=0))
def B8.F(n:Nat)(a0:List AV):Option Bool:=B8.e n a0
theorem B8.cZ(n:Nat):dt Tryz.prog 110 jO.i fY.p (kP (B8.e n)):=mA n (kP (B8.e n)) [jO.u] cx fY.qi Tryz.func110
def B8.u:fO Tryz.prog:=gT jO.oi B8.cZ
abbrev gN.T:=Int × Int × ByteArray × Int × Int × Int × Int × Int × ByteArray × ByteArray × Int × Int × Int × List AV × Int × Int × Int × Int × Bool
def gN.p(p:gN.T):AV:=.dU [AV.agg [vi p.1,vi p.2.1,vs p.2.2.1,vi p.2.2.2.1,vi p.2.2.2.2.1,vi p.2.2.2.2.2.1,vi p.2.2.2.2.2.2.1,vi p.2.2.2.2.2.2.2.1,vs p.2.2.2.2.2.2.2.2.1,vs p.2.2.2.2.2.2.2.2.2.1,vi p.2.2.2.2.2.2.2.2.2.2.1,vi p.2.2.2.2.2.2.2.2.2.2.2.1,vi p.2.2.2.2.2.2.2.2.2.2.2.2.1,.fr ⟨true,9,false⟩ 1 p.2.2.2.2.2.2.2.2.2.2.2.2.2.1,vi p.2.2.2.2.2.2.2.2.2.2.2.2.2.2.1,vi p.2.2.2.2.2.2.2.2.2.2.2.2.2.2.2.1,vi p.2.2.2.2.2.2.2.2.2.2.2.2.2.2.2.2.1,vi p.2.2.2.2.2.2.2.2.2.2.2.2.2.2.2.2.2.1],vb p.2.2.2.2.2.2.2.2.2.2.2.2.2.2.2.2.2.2]
def gN.q(x:AV):Option gN.T:=match x with | .dU [.agg [.v (.int .i64 p0),.v (.int .i64 p1),.v (.string p2),.v (.int .i64 p3),.v (.int .i64 p4),.v (.int .i64 p5),.v (.int .i64 p6),.v (.int .i64 p7),.v (.string p8),.v (.string p9),.v (.int .i64 oG),.v (.int .i64 oZ),.v (.int .i64 uO),.fr ⟨true,9,false⟩ 1 Ct,.v (.int .i64 KC),.v (.int .i64 Gb),.v (.int .i64 PY),.v (.int .i64 WZ)],.v (.bool PX)]=>some (p0,p1,p2,p3,p4,p5,p6,p7,p8,p9,oG,oZ,uO,Ct,KC,Gb,PY,WZ,PX) | _=>none
theorem gN.qi:∀x p,gN.q x=some p->x=gN.p p:=by
 intro x p h;unfold gN.q at h;split at h
 ·cases h;rfl
 ·cases h
inductive gN.Z where
 | z9 (z1 z2 z3 z4:Int) (z5:ByteArray) (z6 z7 z8 z9 dy:Int) (dO z12:ByteArray) (dN dQ dR dV ef ee eD:Int) (z20 z21:List AV)
def gN.s:gN.Z->Nat × St
 | .z9 z1 z2 z3 z4 z5 z6 z7 z8 z9 dy dO z12 dN dQ dR dV ef ee eD z20 z21=>gX 9 106 [(2,.ptr 0 0),(11,.own 1 0 none),(51,.own 2 0 none),(52,vi z1),(53,vi z2)] [.box 109 [vi z3,vi z4,vs z5,vi z6,vi z7,vi z8,vi z9,vi dy,vs dO,vs z12,vi dN,vi dQ,vi dR,.v (.slice none 0 0),vi dV,vi ef,vi ee,vi eD],.row ⟨true,3,false⟩ 1 z20,.row ⟨true,9,false⟩ 1 z21]
def gN.r9(n:Nat)(c:gN.Z->Option gN.T)(z1 z2 z3 z4:Int)(z5:ByteArray)(z6 z7 z8 z9 dy:Int)(dO z12:ByteArray)(dN dQ dR dV ef ee eD:Int)(z20 z21:List AV):Option gN.T:=
 bif decide (z2<z1)then(bif decide ((0:Int)<=z2)&&decide (z2<((z21.length:Nat):Int))then(cM ((z21.getD ((z2).toNat) .undef).cells) λOW Cp=>
 dm OW λV_=>
 (nL.F n V_).bind λGb=>
 bif !Gb.2 then(some (0,0,(⟨#[]⟩:ByteArray),0,0,0,0,0,(⟨#[]⟩:ByteArray),(⟨#[]⟩:ByteArray),0,0,0,[],0,0,0,0,false))else(bif decide (z20.length+[vi Gb.1].length<=eR)then(c (.z9 z1 (IntKind.i64.wrap (z2+1)) z3 z4 z5 z6 z7 z8 z9 dy dO z12 dN dQ dR dV ef ee eD (z20++[vi Gb.1]) z21))else none))else none)else(let Fo:Bool:=((z20.length:Nat):Int) != 4
 bif Fo then(some (0,0,(⟨#[]⟩:ByteArray),0,0,0,0,0,(⟨#[]⟩:ByteArray),(⟨#[]⟩:ByteArray),0,0,0,[],0,0,0,0,false))else(bif decide ((0:Int)<(z20.length:Nat))then(cM ((z20.getD 0 .undef).cells) λBK Co=>
 cQ .i64 BK λDk=>
 bif decide ((1:Int)<(z20.length:Nat))then(cM ((z20.getD 1 .undef).cells) λBJ wW=>
 cQ .i64 BJ λKi=>
 bif decide ((2:Int)<(z20.length:Nat))then(cM ((z20.getD 2 .undef).cells) λBI Cm=>
 cQ .i64 BI λNt=>
 bif decide ((3:Int)<(z20.length:Nat))then(cM ((z20.getD 3 .undef).cells) λBH DE=>
 cQ .i64 BH λIl=>
 some (0,3,(⟨#[]⟩:ByteArray),0,0,0,0,0,(⟨#[]⟩:ByteArray),(⟨#[]⟩:ByteArray),0,0,0,[],Dk,Ki,Nt,Il,true))else none)else none)else none)else none))
def gN.r(n:Nat)(c:gN.Z->Option gN.T):gN.Z->Option gN.T
 | .z9 z1 z2 z3 z4 z5 z6 z7 z8 z9 dy dO z12 dN dQ dR dV ef ee eD z20 z21=>gN.r9 n c z1 z2 z3 z4 z5 z6 z7 z8 z9 dy dO z12 dN dQ dR dV ef ee eD z20 z21
def gN.e(n:Nat)(c:gN.Z->Option gN.T)(a0:ByteArray):Option gN.T:=
 (Fg.F n a0 (⟨#[68,67,76,32]⟩:ByteArray)).bind λp1=>
 bif p1.2 then((f_.F n p1.1).bind λp2=>
 bif p2.2.2.2.2.2.2.2.2.2.2 then((fI.F n p2.1).bind λp3=>
 bif p3 then((xS.F n p2.1 p2.2.1 p2.2.2.1 p2.2.2.2.1 p2.2.2.2.2.1 p2.2.2.2.2.2.1 p2.2.2.2.2.2.2.1 p2.2.2.2.2.2.2.2.1 p2.2.2.2.2.2.2.2.2.1 p2.2.2.2.2.2.2.2.2.2.1).bind λp4=>
 some (0,1,p2.1,p2.2.1,p2.2.2.1,p2.2.2.2.1,p2.2.2.2.2.1,p2.2.2.2.2.2.1,p2.2.2.2.2.2.2.1,p2.2.2.2.2.2.2.2.1,p2.2.2.2.2.2.2.2.2.1,p2.2.2.2.2.2.2.2.2.2.1,0,[],0,0,0,0,p4.toList==a0.toList))else(some (0,1,p2.1,p2.2.1,p2.2.2.1,p2.2.2.2.1,p2.2.2.2.2.1,p2.2.2.2.2.2.1,p2.2.2.2.2.2.2.1,p2.2.2.2.2.2.2.2.1,p2.2.2.2.2.2.2.2.2.1,p2.2.2.2.2.2.2.2.2.2.1,0,[],0,0,0,0,false)))else(some (0,1,p2.1,p2.2.1,p2.2.2.1,p2.2.2.2.1,p2.2.2.2.2.1,p2.2.2.2.2.2.1,p2.2.2.2.2.2.2.1,p2.2.2.2.2.2.2.2.1,p2.2.2.2.2.2.2.2.2.1,p2.2.2.2.2.2.2.2.2.2.1,0,[],0,0,0,0,false)))else((nt.F n a0 (⟨#[32]⟩:ByteArray)).bind λp5=>
 let y6:Bool:=p5.1.toList==(⟨#[77,79,78,73,84,79,82]⟩:ByteArray).toList
 bif y6 then((xX.F n p5.2.1 (⟨#[32]⟩:ByteArray)).bind λp7=>
 c (.z9 ((p7.length:Nat):Int) 0 0 0 (⟨#[]⟩:ByteArray) 0 0 0 0 0 (⟨#[]⟩:ByteArray) (⟨#[]⟩:ByteArray) 0 0 0 0 0 0 0 [] p7))else((jN.F n [vs (⟨#[77,79,86,69]⟩:ByteArray),vs (⟨#[77,79,86,69,72]⟩:ByteArray),vs (⟨#[65,68,68]⟩:ByteArray),vs (⟨#[83,85,66]⟩:ByteArray),vs (⟨#[77,85,76]⟩:ByteArray),vs (⟨#[68,73,86]⟩:ByteArray),vs (⟨#[82,69,77]⟩:ByteArray),vs (⟨#[73,70,69,81]⟩:ByteArray),vs (⟨#[73,70,76,84]⟩:ByteArray),vs (⟨#[71,79,84,79]⟩:ByteArray),vs (⟨#[65,68,68,82]⟩:ByteArray),vs (⟨#[77,79,86,69,80]⟩:ByteArray),vs (⟨#[65,68,86,65,78,67,69]⟩:ByteArray),vs (⟨#[67,65,76,76]⟩:ByteArray),vs (⟨#[82,69,84,85,82,78]⟩:ByteArray),vs (⟨#[83,73,71,78,65,76]⟩:ByteArray),vs (⟨#[69,88,67,69,80,84,73,79,78]⟩:ByteArray),vs (⟨#[80,82,73,78,84]⟩:ByteArray),vs (⟨#[69,78,68]⟩:ByteArray)] p5.1).bind λp8=>
 bif p5.2.2 then((xX.F n p5.2.1 (⟨#[44]⟩:ByteArray)).bind λp9=>
 bif decide (p8>=0)then((B8.F n p9).bind λoG=>
 some (0,2,(⟨#[]⟩:ByteArray),0,0,0,0,0,(⟨#[]⟩:ByteArray),(⟨#[]⟩:ByteArray),0,0,p8,p9,0,0,0,0,!oG))else(some (0,2,(⟨#[]⟩:ByteArray),0,0,0,0,0,(⟨#[]⟩:ByteArray),(⟨#[]⟩:ByteArray),0,0,p8,p9,0,0,0,0,false)))else(bif decide (p8>=0)then((B8.F n []).bind λoZ=>
 some (0,2,(⟨#[]⟩:ByteArray),0,0,0,0,0,(⟨#[]⟩:ByteArray),(⟨#[]⟩:ByteArray),0,0,p8,[],0,0,0,0,!oZ))else(some (0,2,(⟨#[]⟩:ByteArray),0,0,0,0,0,(⟨#[]⟩:ByteArray),(⟨#[]⟩:ByteArray),0,0,p8,[],0,0,0,0,false)))))
def gN.l(n:Nat):Nat->gN.Z->Option gN.T:=eg (gN.r n)
def gN.F(n:Nat)(a0:ByteArray):Option gN.T:=gN.e n (gN.l n n) a0
theorem gN.cZ(n:Nat):dt Tryz.prog 62 fI.i gN.p (kP (gN.e n (gN.l n n))):=pf [(9,⟨[2,11,51,52,53],[(11,none,⟨true,3,false⟩,1)]⟩)] gN.s (λc=>kP (gN.e n c)) (gN.r n) [xS.u,nt.u,fI.u,Fg.u,f_.u,xX.u,nL.u,jN.u,B8.u] cx gN.qi Tryz.func62
def gN.u:fO Tryz.prog:=gT fI.oi gN.cZ
def x_.own(f:FuncId):Bool:=Nat.beq f 14||Nat.beq f 17||Nat.beq f 22||Nat.beq f 60||Nat.beq f 62
def x_.k0:List (fO Tryz.prog):=[eL.u,gC.u,gj.u,nt.u,gN.u]
def x_.F(n:Nat):Option Bool:=Option.some true
theorem x_.run:oo Tryz.prog G x_.own (nO 1000 x_.k0) (λ_ _=>none) 1000 100 12 []=Option.some (vb true):=by kernel_rfl
def x_.via{R:Type}(n:Nat)(ys:List AV):(AV->Option R)->Option R:=match ys with | []=>λK=>(x_.F n).bind λp=>K (.v (.bool p)) | _=>λ_=>none
theorem x_.gu{R:Type}(n:Nat)(ys:List AV):dL (R:=R) Tryz.prog 12 ys (x_.via n ys):=by
 unfold x_.via;split
 ·exact dL.of (λp hp=>by cases hp;exact xm cfg mixed C6 rfl (jq 1000 x_.k0) 100 _ _ _ x_.run)
 ·exact dL.none
def x_.u:fO Tryz.prog:=⟨12,λ_=>true,λn xs=>x_.via n xs,λn xs=>x_.gu n xs⟩
abbrev dw.A:=List AV
abbrev dw.T:=List AV × List AV × List AV × Int × Int
def dw.i:dw.A->List AV:=λa0=>[.sl ⟨false,109,false⟩ 18 a0]
def dw.o(xs:List AV):Option dw.A:=match xs with | [.sl ⟨false,109,false⟩ 18 a0]=>some a0 | _=>none
theorem dw.oi:∀xs a,dw.o xs=some a->xs=dw.i a:=by
 intro xs a h;unfold dw.o at h;split at h
 ·cases h;rfl
 ·cases h
def dw.p(p:dw.T):AV:=.dU [AV.agg [.fr ⟨true,74,false⟩ 10 p.1,.fr ⟨false,86,false⟩ 2 p.2.1,.fr ⟨true,82,false⟩ 4 p.2.2.1],vi p.2.2.2.1,vi p.2.2.2.2]
def dw.q(x:AV):Option dw.T:=match x with | .dU [.agg [.fr ⟨true,74,false⟩ 10 p0,.fr ⟨false,86,false⟩ 2 p1,.fr ⟨true,82,false⟩ 4 p2],.v (.int .i64 p3),.v (.int .i64 p4)]=>some (p0,p1,p2,p3,p4) | _=>none
theorem dw.qi:∀x p,dw.q x=some p->x=dw.p p:=by
 intro x p h;unfold dw.q at h;split at h
 ·cases h;rfl
 ·cases h
inductive dw.Z where
 | z4 (z1 z2:List AV) (z3 z4:Int) (z5 z6 z7 z8 z9 dy:List AV)
 | z6 (z1 z2:List AV) (z3 z4:Int) (z5 z6 z7 z8 z9 dy:List AV) (dO z12:Int) (dN:ByteArray) (dQ dR dV ef ee:Int) (eD z20:ByteArray) (z21 z22 z23:Int) (z24:List AV) (z25 z26 gP z28:Int)
 | z7 (z1 z2:List AV) (z3 z4:Int) (z5 z6 z7 z8 z9 dy:List AV) (dO z12:Int) (dN:ByteArray) (dQ dR dV ef ee:Int) (eD z20:ByteArray) (z21 z22 z23:Int) (z24:List AV) (z25 z26 gP z28:Int)
 | z12 (z1 z2:List AV) (z3 z4:Int) (z5 z6 z7 z8 z9 dy:List AV)
 | dQ (z1:List AV) (z2 z3:Int) (z4 z5 z6 z7 z8 z9 dy:List AV)
 | z21 (z1:List AV) (z2 z3:Int) (z4:List AV) (z5 z6:Int) (z7 z8 z9 dy dO z12 dN:List AV) (dQ dR:Int) (dV:ByteArray) (ef ee eD z20 z21:Int) (z22 z23:ByteArray) (z24 z25 z26:Int) (gP:List AV) (z28 mF mv z31 oM:Int) (yb:List AV)
 | oM (z1 z2 z3 z4:List AV) (z5 z6 z7:Int)
def dw.s:dw.Z->Nat × St
 | .z4 z1 z2 z3 z4 z5 z6 z7 z8 z9 dy=>gX 4 129 [(0,.sl ⟨false,109,false⟩ 18 z1),(2,.ptr 0 0),(5,.ptr 1 0),(6,.ptr 4 0),(19,.sl ⟨false,109,false⟩ 18 z2),(20,vi z3),(21,vi z4)] [.box 26 [.v (.slice none 0 0),.v (.slice none 0 0),.v (.slice none 0 0)],.box 26 [.own 2 0 none,.v (.slice none 0 0),.own 3 0 none],.row ⟨true,74,false⟩ 10 z5,.row ⟨true,82,false⟩ 4 z6,.box 118 [.own 5 0 none,.own 6 0 none,.own 7 0 none,.own 8 0 none],.row ⟨true,3,false⟩ 1 z7,.row ⟨true,3,false⟩ 1 z8,.row ⟨true,3,false⟩ 1 z9,.row ⟨true,3,false⟩ 1 dy]
 | .z6 z1 z2 z3 z4 z5 z6 z7 z8 z9 dy dO z12 dN dQ dR dV ef ee eD z20 z21 z22 z23 z24 z25 z26 gP z28=>gX 6 129 [(0,.sl ⟨false,109,false⟩ 18 z1),(2,.ptr 0 0),(5,.ptr 1 0),(6,.ptr 4 0),(8,.ptr 9 0),(19,.sl ⟨false,109,false⟩ 18 z2),(20,vi z3),(21,vi z4)] [.box 26 [.v (.slice none 0 0),.v (.slice none 0 0),.v (.slice none 0 0)],.box 26 [.own 2 0 none,.v (.slice none 0 0),.own 3 0 none],.row ⟨true,74,false⟩ 10 z5,.row ⟨true,82,false⟩ 4 z6,.box 118 [.own 5 0 none,.own 6 0 none,.own 7 0 none,.own 8 0 none],.row ⟨true,3,false⟩ 1 z7,.row ⟨true,3,false⟩ 1 z8,.row ⟨true,3,false⟩ 1 z9,.row ⟨true,3,false⟩ 1 dy,.box 109 [vi dO,vi z12,vs dN,vi dQ,vi dR,vi dV,vi ef,vi ee,vs eD,vs z20,vi z21,vi z22,vi z23,.sl ⟨true,9,false⟩ 1 z24,vi z25,vi z26,vi gP,vi z28]]
 | .z7 z1 z2 z3 z4 z5 z6 z7 z8 z9 dy dO z12 dN dQ dR dV ef ee eD z20 z21 z22 z23 z24 z25 z26 gP z28=>gX 7 129 [(0,.sl ⟨false,109,false⟩ 18 z1),(2,.ptr 0 0),(5,.ptr 1 0),(6,.ptr 4 0),(8,.ptr 9 0),(19,.sl ⟨false,109,false⟩ 18 z2),(20,vi z3),(21,vi z4)] [.box 26 [.v (.slice none 0 0),.v (.slice none 0 0),.v (.slice none 0 0)],.box 26 [.own 2 0 none,.v (.slice none 0 0),.own 3 0 none],.row ⟨true,74,false⟩ 10 z5,.row ⟨true,82,false⟩ 4 z6,.box 118 [.own 5 0 none,.own 6 0 none,.own 7 0 none,.own 8 0 none],.row ⟨true,3,false⟩ 1 z7,.row ⟨true,3,false⟩ 1 z8,.row ⟨true,3,false⟩ 1 z9,.row ⟨true,3,false⟩ 1 dy,.box 109 [vi dO,vi z12,vs dN,vi dQ,vi dR,vi dV,vi ef,vi ee,vs eD,vs z20,vi z21,vi z22,vi z23,.sl ⟨true,9,false⟩ 1 z24,vi z25,vi z26,vi gP,vi z28]]
 | .z12 z1 z2 z3 z4 z5 z6 z7 z8 z9 dy=>gX 12 129 [(0,.sl ⟨false,109,false⟩ 18 z1),(2,.ptr 0 0),(5,.ptr 1 0),(6,.ptr 4 0),(19,.sl ⟨false,109,false⟩ 18 z2),(20,vi z3),(21,vi z4)] [.box 26 [.v (.slice none 0 0),.v (.slice none 0 0),.v (.slice none 0 0)],.box 26 [.own 2 0 none,.v (.slice none 0 0),.own 3 0 none],.row ⟨true,74,false⟩ 10 z5,.row ⟨true,82,false⟩ 4 z6,.box 118 [.own 5 0 none,.own 6 0 none,.own 7 0 none,.own 8 0 none],.row ⟨true,3,false⟩ 1 z7,.row ⟨true,3,false⟩ 1 z8,.row ⟨true,3,false⟩ 1 z9,.row ⟨true,3,false⟩ 1 dy]
 | .dQ z1 z2 z3 z4 z5 z6 z7 z8 z9 dy=>gX 14 129 [(2,.ptr 0 0),(5,.ptr 1 0),(6,.ptr 5 0),(57,.sl ⟨false,109,false⟩ 18 z1),(58,vi z2),(59,vi z3)] [.box 26 [.v (.slice none 0 0),.v (.slice none 0 0),.v (.slice none 0 0)],.box 26 [.own 2 0 none,.own 3 0 none,.own 4 0 none],.row ⟨true,74,false⟩ 10 z4,.row ⟨false,86,false⟩ 2 z5,.row ⟨true,82,false⟩ 4 z6,.box 118 [.own 6 0 none,.own 7 0 none,.own 8 0 none,.own 9 0 none],.row ⟨true,3,false⟩ 1 z7,.row ⟨true,3,false⟩ 1 z8,.row ⟨true,3,false⟩ 1 z9,.row ⟨true,3,false⟩ 1 dy]
 | .z21 z1 z2 z3 z4 z5 z6 z7 z8 z9 dy dO z12 dN dQ dR dV ef ee eD z20 z21 z22 z23 z24 z25 z26 gP z28 mF mv z31 oM yb=>gX 21 129 [(2,.ptr 0 0),(5,.ptr 1 0),(6,.ptr 5 0),(10,.ptr 10 0),(11,.ptr 11 0),(57,.sl ⟨false,109,false⟩ 18 z1),(58,vi z2),(59,vi z3),(82,.sl ⟨true,9,false⟩ 1 z4),(83,vi z5),(84,vi z6)] [.box 26 [.v (.slice none 0 0),.v (.slice none 0 0),.v (.slice none 0 0)],.box 26 [.own 2 0 none,.own 3 0 none,.own 4 0 none],.row ⟨true,74,false⟩ 10 z7,.row ⟨false,86,false⟩ 2 z8,.row ⟨true,82,false⟩ 4 z9,.box 118 [.own 6 0 none,.own 7 0 none,.own 8 0 none,.own 9 0 none],.row ⟨true,3,false⟩ 1 dy,.row ⟨true,3,false⟩ 1 dO,.row ⟨true,3,false⟩ 1 z12,.row ⟨true,3,false⟩ 1 dN,.box 109 [vi dQ,vi dR,vs dV,vi ef,vi ee,vi eD,vi z20,vi z21,vs z22,vs z23,vi z24,vi z25,vi z26,.sl ⟨true,9,false⟩ 1 gP,vi z28,vi mF,vi mv,vi z31],.box 86 [vi oM,.own 12 0 none],.row ⟨true,3,false⟩ 1 yb]
 | .oM z1 z2 z3 z4 z5 z6 z7=>gX 32 129 [(2,.ptr 0 0),(6,.rd [.sl ⟨true,3,false⟩ 1 z1,.sl ⟨true,3,false⟩ 1 z2,.sl ⟨true,3,false⟩ 1 z3,.sl ⟨true,3,false⟩ 1 z4]),(15,.ptr 1 0),(16,vi z5)] [.box 26 [.v (.slice none 0 0),.v (.slice none 0 0),.v (.slice none 0 0)],.box 30 [vi z6,vi z7]]
def dw.r4(n:Nat)(c:dw.Z->Option dw.T)(z1 z2:List AV)(z3 z4:Int)(z5 z6 z7 z8 z9 dy:List AV):Option dw.T:=
 bif decide (z4<z3)then(bif decide ((0:Int)<=z4)&&decide (z4<((z2.length:Nat):Int))then(cM ((z2.getD ((z4).toNat) .undef).cells) λh1 r2=>
 cQ .i64 h1 λx3=>
 cM r2 λh4 r5=>
 cQ .i64 h4 λx6=>
 cM r5 λh7 r8=>
 dm h7 λs9=>
 cM r8 λIz EX=>
 cQ .i64 Iz λxT=>
 cM EX λMl As=>
 cQ .i64 Ml λAr=>
 cM As λK6 NJ=>
 cQ .i64 K6 λAJ=>
 cM NJ λOV NI=>
 cQ .i64 OV λVR=>
 cM NI λOU Iq=>
 cQ .i64 OU λVQ=>
 cM Iq λOT EW=>
 dm OT λV9=>
 cM EW λOR Rl=>
 dm OR λV8=>
 cM Rl λYQ NH=>
 cQ .i64 YQ λVP=>
 cM NH λYO Wz=>
 cQ .i64 YO λVN=>
 cM Wz λYM Wy=>
 cQ .i64 YM λVM=>
 cM Wy λQl Ww=>
 gq ⟨true,9,false⟩ 1 Ql λQD=>
 cM Ww λYI Wv=>
 cQ .i64 YI λVL=>
 cM Wv λzF Rk=>
 cQ .i64 zF λQO=>
 cM Rk λS9 Ri=>
 cQ .i64 S9 λQM=>
 cM Ri λS7 T3=>
 cQ .i64 S7 λQL=>
 c (.z6 z1 z2 z3 z4 z5 z6 z7 z8 z9 dy x3 x6 s9 xT Ar AJ VR VQ V9 V8 VP VN VM QD VL QO QM QL))else none)else(c (.dQ z1 ((z1.length:Nat):Int) 0 z5 [] z6 z7 z8 z9 dy))
def dw.r6(n:Nat)(c:dw.Z->Option dw.T)(z1 z2:List AV)(z3 z4:Int)(z5 z6 z7 z8 z9 dy:List AV)(dO z12:Int)(dN:ByteArray)(dQ dR dV ef ee:Int)(eD z20:ByteArray)(z21 z22 z23:Int)(z24:List AV)(z25 z26 gP z28:Int):Option dw.T:=
 bif decide (z12=((3:Nat):Int))then(bif decide (dy.length+[vi dO].length<=eR)then(c (.z7 z1 z2 z3 z4 z5 z6 z7 z8 z9 (dy++[vi dO]) dO 3 dN dQ dR dV ef ee eD z20 z21 z22 z23 z24 z25 z26 gP z28))else none)else(bif decide (z12=((2:Nat):Int))then(bif decide (z9.length+[vi dO].length<=eR)then(c (.z7 z1 z2 z3 z4 z5 z6 z7 z8 (z9++[vi dO]) dy dO 2 dN dQ dR dV ef ee eD z20 z21 z22 z23 z24 z25 z26 gP z28))else none)else(bif decide (z12=((1:Nat):Int))then(bif decide (z8.length+[vi dO].length<=eR)then(c (.z7 z1 z2 z3 z4 z5 z6 z7 (z8++[vi dO]) z9 dy dO 1 dN dQ dR dV ef ee eD z20 z21 z22 z23 z24 z25 z26 gP z28))else none)else(bif decide (z12=((0:Nat):Int))then(bif decide (z7.length+[vi dO].length<=eR)then(c (.z7 z1 z2 z3 z4 z5 z6 (z7++[vi dO]) z8 z9 dy dO 0 dN dQ dR dV ef ee eD z20 z21 z22 z23 z24 z25 z26 gP z28))else none)else(none))))
def dw.r7(n:Nat)(c:dw.Z->Option dw.T)(z1 z2:List AV)(z3 z4:Int)(z5 z6 z7 z8 z9 dy:List AV)(dO z12:Int)(dN:ByteArray)(dQ dR dV ef ee:Int)(eD z20:ByteArray)(z21 z22 z23:Int)(z24:List AV)(z25 z26 gP z28:Int):Option dw.T:=
 bif z12==1 then(let Nn:List AV:=[AV.agg [vs dN,vi dQ,vi dR,vi dV,vi ef,vi ee,vs eD,vs z20,vi z21,vi z22]]
 bif decide (z5.length+Nn.length<=eR)then(c (.z12 z1 z2 z3 z4 (z5++Nn) z6 z7 z8 z9 dy))else none)else(bif z12==3 then(let Nl:List AV:=[AV.agg [vi z25,vi z26,vi gP,vi z28]]
 bif decide (z6.length+Nl.length<=eR)then(c (.z12 z1 z2 z3 z4 z5 (z6++Nl) z7 z8 z9 dy))else none)else(c (.z12 z1 z2 z3 z4 z5 z6 z7 z8 z9 dy)))
def dw.uM(n:Nat)(c:dw.Z->Option dw.T)(z1 z2:List AV)(z3 z4:Int)(z5 z6 z7 z8 z9 dy:List AV):Option dw.T:=
 c (.z4 z1 z2 z3 (IntKind.i64.wrap (z4+1)) z5 z6 z7 z8 z9 dy)
def dw.As(n:Nat)(c:dw.Z->Option dw.T)(z1:List AV)(z2 z3:Int)(z4 z5 z6 z7 z8 z9 dy:List AV):Option dw.T:=
 bif decide (z3<z2)then(bif decide ((0:Int)<=z3)&&decide (z3<((z1.length:Nat):Int))then(cM ((z1.getD ((z3).toNat) .undef).cells) λS5 T2=>
 cQ .i64 S5 λPI=>
 cM T2 λYE Wp=>
 cQ .i64 YE λTL=>
 cM Wp λYC Wn=>
 dm YC λV2=>
 cM Wn λYA Wm=>
 cQ .i64 YA λVC=>
 cM Wm λSY T0=>
 cQ .i64 SY λQJ=>
 cM T0 λSW TZ=>
 cQ .i64 SW λQI=>
 cM TZ λSU TY=>
 cQ .i64 SU λVA=>
 cM TY λSR TW=>
 cQ .i64 SR λVz=>
 cM TW λYy Wk=>
 dm Yy λVZ=>
 cM Wk λYx Wj=>
 dm Yx λVY=>
 cM Wj λYw Wi=>
 cQ .i64 Yw λVw=>
 cM Wi λYv Wh=>
 cQ .i64 Yv λVv=>
 cM Wh λYu Wf=>
 cQ .i64 Yu λNq=>
 cM Wf λSM TV=>
 gq ⟨true,9,false⟩ 1 SM λIG=>
 cM TV λYr Wc=>
 cQ .i64 Yr λVr=>
 cM Wc λTn Rn=>
 cQ .i64 Tn λQV=>
 cM Rn λTl Rm=>
 cQ .i64 Tl λQT=>
 cM Rm λTk WG=>
 cQ .i64 Tk λQS=>
 bif TL != 2 then(c (.dQ z1 z2 (IntKind.i64.wrap (z3+1)) z4 z5 z6 z7 z8 z9 dy))else(bif decide ((0:Int)<=Nq)&&decide (Nq<((19:Nat):Int))then(cM (jV ((Nq).toNat*1) [.sl ⟨true,3,false⟩ 1 O6,.sl ⟨true,3,false⟩ 1 O5,.sl ⟨true,3,false⟩ 1 O4,.sl ⟨true,3,false⟩ 1 O3,.sl ⟨true,3,false⟩ 1 O2,.sl ⟨true,3,false⟩ 1 O1,.sl ⟨true,3,false⟩ 1 O0,.sl ⟨true,3,false⟩ 1 OZ,.sl ⟨true,3,false⟩ 1 OY,.sl ⟨true,3,false⟩ 1 OX,.sl ⟨true,3,false⟩ 1 Hu,.sl ⟨true,3,false⟩ 1 Ht,.sl ⟨true,3,false⟩ 1 Hs,.sl ⟨true,3,false⟩ 1 Hr,.sl ⟨true,3,false⟩ 1 Hq,.sl ⟨true,3,false⟩ 1 Hp,.sl ⟨true,3,false⟩ 1 Ho,.sl ⟨true,3,false⟩ 1 Hn,.sl ⟨true,3,false⟩ 1 Hm]) λTj WE=>
 gq ⟨true,3,false⟩ 1 Tj λNp=>
 let Qz:Bool:=((IG.length:Nat):Int) != ((Np.length:Nat):Int)
 bif Qz then(some ([],[],[],PI,37))else(c (.z21 z1 z2 z3 IG ((IG.length:Nat):Int) 0 z4 z5 z6 z7 z8 z9 dy PI TL V2 VC QJ QI VA Vz VZ VY Vw Vv Nq IG Vr QV QT QS Nq [])))else none))else none)else((eL.F n z4 z5 z6).bind λI_=>
 bif I_.2.2 != 0 then(c (.oM z7 z8 z9 dy I_.2.2 I_.1 I_.2.1))else(some (z4,z5,z6,0,0)))
def dw.wW(n:Nat)(c:dw.Z->Option dw.T)(z1:List AV)(z2 z3:Int)(z4:List AV)(z5 z6:Int)(z7 z8 z9 dy dO z12 dN:List AV)(dQ dR:Int)(dV:ByteArray)(ef ee eD z20 z21:Int)(z22 z23:ByteArray)(z24 z25 z26:Int)(gP:List AV)(z28 mF mv z31 oM:Int)(yb:List AV):Option dw.T:=
 bif decide (z6<z5)then(bif decide ((0:Int)<=z6)&&decide (z6<((z4.length:Nat):Int))then(cM ((z4.getD ((z6).toNat) .undef).cells) λTi WD=>
 dm Ti λQ4=>
 (pD.F n z7 Q4).bind λLG=>
 bif decide (LG<0)then(some ([],[],[],dQ,11))else(bif decide (yb.length+[vi LG].length<=eR)then(c (.z21 z1 z2 z3 z4 z5 (IntKind.i64.wrap (z6+1)) z7 z8 z9 dy dO z12 dN dQ dR dV ef ee eD z20 z21 z22 z23 z24 z25 z26 gP z28 mF mv z31 oM (yb++[vi LG])))else none))else none)else(let Nk:List AV:=[AV.agg [vi oM,.sl ⟨true,3,false⟩ 1 yb]]
 bif decide (z8.length+Nk.length<=eR)then(c (.dQ z1 z2 (IntKind.i64.wrap (z3+1)) z7 (z8++Nk) z9 dy dO z12 dN))else none)
def dw.NH(n:Nat)(c:dw.Z->Option dw.T)(z1 z2 z3 z4:List AV)(z5 z6 z7:Int):Option dw.T:=
 bif decide ((0:Int)<=z6)&&decide (z6<((4:Nat):Int))then(cM (jV ((z6).toNat*1) [.sl ⟨true,3,false⟩ 1 z1,.sl ⟨true,3,false⟩ 1 z2,.sl ⟨true,3,false⟩ 1 z3,.sl ⟨true,3,false⟩ 1 z4]) λTh WC=>
 gq ⟨true,3,false⟩ 1 Th λKh=>
 bif decide ((0:Int)<=z7)&&decide (z7<((Kh.length:Nat):Int))then(cM ((Kh.getD ((z7).toNat) .undef).cells) λTg WB=>
 cQ .i64 Tg λQR=>
 some ([],[],[],QR,z5))else none)else none
def dw.r(n:Nat)(c:dw.Z->Option dw.T):dw.Z->Option dw.T
 | .z4 z1 z2 z3 z4 z5 z6 z7 z8 z9 dy=>dw.r4 n c z1 z2 z3 z4 z5 z6 z7 z8 z9 dy
 | .z6 z1 z2 z3 z4 z5 z6 z7 z8 z9 dy dO z12 dN dQ dR dV ef ee eD z20 z21 z22 z23 z24 z25 z26 gP z28=>dw.r6 n c z1 z2 z3 z4 z5 z6 z7 z8 z9 dy dO z12 dN dQ dR dV ef ee eD z20 z21 z22 z23 z24 z25 z26 gP z28
 | .z7 z1 z2 z3 z4 z5 z6 z7 z8 z9 dy dO z12 dN dQ dR dV ef ee eD z20 z21 z22 z23 z24 z25 z26 gP z28=>dw.r7 n c z1 z2 z3 z4 z5 z6 z7 z8 z9 dy dO z12 dN dQ dR dV ef ee eD z20 z21 z22 z23 z24 z25 z26 gP z28
 | .z12 z1 z2 z3 z4 z5 z6 z7 z8 z9 dy=>dw.uM n c z1 z2 z3 z4 z5 z6 z7 z8 z9 dy
 | .dQ z1 z2 z3 z4 z5 z6 z7 z8 z9 dy=>dw.As n c z1 z2 z3 z4 z5 z6 z7 z8 z9 dy
 | .z21 z1 z2 z3 z4 z5 z6 z7 z8 z9 dy dO z12 dN dQ dR dV ef ee eD z20 z21 z22 z23 z24 z25 z26 gP z28 mF mv z31 oM yb=>dw.wW n c z1 z2 z3 z4 z5 z6 z7 z8 z9 dy dO z12 dN dQ dR dV ef ee eD z20 z21 z22 z23 z24 z25 z26 gP z28 mF mv z31 oM yb
 | .oM z1 z2 z3 z4 z5 z6 z7=>dw.NH n c z1 z2 z3 z4 z5 z6 z7
def dw.e(n:Nat)(c:dw.Z->Option dw.T)(a0:List AV):Option dw.T:=
 c (.z4 a0 a0 ((a0.length:Nat):Int) 0 [] [] [vi 0] [] [] [])
def dw.l(n:Nat):Nat->dw.Z->Option dw.T:=eg (dw.r n)
def dw.F(n:Nat)(a0:List AV):Option dw.T:=dw.e n (dw.l n n) a0
def dw.k:List (fO Tryz.prog):=[eL.u,pD.u]
def dw.c:List (Nat × kK):=[(4,⟨[0,2,5,6,19,20,21],[(5,some 2,⟨true,82,false⟩,4),(6,some 3,⟨true,3,false⟩,1),(6,some 2,⟨true,3,false⟩,1),(5,some 0,⟨true,74,false⟩,10),(6,some 1,⟨true,3,false⟩,1)]⟩),(6,⟨[0,2,5,6,8,19,20,21],[(8,some 2000001,⟨true,0,false⟩,4)]⟩),(7,⟨[0,2,5,6,8,19,20,21],[]⟩),(12,⟨[0,2,5,6,19,20,21],[]⟩),(14,⟨[2,5,6,57,58,59],[(5,some 1,⟨false,86,false⟩,2)]⟩),(21,⟨[2,5,6,10,11,57,58,59,82,83,84],[(11,some 1,⟨true,3,false⟩,1)]⟩),(32,⟨[2,6,15,16],[(6,some 1000000,⟨true,0,false⟩,0)]⟩)]
theorem dw.h4(n:Nat)(rec:List Item->St->Option dw.T)(z1 z2:List AV)(z3 z4:Int)(z5 z6 z7 z8 z9 dy:List AV):B1 G (nO n dw.k) (py dw.c) (λS=>lK G Tryz.f63.resultTypes.toList Tryz.f63.results.toList S dw.q) rec (sC Tryz.f63 (dw.s (.z4 z1 z2 z3 z4 z5 z6 z7 z8 z9 dy)).1) (dw.s (.z4 z1 z2 z3 z4 z5 z6 z7 z8 z9 dy)).2=dw.r n (λz=>rec (sC Tryz.f63 (dw.s z).1) (dw.s z).2) (.z4 z1 z2 z3 z4 z5 z6 z7 z8 z9 dy):=by kernel_rfl
theorem dw.h6(n:Nat)(rec:List Item->St->Option dw.T)(z1 z2:List AV)(z3 z4:Int)(z5 z6 z7 z8 z9 dy:List AV)(dO z12:Int)(dN:ByteArray)(dQ dR dV ef ee:Int)(eD z20:ByteArray)(z21 z22 z23:Int)(z24:List AV)(z25 z26 gP z28:Int):B1 G (nO n dw.k) (py dw.c) (λS=>lK G Tryz.f63.resultTypes.toList Tryz.f63.results.toList S dw.q) rec (sC Tryz.f63 (dw.s (.z6 z1 z2 z3 z4 z5 z6 z7 z8 z9 dy dO z12 dN dQ dR dV ef ee eD z20 z21 z22 z23 z24 z25 z26 gP z28)).1) (dw.s (.z6 z1 z2 z3 z4 z5 z6 z7 z8 z9 dy dO z12 dN dQ dR dV ef ee eD z20 z21 z22 z23 z24 z25 z26 gP z28)).2=dw.r n (λz=>rec (sC Tryz.f63 (dw.s z).1) (dw.s z).2) (.z6 z1 z2 z3 z4 z5 z6 z7 z8 z9 dy dO z12 dN dQ dR dV ef ee eD z20 z21 z22 z23 z24 z25 z26 gP z28):=by kernel_rfl
theorem dw.h7(n:Nat)(rec:List Item->St->Option dw.T)(z1 z2:List AV)(z3 z4:Int)(z5 z6 z7 z8 z9 dy:List AV)(dO z12:Int)(dN:ByteArray)(dQ dR dV ef ee:Int)(eD z20:ByteArray)(z21 z22 z23:Int)(z24:List AV)(z25 z26 gP z28:Int):B1 G (nO n dw.k) (py dw.c) (λS=>lK G Tryz.f63.resultTypes.toList Tryz.f63.results.toList S dw.q) rec (sC Tryz.f63 (dw.s (.z7 z1 z2 z3 z4 z5 z6 z7 z8 z9 dy dO z12 dN dQ dR dV ef ee eD z20 z21 z22 z23 z24 z25 z26 gP z28)).1) (dw.s (.z7 z1 z2 z3 z4 z5 z6 z7 z8 z9 dy dO z12 dN dQ dR dV ef ee eD z20 z21 z22 z23 z24 z25 z26 gP z28)).2=dw.r n (λz=>rec (sC Tryz.f63 (dw.s z).1) (dw.s z).2) (.z7 z1 z2 z3 z4 z5 z6 z7 z8 z9 dy dO z12 dN dQ dR dV ef ee eD z20 z21 z22 z23 z24 z25 z26 gP z28):=by kernel_rfl
theorem dw.OW(n:Nat)(rec:List Item->St->Option dw.T)(z1 z2:List AV)(z3 z4:Int)(z5 z6 z7 z8 z9 dy:List AV):B1 G (nO n dw.k) (py dw.c) (λS=>lK G Tryz.f63.resultTypes.toList Tryz.f63.results.toList S dw.q) rec (sC Tryz.f63 (dw.s (.z12 z1 z2 z3 z4 z5 z6 z7 z8 z9 dy)).1) (dw.s (.z12 z1 z2 z3 z4 z5 z6 z7 z8 z9 dy)).2=dw.r n (λz=>rec (sC Tryz.f63 (dw.s z).1) (dw.s z).2) (.z12 z1 z2 z3 z4 z5 z6 z7 z8 z9 dy):=by kernel_rfl
theorem dw.Ea(n:Nat)(rec:List Item->St->Option dw.T)(z1:List AV)(z2 z3:Int)(z4 z5 z6 z7 z8 z9 dy:List AV):B1 G (nO n dw.k) (py dw.c) (λS=>lK G Tryz.f63.resultTypes.toList Tryz.f63.results.toList S dw.q) rec (sC Tryz.f63 (dw.s (.dQ z1 z2 z3 z4 z5 z6 z7 z8 z9 dy)).1) (dw.s (.dQ z1 z2 z3 z4 z5 z6 z7 z8 z9 dy)).2=dw.r n (λz=>rec (sC Tryz.f63 (dw.s z).1) (dw.s z).2) (.dQ z1 z2 z3 z4 z5 z6 z7 z8 z9 dy):=by kernel_rfl
theorem dw.YR(n:Nat)(rec:List Item->St->Option dw.T)(z1:List AV)(z2 z3:Int)(z4:List AV)(z5 z6:Int)(z7 z8 z9 dy dO z12 dN:List AV)(dQ dR:Int)(dV:ByteArray)(ef ee eD z20 z21:Int)(z22 z23:ByteArray)(z24 z25 z26:Int)(gP:List AV)(z28 mF mv z31 oM:Int)(yb:List AV):B1 G (nO n dw.k) (py dw.c) (λS=>lK G Tryz.f63.resultTypes.toList Tryz.f63.results.toList S dw.q) rec (sC Tryz.f63 (dw.s (.z21 z1 z2 z3 z4 z5 z6 z7 z8 z9 dy dO z12 dN dQ dR dV ef ee eD z20 z21 z22 z23 z24 z25 z26 gP z28 mF mv z31 oM yb)).1) (dw.s (.z21 z1 z2 z3 z4 z5 z6 z7 z8 z9 dy dO z12 dN dQ dR dV ef ee eD z20 z21 z22 z23 z24 z25 z26 gP z28 mF mv z31 oM yb)).2=dw.r n (λz=>rec (sC Tryz.f63 (dw.s z).1) (dw.s z).2) (.z21 z1 z2 z3 z4 z5 z6 z7 z8 z9 dy dO z12 dN dQ dR dV ef ee eD z20 z21 z22 z23 z24 z25 z26 gP z28 mF mv z31 oM yb):=by kernel_rfl
theorem dw.JL(n:Nat)(rec:List Item->St->Option dw.T)(z1 z2 z3 z4:List AV)(z5 z6 z7:Int):B1 G (nO n dw.k) (py dw.c) (λS=>lK G Tryz.f63.resultTypes.toList Tryz.f63.results.toList S dw.q) rec (sC Tryz.f63 (dw.s (.oM z1 z2 z3 z4 z5 z6 z7)).1) (dw.s (.oM z1 z2 z3 z4 z5 z6 z7)).2=dw.r n (λz=>rec (sC Tryz.f63 (dw.s z).1) (dw.s z).2) (.oM z1 z2 z3 z4 z5 z6 z7):=by kernel_rfl
theorem dw.he(n:Nat)(rec:List Item->St->Option dw.T)(a:dw.A):qZ G (nO n dw.k) (py dw.c) (λS=>lK G Tryz.f63.resultTypes.toList Tryz.f63.results.toList S dw.q) rec 1000 [.code (Tryz.f63.body.getD .skip)] (_root_.Go.Proofs.Ev.start Tryz.f63 (dw.i a))=(λc=>kP (dw.e n c)) (λz=>rec (sC Tryz.f63 (dw.s z).1) (dw.s z).2) a:=by kernel_rfl
theorem dw.cZ(n:Nat):dt Tryz.prog 63 dw.i dw.p (kP (dw.e n (dw.l n n))):=pf dw.c dw.s (λc=>kP (dw.e n c)) (dw.r n) dw.k cx dw.qi Tryz.func63 (dw.he n) (λrec z=>match z with | .z4 z1 z2 z3 z4 z5 z6 z7 z8 z9 dy=>dw.h4 n rec z1 z2 z3 z4 z5 z6 z7 z8 z9 dy | .z6 z1 z2 z3 z4 z5 z6 z7 z8 z9 dy dO z12 dN dQ dR dV ef ee eD z20 z21 z22 z23 z24 z25 z26 gP z28=>dw.h6 n rec z1 z2 z3 z4 z5 z6 z7 z8 z9 dy dO z12 dN dQ dR dV ef ee eD z20 z21 z22 z23 z24 z25 z26 gP z28 | .z7 z1 z2 z3 z4 z5 z6 z7 z8 z9 dy dO z12 dN dQ dR dV ef ee eD z20 z21 z22 z23 z24 z25 z26 gP z28=>dw.h7 n rec z1 z2 z3 z4 z5 z6 z7 z8 z9 dy dO z12 dN dQ dR dV ef ee eD z20 z21 z22 z23 z24 z25 z26 gP z28 | .z12 z1 z2 z3 z4 z5 z6 z7 z8 z9 dy=>dw.OW n rec z1 z2 z3 z4 z5 z6 z7 z8 z9 dy | .dQ z1 z2 z3 z4 z5 z6 z7 z8 z9 dy=>dw.Ea n rec z1 z2 z3 z4 z5 z6 z7 z8 z9 dy | .z21 z1 z2 z3 z4 z5 z6 z7 z8 z9 dy dO z12 dN dQ dR dV ef ee eD z20 z21 z22 z23 z24 z25 z26 gP z28 mF mv z31 oM yb=>dw.YR n rec z1 z2 z3 z4 z5 z6 z7 z8 z9 dy dO z12 dN dQ dR dV ef ee eD z20 z21 z22 z23 z24 z25 z26 gP z28 mF mv z31 oM yb | .oM z1 z2 z3 z4 z5 z6 z7=>dw.JL n rec z1 z2 z3 z4 z5 z6 z7)
def dw.u:fO Tryz.prog:=gT dw.oi dw.cZ
inductive je.Z where
 | z5 (z1:ByteArray) (z2 z3:Int) (z4:List AV)
 | dy (z1:Int)
def je.s:je.Z->Nat × St
 | .z5 z1 z2 z3 z4=>gX 5 74 [(0,vs z1),(2,.ptr 0 0),(5,.own 1 0 none),(6,vi z2),(7,vi z3)] [.box 26 [.v (.slice none 0 0),.v (.slice none 0 0),.v (.slice none 0 0)],.row ⟨false,109,false⟩ 18 z4]
 | .dy z1=>gX 10 74 [(2,.ptr 0 0),(6,vi z1)] [.box 26 [.v (.slice none 0 0),.v (.slice none 0 0),.v (.slice none 0 0)]]
def je.r5(n:Nat)(c:je.Z->Option dw.T)(z1:ByteArray)(z2 z3:Int)(z4:List AV):Option dw.T:=
 let y2:Bool:=decide (z2<((z1.size:Nat):Int))
 bif y2 then(bif decide ((0:Int)<=z2)&&decide ((z2:Int)<=((z1.size:Nat):Int))then(let y3:ByteArray:=z1.extract (z2).toNat z1.size
 (nt.F n y3 (⟨#[59,10]⟩:ByteArray)).bind λp4=>
 let y5:Int:=IntKind.i64.wrap (z2+((p4.1.size:Nat):Int))
 bif decide ((0:Int)<=y5)&&decide ((y5:Int)<=((z1.size:Nat):Int))then(let y6:ByteArray:=z1.extract (y5).toNat z1.size
 (Df.F n y6 (⟨#[59,10]⟩:ByteArray)).bind λp7=>
 (gN.F n p4.1).bind λp8=>
 bif !p8.2.2.2.2.2.2.2.2.2.2.2.2.2.2.2.2.2.2 then(c (.dy z2))else(bif !p7 then(c (.dy z2))else(bif decide (p8.2.1<z3)then(c (.dy z2))else(let y9:List AV:=[AV.agg [vi z2,vi p8.2.1,vs p8.2.2.1,vi p8.2.2.2.1,vi p8.2.2.2.2.1,vi p8.2.2.2.2.2.1,vi p8.2.2.2.2.2.2.1,vi p8.2.2.2.2.2.2.2.1,vs p8.2.2.2.2.2.2.2.2.1,vs p8.2.2.2.2.2.2.2.2.2.1,vi p8.2.2.2.2.2.2.2.2.2.2.1,vi p8.2.2.2.2.2.2.2.2.2.2.2.1,vi p8.2.2.2.2.2.2.2.2.2.2.2.2.1,.sl ⟨true,9,false⟩ 1 p8.2.2.2.2.2.2.2.2.2.2.2.2.2.1,vi p8.2.2.2.2.2.2.2.2.2.2.2.2.2.2.1,vi p8.2.2.2.2.2.2.2.2.2.2.2.2.2.2.2.1,vi p8.2.2.2.2.2.2.2.2.2.2.2.2.2.2.2.2.1,vi p8.2.2.2.2.2.2.2.2.2.2.2.2.2.2.2.2.2.1]]
 bif decide (z4.length+y9.length<=eR)then(let pJ:Int:=IntKind.i64.wrap (((p4.1.size:Nat):Int)+2)
 c (.z5 z1 (IntKind.i64.wrap (z2+pJ)) p8.2.1 (z4++y9)))else none))))else none)else none)else((dw.F n z4).bind λoZ=>
 some (oZ.1,oZ.2.1,oZ.2.2.1,oZ.2.2.2.1,oZ.2.2.2.2))
def je.A3(n:Nat)(c:je.Z->Option dw.T)(z1:Int):Option dw.T:=
 some ([],[],[],z1,8)
def je.r(n:Nat)(c:je.Z->Option dw.T):je.Z->Option dw.T
 | .z5 z1 z2 z3 z4=>je.r5 n c z1 z2 z3 z4
 | .dy z1=>je.A3 n c z1
def je.e(n:Nat)(c:je.Z->Option dw.T)(a0:ByteArray):Option dw.T:=
 let y1:Bool:=decide (((a0.size:Nat):Int)>6000)
 bif y1 then(some ([],[],[],0,2))else(c (.z5 a0 0 1 []))
def je.l(n:Nat):Nat->je.Z->Option dw.T:=eg (je.r n)
def je.F(n:Nat)(a0:ByteArray):Option dw.T:=je.e n (je.l n n) a0
theorem je.cZ(n:Nat):dt Tryz.prog 20 fI.i dw.p (kP (je.e n (je.l n n))):=pf [(5,⟨[0,2,5,6,7],[(5,none,⟨false,109,false⟩,18)]⟩),(10,⟨[2,6],[]⟩)] je.s (λc=>kP (je.e n c)) (je.r n) [nt.u,Df.u,gN.u,dw.u] cx dw.qi Tryz.func20
def je.u:fO Tryz.prog:=gT fI.oi je.cZ
def Ng.e(n:Nat)(a0 a1 a2:Int):Option Bool:=
 bif decide (a1<=a0)then(some (decide (a0<=a2)))else(some false)
def Ng.F(n:Nat)(a0 a1 a2:Int):Option Bool:=Ng.e n a0 a1 a2
abbrev lp.A:=Int
abbrev lp.T:=ByteArray
def lp.e(n:Nat)(Y:lp.A->Option ByteArray)(a0:Int):Option ByteArray:=
 bif decide (a0<(-9))then(let y1:Int:=IntKind.i64.wrap (Int.tdiv a0 10)
 (Y (IntKind.i64.wrap (0 - y1))).bind λp2=>
 eW (decide (1+p2.size<=9223372036854775807)) ((Y (IntKind.i64.wrap (0 - (Int.tmod a0 10)))).bind λp3=>
 eW (decide (((⟨#[45]⟩:ByteArray)++p2).size+p3.size<=9223372036854775807)) (let y4:ByteArray:=((⟨#[45]⟩:ByteArray)++p2)++p3
 some y4)))else(bif decide (a0<0)then((Y (IntKind.i64.wrap (0 - a0))).bind λp5=>
 eW (decide (1+p5.size<=9223372036854775807)) (some ((⟨#[45]⟩:ByteArray)++p5)))else(bif decide (a0<10)then(let y6:Int:=IntKind.i64.wrap ((48:Int)+a0)
 cR (strOf [vu (IntKind.u8.wrap y6)]) λTz=>
 some (⟨Tz.toArray⟩:ByteArray))else(let y8:Int:=IntKind.i64.wrap (Int.tdiv a0 10)
 (Y y8).bind λp9=>
 let pJ:Int:=IntKind.i64.wrap ((48:Int)+(Int.tmod a0 10))
 cR (strOf [vu (IntKind.u8.wrap pJ)]) λPu=>
 eW (decide (p9.size+(⟨Pu.toArray⟩:ByteArray).size<=9223372036854775807)) (let Fq:ByteArray:=p9++(⟨Pu.toArray⟩:ByteArray)
 some Fq))))
def lp.E(n:Nat)(Y:lp.A->Option ByteArray):lp.A->Option lp.T:=λa0=>lp.e n Y a0
def lp.D(n d:Nat):lp.A->Option lp.T:=HK (Z:=Empty) (λY _=>lp.E n Y) (λ_ _ z=>nomatch z) n d
theorem lp.uy(n d:Nat)(a0:Int):lp.D n (d+1) a0=lp.e n (lp.D n d) a0:=rfl
def lp.F(n:Nat)(a0:Int):Option ByteArray:=lp.D n n a0
def PG.e(n:Nat)(a0:Int):Option Int:=
 let y1:Int:=if IntKind.i64.wrap (0 - a0)>a0 then IntKind.i64.wrap (0 - a0)else a0
 some y1
def PG.F(n:Nat)(a0:Int):Option Int:=PG.e n a0
inductive nu.Z where
 | z2 (z1:ByteArray) (z2 z3:Int)
 | z8 (z1:ByteArray)
def nu.s:nu.Z->Nat × St
 | .z2 z1 z2 z3=>gX 2 40 [(1,.ptr 0 0),(3,vs z1)] [.box 183 [vi z2,vi z3]]
 | .z8 z1=>gX 8 40 [(3,vs z1)] []
def nu.r2(n:Nat)(c:nu.Z->Option ByteArray)(z1:ByteArray)(z2 z3:Int):Option ByteArray:=
 let y3:Bool:=decide (((z1.size:Nat):Int)<=z3)
 bif y3 then(eW (decide (1+z1.size<=9223372036854775807)) (c (.z2 ((⟨#[48]⟩:ByteArray)++z1) z2 z3)))else(bif decide (z3>0)then(let y4:Int:=IntKind.i64.wrap (((z1.size:Nat):Int) - z3)
 bif decide ((0:Int)<=y4)&&decide ((y4:Int)<=((z1.size:Nat):Int))then(eW (decide ((z1.extract 0 (y4).toNat).size+1<=9223372036854775807)) (let y5:ByteArray:=(z1.extract 0 (y4).toNat)++(⟨#[46]⟩:ByteArray)
 let y6:Int:=IntKind.i64.wrap (((z1.size:Nat):Int) - z3)
 bif decide ((0:Int)<=y6)&&decide ((y6:Int)<=((z1.size:Nat):Int))then(let y7:ByteArray:=z1.extract (y6).toNat z1.size
 eW (decide (y5.size+y7.size<=9223372036854775807)) (bif decide (z2<0)then(eW (decide (1+(y5++y7).size<=9223372036854775807)) (let y8:ByteArray:=(⟨#[45]⟩:ByteArray)++(y5++y7)
 c (.z8 y8)))else(c (.z8 (y5++y7)))))else none))else none)else(bif decide (z2<0)then(eW (decide (1+z1.size<=9223372036854775807)) (c (.z8 ((⟨#[45]⟩:ByteArray)++z1))))else(c (.z8 z1))))
def nu.r8(n:Nat)(c:nu.Z->Option ByteArray)(z1:ByteArray):Option ByteArray:=
 some z1
def nu.r(n:Nat)(c:nu.Z->Option ByteArray):nu.Z->Option ByteArray
 | .z2 z1 z2 z3=>nu.r2 n c z1 z2 z3
 | .z8 z1=>nu.r8 n c z1
def nu.e(n:Nat)(c:nu.Z->Option ByteArray)(a0 a1:Int):Option ByteArray:=
 (PG.F n a0).bind λp1=>
 (lp.F n p1).bind λp2=>
 c (.z2 p2 a0 a1)
def nu.l(n:Nat):Nat->nu.Z->Option ByteArray:=eg (nu.r n)
def nu.F(n:Nat)(a0 a1:Int):Option ByteArray:=nu.e n (nu.l n n) a0 a1
inductive pE.Z where
 | z2 (z1:ByteArray) (z2:Int)
def pE.s:pE.Z->Nat × St
 | .z2 z1 z2=>gX 2 16 [(0,vs z1),(3,vi z2)] []
def pE.r2(n:Nat)(c:pE.Z->Option Bool)(z1:ByteArray)(z2:Int):Option Bool:=
 let y1:Bool:=decide (z2<((z1.size:Nat):Int))
 bif y1 then(bif decide ((0:Int)<=z2)&&decide (z2<((z1.size:Nat):Int))then(let y2:Int:=(((z1.data.getD ((z2).toNat) 0).toNat:Nat):Int)
 (Ng.F n (IntKind.i64.wrap y2) 32 126).bind λp3=>
 bif !p3 then(some false)else(c (.z2 z1 (IntKind.i64.wrap (z2+1)))))else none)else(some true)
def pE.r(n:Nat)(c:pE.Z->Option Bool):pE.Z->Option Bool
 | .z2 z1 z2=>pE.r2 n c z1 z2
def pE.e(n:Nat)(c:pE.Z->Option Bool)(a0:ByteArray):Option Bool:=
 c (.z2 a0 0)
def pE.l(n:Nat):Nat->pE.Z->Option Bool:=eg (pE.r n)
def pE.F(n:Nat)(a0:ByteArray):Option Bool:=pE.e n (pE.l n n) a0
inductive jf.Z where
 | z2
 | z4 (z1:Int) (z2 z3 z4:List AV)
 | z8
 | dy (z1:Int) (z2 z3 z4:List AV)
def jf.s:jf.Z->Nat × St
 | .z2=>gX 2 66 [] []
 | .z4 z1 z2 z3 z4=>gX 4 66 [(1,.ptr 0 0),(3,vi z1)] [.box 26 [.sl ⟨true,74,false⟩ 10 z2,.sl ⟨false,86,false⟩ 2 z3,.sl ⟨true,82,false⟩ 4 z4]]
 | .z8=>gX 8 66 [] []
 | .dy z1 z2 z3 z4=>gX 10 66 [(1,.ptr 0 0),(5,vi z1)] [.box 26 [.sl ⟨true,74,false⟩ 10 z2,.sl ⟨false,86,false⟩ 2 z3,.sl ⟨true,82,false⟩ 4 z4]]
def jf.r2(n:Nat)(c:jf.Z->Option Bool)  : Option Bool:=
 some false
def jf.r4(n:Nat)(c:jf.Z->Option Bool)(z1:Int)(z2 z3 z4:List AV):Option Bool:=
 let y4:Bool:=decide (z1<((z2.length:Nat):Int))
 bif y4 then(bif decide ((0:Int)<=z1)&&decide (z1<((z2.length:Nat):Int))then(cM ((z2.getD ((z1).toNat) .undef).cells) λh5 r6=>
 dm h5 λs7=>
 cM r6 λh8 r9=>
 cQ .i64 h8 λLl=>
 cM r9 λHl uM=>
 cQ .i64 Hl λLk=>
 cM uM λEa rI=>
 cQ .i64 Ea λIm=>
 cM rI λBK Co=>
 cQ .i64 BK λDk=>
 cM Co λBJ wW=>
 cQ .i64 BJ λKi=>
 cM wW λBI Cm=>
 dm BI λKu=>
 cM Cm λBH DE=>
 dm BH λQ3=>
 cM DE λHk Kz=>
 cQ .i64 Hk λLj=>
 cM Kz λJL NG=>
 cQ .i64 JL λTM=>
 let Vl:Bool:=decide (((s7.size:Nat):Int)>100)
 bif Vl then(c .z8)else(let Vk:Bool:=decide (((Q3.size:Nat):Int)>100)
 bif Vk then(c .z8)else(let Vj:Bool:=decide (((Ku.size:Nat):Int)>600)
 bif Vj then(c .z8)else(c (.z4 (IntKind.i64.wrap (z1+1)) z2 z3 z4)))))else none)else(c (.dy 0 z2 z3 z4))
def jf.r8(n:Nat)(c:jf.Z->Option Bool)  : Option Bool:=
 some false
def jf.A3(n:Nat)(c:jf.Z->Option Bool)(z1:Int)(z2 z3 z4:List AV):Option Bool:=
 let Qv:Bool:=decide (z1<((z3.length:Nat):Int))
 bif Qv then(bif decide ((0:Int)<=z1)&&decide (z1<((z3.length:Nat):Int))then(cM (((z3.getD ((z1).toNat) .undef).cells).drop 1) λTc Wx=>
 gq ⟨true,3,false⟩ 1 Tc λQE=>
 let Vi:Bool:=decide (((QE.length:Nat):Int)>6)
 bif Vi then(some false)else(c (.dy (IntKind.i64.wrap (z1+1)) z2 z3 z4)))else none)else(some true)
def jf.r(n:Nat)(c:jf.Z->Option Bool):jf.Z->Option Bool
 | .z2=>jf.r2 n c
 | .z4 z1 z2 z3 z4=>jf.r4 n c z1 z2 z3 z4
 | .z8=>jf.r8 n c
 | .dy z1 z2 z3 z4=>jf.A3 n c z1 z2 z3 z4
def jf.e(n:Nat)(c:jf.Z->Option Bool)(a0 a1 a2:List AV):Option Bool:=
 let y1:Bool:=decide (((a0.length:Nat):Int)>28)
 bif y1 then(c .z2)else(let y2:Bool:=decide (((a1.length:Nat):Int)>44)
 bif y2 then(c .z2)else(let y3:Bool:=decide (((a2.length:Nat):Int)>9)
 bif y3 then(c .z2)else(c (.z4 0 a0 a1 a2))))
def jf.l(n:Nat):Nat->jf.Z->Option Bool:=eg (jf.r n)
def jf.F(n:Nat)(a0 a1 a2:List AV):Option Bool:=jf.e n (jf.l n n) a0 a1 a2
theorem jf.cZ(n:Nat):dt Tryz.prog 13 eL.i fY.p (rG (jf.e n (jf.l n n))):=pf [(2,⟨[],[]⟩),(4,⟨[1,3],[]⟩),(8,⟨[],[]⟩),(10,⟨[1,5],[]⟩)] jf.s (λc=>rG (jf.e n c)) (jf.r n) [] cx fY.qi Tryz.func13
def jf.u:fO Tryz.prog:=gT eL.oi jf.cZ
abbrev uw.A:=List AV
def uw.i:uw.A->List AV:=λa0=>[.sl ⟨true,3,false⟩ 1 a0]
def uw.o(xs:List AV):Option uw.A:=match xs with | [.sl ⟨true,3,false⟩ 1 a0]=>some a0 | _=>none
theorem uw.oi:∀xs a,uw.o xs=some a->xs=uw.i a:=by
 intro xs a h;unfold uw.o at h;split at h
 ·cases h;rfl
 ·cases h
def uw.e(n:Nat)(a0:List AV):Option (List AV):=
 bif decide (a0.length<=eR)then(some a0)else none
def uw.F(n:Nat)(a0:List AV):Option (List AV):=uw.e n a0
theorem uw.cZ(n:Nat):dt Tryz.prog 49 uw.i jW.p (kP (uw.e n)):=mA n (kP (uw.e n)) [] cx jW.qi Tryz.func49
def uw.u:fO Tryz.prog:=gT uw.oi uw.cZ
abbrev jj.T:=List AV × List AV × List AV
def jj.p(p:jj.T):AV:=AV.agg [.fr ⟨true,74,false⟩ 10 p.1,.fr ⟨false,86,false⟩ 2 p.2.1,.fr ⟨true,82,false⟩ 4 p.2.2]
def jj.q(x:AV):Option jj.T:=match x with | .agg [.fr ⟨true,74,false⟩ 10 p0,.fr ⟨false,86,false⟩ 2 p1,.fr ⟨true,82,false⟩ 4 p2]=>some (p0,p1,p2) | _=>none
theorem jj.qi:∀x p,jj.q x=some p->x=jj.p p:=by
 intro x p h;unfold jj.q at h;split at h
 ·cases h;rfl
 ·cases h
inductive jj.Z where
 | z3 (z1:Int) (z2 z3 z4 z5 z6 z7:List AV)
def jj.s:jj.Z->Nat × St
 | .z3 z1 z2 z3 z4 z5 z6 z7=>gX 3 39 [(1,.ptr 0 0),(2,.ptr 1 0),(3,.ptr 2 0),(4,vi z1)] [.box 26 [.sl ⟨true,74,false⟩ 10 z2,.sl ⟨false,86,false⟩ 2 z3,.sl ⟨true,82,false⟩ 4 z4],.box 26 [.v (.slice none 0 0),.v (.slice none 0 0),.v (.slice none 0 0)],.box 26 [.own 3 0 none,.own 4 0 none,.own 5 0 none],.row ⟨true,74,false⟩ 10 z5,.row ⟨false,86,false⟩ 2 z6,.row ⟨true,82,false⟩ 4 z7]
def jj.r3(n:Nat)(c:jj.Z->Option jj.T)(z1:Int)(z2 z3 z4 z5 z6 z7:List AV):Option jj.T:=
 let y1:Bool:=decide (z1<((z3.length:Nat):Int))
 bif y1 then(bif decide ((0:Int)<=z1)&&decide (z1<((z3.length:Nat):Int))then(cM ((z3.getD ((z1).toNat) .undef).cells) λh2 r3=>
 cQ .i64 h2 λx4=>
 bif decide ((0:Int)<=z1)&&decide (z1<((z3.length:Nat):Int))then(cM (((z3.getD ((z1).toNat) .undef).cells).drop 1) λh5 r6=>
 gq ⟨true,3,false⟩ 1 h5 λVp=>
 (uw.F n Vp).bind λp8=>
 let y9:List AV:=[AV.agg [vi x4,.sl ⟨true,3,false⟩ 1 p8]]
 bif decide (z6.length+y9.length<=eR)then(c (.z3 (IntKind.i64.wrap (z1+1)) z2 z3 z4 z5 (z6++y9) z7))else none)else none)else none)else(some (z5,z6,z7))
def jj.r(n:Nat)(c:jj.Z->Option jj.T):jj.Z->Option jj.T
 | .z3 z1 z2 z3 z4 z5 z6 z7=>jj.r3 n c z1 z2 z3 z4 z5 z6 z7
def jj.e(n:Nat)(c:jj.Z->Option jj.T)(a0 a1 a2:List AV):Option jj.T:=
 bif decide (a0.length<=eR)then(bif decide (a2.length<=eR)then(c (.z3 0 a0 a1 a2 a0 [] a2))else none)else none
def jj.l(n:Nat):Nat->jj.Z->Option jj.T:=eg (jj.r n)
def jj.F(n:Nat)(a0 a1 a2:List AV):Option jj.T:=jj.e n (jj.l n n) a0 a1 a2
theorem jj.cZ(n:Nat):dt Tryz.prog 15 eL.i jj.p (rG (jj.e n (jj.l n n))):=pf [(3,⟨[1,2,3,4],[(3,some 1,⟨false,86,false⟩,2)]⟩)] jj.s (λc=>rG (jj.e n c)) (jj.r n) [uw.u] cx jj.qi Tryz.func15
def jj.u:fO Tryz.prog:=gT eL.oi jj.cZ
def If.e(n:Nat)(a0 a1 a2:List AV):Option Bool:=
 let y1:Bool:=((a0.length:Nat):Int)==0
 bif y1 then(let y2:Bool:=((a1.length:Nat):Int)==0
 bif y2 then(let y3:Bool:=((a2.length:Nat):Int)==0
 some y3)else(some false))else(some false)
def If.F(n:Nat)(a0 a1 a2:List AV):Option Bool:=If.e n a0 a1 a2
theorem If.cZ(n:Nat):dt Tryz.prog 23 eL.i fY.p (rG (If.e n)):=mA n (rG (If.e n)) [] cx fY.qi Tryz.func23
def If.u:fO Tryz.prog:=gT eL.oi If.cZ
abbrev n6.A:=List AV × List AV × List AV × ByteArray
def n6.i:n6.A->List AV:=fun(a0,a1,a2,a3)=>[AV.agg [.sl ⟨true,74,false⟩ 10 a0,.sl ⟨false,86,false⟩ 2 a1,.sl ⟨true,82,false⟩ 4 a2],vs a3]
def n6.o(xs:List AV):Option n6.A:=match xs with | [.agg [.sl ⟨true,74,false⟩ 10 a0,.sl ⟨false,86,false⟩ 2 a1,.sl ⟨true,82,false⟩ 4 a2],.v (.string a3)]=>some (a0,a1,a2,a3) | _=>none
inductive n6.Z where
 | z9
def n6.s:n6.Z->Nat × St
 | .z9=>gX 9 73 [] []
def n6.r9(n:Nat)(c:n6.Z->Option Bool)  : Option Bool:=
 some false
def n6.r(n:Nat)(c:n6.Z->Option Bool):n6.Z->Option Bool
 | .z9=>n6.r9 n c
def n6.e(n:Nat)(c:n6.Z->Option Bool)(a0 a1 a2:List AV)(a3:ByteArray):Option Bool:=
 (x_.F n ).bind λp1=>
 bif !p1 then(some false)else((jf.F n a0 a1 a2).bind λp2=>
 bif !p2 then(some true)else(let y3:Bool:=decide (((a3.size:Nat):Int)>6100)
 bif y3 then(some true)else((jj.F n a0 a1 a2).bind λp4=>
 (gC.F n p4.1 p4.2.1 p4.2.2).bind λp5=>
 bif p5.2==0 then((je.F n p5.1).bind λp6=>
 bif p6.2.2.2.2 != 0 then(c .z9)else(bif p6.2.2.2.1 != 0 then(c .z9)else((gj.F n p6.1 p6.2.1 p6.2.2.1 a0 a1 a2).bind λp7=>
 bif !p7 then(c .z9)else((je.F n a3).bind λp8=>
 bif p8.2.2.2.2 != 0 then((If.F n p8.1 p8.2.1 p8.2.2.1).bind λp9=>
 some p9)else((gC.F n p8.1 p8.2.1 p8.2.2.1).bind λoG=>
 bif oG.2==0 then(some (oG.1.toList==a3.toList))else(some false))))))else((je.F n a3).bind λoZ=>
 bif oZ.2.2.2.2 != 0 then((If.F n oZ.1 oZ.2.1 oZ.2.2.1).bind λuO=>
 some uO)else((gC.F n oZ.1 oZ.2.1 oZ.2.2.1).bind λCt=>
 bif Ct.2==0 then(some (Ct.1.toList==a3.toList))else(some false))))))
def n6.l(n:Nat):Nat->n6.Z->Option Bool:=eg (n6.r n)
def n6.F(n:Nat)(a0 a1 a2:List AV)(a3:ByteArray):Option Bool:=n6.e n (n6.l n n) a0 a1 a2 a3
theorem n6.cZ(n:Nat):dt Tryz.prog 6 n6.i fY.p (Kl (n6.e n (n6.l n n))):=pf [(9,⟨[],[]⟩)] n6.s (λc=>Kl (n6.e n c)) (n6.r n) [x_.u,jf.u,jj.u,gC.u,je.u,gj.u,If.u] cx fY.qi Tryz.func6
end Go.Proofs.YtnoldakbllfmnaaGreatDoor.Ev
end