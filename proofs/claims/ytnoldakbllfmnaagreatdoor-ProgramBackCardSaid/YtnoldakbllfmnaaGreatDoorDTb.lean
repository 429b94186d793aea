import Derived.Test.YtnoldakbllfmnaaGreatDoorDTa
import Derived.Test.YtnoldakbllfmnaaGreatDoorDTVc
import Derived.Shelf.Spec.SlicesGrow
import Derived.Shelf.SlLaysE0
import Derived.Shelf.SlGeneric
import Derived.Ground.Names8Prog
import Derived.Ground.SlgnProg
import Derived.Test.YtnoldakbllfmnaaGreatDoorProg
import Derived.PlainAid
import Derived.IntWalk
import Derived.Laws.Strings
import Derived.Lib.AtoiTie
import Derived.Lib.IndexBytes
import Derived.Lib.Replace
set_option linter.all false
set_option maxRecDepth 100000
noncomputable section
namespace Go.Proofs.YtnoldakbllfmnaaGreatDoor.Ev
open Go Go.Proofs Go.Proofs.Ev
theorem dw.Ai(n m z1 z2 z3 z4 z5 z6 z7 z8 z9 dy):dw.l n (m+1) (.z4 z1 z2 z3 z4 z5 z6 z7 z8 z9 dy)=dw.r4 n (dw.l n m) z1 z2 z3 z4 z5 z6 z7 z8 z9 dy:=rfl
theorem dw.My(n m z1 z2 z3 z4 z5 z6 z7 z8 z9 dy dO z12 dN dQ dR dV ef ee eD z20 z21 z22 z23 z24 z25 z26 gP z28):dw.l n (m+1) (.z6 z1 z2 z3 z4 z5 z6 z7 z8 z9 dy dO z12 dN dQ dR dV ef ee eD z20 z21 z22 z23 z24 z25 z26 gP z28)=dw.r6 n (dw.l n m) z1 z2 z3 z4 z5 z6 z7 z8 z9 dy dO z12 dN dQ dR dV ef ee eD z20 z21 z22 z23 z24 z25 z26 gP z28:=rfl
theorem dw.EI(n m z1 z2 z3 z4 z5 z6 z7 z8 z9 dy dO z12 dN dQ dR dV ef ee eD z20 z21 z22 z23 z24 z25 z26 gP z28):dw.l n (m+1) (.z7 z1 z2 z3 z4 z5 z6 z7 z8 z9 dy dO z12 dN dQ dR dV ef ee eD z20 z21 z22 z23 z24 z25 z26 gP z28)=dw.r7 n (dw.l n m) z1 z2 z3 z4 z5 z6 z7 z8 z9 dy dO z12 dN dQ dR dV ef ee eD z20 z21 z22 z23 z24 z25 z26 gP z28:=rfl
theorem dw.H2(n m z1 z2 z3 z4 z5 z6 z7 z8 z9 dy):dw.l n (m+1) (.z12 z1 z2 z3 z4 z5 z6 z7 z8 z9 dy)=dw.uM n (dw.l n m) z1 z2 z3 z4 z5 z6 z7 z8 z9 dy:=rfl
theorem dw.HZ(n m z1 z2 z3 z4 z5 z6 z7 z8 z9 dy):dw.l n (m+1) (.dQ z1 z2 z3 z4 z5 z6 z7 z8 z9 dy)=dw.As n (dw.l n m) z1 z2 z3 z4 z5 z6 z7 z8 z9 dy:=rfl
theorem dw.Pz(n m z1 z2 z3 z4 z5 z6 z7 z8 z9 dy dO z12 dN dQ dR dV ef ee eD z20 z21 z22 z23 z24 z25 z26 gP z28 mF mv z31 oM yb):dw.l n (m+1) (.z21 z1 z2 z3 z4 z5 z6 z7 z8 z9 dy dO z12 dN dQ dR dV ef ee eD z20 z21 z22 z23 z24 z25 z26 gP z28 mF mv z31 oM yb)=dw.wW n (dw.l n m) z1 z2 z3 z4 z5 z6 z7 z8 z9 dy dO z12 dN dQ dR dV ef ee eD z20 z21 z22 z23 z24 z25 z26 gP z28 mF mv z31 oM yb:=rfl
theorem dw.TB(n m z1 z2 z3 z4 z5 z6 z7):dw.l n (m+1) (.oM z1 z2 z3 z4 z5 z6 z7)=dw.NH n (dw.l n m) z1 z2 z3 z4 z5 z6 z7:=rfl
theorem je.Nf(n m z1 z2 z3 z4):je.l n (m+1) (.z5 z1 z2 z3 z4)=je.r5 n (je.l n m) z1 z2 z3 z4:=rfl
def Kd.e(n:Nat)(a0 a1 a2:Int):Option ByteArray:=
 bif decide ((0:Int)<=a0)&&decide (a0<(([vs (⟨#[67,72,65,82]⟩:ByteArray),vs (⟨#[80,65,67,75,69,68]⟩:ByteArray),vs (⟨#[90,79,78,69,68]⟩:ByteArray),vs (⟨#[66,73,78,65,82,89]⟩:ByteArray)].length:Nat):Int))then(cM (([vs (⟨#[67,72,65,82]⟩:ByteArray),vs (⟨#[80,65,67,75,69,68]⟩:ByteArray),vs (⟨#[90,79,78,69,68]⟩:ByteArray),vs (⟨#[66,73,78,65,82,89]⟩:ByteArray)].getD ((a0).toNat) .undef).cells) λh1 r2=>
 dm h1 λs3=>
 bif a0==0 then(eW (decide (s3.size+1<=9223372036854775807)) ((lp.F n a1).bind λp4=>
 eW (decide ((s3++(⟨#[40]⟩:ByteArray)).size+p4.size<=9223372036854775807)) (let y5:ByteArray:=(s3++(⟨#[40]⟩:ByteArray))++p4
 eW (decide (y5.size+1<=9223372036854775807)) (some (y5++(⟨#[41]⟩:ByteArray))))))else(eW (decide (s3.size+1<=9223372036854775807)) ((lp.F n a1).bind λp6=>
 eW (decide ((s3++(⟨#[40]⟩:ByteArray)).size+p6.size<=9223372036854775807)) (let y7:ByteArray:=(s3++(⟨#[40]⟩:ByteArray))++p6
 eW (decide (y7.size+1<=9223372036854775807)) ((lp.F n a2).bind λp8=>
 eW (decide ((y7++(⟨#[44]⟩:ByteArray)).size+p8.size<=9223372036854775807)) (let y9:ByteArray:=(y7++(⟨#[44]⟩:ByteArray))++p8
 eW (decide (y9.size+1<=9223372036854775807)) (some (y9++(⟨#[41]⟩:ByteArray)))))))))else none
def Kd.F(n:Nat)(a0 a1 a2:Int):Option ByteArray:=Kd.e n a0 a1 a2
inductive pF.Z where
 | z3 (z1:ByteArray) (z2:Int) (z3:List AV)
def pF.s:pF.Z->Nat × St
 | .z3 z1 z2 z3=>gX 3 26 [(0,vs z1),(3,.own 0 0 none),(4,vi z2)] [.row ⟨true,5,false⟩ 1 z3]
def pF.r3(n:Nat)(c:pF.Z->Option ByteArray)(z1:ByteArray)(z2:Int)(z3:List AV):Option ByteArray:=
 let y1:Bool:=decide (z2<((z1.size:Nat):Int))
 bif y1 then(bif decide ((0:Int)<=z2)&&decide (z2<((z1.size:Nat):Int))then(let y2:Int:=(((z1.data.getD ((z2).toNat) 0).toNat:Nat):Int)
 let y3:Int:=IntKind.u8.wrap (Int.tdiv y2 16)
 bif decide ((0:Int)<=y3)&&decide (y3<((16:Nat):Int))then(let y4:Int:=((((⟨#[48,49,50,51,52,53,54,55,56,57,65,66,67,68,69,70]⟩:ByteArray).data.getD ((y3).toNat) 0).toNat:Nat):Int)
 bif decide ((0:Int)<=z2)&&decide (z2<((z1.size:Nat):Int))then(let y5:Int:=(((z1.data.getD ((z2).toNat) 0).toNat:Nat):Int)
 bif decide ((0:Int)<=Int.tmod y5 16)&&decide (Int.tmod y5 16<((16:Nat):Int))then(let y6:Int:=((((⟨#[48,49,50,51,52,53,54,55,56,57,65,66,67,68,69,70]⟩:ByteArray).data.getD ((Int.tmod y5 16).toNat) 0).toNat:Nat):Int)
 bif decide (z3.length+[vu y4,vu y6].length<=eR)then(c (.z3 z1 (IntKind.i64.wrap (z2+1)) (z3++[vu y4,vu y6])))else none)else none)else none)else none)else none)else(cR (strOf z3) λTz=>
 some (⟨Tz.toArray⟩:ByteArray))
def pF.r(n:Nat)(c:pF.Z->Option ByteArray):pF.Z->Option ByteArray
 | .z3 z1 z2 z3=>pF.r3 n c z1 z2 z3
def pF.e(n:Nat)(c:pF.Z->Option ByteArray)(a0:ByteArray):Option ByteArray:=
 c (.z3 a0 0 [])
def pF.l(n:Nat):Nat->pF.Z->Option ByteArray:=eg (pF.r n)
def pF.F(n:Nat)(a0:ByteArray):Option ByteArray:=pF.e n (pF.l n n) a0
inductive oJ.Z where
 | z7 (z1:ByteArray) (z2 z3:Int) (z4:ByteArray)
def oJ.s:oJ.Z->Nat × St
 | .z7 z1 z2 z3 z4=>gX 7 49 [(3,.ptr 0 0),(5,vs z1),(6,vi z2)] [.box 72 [vi z3,vs z4]]
def oJ.r7(n:Nat)(c:oJ.Z->Option ByteArray)(z1:ByteArray)(z2 z3:Int)(z4:ByteArray):Option ByteArray:=
 let y5:Bool:=decide (z2<((z4.size:Nat):Int))
 bif y5 then(bif decide ((0:Int)<=z2)&&decide (z2<((z4.size:Nat):Int))then(let y6:Int:=(((z4.data.getD ((z2).toNat) 0).toNat:Nat):Int)
 bif y6==39 then(eW (decide (z1.size+1<=9223372036854775807)) (bif decide ((0:Int)<=IntKind.i64.wrap (z2+1))&&decide ((IntKind.i64.wrap (z2+1):Int)<=((z4.size:Nat):Int))then(bif decide ((0:Int)<=z2)&&decide ((z2:Int)<=IntKind.i64.wrap (z2+1))then(let y7:ByteArray:=z4.extract (z2).toNat (IntKind.i64.wrap (z2+1)).toNat
 eW (decide ((z1++(⟨#[39]⟩:ByteArray)).size+y7.size<=9223372036854775807)) (let y8:ByteArray:=(z1++(⟨#[39]⟩:ByteArray))++y7
 c (.z7 y8 (IntKind.i64.wrap (z2+1)) z3 z4)))else none)else none))else(bif decide ((0:Int)<=IntKind.i64.wrap (z2+1))&&decide ((IntKind.i64.wrap (z2+1):Int)<=((z4.size:Nat):Int))then(bif decide ((0:Int)<=z2)&&decide ((z2:Int)<=IntKind.i64.wrap (z2+1))then(let y9:ByteArray:=z4.extract (z2).toNat (IntKind.i64.wrap (z2+1)).toNat
 eW (decide (z1.size+y9.size<=9223372036854775807)) (c (.z7 (z1++y9) (IntKind.i64.wrap (z2+1)) z3 z4)))else none)else none))else none)else(eW (decide (z1.size+1<=9223372036854775807)) (some (z1++(⟨#[39]⟩:ByteArray))))
def oJ.r(n:Nat)(c:oJ.Z->Option ByteArray):oJ.Z->Option ByteArray
 | .z7 z1 z2 z3 z4=>oJ.r7 n c z1 z2 z3 z4
def oJ.e(n:Nat)(c:oJ.Z->Option ByteArray)(a0 a1 a2 a3:Int)(a4:ByteArray):Option ByteArray:=
 bif a0 != 0 then((nu.F n a3 a2).bind λp1=>
 some p1)else((pE.F n a4).bind λp2=>
 bif !p2 then((pF.F n a4).bind λp3=>
 eW (decide (2+p3.size<=9223372036854775807)) (let y4:ByteArray:=(⟨#[88,39]⟩:ByteArray)++p3
 eW (decide (y4.size+1<=9223372036854775807)) (some (y4++(⟨#[39]⟩:ByteArray)))))else(c (.z7 (⟨#[39]⟩:ByteArray) 0 a3 a4)))
def oJ.l(n:Nat):Nat->oJ.Z->Option ByteArray:=eg (oJ.r n)
def oJ.F(n:Nat)(a0 a1 a2 a3:Int)(a4:ByteArray):Option ByteArray:=oJ.e n (oJ.l n n) a0 a1 a2 a3 a4
def PF.e(n:Nat)(a0:ByteArray)(a1 a2 a3 a4 a5:Int)(a6 a7:ByteArray)(a8 a9:Int):Option ByteArray:=
 bif a1==0 then(eW (decide (7+a0.size<=9223372036854775807)) (let y1:ByteArray:=(⟨#[68,67,76,32,68,68,32]⟩:ByteArray)++a0
 eW (decide (y1.size+1<=9223372036854775807)) ((Kd.F n a2 a3 a4).bind λp2=>
 eW (decide ((y1++(⟨#[32]⟩:ByteArray)).size+p2.size<=9223372036854775807)) (let y3:ByteArray:=(y1++(⟨#[32]⟩:ByteArray))++p2
 eW (decide (y3.size+6<=9223372036854775807)) (let y4:ByteArray:=y3++(⟨#[32,73,78,73,84,40]⟩:ByteArray)
 (oJ.F n a2 a3 a4 a5 a6).bind λp5=>
 eW (decide (y4.size+p5.size<=9223372036854775807)) (eW (decide ((y4++p5).size+1<=9223372036854775807)) (let y6:ByteArray:=(y4++p5)++(⟨#[41]⟩:ByteArray)
 some y6)))))))else(bif a1==1 then(eW (decide (7+a0.size<=9223372036854775807)) (let y7:ByteArray:=(⟨#[68,67,76,32,68,68,32]⟩:ByteArray)++a0
 eW (decide (y7.size+1<=9223372036854775807)) ((Kd.F n a2 a3 a4).bind λp8=>
 eW (decide ((y7++(⟨#[32]⟩:ByteArray)).size+p8.size<=9223372036854775807)) (let y9:ByteArray:=(y7++(⟨#[32]⟩:ByteArray))++p8
 eW (decide (y9.size+5<=9223372036854775807)) (let pJ:ByteArray:=y9++(⟨#[32,68,69,70,40]⟩:ByteArray)
 eW (decide (pJ.size+a7.size<=9223372036854775807)) (eW (decide ((pJ++a7).size+1<=9223372036854775807)) (let uz:ByteArray:=(pJ++a7)++(⟨#[44]⟩:ByteArray)
 (lp.F n a8).bind λuO=>
 eW (decide (uz.size+uO.size<=9223372036854775807)) (eW (decide ((uz++uO).size+1<=9223372036854775807)) (let Kg:ByteArray:=(uz++uO)++(⟨#[41]⟩:ByteArray)
 some Kg)))))))))else(bif a1==2 then(eW (decide (7+a0.size<=9223372036854775807)) (let Fp:ByteArray:=(⟨#[68,67,76,32,68,68,32]⟩:ByteArray)++a0
 eW (decide (Fp.size+1<=9223372036854775807)) ((Kd.F n a2 a3 a4).bind λGb=>
 eW (decide ((Fp++(⟨#[32]⟩:ByteArray)).size+Gb.size<=9223372036854775807)) (let Fo:ByteArray:=(Fp++(⟨#[32]⟩:ByteArray))++Gb
 eW (decide (Fo.size+5<=9223372036854775807)) (let IF:ByteArray:=Fo++(⟨#[32,66,65,83,40]⟩:ByteArray)
 eW (decide (IF.size+a7.size<=9223372036854775807)) (eW (decide ((IF++a7).size+1<=9223372036854775807)) (let Lh:ByteArray:=(IF++a7)++(⟨#[44]⟩:ByteArray)
 (lp.F n a8).bind λmM=>
 eW (decide (Lh.size+mM.size<=9223372036854775807)) (eW (decide ((Lh++mM).size+1<=9223372036854775807)) (let Qy:ByteArray:=(Lh++mM)++(⟨#[41]⟩:ByteArray)
 some Qy)))))))))else(bif a1==3 then(eW (decide (8+a0.size<=9223372036854775807)) (let Qx:ByteArray:=(⟨#[68,67,76,32,80,84,82,32]⟩:ByteArray)++a0
 some Qx))else(bif a1==4 then(eW (decide (8+a0.size<=9223372036854775807)) (let IE:ByteArray:=(⟨#[68,67,76,32,67,79,78,32]⟩:ByteArray)++a0
 eW (decide (IE.size+1<=9223372036854775807)) ((Kd.F n a2 a3 a4).bind λNO=>
 eW (decide ((IE++(⟨#[32]⟩:ByteArray)).size+NO.size<=9223372036854775807)) (let Nj:ByteArray:=(IE++(⟨#[32]⟩:ByteArray))++NO
 eW (decide (Nj.size+6<=9223372036854775807)) (let Lg:ByteArray:=Nj++(⟨#[32,73,78,73,84,40]⟩:ByteArray)
 (oJ.F n a2 a3 a4 a5 a6).bind λLD=>
 eW (decide (Lg.size+LD.size<=9223372036854775807)) (eW (decide ((Lg++LD).size+1<=9223372036854775807)) (let Ni:ByteArray:=(Lg++LD)++(⟨#[41]⟩:ByteArray)
 some Ni)))))))else(eW (decide (10+a0.size<=9223372036854775807)) (let Lf:ByteArray:=(⟨#[68,67,76,32,76,65,66,69,76,32]⟩:ByteArray)++a0
 eW (decide (Lf.size+1<=9223372036854775807)) ((lp.F n a9).bind λKB=>
 eW (decide ((Lf++(⟨#[32]⟩:ByteArray)).size+KB.size<=9223372036854775807)) (let Qw:ByteArray:=(Lf++(⟨#[32]⟩:ByteArray))++KB
 some Qw))))))))
def PF.F(n:Nat)(a0:ByteArray)(a1 a2 a3 a4 a5:Int)(a6 a7:ByteArray)(a8 a9:Int):Option ByteArray:=PF.e n a0 a1 a2 a3 a4 a5 a6 a7 a8 a9
inductive q_.Z where
 | z2 (z1:List AV) (z2 z3 z4:Int)
def q_.r2(n:Nat)(c:q_.Z->Option Int)(z1:List AV)(z2 z3 z4:Int):Option Int:=
 bif decide (z4<z3)then(bif decide ((0:Int)<=z4)&&decide (z4<((z1.length:Nat):Int))then(cM ((z1.getD ((z4).toNat) .undef).cells) λh1 r2=>
 cQ .i64 h1 λx3=>
 bif z2==x3 then(some z4)else(c (.z2 z1 z2 z3 (IntKind.i64.wrap (z4+1)))))else none)else(some (-1))
def q_.r(n:Nat)(c:q_.Z->Option Int):q_.Z->Option Int
 | .z2 z1 z2 z3 z4=>q_.r2 n c z1 z2 z3 z4
def q_.e(n:Nat)(c:q_.Z->Option Int)(a0:List AV)(a1:Int):Option Int:=
 c (.z2 a0 a1 ((a0.length:Nat):Int) 0)
def q_.l(n:Nat):Nat->q_.Z->Option Int:=eg (q_.r n)
def q_.F(n:Nat)(a0:List AV)(a1:Int):Option Int:=q_.e n (q_.l n n) a0 a1
def PE.e(n:Nat)(a0:List AV)(a1:Int):Option Bool:=
 (q_.F n a0 a1).bind λp1=>
 some (decide (p1>=0))
def PE.F(n:Nat)(a0:List AV)(a1:Int):Option Bool:=PE.e n a0 a1
theorem gD.q9(n m z1 z2 z3 z4):gD.l n (m+1) (.z2 z1 z2 z3 z4)=gD.r2 n (gD.l n m) z1 z2 z3 z4:=rfl
theorem fI.Ai(n m z1 z2 z3):fI.l n (m+1) (.z4 z1 z2 z3)=fI.r4 n (fI.l n m) z1 z2 z3:=rfl
theorem fI.EI(n m z1 z2 z3 z4 z5 z6):fI.l n (m+1) (.z7 z1 z2 z3 z4 z5 z6)=fI.r7 n (fI.l n m) z1 z2 z3 z4 z5 z6:=rfl
theorem fI.at8(n m z1 z2 z3 z4 z5 z6):fI.l n (m+1) (.z8 z1 z2 z3 z4 z5 z6)=fI.r8 n (fI.l n m) z1 z2 z3 z4 z5 z6:=rfl
theorem gi.EI(n m z1 z2 z3 z4 z5 z6 z7 z8 z9 dy dO z12 dN dQ dR dV ef ee eD z20 z21 z22 z23 z24 z25 z26 gP z28 mF mv):gi.l n (m+1) (.z7 z1 z2 z3 z4 z5 z6 z7 z8 z9 dy dO z12 dN dQ dR dV ef ee eD z20 z21 z22 z23 z24 z25 z26 gP z28 mF mv)=gi.r7 n (gi.l n m) z1 z2 z3 z4 z5 z6 z7 z8 z9 dy dO z12 dN dQ dR dV ef ee eD z20 z21 z22 z23 z24 z25 z26 gP z28 mF mv:=rfl
theorem gi.B2(n m z1 z2 z3 z4 z5 z6 z7 z8 z9 dy dO z12 dN dQ dR dV ef ee eD z20 z21 z22 z23 z24 z25 z26 gP z28 mF mv):gi.l n (m+1) (.dy z1 z2 z3 z4 z5 z6 z7 z8 z9 dy dO z12 dN dQ dR dV ef ee eD z20 z21 z22 z23 z24 z25 z26 gP z28 mF mv)=gi.A3 n (gi.l n m) z1 z2 z3 z4 z5 z6 z7 z8 z9 dy dO z12 dN dQ dR dV ef ee eD z20 z21 z22 z23 z24 z25 z26 gP z28 mF mv:=rfl
theorem gi.H0(n m z1 z2 z3 z4 z5 z6 z7 z8 z9 dy dO z12 dN dQ dR dV ef ee eD z20):gi.l n (m+1) (.dN z1 z2 z3 z4 z5 z6 z7 z8 z9 dy dO z12 dN dQ dR dV ef ee eD z20)=gi.Cp n (gi.l n m) z1 z2 z3 z4 z5 z6 z7 z8 z9 dy dO z12 dN dQ dR dV ef ee eD z20:=rfl
theorem kj.EJ(n m z1 z2 z3):kj.l n (m+1) (.z3 z1 z2 z3)=kj.r3 n (kj.l n m) z1 z2 z3:=rfl
theorem jw.H2(n m z1 z2 z3 z4 z5 z6 z7 z8 z9 dy):jw.l n (m+1) (.z12 z1 z2 z3 z4 z5 z6 z7 z8 z9 dy)=jw.uM n (jw.l n m) z1 z2 z3 z4 z5 z6 z7 z8 z9 dy:=rfl
theorem jw.EK(n m z1 z2 z3 z4 z5 z6 z7 z8 z9 dy dO):jw.l n (m+1) (.dR z1 z2 z3 z4 z5 z6 z7 z8 z9 dy dO)=jw.rI n (jw.l n m) z1 z2 z3 z4 z5 z6 z7 z8 z9 dy dO:=rfl
theorem fH.Ai(n m z1 z2 z3 z4 z5 z6):fH.l n (m+1) (.z4 z1 z2 z3 z4 z5 z6)=fH.r4 n (fH.l n m) z1 z2 z3 z4 z5 z6:=rfl
theorem fH.B2(n m z1 z2 z3 z4 z5 z6):fH.l n (m+1) (.dy z1 z2 z3 z4 z5 z6)=fH.A3 n (fH.l n m) z1 z2 z3 z4 z5 z6:=rfl
theorem fH.HY(n m z1 z2 z3 z4 z5 z6):fH.l n (m+1) (.dV z1 z2 z3 z4 z5 z6)=fH.I4 n (fH.l n m) z1 z2 z3 z4 z5 z6:=rfl
theorem j9.at8(n m z1 z2 z3 z4 z5 z6 z7 z8 z9 dy dO z12 dN dQ dR dV ef ee eD z20 z21 z22 z23):j9.l n (m+1) (.z8 z1 z2 z3 z4 z5 z6 z7 z8 z9 dy dO z12 dN dQ dR dV ef ee eD z20 z21 z22 z23)=j9.r8 n (j9.l n m) z1 z2 z3 z4 z5 z6 z7 z8 z9 dy dO z12 dN dQ dR dV ef ee eD z20 z21 z22 z23:=rfl
theorem ki.EI(n m z1 z2 z3 z4 z5 z6 z7 z8 z9 dy dO z12 dN dQ dR dV ef ee):ki.l n (m+1) (.z7 z1 z2 z3 z4 z5 z6 z7 z8 z9 dy dO z12 dN dQ dR dV ef ee)=ki.r7 n (ki.l n m) z1 z2 z3 z4 z5 z6 z7 z8 z9 dy dO z12 dN dQ dR dV ef ee:=rfl
theorem j8.EJ(n m z1):j8.l n (m+1) (.z3 z1)=j8.r3 n (j8.l n m) z1:=rfl
theorem eL.q9(n m z1 z2 z3 z4 z5 z6):eL.l n (m+1) (.z2 z1 z2 z3 z4 z5 z6)=eL.r2 n (eL.l n m) z1 z2 z3 z4 z5 z6:=rfl
theorem eL.My(n m z1 z2 z3 z4 z5 z6 z7):eL.l n (m+1) (.z6 z1 z2 z3 z4 z5 z6 z7)=eL.r6 n (eL.l n m) z1 z2 z3 z4 z5 z6 z7:=rfl
theorem eL.HY(n m z1 z2 z3 z4 z5 z6 z7 z8):eL.l n (m+1) (.dV z1 z2 z3 z4 z5 z6 z7 z8)=eL.I4 n (eL.l n m) z1 z2 z3 z4 z5 z6 z7 z8:=rfl
theorem eL.Px(n m z1 z2 z3 z4 z5 z6 z7 z8):eL.l n (m+1) (.z23 z1 z2 z3 z4 z5 z6 z7 z8)=eL.Iq n (eL.l n m) z1 z2 z3 z4 z5 z6 z7 z8:=rfl
theorem gO.at9(n m z1 z2 z3):gO.l n (m+1) (.z9 z1 z2 z3)=gO.r9 n (gO.l n m) z1 z2 z3:=rfl
theorem jX.q9(n m z1 z2 z3):jX.l n (m+1) (.z2 z1 z2 z3)=jX.r2 n (jX.l n m) z1 z2 z3:=rfl
theorem la.at8(n m z1 z2 z3 z4):la.l n (m+1) (.z8 z1 z2 z3 z4)=la.r8 n (la.l n m) z1 z2 z3 z4:=rfl
theorem jZ.EJ(n m z1 z2 z3 z4):jZ.l n (m+1) (.z3 z1 z2 z3 z4)=jZ.r3 n (jZ.l n m) z1 z2 z3 z4:=rfl
theorem gC.My(n m z1 z2 z3 z4 z5 z6 z7):gC.l n (m+1) (.z6 z1 z2 z3 z4 z5 z6 z7)=gC.r6 n (gC.l n m) z1 z2 z3 z4 z5 z6 z7:=rfl
theorem gC.PA(n m z1 z2 z3 z4 z5 z6 z7):gC.l n (m+1) (.dO z1 z2 z3 z4 z5 z6 z7)=gC.EX n (gC.l n m) z1 z2 z3 z4 z5 z6 z7:=rfl
theorem gC.EK(n m z1 z2 z3 z4 z5 z6 z7 z8 z9 dy dO z12 dN):gC.l n (m+1) (.dR z1 z2 z3 z4 z5 z6 z7 z8 z9 dy dO z12 dN)=gC.rI n (gC.l n m) z1 z2 z3 z4 z5 z6 z7 z8 z9 dy dO z12 dN:=rfl
theorem gC.Py(n m z1 z2 z3 z4):gC.l n (m+1) (.z22 z1 z2 z3 z4)=gC.ML n (gC.l n m) z1 z2 z3 z4:=rfl
theorem kl.Ai(n m z1 z2 z3):kl.l n (m+1) (.z4 z1 z2 z3)=kl.r4 n (kl.l n m) z1 z2 z3:=rfl
theorem gj.Ai(n m z1 z2 z3 z4 z5 z6 z7):gj.l n (m+1) (.z4 z1 z2 z3 z4 z5 z6 z7)=gj.r4 n (gj.l n m) z1 z2 z3 z4 z5 z6 z7:=rfl
theorem gj.at9(n m z1 z2 z3 z4 z5 z6 z7):gj.l n (m+1) (.z9 z1 z2 z3 z4 z5 z6 z7)=gj.r9 n (gj.l n m) z1 z2 z3 z4 z5 z6 z7:=rfl
theorem gj.HZ(n m z1 z2 z3 z4 z5 z6 z7):gj.l n (m+1) (.dQ z1 z2 z3 z4 z5 z6 z7)=gj.As n (gj.l n m) z1 z2 z3 z4 z5 z6 z7:=rfl
theorem jN.q9(n m z1 z2 z3 z4):jN.l n (m+1) (.z2 z1 z2 z3 z4)=jN.r2 n (jN.l n m) z1 z2 z3 z4:=rfl
theorem lu.Nf(n m z1 z2):lu.l n (m+1) (.z5 z1 z2)=lu.r5 n (lu.l n m) z1 z2:=rfl
theorem gW.at8(n m z1 z2 z3):gW.l n (m+1) (.z8 z1 z2 z3)=gW.r8 n (gW.l n m) z1 z2 z3:=rfl
theorem gW.EK(n m z1 z2 z3 z4):gW.l n (m+1) (.dR z1 z2 z3 z4)=gW.rI n (gW.l n m) z1 z2 z3 z4:=rfl
theorem ji.H0(n m z1 z2 z3 z4 z5 z6 z7 z8 z9):ji.l n (m+1) (.dN z1 z2 z3 z4 z5 z6 z7 z8 z9)=ji.Cp n (ji.l n m) z1 z2 z3 z4 z5 z6 z7 z8 z9:=rfl
theorem mr.q9(n m z1 z2):mr.l n (m+1) (.z2 z1 z2)=mr.r2 n (mr.l n m) z1 z2:=rfl
theorem f_.J_(n m z1 z2 z3 z4 z5 z6 z7 z8 z9 dy dO z12 dN dQ dR dV ef ee eD z20 z21 z22 z23 z24):f_.l n (m+1) (.z26 z1 z2 z3 z4 z5 z6 z7 z8 z9 dy dO z12 dN dQ dR dV ef ee eD z20 z21 z22 z23 z24)=f_.EW n (f_.l n m) z1 z2 z3 z4 z5 z6 z7 z8 z9 dy dO z12 dN dQ dR dV ef ee eD z20 z21 z22 z23 z24:=rfl
theorem f_.Pw(n m z1 z2 z3 z4 z5 z6 z7 z8 z9 dy dO z12 dN dQ dR dV ef ee eD z20 z21 z22 z23):f_.l n (m+1) (.Fm z1 z2 z3 z4 z5 z6 z7 z8 z9 dy dO z12 dN dQ dR dV ef ee eD z20 z21 z22 z23)=f_.Ip n (f_.l n m) z1 z2 z3 z4 z5 z6 z7 z8 z9 dy dO z12 dN dQ dR dV ef ee eD z20 z21 z22 z23:=rfl
theorem jO.q9(n m z1 z2 z3):jO.l n (m+1) (.z2 z1 z2 z3)=jO.r2 n (jO.l n m) z1 z2 z3:=rfl
theorem gN.at9(n m z1 z2 z3 z4 z5 z6 z7 z8 z9 dy dO z12 dN dQ dR dV ef ee eD z20 z21):gN.l n (m+1) (.z9 z1 z2 z3 z4 z5 z6 z7 z8 z9 dy dO z12 dN dQ dR dV ef ee eD z20 z21)=gN.r9 n (gN.l n m) z1 z2 z3 z4 z5 z6 z7 z8 z9 dy dO z12 dN dQ dR dV ef ee eD z20 z21:=rfl
theorem jf.Ai(n m z1 z2 z3 z4):jf.l n (m+1) (.z4 z1 z2 z3 z4)=jf.r4 n (jf.l n m) z1 z2 z3 z4:=rfl
theorem jf.B2(n m z1 z2 z3 z4):jf.l n (m+1) (.dy z1 z2 z3 z4)=jf.A3 n (jf.l n m) z1 z2 z3 z4:=rfl
theorem jj.EJ(n m z1 z2 z3 z4 z5 z6 z7):jj.l n (m+1) (.z3 z1 z2 z3 z4 z5 z6 z7)=jj.r3 n (jj.l n m) z1 z2 z3 z4 z5 z6 z7:=rfl
theorem nu.q9(n m z1 z2 z3):nu.l n (m+1) (.z2 z1 z2 z3)=nu.r2 n (nu.l n m) z1 z2 z3:=rfl
theorem pE.q9(n m z1 z2):pE.l n (m+1) (.z2 z1 z2)=pE.r2 n (pE.l n m) z1 z2:=rfl
theorem pF.EJ(n m z1 z2 z3):pF.l n (m+1) (.z3 z1 z2 z3)=pF.r3 n (pF.l n m) z1 z2 z3:=rfl
theorem oJ.EI(n m z1 z2 z3 z4):oJ.l n (m+1) (.z7 z1 z2 z3 z4)=oJ.r7 n (oJ.l n m) z1 z2 z3 z4:=rfl
theorem q_.q9(n m z1 z2 z3 z4):q_.l n (m+1) (.z2 z1 z2 z3 z4)=q_.r2 n (q_.l n m) z1 z2 z3 z4:=rfl
end Go.Proofs.YtnoldakbllfmnaaGreatDoor.Ev
namespace Go.Proofs.YtnoldakbllfmnaaGreatDoor.Ev
open Go Go.Proofs Go.Proofs.Ev
variable {R:Type}
theorem nU{x:Int}(h1 : -9223372036854775808<=x)(h2:x<=9223372036854775807):IntKind.i64.wrap x=x:=by rw[IntKind.wrap_i64];omega
theorem cS{α:Type}{p:Prop}[Decidable p](h:p)(x y:α):(bif decide p then x else y)=x:=by simp[h]
theorem cT{α:Type}{p:Prop}[Decidable p](h:¬ p)(x y:α):(bif decide p then x else y)=y:=by simp[h]
theorem dP{R:Type}{p:Prop}[Decidable p](h:p)(K:Option R):eW (decide p) K=K:=by simp[eW,h]
theorem c8{i:Nat}{len:Nat}(h:i<len):(decide ((0:Int)<=(i:Int))&&decide ((i:Int)<(len:Int)))=true:=by
 rw[ae,az,az];omega
theorem dv{i:Nat}{len:Nat}(h:i<=len):(decide ((0:Int)<=(i:Int))&&decide ((i:Int)<=(len:Int)))=true:=by
 rw[ae,az,az];omega
theorem dA{i:Nat}(h:i<=1000000000):IntKind.i64.wrap ((i:Int)+1)=((i+1:Nat):Int):=by rw[nU]<;>omega
abbrev bs(l:List UInt8):ByteArray:=⟨l.toArray⟩
theorem Pt(s:ByteArray):s=bs s.data.toList:=rfl
theorem dh(a b:List UInt8):bs a++bs b=bs (a++b):=by
 apply ByteArray.ext;rw[ByteArray.data_append];simp
theorem cU(l:List UInt8):(bs l).size=l.length:=rfl
theorem xw(s:ByteArray)(a b:Nat):(s.extract a b).data.toList=(s.data.toList.drop a).take (b - a):=by
 rw[ByteArray.data_extract,Array.toList_extract,List.extract_eq_take_drop]
theorem mm(l:List UInt8)(a b:Nat):(bs l).extract a b=bs ((l.drop a).take (b - a)):=by
 rw[Pt ((bs l).extract a b),xw]
theorem rZ(l:List UInt8)(b:Nat):(bs l).extract 0 b=bs (l.take b):=by rw[mm];simp
theorem jc(l:List UInt8)(a:Nat):(bs l).extract a (bs l).size=bs (l.drop a):=by
 rw[mm,cU,b_ (by simp)]
theorem Dd(l:List UInt8)(i:Nat):(bs l).data.getD i 0=l.getD i 0:=by
 rw[aI,ah];simp
theorem getD_at{l:List UInt8}{i:Nat}(hi:i<l.length):(bs l).data.getD i 0=l[i]:=by
 rw[Dd];simp[ah,hi]
theorem gY(l:List UInt8):(bs l).toList=l:=by rw[cH]
def fh(c:UInt8):Bool:=decide (48<=c.toNat)&&decide (c.toNat<=57)
theorem rS(c:UInt8):fh c=true↔48<=c.toNat/\c.toNat<=57:=by simp[fh]
def fa(a:Nat)(l:List UInt8):Nat:=l.foldl (λa b=>a*10+(b.toNat - 48)) a
theorem lz(a:Nat)(b:UInt8)(l:List UInt8):fa a (b::l)=fa (a*10+(b.toNat - 48)) l:=by unfold fa;rw[List.foldl_cons]
theorem pK(a:Nat)(l:List UInt8)(b:UInt8):fa a (l++[b])=fa a l*10+(b.toNat - 48):=by simp[fa]
theorem Ca:∀(l:List UInt8) (a:Nat),a<=fa a l
 | [],a=>aJ _
 | b::l,a=>by rw[lz];have:=Ca l (a*10+(b.toNat - 48));omega
theorem oR:∀(l:List UInt8) (a:Nat),l.all fh=true->fa a l<(a+1)*10 ^ l.length
 | [],a,_=>by simp[fa]
 | b::l,a,h=>by
  simp only[bE,ae]at h;have hb:=(rS b).1 h.1;rw[lz,aw,Nat.pow_succ];have h1:=oR l (a*10+(b.toNat - 48)) h.2;have h3:(a*10+(b.toNat - 48)+1)*10 ^ l.length<=(a*10+10)*10 ^ l.length:=aV _ (by omega);have h2:(a+1)*(10 ^ l.length*10)=(a*10+10)*10 ^ l.length:=by
   rw[Nat.mul_comm (10 ^ l.length) 10,<-Nat.mul_assoc,bG,Nat.one_mul]
  omega
abbrev il(l:List UInt8):Nat:=fa 0 l
theorem oY:∀(l:List UInt8) (a:Nat),l.all fh=true->a<18446744073709551616->Lib.parseUint10 a l=if fa a l<18446744073709551616 then .ok (fa a l)else .range
 | [],a,_,ha=>by rw[show fa a []=a from rfl,if_pos ha];rfl
 | c::l,a,h,ha=>by
  simp only[bE,ae]at h;have hc:=(rS c).1 h.1;have Md:=Ca l (a*10+(c.toNat - 48));unfold Lib.parseUint10;rw[if_pos hc,lz];by_cases h1:1844674407370955162<=a
  ·rw[if_pos h1,if_neg (by omega)]
  ·rw[if_neg h1];by_cases h2:18446744073709551616<=a*10+(c.toNat - 48)
   ·rw[if_pos h2,if_neg (by omega)]
   ·rw[if_neg h2,oY l _ h.2 (by omega)]
theorem B0{l:List UInt8}(h0:l≠[])(ic:l.all fh=true)(hv:il l<9223372036854775808):jm l=((il l:Int),false):=by
 cases l with
 | nil=>exact absurd rfl h0
 | cons c r=>
  have hc:=ic;simp only[bE,ae]at hc;have hc:=(rS c).1 hc.1;have e:Lib.parseMag (c::r)=.ok (il (c::r)):=by
   unfold Lib.parseMag;rw[if_neg (by simp),oY _ _ ic (by omega),if_pos (by show il (c::r)<_;omega)]
  have n1:¬ c.toNat=43:=by omega
  have n2:¬ c.toNat=45:=by omega
  have key:Lib.atoiAll (c::r)=.ok (il (c::r):Int):=by
   unfold Lib.atoiAll;simp only[n1,n2,or_self,bI,e,not_false_eq_true,true_and,false_and];rw[if_neg (by omega)]
  unfold jm;rw[key]
def lead(l:List UInt8):Nat:=(l.takeWhile fh).length
theorem mi(n:Nat)(b:Bool)(e:Int):mD.F n b e=some (if b then e else 0):=by cases b<;>rfl
theorem o7(n:Nat)(b:Bool)(e:Int):sb.F n b e=some (if b then e else 0):=by cases b<;>rfl
theorem GO(n:Nat)(a b c:Int):uv.F n a b c=some (decide (b<=a/\a<=c)):=by
 unfold uv.F uv.e;by_cases h:b<=a
 ·rw[cS h];simp[h]
 ·rw[cT h];simp[h]
theorem ER(n:Nat)(a b c:Int):Ng.F n a b c=some (decide (b<=a/\a<=c)):=by
 unfold Ng.F Ng.e;by_cases h:b<=a
 ·rw[cS h];simp[h]
 ·rw[cT h];simp[h]
def fz:List Int->Int
 | []=>0
 | x::r=>if x≠0 then x else fz r
theorem C8(n:Nat)(xs:List Int)(hx:xs.length<=1000):∀(d i m:Nat),i+d=xs.length->d<m->fx.l n m (.z2 (xs.map vi) xs.length i)=some (fz (xs.drop i))
 | _,_,0,_,h=>absurd h (by omega)
 | 0,i,m+1,h,_=>by
  show fx.r2 n (fx.l n m) _ _ _=_;unfold fx.r2;rw[cT (by omega),aH (by omega)];rfl
 | d+1,i,m+1,h,hm=>by
  have hi:i<xs.length:=by omega
  have ih:=C8 n xs hx d (i+1) m (by omega) (by omega);show fx.r2 n (fx.l n m) _ _ _=_;unfold fx.r2;rw[cS (by omega),af,c8 hi,ak];have e:(xs.map vi).getD (((i:Nat):Int)).toNat AV.undef=vi xs[i]:=by simp[ah,hi]
  rw[e,aG hi];show(bif xs[i] != 0 then some xs[i]else _)=_;by_cases h0:xs[i]=0
  ·have:(xs[i] != 0)=false:=by simp[h0]
   rw[this,cond_false,dA (by omega),ih];simp[fz,h0]
  ·have:(xs[i] != 0)=true:=by simp[h0]
   rw[this,ak];simp[fz,h0]
theorem zQ{n:Nat}(xs:List Int)(hx:xs.length<=1000)(hn:1001<=n):fx.F n (xs.map vi)=some (fz xs):=by
 unfold fx.F fx.e;rw[af];exact C8 n xs hx xs.length 0 n (by omega) (by omega)
theorem xv{n:Nat}(hn:1001<=n)(a b:Int):fx.F n [vi a,vi b]=some (if a≠0 then a else b):=by
 have:=zQ (n:=n) [a,b] (by simp) hn;rw[show([a,b]:List Int).map vi=[vi a,vi b]from rfl]at this;rw[this];by_cases h:a=0<;>by_cases h2:b=0<;>simp[fz,h,h2]
theorem yV(n:Nat)(xs:List Int)(hx:xs.length<=1000):∀(d i m:Nat),i+d=xs.length->d<m->ln.l n m (.z2 (xs.map vi) xs.length i)=some (fz (xs.drop i))
 | _,_,0,_,h=>absurd h (by omega)
 | 0,i,m+1,h,_=>by
  show ln.r2 n (ln.l n m) _ _ _=_;unfold ln.r2;rw[cT (by omega),aH (by omega)];rfl
 | d+1,i,m+1,h,hm=>by
  have hi:i<xs.length:=by omega
  have ih:=yV n xs hx d (i+1) m (by omega) (by omega);show ln.r2 n (ln.l n m) _ _ _=_;unfold ln.r2;rw[cS (by omega),af,c8 hi,ak];have e:(xs.map vi).getD (((i:Nat):Int)).toNat AV.undef=vi xs[i]:=by simp[ah,hi]
  rw[e,aG hi];show(bif xs[i] != 0 then some xs[i]else _)=_;by_cases h0:xs[i]=0
  ·have:(xs[i] != 0)=false:=by simp[h0]
   rw[this,cond_false,dA (by omega),ih];simp[fz,h0]
  ·have:(xs[i] != 0)=true:=by simp[h0]
   rw[this,ak];simp[fz,h0]
theorem DN{n:Nat}(xs:List Int)(hx:xs.length<=1000)(hn:1001<=n):ln.F n (xs.map vi)=some (fz xs):=by
 unfold ln.F ln.e;rw[af];exact yV n xs hx xs.length 0 n (by omega) (by omega)
theorem w_{n:Nat}(hn:1001<=n)(a b:Int):ln.F n [vi a,vi b]=some (if a≠0 then a else b):=by
 have:=DN (n:=n) [a,b] (by simp) hn;rw[show([a,b]:List Int).map vi=[vi a,vi b]from rfl]at this;rw[this];by_cases h:a=0<;>by_cases h2:b=0<;>simp[fz,h,h2]
def kH(k a b:Int):Int:=
 if k=0 then(if ¬ (1<=a/\a<=256)then 18 else if b≠0 then 3 else 0)
 else if k=1\/k=2 then(if ¬ (1<=a/\a<=15)then 18 else if ¬ (0<=b/\b<=a)then 3 else 0)
 else if k=3 then(if ¬ (a=4\/a=9)then 18 else if ¬ (0<=b/\b<=a)then 3 else 0)
 else if k=4 then(if a≠0 then 18 else if b≠0 then 3 else 0)
 else 4
theorem kg(a b:Int):(a==b)=decide (a=b):=rfl
theorem LB{n:Nat}(hn:1001<=n)(c:jx.Z->Option Int)(x y:Bool):jx.Cp n c x y=some (if !x then 18 else if !y then 3 else 0):=by
 unfold jx.Cp;rw[o7,ab,o7,ab,w_ hn,ab];cases x<;>cases y<;>rfl
theorem ud{n:Nat}(hn:1001<=n)(k a b:Int):jx.F n k a b=some (kH k a b):=by
 obtain⟨m,rfl⟩:∃m,n=m+1:=⟨n - 1,by omega⟩;unfold jx.F jx.e kH;have hl:∀x y,jx.l (m+1) (m+1) (.dN x y)=some (if !x then 18 else if !y then 3 else 0):=λx y=>LB hn (jx.l (m+1) m) x y;simp only[hl,GO,ab,kg];by_cases h0:k=0
 ·rw[cS h0];by_cases h1:1<=a/\a<=256<;>by_cases h2:b=0<;>simp only[h0,h1,h2]<;>(try simp)<;>(try (first|omega|(split<;>split<;>omega)))
 ·rw[cT h0];by_cases h1:k=1
  ·rw[cS h1];by_cases h2:1<=a/\a<=15<;>by_cases h3:0<=b/\b<=a<;>simp only[h1,h2,h3]<;>(try simp)<;>(try (first|omega|(split<;>split<;>omega)))
  ·rw[cT h1];by_cases h2:k=2
   ·rw[cS h2];by_cases h4:1<=a/\a<=15<;>by_cases h3:0<=b/\b<=a<;>simp only[h2,h4,h3]<;>(try simp)<;>(try (first|omega|(split<;>split<;>omega)))
   ·rw[cT h2];by_cases h3:k=3
    ·rw[cS h3];by_cases ha:a=4
     ·rw[cS ha];by_cases h5:0<=b/\b<=a<;>simp only[h3,h5]<;>(try simp[ha])<;>(try (first|omega|(split<;>split<;>omega)))
     ·rw[cT ha];by_cases h6:a=9<;>by_cases h5:0<=b/\b<=a<;>simp only[h3,h5,h6,ha]<;>(try simp)<;>(try (first|omega|(split<;>split<;>omega)))
    ·rw[cT h3];by_cases h4:k=4
     ·rw[cS h4];by_cases h5:a=0<;>by_cases h6:b=0<;>simp only[h4,h5,h6]<;>(try simp)<;>(try (first|omega|(split<;>split<;>omega)))
     ·rw[cT h4];simp[h0,h1,h2,h3,h4]
theorem empty_eq(l:List UInt8):((bs l).toList==(⟨#[]⟩:ByteArray).toList)=decide (l=[]):=by
 rw[gY,show(⟨#[]⟩:ByteArray).toList=([]:List UInt8)from gY []];cases l<;>rfl
theorem Qq(c u:UInt8)(k:Nat)(hu:u.toNat=k):((((c.toNat:Nat):Int)) != ((k:Nat):Int))=decide (c≠u):=by
 have:(((c.toNat:Nat):Int)=((k:Nat):Int))↔c=u:=by
  constructor
  ·intro h;apply UInt8.toNat_inj.1;omega
  ·rintro rfl;omega
 rw[cn,bne_iff_ne,az];exact not_congr this
theorem mj(c u:UInt8)(k:Nat)(hu:u.toNat=k):((((c.toNat:Nat):Int))==((k:Nat):Int))=decide (c=u):=by
 have:(((c.toNat:Nat):Int)=((k:Nat):Int))↔c=u:=by
  constructor
  ·intro h;apply UInt8.toNat_inj.1;omega
  ·rintro rfl;omega
 rw[cn,beq_iff_eq,az];exact this
def Ws(ws:List (List UInt8)):List AV:=ws.map λw=>vs (bs w)
theorem c7(a:List (List UInt8)):(Ws a).length=a.length:=by simp[Ws]
def NR(c:UInt8):Bool:=(decide (65<=c.toNat)&&decide (c.toNat<=90))||(decide (c=35)||(decide (c=36)||decide (c=64)))
def MR(c:UInt8):Bool:=fh c||(decide (c=95)||decide (c=46))
def Ac:Nat->List UInt8->Bool
 | _,[]=>true
 | i,c::r=>(NR c||(decide (i≠0)&&MR c))&&Ac (i+1) r
theorem wk(i:Nat)(c:UInt8)(r:List UInt8):Ac i (c::r)=((NR c||(decide (i≠0)&&MR c))&&Ac (i+1) r):=rfl
def gI(l:List UInt8):Bool:=(decide (1<=l.length)&&decide (l.length<=10))&&Ac 0 l
theorem RE{α:Type}(f:Bool->α)(a b c d e:Bool):(bif a then(bif b then f true else(bif c then f true else(bif d then f true else f e)))else(bif c then f true else(bif d then f true else f e)))=f ((a&&b)||(c||(d||e))):=by
 cases a<;>cases b<;>cases c<;>cases d<;>rfl
theorem RF{α:Type}(g:Bool->α)(a b c d:Bool):(bif a then(bif b then g true else(bif c then g true else g d))else(bif c then g true else g d))=g ((a&&b)||(c||d)):=by
 cases a<;>cases b<;>cases c<;>rfl
theorem CJ(c:UInt8)(k:Nat):decide ((k:Int)<=((c.toNat:Nat):Int))=decide (k<=c.toNat):=by rw[b8];omega
theorem Ae(c:UInt8)(k:Nat):decide (((c.toNat:Nat):Int)<=(k:Int))=decide (c.toNat<=k):=by rw[b8];omega
theorem zd(n:Nat)(l:List UInt8)(hl:l.length<=1000):∀(d i m:Nat),i+d=l.length->3*d<m->fI.l n m (.z4 l.length i (l.map λb=>vu b.toNat))=some (Ac i (l.drop i))
 | _,_,0,_,h=>absurd h (by omega)
 | 0,i,m+1,h,_=>by
  rw[fI.Ai];unfold fI.r4;rw[cT (by omega),aH (by omega)];rfl
 | d+1,i,m+1,h,hm=>by
  have hi:i<l.length:=by omega
  obtain⟨m,rfl⟩:∃q,m=q+2:=⟨m - 2,by omega⟩;have ih:=zd n l hl d (i+1) m (by omega) (by omega);have e:(l.map λb=>vu b.toNat).getD (((i:Nat):Int)).toNat AV.undef=vu l[i].toNat:=by simp[ah,hi]
  have h8:∀z2 z3,fI.l n (m+1) (.z8 i z2 z3 l.length i (l.map λb=>vu b.toNat))=some ((z2||(decide (i≠0)&&z3))&&Ac (i+1) (l.drop (i+1))):=by
   intro z2 z3;rw[fI.at8];unfold fI.r8;rw[dA (by omega),ih,kg];cases z2 with
   | true=>rfl
   | false=>
    by_cases h0:i=0
    ·subst h0;rfl
    ·rw[aE,ak,cT (by omega)];cases z3<;>simp[h0]
  have h7:∀b,fI.l n (m+2) (.z7 i ((l[i].toNat:Nat):Int) b l.length i (l.map λb=>vu b.toNat))=some ((b||(decide (i≠0)&&MR l[i]))&&Ac (i+1) (l.drop (i+1))):=by
   intro b;rw[fI.EI];unfold fI.r7;rw[RF (λq=>fI.l n (m+1) (.z8 i b q l.length i (l.map λb=>vu b.toNat))),h8];unfold MR fh;rw[show(48:Int)=((48:Nat):Int)from rfl,CJ,show(57:Int)=((57:Nat):Int)from rfl,Ae,show(95:Int)=((95:Nat):Int)from rfl,mj _ 95 95 rfl,show(46:Int)=((46:Nat):Int)from rfl,mj _ 46 46 rfl]
  rw[fI.Ai];unfold fI.r4;rw[cS (by omega),af,c8 hi,ak,e,aG hi];show(bif decide ((65:Int)<=((l[i].toNat:Nat):Int))then _ else _)=_;rw[RE (λq=>fI.l n (m+2) (.z7 i ((l[i].toNat:Nat):Int) q l.length i (l.map λb=>vu b.toNat))),h7];rw[wk];unfold NR;rw[show(65:Int)=((65:Nat):Int)from rfl,CJ,show(90:Int)=((90:Nat):Int)from rfl,Ae,show(35:Int)=((35:Nat):Int)from rfl,mj _ 35 35 rfl,show(36:Int)=((36:Nat):Int)from rfl,mj _ 36 36 rfl,
   show(64:Int)=((64:Nat):Int)from rfl,mj _ 64 64 rfl]
theorem km{n:Nat}(hn:1001<=n)(l:List UInt8):fI.F n (bs l)=some (gI l):=by
 unfold fI.F fI.e gI;rw[empty_eq];simp only[cU,gY,af];by_cases h0:l=[]
 ·rw[cS h0];subst h0;rfl
 ·have zp:0<l.length:=cu.2 h0;rw[cT h0];by_cases h1:l.length>10
  ·rw[cS (by omega)];have:decide (l.length<=10)=false:=by rw[bJ];omega
   rw[this];simp
  ·rw[cT (by omega)];have h2:decide (l.length<=10)=true:=by rw[az];omega
   have h3:decide (1<=l.length)=true:=by rw[az];omega
   rw[h2,h3];have:=zd n l (by omega) l.length 0 n (by omega) (by omega);rw[aU]at this;exact this
theorem dX(a b:List UInt8):((bs a).toList==(bs b).toList)=decide (a=b):=by
 rw[gY,gY];by_cases h:a=b<;>simp[h]
def iH:List (List UInt8)->List UInt8->Nat->Int
 | [],_,_=>-1
 | w::r,s,i=>if w=s then(i:Int)else iH r s (i+1)
theorem pg(w:List UInt8)(r:List (List UInt8))(s:List UInt8)(i:Nat):iH (w::r) s i=if w=s then(i:Int)else iH r s (i+1):=rfl
theorem nF:∀(ws:List (List UInt8)) (s:List UInt8) (i:Nat),decide (iH ws s i>=0)=ws.contains s
 | [],s,i=>by simp[iH]
 | w::r,s,i=>by
  unfold iH;rw[ck];by_cases h:w=s
  ·subst h;simp
  ·have:(s==w)=false:=by simpa using λe=>h e.symm
   rw[if_neg h,this,Bool.false_or,nF r s (i+1)]
theorem dc(cs:List AV):(AV.agg cs).cells=cs:=rfl
theorem dp(x:Value):(AV.v x).cells=[.v x]:=rfl
theorem cO(c:AV)(r:List AV)(K:AV->List AV->Option R):cM (c::r) K=K c r:=rfl
theorem cW(k:IntKind)(n:Int)(K:Int->Option R):cQ k (.v (.int k n)) K=K n:=by simp[cQ]
theorem cY(s:ByteArray)(K:ByteArray->Option R):dm (.v (.string s)) K=K s:=rfl
theorem cX(b:Bool)(K:Bool->Option R):fA (.v (.bool b)) K=K b:=rfl
theorem c_(fl:Fl)(sz:Nat)(xs:List AV)(K:List AV->Option R):gq fl sz (.sl fl sz xs) K=K xs:=by
 have:(fl==fl)=true:=by simp
 simp[gq]
theorem xO{p:Prop}[Decidable p](x y:R):(bif decide p then x else y)=if p then x else y:=by by_cases h:p<;>simp[h]
theorem eQ(a b:Int)(x y:R):(bif a==b then x else y)=if a=b then x else y:=by
 show(bif decide (a=b)then x else y)=_;exact xO x y
theorem nK(b:Bool)(x y:R):(bif !b then x else y)=if b=false then x else y:=by cases b<;>rfl
theorem dn{α:Type}(f:α->AV){l:List α}{i:Nat}(hi:i<l.length):(l.map f).getD i AV.undef=f l[i]:=by simp[ah,hi]
theorem dj{ws:List (List UInt8)}{i:Nat}(hi:i<ws.length):(Ws ws).getD i AV.undef=vs (bs ws[i]):=by simp[Ws,ah,hi]
def FK(k l:Int):Int:=if k=1 then l / 2+1 else if k=3 then(if l=9 then 4 else 2)else if k=4 then 16 else l
theorem oE{k l s:Int}(h:kH k l s=0):(k=0/\1<=l/\l<=256)\/((k=1\/k=2)/\1<=l/\l<=15)\/(k=3/\(l=4\/l=9))\/(k=4/\l=0):=by
 unfold kH at h;by_cases h0:k=0
 ·rw[if_pos h0]at h;by_cases h1:1<=l/\l<=256
  ·exact .inl ⟨h0,h1⟩
  ·rw[if_pos h1]at h;cases h
 ·rw[if_neg h0]at h;by_cases h1:k=1\/k=2
  ·rw[if_pos h1]at h;by_cases h2:1<=l/\l<=15
   ·exact .inr (.inl ⟨h1,h2⟩)
   ·rw[if_pos h2]at h;cases h
  ·rw[if_neg h1]at h;by_cases h3:k=3
   ·rw[if_pos h3]at h;by_cases h2:l=4\/l=9
    ·exact .inr (.inr (.inl ⟨h3,h2⟩))
    ·rw[if_pos h2]at h;cases h
   ·rw[if_neg h3]at h;by_cases h4:k=4
    ·rw[if_pos h4]at h;by_cases h2:l=0
     ·exact .inr (.inr (.inr ⟨h4,h2⟩))
     ·rw[if_pos h2]at h;cases h
    ·rw[if_neg h4]at h;cases h
theorem nx{k l s:Int}(h:kH k l s=0):0<=FK k l/\FK k l<=256:=by
 unfold FK;rcases oE h with⟨h1,h2⟩|⟨h1,h2⟩|⟨h1,h2⟩|⟨h1,h2⟩<;>(repeat' split)<;>omega
theorem Gj(n:Nat){k l s:Int}(h:kH k l s=0):EU.F n k l s=some (FK k l):=by
 unfold EU.F EU.e FK;have hc:=oE h;have h0:0<=l/\l<=256:=by omega
 simp only[eQ];rw[cl h0.1,cl h0.1];by_cases h1:k=1
 ·rw[if_pos h1,if_pos h1,nU (x:=l / 2) (by omega) (by omega),nU (by omega) (by omega)]
 ·rw[if_neg h1,if_neg h1];by_cases h3:k=3
  ·rw[if_pos h3,if_pos h3];have:l=4\/l=9:=by omega
   rcases this with rfl|rfl<;>rfl
  ·rw[if_neg h3,if_neg h3];split<;>rfl
theorem sizeOf_eq{n:Nat}(hn:1001<=n){k l s:Int}(h:kH k l s=0):rB.F n k l s=some (FK k l,0):=by
 unfold rB.F rB.e;rw[ud hn,ab,h];show((EU.F n k l s).bind λp=>some (p,0))=_;rw[Gj n h];rfl
end Go.Proofs.YtnoldakbllfmnaaGreatDoor.Ev
namespace Go.Proofs.YtnoldakbllfmnaaGreatDoor.Ev
open Go Go.Proofs Go.Proofs.Ev
theorem Gs{α:Type}(f:α->AV)(P:AV->Prop)(h:∀y,P y->∃a,y=f a):∀xs:List AV,(∀y∈xs,P y)->∃l:List α,xs=l.map f
 | [],_=>⟨[],rfl⟩
 | x::xs,hx=>by
  obtain⟨a,rfl⟩:=h x (hx x (by simp));obtain⟨l,rfl⟩:=Gs f P h xs (λy hy=>hx y (by simp[hy]));exact⟨a::l,rfl⟩
theorem rP{α:Type}{f:α->AV}{P:AV->Prop}{xs:List AV}(hx:∀y∈xs,P y)(h:∀y,P y->∃a,y=f a):∃l:List α,xs=l.map f:=Gs f P h xs hx
structure OP where
 nm:List UInt8
 kd:Int
 k:Int
 l:Int
 s:Int
 vn:Int
 vx:List UInt8
 ba:List UInt8
 of:Int
 tg:Int
structure IN where
 op:Int
 ar:List Int
structure MN where
 fr:Int
 tt:Int
 ex:Int
 hd:Int
def OP.av(x:OP):AV:=.agg [vs (bs x.nm),vi x.kd,vi x.k,vi x.l,vi x.s,vi x.vn,vs (bs x.vx),vs (bs x.ba),vi x.of,vi x.tg]
def IN.av(x:IN):AV:=.agg [vi x.op,.sl ⟨true,3,false⟩ 1 (x.ar.map vi)]
def MN.av(x:MN):AV:=.agg [vi x.fr,vi x.tt,vi x.ex,vi x.hd]
def dz(os:List OP):List (List UInt8):=os.map OP.nm
theorem fG(os:List OP):(dz os).length=os.length:=by simp[dz]
theorem s8{os:List OP}{i:Nat}(hi:i<os.length):(dz os)[i]'(by rw[fG];exact hi)=os[i].nm:=by simp[dz]
theorem AP{α β:Type}(f:α->β){l:List α}{i:Nat}(hi:i<l.length):(l.take (i+1)).map f=(l.take i).map f++[f l[i]]:=by
 rw[bR hi,List.map_append];rfl
section
variable {n:Nat} {a1 a2:List AV}
theorem CG(hn:1001<=n)(os:List OP)(ho:os.length<=1000)(s:List UInt8):∀(d i m:Nat),i+d=os.length->d<m->gD.l n m (.z2 (os.map OP.av) os.length i (bs s))=some (iH ((dz os).drop i) s i,bs s)
 | _,_,0,_,h=>absurd h (by omega)
 | 0,i,m+1,h,_=>by
  have hl:=fG os;rw[gD.q9];unfold gD.r2;rw[cT (by omega),aH (by omega)];rfl
 | d+1,i,m+1,h,hm=>by
  have hi:i<os.length:=by omega
  have hl:=fG os;have ih:=CG hn os ho s d (i+1) m (by omega) (by omega);rw[gD.q9];unfold gD.r2;simp(disch:=omega)only[ab,au,ak,cond_false,aC,aE,af,c7,cU,c8,dv,dA,ai,dn,dj,dc,dp,cO,cW,cY,cX,c_,cS,cT,OP.av];unfold jY.F jY.e;simp(disch:=omega)only[ab,au,ak,cond_false,aC,aE,af,c7,cU,c8,dv,dA,ai,dn,dj,dc,dp,cO,cW,cY,cX,c_,cS,cT];rw[ih,aG (by omega:i<(dz os).length),pg,s8 hi,dX];by_cases h1:os[i].nm=s
  ·rw[cS h1,if_pos h1]
  ·rw[cT h1,if_neg h1]
theorem o8(hn:1001<=n)(os:List OP)(ho:os.length<=1000)(s:List UInt8):pD.F n (os.map OP.av) (bs s)=some (iH (dz os) s 0):=by
 unfold pD.F pD.e gD.F gD.e;have:=CG hn os ho s os.length 0 n (by omega) (by omega);rw[aU]at this;rw[af,show((0:Int))=((0:Nat):Int)from rfl,this];rfl
def Hz(os:List OP):Bool:=os.all λo=>!(decide (o.nm.length>100)||decide (o.ba.length>100)||decide (o.vx.length>600))
def BM(is:List IN):Bool:=is.all λx=>decide (x.ar.length<=6)
theorem K9(hn:1001<=n)(os:List OP)(ho:os.length<=1000)(is:List IN)(k8 : is.length<=1000)(ms:List MN):∀(d i m:Nat),i+d=is.length->d<m->jf.l n m (.dy i (os.map OP.av) (is.map IN.av) (ms.map MN.av))=some (BM (is.drop i))
 | _,_,0,_,h=>absurd h (by omega)
 | 0,i,m+1,h,_=>by
  rw[jf.B2];unfold jf.A3;simp only[af];rw[cT (by omega),aH (by omega)];rfl
 | d+1,i,m+1,h,hm=>by
  have hi:i<is.length:=by omega
  have ih:=K9 hn os ho is k8 ms d (i+1) m (by omega) (by omega);rw[jf.B2];unfold jf.A3;simp(disch:=omega)only[ab,au,ak,cond_false,aC,aE,af,c7,cU,c8,dv,dA,ai,dn,dj,dc,dp,cO,cW,cY,cX,c_,cS,cT,IN.av,bP,aU];rw[ih,aG hi];show _=some (decide (is[i].ar.length<=6)&&BM (is.drop (i+1)));by_cases h1:is[i].ar.length<=6
  ·rw[cT (by omega),show decide (is[i].ar.length<=6)=true by simpa using h1,ct]
  ·rw[cS (by omega),show decide (is[i].ar.length<=6)=false by simpa using h1,Bool.false_and]
theorem K8(hn:1001<=n)(os:List OP)(ho:os.length<=100)(is:List IN)(k8 : is.length<=100)(ms:List MN):∀(d i m:Nat),i+d=os.length->d+200<m->jf.l n m (.z4 i (os.map OP.av) (is.map IN.av) (ms.map MN.av))=some (Hz (os.drop i)&&BM is)
 | _,_,0,_,h=>absurd h (by omega)
 | 0,i,m+1,h,_=>by
  rw[jf.Ai];unfold jf.r4;simp only[af];rw[cT (by omega),aH (by omega)];have:=K9 hn os (by omega) is (by omega) ms is.length 0 m (by omega) (by omega);rw[aU]at this;rw[show((0:Int))=((0:Nat):Int)from rfl,this];rfl
 | d+1,i,m+1,h,hm=>by
  have hi:i<os.length:=by omega
  obtain⟨m',rfl⟩:∃m',m=m'+1:=⟨m - 1,by omega⟩;have ih:=K8 hn os ho is k8 ms d (i+1) (m'+1) (by omega) (by omega);have h8:jf.l n (m'+1) .z8=some false:=rfl;rw[jf.Ai];unfold jf.r4;simp(disch:=omega)only[ab,au,ak,cond_false,aC,aE,af,c7,cU,c8,dv,dA,ai,dn,dj,dc,dp,cO,cW,cY,cX,c_,cS,cT,OP.av];rw[ih,h8,aG hi];show _=some ((!(decide (os[i].nm.length>100)||decide (os[i].ba.length>100)||decide (os[i].vx.length>600))&&Hz (os.drop (i+1)))&&BM is);have e1:∀(a b:Nat),decide (((a:Nat):Int)>(b:Int))=decide (a>b):=λa b=>by rw[b8];omega
  rw[show(100:Int)=((100:Nat):Int)from rfl,show(600:Int)=((600:Nat):Int)from rfl,e1,e1,e1];cases decide (os[i].nm.length>100)<;>cases decide (os[i].ba.length>100)<;>cases decide (os[i].vx.length>600)<;>simp
def uW(os:List OP)(is:List IN)(ms:List MN):Bool:=(decide (os.length<=28)&&decide (is.length<=44)&&decide (ms.length<=9))&&(Hz os&&BM is)
theorem Mo(hn:1001<=n)(os:List OP)(is:List IN)(ms:List MN):jf.F n (os.map OP.av) (is.map IN.av) (ms.map MN.av)=some (uW os is ms):=by
 unfold jf.F jf.e uW;obtain⟨m,rfl⟩:∃m,n=m+1:=⟨n - 1,by omega⟩;have h2:jf.l (m+1) (m+1) .z2=some false:=rfl;simp only[af,h2];by_cases h1:os.length<=28
 ·rw[cT (by omega)];by_cases h3:is.length<=44
  ·rw[cT (by omega)];by_cases h4:ms.length<=9
   ·rw[cT (by omega)];have:=K8 hn os (by omega) is (by omega) ms os.length 0 (m+1) (by omega) (by omega);rw[aU]at this;rw[show((0:Int))=((0:Nat):Int)from rfl,this];simp[h1,h3,h4]
   ·rw[cS (by omega)];simp[h4]
  ·rw[cS (by omega)];simp[h3]
 ·rw[cS (by omega)];simp[h1]
theorem vY{os:List OP}{is:List IN}{ms:List MN}(h:uW os is ms=true):os.length<=28/\is.length<=44/\ms.length<=9/\(∀o∈os,o.nm.length<=100/\o.ba.length<=100/\o.vx.length<=600)/\∀x∈is,x.ar.length<=6:=by
 unfold uW Hz BM at h;simp only[ae,az,ay,Bool.not_eq_true',aZ,bJ]at h;refine⟨h.1.1.1,h.1.1.2,h.1.2,λo ho=>?_,h.2.2⟩;have:=h.2.1 o ho;omega
theorem KD(hn:1001<=n)(is:List IN)(k8 : is.length<=1000)(hx:∀x∈is,x.ar.length<=1000)(z2 z4 z5 z7:List AV):∀(d i m:Nat),i+d=is.length->d<m->jj.l n m (.z3 i z2 (is.map IN.av) z4 z5 ((is.take i).map IN.av) z7)=some (z5,is.map IN.av,z7)
 | _,_,0,_,h=>absurd h (by omega)
 | 0,i,m+1,h,_=>by
  rw[jj.EJ];unfold jj.r3;simp only[af];rw[cT (by omega),b_ (by omega)]
 | d+1,i,m+1,h,hm=>by
  have hi:i<is.length:=by omega
  have kD:eR=1000000000:=rfl;have Xl:=hx is[i] (aX hi);have ih:=KD hn is k8 hx z2 z4 z5 z7 d (i+1) m (by omega) (by omega);have hc:uw.F n (is[i].ar.map vi)=some (is[i].ar.map vi):=by
   unfold uw.F uw.e;rw[af,cS (by omega)]
  rw[jj.EJ];unfold jj.r3;simp(disch:=omega)only[ab,au,ak,cond_false,aC,aE,af,c7,cU,c8,dv,dA,ai,dn,dj,dc,dp,cO,cW,cY,cX,c_,cS,cT,IN.av,bP,aU,hc,bu,aw,aF];rw[AP IN.av hi]at ih;exact ih
theorem LH(hn:1001<=n)(os:List OP)(ho:os.length<=1000)(is:List IN)(k8 : is.length<=1000)(hx:∀x∈is,x.ar.length<=1000)(ms:List MN)(hm:ms.length<=1000):jj.F n (os.map OP.av) (is.map IN.av) (ms.map MN.av)=some (os.map OP.av,is.map IN.av,ms.map MN.av):=by
 unfold jj.F jj.e;have kD:eR=1000000000:=rfl;rw[af,af,cS (by omega),cS (by omega)];exact KD hn is k8 hx _ _ _ _ is.length 0 n (by omega) (by omega)
end
theorem nl(a b:List UInt8):(bs a==bs b)=decide (a=b):=by
 show(a.toArray==b.toArray)=_;by_cases h:a=b
 ·subst h;simp
 ·simp[h]
theorem qw(a:List UInt8):(bs a==(⟨#[]⟩:ByteArray))=decide (a=[]):=nl a []
theorem qp(a:List UInt8):((⟨#[]⟩:ByteArray)==bs a)=decide (a=[]):=by
 have:=nl [] a;rw[show bs []=(⟨#[]⟩:ByteArray)from rfl]at this;rw[this,b8];exact⟨λh=>h.symm,λh=>h.symm⟩
theorem xj:∀(b:List (List UInt8)) (s:List UInt8) (j:Nat),iH b s j=-1\/(j:Int)<=iH b s j
 | [],s,j=>.inl rfl
 | w::b,s,j=>by
  rw[pg];by_cases h:w=s
  ·rw[if_pos h];exact .inr (Int.le_refl _)
  ·rw[if_neg h];rcases xj b s (j+1)with h1|h1
   ·exact .inl h1
   ·exact .inr (by omega)
theorem p_:∀(b:List (List UInt8)) (s:List UInt8) (j:Nat),b.contains s=true->∃k,k<b.length/\iH b s j=((j+k:Nat):Int)/\b[k]?=some s
 | [],s,j,h=>by simp at h
 | w::b,s,j,h=>by
  rw[pg];by_cases e:w=s
  ·rw[if_pos e];exact⟨0,by simp,rfl,by simp[e]⟩
  ·rw[ck,show(s==w)=false by simpa using λe'=>e e'.symm,Bool.false_or]at h;obtain⟨k,h1,h2,h3⟩:=p_ b s (j+1) h;rw[if_neg e,h2];exact⟨k+1,by simpa using h1,by rw[show j+1+k=j+(k+1) by omega],by simpa using h3⟩
theorem Jr{b:List (List UInt8)}{s:List UInt8}(h:b.contains s=false)(j:Nat):iH b s j=-1:=by
 have h1:=nF b s j;rw[h,bJ]at h1;rcases xj b s j with h2|h2
 ·exact h2
 ·omega
def hH(k:Int):Bool:=decide (k=0\/k=1\/k=2\/k=4)
section
variable {n:Nat}
theorem sU(n:Nat)(a0:ByteArray)(a1 a2 a3 a4 a5:Int)(a6 a7:ByteArray)(a8 a9:Int):lr.F n a0 a1 a2 a3 a4 a5 a6 a7 a8 a9=some (hH a1):=by
 unfold lr.F lr.e hH;simp only[eQ];by_cases h0:a1=0
 ·simp[h0]
 ·by_cases h1:a1=1
  ·simp[h1]
  ·by_cases h2:a1=2
   ·simp[h2]
   ·simp[h0,h1,h2,kg]
theorem pR(n:Nat)(a b c:Int):fY.F n a b c=some (decide (b<=a/\a<=c)):=by
 unfold fY.F fY.e;by_cases h:b<=a
 ·rw[cS h];simp[h]
 ·rw[cT h];simp[h]
def Mq(o:OP):Bool:=!(decide (o.vn=0)&&decide (o.vx=[]))
def Mr(o:OP):Bool:=!(decide (o.ba=[])&&decide (o.of=0))
def Pk(o:OP):Bool:=!(decide (o.k=0)&&(decide (o.l=0)&&decide (o.s=0)))
def K_(o:OP):Bool:=!decide (o.tg=0)
def extra(o:OP):Bool:=if o.kd=0\/o.kd=4 then Mr o||K_ o else if o.kd=1\/o.kd=2 then Mq o||K_ o else if o.kd=3 then Pk o||(Mq o||(Mr o||K_ o))else Pk o||(Mq o||Mr o)
def MT(p:gi.T)(o:OP):Bool:=!((p.1==bs o.nm)&&((p.2.1==o.kd)&&((p.2.2.1==o.k)&&((p.2.2.2.1==o.l)&&((p.2.2.2.2.1==o.s)&&((p.2.2.2.2.2.1==o.vn)&&((p.2.2.2.2.2.2.1==bs o.vx)&&((p.2.2.2.2.2.2.2.1==bs o.ba)&&((p.2.2.2.2.2.2.2.2.1==o.of)&&((p.2.2.2.2.2.2.2.2.2==o.tg)&&true))))))))))
theorem Di(a:Int):((0:Int)==a)=decide (a=0):=by rw[kg,b8];omega
theorem Jo(hn:1001<=n)(o:OP):∃p,gi.F n (bs o.nm) o.kd o.k o.l o.s o.vn (bs o.vx) (bs o.ba) o.of o.tg=some p/\(0<=o.kd/\o.kd<=5->MT p o=extra o):=by
 obtain⟨m,rfl⟩:∃m,n=m+2:=⟨n - 2,by omega⟩;obtain⟨nm,kd,k,l,s,vn,vx,ba,of,tg⟩:=o;unfold gi.F gi.e;simp only[sU,ab,eQ,gi.EI,gi.B2,gi.H0];unfold gi.r7 gi.A3;simp only[gi.H0];unfold gi.Cp hH extra MT Mq Mr Pk K_;by_cases h0:kd=0
 ·subst h0;refine⟨_,by simp;rfl,λ_=>?_⟩;simp[nl,qw,qp,Di,Bool.not_and,Bool.or_assoc]
 ·by_cases h4:kd=4
  ·subst h4;refine⟨_,by simp;rfl,λ_=>?_⟩;simp[nl,qw,qp,Di,Bool.not_and,Bool.or_assoc]
  ·by_cases h1:kd=1
   ·subst h1;refine⟨_,by simp;rfl,λ_=>?_⟩;simp[nl,qw,qp,Di,Bool.not_and,Bool.or_assoc]
   ·by_cases h2:kd=2
    ·subst h2;refine⟨_,by simp;rfl,λ_=>?_⟩;simp[nl,qw,qp,Di,Bool.not_and,Bool.or_assoc]
    ·by_cases h5:kd=5
     ·subst h5;refine⟨_,by simp;rfl,λ_=>?_⟩;simp[nl,qw,qp,Di,Bool.not_and,Bool.or_assoc]
     ·refine⟨_,by simp[h0,h1,h2,h4,h5];rfl,λhh=>?_⟩;obtain rfl:kd=3:=by omega
      simp[nl,qw,qp,Di,Bool.not_and,Bool.or_assoc]
end
section
variable {n:Nat}
theorem eT{α:Type}(a b:Int)(x y:α):(bif a != b then x else y)=if a=b then y else x:=by
 by_cases h:a=b
 ·subst h;simp
 ·rw[if_neg h,bne_iff_ne.2 h,ak]
theorem NK(n L:Nat)(hL:L<=18):∀(d i m:Nat),i+d=L->d<m->kj.l n m (.z3 ((10 ^ i:Nat):Int) (L:Int) (i:Int))=some ((10 ^ L:Nat):Int)
 | _,_,0,_,h=>absurd h (by omega)
 | 0,i,m+1,h,_=>by
  obtain rfl:i=L:=by omega
  rw[kj.EJ];unfold kj.r3;rw[cT (by omega)]
 | d+1,i,m+1,h,hm=>by
  have ih:=NK n L hL d (i+1) m (by omega) (by omega);have hp:10 ^ (i+1)<=10 ^ 18:=bS (by omega) (by omega);have he:10 ^ (i+1)=10 ^ i*10:=Nat.pow_succ ..;rw[kj.EJ];unfold kj.r3;rw[cS (by omega),dA (by omega),nU (by omega) (by omega),show((10 ^ i:Nat):Int)*10=((10 ^ (i+1):Nat):Int) by omega];exact ih
theorem Ga(hn:1001<=n){l:Int}(h0:0<=l)(h1:l<=18):kj.F n l=some ((10 ^ l.toNat:Nat):Int):=by
 unfold kj.F kj.e;have:=NK n l.toNat (by omega) l.toNat 0 n (by omega) (by omega);rw[if_neg (by omega)];rw[show((l.toNat:Nat):Int)=l by omega]at this;exact this
def kY(l:Int):Int:=((10 ^ l.toNat:Nat):Int) - 1
def ly(k l vn:Int)(vx:List UInt8):Int:=
 if k=0 then(if vn≠0 then 5 else if(vx.length:Int)≠l then 18 else 0)else(if vx≠[]then 5 else if ¬ (-(kY l)<=vn/\vn<=kY l)then 19 else 0)
theorem yW{l:Int}(h1:l<=18):0<=kY l/\kY l<=1000000000000000000:=by
 unfold kY;have hp:10 ^ l.toNat<=10 ^ 18:=bS (by omega) (by omega);have hq:0<10 ^ l.toNat:=Nat.pow_pos (by omega);omega
theorem u4(hn:1001<=n){k l s vn:Int}{vx:List UInt8}(ht:kH k l s=0)(h4:k≠4):rC.F n k l s vn (bs vx)=some (ly k l vn vx):=by
 unfold rC.F rC.e ly;have hc:=oE ht;simp only[ud hn,o7,w_ hn,ab,ht,kg,h4,decide_false,cw,bI,ne_eq,not_true_eq_false,eT,cb,xO,empty_eq];by_cases h0:k=0
 ·rw[if_pos h0,if_pos h0];by_cases h1:vn=0<;>by_cases h2:((vx.length:Nat):Int)=l<;>simp[h1,h2,cU]
 ·rw[if_neg h0,if_neg h0,Ga hn (by omega) (by omega),ab];have hm:=yW (l:=l) (by omega);have e:IntKind.i64.wrap (((10 ^ l.toNat:Nat):Int) - 1)=kY l:=by
   unfold kY at hm ⊢;rw[nU (by omega) (by omega)]
  rw[e,nU (x:=0 - kY l) (by omega) (by omega),GO,ab,show(0:Int) - kY l=-(kY l) by omega];by_cases h1:vx=[]<;>by_cases h2 : -(kY l)<=vn/\vn<=kY l<;>simp[h1,h2]
def nw:OP:=⟨[],0,0,0,0,0,[],[],0,0⟩
def MQ(os:List OP):Prop:=∀o∈os,hH o.kd=true->kH o.k o.l o.s=0
def under(before:List OP)(o:OP):OP:=before.getD (iH (dz before) o.ba 0).toNat nw
def Mx(before:List OP)(o:OP):Int:=
 if(dz before).contains o.ba=false then 11
 else if o.kd=2 then(if(under before o).kd≠3 then 17 else if ¬ (0<=o.of/\o.of<=256)then 3 else 0)
 else if(under before o).kd≠0 then 17 else if ¬ (0<=o.of/\o.of<=FK (under before o).k (under before o).l - FK o.k o.l)then 3 else 0
theorem yl{before:List OP}{o:OP}(h:(dz before).contains o.ba=true):∃j,∃hj:j<before.length,iH (dz before) o.ba 0=(j:Int)/\under before o=before[j]:=by
 obtain⟨j,h1,h2,h3⟩:=p_ (dz before) o.ba 0 h;rw[fG]at h1;refine⟨j,h1,by rw[h2,b6],?_⟩;unfold under;rw[h2,b6,ai,ah,aP h1,cj]
theorem dD{b:Bool}(h:b=true){α:Type}(x:Option α):(bif b then x else none)=x:=by rw[h];rfl
theorem uf(hn:1001<=n)(before:List OP)(hb:before.length<=1000)(gJ:MQ before)(o:OP)(hk:o.kd=1\/o.kd=2)(ht:kH o.k o.l o.s=0) :
  re.F n (bs o.nm) o.kd o.k o.l o.s o.vn (bs o.vx) (bs o.ba) o.of o.tg (before.map OP.av)=some (Mx before o):=by
 unfold re.F re.e Mx;rw[o8 hn before hb,ab];by_cases hc:(dz before).contains o.ba=true
 ·obtain⟨j,hj,e1,e2⟩:=yl hc;rw[e1,e2,if_neg (by rw[hc];simp),cT (by omega)];simp(disch:=omega)only[ab,au,ak,cond_false,aC,aE,af,c7,cU,c8,dv,dA,ai,dn,dj,dc,dp,cO,cW,cY,cX,c_,cS,cT,OP.av];rw[eQ];by_cases h2:o.kd=2
  ·rw[if_pos h2,if_pos h2,mi,ab,pR,ab,mi,ab];rw[xv hn,ab];by_cases h3:before[j].kd=3<;>by_cases h4:0<=o.of/\o.of<=256<;>simp[h3,h4]
  ·rw[if_neg h2,if_neg h2,eT];by_cases h0:before[j].kd=0
   ·have hd:hH before[j].kd=true:=by simp[hH,h0]
    have hu:=gJ _ (aX hj) hd;have r1:=nx hu;have r2:=nx ht;rw[if_pos h0,if_neg (by simp[h0])];unfold xZ.F xZ.e;rw[sizeOf_eq hn hu,ab,ab,sizeOf_eq hn ht,ab,ab,nU (by omega) (by omega),pR,ab,mi,ab];by_cases h4:0<=o.of/\o.of<=FK before[j].k before[j].l - FK o.k o.l<;>simp[h4]
   ·rw[if_neg h0,if_pos h0]
 ·rw[bm]at hc;rw[Jr hc,if_pos hc,cS (by omega)]
def w6(before:List OP)(o:OP)(nI:Nat):Int:=
 if gI o.nm=false then 7 else if(dz before).contains o.nm=true then 13 else if ¬ (0<=o.kd/\o.kd<=5)then 4 else if extra o=true then 5
 else if hH o.kd=true/\kH o.k o.l o.s≠0 then kH o.k o.l o.s else if hH o.kd=true/\o.k=4 then 17
 else if o.kd=0\/o.kd=4 then ly o.k o.l o.vn o.vx else if o.kd=1\/o.kd=2 then Mx before o else if o.kd=5 then(if 0<=o.tg/\o.tg<=(nI:Int) - 1 then 0 else 3)else 0
theorem Gi(hn:1001<=n)(os:List OP)(ho:os.length<=1000)(is:List IN)(k8 : is.length<=1000)(a2:List AV)(i:Nat)(hi:i<os.length)(gJ:MQ (os.take i)) :
  jw.F n (os.map OP.av) (is.map IN.av) a2 (i:Int)=some (w6 (os.take i) os[i] is.length):=by
 obtain⟨m,rfl⟩:∃m,n=m+2:=⟨n - 2,by omega⟩;unfold jw.F jw.e;simp(disch:=omega)only[ab,au,ak,cond_false,aC,aE,af,c7,cU,c8,dv,dA,ai,dn,dj,dc,dp,cO,cW,cY,cX,c_,cS,cT,OP.av];rw[show((os.map OP.av).take i).drop 0=(os.take i).map OP.av by simp[List.map_take]];obtain⟨p,KY,Iw⟩:=Jo hn os[i];simp only[km hn,mi,ab,o8 hn (os.take i) (by rw[bu];omega),pR,KY,sU];have Ix:=zQ (n:=m+2) [(if(!gI os[i].nm)=true then 7 else 0),(if decide (iH (dz (os.take i)) os[i].nm 0>=0)=true then 13 else 0),(if(!decide (0<=os[i].kd/\os[i].kd<=5))=true then 4 else 0),(if MT p os[i]=true then 5 else 0)] (by simp) hn;have G6 : fx.F (m+2) [vi (if(!gI os[i].nm)=true then 7 else 0),vi (if decide (iH (dz (os.take i)) os[i].nm 0>=0)=true then 13 else 0),vi (if(!decide (0<=os[i].kd/\os[i].kd<=5))=true then 4 else 0),vi (if MT p os[i]=true then 5 else 0)]=_:=Ix;rw[nF]at G6;simp only[nF,ge_iff_le]at G6 ⊢;unfold MT at G6;rw[G6];show(some (fz [(if(!gI os[i].nm)=true then 7 else 0),(if(dz (os.take i)).contains os[i].nm=true then 13 else 0),(if(!decide (0<=os[i].kd/\os[i].kd<=5))=true then 4 else 0),(if MT p os[i]=true then 5 else 0)])).bind _=_;rw[ab];clear Ix G6 KY;unfold w6;cases h1:gI os[i].nm with
 | false=>simp[fz]
 | true=>
  cases h2:(dz (os.take i)).contains os[i].nm with
  | true=>simp[fz]
  | false=>
   by_cases hk:0<=os[i].kd/\os[i].kd<=5
   ·rw[Iw hk];cases he:extra os[i]with
    | true=>simp[fz,hk]
    | false=>
     have hz:fz [(if(!true)=true then 7 else 0),(if false=true then 13 else 0),(if(!decide (0<=os[i].kd/\os[i].kd<=5))=true then 4 else 0),(if false=true then 5 else 0)]=0:=by simp[fz,hk]
     rw[hz,eT,if_pos rfl];simp only[if_neg (show ¬ (true=false) by simp),if_neg (show ¬ (false=true) by simp),if_neg (not_not_intro hk)];simp only[ud hn,ab,xv hn,eQ,eT,jw.H2,jw.EK];unfold jw.uM jw.rI;have hd:os[i].kd=0\/os[i].kd=1\/os[i].kd=2\/os[i].kd=3\/os[i].kd=4\/os[i].kd=5:=by omega
     cases Sx:hH os[i].kd with
     | true=>
      rw[ak];by_cases ht:kH os[i].k os[i].l os[i].s=0
      ·by_cases h4:os[i].k=4
       ·have Up:=ht;rw[h4]at Up;simp[Up,h4]
       ·simp only[hH,az]at Sx;have hv:=u4 (vn:=os[i].vn) (vx:=os[i].vx) hn ht h4;rcases Sx with h|h|h|h
        ·simp[h,ht,h4,hv]
        ·have hb:=uf hn (os.take i) (by rw[bu];omega) gJ os[i] (.inl h) ht;rw[h]at hb;simp[h,ht,h4,<-List.map_take,hb]
        ·have hb:=uf hn (os.take i) (by rw[bu];omega) gJ os[i] (.inr h) ht;rw[h]at hb;simp[h,ht,h4,<-List.map_take,hb]
        ·simp[h,ht,h4,hv]
      ·simp[ht]
     | false=>
      rw[cond_false];simp only[hH,bJ]at Sx;have X6:os[i].kd=3\/os[i].kd=5:=by omega
      rcases X6 with h|h
      ·simp[h]
      ·rw[nU (by omega) (by omega)];by_cases h6:0<=os[i].tg/\os[i].tg<=(is.length:Int) - 1<;>simp[h,h6]
   ·have rU : decide (0<=os[i].kd/\os[i].kd<=5)=false:=by rw[bJ];exact hk
    rw[rU,if_pos hk];simp[fz]
end
theorem LA(m k:Nat)(hk:k<=28):jW.F (m+40) [vi (-1)] ((k:Nat):Int)=some (List.replicate k (vi (-1))):=by
 have hd:k=0\/k=1\/k=2\/k=3\/k=4\/k=5\/k=6\/k=7\/k=8\/k=9\/k=10\/k=11\/k=12\/k=13\/k=14\/k=15\/k=16\/k=17\/k=18\/k=19\/k=20\/k=21\/k=22\/k=23\/k=24\/k=25\/k=26\/k=27\/k=28:=by omega
 rcases hd with rfl|rfl|rfl|rfl|rfl|rfl|rfl|rfl|rfl|rfl|rfl|rfl|rfl|rfl|rfl|rfl|rfl|rfl|rfl|rfl|rfl|rfl|rfl|rfl|rfl|rfl|rfl|rfl|rfl<;>(show _=_;kernel_rfl)
def r1:List OP->Int->List Int
 | [],_=>[]
 | o::r,a=>if o.kd=3 then a::r1 r (IntKind.i64.wrap (a+16))else -1::r1 r a
def e1:List OP->Int->Int
 | [],a=>a
 | o::r,a=>e1 r (if o.kd=3 then IntKind.i64.wrap (a+16)else a)
def p2:List OP->Nat->List Int->Int->List Int × Int
 | [],_,row,a=>(row,a)
 | o::r,i,row,a=>if o.kd=0 then p2 r (i+1) (row.set i a) (IntKind.i64.wrap (a+FK o.k o.l))else p2 r (i+1) row a
def p3(os:List OP):List OP->Nat->List Int->List Int
 | [],_,row=>row
 | o::r,i,row=>if o.kd=1 then p3 os r (i+1) (row.set i (IntKind.i64.wrap (row.getD (iH (dz os) o.ba 0).toNat 0+o.of)))else p3 os r (i+1) row
def Bq(os:List OP):List Int × Int:=(p3 os os 0 (p2 os 0 (r1 os 0) (e1 os 0)).1,IntKind.i64.wrap (Int.tdiv (IntKind.i64.wrap (IntKind.i64.wrap ((p2 os 0 (r1 os 0) (e1 os 0)).2+16) - 1)) 16))
theorem Cn:∀(xs:List OP) (o:OP) (a:Int),r1 (xs++[o]) a=r1 xs a++[if o.kd=3 then e1 xs a else -1]
 | [],o,a=>by by_cases h:o.kd=3<;>simp[r1,e1,h]
 | x::xs,o,a=>by by_cases h:x.kd=3<;>simp[r1,e1,h,Cn xs o]
theorem Da:∀(xs:List OP) (o:OP) (a:Int),e1 (xs++[o]) a=if o.kd=3 then IntKind.i64.wrap (e1 xs a+16)else e1 xs a
 | [],o,a=>rfl
 | x::xs,o,a=>by simp[e1,Da xs o]
theorem pN:∀(xs:List OP) (a:Int),(r1 xs a).length=xs.length
 | [],a=>rfl
 | x::xs,a=>by by_cases h:x.kd=3<;>simp[r1,h,pN xs]
def Ub(os:List OP):Prop:=MQ os/\∀o∈os,o.kd=1->(dz os).contains o.ba=true
theorem IZ{α:Type}(f:Int->α)(A B:List Int)(b x:Int){i:Nat}(h:A.length=i):((A++b::B).map f).set i (f x)=((A++[x])++B).map f:=by
 subst h;simp[List.set_append]
theorem vI(row:List Int)(i:Nat)(x:Int):(row.map vi).set i (vi x)=(row.set i x).map vi:=by rw[List.map_set]
section
variable {n:Nat}
theorem NV(os:List OP)(ho:os.length<=1000)(zo:List AV)(K:Option (List AV × Int))(hK:∀m,2*os.length+40<=m->fH.l n m (.dy zo (e1 os 0) zo ((zo.length:Nat):Int) 0 ((r1 os 0).map vi))=K):∀(d i m:Nat),i+d=os.length->d+(2*os.length+40)<m->
  fH.l n m (.z4 zo (e1 (os.take i) 0) (os.map OP.av) os.length i ((r1 (os.take i) 0++List.replicate d (-1)).map vi))=K
 | _,_,0,_,h=>absurd h (by omega)
 | 0,i,m+1,h,hm=>by
  rw[fH.Ai];unfold fH.r4;rw[cT (by omega),b_ (by omega)];simp only[List.replicate_zero,bf];exact hK m (by omega)
 | d+1,i,m+1,h,hm=>by
  have hi:i<os.length:=by omega
  have ih:=NV os ho zo K hK d (i+1) m (by omega) (by omega);have hl:(r1 (os.take i) 0).length=i:=by rw[pN,bu];omega
  rw[fH.Ai];unfold fH.r4;simp(disch:=omega)only[ab,au,ak,cond_false,aC,aE,af,c7,cU,c8,dv,dA,ai,dn,dj,dc,dp,cO,cW,cY,cX,c_,cS,cT,OP.av,ag,bY,hl];rw[bR hi,Cn,Da]at ih;rw[eQ];by_cases h3:os[i].kd=3
  ·rw[if_pos h3,if_pos h3]at ih;rw[if_pos h3,List.replicate_succ,IZ vi _ _ _ _ hl];exact ih
  ·rw[if_neg h3,if_neg h3]at ih;rw[if_neg h3,List.replicate_succ,<-ih];simp
theorem KL(hn:1001<=n)(os:List OP)(ho:os.length<=1000)(gJ:MQ os)(zo:List AV)(G:List Int × Int->Option (List AV × Int))(hK:∀m row a,os.length+10<=m->row.length=os.length->fH.l n m (.dV zo a zo ((zo.length:Nat):Int) 0 (row.map vi))=G (row,a)):∀(d i m:Nat) (row:List Int) (a:Int),i+d=os.length->d+(os.length+10)<m->row.length=os.length->
  fH.l n m (.dy zo a (os.map OP.av) os.length i (row.map vi))=G (p2 (os.drop i) i row a)
 | _,_,0,_,_,_,h,_=>absurd h (by omega)
 | 0,i,m+1,row,a,h,hm,hr=>by
  rw[fH.B2];unfold fH.A3;rw[cT (by omega),aH (by omega)];exact hK m row a (by omega) hr
 | d+1,i,m+1,row,a,h,hm,hr=>by
  have hi:i<os.length:=by omega
  have ih:=λLy a' KW=>KL hn os ho gJ zo G hK d (i+1) m Ly a' (by omega) (by omega) KW;rw[fH.B2];unfold fH.A3;simp(disch:=omega)only[ab,au,ak,cond_false,aC,aE,af,c7,cU,c8,dv,dA,ai,dn,dj,dc,dp,cO,cW,cY,cX,c_,cS,cT,OP.av,hr];rw[aG hi,eQ];unfold p2;by_cases h0:os[i].kd=0
  ·have hd:hH os[i].kd=true:=by simp[hH,h0]
   rw[if_pos h0,if_pos h0];unfold xZ.F xZ.e;rw[sizeOf_eq hn (gJ _ (aX hi) hd),ab,ab,vI,ih _ _ (by simpa using hr)]
  ·rw[if_neg h0,if_neg h0,ih _ _ hr]
theorem KK(hn:1001<=n)(os:List OP)(ho:os.length<=1000)(gJ:∀o∈os,o.kd=1->(dz os).contains o.ba=true)(a:Int):∀(d i m:Nat) (row:List Int),i+d=os.length->d<m->row.length=os.length->
  fH.l n m (.dV (os.map OP.av) a (os.map OP.av) os.length i (row.map vi))=some ((p3 os (os.drop i) i row).map vi,IntKind.i64.wrap (Int.tdiv (IntKind.i64.wrap (IntKind.i64.wrap (a+16) - 1)) 16))
 | _,_,0,_,_,h,_=>absurd h (by omega)
 | 0,i,m+1,row,h,hm,hr=>by
  rw[fH.HY];unfold fH.I4;rw[cT (by omega),aH (by omega)];rfl
 | d+1,i,m+1,row,h,hm,hr=>by
  have hi:i<os.length:=by omega
  have ih:=λLy KW=>KK hn os ho gJ a d (i+1) m Ly (by omega) (by omega) KW;rw[fH.HY];unfold fH.I4;simp(disch:=omega)only[ab,au,ak,cond_false,aC,aE,af,c7,cU,c8,dv,dA,ai,dn,dj,dc,dp,cO,cW,cY,cX,c_,cS,cT,OP.av,hr];rw[aG hi,eQ];unfold p3;by_cases h1:os[i].kd=1
  ·obtain⟨k,hk,e,_⟩:=p_ (dz os) os[i].ba 0 (gJ _ (aX hi) h1);rw[fG]at hk;rw[if_pos h1,if_pos h1,o8 hn os ho,ab,e,b6];have XP:k<row.length:=by omega
   simp(disch:=omega)only[ab,au,ak,cond_false,aC,aE,af,c7,cU,c8,dv,dA,ai,dn,dj,dc,dp,cO,cW,cY,cX,c_,cS,cT,hr];rw[vI,ih _ (by simpa using hr)];simp[ah,XP]
  ·rw[if_neg h1,if_neg h1,ih _ hr]
theorem DQ(hn:1001<=n)(os:List OP)(ho:os.length<=28)(gJ:Ub os):fH.F n (os.map OP.av)=some ((Bq os).1.map vi,(Bq os).2):=by
 obtain⟨m,rfl⟩:∃m,n=m+40:=⟨n - 40,by omega⟩;unfold fH.F fH.e;rw[af,LA m _ ho,ab];have h:=NV (n:=m+40) os (by omega) (os.map OP.av) (some ((Bq os).1.map vi,(Bq os).2)) (λq hq=>by
  rw[af];have Iz:=KL (n:=m+40) hn os (by omega) gJ.1 (os.map OP.av) (λx=>some ((p3 os os 0 x.1).map vi,IntKind.i64.wrap (Int.tdiv (IntKind.i64.wrap (IntKind.i64.wrap (x.2+16) - 1)) 16))) (λq' row a pk hr=>by
   rw[af];have K6:=KK (n:=m+40) hn os (by omega) gJ.2 a os.length 0 q' row (by omega) (by omega) hr;rw[aU]at K6;exact K6) os.length 0 q (r1 os 0) (e1 os 0) (by omega) (by omega) (pN os 0)
  rw[aU]at Iz;exact Iz) os.length 0 (m+40) (by omega) (by omega)
 simpa[r1,e1]using h
end
def cls(op:Int):List Int:=
 if op=0 then[0,4]else if op=1 then[2,3]else if op=2\/op=3\/op=4\/op=5\/op=6 then[2,3,3]else if op=7\/op=8 then[1,4,6]else if op=9\/op=13 then[6]else if op=10 then[5,0]
 else if op=11 then[5,5]else if op=12 then[5,3]else if op=15 then[3]else if op=16 then[2]else if op=17 then[1]else[]
theorem ky{op:Int}(h:0<=op/\op<=18):op=0\/op=1\/op=2\/op=3\/op=4\/op=5\/op=6\/op=7\/op=8\/op=9\/op=10\/op=11\/op=12\/op=13\/op=14\/op=15\/op=16\/op=17\/op=18:=by omega
theorem EB{op:Int}(h:0<=op/\op<=18):∀c∈cls op,0<=c/\c<=6:=by
 rcases ky h with rfl|rfl|rfl|rfl|rfl|rfl|rfl|rfl|rfl|rfl|rfl|rfl|rfl|rfl|rfl|rfl|rfl|rfl|rfl<;>decide
theorem pz{op:Int}(h:0<=op/\op<=18):(cls op).length<=3:=by
 rcases ky h with rfl|rfl|rfl|rfl|rfl|rfl|rfl|rfl|rfl|rfl|rfl|rfl|rfl|rfl|rfl|rfl|rfl|rfl|rfl<;>decide
def JR(o b:OP)(c:Int):Bool:=
 if c=5 then decide (o.kd=3)else if c=6 then decide (o.kd=5)
 else hH o.kd&&(!(decide (c=0\/c=2)&&decide (o.kd=4))&&(!(decide (c=2\/c=3)&&decide (o.k=0))&&!(decide (c=4)&&(decide (o.k=0) != decide (b.k=0)))))
section
variable {n:Nat}
theorem I9(n:Nat)(a0:ByteArray)(a1 a2 a3 a4 a5:Int)(a6 a7:ByteArray)(a8 a9:Int):u7.F n a0 a1 a2 a3 a4 a5 a6 a7 a8 a9=some (!decide (a2=0)):=rfl
theorem JQ(hn:1001<=n)(o b:OP)(c:Int)(hc:0<=c/\c<=6):j9.F n (bs o.nm) o.kd o.k o.l o.s o.vn (bs o.vx) (bs o.ba) o.of o.tg (bs b.nm) b.kd b.k b.l b.s b.vn (bs b.vx) (bs b.ba) b.of b.tg c=some (JR o b c):=by
 obtain⟨m,rfl⟩:∃m,n=m+1:=⟨n - 1,by omega⟩;unfold j9.F j9.e;simp only[j9.at8];unfold j9.r8 JR;simp only[sU,I9,ab,eQ];have hd:c=0\/c=1\/c=2\/c=3\/c=4\/c=5\/c=6:=by omega
 rcases hd with rfl|rfl|rfl|rfl|rfl|rfl|rfl<;>cases hH o.kd<;>by_cases h4:o.kd=4<;>by_cases h0:o.k=0<;>by_cases hb:b.k=0<;>simp[h4,h0,hb,kg]
def MV(os:List OP):List Int->List Int->OP->Int
 | c::cs,a::ar,b=>if ¬ (0<=a/\a<=(os.length:Int) - 1)then 3 else if JR (os.getD a.toNat nw) b c=false then 17 else MV os cs ar (os.getD a.toNat nw)
 | _,_,_=>0
def nc(os:List OP)(x:IN):Int:=if ¬ (0<=x.op/\x.op<=18)then 4 else if x.ar.length≠(cls x.op).length then 37 else MV os (cls x.op) x.ar nw
theorem uc{op:Int}(h:0<=op/\op<=18):∃r,jV (op.toNat*1) [.sl ⟨true,3,false⟩ 1 O6,.sl ⟨true,3,false⟩ 1 O5,.sl ⟨true,3,false⟩ 1 O4,.sl ⟨true,3,false⟩ 1 O3,.sl ⟨true,3,false⟩ 1 O2,.sl ⟨true,3,false⟩ 1 O1,.sl ⟨true,3,false⟩ 1 O0,.sl ⟨true,3,false⟩ 1 OZ,.sl ⟨true,3,false⟩ 1 OY,.sl ⟨true,3,false⟩ 1 OX,.sl ⟨true,3,false⟩ 1 Hu,.sl ⟨true,3,false⟩ 1 Ht,.sl ⟨true,3,false⟩ 1 Hs,.sl ⟨true,3,false⟩ 1 Hr,.sl ⟨true,3,false⟩ 1 Hq,.sl ⟨true,3,false⟩ 1 Hp,.sl ⟨true,3,false⟩ 1 Ho,.sl ⟨true,3,false⟩ 1 Hn,.sl ⟨true,3,false⟩ 1 Hm]=.sl ⟨true,3,false⟩ 1 ((cls op).map vi)::r:=by
 rcases ky h with rfl|rfl|rfl|rfl|rfl|rfl|rfl|rfl|rfl|rfl|rfl|rfl|rfl|rfl|rfl|rfl|rfl|rfl|rfl<;>exact⟨_,rfl⟩
theorem Je{op:Int}(h:0<=op/\op<=18):(decide ((0:Int)<=op)&&decide (op<((19:Nat):Int)))=true:=by
 rw[ae,az,az];omega
theorem JO{os:List OP}{a:Int}(h:0<=a/\a<=(os.length:Int) - 1):(os.map OP.av).getD a.toNat AV.undef=(os.getD a.toNat nw).av:=by
 have:a.toNat<os.length:=by omega
 simp[ah,this]
theorem Q6{len:Nat}{a:Int}(h:0<=a/\a<=(len:Int) - 1):(decide ((0:Int)<=a)&&decide (a<((len:Nat):Int)))=true:=by
 rw[ae,az,az];omega
theorem KM(hn:1001<=n)(os:List OP)(ho:os.length<=1000)(is:List AV)(ms:List AV)(op:Int)(eF:0<=op/\op<=18)(ar:List Int)(SG:ar.length=(cls op).length):∀(d i m:Nat) (b:OP),i+d=ar.length->d<m->
  ki.l n m (.z7 (ar.map vi) ar.length i (os.map OP.av) is ms op (ar.map vi) (bs b.nm) b.kd b.k b.l b.s b.vn (bs b.vx) (bs b.ba) b.of b.tg)=some (MV os ((cls op).drop i) (ar.drop i) b)
 | _,_,0,_,_,h=>absurd h (by omega)
 | 0,i,m+1,b,h,_=>by
  rw[ki.EI];unfold ki.r7;rw[cT (by omega),aH (by omega),aH (by omega)];rfl
 | d+1,i,m+1,b,h,hm=>by
  have hi:i<ar.length:=by omega
  have UG:i<(cls op).length:=by omega
  have Zk:=pz eF;have ih:=λb=>KM hn os ho is ms op eF ar SG d (i+1) m b (by omega) (by omega);obtain⟨r,hr⟩:=uc eF;rw[ki.EI];unfold ki.r7;rw[hr,aG hi,aG UG];unfold MV;simp(disch:=omega)only[ab,au,ak,cond_false,aC,aE,af,c7,cU,c8,dv,dA,ai,dn,dj,dc,dp,cO,cW,cY,cX,c_,cS,cT,pR];rw[nU (by omega) (by omega)];by_cases hr:0<=ar[i]/\ar[i]<=(os.length:Int) - 1
  ·rw[if_neg (not_not_intro hr),decide_eq_true hr,aC,cond_false,dD (Q6 hr),JO hr];simp only[Je eF,Q6 hr,ak];simp(disch:=omega)only[ab,au,ak,cond_false,aC,aE,af,c7,cU,c8,dv,dA,ai,dn,dj,dc,dp,cO,cW,cY,cX,c_,cS,cT,OP.av,JQ hn (os.getD ar[i].toNat nw) b _ (EB eF _ (aX UG))];rw[nK];cases hf:JR (os.getD ar[i].toNat nw) b (cls op)[i]with
   | false=>rfl
   | true=>
    rw[if_neg (by simp),if_neg (by simp)];exact ih _
  ·rw[if_pos hr,show decide (0<=ar[i]/\ar[i]<=(os.length:Int) - 1)=false by rw[bJ];exact hr];rfl
theorem DV(hn:1001<=n)(os:List OP)(ho:os.length<=1000)(is ms:List AV)(x:IN)(hx:x.ar.length<=1000):ki.F n (os.map OP.av) is ms x.op (x.ar.map vi)=some (nc os x):=by
 unfold ki.F ki.e nc;rw[pR,ab,nK];by_cases eF:0<=x.op/\x.op<=18
 ·obtain⟨r,hr⟩:=uc eF;rw[if_neg (by simpa using eF),if_neg (not_not_intro eF),dD (Je eF),hr];simp(disch:=omega)only[ab,au,ak,cond_false,aC,aE,af,c7,cU,c8,dv,dA,ai,dn,dj,dc,dp,cO,cW,cY,cX,c_,cS,cT];rw[eT];by_cases hl:x.ar.length=(cls x.op).length
  ·rw[if_pos (by omega),if_neg (by simpa using hl)];have h:=KM hn os ho is ms x.op eF x.ar hl x.ar.length 0 n nw (by omega) (by have:=pz eF;omega);rw[aU,aU]at h;exact h
  ·rw[if_neg (by omega),if_pos hl]
 ·rw[if_pos (by simpa using eF),if_pos eF]
def Jf(os:List OP):Prop:=∀o∈os,hH o.kd=true->kH o.k o.l o.s=0/\o.k≠4
def mG(nI:Nat)(m:MN):Int:=if 0<=m.fr/\m.fr<m.tt/\m.tt<=(nI:Int)/\(0<=m.ex/\m.ex<=999)/\(0<=m.hd/\m.hd<=(nI:Int) - 1)then 0 else 3
theorem DP(hn:1001<=n)(os:List AV)(is:List IN)(k8 : is.length<=1000)(ms:List AV)(x:MN):j8.F n os (is.map IN.av) ms x.fr x.tt x.ex x.hd=some (mG is.length x):=by
 obtain⟨m,rfl⟩:∃m,n=m+1:=⟨n - 1,by omega⟩;unfold j8.F j8.e mG;simp only[j8.EJ];unfold j8.r3;simp only[pR,mi,ab,af,ge_iff_le];rw[nU (by omega) (by omega)];by_cases h1:0<=x.fr<;>by_cases h2:x.fr<x.tt<;>by_cases h3:x.tt<=(is.length:Int)<;>by_cases h4:0<=x.ex/\x.ex<=999<;>by_cases h5:0<=x.hd/\x.hd<=(is.length:Int) - 1<;>simp[h1,h2,h3,h4,h5]
end
def l6(nI:Nat):List OP->List OP->Int × Int
 | _,[]=>(0,0)
 | b,o::r=>if w6 b o nI≠0 then((b.length:Int),w6 b o nI)else l6 nI (b++[o]) r
def rm(os:List OP):List IN->Nat->Int × Int
 | [],_=>(0,0)
 | x::r,i=>if nc os x≠0 then((i:Int),nc os x)else rm os r (i+1)
def rj(nI:Nat):List MN->Nat->Int × Int
 | [],_=>(0,0)
 | x::r,i=>if mG nI x≠0 then((i:Int),mG nI x)else rj nI r (i+1)
def xL(nI:Nat)(ms:List MN):Int × Int × Int:=if(rj nI ms 0).2≠0 then(3,(rj nI ms 0).1,(rj nI ms 0).2)else(0,0,0)
def xM(os:List OP)(is:List IN)(ms:List MN):Int × Int × Int:=if(rm os is 0).2≠0 then(2,(rm os is 0).1,(rm os is 0).2)else xL is.length ms
def fC(os:List OP)(is:List IN)(ms:List MN):Int × Int × Int:=
 if os.length>24\/is.length>40\/ms.length>6 then(0,0,2)else if is.length=0 then(0,0,1)
 else if(l6 is.length [] os).2≠0 then(1,(l6 is.length [] os).1,(l6 is.length [] os).2)else if(Bq os).2>24 then(0,0,30)else xM os is ms
theorem lE(nI:Nat)(b r:List OP)(o:OP):l6 nI b (o::r)=if w6 b o nI≠0 then((b.length:Int),w6 b o nI)else l6 nI (b++[o]) r:=rfl
theorem qc(os:List OP)(x:IN)(r:List IN)(i:Nat):rm os (x::r) i=if nc os x≠0 then((i:Int),nc os x)else rm os r (i+1):=rfl
theorem pZ(nI:Nat)(x:MN)(r:List MN)(i:Nat):rj nI (x::r) i=if mG nI x≠0 then((i:Int),mG nI x)else rj nI r (i+1):=rfl
theorem s6{b:List OP}{o:OP}{nI:Nat}(h:w6 b o nI=0):(hH o.kd=true->kH o.k o.l o.s=0/\o.k≠4)/\(o.kd=1->(dz b).contains o.ba=true):=by
 unfold w6 at h;split at h
 ·cases h
 split at h
 ·cases h
 split at h
 ·cases h
 split at h
 ·cases h
 split at h
 ·rename_i h5;exact absurd h h5.2
 split at h
 ·cases h
 rename_i h5 h6;refine⟨λhd=>⟨?_,λh4=>h6 ⟨hd,h4⟩⟩,λh1=>?_⟩
 ·by_cases hc:kH o.k o.l o.s=0
  ·exact hc
  ·exact absurd ⟨hd,hc⟩ h5
 ·rw[if_neg (by omega),if_pos (.inl h1)]at h;unfold Mx at h;cases hc:(dz b).contains o.ba with
  | true=>rfl
  | false=>rw[if_pos hc]at h;cases h
theorem Cw{nI:Nat}:∀(r b:List OP),(l6 nI b r).2=0->Jf b->(∀o∈b,o.kd=1->(dz b).contains o.ba=true)->Jf (b++r)/\∀o∈b++r,o.kd=1->(dz (b++r)).contains o.ba=true
 | [],b,_,h1,h2=>by rw[bf];exact⟨h1,h2⟩
 | o::r,b,h,h1,h2=>by
  rw[lE]at h;by_cases h0:w6 b o nI=0
  ·rw[if_neg (not_not_intro h0)]at h;obtain⟨k1,k2⟩:=s6 h0;have:=Cw r (b++[o]) h (λx hx=>by
    rcases aK.1 hx with hx|hx
    ·exact h1 x hx
    ·rw[bh]at hx;subst hx;exact k1) (λx hx hk=>by
    rw[dz,List.map_append,bV,az,aK];refine .inl ?_;rcases aK.1 hx with hx|hx
    ·have:=h2 x hx hk;rwa[bV,az]at this
    ·rw[bh]at hx;subst hx;have:=k2 hk;rwa[bV,az]at this)
   simpa using this
  ·rw[if_pos h0]at h;exact absurd h h0
theorem Jb{nI:Nat}{os:List OP}(h:(l6 nI [] os).2=0):Ub os:=by
 have:=Cw os [] h (λo ho=>by cases ho) (λo ho=>by cases ho);rw[bn]at this;exact⟨λo ho hd=>(this.1 o ho hd).1,this.2⟩
section
variable {n:Nat}
theorem FG{os:List OP}{i nI:Nat}(hi:i<os.length)(h:Jf (os.take i))(h0:w6 (os.take i) os[i] nI=0):Jf (os.take (i+1)):=by
 rw[bR hi];intro x hx;rcases aK.1 hx with hx|hx
 ·exact h x hx
 ·rw[bh]at hx;subst hx;exact(s6 h0).1
theorem NQ{os:List OP}(h:Jf os):MQ os:=λo ho hd=>(h o ho hd).1
theorem KA(hn:1001<=n)(os:List AV)(is:List IN)(k8 : is.length<=1000)(ms:List MN)(ou : ms.length<=1000)(z7 z8:Int):∀(d i m:Nat),i+d=ms.length->d<m->
  eL.l n m (.z23 (ms.map MN.av) ms.length i os (is.map IN.av) (ms.map MN.av) z7 z8)=some (if(rj is.length (ms.drop i) i).2≠0 then(3,(rj is.length (ms.drop i) i).1,(rj is.length (ms.drop i) i).2)else(0,0,0))
 | _,_,0,_,h=>absurd h (by omega)
 | 0,i,m+1,h,_=>by
  rw[eL.Px];unfold eL.Iq;rw[cT (by omega),aH (by omega)];rfl
 | d+1,i,m+1,h,hm=>by
  have hi:i<ms.length:=by omega
  have ih:=KA hn os is k8 ms ou z7 z8 d (i+1) m (by omega) (by omega);rw[eL.Px];unfold eL.Iq;simp(disch:=omega)only[ab,au,ak,cond_false,aC,aE,af,c7,cU,c8,dv,dA,ai,dn,dj,dc,dp,cO,cW,cY,cX,c_,cS,cT,MN.av];rw[DP hn _ _ k8,ab,eT,ih,aG hi,pZ];by_cases h0:mG is.length ms[i]=0
  ·rw[if_pos h0,if_neg (not_not_intro h0)]
  ·rw[if_neg h0,if_pos h0,if_pos h0]
theorem NM(hn:1001<=n)(os:List OP)(ho:os.length<=1000)(is:List IN)(k8 : is.length<=1000)(hx:∀x∈is,x.ar.length<=1000)(ms:List MN)(ou : ms.length<=100)(z7 z8:Int):∀(d i m:Nat),i+d=is.length->d+200<m->
  eL.l n m (.dV (is.map IN.av) is.length i (os.map OP.av) (is.map IN.av) (ms.map MN.av) z7 z8)=some (if(rm os (is.drop i) i).2≠0 then(2,(rm os (is.drop i) i).1,(rm os (is.drop i) i).2)else xL is.length ms)
 | _,_,0,_,h=>absurd h (by omega)
 | 0,i,m+1,h,_=>by
  rw[eL.HY];unfold eL.I4;rw[cT (by omega),aH (by omega),af];have:=KA hn (os.map OP.av) is k8 ms (by omega) z7 z8 ms.length 0 m (by omega) (by omega);rw[aU]at this;exact this
 | d+1,i,m+1,h,hm=>by
  have hi:i<is.length:=by omega
  have ih:=NM hn os ho is k8 hx ms ou z7 z8 d (i+1) m (by omega) (by omega);rw[eL.HY];unfold eL.I4;simp(disch:=omega)only[ab,au,ak,cond_false,aC,aE,af,c7,cU,c8,dv,dA,ai,dn,dj,dc,dp,cO,cW,cY,cX,c_,cS,cT,IN.av];rw[DV hn os ho _ _ is[i] (hx _ (aX hi)),ab,eT,ih,aG hi,qc];by_cases h0:nc os is[i]=0
  ·rw[if_pos h0,if_neg (not_not_intro h0)]
  ·rw[if_neg h0,if_pos h0,if_pos h0]
theorem NL(hn:1001<=n)(os:List OP)(ho:os.length<=28)(is:List IN)(k8 : is.length<=100)(hx:∀x∈is,x.ar.length<=1000)(ms:List MN)(ou : ms.length<=100)(z7 z8:Int):∀(d i m:Nat),i+d=os.length->d+400<m->Jf (os.take i)->((l6 is.length (os.take i) (os.drop i)).2=0->(l6 is.length [] os).2=0)->
  eL.l n m (.z6 os.length i (os.map OP.av) (is.map IN.av) (ms.map MN.av) z7 z8)=some (if(l6 is.length (os.take i) (os.drop i)).2≠0 then(1,(l6 is.length (os.take i) (os.drop i)).1,(l6 is.length (os.take i) (os.drop i)).2)else if(Bq os).2>24 then(0,0,30)else xM os is ms)
 | _,_,0,_,h,_,_=>absurd h (by omega)
 | 0,i,m+1,h,_,gJ,hz=>by
  rw[aH (by omega)]at hz ⊢;have hL:=Jb (hz rfl);rw[eL.My];unfold eL.r6;rw[cT (by omega),DQ hn os ho hL,ab,af];have:=NM hn os (by omega) is (by omega) hx ms ou z7 z8 is.length 0 m (by omega) (by omega);rw[aU]at this;rw[if_neg (by simp[l6]),xO,show((0:Int))=((0:Nat):Int)from rfl,this];split<;>rfl
 | d+1,i,m+1,h,hm,gJ,hz=>by
  have hi:i<os.length:=by omega
  have ih:=NL hn os ho is k8 hx ms ou z7 z8 d (i+1) m (by omega) (by omega);rw[eL.My];unfold eL.r6;rw[cS (by omega),Gi hn os (by omega) is (by omega) _ i hi (NQ gJ),ab,eT,dA (by omega)];rw[aG hi,lE]at hz ⊢;by_cases h0:w6 (os.take i) os[i] is.length=0
  ·rw[if_neg (not_not_intro h0),<-bR hi]at hz;rw[if_pos h0,if_neg (not_not_intro h0),<-bR hi];exact ih (FG hi gJ h0) hz
  ·rw[if_neg h0,if_pos h0,if_pos h0,bu,Nat.min_eq_left (by omega)]
theorem wm(hn:1001<=n)(os:List OP)(ho:os.length<=28)(is:List IN)(k8 : is.length<=100)(hx:∀x∈is,x.ar.length<=1000)(ms:List MN)(ou : ms.length<=100):eL.F n (os.map OP.av) (is.map IN.av) (ms.map MN.av)=some (fC os is ms):=by
 obtain⟨m,rfl⟩:∃m,n=m+1:=⟨n - 1,by omega⟩;unfold eL.F eL.e fC;simp only[af,eL.q9];unfold eL.r2;simp only[mi,ab,xv hn,eT,af];have hq:=NL hn os ho is k8 hx ms ou 0 0 os.length 0 m (by omega) (by omega) (λo ho=>by simp at ho) (λh=>h);rw[aU,List.take_zero]at hq;have c1:decide (((os.length:Nat):Int)>24)=decide (os.length>24):=by rw[b8];omega
 have c2:decide (((is.length:Nat):Int)>40)=decide (is.length>40):=by rw[b8];omega
 have c3:decide (((ms.length:Nat):Int)>6)=decide (ms.length>6):=by rw[b8];omega
 rw[c1,c2,c3];by_cases h1:os.length>24
 ·simp[h1]
 ·by_cases h2:is.length>40
  ·simp[h1,h2]
  ·by_cases h3:ms.length>6
   ·simp[h1,h2,h3]
   ·by_cases h4:is.length=0
    ·simp[h1,h2,h3,h4]
    ·rw[show((0:Int))=((0:Nat):Int)from rfl]at hq;have YK : ¬ ((is.length:Nat):Int)=0:=by omega
     simp only[h1,h2,h3,h4,YK,decide_false,cond_false,or_self,bI,kg,cw,ne_eq,not_true_eq_false,cb];exact hq
end
section
variable {n:Nat}
theorem HX(n:Nat):x_.F n=some true:=rfl
theorem K7{os:List OP}{is:List IN}{ms:List MN}(h:uW os is ms=true):os.length<=28/\is.length<=100/\ms.length<=100/\∀x∈is,x.ar.length<=1000:=by
 obtain⟨h1,h2,h3,_,h5⟩:=vY h;exact⟨h1,by omega,by omega,λx hx=>by have:=h5 x hx;omega⟩
end
def NX:List Int->Int->Nat->Int
 | [],_,_=>-1
 | w::r,s,i=>if w=s then(i:Int)else NX r s (i+1)
theorem GJ(w:Int)(r:List Int)(s:Int)(i:Nat):NX (w::r) s i=if w=s then(i:Int)else NX r s (i+1):=rfl
section
variable {n:Nat}
theorem zf(n:Nat)(ws:List Int)(hw:ws.length<=1000)(s:Int):∀(d i m:Nat),i+d=ws.length->d<m->q_.l n m (.z2 (ws.map vi) s ws.length i)=some (NX (ws.drop i) s i)
 | _,_,0,_,h=>absurd h (by omega)
 | 0,i,m+1,h,_=>by
  rw[q_.q9];unfold q_.r2;rw[cT (by omega),aH (by omega)];rfl
 | d+1,i,m+1,h,hm=>by
  have hi:i<ws.length:=by omega
  have ih:=zf n ws hw s d (i+1) m (by omega) (by omega);rw[q_.q9];unfold q_.r2;simp(disch:=omega)only[ab,au,ak,cond_false,aC,aE,af,c7,cU,c8,dv,dA,ai,dn,dj,dc,dp,cO,cW,cY,cX,c_,cS,cT];rw[ih,aG hi,GJ,eQ];by_cases h1:ws[i]=s
  ·rw[if_pos h1,if_pos h1.symm]
  ·rw[if_neg h1,if_neg (λe=>h1 e.symm)]
theorem J6(hn:1001<=n)(ws:List Int)(hw:ws.length<=1000)(s:Int):PE.F n (ws.map vi) s=some (decide (NX ws s 0>=0)):=by
 unfold PE.F PE.e q_.F q_.e;have:=zf n ws hw s ws.length 0 n (by omega) (by omega);rw[aU]at this;rw[af,show((0:Int))=((0:Nat):Int)from rfl,this];rfl
theorem GL(n:Nat)(l:List Int)(hl:l.length<=100000):∀(d i m:Nat),i+d=l.length->d<m->kl.l n m (.z4 (l.map vi) (l.map vi) i)=some true
 | _,_,0,_,h=>absurd h (by omega)
 | 0,i,m+1,h,_=>by
  rw[kl.Ai];unfold kl.r4;simp only[af];rw[cT (by omega)]
 | d+1,i,m+1,h,hm=>by
  have hi:i<l.length:=by omega
  have ih:=GL n l hl d (i+1) m (by omega) (by omega);rw[kl.Ai];unfold kl.r4;simp(disch:=omega)only[ab,au,ak,cond_false,aC,aE,af,c7,cU,c8,dv,dA,ai,dn,dj,dc,dp,cO,cW,cY,cX,c_,cS,cT];rw[eT,if_pos rfl,ih]
theorem DU(l:List Int)(hl:l.length<=100000)(hn:100001<=n):kl.F n (l.map vi) (l.map vi)=some true:=by
 unfold kl.F kl.e;simp only[af];rw[eT,if_pos rfl];exact GL n l hl l.length 0 n (by omega) (by omega)
abbrev xy(os:List OP)(is:List IN)(ms:List MN):Int:=(fC os is ms).2.2
theorem uN(hn:1001<=n)(os:List OP)(ho:os.length<=28)(is:List IN)(k8 : is.length<=100)(hx:∀x∈is,x.ar.length<=1000)(ms:List MN)(ou : ms.length<=100):Fh.F n (os.map OP.av) (is.map IN.av) (ms.map MN.av)=some (xy os is ms):=by
 unfold Fh.F Fh.e;rw[wm hn os ho is k8 hx ms ou];rfl
end
theorem xG{k:Nat}(h:k<10):Lib.decDigits k=[UInt8.ofNat (48+k)]:=by rw[Lib.decDigits,dif_pos h]
theorem qu{k:Nat}(h:¬ k<10):Lib.decDigits k=Lib.decDigits (k / 10)++[UInt8.ofNat (48+k % 10)]:=by rw[Lib.decDigits,dif_neg h]
theorem gB:∀(m k:Nat),k<10 ^ (m+1)->1<=(Lib.decDigits k).length/\(Lib.decDigits k).length<=m+1
 | m,k,h=>by
  by_cases h1:k<10
  ·rw[xG h1];simp
  ·rw[qu h1];cases m with
   | zero=>omega
   | succ m=>
    have:=gB m (k / 10) (by rw[Nat.pow_succ]at h;omega);simp only[ag,aw,aF];omega
theorem iO(k:Nat)(h:k<10):strOf [vu (IntKind.u8.wrap (IntKind.i64.wrap (48+(k:Int))))]=some [UInt8.ofNat (48+k)]:=by
 have:∀k:Fin 10,strOf [vu (IntKind.u8.wrap (IntKind.i64.wrap (48+((k.1:Nat):Int))))]=some [UInt8.ofNat (48+k.1)]:=by decide +kernel
 exact this ⟨k,h⟩
theorem we{n:Nat}(hn:20<=n)(k:Nat)(h:k<10 ^ 18):lp.F n k=some (bs (Lib.decDigits k)):=by
 obtain⟨m,rfl⟩:∃m,n=m+18:=⟨n - 18,by omega⟩;unfold lp.F;have:∀(q j:Nat) (k:Nat),k<10 ^ (j+1)->j<=17->lp.D (m+18) (j+1+q) k=some (bs (Lib.decDigits k)):=by
  intro q j;induction j with
  | zero=>
   intro k hk _;have hk:k<10:=by simpa using hk
   rw[show 0+1+q=q+1 by omega];rw[lp.uy];unfold lp.e;rw[cT (by omega),cT (by omega),cS (by omega)];simp only[iO k hk];rw[xG hk];rfl
  | succ j ih=>
   intro k hk hj;have hp:10 ^ (j+1+1)<=10 ^ 18:=bS (by omega) (by omega);rw[show j+1+1+q=(j+1+q)+1 by omega];rw[lp.uy];unfold lp.e;rw[cT (by omega),cT (by omega)];by_cases h1:k<10
   ·rw[cS (by omega)];simp only[iO k h1];rw[xG h1];rfl
   ·rw[cT (by omega)];have e1:IntKind.i64.wrap (Int.tdiv (k:Int) 10)=((k / 10:Nat):Int):=by rw[cl (by omega),nU]<;>omega
    have e2:Int.tmod (k:Int) 10=((k % 10:Nat):Int):=by rw[Int.tmod_eq_emod_of_nonneg (by omega)];omega
    have rU : k / 10<10 ^ (j+1):=by rw[Nat.pow_succ]at hk;omega
    have hl:=gB j (k / 10) rU;simp only[e1,e2,iO (k % 10) (by omega)];rw[ih (k / 10) rU (by omega),ab];simp only[cR];rw[dP (by rw[cU,cU];simp;omega),dh,<-qu h1]
 have h2:=this m 17 k h (by omega);rw[show 17+1+m=m+18 by omega]at h2;exact h2
def vD(c:UInt8):Bool:=decide (32<=c.toNat)&&decide (c.toNat<=126)
section
variable {n:Nat}
theorem fb(a:UInt8):(⟨#[a]⟩:ByteArray)=bs [a]:=rfl
theorem xe(a b:UInt8):(⟨#[a,b]⟩:ByteArray)=bs [a,b]:=rfl
theorem LQ(a b c:UInt8):(⟨#[a,b,c]⟩:ByteArray)=bs [a,b,c]:=rfl
theorem Bp(a b c d:UInt8):(⟨#[a,b,c,d]⟩:ByteArray)=bs [a,b,c,d]:=rfl
theorem uQ(a b c d e f g:UInt8):(⟨#[a,b,c,d,e,f,g]⟩:ByteArray)=bs [a,b,c,d,e,f,g]:=rfl
theorem Bn(a b c d e f g h:UInt8):(⟨#[a,b,c,d,e,f,g,h]⟩:ByteArray)=bs [a,b,c,d,e,f,g,h]:=rfl
theorem oC:∀(q j:Nat) (k:Nat),k<10 ^ (j+1)->j<=17->lp.D n (j+1+q) k=some (bs (Lib.decDigits k)):=by
 intro q j;induction j with
 | zero=>
  intro k hk _;have hk:k<10:=by simpa using hk
  rw[show 0+1+q=q+1 by omega];rw[lp.uy];unfold lp.e;rw[cT (by omega),cT (by omega),cS (by omega)];simp only[iO k hk];rw[xG hk];rfl
 | succ j ih=>
  intro k hk hj;have hp:10 ^ (j+1+1)<=10 ^ 18:=bS (by omega) (by omega);rw[show j+1+1+q=(j+1+q)+1 by omega];rw[lp.uy];unfold lp.e;rw[cT (by omega),cT (by omega)];by_cases h1:k<10
  ·rw[cS (by omega)];simp only[iO k h1];rw[xG h1];rfl
  ·rw[cT (by omega)];have e1:IntKind.i64.wrap (Int.tdiv (k:Int) 10)=((k / 10:Nat):Int):=by rw[cl (by omega),nU]<;>omega
   have e2:Int.tmod (k:Int) 10=((k % 10:Nat):Int):=by rw[Int.tmod_eq_emod_of_nonneg (by omega)];omega
   have rU : k / 10<10 ^ (j+1):=by rw[Nat.pow_succ]at hk;omega
   have hl:=gB j (k / 10) rU;simp only[e1,e2,iO (k % 10) (by omega)];rw[ih (k / 10) rU (by omega),ab];simp only[cR];rw[dP (by rw[cU,cU];simp;omega),dh,<-qu h1]
theorem fQ(k:Int)(h1 : -1000000000000000<=k)(h2:k<=1000000000000000):oI.F n k=some (bs (Lib.itoa k)):=by
 unfold oI.F;have:(decide ((-9223372036854775808:Int)<=k)&&decide (k<=9223372036854775807))=true:=by rw[ae,az,az];omega
 rw[this,ak]
theorem dZ(k:Int)(h1 : -1000000000000000<=k)(h2:k<=1000000000000000):(Lib.itoa k).length<=20:=by
 unfold Lib.itoa;split
 ·have:=(gB 16 k.natAbs (by omega)).2;simp only[aw];omega
 ·have:=(gB 16 k.toNat (by omega)).2;omega
theorem mh(hn:20<=n)(k:Int)(h1 : -1000000000000000<=k)(h2:k<=1000000000000000):lp.F n k=some (bs (Lib.itoa k)):=by
 by_cases h0:0<=k
 ·obtain⟨j,rfl⟩:∃j:Nat,k=j:=⟨k.toNat,by omega⟩;rw[we hn j (by omega),Lib.itoa,if_neg (by omega),ai]
 ·obtain⟨j,rfl⟩:∃j:Nat,k=-(j:Int):=⟨k.natAbs,by omega⟩;obtain⟨m,rfl⟩:∃m,n=m+19:=⟨n - 19,by omega⟩;unfold lp.F;rw[show lp.D (m+19) (m+19) (-(j:Int))=lp.D (m+19) ((m+18)+1) (-(j:Int))from rfl,lp.uy];unfold lp.e;rw[Lib.itoa,if_pos (by omega),show(-(j:Int)).natAbs=j by omega];by_cases h9 : -(j:Int) < -9
  ·have e1:IntKind.i64.wrap (Int.tdiv (-(j:Int)) 10)=-((j / 10:Nat):Int):=by rw[Int.neg_tdiv,cl (by omega),nU]<;>omega
   have e2:Int.tmod (-(j:Int)) 10=-((j % 10:Nat):Int):=by rw[Int.neg_tmod,Int.tmod_eq_emod_of_nonneg (by omega)];omega
   have d1:=oC (n:=m+19) m 17 (j / 10) (by omega) (by omega);have d2:=oC (n:=m+19) m 17 (j % 10) (by omega) (by omega);rw[show 17+1+m=m+18 by omega]at d1 d2;have l1:=(gB 16 (j / 10) (by omega)).2;have l2:=(gB 16 (j % 10) (by omega)).2;rw[cS h9];simp only[e1,e2];rw[nU (x:=0 - -((j / 10:Nat):Int)) (by omega) (by omega),nU (x:=0 - -((j % 10:Nat):Int)) (by omega) (by omega),show(0 - -((j / 10:Nat):Int))=((j / 10:Nat):Int) by omega,show(0 - -((j % 10:Nat):Int))=((j % 10:Nat):Int) by omega,
    d1,ab,d2,ab,fb]
   rw[dP (by rw[cU];omega),dP (by rw[dh,cU,cU,ag,bw];omega),dh,dh,qu (k:=j) (by omega),xG (k:=j % 10) (by omega)];simp
  ·have d1:=oC (n:=m+19) m 17 j (by omega) (by omega);rw[show 17+1+m=m+18 by omega]at d1;have l1:=(gB 16 j (by omega)).2;rw[cT h9,cS (by omega),nU (x:=0 - -(j:Int)) (by omega) (by omega),show(0 - -(j:Int))=(j:Int) by omega,d1,ab,fb,dP (by rw[cU];omega),dh];rfl
def xH(s:List UInt8):List UInt8:=s.flatMap λc=>if c=39 then[39,39]else[c]
theorem jb(c:UInt8)(s:List UInt8):xH (c::s)=(if c=39 then[39,39]else[c])++xH s:=rfl
theorem px:∀s:List UInt8,(xH s).length<=2*s.length
 | []=>by simp[xH]
 | c::s=>by
  have:=px s;rw[jb,ag,aw];split<;>simp<;>omega
def qd(s:List UInt8):List UInt8:=[39]++xH s++[39]
theorem Aa:∀s:List UInt8,s.count 39=0->xH s=s
 | [],_=>rfl
 | c::s,h=>by
  rw[List.count_cons]at h;have h1:¬ c=39:=by intro e;rw[e]at h;simp at h
  rw[jb,if_neg h1,Aa s (by omega)];rfl
theorem F3:∀(s:List UInt8) (k:Nat),s.count 39<=k->Lib.replaceK [39] [39,39] k s=xH s
 | [],0,_=>rfl
 | [],k+1,_=>rfl
 | c::s,k,h=>by
  by_cases hc:c=39
  ·subst hc;rw[List.count_cons_self]at h;obtain⟨k,rfl⟩:∃q,k=q+1:=⟨k - 1,by omega⟩;have hi:Lib.index (39::s) [39]=((0:Nat):Int):=by simp[Lib.index]
   rw[Lib.replaceK_hit [39] [39,39] k (39::s) 0 hi,jb,if_pos rfl];have:=F3 s k (by omega);simp only[List.take_zero,bn,bw,b6,bP,aU,this]
  ·have X9:(39::([]:List UInt8)).isPrefixOf (c::s)=false:=by
    simp[List.isPrefixOf];intro e;exact hc e.symm
   have X8:(c::s).count 39=s.count 39:=by rw[List.count_cons];simp[hc]
   rw[X8]at h;cases k with
   | zero=>
    rw[Aa (c::s) (by omega)];rfl
   | succ k=>
    have ih:=F3 s (k+1) h;have K3:Lib.index (c::s) [39]=if Lib.index s [39]==-1 then -1 else Lib.index s [39]+1:=by
     rw[Lib.index,X9];rfl
    by_cases hm:Lib.index s [39]=-1
    ·rw[Lib.replaceK,if_pos (by rw[K3,hm];rfl)];rw[Lib.replaceK,if_pos (by rw[hm];rfl)]at ih;rw[jb,if_neg hc,<-ih];rfl
    ·have Md:=Lib.index_ge s [39];obtain⟨i,hi⟩:∃i:Nat,Lib.index s [39]=i:=⟨(Lib.index s [39]).toNat,by omega⟩;have k8 : Lib.index (c::s) [39]=((i+1:Nat):Int):=by
      rw[K3,if_neg (by rw[beq_iff_eq];exact hm),hi];rfl
     rw[Lib.replaceK_hit _ _ k s i hi]at ih;rw[Lib.replaceK_hit _ _ k (c::s) (i+1) k8,jb,if_neg hc,<-ih];have:i+1+[(39:UInt8)].length=(i+[(39:UInt8)].length)+1:=by simp
     rw[this,bP,cC];simp
theorem nV(s:List UInt8)(hs:s.length<=100000):u6.F n (bs s) (bs [39]) (bs [39,39])=some (bs (xH s)):=by
 unfold u6.F;have hc:Lib.countB (bs s) (bs [39])<=s.length:=Lib.countB_le (bs [39]) (by decide) s.length (bs s) (by rw[cU];omega);have hg:((decide ((bs s).size<4294967281)&&decide (1<=(bs [39]).size))&&decide ((bs s).size+Lib.countB (bs s) (bs [39])*(bs [39,39]).size<=140737488355328))=true:=by
  rw[ae,ae,az,az,az,cU,cU,cU];simp only[aw,aF];omega
 rw[hg,ak];have:Lib.replaceAll (bs s).data.toList (bs [39]).data.toList (bs [39,39]).data.toList=xH s:=by
  show Lib.replaceAll s [39] [39,39]=xH s;unfold Lib.replaceAll Lib.replace Lib.replaceNum;rw[if_neg (by decide),if_pos (by left;decide),F3 s _ (by rw[Lib.count_one];omega)]
 rw[this]
theorem byte_at{l:List UInt8}{i:Nat}(hi:i<l.length):l.toArray.getD i 0=l[i]:=by
 simp[Array.getD,hi]
theorem Tw{l:List UInt8}{i:Nat}(hi:i<l.length):(bs l).extract i (i+1)=bs [l[i]]:=by
 rw[mm,show i+1 - i=1 by omega,aG hi];rfl
end
def eZ(a s:Nat):List UInt8:=List.replicate (s+1 - (Lib.decDigits a).length) 48++Lib.decDigits a
def Au(t:List UInt8)(s:Nat):List UInt8:=if 0<s then t.take (t.length - s)++[46]++t.drop (t.length - s)else t
def nQ(v:Int)(s:Nat):List UInt8:=(if v<0 then[45]else[])++Au (eZ v.natAbs s) s
theorem Kw:∀k,Lib.repeatL [48] k=List.replicate k 48
 | 0=>rfl
 | k+1=>by rw[Lib.repeatL,Kw k];rfl
theorem oL{a s:Nat}(ha:a<10 ^ 15)(hs:s<=15):s<(eZ a s).length/\(eZ a s).length<=16:=by
 have:=gB 14 a ha;unfold eZ;rw[ag,bY];omega
theorem rJ{t:List UInt8}{s:Nat}(h:s<=t.length):(Au t s).length<=t.length+1:=by
 unfold Au;split
 ·simp;omega
 ·omega
theorem s_{v:Int}{s:Nat}(ha:v.natAbs<10 ^ 15)(hs:s<=15):(nQ v s).length<=18:=by
 have h1:=oL ha hs;have h2:=rJ (t:=eZ v.natAbs s) (s:=s) (by omega);unfold nQ;rw[ag];split<;>simp<;>omega
section
variable {n:Nat}
theorem abs_eq{v:Int}(h:v.natAbs<10 ^ 15):(if IntKind.i64.wrap (0 - v)>v then IntKind.i64.wrap (0 - v)else v)=((v.natAbs:Nat):Int):=by
 have uE:(10:Nat) ^ 15=1000000000000000:=by decide
 rw[nU (by omega) (by omega)];split<;>omega
theorem F4(k:Nat)(hk:k<=100):AD.F n (⟨#[48]⟩:ByteArray) ((k:Nat):Int)=some (bs (List.replicate k 48)):=by
 unfold AD.F;have hg:(decide ((0:Int)<=((k:Nat):Int))&&decide ((((⟨#[48]⟩:ByteArray).size:Nat):Int)*((k:Nat):Int)<=140737488355328)&&decide (((k:Nat):Int)<=9223372036854775807))=true:=by
  rw[show(((⟨#[48]⟩:ByteArray).size:Nat):Int)=1 from rfl,ae,ae,az,az,az];omega
 rw[hg,ak,ai];show some (bs (Lib.repeatL [48] k))=_;rw[Kw]
theorem F_(m:Nat)(t:List UInt8)(ht:t.length<=100)(v s:Int):gO.l n (m+1) (.z9 (bs t) v s)=some (bs ((if v<0 then[45]else[])++t),0):=by
 rw[gO.at9];unfold gO.r9;by_cases h:v<0
 ·rw[cS h,if_pos h,dP (by rw[cU];omega),fb,dh]
 ·rw[cT h,if_neg h];rfl
theorem HM{t:List UInt8}{s:Nat}(hs:s<t.length)(ht:t.length<=100)(h0:0<s)(K:ByteArray->Option (ByteArray × Int)) :
  (bif decide ((0:Int)<=IntKind.i64.wrap ((((bs t).size:Nat):Int) - (s:Int)))&&decide ((IntKind.i64.wrap ((((bs t).size:Nat):Int) - (s:Int)):Int)<=(((bs t).size:Nat):Int))then
   eW (decide (((bs t).extract 0 (IntKind.i64.wrap ((((bs t).size:Nat):Int) - (s:Int))).toNat).size+1<=9223372036854775807))
    (bif decide ((0:Int)<=IntKind.i64.wrap ((((bs t).size:Nat):Int) - (s:Int)))&&decide ((IntKind.i64.wrap ((((bs t).size:Nat):Int) - (s:Int)):Int)<=(((bs t).size:Nat):Int))then
     eW (decide ((((bs t).extract 0 (IntKind.i64.wrap ((((bs t).size:Nat):Int) - (s:Int))).toNat)++(⟨#[46]⟩:ByteArray)).size+((bs t).extract (IntKind.i64.wrap ((((bs t).size:Nat):Int) - (s:Int))).toNat (bs t).size).size<=9223372036854775807))
      (K ((((bs t).extract 0 (IntKind.i64.wrap ((((bs t).size:Nat):Int) - (s:Int))).toNat)++(⟨#[46]⟩:ByteArray))++((bs t).extract (IntKind.i64.wrap ((((bs t).size:Nat):Int) - (s:Int))).toNat (bs t).size)))else none)else none)=K (bs (Au t s)):=by
 have e:IntKind.i64.wrap (((t.length:Nat):Int) - (s:Int))=((t.length - s:Nat):Int):=by rw[nU (by omega) (by omega)];omega
 simp only[cU,e,ai];rw[dv (by omega),ak,ak,rZ,cU,show(bs t).extract (t.length - s) t.length=bs (t.drop (t.length - s))from jc t _,fb,dh,cU,cU,ag,bu,aM,bw,dP (by omega),dP (by omega),dh];unfold Au;rw[if_pos h0]
theorem mC(hn:1001<=n){v s:Int}(hv:v.natAbs<10 ^ 15)(Jx:0<=s)(hs:s<=15):gO.F n v s=some (bs (nQ v s.toNat),0):=by
 obtain⟨m,rfl⟩:∃m,n=m+1:=⟨n - 1,by omega⟩;have uE:(10:Nat) ^ 15=1000000000000000:=by decide
 obtain⟨k,rfl⟩:∃k:Nat,s=k:=⟨s.toNat,by omega⟩;unfold gO.F gO.e;have hc:rD.F (m+1) v (k:Int)=some 0:=by
  unfold rD.F rD.e;simp only[GO,ab,o7];rw[decide_eq_true (show -999999999999999<=v/\v<=999999999999999 by omega),decide_eq_true (show(0:Int)<=(k:Int)/\(k:Int)<=15 by omega)];rfl
 have hd:=gB 14 v.natAbs hv;have hz:=oL hv (show k<=15 by omega);have hi:oI.F (m+1) ((v.natAbs:Nat):Int)=some (bs (Lib.decDigits v.natAbs)):=by
  rw[fQ _ (by omega) (by omega),Lib.itoa,if_neg (by omega),ai]
 rw[hc,ab,eT,if_pos rfl];simp only[abs_eq hv,hi,ab];unfold nQ;rw[ai];by_cases hl:(Lib.decDigits v.natAbs).length<=k
 ·rw[cS (by rw[cU];omega),nU (x:=(k:Int)+1) (by omega) (by omega),cU,nU (by omega) (by omega),show((k:Int)+1 - (((Lib.decDigits v.natAbs).length:Nat):Int))=((k+1 - (Lib.decDigits v.natAbs).length:Nat):Int) by omega,F4 _ (by omega),ab,dP (by rw[cU,bY];omega),dh];have h0:0<k:=by omega
  rw[cS (by omega)];show _=some (bs ((if v<0 then[45]else[])++Au (eZ v.natAbs k) k),0);have:=HM (t:=eZ v.natAbs k) (s:=k) hz.1 (by omega) h0 (λb=>gO.l (m+1) (m+1) (.z9 b v (k:Int)));have hp:=rJ (t:=eZ v.natAbs k) (s:=k) (by omega);rw[F_ m _ (show(Au (eZ v.natAbs k) k).length<=100 by omega)]at this;exact this
 ·have N2:eZ v.natAbs k=Lib.decDigits v.natAbs:=by
   unfold eZ;rw[show k+1 - (Lib.decDigits v.natAbs).length=0 by omega];rfl
  rw[N2]at hz ⊢;rw[cT (by rw[cU];omega)];have hp:=rJ (t:=Lib.decDigits v.natAbs) (s:=k) (by omega);by_cases h0:0<k
  ·rw[cS (by omega)];have:=HM (t:=Lib.decDigits v.natAbs) (s:=k) hz.1 (by omega) h0 (λb=>gO.l (m+1) (m+1) (.z9 b v (k:Int)));rw[F_ m _ (show(Au (Lib.decDigits v.natAbs) k).length<=100 by omega)]at this;exact this
  ·rw[cT (by omega),F_ m _ (show(Lib.decDigits v.natAbs).length<=100 by omega)];unfold Au;rw[if_neg h0]
theorem FE(hn:1001<=n){v:Int}{k:Nat}(hk:k<=15)(hv:v.natAbs<10 ^ 15):∀(d j m:Nat),k+1 - (Lib.decDigits v.natAbs).length=j+d->d+2<=m->nu.l n m (.z2 (bs (List.replicate j 48++Lib.decDigits v.natAbs)) v (k:Int))=some (bs (nQ v k))
 | _,_,0,_,h=>absurd h (by omega)
 | 0,j,m+1,h,hm=>by
  obtain⟨q,rfl⟩:∃q,m=q+1:=⟨m - 1,by omega⟩;have hd:=gB 14 v.natAbs hv;have hz:=oL hv hk;have Xe:List.replicate j 48++Lib.decDigits v.natAbs=eZ v.natAbs k:=by unfold eZ;rw[show k+1 - (Lib.decDigits v.natAbs).length=j by omega]
  have h8:∀b,nu.l n (q+1) (.z8 b)=some b:=λ_=>rfl;rw[Xe,nu.q9];unfold nu.r2 nQ;rw[cT (by rw[cU];omega)];have hp:=rJ (t:=eZ v.natAbs k) (s:=k) (by omega);have fin:∀t:List UInt8,t.length<=100->(bif decide (v<0)then(eW (decide (1+(bs t).size<=9223372036854775807)) (nu.l n (q+1) (.z8 ((⟨#[45]⟩:ByteArray)++bs t))))else(nu.l n (q+1) (.z8 (bs t))))=some (bs ((if v<0 then[45]else[])++t)):=by
   intro t ht;by_cases h:v<0
   ·rw[cS h,if_pos h,dP (by rw[cU];omega),fb,dh,h8]
   ·rw[cT h,if_neg h,h8];rfl
  by_cases h0:0<k
  ·rw[cS (by omega)];have e:IntKind.i64.wrap ((((eZ v.natAbs k).length:Nat):Int) - (k:Int))=(((eZ v.natAbs k).length - k:Nat):Int):=by rw[nU (by omega) (by omega)];omega
   simp only[cU,e,ai];rw[dv (by omega),ak,ak,rZ,cU,show(bs (eZ v.natAbs k)).extract ((eZ v.natAbs k).length - k) (eZ v.natAbs k).length=bs ((eZ v.natAbs k).drop ((eZ v.natAbs k).length - k))from jc _ _,fb,dh,cU,cU,ag,bu,aM,bw,dP (by omega),dP (by omega),dh];have RY:Au (eZ v.natAbs k) k=(eZ v.natAbs k).take ((eZ v.natAbs k).length - k)++[46]++(eZ v.natAbs k).drop ((eZ v.natAbs k).length - k):=by unfold Au;rw[if_pos h0]
   rw[<-RY];exact fin _ (by omega)
  ·rw[cT (by omega)];have RY:Au (eZ v.natAbs k) k=eZ v.natAbs k:=by unfold Au;rw[if_neg h0]
   rw[RY];exact fin _ (by omega)
 | d+1,j,m+1,h,hm=>by
  have hd:=gB 14 v.natAbs hv;have ih:=FE hn hk hv d (j+1) m (by omega) (by omega);rw[nu.q9];unfold nu.r2;rw[cS (by rw[cU,ag,bY];omega),dP (by rw[cU,ag,bY];omega),fb,dh,<-ih];rfl
theorem FF(hn:1001<=n){v s:Int}(hv:v.natAbs<10 ^ 15)(Jx:0<=s)(hs:s<=15):nu.F n v s=some (bs (nQ v s.toNat)):=by
 have uE:(10:Nat) ^ 15=1000000000000000:=by decide
 obtain⟨k,rfl⟩:∃k:Nat,s=k:=⟨s.toNat,by omega⟩;unfold nu.F nu.e PG.F PG.e;simp only[abs_eq hv,ab];rw[we (by omega) _ (by omega),ab,ai];have hd:=gB 14 v.natAbs hv;exact FE hn (by omega) hv (k+1 - (Lib.decDigits v.natAbs).length) 0 n (by omega) (by omega)
end
theorem xd(a b c d e:UInt8):(⟨#[a,b,c,d,e]⟩:ByteArray)=bs [a,b,c,d,e]:=rfl
theorem Bo(a b c d e f:UInt8):(⟨#[a,b,c,d,e,f]⟩:ByteArray)=bs [a,b,c,d,e,f]:=rfl
theorem Gy(a b c d e f g h i j:UInt8):(⟨#[a,b,c,d,e,f,g,h,i,j]⟩:ByteArray)=bs [a,b,c,d,e,f,g,h,i,j]:=rfl
def pq:List UInt8:=[48,49,50,51,52,53,54,55,56,57,65,66,67,68,69,70]
def E0(c:UInt8):List UInt8:=[pq.getD (c.toNat / 16) 0,pq.getD (c.toNat % 16) 0]
def mJ(s:List UInt8):List UInt8:=s.flatMap E0
theorem kr(c:UInt8)(s:List UInt8):mJ (c::s)=E0 c++mJ s:=rfl
theorem lI:∀s:List UInt8,(mJ s).length=2*s.length
 | []=>rfl
 | c::s=>by rw[kr,ag,lI s];simp[E0];omega
def ub(l:List UInt8):List AV:=l.map λb=>vu b.toNat
theorem gd(l:List UInt8):(ub l).length=l.length:=by simp[ub]
theorem lC:∀l:List UInt8,strOf (ub l)=some l
 | []=>rfl
 | b::l=>by
  have ih:=lC l;unfold ub at ih ⊢;simp only[bd,strOf,ih,cz];congr 2;simp
theorem Mc(c:UInt8):Int.fdiv ((c.toNat:Nat):Int) (2 ^ min (4:Int).toNat 8)=((c.toNat / 16:Nat):Int):=by
 rw[show(2:Int) ^ min (4:Int).toNat 8=16 from rfl,Int.fdiv_eq_ediv_of_nonneg _ (by omega)];omega
theorem LP(c:UInt8):IntKind.u8.wrap ((BitVec.ofInt 8 ((c.toNat:Nat):Int) &&& BitVec.ofInt 8 15).toNat:Nat)=((c.toNat % 16:Nat):Int):=by
 have:∀k:Fin 256,IntKind.u8.wrap ((BitVec.ofInt 8 ((k.1:Nat):Int) &&& BitVec.ofInt 8 15).toNat:Nat)=((k.1 % 16:Nat):Int):=by decide +kernel
 exact this ⟨c.toNat,c.toNat_lt⟩
theorem JD(c:UInt8):IntKind.u8.wrap (Int.tdiv ((c.toNat:Nat):Int) 16)=((c.toNat / 16:Nat):Int):=by
 have h:=c.toNat_lt;rw[cl (by omega),IntKind.wrap_u8];omega
theorem Jj(c:UInt8):Int.tmod ((c.toNat:Nat):Int) 16=((c.toNat % 16:Nat):Int):=by
 rw[Int.tmod_eq_emod_of_nonneg (by omega)];omega
theorem G_(k:Nat):(#[48,49,50,51,52,53,54,55,56,57,65,66,67,68,69,70]:Array UInt8).getD k 0=pq.getD k 0:=Dd pq k
theorem Km(c:UInt8):[vu (((pq.getD (c.toNat / 16) 0).toNat:Nat):Int),vu (((pq.getD (c.toNat % 16) 0).toNat:Nat):Int)]=ub (E0 c):=rfl
theorem wP(a b:List UInt8):ub a++ub b=ub (a++b):=by simp[ub]
theorem Kn{l:List UInt8}{i:Nat}(hi:i<l.length):(ub l).getD i AV.undef=vu ((l[i].toNat:Nat):Int):=by simp[ub,ah,hi]
section
variable {n:Nat}
theorem BE(s:List UInt8)(hs:s.length<=100000):∀(d i m:Nat) (acc:List UInt8),i+d=s.length->d<m->acc.length=2+2*i->la.l n m (.z8 s.length i (ub acc) (ub s))=some (bs (acc++mJ (s.drop i)++[39]))
 | _,_,0,_,_,h,_=>absurd h (by omega)
 | 0,i,m+1,acc,h,_,ha=>by
  have kD:eR=1000000000:=rfl;rw[la.at8];unfold la.r8;rw[cT (by omega),show([vu 39]:List AV)=ub [39]from rfl,gd,gd,cS (by simp;omega),wP,lC,aH (by omega)];simp[cR,mJ]
 | d+1,i,m+1,acc,h,hm,ha=>by
  have hi:i<s.length:=by omega
  have kD:eR=1000000000:=rfl;have OS:=s[i].toNat_lt;have ih:=BE s hs d (i+1) m (acc++E0 s[i]) (by omega) (by omega) (by simp[E0];omega);rw[la.at8];unfold la.r8;simp(disch:=omega)only[ab,au,ak,cond_false,aC,aE,af,c7,cU,c8,dv,dA,ai,dn,dj,dc,dp,cO,cW,cY,cX,c_,cS,cT,gd,Kn,Mc,LP,G_];rw[Km,cS (by rw[gd,show(E0 s[i]).length=2 from rfl];omega),wP,ih,aG hi,kr];simp
theorem Hb(s:List UInt8)(hs:s.length<=100000):∀(d i m:Nat) (acc:List UInt8),i+d=s.length->d<m->acc.length=2*i->pF.l n m (.z3 (bs s) i (ub acc))=some (bs (acc++mJ (s.drop i)))
 | _,_,0,_,_,h,_=>absurd h (by omega)
 | 0,i,m+1,acc,h,_,ha=>by
  rw[pF.EJ];unfold pF.r3;simp only[cU];rw[cT (by omega),lC,aH (by omega)];simp[cR,mJ]
 | d+1,i,m+1,acc,h,hm,ha=>by
  have hi:i<s.length:=by omega
  have kD:eR=1000000000:=rfl;have OS:=s[i].toNat_lt;have ih:=Hb s hs d (i+1) m (acc++E0 s[i]) (by omega) (by omega) (by simp[E0];omega);rw[pF.EJ];unfold pF.r3;simp(disch:=omega)only[ab,au,ak,cond_false,aC,aE,af,c7,cU,c8,dv,dA,ai,dn,dj,dc,dp,cO,cW,cY,cX,c_,cS,cT,byte_at,JD,Jj,G_];rw[Km,gd,cS (by rw[gd,show(E0 s[i]).length=2 from rfl];omega),wP,ih,aG hi,kr];simp
theorem Ci(s:List UInt8)(hs:s.length<=100000):∀(d i m:Nat),i+d=s.length->d<m->∃r,jX.l n m (.z2 (ub s) s.length i)=some r/\decide (r>=0)=!(s.drop i).all vD
 | _,_,0,_,h=>absurd h (by omega)
 | 0,i,m+1,h,_=>by
  refine⟨-1,?_,?_⟩
  ·rw[jX.q9];unfold jX.r2;rw[cT (by omega)]
  ·rw[aH (by omega)];rfl
 | d+1,i,m+1,h,hm=>by
  have hi:i<s.length:=by omega
  obtain⟨r,e1,e2⟩:=Ci s hs d (i+1) m (by omega) (by omega);rw[jX.q9];unfold jX.r2 uG.F uG.e;simp(disch:=omega)only[ab,au,ak,cond_false,aC,aE,af,c7,cU,c8,dv,dA,ai,dn,dj,dc,dp,cO,cW,cY,cX,c_,cS,cT,gd,Kn];rw[e1,aG hi,bE];by_cases h1:s[i].toNat<32
  ·have ho:vD s[i]=false:=by simp[vD];omega
   rw[cS (by omega),ab,ak,ho];exact⟨_,rfl,by simp⟩
  ·rw[cT (by omega),ab];by_cases h2:s[i].toNat>126
   ·have ho:vD s[i]=false:=by simp[vD];omega
    rw[cS (by omega),ho];exact⟨_,rfl,by simp⟩
   ·have ho:vD s[i]=true:=by simp[vD];omega
    rw[cT (by omega),ho];exact⟨r,rfl,by rw[e2,ct]⟩
theorem tC(hn:1000002<=n)(s:List UInt8)(hs:s.length<=100000):Fi.F n (bs s)=some (s.all vD):=by
 unfold Fi.F Fi.e Ic.F Ic.e jX.F jX.e;obtain⟨r,e1,e2⟩:=Ci (n:=n) s hs s.length 0 n (by omega) (by omega);simp only[gY];show((jX.l n n (.z2 (ub s) (((ub s).length:Nat):Int) 0)).bind _).bind _=_;rw[gd,show((0:Int))=((0:Nat):Int)from rfl,e1,ab];show some (!decide (r>=0))=_;rw[e2,aU,Bool.not_not]
theorem Cs(s:List UInt8)(hs:s.length<=100000):∀(d i m:Nat),i+d=s.length->d<m->pE.l n m (.z2 (bs s) i)=some ((s.drop i).all vD)
 | _,_,0,_,h=>absurd h (by omega)
 | 0,i,m+1,h,_=>by
  rw[pE.q9];unfold pE.r2;simp only[cU];rw[cT (by omega),aH (by omega)];rfl
 | d+1,i,m+1,h,hm=>by
  have hi:i<s.length:=by omega
  have OS:=s[i].toNat_lt;have ih:=Cs s hs d (i+1) m (by omega) (by omega);rw[pE.q9];unfold pE.r2;simp(disch:=omega)only[ab,au,ak,cond_false,aC,aE,af,c7,cU,c8,dv,dA,ai,dn,dj,dc,dp,cO,cW,cY,cX,c_,cS,cT,byte_at,ER];rw[nU (by omega) (by omega),ih,aG hi,bE,nK];by_cases h1:32<=s[i].toNat/\s[i].toNat<=126
  ·have ho:vD s[i]=true:=by simp[vD];omega
   rw[decide_eq_true (show(32:Int)<=((s[i].toNat:Nat):Int)/\((s[i].toNat:Nat):Int)<=126 by omega),if_neg (by simp),ho,ct]
  ·have ho:vD s[i]=false:=by simp[vD];omega
   rw[a_ (show ¬ ((32:Int)<=((s[i].toNat:Nat):Int)/\((s[i].toNat:Nat):Int)<=126) by omega),if_pos rfl,ho,Bool.false_and]
theorem Bv(hn:1000002<=n)(s:List UInt8)(hs:s.length<=100000):pE.F n (bs s)=some (s.all vD):=by
 unfold pE.F pE.e;have:=Cs (n:=n) s hs s.length 0 n (by omega) (by omega);rw[aU]at this;exact this
def kc(k s vn:Int)(vx:List UInt8):List UInt8:=if k=0 then(if vx.all vD=true then qd vx else[88,39]++mJ vx++[39])else nQ vn s.toNat
theorem IJ(hn:1000002<=n){k l s vn:Int}{vx:List UInt8}(hx:vx.length<=1000)(hk:k=0\/(vn.natAbs<10 ^ 15/\0<=s/\s<=15)):la.F n k l s vn (bs vx)=some (bs (kc k s vn vx)):=by
 unfold la.F la.e kc;rw[eT];by_cases h0:k=0
 ·rw[if_pos h0,if_pos h0,tC hn vx (by omega),ab];cases hc:vx.all vD with
  | true=>
   rw[ak,if_pos rfl,fb,xe,nV vx (by omega),ab];have:=px vx;rw[dP (by rw[cU];omega),dh,dP (by rw[cU,ag,bw];omega)];simp only[dh];rfl
  | false=>
   rw[cond_false,if_neg (by simp)];simp only[gY];have:=BE (n:=n) vx (by omega) vx.length 0 n [88,39] (by omega) (by omega) rfl;rw[aU]at this;rw[<-this];show la.l n n (.z8 (((ub vx).length:Nat):Int) 0 [vu 88,vu 39] (ub vx))=_;rw[gd];rfl
 ·rw[if_neg h0,if_neg h0];have hk:=hk.resolve_left h0;rw[mC (by omega) hk.1 hk.2.1 hk.2.2];rfl
theorem sO(s:List UInt8)(hs:s.length<=100000)(vn:Int):∀(d i m:Nat) (acc:List UInt8),i+d=s.length->d<m->acc.length<=2*i+1->oJ.l n m (.z7 (bs acc) i vn (bs s))=some (bs (acc++xH (s.drop i)++[39]))
 | _,_,0,_,_,h,_=>absurd h (by omega)
 | 0,i,m+1,acc,h,_,ha=>by
  rw[oJ.EI];unfold oJ.r7;simp(disch:=omega)only[ab,au,ak,cond_false,aC,aE,af,c7,cU,c8,dv,dA,ai,dn,dj,dc,dp,cO,cW,cY,cX,c_,cS,cT,fb,dP,dh,ag,bw];rw[aH (by omega)];simp[xH]
 | d+1,i,m+1,acc,h,hm,ha=>by
  have hi:i<s.length:=by omega
  rw[oJ.EI];unfold oJ.r7;simp(disch:=omega)only[ab,au,ak,cond_false,aC,aE,af,c7,cU,c8,dv,dA,ai,dn,dj,dc,dp,cO,cW,cY,cX,c_,cS,cT,byte_at,dv,fb];simp(disch:=omega)only[ab,au,ak,cond_false,aC,aE,af,c7,cU,c8,dv,dA,ai,dn,dj,dc,dp,cO,cW,cY,cX,c_,cS,cT,Tw,dP,dh,ag,bw];rw[aG hi,jb];by_cases hc:s[i]=39
  ·have hb:(((s[i].toNat:Nat):Int)==39)=true:=by rw[hc];rfl
   have ih:=sO s hs vn d (i+1) m (acc++[39]++[39]) (by omega) (by omega) (by simp;omega);rw[hb,ak,if_pos hc,hc,ih];simp
  ·have hb:(((s[i].toNat:Nat):Int)==39)=false:=by
    rw[kg,bJ];intro e;have e2:s[i].toNat=39:=by omega
    exact hc (UInt8.toNat_inj.1 (by rw[e2];rfl))
   have ih:=sO s hs vn d (i+1) m (acc++[s[i]]) (by omega) (by omega) (by simp;omega);rw[hb,cond_false,if_neg hc,ih];simp
theorem II(hn:1000002<=n){k l s vn:Int}{vx:List UInt8}(hx:vx.length<=1000)(hk:k=0\/(vn.natAbs<10 ^ 15/\0<=s/\s<=15)):oJ.F n k l s vn (bs vx)=some (bs (kc k s vn vx)):=by
 unfold oJ.F oJ.e kc;rw[eT];by_cases h0:k=0
 ·rw[if_pos h0,if_pos h0,Bv hn vx (by omega),ab,nK];cases hc:vx.all vD with
  | true=>
   rw[if_neg (by simp),if_pos rfl];have:=sO (n:=n) vx (by omega) vn vx.length 0 n [39] (by omega) (by omega) (by simp);rw[aU]at this;exact this
  | false=>
   rw[if_pos rfl,if_neg (by simp)];have hh:pF.F n (bs vx)=some (bs (mJ vx)):=by
    unfold pF.F pF.e;have:=Hb (n:=n) vx (by omega) vx.length 0 n [] (by omega) (by omega) rfl;rw[aU]at this;exact this
   have hl:=lI vx;rw[hh,ab,fb,xe,dP (by rw[cU];omega),dh];simp only;rw[dP (by rw[cU,ag,hl];simp;omega),dh]
 ·rw[if_neg h0,if_neg h0];have hk:=hk.resolve_left h0;rw[FF (by omega) hk.1 hk.2.1 hk.2.2];rfl
theorem Ft{k s vn:Int}{vx:List UInt8}(hx:vx.length<=1000)(hk:k=0\/(vn.natAbs<10 ^ 15/\0<=s/\s<=15)):(kc k s vn vx).length<=3000:=by
 unfold kc;by_cases h0:k=0
 ·rw[if_pos h0];have h1:=px vx;have h2:=lI vx;split
  ·unfold qd;simp;omega
  ·simp[h2];omega
 ·rw[if_neg h0];have hk:=hk.resolve_left h0;have:=s_ hk.1 (show s.toNat<=15 by omega);omega
end
def mL(k:Int):List UInt8:=if k=0 then[67,72,65,82]else if k=1 then[80,65,67,75,69,68]else if k=2 then[90,79,78,69,68]else[66,73,78,65,82,89]
def iX(k l s:Int):List UInt8:=mL k++[40]++Lib.itoa l++(if k=0 then[]else[44]++Lib.itoa s)++[41]
structure EV(nI:Nat)(o:OP):Prop where
 kd:0<=o.kd/\o.kd<=5
 ty:hH o.kd=true->kH o.k o.l o.s=0/\o.k≠4
 val:o.kd=0\/o.kd=4->o.k=0\/o.vn.natAbs<10 ^ 15
 of:o.kd=1\/o.kd=2->0<=o.of/\o.of<=256
 tg:o.kd=5->0<=o.tg/\o.tg<=(nI:Int) - 1
theorem kG{k l s:Int}(h:kH k l s=0)(h4:k≠4):(k=0\/k=1\/k=2\/k=3)/\1<=l/\l<=256/\(k≠0->l<=15/\0<=s/\s<=15):=by
 unfold kH at h;split at h
 ·split at h
  ·cases h
  ·refine⟨by omega,by omega,by omega,λh0=>by omega⟩
 split at h
 ·split at h
  ·cases h
  split at h
  ·cases h
  refine⟨by omega,by omega,by omega,λ_=>by omega⟩
 split at h
 ·split at h
  ·cases h
  split at h
  ·cases h
  refine⟨by omega,by omega,by omega,λ_=>by omega⟩
 omega
theorem DI{b:List OP}{o:OP}{nI:Nat}(hb:MQ b)(h:w6 b o nI=0):EV nI o:=by
 have uD:=(s6 h).1;unfold w6 at h;split at h
 ·cases h
 split at h
 ·cases h
 split at h
 ·cases h
 rename_i h3;split at h
 ·cases h
 split at h
 ·rename_i h5;exact absurd h h5.2
 split at h
 ·cases h
 refine⟨bD.1 h3,uD,λhk=>?_,λhk=>?_,λhk=>?_⟩
 ·rw[if_pos hk]at h;have hd:hH o.kd=true:=by rcases hk with h|h<;>simp[hH,h]
  have hc:=kG (uD hd).1 (uD hd).2;unfold ly at h;by_cases h0:o.k=0
  ·exact .inl h0
  ·rw[if_neg h0]at h;split at h
   ·cases h
   split at h
   ·cases h
   rename_i h7;have h7:=bD.1 h7;have hl:=hc.2.2.2 h0;have hp:10 ^ o.l.toNat<=10 ^ 15:=bS (by omega) (by omega);unfold kY at h7;right;omega
 ·rw[if_neg (by omega),if_pos hk]at h;have hd:hH o.kd=true:=by rcases hk with h|h<;>simp[hH,h]
  unfold Mx at h;split at h
  ·cases h
  rename_i hc;rw[Bool.not_eq_false]at hc;obtain⟨j,hj,_,e2⟩:=yl hc;rw[e2]at h;split at h
  ·split at h
   ·cases h
   split at h
   ·cases h
   rename_i h8;exact bD.1 h8
  ·split at h
   ·cases h
   rename_i h8;have h8:=bD.1 h8;split at h
   ·cases h
   rename_i h9;have h9:=bD.1 h9;have r1:=nx (hb _ (aX hj) (by simp[hH,h8]));have r2:=nx (uD hd).1;omega
 ·rw[if_neg (by omega),if_neg (by omega),if_pos hk]at h;split at h
  ·assumption
  ·cases h
theorem oe{nI:Nat}:∀(r b:List OP),(l6 nI b r).2=0->Jf b->∀o∈r,EV nI o
 | [],_,_,_=>λ_ ho=>by cases ho
 | o::r,b,h,h1=>by
  rw[lE]at h;by_cases h0:w6 b o nI=0
  ·rw[if_neg (not_not_intro h0)]at h;have ia : Jf (b++[o]):=λx hx=>by
    rcases aK.1 hx with hx|hx
    ·exact h1 x hx
    ·rw[bh]at hx;subst hx;exact(s6 h0).1
   intro x hx;rcases br.1 hx with rfl|hx
   ·exact DI (NQ h1) h0
   ·exact oe r (b++[o]) h ia x hx
  ·rw[if_pos h0]at h;exact absurd h h0
def yR(o:OP):List UInt8:=
 if o.kd=0 then[68,67,76,32,68,68,32]++o.nm++[32]++iX o.k o.l o.s++[32,73,78,73,84,40]++kc o.k o.s o.vn o.vx++[41]
 else if o.kd=1 then[68,67,76,32,68,68,32]++o.nm++[32]++iX o.k o.l o.s++[32,68,69,70,40]++o.ba++[44]++Lib.itoa o.of++[41]
 else if o.kd=2 then[68,67,76,32,68,68,32]++o.nm++[32]++iX o.k o.l o.s++[32,66,65,83,40]++o.ba++[44]++Lib.itoa o.of++[41]
 else if o.kd=3 then[68,67,76,32,80,84,82,32]++o.nm
 else if o.kd=4 then[68,67,76,32,67,79,78,32]++o.nm++[32]++iX o.k o.l o.s++[32,73,78,73,84,40]++kc o.k o.s o.vn o.vx++[41]
 else[68,67,76,32,76,65,66,69,76,32]++o.nm++[32]++Lib.itoa o.tg
section
variable {n:Nat}
theorem yo{k l s:Int}(hl:1<=l/\l<=256)(hs:k≠0->0<=s/\s<=15):(iX k l s).length<=60:=by
 have h1:=dZ l (by omega) (by omega);unfold iX;have h2:(mL k).length<=6:=by unfold mL;(repeat' split)<;>simp
 by_cases h0:k=0
 ·rw[if_pos h0];simp;omega
 ·have h3:=dZ s (by have:=hs h0;omega) (by have:=hs h0;omega);rw[if_neg h0];simp;omega
theorem Cf{k l s:Int}(hk:k=0\/k=1\/k=2\/k=3)(hl:1<=l/\l<=256)(hs:k≠0->0<=s/\s<=15):lP.F n k l s=some (bs (iX k l s)):=by
 have h1:=dZ l (by omega) (by omega);have i1:=fQ (n:=n) l (by omega) (by omega);unfold lP.F lP.e iX;rcases hk with rfl|hk
 ·rw[dD (by rfl),show ql.getD (0:Int).toNat AV.undef=vs (bs [67,72,65,82])from rfl];simp(disch:=omega)only[ab,au,ak,cond_false,aC,aE,af,c7,cU,c8,dv,dA,ai,dn,dj,dc,dp,cO,cW,cY,cX,c_,cS,cT,i1,fb,dP,dh,ag,aw,aF];simp[mL]
 ·have h0:k≠0:=by omega
  have h3:=dZ s (by have:=hs h0;omega) (by have:=hs h0;omega);have i3:=fQ (n:=n) s (by have:=hs h0;omega) (by have:=hs h0;omega);rcases hk with rfl|rfl|rfl
  ·rw[dD (by rfl),show ql.getD (1:Int).toNat AV.undef=vs (bs [80,65,67,75,69,68])from rfl];simp(disch:=omega)only[ab,au,ak,cond_false,aC,aE,af,c7,cU,c8,dv,dA,ai,dn,dj,dc,dp,cO,cW,cY,cX,c_,cS,cT,i1,i3,fb,dP,dh,ag,aw,aF];simp[mL]
  ·rw[dD (by rfl),show ql.getD (2:Int).toNat AV.undef=vs (bs [90,79,78,69,68])from rfl];simp(disch:=omega)only[ab,au,ak,cond_false,aC,aE,af,c7,cU,c8,dv,dA,ai,dn,dj,dc,dp,cO,cW,cY,cX,c_,cS,cT,i1,i3,fb,dP,dh,ag,aw,aF];simp[mL]
  ·rw[dD (by rfl),show ql.getD (3:Int).toNat AV.undef=vs (bs [66,73,78,65,82,89])from rfl];simp(disch:=omega)only[ab,au,ak,cond_false,aC,aE,af,c7,cU,c8,dv,dA,ai,dn,dj,dc,dp,cO,cW,cY,cX,c_,cS,cT,i1,i3,fb,dP,dh,ag,aw,aF];simp[mL]
theorem Cd(hn:20<=n){k l s:Int}(hk:k=0\/k=1\/k=2\/k=3)(hl:1<=l/\l<=256)(hs:k≠0->0<=s/\s<=15):Kd.F n k l s=some (bs (iX k l s)):=by
 have h1:=dZ l (by omega) (by omega);have i1:=mh hn l (by omega) (by omega);unfold Kd.F Kd.e iX;rcases hk with rfl|hk
 ·rw[dD (by rfl)];show(cM (vs (bs [67,72,65,82])).cells _)=_;simp(disch:=omega)only[ab,au,ak,cond_false,aC,aE,af,c7,cU,c8,dv,dA,ai,dn,dj,dc,dp,cO,cW,cY,cX,c_,cS,cT,i1,fb,dP,dh,ag,aw,aF];simp[mL]
 ·have h0:k≠0:=by omega
  have h3:=dZ s (by have:=hs h0;omega) (by have:=hs h0;omega);have i3:=mh hn s (by have:=hs h0;omega) (by have:=hs h0;omega);rcases hk with rfl|rfl|rfl
  ·rw[dD (by rfl)];show(cM (vs (bs [80,65,67,75,69,68])).cells _)=_;simp(disch:=omega)only[ab,au,ak,cond_false,aC,aE,af,c7,cU,c8,dv,dA,ai,dn,dj,dc,dp,cO,cW,cY,cX,c_,cS,cT,i1,i3,fb,dP,dh,ag,aw,aF];simp[mL]
  ·rw[dD (by rfl)];show(cM (vs (bs [90,79,78,69,68])).cells _)=_;simp(disch:=omega)only[ab,au,ak,cond_false,aC,aE,af,c7,cU,c8,dv,dA,ai,dn,dj,dc,dp,cO,cW,cY,cX,c_,cS,cT,i1,i3,fb,dP,dh,ag,aw,aF];simp[mL]
  ·rw[dD (by rfl)];show(cM (vs (bs [66,73,78,65,82,89])).cells _)=_;simp(disch:=omega)only[ab,au,ak,cond_false,aC,aE,af,c7,cU,c8,dv,dA,ai,dn,dj,dc,dp,cO,cW,cY,cX,c_,cS,cT,i1,i3,fb,dP,dh,ag,aw,aF];simp[mL]
theorem GH{o:OP}{nI:Nat}(h:EV nI o):(o.kd=0\/o.kd=4)\/(o.kd=1\/o.kd=2)\/o.kd=3\/o.kd=5:=by have:=h.kd;omega
theorem DH(hn:1000002<=n){nI:Nat}(hI:nI<=100)(o:OP)(h:EV nI o)(qV:o.nm.length<=100)(zC:o.ba.length<=100)(zn:o.vx.length<=600) :
  xS.F n (bs o.nm) o.kd o.k o.l o.s o.vn (bs o.vx) (bs o.ba) o.of o.tg=some (bs (yR o))/\PF.F n (bs o.nm) o.kd o.k o.l o.s o.vn (bs o.vx) (bs o.ba) o.of o.tg=some (bs (yR o))/\(yR o).length<=4000:=by
 unfold xS.F xS.e PF.F PF.e yR;simp only[eQ];rcases GH h with hk|hk|hk|hk
 ·have hd:hH o.kd=true:=by rcases hk with h|h<;>simp[hH,h]
  obtain⟨c1,c2,c3,c4⟩:=kG (h.ty hd).1 (h.ty hd).2;have hv:o.k=0\/(o.vn.natAbs<10 ^ 15/\0<=o.s/\o.s<=15):=by
   rcases h.val hk with h0|h0
   ·exact .inl h0
   ·by_cases G3:o.k=0
    ·exact .inl G3
    ·exact .inr ⟨h0,(c4 G3).2.1,(c4 G3).2.2⟩
  have t1:=Cf (n:=n) c1 ⟨c2,c3⟩ (λh0=>(c4 h0).2);have t2:=Cd (n:=n) (by omega) c1 ⟨c2,c3⟩ (λh0=>(c4 h0).2);have t3:=yo (k:=o.k) (s:=o.s) ⟨c2,c3⟩ (λh0=>(c4 h0).2);have v1:=IJ (l:=o.l) hn (vx:=o.vx) (by omega) hv;have v2:=II (l:=o.l) hn (vx:=o.vx) (by omega) hv;have v3:=Ft (vx:=o.vx) (by omega) hv;rcases hk with hk|hk
  ·rw[if_pos hk,if_pos hk,if_pos hk];refine⟨?_,?_,?_⟩
   ·simp(disch:=omega)only[ab,au,ak,cond_false,aC,aE,af,c7,cU,c8,dv,dA,ai,dn,dj,dc,dp,cO,cW,cY,cX,c_,cS,cT,t1,v1,fb,uQ,Bo,dP,dh,ag,aw,aF]
   ·simp(disch:=omega)only[ab,au,ak,cond_false,aC,aE,af,c7,cU,c8,dv,dA,ai,dn,dj,dc,dp,cO,cW,cY,cX,c_,cS,cT,t2,v2,fb,uQ,Bo,dP,dh,ag,aw,aF]
   ·simp;omega
  ·have n0:¬ o.kd=0:=by omega
   have n1:¬ o.kd=1:=by omega
   have n2:¬ o.kd=2:=by omega
   have n3:¬ o.kd=3:=by omega
   simp only[n0,n1,n2,n3,hk,cb,bI];refine⟨?_,?_,?_⟩
   ·simp(disch:=omega)only[ab,au,ak,cond_false,aC,aE,af,c7,cU,c8,dv,dA,ai,dn,dj,dc,dp,cO,cW,cY,cX,c_,cS,cT,t1,v1,fb,Bn,Bo,dP,dh,ag,aw,aF];simp
   ·simp(disch:=omega)only[ab,au,ak,cond_false,aC,aE,af,c7,cU,c8,dv,dA,ai,dn,dj,dc,dp,cO,cW,cY,cX,c_,cS,cT,t2,v2,fb,Bn,Bo,dP,dh,ag,aw,aF];simp
   ·simp;omega
 ·have hd:hH o.kd=true:=by rcases hk with h|h<;>simp[hH,h]
  obtain⟨c1,c2,c3,c4⟩:=kG (h.ty hd).1 (h.ty hd).2;have t1:=Cf (n:=n) c1 ⟨c2,c3⟩ (λh0=>(c4 h0).2);have t2:=Cd (n:=n) (by omega) c1 ⟨c2,c3⟩ (λh0=>(c4 h0).2);have t3:=yo (k:=o.k) (s:=o.s) ⟨c2,c3⟩ (λh0=>(c4 h0).2);have ho:=h.of hk;have i1:=fQ (n:=n) o.of (by omega) (by omega);have i2:=mh (n:=n) (by omega) o.of (by omega) (by omega);have i3:=dZ o.of (by omega) (by omega);have n0:¬ o.kd=0:=by omega
  rcases hk with hk|hk
  ·simp only[n0,hk,cb,bI];refine⟨?_,?_,?_⟩
   ·simp(disch:=omega)only[ab,au,ak,cond_false,aC,aE,af,c7,cU,c8,dv,dA,ai,dn,dj,dc,dp,cO,cW,cY,cX,c_,cS,cT,t1,i1,fb,uQ,xd,dP,dh,ag,aw,aF];simp
   ·simp(disch:=omega)only[ab,au,ak,cond_false,aC,aE,af,c7,cU,c8,dv,dA,ai,dn,dj,dc,dp,cO,cW,cY,cX,c_,cS,cT,t2,i2,fb,uQ,xd,dP,dh,ag,aw,aF];simp
   ·simp;omega
  ·have n1:¬ o.kd=1:=by omega
   simp only[n0,n1,hk,cb,bI];refine⟨?_,?_,?_⟩
   ·simp(disch:=omega)only[ab,au,ak,cond_false,aC,aE,af,c7,cU,c8,dv,dA,ai,dn,dj,dc,dp,cO,cW,cY,cX,c_,cS,cT,t1,i1,fb,uQ,xd,dP,dh,ag,aw,aF];simp
   ·simp(disch:=omega)only[ab,au,ak,cond_false,aC,aE,af,c7,cU,c8,dv,dA,ai,dn,dj,dc,dp,cO,cW,cY,cX,c_,cS,cT,t2,i2,fb,uQ,xd,dP,dh,ag,aw,aF];simp
   ·simp;omega
 ·have n0:¬ o.kd=0:=by omega
  have n1:¬ o.kd=1:=by omega
  have n2:¬ o.kd=2:=by omega
  simp only[n0,n1,n2,hk,cb,bI];refine⟨?_,?_,?_⟩
  ·simp(disch:=omega)only[ab,au,ak,cond_false,aC,aE,af,c7,cU,c8,dv,dA,ai,dn,dj,dc,dp,cO,cW,cY,cX,c_,cS,cT,Bn,dP,dh,ag,aw,aF];simp
  ·simp(disch:=omega)only[ab,au,ak,cond_false,aC,aE,af,c7,cU,c8,dv,dA,ai,dn,dj,dc,dp,cO,cW,cY,cX,c_,cS,cT,Bn,dP,dh,ag,aw,aF];simp
  ·simp;omega
 ·have ht:=h.tg hk;have i1:=fQ (n:=n) o.tg (by omega) (by omega);have i2:=mh (n:=n) (by omega) o.tg (by omega) (by omega);have i3:=dZ o.tg (by omega) (by omega);have n0:¬ o.kd=0:=by omega
  have n1:¬ o.kd=1:=by omega
  have n2:¬ o.kd=2:=by omega
  have n3:¬ o.kd=3:=by omega
  have n4:¬ o.kd=4:=by omega
  simp only[n0,n1,n2,n3,n4,bI];refine⟨?_,?_,?_⟩
  ·simp(disch:=omega)only[ab,au,ak,cond_false,aC,aE,af,c7,cU,c8,dv,dA,ai,dn,dj,dc,dp,cO,cW,cY,cX,c_,cS,cT,i1,fb,Gy,dP,dh,ag,aw,aF]
  ·simp(disch:=omega)only[ab,au,ak,cond_false,aC,aE,af,c7,cU,c8,dv,dA,ai,dn,dj,dc,dp,cO,cW,cY,cX,c_,cS,cT,i2,fb,Gy,dP,dh,ag,aw,aF]
  ·simp;omega
end
def ir:List (List UInt8):=[[77,79,86,69],[77,79,86,69,72],[65,68,68],[83,85,66],[77,85,76],[68,73,86],[82,69,77],[73,70,69,81],[73,70,76,84],[71,79,84,79],[65,68,68,82],[77,79,86,69,80],[65,68,86,65,78,67,69],[67,65,76,76],[82,69,84,85,82,78],[83,73,71,78,65,76],[69,88,67,69,80,84,73,79,78],[80,82,73,78,84],[69,78,68]]
def s5(op:Int):List UInt8:=ir.getD op.toNat []
theorem Cz{op:Int}(h:0<=op/\op<=18):(s5 op).length<=9:=by
 rcases ky h with rfl|rfl|rfl|rfl|rfl|rfl|rfl|rfl|rfl|rfl|rfl|rfl|rfl|rfl|rfl|rfl|rfl|rfl|rfl<;>decide
theorem BR{op:Int}(h:0<=op/\op<=18):∃r,jV (op.toNat*1) [vs (⟨#[77,79,86,69]⟩:ByteArray),vs (⟨#[77,79,86,69,72]⟩:ByteArray),vs (⟨#[65,68,68]⟩:ByteArray),vs (⟨#[83,85,66]⟩:ByteArray),vs (⟨#[77,85,76]⟩:ByteArray),vs (⟨#[68,73,86]⟩:ByteArray),vs (⟨#[82,69,77]⟩:ByteArray),vs (⟨#[73,70,69,81]⟩:ByteArray),vs (⟨#[73,70,76,84]⟩:ByteArray),vs (⟨#[71,79,84,79]⟩:ByteArray),vs (⟨#[65,68,68,82]⟩:ByteArray),vs (⟨#[77,79,86,69,80]⟩:ByteArray),vs (⟨#[65,68,86,65,78,67,69]⟩:ByteArray),vs (⟨#[67,65,76,76]⟩:ByteArray),vs (⟨#[82,69,84,85,82,78]⟩:ByteArray),vs (⟨#[83,73,71,78,65,76]⟩:ByteArray),vs (⟨#[69,88,67,69,80,84,73,79,78]⟩:ByteArray),vs (⟨#[80,82,73,78,84]⟩:ByteArray),vs (⟨#[69,78,68]⟩:ByteArray)]=vs (bs (s5 op))::r:=by
 rcases ky h with rfl|rfl|rfl|rfl|rfl|rfl|rfl|rfl|rfl|rfl|rfl|rfl|rfl|rfl|rfl|rfl|rfl|rfl|rfl<;>exact⟨_,rfl⟩
theorem FO(ws:List (List UInt8)):oU (Ws ws)=some (ws.map bs):=by
 have:=vm (ws.map bs);rw[ch]at this;exact this
theorem J7(ws:List (List UInt8)):(ws.map bs).map (·.data.toList)=ws:=by
 rw[ch]
 conv=>rhs;rw[<-List.map_id ws]
 exact bW λw _=>rfl
def gK(os:List OP)(ar:List Int):List (List UInt8):=ar.map λa=>(os.getD a.toNat nw).nm
def np:List (List UInt8)->List UInt8
 | []=>[]
 | w::r=>[32]++w++Lib.joinTail [44] r
def rl(os:List OP)(x:IN):List UInt8:=s5 x.op++np (gK os x.ar)
def lF(m:MN):List UInt8:=[77,79,78,73,84,79,82,32]++Lib.itoa m.fr++[32]++Lib.itoa m.tt++[32]++Lib.itoa m.ex++[32]++Lib.itoa m.hd
def flat:List (List UInt8)->List UInt8
 | []=>[]
 | w::r=>w++[59,10]++flat r
theorem vX:∀(r:List (List UInt8)) (w:List UInt8),Lib.join (w::r) [59,10]++[59,10]=flat (w::r)
 | [],w=>by rw[Lib.join_one];simp[flat]
 | v::r,w=>by
  have ih:=vX r v;rw[Lib.join_cons]at ih ⊢;show w++([59,10]++v++Lib.joinTail [59,10] r)++[59,10]=w++[59,10]++flat (v::r);rw[<-ih];simp
theorem zO{B:Nat}:∀ls:List (List UInt8),(∀l∈ls,l.length<=B)->(flat ls).length<=(B+2)*ls.length
 | [],_=>by simp[flat]
 | w::r,h=>by
  have h1:=h w (by simp);have h2:=zO r (λl hl=>h l (by simp[hl]));have h3:(B+2)*(r.length+1)=(B+2)*r.length+(B+2):=Nat.mul_succ _ _;simp only[flat,ag,aw,aF];omega
theorem sD{B:Nat}:∀ls:List (List UInt8),(∀l∈ls,l.length<=B)->(Lib.joinTail [44] ls).length<=(B+1)*ls.length
 | [],_=>by simp[Lib.joinTail]
 | w::r,h=>by
  have h1:=h w (by simp);have h2:=sD r (λl hl=>h l (by simp[hl]));have h3:(B+1)*(r.length+1)=(B+1)*r.length+(B+1):=Nat.mul_succ _ _;have e:Lib.joinTail [44] (w::r)=[44]++w++Lib.joinTail [44] r:=by simp[Lib.joinTail]
  rw[e];simp only[ag,aw,aF];omega
theorem H5{B:Nat}(ls:List (List UInt8))(h:∀l∈ls,l.length<=B):(np ls).length<=(B+1)*ls.length:=by
 cases ls with
 | nil=>simp[np]
 | cons w r=>
  have h1:=h w (by simp);have h2:=sD r (λl hl=>h l (by simp[hl]));have h3:(B+1)*(r.length+1)=(B+1)*r.length+(B+1):=Nat.mul_succ _ _;simp only[np,ag,aw,aF];omega
section
variable {n:Nat}
theorem join_eq(ws:List (List UInt8))(t:List UInt8)(h1:ws.length<=1000000)(h2:(Lib.join ws t).length<=100000000):xY.F n (Ws ws) (bs t)=some (bs (Lib.join ws t)):=by
 unfold xY.F tB CL;rw[FO];simp only[J7];show(bif decide ((ws.map bs).length<=140737488355328)&&decide ((Lib.join ws t).length<=140737488355328)then some (bs (Lib.join ws t))else none)=_;rw[af,dD (by rw[ae,az,az];omega)]
theorem Bx{op:Int}(eF:0<=op/\op<=18)(ws:List (List UInt8))(h1:ws.length<=100)(h2:∀w∈ws,w.length<=100):uu.F n op (Ws ws)=some (bs (s5 op++np ws)):=by
 unfold uu.F uu.e;obtain⟨r,hr⟩:=BR eF;have hl:=Cz eF;rw[hr,c7,dD (Je eF),dD (Je eF)];simp only[eQ,cO,cY];cases ws with
 | nil=>rw[if_pos (by rfl)];simp[np]
 | cons w r=>
  have ha:=sD (B:=100) r (λl hl=>h2 l (by simp[hl]));have hw:=h2 w (by simp);simp only[aw]at h1;have hj:(Lib.join (w::r) [44]).length<=100000000:=by rw[Lib.join_cons,ag];omega
  rw[if_neg (by simp only[aw];omega),fb,fb,dP (by rw[cU];omega),join_eq (w::r) [44] (by simp;omega) hj,ab,dh];rw[dP (by rw[cU,cU,ag];simp only[aw,aF];omega)];simp only[dh];rw[Lib.join_cons];simp[np]
theorem vO(os:List OP):∀(cs ar:List Int) (b:OP),cs.length=ar.length->MV os cs ar b=0->∀a∈ar,0<=a/\a<=(os.length:Int) - 1
 | _,[],_,_,_=>λ_ h=>by cases h
 | [],a::ar,_,h,_=>by simp at h
 | c::cs,a::ar,b,hl,h=>by
  unfold MV at h;split at h
  ·cases h
  rename_i h1;split at h
  ·cases h
  have ih:=vO os cs ar _ (by simpa using hl) h;intro x hx;rcases br.1 hx with rfl|hx
  ·exact bD.1 h1
  ·exact ih x hx
theorem mc{os:List OP}{x:IN}(h:nc os x=0):(0<=x.op/\x.op<=18)/\x.ar.length<=3/\∀a∈x.ar,0<=a/\a<=(os.length:Int) - 1:=by
 unfold nc at h;split at h
 ·cases h
 rename_i h1;have h1:=bD.1 h1;split at h
 ·cases h
 rename_i h2;have h2:=bD.1 h2;exact⟨h1,by have:=pz h1;omega,vO os _ _ _ h2.symm h⟩
theorem CN{os:List OP}:∀{is:List IN} {i:Nat},(rm os is i).2=0->∀x∈is,nc os x=0
 | [],_,_=>λ_ h=>by cases h
 | x::r,i,h=>by
  rw[qc]at h;by_cases h0:nc os x=0
  ·rw[if_neg (not_not_intro h0)]at h;intro y hy;rcases br.1 hy with rfl|hy
   ·exact h0
   ·exact CN h y hy
  ·rw[if_pos h0]at h;exact absurd h h0
theorem CH{nI:Nat}:∀{ms:List MN} {i:Nat},(rj nI ms i).2=0->∀x∈ms,mG nI x=0
 | [],_,_=>λ_ h=>by cases h
 | x::r,i,h=>by
  rw[pZ]at h;by_cases h0:mG nI x=0
  ·rw[if_neg (not_not_intro h0)]at h;intro y hy;rcases br.1 hy with rfl|hy
   ·exact h0
   ·exact CH h y hy
  ·rw[if_pos h0]at h;exact absurd h h0
structure TC(os:List OP)(is:List IN)(ms:List MN):Prop where
 lens:os.length<=24/\1<=is.length/\is.length<=40/\ms.length<=6
 ops:(l6 is.length [] os).2=0
 T4:(Bq os).2<=24
 ins:∀x∈is,nc os x=0
 Ud:∀m∈ms,mG is.length m=0
theorem xx{os:List OP}{is:List IN}{ms:List MN}(h:xy os is ms=0):TC os is ms:=by
 unfold xy fC at h;split at h
 ·cases h
 rename_i h1;split at h
 ·cases h
 rename_i h2;split at h
 ·rename_i h3;exact absurd h h3
 rename_i h3;split at h
 ·cases h
 rename_i h4;unfold xM at h;split at h
 ·rename_i h5;exact absurd h h5
 rename_i h5;unfold xL at h;split at h
 ·rename_i h6;exact absurd h h6
 rename_i h6;exact⟨by omega,bD.1 h3,by omega,CN (bD.1 h5),CH (bD.1 h6)⟩
theorem xb{nI:Nat}{m:MN}(h:mG nI m=0):0<=m.fr/\m.fr<m.tt/\m.tt<=(nI:Int)/\(0<=m.ex/\m.ex<=999)/\(0<=m.hd/\m.hd<=(nI:Int) - 1):=by
 unfold mG at h;split at h
 ·assumption
 ·cases h
theorem Gr{nI:Nat}(hI:nI<=1000){m:MN}(h:mG nI m=0):(lF m).length<=100:=by
 have:=xb h;have i1:=dZ m.fr (by omega) (by omega);have i2:=dZ m.tt (by omega) (by omega);have i3:=dZ m.ex (by omega) (by omega);have i4:=dZ m.hd (by omega) (by omega);unfold lF;simp;omega
theorem Bj(hn:1001<=n){nI:Nat}(hI:nI<=1000){m:MN}(h:mG nI m=0):jZ.F n m.fr m.tt m.ex m.hd=some (bs (lF m)):=by
 have:=xb h;have i1:=dZ m.fr (by omega) (by omega);have i2:=dZ m.tt (by omega) (by omega);have i3:=dZ m.ex (by omega) (by omega);have i4:=dZ m.hd (by omega) (by omega);have j1:=fQ (n:=n) m.fr (by omega) (by omega);have j2:=fQ (n:=n) m.tt (by omega) (by omega);have j3:=fQ (n:=n) m.ex (by omega) (by omega);have j4:=fQ (n:=n) m.hd (by omega) (by omega);have step:∀(q:Nat) (acc:List UInt8) (k:Nat) (x:Int),acc.length<=1000->k<4->([vi m.fr,vi m.tt,vi m.ex,vi m.hd].getD k AV.undef)=vi x->oI.F n x=some (bs (Lib.itoa x))->(Lib.itoa x).length<=20->jZ.l n (q+1) (.z3 (bs acc) 4 (k:Int) [vi m.fr,vi m.tt,vi m.ex,vi m.hd])=jZ.l n q (.z3 (bs (acc++([32]++Lib.itoa x))) 4 ((k+1:Nat):Int) [vi m.fr,vi m.tt,vi m.ex,vi m.hd]):=by
  intro q acc k x ha hk hx hj hl;rw[jZ.EJ];unfold jZ.r3;rw[cS (by omega),c8 (by simpa using hk),ak,ai,hx];simp only[dp,cO,cW,hj,ab,fb];rw[dP (by rw[cU];omega),dh,dP (by rw[cU,cU,ag,bw];omega)];simp only[dh];rw[dA (by omega)]
 unfold jZ.F jZ.e;obtain⟨q,rfl⟩:∃q,n=q+5:=⟨n - 5,by omega⟩;show jZ.l (q+5) (q+5) (.z3 (bs [77,79,78,73,84,79,82]) 4 ((0:Nat):Int) _)=_;rw[step (q+4) _ 0 m.fr (by simp) (by omega) rfl j1 i1,step (q+3) _ 1 m.tt (by simp;omega) (by omega) rfl j2 i2,step (q+2) _ 2 m.ex (by simp;omega) (by omega) rfl j3 i3,step (q+1) _ 3 m.hd (by simp;omega) (by omega) rfl j4 i4];rw[jZ.EJ];unfold jZ.r3;rw[cT (by omega)];simp[lF]
end
def Qu(d:List UInt8):Bool:=!(decide (1<d.length)&&d.getD 0 0==48)
def jG(d:List UInt8):Bool:=(decide (1<=d.length)&&decide (d.length<=15))&&(d.all fh&&Qu d)
theorem ID(d:List UInt8):Qu d=true↔¬ (1<d.length/\d.getD 0 0=48):=by
 unfold Qu;rw[Bool.not_eq_true',<-bm,ae,az,beq_iff_eq]
theorem mV(d:List UInt8):jG d=true↔1<=d.length/\d.length<=15/\d.all fh=true/\¬ (1<d.length/\d.getD 0 0=48):=by
 unfold jG;rw[ae,ae,ae,az,az,ID];constructor
 ·rintro⟨⟨a,b⟩,c,d⟩;exact⟨a,b,c,d⟩
 ·rintro⟨a,b,c,d⟩;exact⟨⟨a,b⟩,c,d⟩
def AU(s:List UInt8):Bool:=s.getD 0 0==45
def kt(s:List UInt8):List UInt8:=if AU s then s.drop 1 else s
theorem HE{k:Nat}(h:k<10):fh (UInt8.ofNat (48+k))=true/\(UInt8.ofNat (48+k)).toNat - 48=k/\(k≠0->UInt8.ofNat (48+k)≠48):=by
 have:∀k:Fin 10,fh (UInt8.ofNat (48+k.1))=true/\(UInt8.ofNat (48+k.1)).toNat - 48=k.1/\(k.1≠0->UInt8.ofNat (48+k.1)≠48):=by decide +kernel
 exact this ⟨k,h⟩
theorem lj:∀(b k:Nat),k<=b->Lib.decDigits k≠[]/\(Lib.decDigits k).all fh=true/\fa 0 (Lib.decDigits k)=k/\(k≠0->(Lib.decDigits k).getD 0 0≠48)/\(k<10->(Lib.decDigits k).length=1)
 | b,k,hb=>by
  by_cases hk:k<10
  ·obtain⟨d1,d2,d3⟩:=HE hk;rw[xG hk];refine⟨by simp,by rw[bE,List.all_nil,d1];rfl,?_,λh=>d3 h,λ_=>rfl⟩;show 0*10+((UInt8.ofNat (48+k)).toNat - 48)=k;omega
  ·match b,hb with
   | 0,hb=>omega
   | b+1,hb=>
    obtain⟨h1,h2,h3,h4,_⟩:=lj b (k / 10) (by omega);obtain⟨d1,d2,_⟩:=HE (k:=k % 10) (by omega);rw[qu hk];refine⟨by simp,by rw[cF,bE,List.all_nil,h2,d1];rfl,?_,λ_=>?_,λh=>absurd h hk⟩
    ·rw[pK,h3,d2];omega
    ·have:=h4 (by omega)
     match he:Lib.decDigits (k / 10),h1 with
     | c::r,_=>rw[he]at this;exact this
theorem nk{k:Nat}(h:k<10 ^ 15):jG (Lib.decDigits k)=true:=by
 obtain⟨h1,h2,h3,h4,h5⟩:=lj k k (aJ _);have hl:=gB 14 k h;rw[mV];refine⟨hl.1,hl.2,h2,?_⟩;rintro⟨a,b⟩;by_cases h0:k=0
 ·have:=h5 (by omega);omega
 ·exact h4 h0 b
theorem ofNat_toNat(c:UInt8):UInt8.ofNat c.toNat=c:=by simp
theorem yT:∀(b:Nat) (l:List UInt8),l.length<=b->l≠[]->l.all fh=true->(1<l.length->l.getD 0 0≠48)->Lib.decDigits (il l)=l
 | 0,l,hb,h0,_,_=>absurd (aT.1 (by omega)) h0
 | b+1,l,hb,h0,hd,hz=>by
  rcases List.eq_nil_or_concat l with rfl|⟨i,c,rfl⟩
  ·exact absurd rfl h0
  ·rw[List.concat_eq_append]at *;simp only[cF,bE,List.all_nil,Bool.and_true,ae]at hd;have hc:=(rS c).1 hd.2;have hv:il (i++[c])=il i*10+(c.toNat - 48):=pK 0 i c;rw[hv];by_cases hi:i=[]
   ·subst hi;have e:il ([]:List UInt8)=0:=rfl;rw[e,xG (by omega),show 48+(0*10+(c.toNat - 48))=c.toNat by omega,ofNat_toNat];rfl
   ·have hl:1<=i.length:=cu.2 hi;have Av:=hz (by rw[ag,bw];omega);have hg:(i++[c]).getD 0 0=i.getD 0 0:=by
     rw[ah,ah,aN (by omega)]
    rw[hg]at Av;have ih:=yT b i (by rw[ag,bw]at hb;omega) hi hd.1 (λ_=>Av);have zp:il i≠0:=by
     intro e;rw[e,xG (by omega)]at ih;rw[<-ih]at Av;exact Av rfl
    rw[qu (by omega),show(il i*10+(c.toNat - 48)) / 10=il i by omega,show(il i*10+(c.toNat - 48)) % 10=c.toNat - 48 by omega,ih,show 48+(c.toNat - 48)=c.toNat by omega,ofNat_toNat]
theorem mW{l:List UInt8}(h:jG l=true):Lib.decDigits (il l)=l:=by
 obtain⟨h1,h2,h3,h4⟩:=(mV l).1 h;exact yT l.length l (aJ _) (λe=>by rw[e]at h1;simp at h1) h3 (λh5 e=>h4 ⟨h5,e⟩)
theorem kz{l:List UInt8}(h:jG l=true):il l<10 ^ 15:=by
 obtain⟨h1,h2,h3,_⟩:=(mV l).1 h;have:=oR l 0 h3;have hp:10 ^ l.length<=10 ^ 15:=bS (by omega) h2;show fa 0 l<10 ^ 15;omega
section
variable {n:Nat}
theorem iG(l:List UInt8)(hl:l.length<=100000):∃v,nL.F n (bs l)=some (v,jG l)/\(jG l=true->v=(il l:Int)):=by
 have uE:(10:Nat) ^ 15=1000000000000000:=by decide
 unfold nL.F nL.e B7.F;rw[cU,cS (by omega),ab];show ∃v,(bif !(jm l).2 then _ else _)=_/\_;cases hn:jG l with
 | true=>
  have hv:=kz hn;obtain⟨h1,h2,h3,_⟩:=(mV l).1 hn;have ha:=B0 (l:=l) (λe=>by rw[e]at h1;simp at h1) h3 (by omega);rw[ha];refine⟨(il l:Int),?_,λ_=>rfl⟩;simp only[aE,ak];rw[cS (by omega),fQ _ (by omega) (by omega),ab,Lib.itoa,if_neg (by omega),ai,mW hn,dX,cS rfl];rw[decide_eq_true (by omega)]
 | false=>
  refine⟨(jm l).1,?_,λh=>by cases h⟩;cases he:(jm l).2 with
  | true=>rfl
  | false=>
   simp only[aE,ak];by_cases h2:l.length<=15
   ·have hb : -9223372036854775808<=(jm l).1/\(jm l).1<=9223372036854775807:=by
     unfold jm at he ⊢;rcases hz:Lib.atoiAll l with v|- | -
     ·exact Lib.atoiAll_bounds hz
     ·rw[hz]at he;cases he
     ·rw[hz]at he;cases he
    rw[cS (by omega)];unfold oI.F;rw[dD (by rw[ae,az,az];exact hb),ab];show(bif(bs (Lib.itoa (jm l).1)).toList==(bs l).toList then _ else _)=_;rw[dX];by_cases e:Lib.itoa (jm l).1=l
    ·rw[cS e];by_cases h0:(jm l).1>=0
     ·exfalso;unfold Lib.itoa at e;rw[if_neg (by omega)]at e;have hd:=lj (jm l).1.toNat (jm l).1.toNat (aJ _);rw[e]at hd;have:jG l=true:=by
       rw[mV];refine⟨cu.2 hd.1,h2,hd.2.1,?_⟩;rintro⟨a,b⟩;by_cases hz:(jm l).1.toNat=0
       ·have:=hd.2.2.2.2 (by omega);omega
       ·exact hd.2.2.2.1 hz b
      rw[hn]at this;cases this
     ·rw[a_ h0]
    ·rw[cT e]
   ·rw[cT (by omega)]
end
def ib(l:List UInt8)(c:UInt8):Nat:=(l.takeWhile (λx=>x != c)).length
theorem i_(b c:UInt8)(l:List UInt8):ib (b::l) c=if b=c then 0 else ib l c+1:=by
 unfold ib;rw[bO];by_cases h:b=c
 ·subst h;simp
 ·have h2:(b != c)=true:=by simpa using h
  rw[h2,if_neg h];simp
theorem KP(c:UInt8):∀l:List UInt8,Lib.indexByte l c=if ib l c<l.length then(ib l c:Int)else -1
 | []=>rfl
 | b::l=>by
  have ih:=KP c l;unfold Lib.indexByte;rw[i_];by_cases h:b=c
  ·subst h;simp
  ·have h1:(b==c)=false:=by simpa using h
   rw[h1,if_neg h,ih];simp only[cw,bI,aw];by_cases h3:ib l c<l.length
   ·have h4:(((ib l c:Nat):Int)==-1)=false:=by rw[beq_eq_false_iff_ne];omega
    simp only[if_pos h3,h4,cw,bI];rw[if_pos (by omega)];simp
   ·simp only[if_neg h3];rw[if_neg (show ¬ (ib l c+1<l.length+1) by omega)];rfl
def ej(s:List UInt8)(c:UInt8):List UInt8 × List UInt8 × Bool:=if ib s c<s.length then(s.take (ib s c),s.drop (ib s c+1),true)else(s,[],false)
theorem J5(s:List UInt8)(c:UInt8):Lib.cut s [c]=ej s c:=by
 unfold Lib.cut ej;rw[Lib.index_one,KP];by_cases h:ib s c<s.length
 ·rw[if_pos h,if_pos h,if_pos (by omega),ai];rfl
 ·rw[if_neg h,if_neg h,if_neg (by omega)]
section
variable {n:Nat}
theorem fV(s:List UInt8)(c:UInt8)(h:s.length<=100000):nt.F n (bs s) (bs [c])=some (bs (ej s c).1,bs (ej s c).2.1,(ej s c).2.2):=by
 unfold nt.F;rw[cS (by rw[cU];omega),show(bs [c]).data.toList=[c]from rfl,show(bs s).data.toList=s from rfl,J5]
theorem BG(s p:List UInt8):ll.F n (bs s) (bs p)=some (decide (s.take p.length=p)):=by
 unfold ll.F ll.e;simp only[cU,ge_iff_le];by_cases h:p.length<=s.length
 ·rw[cS (by omega),dD (dv h),ai,rZ,dX]
 ·rw[cT (by omega),a_];intro e;have:=congrArg List.length e;rw[bu]at this;omega
theorem xt(s p:List UInt8):Df.F n (bs s) (bs p)=some (decide (s.take p.length=p)):=by
 unfold Df.F Df.e;rw[BG];rfl
theorem Cq{s p:List UInt8}(h:s.take p.length=p):p.length<=s.length:=by
 have:=congrArg List.length h;rw[bu]at this;omega
theorem xI(s p:List UInt8):Fg.F n (bs s) (bs p)=some (if s.take p.length=p then(bs (s.drop p.length),true)else(bs s,false)):=by
 unfold Fg.F Fg.e kO.F kO.e;rw[BG,ab];by_cases h:s.take p.length=p
 ·have hl:=Cq h;rw[decide_eq_true h,if_pos h,aC,cond_false];simp only[cU];rw[dD (dv hl),ai,show(bs s).extract p.length s.length=bs (s.drop p.length)from jc s _];rfl
 ·rw[a_ h,if_neg h];rfl
theorem IS(s p:List UInt8):Ff.F n (bs s) (bs p)=some (bs (if s.take p.length=p then s.drop p.length else s)):=by
 unfold Ff.F Ff.e H_.F H_.e;rw[BG,ab];by_cases h:s.take p.length=p
 ·have hl:=Cq h;rw[decide_eq_true h,if_pos h,ak];simp only[cU];rw[dD (dv hl),ai,show(bs s).extract p.length s.length=bs (s.drop p.length)from jc s _];rfl
 ·rw[a_ h,if_neg h];rfl
end
theorem sa{ws:List (List UInt8)}{i:Nat}(hi:i<ws.length):(Ws ws).getD (((i:Nat):Int)).toNat AV.undef=vs (bs ws[i]):=by simp[Ws,ah,hi]
theorem CO(n:Nat)(ws:List (List UInt8))(hw:ws.length<=1000)(s:List UInt8):∀(d i m:Nat),i+d=ws.length->d<m->jN.l n m (.z2 (Ws ws) (bs s) ws.length i)=some (iH (ws.drop i) s i)
 | _,_,0,_,h=>absurd h (by omega)
 | 0,i,m+1,h,_=>by
  rw[jN.q9];unfold jN.r2;rw[cT (by omega),aH (by omega)];rfl
 | d+1,i,m+1,h,hm=>by
  have hi:i<ws.length:=by omega
  have ih:=CO n ws hw s d (i+1) m (by omega) (by omega);rw[jN.q9];unfold jN.r2;rw[cS (by omega),c7,c8 hi,ak,sa hi,aG hi];show(bif((bs s).toList==(bs ws[i]).toList)then _ else _)=_;rw[dX,dA (by omega),ih,pg];by_cases h:s=ws[i]
  ·rw[cS h,if_pos h.symm]
  ·rw[cT h,if_neg (λe=>h e.symm)]
section
variable {n:Nat}
theorem ph(hn:1001<=n)(ws:List (List UInt8))(hw:ws.length<=1000)(s:List UInt8):jN.F n (Ws ws) (bs s)=some (iH ws s 0):=by
 unfold jN.F jN.e;have:=CO n ws hw s ws.length 0 n (by omega) (by omega);rw[aU]at this;rw[c7];exact this
def FA:List (List UInt8):=[[67,72,65,82],[80,65,67,75,69,68],[90,79,78,69,68],[66,73,78,65,82,89]]
theorem JN:ql=Ws FA:=rfl
def tW(s:List UInt8)(c:UInt8):Option (List UInt8):=if s.getLast?=some c then some s.dropLast else none
theorem Em{s:List UInt8}(h:1<=s.length):s.drop (s.length - 1)=[s.getLast (λe=>by rw[e]at h;simp at h)]:=by
 have fN:s≠[]:=λe=>by rw[e]at h;simp at h
 have e:=List.dropLast_concat_getLast fN;have hl:s.dropLast.length=s.length - 1:=List.length_dropLast
 calc s.drop (s.length - 1)=(s.dropLast++[s.getLast fN]).drop (s.length - 1):=by rw[e]
  _=[s.getLast fN]:=by rw[List.drop_append,aH (by omega),hl,Nat.sub_self];rfl
theorem rW(s:List UInt8)(c:UInt8)(hs:s.length<=100000):B6.F n (bs s) (bs [c])=some (match tW s c with | some t=>(bs t,true) | none=>(bs s,false)):=by
 unfold B6.F B6.e Ib.F Ib.e Ia.F Ia.e tW;simp only[cU,aw,aF,b6];by_cases h:1<=s.length
 ·have fN:s≠[]:=λe=>by rw[e]at h;simp at h
  have e:IntKind.i64.wrap (((s.length:Nat):Int) - ((1:Nat):Int))=((s.length - 1:Nat):Int):=by rw[nU (by omega) (by omega)];omega
  simp only[e];rw[cS (by omega),dD (dv (by omega)),ai,show(bs s).extract (s.length - 1) s.length=bs (s.drop (s.length - 1))from jc s _,dX,ab,Em h,List.getLast?_eq_some_getLast fN];by_cases hc:s.getLast fN=c
  ·rw[decide_eq_true (by rw[hc]),if_pos (by rw[hc]),aC,cond_false,dD (dv (by omega)),rZ,List.dropLast_eq_take];rfl
  ·rw[a_ (by simpa using hc),if_neg (by simpa using hc)];rfl
 ·have:s=[]:=aT.1 (by omega);subst this;rw[cT (by simp)];rfl
def qD(t:List UInt8):Option (Int × Int × Int):=
 if iH FA (ej t 40).1 0<0 then none else match tW (ej t 40).2.1 41 with
 | none=>none
 | some i=>if iH FA (ej t 40).1 0=0 then(if jG i=true then some (0,(il i:Int),0)else none)
  else if jG (ej i 44).1=true/\jG (ej i 44).2.1=true then some (iH FA (ej t 40).1 0,(il (ej i 44).1:Int),(il (ej i 44).2.1:Int))else none
theorem kF(s:List UInt8)(c:UInt8):(ej s c).1.length<=s.length/\(ej s c).2.1.length<=s.length:=by
 unfold ej;split
 ·exact⟨by rw[bu];omega,by rw[aM];omega⟩
 ·exact⟨aJ _,by simp⟩
theorem vj(hn:1001<=n)(t:List UInt8)(ht:t.length<=100000):∃x,qx.F n (bs t)=some x/\x.2.2.2=(qD t).isSome/\∀v,qD t=some v->x=(v.1,v.2.1,v.2.2,true):=by
 have hc:=kF t 40;unfold qx.F qx.e qD;rw[fb,fb,fb,fV t 40 ht,ab];simp only;rw[JN,ph hn FA (by decide),ab,rW _ 41 (by omega),ab];by_cases hk:iH FA (ej t 40).1 0<0
 ·rw[cS hk,if_pos hk];exact⟨_,rfl,rfl,λv h=>by cases h⟩
 ·rw[cT hk,if_neg hk];cases he:tW (ej t 40).2.1 41 with
  | none=>exact⟨_,rfl,rfl,λv h=>by cases h⟩
  | some i=>
   have hi:i.length<=100000:=by
    unfold tW at he;split at he
    ·have:=cD he;rw[<-this,List.length_dropLast];omega
    ·cases he
   simp only[aC,cond_false];rw[eQ];by_cases h0:iH FA (ej t 40).1 0=0
   ·obtain⟨v,e1,e2⟩:=iG (n:=n) i hi;rw[if_pos h0,if_pos h0,e1,ab,h0];cases hd:jG i with
    | true=>
     rw[if_pos rfl];exact⟨_,rfl,rfl,λw h=>by cases h;rw[e2 hd]⟩
    | false=>
     rw[if_neg (by simp)];exact⟨_,rfl,rfl,λw h=>by cases h⟩
   ·have hd:=kF i 44;obtain⟨v,e1,e2⟩:=iG (n:=n) (ej i 44).1 (by omega);obtain⟨w,f1,f2⟩:=iG (n:=n) (ej i 44).2.1 (by omega);rw[if_neg h0,if_neg h0,fV i 44 hi,ab];simp only;rw[e1,ab,f1,ab];simp only;cases h1:jG (ej i 44).1 with
    | true=>
     rw[ak];cases h2:jG (ej i 44).2.1 with
     | true=>
      rw[if_pos ⟨rfl,rfl⟩];exact⟨_,rfl,rfl,λu h=>by cases h;rw[e2 h1,f2 h2]⟩
     | false=>
      rw[if_neg (by simp)];exact⟨_,rfl,rfl,λu h=>by cases h⟩
    | false=>
     rw[cond_false,if_neg (by simp)];exact⟨_,rfl,rfl,λu h=>by cases h⟩
end
theorem fL:∀(a r:List UInt8) (c:UInt8),a.contains c=false->ej (a++c::r) c=(a,r,true):=by
 intro a r c h;have Sf:ib (a++c::r) c=a.length:=by
  induction a with
  | nil=>rw[bn,i_,if_pos rfl];rfl
  | cons b a ih=>
   rw[ck,aZ]at h;have fN:b≠c:=λe=>by have:=h.1;rw[e]at this;simp at this
   rw[b9,i_,if_neg fN,ih h.2];rfl
 unfold ej;rw[Sf,if_pos (by rw[ag,aw];omega),List.take_left,List.drop_append];have:a.length+1 - a.length=1:=by omega
 rw[this,aH (by omega)];rfl
theorem wj{a:List UInt8}{c:UInt8}(h:a.contains c=false):ej a c=(a,[],false):=by
 have Sf:ib a c=a.length:=by
  induction a with
  | nil=>rfl
  | cons b a ih=>
   rw[ck,aZ]at h;have fN:b≠c:=λe=>by have:=h.1;rw[e]at this;simp at this
   rw[i_,if_neg fN,ih h.2];rfl
 unfold ej;rw[Sf,if_neg (Nat.lt_irrefl _)]
theorem GR(s:List UInt8)(c:UInt8):(s.take (ib s c)).contains c=false:=by
 induction s with
 | nil=>rfl
 | cons b s ih=>
  rw[i_];by_cases h:b=c
  ·rw[if_pos h];rfl
  ·rw[if_neg h,cC,ck,ih,Bool.or_false];simpa using λe=>h e.symm
theorem KQ(s:List UInt8)(c:UInt8)(h:ib s c<s.length):s=s.take (ib s c)++c::s.drop (ib s c+1):=by
 induction s with
 | nil=>simp at h
 | cons b s ih=>
  rw[i_]at h ⊢;by_cases e:b=c
  ·rw[if_pos e,e];rfl
  ·rw[if_neg e]at h ⊢;have:=ih (by simpa using h);rw[cC,bP,b9,<-this]
theorem cutB_hit{s:List UInt8}{c:UInt8}(h:(ej s c).2.2=true):s=(ej s c).1++c::(ej s c).2.1/\(ej s c).1.contains c=false:=by
 unfold ej at h ⊢;by_cases hl:ib s c<s.length
 ·rw[if_pos hl];exact⟨KQ s c hl,GR s c⟩
 ·rw[if_neg hl]at h;cases h
theorem cutB_miss{s:List UInt8}{c:UInt8}(h:(ej s c).2.2=false):ej s c=(s,[],false):=by
 unfold ej at h ⊢;by_cases hl:ib s c<s.length
 ·rw[if_pos hl]at h;cases h
 ·rw[if_neg hl]
theorem wc{s i:List UInt8}{c:UInt8}(h:tW s c=some i):s=i++[c]:=by
 unfold tW at h;split at h
 ·rename_i hl;rw[<-cD h];have fN:s≠[]:=λe=>by rw[e]at hl;cases hl
  have e:=List.dropLast_concat_getLast fN;rw[List.getLast?_eq_some_getLast fN]at hl;rw[cD hl]at e;exact e.symm
 ·cases h
theorem tV(i:List UInt8)(c:UInt8):tW (i++[c]) c=some i:=by
 unfold tW;rw[List.getLast?_concat,if_pos rfl,List.dropLast_concat]
theorem iZ(k:Nat):Lib.itoa (k:Int)=Lib.decDigits k:=by unfold Lib.itoa;rw[if_neg (by omega),ai]
theorem Dc{k:Nat}{c:UInt8}(hc:fh c=false):(Lib.decDigits k).contains c=false:=by
 have h:=(lj k k (aJ _)).2.1;cases hb:(Lib.decDigits k).contains c with
 | false=>rfl
 | true=>
  rw[bV,az]at hb;have:=ay.1 h c hb;rw[hc]at this;cases this
theorem LW{w:List UInt8}(h:¬ iH FA w 0<0):∃k:Int,iH FA w 0=k/\(k=0\/k=1\/k=2\/k=3)/\w=mL k:=by
 unfold FA at h ⊢;simp only[iH]at h ⊢;by_cases h0:[67,72,65,82]=w
 ·rw[if_pos h0];exact⟨0,rfl,.inl rfl,h0.symm⟩
 ·rw[if_neg h0]at h ⊢;by_cases h1:[80,65,67,75,69,68]=w
  ·rw[if_pos h1];exact⟨1,rfl,.inr (.inl rfl),h1.symm⟩
  ·rw[if_neg h1]at h ⊢;by_cases h2:[90,79,78,69,68]=w
   ·rw[if_pos h2];exact⟨2,rfl,.inr (.inr (.inl rfl)),h2.symm⟩
   ·rw[if_neg h2]at h ⊢;by_cases h3:[66,73,78,65,82,89]=w
    ·rw[if_pos h3];exact⟨3,rfl,.inr (.inr (.inr rfl)),h3.symm⟩
    ·rw[if_neg h3]at h;omega
theorem Jq{k:Int}(h:k=0\/k=1\/k=2\/k=3):iH FA (mL k) 0=k/\(mL k).contains 40=false:=by
 rcases h with rfl|rfl|rfl|rfl<;>exact⟨by decide,by decide⟩
def GT(k l s:Int):Prop:=(k=0\/k=1\/k=2\/k=3)/\(0<=l/\l<1000000000000000)/\(0<=s/\s<1000000000000000)/\(k=0->s=0)
theorem Ln{k l s:Int}(h:GT k l s):qD (iX k l s)=some (k,l,s):=by
 have uE:(10:Nat) ^ 15=1000000000000000:=by decide
 obtain⟨hk,hl,hs,h0⟩:=h;obtain⟨a,rfl⟩:∃a:Nat,l=a:=⟨l.toNat,by omega⟩;obtain⟨b,rfl⟩:∃b:Nat,s=b:=⟨s.toNat,by omega⟩;obtain⟨t1,t2⟩:=Jq hk;have e:iX k (a:Int) (b:Int)=mL k++40::((Lib.decDigits a++(if k=0 then[]else 44::Lib.decDigits b))++[41]):=by
  unfold iX;rw[iZ,iZ];split<;>simp
 have va:=(lj a a (aJ _)).2.2.1;have vb:=(lj b b (aJ _)).2.2.1;unfold qD;rw[e,fL _ _ _ t2];simp only;rw[t1,if_neg (by omega),tV];simp only;by_cases hz:k=0
 ·rw[if_pos hz,if_pos hz,bf,if_pos (nk (by omega))];have:=h0 hz;show some ((0:Int),((fa 0 (Lib.decDigits a):Nat):Int),(0:Int))=_;rw[va,hz,this]
 ·rw[if_neg hz,if_neg hz,fL _ _ _ (Dc (by decide))];simp only;rw[if_pos ⟨nk (by omega),nk (by omega)⟩];show some (k,((fa 0 (Lib.decDigits a):Nat):Int),((fa 0 (Lib.decDigits b):Nat):Int))=_;rw[va,vb]
theorem IP{t:List UInt8}{k l s:Int}(h:qD t=some (k,l,s)):GT k l s/\t=iX k l s:=by
 have uE:(10:Nat) ^ 15=1000000000000000:=by decide
 unfold qD at h;split at h
 ·cases h
 rename_i hi;obtain⟨k',e1,hk,hw⟩:=LW hi;rw[e1]at h;have Si:(ej t 40).2.2=true:=by
  cases hb:(ej t 40).2.2 with
  | true=>rfl
  | false=>
   rw[cutB_miss hb]at h;cases h
 obtain⟨c1,_⟩:=cutB_hit Si;cases he:tW (ej t 40).2.1 41 with
 | none=>rw[he]at h;cases h
 | some i=>
  rw[he]at h;simp only at h;have OA:=wc he;by_cases hz:k'=0
  ·rw[if_pos hz]at h;split at h
   ·rename_i hd;cases h;have hv:=kz hd;have qk:=mW hd;refine⟨⟨.inl rfl,by omega,by omega,λ_=>rfl⟩,?_⟩;rw[c1,OA,hw,hz];unfold iX;rw[iZ,qk,if_pos rfl];simp
   ·cases h
  ·rw[if_neg hz]at h;split at h
   ·rename_i hd;cases h;have D1:=kz hd.1;have MY:=kz hd.2;have Hg:(ej i 44).2.2=true:=by
     cases hb:(ej i 44).2.2 with
     | true=>rfl
     | false=>
      have:=hd.2;rw[cutB_miss hb]at this;cases this
    obtain⟨c2,_⟩:=cutB_hit Hg;refine⟨⟨hk,by omega,by omega,λe=>absurd e hz⟩,?_⟩;rw[c1,OA,hw];unfold iX;rw[iZ,iZ,mW hd.1,mW hd.2,if_neg hz]
    conv=>lhs;rw[c2]
    simp
   ·cases h
def kV(s:List UInt8)(c:UInt8):List UInt8:=s.take (ib s c)
def jM(s:List UInt8)(c:UInt8):List UInt8:=s.drop (ib s c)
theorem Kk(s:List UInt8)(c:UInt8):s=kV s c++jM s c:=(cK _ _).symm
theorem IL(s:List UInt8)(c:UInt8):(kV s c).contains c=false:=GR s c
theorem wO(s:List UInt8)(c:UInt8):(jM s c).length<=s.length:=by unfold jM;rw[aM];omega
theorem pM(s:List UInt8)(c:UInt8):jM s c=[]\/∃r,jM s c=c::r:=by
 by_cases h:ib s c<s.length
 ·have:=KQ s c h;refine .inr ⟨s.drop (ib s c+1),?_⟩;unfold jM;have h2:s.drop (ib s c)=(s.take (ib s c)++c::s.drop (ib s c+1)).drop (ib s c):=by rw[<-this]
  rw[h2,List.drop_append,aH (by rw[bu];omega),bu,show ib s c - min (ib s c) s.length=0 by omega];rfl
 ·refine .inl ?_;unfold jM;rw[aH (by omega)]
theorem LZ{u:List UInt8}{c:UInt8}(h:u.contains c=false)(r:List UInt8):ib (u++c::r) c=u.length:=by
 induction u with
 | nil=>rw[bn,i_,if_pos rfl];rfl
 | cons b u ih=>
  simp only[ck,aZ]at h;rw[b9,i_,if_neg (λe=>by simp[e]at h),ih h.2];simp
theorem Jw{u:List UInt8}{c:UInt8}(h:u.contains c=false):ib u c=u.length:=by
 induction u with
 | nil=>rfl
 | cons b u ih=>
  simp only[ck,aZ]at h;rw[i_,if_neg (λe=>by simp[e]at h),ih h.2];simp
theorem wN{u:List UInt8}{c:UInt8}(h:u.contains c=false)(r:List UInt8):kV (u++c::r) c=u/\jM (u++c::r) c=c::r:=by
 unfold kV jM;rw[LZ h];simp
theorem wM{u:List UInt8}{c:UInt8}(h:u.contains c=false):kV u c=u/\jM u c=[]:=by
 unfold kV jM;rw[Jw h];simp
theorem yi(k:Nat):il (Lib.decDigits k)=k:=(lj k k (aJ _)).2.2.1
def yz:List UInt8->List UInt8->Option (List UInt8 × List UInt8)
 | u,[]=>if u=[]then none else some (u,[])
 | u,c::r=>if c=46 then(if u=[]then none else if r≠[]/\r.all fh=true then some (u,r)else none)
  else if fh c=true then(if u=[48]then none else yz (u++[c]) r)else none
theorem wT(u:List UInt8):yz u []=if u=[]then none else some (u,[]):=by cases u<;>rfl
theorem oW(u:List UInt8)(c:UInt8)(r:List UInt8):yz u (c::r)=if c=46 then(if u=[]then none else if r≠[]/\r.all fh=true then some (u,r)else none)
  else if fh c=true then(if u=[48]then none else yz (u++[c]) r)else none:=by
 conv=>lhs;unfold yz
def jB(w f:List UInt8):List UInt8:=w.dropWhile (λx=>x==48)++f
def Bc(s:List UInt8):Option (Int × Nat):=
 if 40<s.length\/s=[]then none else match yz [] (kt s)with
 | none=>none
 | some (w,f)=>if(jB w f).length<=15 then some (if AU s=true then -((il (jB w f):Nat):Int)else((il (jB w f):Nat):Int),f.length)else none
theorem sI:∀(r u w f:List UInt8),u.all fh=true->yz u r=some (w,f)->w.all fh=true/\f.all fh=true
 | [],u,w,f,hu,h=>by
  rw[wT]at h;split at h
  ·cases h
  ·cases h;exact⟨hu,rfl⟩
 | c::r,u,w,f,hu,h=>by
  rw[oW]at h;split at h
  ·split at h
   ·cases h
   split at h
   ·rename_i h2;cases h;exact⟨hu,h2.2⟩
   ·cases h
  split at h
  ·rename_i hc;split at h
   ·cases h
   exact sI r _ w f (by simp[cF,hu,hc]) h
  ·cases h
theorem Bb{s:List UInt8}{v:Int}{k:Nat}(h:Bc s=some (v,k)):v.natAbs<10 ^ 15/\k<=15:=by
 unfold Bc at h;split at h
 ·cases h
 cases hs:yz [] (kt s)with
 | none=>rw[hs]at h;cases h
 | some p=>
  obtain⟨w,f⟩:=p;rw[hs]at h;simp only at h;split at h
  ·rename_i hl;obtain⟨h1,h2⟩:=sI _ _ _ _ rfl hs;have hd:(jB w f).all fh=true:=by
    unfold jB;rw[cF,h2,Bool.and_true,ay];intro x hx;exact ay.1 h1 x (List.dropWhile_sublist _ |>.subset hx)
   have hv:=oR (jB w f) 0 hd;have hp:10 ^ (jB w f).length<=10 ^ 15:=bS (by decide) hl;have hk:f.length<=15:=by unfold jB at hl;rw[ag]at hl;omega
   have Zh:il (jB w f)=fa 0 (jB w f):=rfl;cases h;refine⟨?_,hk⟩;split<;>omega
  ·cases h
theorem Fw(l:List UInt8)(c:UInt8):fa 0 (l++[c])=10*fa 0 l+(c.toNat - 48):=by rw[pK];omega
theorem Dp(a g:List UInt8):fa 0 (a++g)=fa 0 (jB a g):=by
 unfold jB;induction a with
 | nil=>rfl
 | cons b a ih=>
  rw[List.dropWhile_cons];by_cases hb:(b==48)=true
  ·rw[if_pos hb];have e:b=48:=by simpa using hb
   subst e;rw[b9,lz];exact ih
  ·rw[if_neg hb]
theorem FT{a g:List UInt8}(ha:a.all fh=true)(hg:g.all fh=true):(jB a g).all fh=true:=by
 unfold jB;rw[cF,hg,Bool.and_true,ay];intro x hx;exact ay.1 ha x (List.dropWhile_sublist _ |>.subset hx)
theorem CM{c:UInt8}(h:fh c=true):48<=c.toNat/\c.toNat<=57:=by
 unfold fh at h;simpa using h
theorem HD{c:UInt8}(h:fh c=true):IntKind.i64.wrap (IntKind.u8.wrap (((c.toNat:Nat):Int) - 48))=((c.toNat - 48:Nat):Int):=by
 have:=CM h;rw[IntKind.wrap_u8,nU (by omega) (by omega)];omega
section
variable {n:Nat}
theorem w8:fh 46=false:=by decide
theorem FY:∀(r u w f:List UInt8),yz u r=some (w,f)->u++r=w++(if f=[]then[]else 46::f)
 | [],u,w,f,h=>by
  rw[wT]at h;split at h
  ·cases h
  ·cases h;simp
 | c::r,u,w,f,h=>by
  rw[oW]at h;split at h
  ·rename_i zF;split at h
   ·cases h
   split at h
   ·rename_i h2;cases h;rw[if_neg h2.1,zF]
   ·cases h
  split at h
  ·split at h
   ·cases h
   have:=FY r _ w f h;rw[<-this];simp
  ·cases h
theorem HS(s:List UInt8)(h:s≠[]):∃p:List UInt8,s=p++kt s/\p.length=(if AU s=true then 1 else 0):=by
 cases s with
 | nil=>exact absurd rfl h
 | cons c r=>
  by_cases Qk:c=45
  ·subst Qk;exact⟨[45],rfl,rfl⟩
  ·have hs:AU (c::r)=false:=by unfold AU;simpa using Qk
   exact⟨[],by unfold kt;rw[hs];rfl,by rw[hs];rfl⟩
end
theorem wS:∀(r u:List UInt8),u.all fh=true->¬ (1<u.length/\u.getD 0 0=48)->yz u r =
  if 1<(u++r.takeWhile fh).length/\(u++r.takeWhile fh).getD 0 0=48 then none else match r.drop (r.takeWhile fh).length with
  | []=>if u++r.takeWhile fh=[]then none else some (u++r.takeWhile fh,[])
  | c::f=>if c=46/\u++r.takeWhile fh≠[]/\f≠[]/\f.all fh=true then some (u++r.takeWhile fh,f)else none
 | [],u,hu,hz=>by
  simp only[List.takeWhile_nil,bf,aF,aU];rw[wT,if_neg hz]
 | c::r,u,hu,hz=>by
  cases hc:fh c with
  | true=>
   rw[bO,hc,if_pos rfl,aw,bP];have zF:c≠46:=by rintro rfl;rw[w8]at hc;cases hc
   rw[oW,if_neg zF,hc,if_pos rfl];by_cases Hj:u=[48]
   ·rw[if_pos Hj,if_pos];subst Hj;exact⟨by simp,rfl⟩
   ·rw[if_neg Hj,wS r (u++[c]) (by simp[cF,hu,hc]) (by
     rintro⟨h1,h2⟩;cases u with
     | nil=>simp at h1
     | cons b u=>
      have hb:b=48:=by simpa using h2
      subst hb;cases u with
      | nil=>exact Hj rfl
      | cons _ _=>exact hz ⟨by simp,rfl⟩)]
    have e:u++[c]++r.takeWhile fh=u++c::r.takeWhile fh:=by simp
    rw[e]
  | false=>
   have Xu:(c::r).takeWhile fh=[]:=by rw[bO,hc];rfl
   rw[Xu,bf,aF,aU,if_neg hz,oW];dsimp only;by_cases zF:c=46
   ·rw[if_pos zF];by_cases P5:u=[]
    ·rw[if_pos P5,if_neg (λh=>h.2.1 P5)]
    ·rw[if_neg P5];by_cases h2:r≠[]/\r.all fh=true
     ·rw[if_pos h2,if_pos ⟨zF,P5,h2⟩]
     ·rw[if_neg h2,if_neg (λh=>h2 h.2.2)]
   ·rw[if_neg zF,hc,if_neg (by simp),if_neg (λh=>zF h.1)]
theorem IQ(r:List UInt8):(r.takeWhile fh).all fh=true:=by
 induction r with
 | nil=>rfl
 | cons c r ih=>
  rw[bO];split
  ·rename_i hc;rw[bE,hc,ih];rfl
  ·rfl
theorem FB{l:List UInt8}(h:l.all fh=true):l.takeWhile fh=l:=by
 induction l with
 | nil=>rfl
 | cons c l ih=>
  rw[bE,ae]at h;rw[bO,if_pos h.1,ih h.2]
section
variable {n:Nat}
theorem qa(n:Nat)(s:List UInt8)(i:Nat):rf.F n (bs s) i=some (match s.drop i with | []=>false | c::_=>fh c):=by
 unfold rf.F rf.e;simp only[cU];by_cases hi:i<s.length
 ·rw[aG hi,cS (by omega),c8 hi,ak,ai,getD_at hi];simp only[ak];unfold fh;by_cases h1:(48:Int)<=((s[i].toNat:Nat):Int)
  ·rw[cS h1];congr 1;rw[cn];simp;omega
  ·rw[cT h1];congr 1;rw[cn];simp;omega
 ·rw[aH (by omega),cT (by omega)]
theorem Kv(n:Nat)(s:List UInt8)(hs:s.length<=100000):∀(d:List UInt8) (i m:Nat),(s.drop i).takeWhile fh=d->d.length<m->i<=s.length->lu.l n m (.z5 (bs s) i)=some (((i+d.length:Nat):Int),0)
 | _,_,0,_,h,_=>absurd h (by omega)
 | [],i,m+1,h,_,hi=>by
  rw[lu.Nf];unfold lu.r5;rw[qa,ab];cases hd:s.drop i with
  | nil=>rfl
  | cons c r=>
   rw[hd,bO]at h;cases hc:fh c with
   | true=>rw[hc,if_pos rfl]at h;cases h
   | false=>
    dsimp only;rw[hc];rfl
 | b::d,i,m+1,h,hm,hi=>by
  rw[lu.Nf];unfold lu.r5;rw[qa,ab];cases hd:s.drop i with
  | nil=>rw[hd]at h;cases h
  | cons c r=>
   rw[hd,bO]at h;cases hc:fh c with
   | false=>rw[hc,if_neg (by simp)]at h;cases h
   | true=>
    rw[hc,if_pos rfl]at h;have eG:i<s.length:=by
     have:=congrArg List.length hd;rw[aM,aw]at this;omega
    have hr:s.drop (i+1)=r:=by rw[<-bZ,hd];rfl
    have h2:(s.drop (i+1)).takeWhile fh=d:=by rw[hr];exact(List.cons.inj h).2
    simp only[hc,ak];rw[dA (by omega),Kv n s hs d (i+1) m h2 (by simp at hm;omega) (by omega),show i+1+d.length=i+(b::d).length by simp;omega]
theorem run_eq(hn:200000<=n)(s:List UInt8)(hs:s.length<=100000)(i:Nat)(hi:i<=s.length):∃e,lu.F n (bs s) i=some (((i+((s.drop i).takeWhile fh).length:Nat):Int),e)/\(e=0↔(s.drop i).takeWhile fh≠[]):=by
 unfold lu.F lu.e;rw[qa,ab];have hl:=Kv n s hs _ i n rfl (by have:=(cJ (p:=fh) (l:=s.drop i)).length_le;rw[aM]at this;omega) hi;cases hd:s.drop i with
 | nil=>
  simp only[aE,ak,cU,List.takeWhile_nil,aF,bQ];have:s.length<=i:=by
   have:=congrArg List.length hd;rw[aM,aF]at this;omega
  rw[cT (by omega)];exact⟨9,rfl,by decide⟩
 | cons c r=>
  rw[hd]at hl;have eG:i<s.length:=by
   have:=congrArg List.length hd;rw[aM,aw]at this;omega
  cases hc:fh c with
  | false=>
   simp only[hc,aE,ak,cU];rw[cS (by omega),bO,hc,if_neg (by simp),aF,bQ];exact⟨8,rfl,by simp⟩
  | true=>
   simp only[hc,aC,cond_false];refine⟨0,hl,?_⟩;rw[bO,hc,if_pos rfl];simp
theorem LS(hn:200000<=n)(s:List UInt8)(hs:s.length<=100000)(h0:s≠[]):∃y,gW.F n (bs s)=some y/\(match yz [] (kt s)with | none=>y.2.2≠0 | some (w,f)=>y.1=(if AU s=true then 1 else 0)/\y.2.2=0):=by
 have zp:=cu.2 h0;obtain⟨p,hp,pI⟩:=HS s h0;obtain⟨q,rfl⟩:∃q,n=q+2:=⟨n - 2,by omega⟩;have D9:s.drop p.length=kt s:=by
  conv=>lhs;rw[hp]
  rw[cA]
 have L8:p.length<=s.length:=by rw[pI];split<;>omega
 obtain⟨e,r1,r2⟩:=run_eq hn s hs p.length L8;rw[D9]at r1 r2;have Xh:∀w:List UInt8,w=(kt s).takeWhile fh->w≠[]->∃y,gW.l (q+2) (q+2) (.z8 (bs s) ((p.length:Nat):Int) ((p.length+w.length:Nat):Int))=some y/\(match(kt s).drop w.length with
   | []=>y.1=((p.length:Nat):Int)/\y.2.2=0
   | c::f=>if c=46/\f≠[]/\f.all fh=true then y.1=((p.length:Nat):Int)/\y.2.2=0 else y.2.2≠0):=by
  intro w hw BA;have Un:w.length<=(kt s).length:=by rw[hw];exact(cJ _).length_le
  have xp:s.length=p.length+(kt s).length:=by conv=>lhs;rw[hp,ag]
  have Az:s.drop (p.length+w.length)=(kt s).drop w.length:=by rw[<-bZ,D9]
  rw[show q+2=(q+1)+1 from rfl,gW.at8];unfold gW.r8;simp only[cU];rw[eQ];cases hd:(kt s).drop w.length with
  | nil=>
   have:(kt s).length<=w.length:=by
    have:=congrArg List.length hd;rw[aM,aF]at this;omega
   rw[if_pos (by omega)];exact⟨_,rfl,rfl,rfl⟩
  | cons c f=>
   have eG:p.length+w.length<s.length:=by
    have:=congrArg List.length hd;rw[aM,aw]at this;omega
   have hc:s[p.length+w.length]'eG=c:=by
    have:=aG eG;rw[Az,hd]at this;exact(List.cons.inj this).1.symm
   have hf:s.drop (p.length+w.length+1)=f:=by rw[<-bZ,Az,hd];rfl
   rw[if_neg (by omega),c8 eG,ak,ai,getD_at eG,hc,eT];by_cases zF:c=46
   ·have Tu:((c.toNat:Nat):Int)=46:=by rw[zF];rfl
    rw[if_pos Tu,dA (by omega)];obtain⟨e',g1,g2⟩:=run_eq hn s hs (p.length+w.length+1) (by omega);rw[hf]at g1 g2;rw[g1,ab];simp only;have lq:s.length=p.length+w.length+1+f.length:=by
     have:=congrArg List.length hf;rw[aM]at this;omega
    have uE:∀x:Int,gW.l (q+2) (q+1) (.dR ((p.length:Nat):Int) ((p.length+w.length:Nat):Int) x ((p.length+w.length+1+(f.takeWhile fh).length:Nat):Int))=some (if x≠0 then(0,((p.length+w.length+1+(f.takeWhile fh).length:Nat):Int),x)else(((p.length:Nat):Int),((p.length+w.length:Nat):Int),0)):=by
     intro x;rw[gW.EK];unfold gW.rI;rw[eT];by_cases hx:x=0
     ·rw[if_pos hx,if_neg (by simpa using hx)]
     ·rw[if_neg hx,if_pos hx]
    rw[eQ];have ic:f.takeWhile fh=f↔f.all fh=true:=by
     constructor
     ·intro h;rw[<-h];exact IQ f
     ·intro h;exact FB h
    have P7:=(cJ (p:=fh) (l:=f)).length_le;by_cases he:e'=0
    ·rw[if_pos he];have Sm:=g2.1 he;by_cases R7:(f.takeWhile fh).length<f.length
     ·rw[cS (by omega),uE];refine⟨_,rfl,?_⟩
      try simp only
      rw[if_neg,if_pos (by decide)]
      ·dsimp only;decide
      ·rintro⟨_,_,h3⟩;have:=ic.2 h3;rw[this]at R7;omega
     ·rw[cT (by omega),uE];have MZ:f.takeWhile fh=f:=(cJ _).eq_of_length (by omega);refine⟨_,rfl,?_⟩
      try simp only
      rw[if_pos ⟨zF,by rw[<-MZ];exact Sm,ic.1 MZ⟩,if_neg (by simpa using he)];exact⟨rfl,rfl⟩
    ·rw[if_neg he,uE];refine⟨_,rfl,?_⟩
     try simp only
     have fN:f.takeWhile fh=[]:=Classical.byContradiction λh=>he (g2.2 h);rw[if_neg,if_pos he]
     ·exact he
     ·rintro⟨_,h2,h3⟩;have:=ic.2 h3;rw[fN]at this;exact h2 this.symm
   ·have Tu:((c.toNat:Nat):Int)≠46:=by
     intro e2;have e3:c.toNat=46:=by omega
     exact zF (UInt8.toNat_inj.1 (by rw[e3];rfl))
    rw[if_neg Tu];refine⟨_,rfl,?_⟩
    try simp only
    rw[if_neg (λh=>zF h.1)];decide
 have CX:=wS (kt s) [] rfl (by simp);rw[bn]at CX;have main:∃y,(bif(!decide (e=0))then some (0,((p.length+((kt s).takeWhile fh).length:Nat):Int),e)else
   (if 1<((kt s).takeWhile fh).length/\((kt s).takeWhile fh).getD 0 0=48 then some (0,((p.length+1:Nat):Int),8)else gW.l (q+2) (q+2) (.z8 (bs s) ((p.length:Nat):Int) ((p.length+((kt s).takeWhile fh).length:Nat):Int))))=some y/\(match yz [] (kt s)with | none=>y.2.2≠0 | some (w,f)=>y.1=((p.length:Nat):Int)/\y.2.2=0):=by
  rw[CX];by_cases he:e=0
  ·have BA:=r2.1 he;rw[decide_eq_true he,aC,cond_false];by_cases hz:1<((kt s).takeWhile fh).length/\((kt s).takeWhile fh).getD 0 0=48
   ·rw[if_pos hz,if_pos hz];exact⟨_,rfl,by dsimp only;decide⟩
   ·rw[if_neg hz,if_neg hz];obtain⟨y,y1,y2⟩:=Xh _ rfl BA;refine⟨y,y1,?_⟩;cases hd:(kt s).drop ((kt s).takeWhile fh).length with
    | nil=>rw[hd]at y2;rw[if_neg BA];exact y2
    | cons c f=>
     rw[hd]at y2;simp only at y2 ⊢;by_cases h2:c=46/\f≠[]/\f.all fh=true
     ·rw[if_pos h2]at y2;rw[if_pos ⟨h2.1,BA,h2.2⟩];exact y2
     ·rw[if_neg h2]at y2;rw[if_neg (λh=>h2 ⟨h.1,h.2.2⟩)];exact y2
  ·have Xo:(kt s).takeWhile fh=[]:=Classical.byContradiction λh=>he (r2.2 h);rw[a_ he,aE,ak];refine⟨_,rfl,?_⟩;rw[Xo,if_neg (by simp)];cases hd:(kt s).drop ([]:List UInt8).length with
   | nil=>rw[if_pos rfl];exact he
   | cons c f=>simp only;rw[if_neg (λh=>h.2.1 rfl)];exact he
 obtain⟨y,y1,y2⟩:=main;refine⟨y,?_,?_⟩
 ·rw[<-y1];unfold gW.F gW.e;simp only[cU];have M6:s.getD 0 0=s[0]:=by rw[ah,aP zp,cj]
  have Qk:((((s[0].toNat:Nat):Int))==45)=AU s:=by
   rw[show(45:Int)=((45:Nat):Int)from rfl,mj s[0] 45 45 rfl];unfold AU;rw[M6];rfl
  rw[cS (by omega),getD_at zp,Qk];have first:∀(eG:p.length<s.length),(kt s).takeWhile fh≠[]->((kt s).takeWhile fh).getD 0 0=s[p.length]'eG:=by
   intro eG fN;have h1:=aG eG;rw[D9]at h1;rw[h1,bO]at fN ⊢;split at fN
   ·rename_i hc;rw[if_pos hc];rfl
   ·exact absurd rfl fN
  have tail:∀(K:Option (Int × Int × Int)),(bif decide (((p.length:Nat):Int)<((s.length:Nat):Int))then(let y3:Int:=((((bs s).data.getD p.length 0).toNat:Nat):Int)
    bif y3==48 then(bif decide (((p.length+((kt s).takeWhile fh).length:Nat):Int)>((p.length+1:Nat):Int))then some ((0:Int),((p.length+1:Nat):Int),(8:Int))else K)else K)else none)=if e=0 then(if 1<((kt s).takeWhile fh).length/\((kt s).takeWhile fh).getD 0 0=48 then some (0,((p.length+1:Nat):Int),8)else K)else(bif decide (((p.length:Nat):Int)<((s.length:Nat):Int))then(let y3:Int:=((((bs s).data.getD p.length 0).toNat:Nat):Int)
    bif y3==48 then(bif decide (((p.length+((kt s).takeWhile fh).length:Nat):Int)>((p.length+1:Nat):Int))then some ((0:Int),((p.length+1:Nat):Int),(8:Int))else K)else K)else none):=by
   intro K;by_cases he:e=0
   ·have BA:=r2.1 he;have AA:0<(kt s).length:=by
     have:=(cJ (p:=fh) (l:=kt s)).length_le;have:=cu.2 BA;omega
    have eG:p.length<s.length:=by
     have:s.length=p.length+(kt s).length:=by conv=>lhs;rw[hp,ag]
     omega
    rw[if_pos he,cS (by omega),getD_at eG];simp only;rw[show(48:Int)=((48:Nat):Int)from rfl,mj (s[p.length]'eG) 48 48 rfl,first eG BA];by_cases Hj:s[p.length]'eG=48
    ·rw[decide_eq_true Hj,ak];by_cases hl:1<((kt s).takeWhile fh).length
     ·rw[cS (by omega),if_pos ⟨hl,Hj⟩]
     ·rw[cT (by omega),if_neg (λh=>hl h.1)]
    ·rw[a_ Hj,cond_false,if_neg (λh=>Hj h.2)]
   ·rw[if_neg he]
  cases L5:AU s with
  | true=>
   have KY:p.length=1:=by rw[pI,L5];rfl
   rw[KY]at r1 tail ⊢;have Rp : lu.F (q+2) (bs s) 1=some (((1+((kt s).takeWhile fh).length:Nat):Int),e):=r1;rw[ak,Rp,ab,eT];have hw:IntKind.i64.wrap ((1:Int)+1)=((1+1:Nat):Int):=by decide
   by_cases he:e=0
   ·rw[if_pos he,decide_eq_true he,aC,cond_false];simp only[hw];have:=tail (gW.l (q+2) (q+2) (.z8 (bs s) ((1:Nat):Int) ((1+((kt s).takeWhile fh).length:Nat):Int)));rw[if_pos he]at this;exact this
   ·rw[if_neg he,a_ he];rfl
  | false=>
   have KY:p.length=0:=by rw[pI,L5];rfl
   rw[KY]at r1 tail ⊢;have Rp : lu.F (q+2) (bs s) 0=some (((0+((kt s).takeWhile fh).length:Nat):Int),e):=r1;rw[cond_false,Rp,ab,eT];have hw:IntKind.i64.wrap ((0:Int)+1)=((0+1:Nat):Int):=by decide
   by_cases he:e=0
   ·rw[if_pos he,decide_eq_true he,aC,cond_false];simp only[hw];have:=tail (gW.l (q+2) (q+2) (.z8 (bs s) ((0:Nat):Int) ((0+((kt s).takeWhile fh).length:Nat):Int)));rw[if_pos he]at this;rw[getD_at zp]at this;exact this
   ·rw[if_neg he,a_ he];rfl
 ·cases L6:yz [] (kt s)with
  | none=>rw[L6]at y2;exact y2
  | some v=>
   obtain⟨w,f⟩:=v;rw[L6]at y2;refine⟨?_,y2.2⟩;rw[y2.1,pI];split<;>rfl
end
theorem Lp{w:List UInt8}(h:w.all fh=true):w.takeWhile fh=w:=FB h
theorem Lo{w:List UInt8}(h:w.all fh=true)(f:List UInt8):(w++46::f).takeWhile fh=w:=by
 rw[List.takeWhile_append_of_pos (λx hx=>ay.1 h x hx),bO,w8,if_neg (by simp),bf]
theorem I0{w:List UInt8}(hw:w.all fh=true)(fN:w≠[])(hz:¬ (1<w.length/\w.getD 0 0=48)):yz [] w=some (w,[]):=by
 have h:=wS w [] rfl (by simp);rw[Lp hw,bn,if_neg hz,aH (aJ _)]at h;rw[h];simp only;rw[if_neg fN]
theorem FX{w f:List UInt8}(hw:w.all fh=true)(fN:w≠[])(hz:¬ (1<w.length/\w.getD 0 0=48))(hf:f.all fh=true)(E4:f≠[]):yz [] (w++46::f)=some (w,f):=by
 have h:=wS (w++46::f) [] rfl (by simp);rw[Lo hw,bn,if_neg hz,cA]at h;rw[h];simp only;rw[if_pos ⟨trivial,fN,E4,hf⟩]
theorem ya(a s:Nat):(eZ a s).all fh=true:=by
 obtain⟨_,h2,_⟩:=lj a a (aJ _);unfold eZ;rw[cF,h2,Bool.and_true,ay];intro x hx;rw[(bT.1 hx).2];decide
theorem yj:∀(k:Nat) (l:List UInt8),fa 0 (List.replicate k 48++l)=fa 0 l
 | 0,l=>rfl
 | k+1,l=>by
  rw[List.replicate_succ,b9,lz];exact yj k l
theorem Fk(a s:Nat):fa 0 (eZ a s)=a:=by
 unfold eZ;rw[yj];exact(lj a a (aJ _)).2.2.1
theorem AE{a s:Nat}(ha:a<10 ^ 15)(hs:s<=15):∃w f:List UInt8,eZ a s=w++f/\f.length=s/\w≠[]/\w.all fh=true/\f.all fh=true/\¬ (1<w.length/\w.getD 0 0=48)/\(jB w f).length<=15:=by
 obtain⟨Zl,KZ⟩:=oL ha hs;have ic:=ya a s;obtain⟨d1,d2,d3,d4,d5⟩:=lj a a (aJ _);have Hd:=gB 14 a ha;refine⟨(eZ a s).take ((eZ a s).length - s),(eZ a s).drop ((eZ a s).length - s),(cK _ _).symm,by rw[aM];omega,?_,?_,?_,?_,?_⟩
 ·intro e;have:=congrArg List.length e;rw[bu,aF]at this;omega
 ·rw[ay];intro x hx;exact ay.1 ic x (aR hx)
 ·rw[ay];intro x hx;exact ay.1 ic x (aW hx)
 ·rintro⟨h1,h2⟩;rw[bu]at h1;have XF:s+1 - (Lib.decDigits a).length=0:=by
   have:(eZ a s).length=(s+1 - (Lib.decDigits a).length)+(Lib.decDigits a).length:=by unfold eZ;simp
   omega
  have hz:eZ a s=Lib.decDigits a:=by unfold eZ;rw[XF];rfl
  rw[hz]at h1 h2;have hg:((Lib.decDigits a).take ((Lib.decDigits a).length - s)).getD 0 0=(Lib.decDigits a).getD 0 0:=by
   rw[ah,ah,List.getElem?_take,if_pos (by omega)]
  rw[hg]at h2;by_cases h0:a=0
  ·have:=d5 (by omega);omega
  ·exact d4 h0 h2
 ·by_cases hr:s+1 - (Lib.decDigits a).length=0
  ·have hz:eZ a s=Lib.decDigits a:=by unfold eZ;rw[hr];rfl
   unfold jB;rw[ag];have h1:=(List.dropWhile_sublist (p:=λx:UInt8=>x==48) (l:=(eZ a s).take ((eZ a s).length - s))).length_le;rw[bu]at h1;rw[aM];have:=congrArg List.length hz;omega
  ·have hL:(eZ a s).length=s+1:=by unfold eZ;simp;omega
   have ht:(eZ a s).take ((eZ a s).length - s)=[48]:=by
    rw[hL,show s+1 - s=1 by omega];unfold eZ;obtain⟨j,hj⟩:∃j,s+1 - (Lib.decDigits a).length=j+1:=⟨s+1 - (Lib.decDigits a).length - 1,by omega⟩;rw[hj,List.replicate_succ];rfl
   unfold jB;rw[ht,List.dropWhile_cons,if_pos (by decide),List.dropWhile_nil,bn,aM,hL];omega
theorem DF{a s:Nat}(w f:List UInt8)(h:eZ a s=w++f)(hf:f.length=s):Au (eZ a s) s=w++(if s=0 then[]else 46::f):=by
 have hl:(eZ a s).length - s=w.length:=by rw[h,ag];omega
 unfold Au;rw[hl];by_cases h0:0<s
 ·rw[if_pos h0,if_neg (by omega),h,List.take_left,cA];simp
 ·have:f=[]:=aT.1 (by omega);rw[if_neg h0,if_pos (by omega),h,this]
theorem vE{v:Int}{k:Nat}(hv:v.natAbs<10 ^ 15)(hk:k<=15):Bc (nQ v k)=some (v,k):=by
 obtain⟨w,f,h1,h2,h3,h4,h5,h6,h7⟩:=AE hv hk;have hp:=DF w f h1 h2;have hlen:=s_ hv hk;have mI:fa 0 (jB w f)=v.natAbs:=by rw[<-Dp,<-h1,Fk]
 have Oz:∀tl:List UInt8,AU (w++tl)=false:=by
  intro tl;cases w with
  | nil=>exact absurd rfl h3
  | cons c w=>
   unfold AU;rw[bE,ae]at h4;show(c==45)=false;rw[beq_eq_false_iff_ne];rintro rfl;have:=h4.1;revert this;decide
 have CX:yz [] (w++(if k=0 then[]else 46::f))=some (w,f):=by
  by_cases h0:k=0
  ·have Ss:f=[]:=aT.1 (by omega);rw[if_pos h0,bf,Ss];exact I0 h4 h3 h6
  ·have Ss:f≠[]:=λe=>by rw[e]at h2;simp at h2;omega
   rw[if_neg h0];exact FX h4 h3 h6 h5 Ss
 have hb:AU (nQ v k)=decide (v<0)/\kt (nQ v k)=w++(if k=0 then[]else 46::f):=by
  unfold nQ;rw[hp];by_cases hn:v<0
  ·rw[if_pos hn,decide_eq_true hn];exact⟨rfl,rfl⟩
  ·rw[if_neg hn,a_ hn,bn];have:=Oz (if k=0 then[]else 46::f);exact⟨this,by unfold kt;rw[this];rfl⟩
 have fN:nQ v k≠[]:=by
  intro e;have h9:=hb.2;rw[e]at h9;have:kt ([]:List UInt8)=[]:=rfl;rw[this]at h9;cases w with
  | nil=>exact h3 rfl
  | cons c w=>simp at h9
 unfold Bc;rw[if_neg (by rintro(h|h);omega;exact fN h),hb.2,CX];simp only;rw[if_pos h7,hb.1,h2];show some ((if decide (v<0)=true then -((fa 0 (jB w f):Nat):Int)else((fa 0 (jB w f):Nat):Int)),k)=_;rw[mI];congr 1;by_cases hn:v<0
 ·rw[if_pos (by simpa using hn)];congr 1;omega
 ·rw[if_neg (by simpa using hn)];congr 1;omega
section
variable {n:Nat}
theorem FM(n:Nat)(s:List UInt8)(sg:Int)(f l:List UInt8)(hl:l.length<=15)(hd:l.all fh=true):∀(e i m:Nat),i+e=l.length->e<m->
  ji.l n m (.dN (bs s) sg (bs f) ((fa 0 (l.take i):Nat):Int) ((l.length:Nat):Int) ((i:Nat):Int) 0 0 (l.map λb=>vu b.toNat))=some (if sg=1 then -((fa 0 l:Nat):Int)else((fa 0 l:Nat):Int),((f.length:Nat):Int),((s.length:Nat):Int),0)
 | _,_,0,_,h=>absurd h (by omega)
 | 0,i,m+1,h,_=>by
  have hv:=oR l 0 hd;have hp:10 ^ l.length<=10 ^ 15:=bS (by decide) hl;have uE:(10:Nat) ^ 15=1000000000000000:=by decide
  rw[ji.H0];unfold ji.Cp;rw[cT (by omega),b_ (by omega),eQ];simp only[cU];by_cases h1:sg=1
  ·rw[if_pos h1,if_pos h1,nU (by omega) (by omega)];congr 2;omega
  ·rw[if_neg h1,if_neg h1]
 | e+1,i,m+1,h,hm=>by
  have hi:i<l.length:=by omega
  have ih:=FM n s sg f l hl hd e (i+1) m (by omega) (by omega);have hc:=ay.1 hd _ (aX hi);have E6:=CM hc;have Xw:(l.take (i+1)).all fh=true:=by
   rw[ay];intro x hx;exact ay.1 hd x (aR hx)
  have hv:=oR (l.take (i+1)) 0 Xw;have hp:10 ^ (l.take (i+1)).length<=10 ^ 15:=bS (by decide) (by rw[bu];omega);have uE:(10:Nat) ^ 15=1000000000000000:=by decide
  have Oc:fa 0 (l.take (i+1))=10*fa 0 (l.take i)+(l[i].toNat - 48):=by rw[bR hi];exact Fw _ _
  rw[ji.H0];unfold ji.Cp;have qY:(l.map λb:UInt8=>vu b.toNat).getD i AV.undef=vu l[i].toNat:=dn (λb:UInt8=>vu b.toNat) hi;rw[cS (by omega),af,c8 hi,ak,ai,qY];simp(disch:=omega)only[ab,au,ak,cond_false,aC,aE,af,c7,cU,c8,dv,dA,ai,dn,dj,dc,dp,cO,cW,cY,cX,c_,cS,cT];rw[HD hc,nU (x:=((fa 0 (l.take i):Nat):Int)*10) (by omega) (by omega),nU (by omega) (by omega),show((fa 0 (l.take i):Nat):Int)*10+((l[i].toNat - 48:Nat):Int)=((fa 0 (l.take (i+1)):Nat):Int) by rw[Oc];omega];exact ih
theorem DG(hn:200000<=n)(s:List UInt8)(hs:s.length<=100000):∃x,ji.F n (bs s)=some x/\(match Bc s with | some (v,k)=>x=(v,(k:Int),(s.length:Int),0) | none=>x.2.2.2≠0):=by
 unfold ji.F ji.e Bc;simp only[cU];have K4:∀(b:Bool) (e:Int),sb.F n b e=some (if b then e else 0):=λb e=>by cases b<;>rfl
 rw[K4,ab,show(⟨#[]⟩:ByteArray)=bs []from rfl,dX,K4,ab,w_ (by omega),ab,eT];by_cases Ql:40<s.length
 ·rw[decide_eq_true (show((s.length:Nat):Int)>40 by omega),if_pos (show 40<s.length\/s=[]from .inl Ql)];exact⟨(0,0,0,2),by cases decide (s=[])<;>rfl,by dsimp only;decide⟩
 ·rw[a_ (show ¬ ((s.length:Nat):Int)>40 by omega)];by_cases h0:s=[]
  ·rw[decide_eq_true h0,if_pos (show 40<s.length\/s=[]from .inr h0)];exact⟨(0,0,0,1),rfl,by dsimp only;decide⟩
  ·rw[a_ h0,if_neg (show ¬ (40<s.length\/s=[])from λh=>h.elim Ql h0)];simp only[cw,bI,ne_eq,not_true_eq_false,cb];obtain⟨y,y1,y2⟩:=LS hn s hs h0;rw[y1,ab,eT];obtain⟨p,hp,pI⟩:=HS s h0;cases L6:yz [] (kt s)with
   | none=>
    rw[L6]at y2;rw[if_neg y2];exact⟨_,rfl,y2⟩
   | some q=>
    obtain⟨w,f⟩:=q;rw[L6]at y2;obtain⟨d1,d2⟩:=sI _ _ _ _ rfl L6;have heq:=FY _ _ _ _ L6;rw[bn]at heq;have L2:y.1=((p.length:Nat):Int):=by rw[y2.1,pI];split<;>rfl
    have L8:p.length<=s.length:=by have:=congrArg List.length hp;rw[ag]at this;omega
    have D9:s.drop p.length=kt s:=by
     conv=>lhs;rw[hp]
     rw[cA]
    have UK:(kt s).length<=40:=by rw[<-D9,aM];omega
    rw[if_pos y2.2,L2,dv L8,ak,ai,show(bs s).extract p.length s.length=bs (s.drop p.length)from jc s _,D9,fb,fV _ 46 (by omega),ab];have N5:w.contains 46=false:=by
     rw[<-bm];intro h;have hm:(46:UInt8)∈w:=by simpa using h
     have:=ay.1 d1 46 hm;rw[w8]at this;cases this
    have OC:(ej (kt s) 46).1=w/\(ej (kt s) 46).2.1=f:=by
     rw[heq];by_cases hf:f=[]
     ·rw[if_pos hf,bf,wj N5,hf];exact⟨rfl,rfl⟩
     ·rw[if_neg hf,fL _ _ _ N5];exact⟨rfl,rfl⟩
    simp only[OC.1,OC.2];have N7:B5.F n (bs w) (⟨#[48]⟩:ByteArray)=some (bs (w.dropWhile (λx=>x==48))):=rfl;have Un:w.length+f.length<=40:=by
     have:=congrArg List.length heq;rw[ag]at this;split at this
     ·rename_i hf;subst hf;simp at this ⊢;omega
     ·simp at this;omega
    have Hd:=(List.dropWhile_sublist (p:=λx:UInt8=>x==48) (l:=w)).length_le;rw[N7,ab,cU,cU,dP (by omega),dh,cU];have RT:w.dropWhile (λx=>x==48)++f=jB w f:=rfl;rw[RT];by_cases uE:(jB w f).length<=15
    ·rw[cT (by omega),if_pos uE];have Ob:=FM n s ((p.length:Nat):Int) f (jB w f) uE (FT d1 d2) (jB w f).length 0 n (by omega) (by omega);rw[List.take_zero]at Ob;refine⟨_,?_,rfl⟩;have KZ:((bs (jB w f)).toList.map λb:UInt8=>vu b.toNat)=(jB w f).map λb:UInt8=>vu b.toNat:=by rw[gY]
     simp only[KZ,af];refine Ob.trans ?_;congr 1;have nG:(((p.length:Nat):Int)=1)↔AU s=true:=by rw[pI];cases AU s<;>simp
     by_cases L5:AU s=true
     ·rw[if_pos (nG.2 L5),if_pos L5]
     ·rw[if_neg (λh=>L5 (nG.1 h)),if_neg L5]
    ·rw[cS (by omega),if_neg uE];exact⟨_,rfl,by dsimp only;decide⟩
end
def lB:List UInt8->List UInt8
 | []=>[]
 | [c]=>[c]
 | c::d::r=>if c=39/\d=39 then 39::lB r else c::lB (d::r)
theorem lA(c d:UInt8)(r:List UInt8):lB (c::d::r)=if c=39/\d=39 then 39::lB r else c::lB (d::r):=by
 conv=>lhs;unfold lB
theorem IM{c:UInt8}(h:c≠39)(t:List UInt8):lB (c::t)=c::lB t:=by
 cases t with
 | nil=>rfl
 | cons d r=>rw[lA,if_neg (λe=>h e.1)]
theorem sx:∀x:List UInt8,lB (xH x)=x
 | []=>rfl
 | c::x=>by
  rw[jb];by_cases h:c=39
  ·rw[if_pos h];show lB (39::39::xH x)=_;rw[lA,if_pos ⟨rfl,rfl⟩,sx x,h]
  ·rw[if_neg h];show lB (c::xH x)=_;rw[IM h,sx x]
def qq:List UInt8:=[39,39]
theorem LC(c d:UInt8)(r:List UInt8):qq.isPrefixOf (c::d::r)=decide (c=39/\d=39):=by
 rw[cn];simp[qq,List.isPrefixOf];constructor
 ·rintro⟨a,b⟩;exact⟨a.symm,b.symm⟩
 ·rintro⟨a,b⟩;exact⟨a.symm,b.symm⟩
theorem vN(c d:UInt8)(r:List UInt8):Lib.index (c::d::r) qq=if c=39/\d=39 then 0 else if Lib.index (d::r) qq=-1 then -1 else Lib.index (d::r) qq+1:=by
 rw[Lib.index,LC];by_cases h:c=39/\d=39
 ·rw[if_pos h,decide_eq_true h,if_pos rfl]
 ·rw[if_neg h,a_ h,if_neg (by simp)];by_cases h2:Lib.index (d::r) qq=-1
  ·rw[if_pos h2,if_pos (by rw[h2];rfl)]
  ·rw[if_neg h2,if_neg (by simpa using h2)]
theorem index_one(c:UInt8):Lib.index [c] qq=-1:=by
 rw[Lib.index];have:qq.isPrefixOf [c]=false:=by simp[qq,List.isPrefixOf]
 rw[this];rfl
theorem vh:∀s:List UInt8,Lib.index s qq=-1->lB s=s
 | [],_=>rfl
 | [c],_=>rfl
 | c::d::r,h=>by
  rw[vN]at h;split at h
  ·cases h
  rename_i h1;split at h
  ·rename_i h2;rw[lA,if_neg h1,vh (d::r) h2]
  ·have:=Lib.index_ge (d::r) qq;rename_i h2;omega
theorem yn:∀(s:List UInt8) (i:Nat),Lib.index s qq=i->lB s=s.take i++[39]++lB (s.drop (i+2))
 | [],i,h=>by
  have e:Lib.index [] qq=-1:=rfl;rw[e]at h;omega
 | [c],i,h=>by
  rw[index_one]at h;omega
 | c::d::r,i,h=>by
  rw[vN]at h;by_cases h1:c=39/\d=39
  ·rw[if_pos h1]at h;have:i=0:=by omega
   subst this;rw[lA,if_pos h1];rfl
  ·rw[if_neg h1]at h;by_cases h2:Lib.index (d::r) qq=-1
   ·rw[if_pos h2]at h;omega
   ·rw[if_neg h2]at h;have Md:=Lib.index_ge (d::r) qq;obtain⟨j,rfl⟩:∃j,i=j+1:=⟨i - 1,by omega⟩;have:=yn (d::r) j (by omega);rw[lA,if_neg h1,this,cC,show j+1+2=(j+2)+1 by omega,bP];simp
theorem Lz:∀(N:Nat) (s:List UInt8) (k:Nat),s.length<=N->Lib.count s qq<=k->Lib.replaceK qq [39] k s=lB s:=by
 intro N;induction N with
 | zero=>
  intro s k hs hk;have:s=[]:=aT.1 (by omega);subst this;cases k<;>rfl
 | succ N ih=>
  intro s k hs hk;by_cases hm:Lib.index s qq=-1
  ·rw[vh s hm];cases k with
   | zero=>rfl
   | succ k=>rw[Lib.replaceK,if_pos (by rw[hm];rfl)]
  ·have Md:=Lib.index_ge s qq;obtain⟨i,hi⟩:∃i:Nat,Lib.index s qq=i:=⟨(Lib.index s qq).toNat,by omega⟩;rw[Lib.count_hit (by decide) hi]at hk;obtain⟨k,rfl⟩:∃q,k=q+1:=⟨k - 1,by omega⟩;have fN:s≠[]:=by rintro rfl;exact hm rfl
   have zp:=cu.2 fN;rw[Lib.replaceK_hit qq [39] k s i hi,yn s i hi];have:qq.length=2:=rfl;rw[this]at hk ⊢;rw[ih (s.drop (i+2)) k (by rw[aM];omega) (by omega)]
def po(c:UInt8):Option Nat:=if 48<=c.toNat/\c.toNat<=57 then some (c.toNat - 48)else if 65<=c.toNat/\c.toNat<=70 then some (c.toNat - 55)else none
def iE:List UInt8->Option (List UInt8)
 | []=>some []
 | [_]=>none
 | a::b::r=>match po a,po b,iE r with
  | some x,some y,some t=>some (UInt8.ofNat (16*x+y)::t)
  | _,_,_=>none
theorem rV{c:UInt8}{i:Nat}(h:po c=some i):i<16/\c=pq.getD i 0:=by
 have all:∀k:Fin 256,∀i:Fin 16,po (UInt8.ofNat k.1)=some i.1->UInt8.ofNat k.1=pq.getD i.1 0:=by decide +kernel
 have low:i<16:=by
  unfold po at h;split at h
  ·cases h;omega
  ·split at h
   ·cases h;omega
   ·cases h
 have:=all ⟨c.toNat,c.toNat_lt⟩ ⟨i,low⟩;simp only[UInt8.ofNat_toNat]at this;exact⟨low,this h⟩
theorem Ha{i:Nat}(h:i<16):po (pq.getD i 0)=some i:=by
 have all:∀i:Fin 16,po (pq.getD i.1 0)=some i.1:=by decide +kernel
 exact all ⟨i,h⟩
theorem G9(c:UInt8):UInt8.ofNat (16*(c.toNat / 16)+c.toNat % 16)=c:=by
 rw[Nat.div_add_mod];simp
theorem qC:∀x:List UInt8,iE (mJ x)=some x
 | []=>rfl
 | c::x=>by
  have hc:=c.toNat_lt;rw[kr];show iE (pq.getD (c.toNat / 16) 0::pq.getD (c.toNat % 16) 0::mJ x)=_;unfold iE;rw[Ha (by omega),Ha (by omega),qC x];simp only;rw[G9]
theorem qX:∀(s x:List UInt8),iE s=some x->s=mJ x
 | [],x,h=>by
  cases h;rfl
 | [_],x,h=>by cases h
 | a::b::r,x,h=>by
  unfold iE at h;cases ha:po a with
  | none=>rw[ha]at h;cases h
  | some i=>
   cases hb:po b with
   | none=>rw[ha,hb]at h;cases h
   | some j=>
    cases hr:iE r with
    | none=>rw[ha,hb,hr]at h;cases h
    | some t=>
     rw[ha,hb,hr]at h;cases h;obtain⟨i1,i2⟩:=rV ha;obtain⟨j1,j2⟩:=rV hb;have e:(UInt8.ofNat (16*i+j)).toNat=16*i+j:=by
      rw[UInt8.toNat_ofNat'];omega
     rw[kr];unfold E0;rw[e,show(16*i+j) / 16=i by omega,show(16*i+j) % 16=j by omega,<-i2,<-j2,qX r t hr];rfl
section
variable {n:Nat}
theorem yk(s:List UInt8)(hs:s.length<=100000):u6.F n (bs s) (bs [39,39]) (bs [39])=some (bs (lB s)):=by
 unfold u6.F;have hc:Lib.countB (bs s) (bs [39,39])<=s.length:=Lib.countB_le (bs [39,39]) (by decide) s.length (bs s) (by rw[cU];omega);have hg:((decide ((bs s).size<4294967281)&&decide (1<=(bs [39,39]).size))&&decide ((bs s).size+Lib.countB (bs s) (bs [39,39])*(bs [39]).size<=140737488355328))=true:=by
  rw[ae,ae,az,az,az,cU,cU,cU];simp only[aw,aF];omega
 rw[hg,ak];have:Lib.replaceAll (bs s).data.toList (bs [39,39]).data.toList (bs [39]).data.toList=lB s:=by
  show Lib.replaceAll s qq [39]=lB s;unfold Lib.replaceAll Lib.replace Lib.replaceNum;rw[if_neg (by decide),if_pos (by left;decide),Lz s.length s _ (aJ _) (aJ _)]
 rw[this]
theorem Su(c:UInt8):Lib.indexByte pq c=match po c with | some i=>(i:Int) | none=>-1:=by
 have all:∀k:Fin 256,Lib.indexByte pq (UInt8.ofNat k.1)=match po (UInt8.ofNat k.1)with | some i=>(i:Int) | none=>-1:=by decide +kernel
 have:=all ⟨c.toNat,c.toNat_lt⟩;simpa using this
theorem zg(c:UInt8):Aq.F n (⟨#[48,49,50,51,52,53,54,55,56,57,65,66,67,68,69,70]⟩:ByteArray) ((c.toNat:Nat):Int)=some (match po c with | some i=>(i:Int) | none=>-1):=by
 unfold Aq.F;rw[ak,ai];have:c.toNat.toUInt8=c:=by simp
 rw[this];congr 1;exact Su c
theorem Gl{i j:Nat}(hi:i<16)(hj:j<16):IntKind.u8.wrap (IntKind.i64.wrap (BitVec.ofInt 64 (IntKind.i64.wrap (((i:Nat):Int)*2 ^ min (4:Int).toNat 64)) ||| BitVec.ofInt 64 ((j:Nat):Int)).toNat)=((16*i+j:Nat):Int):=by
 have all:∀i j:Fin 16,IntKind.u8.wrap (IntKind.i64.wrap (BitVec.ofInt 64 (IntKind.i64.wrap (((i.1:Nat):Int)*2 ^ min (4:Int).toNat 64)) ||| BitVec.ofInt 64 ((j.1:Nat):Int)).toNat)=((16*i.1+j.1:Nat):Int):=by decide +kernel
 exact all ⟨i,hi⟩ ⟨j,hj⟩
theorem LR:(⟨#[]⟩:ByteArray)=bs []:=rfl
theorem EG:∀(N:Nat) (s:List UInt8) (acc:List UInt8) (m:Nat),s.length<=N->N<m->N<=100000->acc.length+N<=1000000->∃t b,mr.l n m (.z2 (bs s) (ub acc))=some (bs t,b)/\b=(iE s).isSome/\∀x,iE s=some x->t=acc++x:=by
 intro N;induction N with
 | zero=>
  intro s acc m hs hm _ _;have:s=[]:=aT.1 (by omega);subst this;obtain⟨m,rfl⟩:∃q,m=q+1:=⟨m - 1,by omega⟩;rw[mr.q9];unfold mr.r2;simp only[cU];rw[cT (by simp),lC,LR,dX];refine⟨acc,true,rfl,rfl,λx hx=>by cases hx;simp⟩
 | succ N ih=>
  intro s acc m hs hm hN Zr;obtain⟨m,rfl⟩:∃q,m=q+1:=⟨m - 1,by omega⟩;rw[mr.q9];unfold mr.r2;simp only[cU]
  match s with
  | []=>
   rw[cT (by simp),lC,LR,dX];exact⟨acc,true,rfl,rfl,λx hx=>by cases hx;simp⟩
  | [c]=>
   rw[cT (by simp),lC,LR,dX];exact⟨acc,false,rfl,rfl,λx hx=>by cases hx⟩
  | a::b::r=>
   have kD:eR=1000000000:=rfl;simp only[aw]at hs ⊢;rw[cS (by omega),cS (by omega),show(bs (a::b::r)).data.getD 0 0=a from rfl,show(bs (a::b::r)).data.getD 1 0=b from rfl,zg,ab,cS (by omega),zg,ab];unfold iE;cases ha:po a with
   | none=>
    simp only;rw[cS (by omega)];exact⟨[],false,rfl,rfl,λx hx=>by cases hx⟩
   | some i=>
    simp only;rw[cT (by omega)];cases hb:po b with
    | none=>
     simp only;rw[cS (by omega)];exact⟨[],false,rfl,rfl,λx hx=>by cases hx⟩
    | some j=>
     simp only;obtain⟨i1,_⟩:=rV ha;obtain⟨j1,_⟩:=rV hb;have eu:[vu (((16*i+j:Nat)):Int)]=ub [UInt8.ofNat (16*i+j)]:=by
      show[vu _]=[vu _];congr 3;rw[UInt8.toNat_ofNat'];omega
     rw[cT (by omega),Gl i1 j1,cS (by rw[gd,aF];omega),eu,wP];have hu:(decide ((0:Int)<=2)&&decide ((2:Int)<=((r.length+1+1:Nat):Int)))=true:=by rw[ae,az,az];omega
     rw[hu,ak,show(bs (a::b::r)).extract 2 (r.length+1+1)=bs r from jc (a::b::r) 2];obtain⟨t,b',e1,e2,e3⟩:=ih r (acc++[UInt8.ofNat (16*i+j)]) m (by omega) (by omega) (by omega) (by simp;omega);refine⟨t,b',e1,?_,λx hx=>?_⟩
     ·rw[e2];cases iE r<;>rfl
     ·cases hr:iE r with
      | none=>rw[hr]at hx;cases hx
      | some y=>
       rw[hr]at hx;cases hx;rw[e3 y hr];simp
theorem BU(hn:200000<=n)(s:List UInt8)(hs:s.length<=100000):∃t b,mr.F n (bs s)=some (bs t,b)/\b=(iE s).isSome/\∀x,iE s=some x->t=x:=by
 unfold mr.F mr.e;obtain⟨t,b,e1,e2,e3⟩:=EG (n:=n) s.length s [] n (aJ _) (by omega) hs (by simp;omega);exact⟨t,b,e1,e2,λx hx=>by rw[e3 x hx];rfl⟩
end
section
variable {n:Nat}
theorem xN{α:Type}{P:α->Prop}{a b:α}(e:a=b)(h:P b):P a:=by
 subst e;exact h
theorem AN:∀(s x:List UInt8),iE s=some x->2*x.length=s.length:=by
 intro s x h;have:=congrArg List.length (qX s x h);rw[lI]at this;omega
end
def nT(k s vn:Int)(vx:List UInt8):Prop:=if k=0 then vn=0 else vx=[]/\vn.natAbs<10 ^ 15/\0<=s/\s<=15
theorem Jg{v:Int}{k:Nat}(hv:v.natAbs<10 ^ 15)(hk:k<=15){c:UInt8}(h1:fh c=false)(h2:c≠46)(h3:c≠45):(nQ v k).contains c=false:=by
 have ha:=ya v.natAbs k;have ht:∀(i:Nat),c ∉ (eZ v.natAbs k).take i:=by
  intro i hm;have:=ay.1 ha c (aR hm);rw[h1]at this;cases this
 have hd:∀(i:Nat),c ∉ (eZ v.natAbs k).drop i:=by
  intro i hm;have:=ay.1 ha c (aW hm);rw[h1]at this;cases this
 rw[<-bm];intro hh;rw[bV,az]at hh;unfold nQ Au at hh;rw[aK]at hh;rcases hh with hh|hh
 ·split at hh
  ·rw[bh]at hh;exact h3 hh
  ·cases hh
 ·split at hh
  ·rw[aK,aK]at hh;rcases hh with(hh|hh)|hh
   ·exact ht _ hh
   ·rw[bh]at hh;exact h2 hh
   ·exact hd _ hh
  ·exact ht (eZ v.natAbs k).length (by simpa using hh)
def KO(t:List UInt8):Option (List UInt8):=if t.length<2 then none else if t.getD 0 0=39/\t.getD (t.length - 1) 0=39 then some ((t.drop 1).take (t.length - 1 - 1))else none
theorem rT(x:List UInt8):KO (39::(x++[39]))=some x:=by
 unfold KO;have hl:(39::(x++[39])).length=x.length+2:=by simp
 rw[hl,if_neg (by omega),if_pos]
 ·congr 1;have:x.length+2 - 1 - 1=x.length:=by omega
  rw[this];show(x++[39]).take x.length=x;rw[List.take_left]
 ·refine⟨rfl,?_⟩;have:x.length+2 - 1=x.length+1:=by omega
  rw[this];simp[ah]
theorem sw:∀(N:Nat) (s:List UInt8),s.length<=N->(lB s).length<=s.length
 | _,[],_=>aJ _
 | _,[c],_=>aJ _
 | 0,c::d::r,h=>by simp at h
 | N+1,c::d::r,h=>by
  rw[lA];split
  ·have:=sw N r (by simp at h;omega);simp;omega
  ·have:=sw N (d::r) (by simp at h ⊢;omega);simp at this ⊢;omega
section
variable {n:Nat}
theorem Qp(d:UInt8):((d.toNat:Nat):Int)=39↔d=39:=by
 constructor
 ·intro e;exact UInt8.toNat_inj.1 (by have:(39:UInt8).toNat=39:=rfl;omega)
 ·rintro rfl;rfl
theorem zI{l:List UInt8}{i:Nat}(hi:i<l.length):l.getD i 0=l[i]:=by simp[ah,hi]
theorem yg(hn:200000<=n){k l s:Int}(hk:k≠0)(t:List UInt8)(ht:t.length<=20000):∃vn vx ok,iC.F n k l s (bs t)=some (vn,bs vx,ok)/\(ok=true->nT k s vn vx/\vx.length<=t.length)/\∀sj nM,nT k s sj nM->t=kc k s sj nM->ok=true/\vn=sj/\vx=nM:=by
 unfold iC.F iC.e nT kc;rw[eT,if_neg hk];obtain⟨x,x1,x2⟩:=DG (n:=n) hn t (by omega);rw[x1,ab,eQ];cases hg:Bc t with
 | none=>
  rw[hg]at x2;rw[if_neg x2];refine⟨x.1,[],false,rfl,λh=>(by cases h),λsj nM hd he=>?_⟩;rw[if_neg hk]at hd he;obtain⟨rfl,h1,h2,h3⟩:=hd;rw[he,vE h1 (by omega)]at hg;cases hg
 | some p=>
  obtain⟨v,c⟩:=p;rw[hg]at x2;subst x2;obtain⟨hv,hc⟩:=Bb hg;rw[if_pos rfl];refine⟨v,[],((c:Int)==s),rfl,λh=>?_,λsj nM hd he=>?_⟩
  ·rw[beq_iff_eq]at h;rw[if_neg hk];exact⟨⟨rfl,hv,by omega,by omega⟩,by simp⟩
  ·rw[if_neg hk]at hd he;obtain⟨rfl,h1,h2,h3⟩:=hd;rw[he,vE h1 (by omega)]at hg;cases hg;exact⟨by rw[beq_iff_eq];omega,rfl,rfl⟩
theorem NZ{α:Type}(t:List UInt8)(ht:t.length<=20000)(Z:Option α)(K:ByteArray->Option α) :
  (let y4:Bool:=decide ((((bs t).size:Nat):Int)<2)
 bif y4 then Z else(bif decide ((0:Int)<((bs t).size:Nat))then(let y5:Int:=((((bs t).data.getD 0 0).toNat:Nat):Int)
 bif y5 != 39 then Z else(let y6:Int:=IntKind.i64.wrap ((((bs t).size:Nat):Int) - 1)
 bif decide ((0:Int)<=y6)&&decide (y6<(((bs t).size:Nat):Int))then(let y7:Int:=((((bs t).data.getD ((y6).toNat) 0).toNat:Nat):Int)
 bif y7 != 39 then Z else(let y8:Int:=IntKind.i64.wrap ((((bs t).size:Nat):Int) - 1)
 bif decide ((0:Int)<=y8)&&decide ((y8:Int)<=(((bs t).size:Nat):Int))then(bif decide ((0:Int)<=1)&&decide ((1:Int)<=y8)then K ((bs t).extract 1 (y8).toNat)else none)else none))else none))else none))=match KO t with | some u=>K (bs u) | none=>Z:=by
 simp only[cU];unfold KO;by_cases h2:t.length<2
 ·rw[cS (by omega),if_pos h2]
 ·rw[cT (by omega),cS (by omega),if_neg h2,getD_at (show 0<t.length by omega),eT];have e:IntKind.i64.wrap (((t.length:Nat):Int) - 1)=((t.length - 1:Nat):Int):=by rw[nU (by omega) (by omega)];omega
  simp only[e,ai];rw[zI (show 0<t.length by omega),zI (show t.length - 1<t.length by omega)];by_cases ha:t[0]=39
  ·rw[if_pos ((Qp _).2 ha),dD (by rw[ae,az,az];omega),getD_at (show t.length - 1<t.length by omega),eT];by_cases hb:t[t.length - 1]=39
   ·rw[if_pos ((Qp _).2 hb),dD (by rw[ae,az,az];omega),dD (by rw[ae,az,az];omega),if_pos ⟨ha,hb⟩];simp only;rw[mm]
   ·rw[if_neg (λh=>hb ((Qp _).1 h)),if_neg (λh=>hb h.2)]
  ·rw[if_neg (λh=>ha ((Qp _).1 h)),if_neg (λh=>ha h.1)]
theorem CP{t u:List UInt8}(h:KO t=some u):u.length<=t.length:=by
 unfold KO at h;split at h
 ·cases h
 ·split at h
  ·cases h;rw[bu,aM];omega
  ·cases h
theorem yf(hn:200000<=n){l s:Int}(t:List UInt8)(ht:t.length<=20000):∃vn vx ok,iC.F n 0 l s (bs t)=some (vn,bs vx,ok)/\(ok=true->nT 0 s vn vx/\vx.length<=t.length)/\∀sj nM,nT 0 s sj nM->t=kc 0 s sj nM->ok=true/\vn=sj/\vx=nM:=by
 obtain⟨m,rfl⟩:∃m,n=m+1:=⟨n - 1,by omega⟩;unfold iC.F iC.e nT kc;rw[eT,if_pos rfl,show(⟨#[88]⟩:ByteArray)=bs [88]from rfl,xt,ab,IS,ab];have hz:iC.l (m+1) (m+1) (.z7 0 (⟨#[]⟩:ByteArray))=some (0,(⟨#[]⟩:ByteArray),false):=rfl;rw[hz];have hl:(if t.take ([88]:List UInt8).length=[88]then t.drop ([88]:List UInt8).length else t).length<=t.length:=by
  split
  ·rw[aM];omega
  ·exact aJ _
 generalize hT:(if t.take ([88]:List UInt8).length=[88]then t.drop ([88]:List UInt8).length else t)=T at hl ⊢;refine xN (P:=λq=>∃vn vx ok,q=some (vn,bs vx,ok)/\(ok=true->(if(0:Int)=0 then vn=0 else vx=[]/\vn.natAbs<10 ^ 15/\0<=s/\s<=15)/\vx.length<=t.length)/\∀sj nM,(if(0:Int)=0 then sj=0 else nM=[]/\sj.natAbs<10 ^ 15/\0<=s/\s<=15)->t=(if(0:Int)=0 then(if nM.all vD=true then qd nM else[88,39]++mJ nM++[39])else nQ sj s.toNat)->ok=true/\vn=sj/\vx=nM) (NZ T (by omega) (some ((0:Int),(⟨#[]⟩:ByteArray),false)) (λb=>bif decide (t.take ([88]:List UInt8).length=[88])then((mr.F (m+1) b).bind λp9=>some ((0:Int),p9.1,p9.2))else((u6.F (m+1) b (⟨#[39,39]⟩:ByteArray) (⟨#[39]⟩:ByteArray)).bind λoG=>some (0,oG,true)))) ?_;by_cases hx:t.take ([88]:List UInt8).length=[88]
 ·rw[if_pos hx]at hT;subst hT;cases hq:KO (t.drop ([88]:List UInt8).length)with
  | none=>
   refine⟨0,[],false,rfl,λh=>(by cases h),λsj nM hd he=>?_⟩;rw[if_pos rfl]at he;split at he
   ·unfold qd at he;rw[he]at hx;revert hx;simp
   ·rw[he]at hq;have:([88,39]++mJ nM++[39]).drop ([88]:List UInt8).length=39::(mJ nM++[39]):=by simp
    rw[this,rT]at hq;cases hq
  | some u=>
   have hu:=CP hq;simp only;rw[cS hx];obtain⟨x,b,e1,e2,e3⟩:=BU (n:=m+1) (by omega) u (by omega);rw[e1,ab];refine⟨0,x,b,rfl,λh=>?_,λsj nM hd he=>?_⟩
   ·rw[e2,Option.isSome_iff_exists]at h;obtain⟨y,hy⟩:=h;obtain rfl:=e3 y hy;have:=AN _ _ hy;exact⟨by simp,by omega⟩
   ·rw[if_pos (show(True:Prop)from trivial)]at he hd;split at he
    ·unfold qd at he;rw[he]at hx;revert hx;simp
    ·rw[he]at hq;have:([88,39]++mJ nM++[39]).drop ([88]:List UInt8).length=39::(mJ nM++[39]):=by simp
     rw[this,rT]at hq;cases hq;rw[qC]at e2 e3;exact⟨e2,hd.symm,e3 _ rfl⟩
 ·rw[if_neg hx]at hT;subst hT;cases hq:KO t with
  | none=>
   refine⟨0,[],false,rfl,λh=>(by cases h),λsj nM hd he=>?_⟩;rw[if_pos rfl]at he;split at he
   ·rw[he]at hq;have:qd nM=39::(xH nM++[39]):=by unfold qd;simp
    rw[this,rT]at hq;cases hq
   ·exact absurd (by rw[he];rfl) hx
  | some u=>
   have hu:=CP hq;simp only;rw[cT hx,show(⟨#[39,39]⟩:ByteArray)=bs [39,39]from rfl,fb,yk u (by omega),ab];refine⟨0,lB u,true,rfl,λh=>?_,λsj nM hd he=>?_⟩
   ·have:=sw u.length u (aJ _);exact⟨by simp,by omega⟩
   ·rw[if_pos (show(True:Prop)from trivial)]at he hd;split at he
    ·rw[he]at hq;have:qd nM=39::(xH nM++[39]):=by unfold qd;simp
     rw[this,rT]at hq;cases hq;exact⟨rfl,hd.symm,sx nM⟩
    ·exact absurd (by rw[he];rfl) hx
theorem sn(hn:200000<=n)(k l s:Int)(t:List UInt8)(ht:t.length<=20000):∃vn vx ok,iC.F n k l s (bs t)=some (vn,bs vx,ok)/\(ok=true->nT k s vn vx/\vx.length<=t.length)/\∀sj nM,nT k s sj nM->t=kc k s sj nM->ok=true/\vn=sj/\vx=nM:=by
 by_cases hk:k=0
 ·subst hk;exact yf hn t ht
 ·exact yg hn hk t ht
end
end Go.Proofs.YtnoldakbllfmnaaGreatDoor.Ev
end