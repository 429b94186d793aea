import Derived.Test.YtnoldakbllfmnaaGreatDoorDYb
import Derived.Test.YtnoldakbllfmnaaGreatDoorDYa
import Derived.Test.YtnoldakbllfmnaaGreatDoorDYVc
import Derived.Shelf.Spec.SlicesGrow
import Derived.Shelf.SlLaysE0
import Derived.Shelf.SlGeneric
import Derived.Ground.Names8Prog
import Derived.Ground.SlgnProg
import Derived.Test.YtnoldakbllfmnaaGreatDoorProg
import Derived.PlainAid
import Derived.IntWalk
import Derived.Laws.Strings
import Derived.Lib.AtoiTie
import Derived.Lib.IndexBytes
import Derived.Lib.Replace
set_option linter.all false
set_option maxRecDepth 100000
noncomputable section
namespace Go.Proofs.YtnoldakbllfmnaaGreatDoor.Ev
open Go Go.Proofs Go.Proofs.Ev
inductive dN.Z where
 | z6 (z1:ByteArray) (z2 z3:Int) (z4:List AV)
 | z8 (z1:ByteArray) (z2 z3 z4:Int) (z5:List AV)
 | dp (z1:Int)
 | dG (z1:Int)
 | z21 (z1:Int) (z2 z3 z4 z5 z6 z7 z8:List AV)
 | z22 (z1:Int) (z2 z3 z4 z5 z6 z7 z8:List AV)
 | z24 (z1:Int) (z2 z3 z4 z5 z6 z7 z8:List AV) (z9 dk:Int) (dp:ByteArray) (z12 dC dG dE dM:Int) (dS dJ:ByteArray) (dO z20 z21:Int) (z22:List AV) (z23 z24 z25 z26:Int)
 | z25 (z1:Int) (z2 z3 z4 z5 z6 z7 z8:List AV) (z9 dk:Int) (dp:ByteArray) (z12 dC dG dE dM:Int) (dS dJ:ByteArray) (dO z20 z21:Int) (z22:List AV) (z23 z24 z25 z26:Int)
 | z31 (z1 z2 z3 z4:List AV) (z5:Int) (z6 z7 z8 z9:List AV)
 | H_ (z1 z2 z3 z4:List AV) (z5 z6:Int) (z7 z8 z9 dk:List AV) (dp z12:Int) (dC:ByteArray) (dG dE dM dS dJ:Int) (dO z20:ByteArray) (z21 z22 z23:Int) (z24:List AV) (z25 z26 fD z28 iD:Int) (jx:List AV)
def dN.C{R:Type}(n:Nat)(f:FuncId)(xs:List AV):(AV->Option R)->Option R:=
 bif Nat.beq f 16 then gL.via n xs else bif Nat.beq f 26 then iO.via n xs else bif Nat.beq f 64 then jA.via n xs else bif Nat.beq f 65 then uf.via n xs else λ_=>none
theorem dN.c8{R:Type}(n:Nat):dt (R:=R) Tryz.prog (dN.C n):=λ_ xs=>cR (gL.cO n xs) (cR (iO.cO n xs) (cR (jA.cO n xs) (cR (uf.cO n xs) (cT.none))))
def dN.cut(r:Nat):Option dP:=match r with | 6=>some ⟨[0,2,5,6,7],[(5,none,⟨false,115,false⟩,18)]⟩ | 8=>some ⟨[0,2,5,6,7,8],[]⟩ | 11=>some ⟨[2,7],[]⟩ | 14=>some ⟨[2,7],[]⟩ | 21=>some ⟨[2,5,11,12,13],[(11,some 2,⟨true,82,false⟩,4),(12,some 3,⟨true,3,false⟩,1),(12,some 2,⟨true,3,false⟩,1),(11,some 0,⟨true,74,false⟩,10),(12,some 1,⟨true,3,false⟩,1),(12,some 0,⟨true,3,false⟩,1)]⟩ | 22=>some ⟨[2,5,11,12,13],[]⟩ | 24=>some ⟨[2,5,11,12,13,14],[(14,some 2000000,⟨true,0,false⟩,4)]⟩ | 25=>some ⟨[2,5,11,12,13,14],[]⟩ | 31=>some ⟨[2,5,11,12,15],[(12,some 1000000,⟨true,0,false⟩,0),(11,some 1,⟨false,86,false⟩,2)]⟩ | 39=>some ⟨[2,5,11,12,15,16,17,18],[(17,some 1,⟨true,3,false⟩,1)]⟩ | _=>none
noncomputable def dN.t (z:dN.Z):List Item:=(dL (match z with | .z6 _ _ _ _=>6 | .z8 _ _ _ _ _=>8 | .dp _=>11 | .dG _=>14 | .z21 _ _ _ _ _ _ _ _=>21 | .z22 _ _ _ _ _ _ _ _=>22 | .z24 _ _ _ _ _ _ _ _ _ _ _ _ _ _ _ _ _ _ _ _ _ _ _ _ _ _=>24 | .z25 _ _ _ _ _ _ _ _ _ _ _ _ _ _ _ _ _ _ _ _ _ _ _ _ _ _=>25 | .z31 _ _ _ _ _ _ _ _ _=>31 | .H_ _ _ _ _ _ _ _ _ _ _ _ _ _ _ _ _ _ _ _ _ _ _ _ _ _ _ _ _ _ _=>39) 1000 [.code (Tryz.f21.body.getD .skip)]).getD []
def dN.s:dN.Z->St
 | .z6 z1 z2 z3 z4=>⟨fx 212 0 [(0,vs z1),(2,.ptr 0 0),(5,.own 1 0 none),(6,vi z2),(7,vi z3)],Mem.ofList [.box 26 [.v (.slice none 0 0),.v (.slice none 0 0),.v (.slice none 0 0)],.row ⟨false,115,false⟩ 18 z4],2⟩
 | .z8 z1 z2 z3 z4 z5=>⟨fx 212 0 [(0,vs z1),(2,.ptr 0 0),(5,.own 1 0 none),(6,vi z2),(7,vi z3),(8,vi z4)],Mem.ofList [.box 26 [.v (.slice none 0 0),.v (.slice none 0 0),.v (.slice none 0 0)],.row ⟨false,115,false⟩ 18 z5],2⟩
 | .dp z1=>⟨fx 212 0 [(2,.ptr 0 0),(7,vi z1)],Mem.ofList [.box 26 [.v (.slice none 0 0),.v (.slice none 0 0),.v (.slice none 0 0)]],1⟩
 | .dG z1=>⟨fx 212 0 [(2,.ptr 0 0),(7,vi z1)],Mem.ofList [.box 26 [.v (.slice none 0 0),.v (.slice none 0 0),.v (.slice none 0 0)]],1⟩
 | .z21 z1 z2 z3 z4 z5 z6 z7 z8=>⟨fx 212 0 [(2,.ptr 0 0),(5,.own 1 0 none),(11,.ptr 2 0),(12,.ptr 5 0),(13,vi z1)],Mem.ofList [.box 26 [.v (.slice none 0 0),.v (.slice none 0 0),.v (.slice none 0 0)],.row ⟨false,115,false⟩ 18 z2,.box 26 [.own 3 0 none,.v (.slice none 0 0),.own 4 0 none],.row ⟨true,74,false⟩ 10 z3,.row ⟨true,82,false⟩ 4 z4,.box 118 [.own 6 0 none,.own 7 0 none,.own 8 0 none,.own 9 0 none],.row ⟨true,3,false⟩ 1 z5,.row ⟨true,3,false⟩ 1 z6,.row ⟨true,3,false⟩ 1 z7,.row ⟨true,3,false⟩ 1 z8],10⟩
 | .z22 z1 z2 z3 z4 z5 z6 z7 z8=>⟨fx 212 0 [(2,.ptr 0 0),(5,.own 1 0 none),(11,.ptr 2 0),(12,.ptr 5 0),(13,vi z1)],Mem.ofList [.box 26 [.v (.slice none 0 0),.v (.slice none 0 0),.v (.slice none 0 0)],.row ⟨false,115,false⟩ 18 z2,.box 26 [.own 3 0 none,.v (.slice none 0 0),.own 4 0 none],.row ⟨true,74,false⟩ 10 z3,.row ⟨true,82,false⟩ 4 z4,.box 118 [.own 6 0 none,.own 7 0 none,.own 8 0 none,.own 9 0 none],.row ⟨true,3,false⟩ 1 z5,.row ⟨true,3,false⟩ 1 z6,.row ⟨true,3,false⟩ 1 z7,.row ⟨true,3,false⟩ 1 z8],10⟩
 | .z24 z1 z2 z3 z4 z5 z6 z7 z8 z9 dk dp z12 dC dG dE dM dS dJ dO z20 z21 z22 z23 z24 z25 z26=>⟨fx 212 0 [(2,.ptr 0 0),(5,.own 1 0 none),(11,.ptr 2 0),(12,.ptr 5 0),(13,vi z1),(14,.ptr 10 0)],Mem.ofList [.box 26 [.v (.slice none 0 0),.v (.slice none 0 0),.v (.slice none 0 0)],.row ⟨false,115,false⟩ 18 z2,.box 26 [.own 3 0 none,.v (.slice none 0 0),.own 4 0 none],.row ⟨true,74,false⟩ 10 z3,.row ⟨true,82,false⟩ 4 z4,.box 118 [.own 6 0 none,.own 7 0 none,.own 8 0 none,.own 9 0 none],.row ⟨true,3,false⟩ 1 z5,.row ⟨true,3,false⟩ 1 z6,.row ⟨true,3,false⟩ 1 z7,.row ⟨true,3,false⟩ 1 z8,.box 115 [vi z9,vi dk,vs dp,vi z12,vi dC,vi dG,vi dE,vi dM,vs dS,vs dJ,vi dO,vi z20,vi z21,.sl ⟨true,9,false⟩ 1 z22,vi z23,vi z24,vi z25,vi z26]],11⟩
 | .z25 z1 z2 z3 z4 z5 z6 z7 z8 z9 dk dp z12 dC dG dE dM dS dJ dO z20 z21 z22 z23 z24 z25 z26=>⟨fx 212 0 [(2,.ptr 0 0),(5,.own 1 0 none),(11,.ptr 2 0),(12,.ptr 5 0),(13,vi z1),(14,.ptr 10 0)],Mem.ofList [.box 26 [.v (.slice none 0 0),.v (.slice none 0 0),.v (.slice none 0 0)],.row ⟨false,115,false⟩ 18 z2,.box 26 [.own 3 0 none,.v (.slice none 0 0),.own 4 0 none],.row ⟨true,74,false⟩ 10 z3,.row ⟨true,82,false⟩ 4 z4,.box 118 [.own 6 0 none,.own 7 0 none,.own 8 0 none,.own 9 0 none],.row ⟨true,3,false⟩ 1 z5,.row ⟨true,3,false⟩ 1 z6,.row ⟨true,3,false⟩ 1 z7,.row ⟨true,3,false⟩ 1 z8,.box 115 [vi z9,vi dk,vs dp,vi z12,vi dC,vi dG,vi dE,vi dM,vs dS,vs dJ,vi dO,vi z20,vi z21,.sl ⟨true,9,false⟩ 1 z22,vi z23,vi z24,vi z25,vi z26]],11⟩
 | .z31 z1 z2 z3 z4 z5 z6 z7 z8 z9=>⟨fx 212 0 [(2,.ptr 0 0),(5,.own 1 0 none),(11,.ptr 2 0),(12,.rd [.sl ⟨true,3,false⟩ 1 z1,.sl ⟨true,3,false⟩ 1 z2,.sl ⟨true,3,false⟩ 1 z3,.sl ⟨true,3,false⟩ 1 z4]),(15,vi z5)],Mem.ofList [.box 26 [.v (.slice none 0 0),.v (.slice none 0 0),.v (.slice none 0 0)],.row ⟨false,115,false⟩ 18 z6,.box 26 [.own 3 0 none,.own 4 0 none,.own 5 0 none],.row ⟨true,74,false⟩ 10 z7,.row ⟨false,86,false⟩ 2 z8,.row ⟨true,82,false⟩ 4 z9],6⟩
 | .H_ z1 z2 z3 z4 z5 z6 z7 z8 z9 dk dp z12 dC dG dE dM dS dJ dO z20 z21 z22 z23 z24 z25 z26 fD z28 iD jx=>⟨fx 212 0 [(2,.ptr 0 0),(5,.own 1 0 none),(11,.ptr 2 0),(12,.rd [.sl ⟨true,3,false⟩ 1 z1,.sl ⟨true,3,false⟩ 1 z2,.sl ⟨true,3,false⟩ 1 z3,.sl ⟨true,3,false⟩ 1 z4]),(15,vi z5),(16,.ptr 6 0),(17,.ptr 7 0),(18,vi z6)],Mem.ofList [.box 26 [.v (.slice none 0 0),.v (.slice none 0 0),.v (.slice none 0 0)],.row ⟨false,115,false⟩ 18 z7,.box 26 [.own 3 0 none,.own 4 0 none,.own 5 0 none],.row ⟨true,74,false⟩ 10 z8,.row ⟨false,86,false⟩ 2 z9,.row ⟨true,82,false⟩ 4 dk,.box 115 [vi dp,vi z12,vs dC,vi dG,vi dE,vi dM,vi dS,vi dJ,vs dO,vs z20,vi z21,vi z22,vi z23,.sl ⟨true,9,false⟩ 1 z24,vi z25,vi z26,vi fD,vi z28],.box 86 [vi iD,.own 8 0 none],.row ⟨true,3,false⟩ 1 jx],9⟩
def dN.r6(n:Nat)(c:dN.Z->Option (List AV × List AV × List AV × Int × Int))(z1:ByteArray)(z2 z3:Int)(z4:List AV):Option (List AV × List AV × List AV × Int × Int):=
 let y2:Bool:=decide (z3<((z1.size:Nat):Int))
 bif y2 then(c (.z8 z1 z2 z3 z3 z4))else(c (.z21 0 z4 [] [] [] [] [] []))
def dN.r8(n:Nat)(c:dN.Z->Option (List AV × List AV × List AV × Int × Int))(z1:ByteArray)(z2 z3 z4:Int)(z5:List AV):Option (List AV × List AV × List AV × Int × Int):=
 let y3:Bool:=decide (z4<((z1.size:Nat):Int))
 bif y3 then(bif decide ((0:Int)<=z4)&&decide (z4<((z1.size:Nat):Int))then(let y4:Int:=(((z1.data.getD ((z4).toNat) 0).toNat:Nat):Int)
 bif y4 != 10 then(c (.z8 z1 z2 z3 (IntKind.i64.wrap (z4+1)) z5))else(let y5:Bool:=z4==((z1.size:Nat):Int)
 bif y5 then(c (.dp z3))else(bif z4==z3 then(c (.dp z3))else(bif decide ((0:Int)<=IntKind.i64.wrap (z4 - 1))&&decide (IntKind.i64.wrap (z4 - 1)<((z1.size:Nat):Int))then(let y6:Int:=(((z1.data.getD ((IntKind.i64.wrap (z4 - 1)).toNat) 0).toNat:Nat):Int)
 bif y6 != 59 then(c (.dp z3))else(bif decide ((0:Int)<=IntKind.i64.wrap (z4 - 1))&&decide ((IntKind.i64.wrap (z4 - 1):Int)<=((z1.size:Nat):Int))then(bif decide ((0:Int)<=z3)&&decide ((z3:Int)<=IntKind.i64.wrap (z4 - 1))then(let y7:ByteArray:=z1.extract (z3).toNat (IntKind.i64.wrap (z4 - 1)).toNat
 (jA.F n y7).bind λp8=>
 bif !p8.2.2.2.2.2.2.2.2.2.2.2.2.2.2.2.2.2.2 then(c (.dG z3))else(bif decide (p8.1<z2)then(c (.dG z3))else(let y9:List AV:=[AV.agg [vi p8.1,vi z3,vs p8.2.2.1,vi p8.2.2.2.1,vi p8.2.2.2.2.1,vi p8.2.2.2.2.2.1,vi p8.2.2.2.2.2.2.1,vi p8.2.2.2.2.2.2.2.1,vs p8.2.2.2.2.2.2.2.2.1,vs p8.2.2.2.2.2.2.2.2.2.1,vi p8.2.2.2.2.2.2.2.2.2.2.1,vi p8.2.2.2.2.2.2.2.2.2.2.2.1,vi p8.2.2.2.2.2.2.2.2.2.2.2.2.1,.sl ⟨true,9,false⟩ 1 p8.2.2.2.2.2.2.2.2.2.2.2.2.2.1,vi p8.2.2.2.2.2.2.2.2.2.2.2.2.2.2.1,vi p8.2.2.2.2.2.2.2.2.2.2.2.2.2.2.2.1,vi p8.2.2.2.2.2.2.2.2.2.2.2.2.2.2.2.2.1,vi p8.2.2.2.2.2.2.2.2.2.2.2.2.2.2.2.2.2.1]]
 bif decide (z5.length+y9.length<=fe)then(c (.z6 z1 p8.1 (IntKind.i64.wrap (z4+1)) (z5++y9)))else none)))else none)else none))else none))))else none)else(let nh:Bool:=z4==((z1.size:Nat):Int)
 bif nh then(c (.dp z3))else(bif z4==z3 then(c (.dp z3))else(bif decide ((0:Int)<=IntKind.i64.wrap (z4 - 1))&&decide (IntKind.i64.wrap (z4 - 1)<((z1.size:Nat):Int))then(let pw:Int:=(((z1.data.getD ((IntKind.i64.wrap (z4 - 1)).toNat) 0).toNat:Nat):Int)
 bif pw != 59 then(c (.dp z3))else(bif decide ((0:Int)<=IntKind.i64.wrap (z4 - 1))&&decide ((IntKind.i64.wrap (z4 - 1):Int)<=((z1.size:Nat):Int))then(bif decide ((0:Int)<=z3)&&decide ((z3:Int)<=IntKind.i64.wrap (z4 - 1))then(let zC:ByteArray:=z1.extract (z3).toNat (IntKind.i64.wrap (z4 - 1)).toNat
 (jA.F n zC).bind λkR=>
 bif !kR.2.2.2.2.2.2.2.2.2.2.2.2.2.2.2.2.2.2 then(c (.dG z3))else(bif decide (kR.1<z2)then(c (.dG z3))else(let xS:List AV:=[AV.agg [vi kR.1,vi z3,vs kR.2.2.1,vi kR.2.2.2.1,vi kR.2.2.2.2.1,vi kR.2.2.2.2.2.1,vi kR.2.2.2.2.2.2.1,vi kR.2.2.2.2.2.2.2.1,vs kR.2.2.2.2.2.2.2.2.1,vs kR.2.2.2.2.2.2.2.2.2.1,vi kR.2.2.2.2.2.2.2.2.2.2.1,vi kR.2.2.2.2.2.2.2.2.2.2.2.1,vi kR.2.2.2.2.2.2.2.2.2.2.2.2.1,.sl ⟨true,9,false⟩ 1 kR.2.2.2.2.2.2.2.2.2.2.2.2.2.1,vi kR.2.2.2.2.2.2.2.2.2.2.2.2.2.2.1,vi kR.2.2.2.2.2.2.2.2.2.2.2.2.2.2.2.1,vi kR.2.2.2.2.2.2.2.2.2.2.2.2.2.2.2.2.1,vi kR.2.2.2.2.2.2.2.2.2.2.2.2.2.2.2.2.2.1]]
 bif decide (z5.length+xS.length<=fe)then(c (.z6 z1 kR.1 (IntKind.i64.wrap (z4+1)) (z5++xS)))else none)))else none)else none))else none)))
def dN.vN(n:Nat)(c:dN.Z->Option (List AV × List AV × List AV × Int × Int))(z1:Int):Option (List AV × List AV × List AV × Int × Int):=
 some ([],[],[],z1,8)
def dN.xk(n:Nat)(c:dN.Z->Option (List AV × List AV × List AV × Int × Int))(z1:Int):Option (List AV × List AV × List AV × Int × Int):=
 some ([],[],[],z1,8)
def dN.qw(n:Nat)(c:dN.Z->Option (List AV × List AV × List AV × Int × Int))(z1:Int)(z2 z3 z4 z5 z6 z7 z8:List AV):Option (List AV × List AV × List AV × Int × Int):=
 let K5:Bool:=decide (z1<((z2.length:Nat):Int))
 bif K5 then(bif decide ((0:Int)<=z1)&&decide (z1<((z2.length:Nat):Int))then(cN ((z2.getD ((z1).toNat) .undef).cells) λCx I0=>
 cQ .i64 Cx λoo=>
 cN I0 λEk DF=>
 cQ .i64 Ek λOg=>
 cN DF λGV yk=>
 df GV λsC=>
 cN yk λAE A3=>
 cQ .i64 AE λrf=>
 cN A3 λxm HM=>
 cQ .i64 xm λpU=>
 cN HM λPG LK=>
 cQ .i64 PG λUQ=>
 cN LK λSL Rr=>
 cQ .i64 SL λUP=>
 cN Rr λSJ Rq=>
 cQ .i64 SJ λOf=>
 cN Rq λGU Qj=>
 df GU λX5=>
 cN Qj λPE Qi=>
 df PE λZ2=>
 cN Qi λoD OK=>
 cQ .i64 oD λP_=>
 cN OK λPC OI=>
 cQ .i64 PC λP9=>
 cN OI λPA Qh=>
 cQ .i64 PA λP8=>
 cN Qh λPy Qg=>
 gU ⟨true,9,false⟩ 1 Py λUA=>
 cN Qg λSG Rp=>
 cQ .i64 SG λTD=>
 cN Rp λSF Ro=>
 cQ .i64 SF λZD=>
 cN Ro λSC Rm=>
 cQ .i64 SC λQZ=>
 cN Rm λPw TP=>
 cQ .i64 Pw λP7=>
 c (.z24 z1 z2 z3 z4 z5 z6 z7 z8 oo Og sC rf pU UQ UP Of X5 Z2 P_ P9 P8 UA TD ZD QZ P7))else none)else(c (.z31 z5 z6 z7 z8 0 z2 z3 [] z4))
def dN.LL(n:Nat)(c:dN.Z->Option (List AV × List AV × List AV × Int × Int))(z1:Int)(z2 z3 z4 z5 z6 z7 z8:List AV):Option (List AV × List AV × List AV × Int × Int):=
 c (.z21 (IntKind.i64.wrap (z1+1)) z2 z3 z4 z5 z6 z7 z8)
def dN.qW(n:Nat)(c:dN.Z->Option (List AV × List AV × List AV × Int × Int))(z1:Int)(z2 z3 z4 z5 z6 z7 z8:List AV)(z9 dk:Int)(dp:ByteArray)(z12 dC dG dE dM:Int)(dS dJ:ByteArray)(dO z20 z21:Int)(z22:List AV)(z23 z24 z25 z26:Int):Option (List AV × List AV × List AV × Int × Int):=
 bif decide (z9=((3:Nat):Int))then(bif decide (z8.length+[vi dk].length<=fe)then(c (.z25 z1 z2 z3 z4 z5 z6 z7 (z8++[vi dk]) 3 dk dp z12 dC dG dE dM dS dJ dO z20 z21 z22 z23 z24 z25 z26))else none)else(bif decide (z9=((2:Nat):Int))then(bif decide (z7.length+[vi dk].length<=fe)then(c (.z25 z1 z2 z3 z4 z5 z6 (z7++[vi dk]) z8 2 dk dp z12 dC dG dE dM dS dJ dO z20 z21 z22 z23 z24 z25 z26))else none)else(bif decide (z9=((1:Nat):Int))then(bif decide (z6.length+[vi dk].length<=fe)then(c (.z25 z1 z2 z3 z4 z5 (z6++[vi dk]) z7 z8 1 dk dp z12 dC dG dE dM dS dJ dO z20 z21 z22 z23 z24 z25 z26))else none)else(bif decide (z9=((0:Nat):Int))then(bif decide (z5.length+[vi dk].length<=fe)then(c (.z25 z1 z2 z3 z4 (z5++[vi dk]) z6 z7 z8 0 dk dp z12 dC dG dE dM dS dJ dO z20 z21 z22 z23 z24 z25 z26))else none)else(none))))
def dN.IZ(n:Nat)(c:dN.Z->Option (List AV × List AV × List AV × Int × Int))(z1:Int)(z2 z3 z4 z5 z6 z7 z8:List AV)(z9 dk:Int)(dp:ByteArray)(z12 dC dG dE dM:Int)(dS dJ:ByteArray)(dO z20 z21:Int)(z22:List AV)(z23 z24 z25 z26:Int):Option (List AV × List AV × List AV × Int × Int):=
 bif z9==1 then(let QS:List AV:=[AV.agg [vs dp,vi z12,vi dC,vi dG,vi dE,vi dM,vs dS,vs dJ,vi dO,vi z20]]
 bif decide (z3.length+QS.length<=fe)then(c (.z22 z1 z2 (z3++QS) z4 z5 z6 z7 z8))else none)else(bif z9==3 then(let QR:List AV:=[AV.agg [vi z23,vi z24,vi z25,vi z26]]
 bif decide (z4.length+QR.length<=fe)then(c (.z22 z1 z2 z3 (z4++QR) z5 z6 z7 z8))else none)else(c (.z22 z1 z2 z3 z4 z5 z6 z7 z8)))
def dN.TS(n:Nat)(c:dN.Z->Option (List AV × List AV × List AV × Int × Int))(z1 z2 z3 z4:List AV)(z5:Int)(z6 z7 z8 z9:List AV):Option (List AV × List AV × List AV × Int × Int):=
 let Za:Bool:=decide (z5<((z6.length:Nat):Int))
 bif Za then(bif decide ((0:Int)<=z5)&&decide (z5<((z6.length:Nat):Int))then(cN ((z6.getD ((z5).toNat) .undef).cells) λPv TO=>
 cQ .i64 Pv λEN=>
 cN TO λh74 r75=>
 cQ .i64 h74 λXU=>
 cN r75 λh77 r78=>
 df h77 λZT=>
 cN r78 λh80 r81=>
 cQ .i64 h80 λZz=>
 cN r81 λh83 r84=>
 cQ .i64 h83 λZy=>
 cN r84 λh86 r87=>
 cQ .i64 h86 λZw=>
 cN r87 λh89 r90=>
 cQ .i64 h89 λZu=>
 cN r90 λh92 r93=>
 cQ .i64 h92 λZt=>
 cN r93 λh95 r96=>
 df h95 λZO=>
 cN r96 λh98 Z8=>
 df h98 λVi=>
 cN Z8 λXu Vw=>
 cQ .i64 Xu λU3=>
 cN Vw λXr Vu=>
 cQ .i64 Xr λUZ=>
 cN Vu λXp Vt=>
 cQ .i64 Xp λOh=>
 cN Vt λXn Vs=>
 gU ⟨true,9,false⟩ 1 Xn λM7=>
 cN Vs λXm Vr=>
 cQ .i64 Xm λUX=>
 cN Vr λPI Rs=>
 cQ .i64 PI λUW=>
 cN Rs λXl Vq=>
 cQ .i64 Xl λUU=>
 cN Vq λXj aae=>
 cQ .i64 Xj λUT=>
 bif EN != 2 then(c (.z31 z1 z2 z3 z4 (IntKind.i64.wrap (z5+1)) z6 z7 z8 z9))else((uf.F n Oh).bind λVL=>
 let Uv:Bool:=((M7.length:Nat):Int) != VL
 bif Uv then(some ([],[],[],XU,37))else(c (.H_ z1 z2 z3 z4 z5 0 z6 z7 z8 z9 EN XU ZT Zz Zy Zw Zu Zt ZO Vi U3 UZ Oh M7 UX UW UU UT Oh []))))else none)else((gL.F n z7 z8 z9).bind λxv=>
 bif xv.2.2 != 0 then(bif xv.1==0 then(some ([],[],[],0,xv.2.2))else(bif decide ((0:Int)<=xv.1)&&decide (xv.1<((4:Nat):Int))then(cN (kO ((xv.1).toNat*1) [.sl ⟨true,3,false⟩ 1 z1,.sl ⟨true,3,false⟩ 1 z2,.sl ⟨true,3,false⟩ 1 z3,.sl ⟨true,3,false⟩ 1 z4]) λXh aac=>
 gU ⟨true,3,false⟩ 1 Xh λM5=>
 bif decide ((0:Int)<=xv.2.1)&&decide (xv.2.1<((M5.length:Nat):Int))then(cN ((M5.getD ((xv.2.1).toNat) .undef).cells) λXg aab=>
 cQ .i64 Xg λUR=>
 some ([],[],[],UR,xv.2.2))else none)else none))else(some (z7,z8,z9,0,0)))
def dN.LJ(n:Nat)(c:dN.Z->Option (List AV × List AV × List AV × Int × Int))(z1 z2 z3 z4:List AV)(z5 z6:Int)(z7 z8 z9 dk:List AV)(dp z12:Int)(dC:ByteArray)(dG dE dM dS dJ:Int)(dO z20:ByteArray)(z21 z22 z23:Int)(z24:List AV)(z25 z26 fD z28 iD:Int)(jx:List AV):Option (List AV × List AV × List AV × Int × Int):=
 let Uu:Bool:=decide (z6<((z24.length:Nat):Int))
 bif Uu then(bif decide ((0:Int)<=z6)&&decide (z6<((z24.length:Nat):Int))then(cN ((z24.getD ((z6).toNat) .undef).cells) λXf aaa=>
 df Xf λVg=>
 (iO.F n z8 z9 dk Vg).bind λOQ=>
 bif OQ==(-1)then(some ([],[],[],z12,11))else(bif decide (jx.length+[vi OQ].length<=fe)then(c (.H_ z1 z2 z3 z4 z5 (IntKind.i64.wrap (z6+1)) z7 z8 z9 dk dp z12 dC dG dE dM dS dJ dO z20 z21 z22 z23 z24 z25 z26 fD z28 iD (jx++[vi OQ])))else none))else none)else(let QQ:List AV:=[AV.agg [vi iD,.sl ⟨true,3,false⟩ 1 jx]]
 bif decide (z9.length+QQ.length<=fe)then(c (.z31 z1 z2 z3 z4 (IntKind.i64.wrap (z5+1)) z7 z8 (z9++QQ) dk))else none)
def dN.r(n:Nat)(c:dN.Z->Option (List AV × List AV × List AV × Int × Int)):dN.Z->Option (List AV × List AV × List AV × Int × Int)
 | .z6 z1 z2 z3 z4=>dN.r6 n c z1 z2 z3 z4
 | .z8 z1 z2 z3 z4 z5=>dN.r8 n c z1 z2 z3 z4 z5
 | .dp z1=>dN.vN n c z1
 | .dG z1=>dN.xk n c z1
 | .z21 z1 z2 z3 z4 z5 z6 z7 z8=>dN.qw n c z1 z2 z3 z4 z5 z6 z7 z8
 | .z22 z1 z2 z3 z4 z5 z6 z7 z8=>dN.LL n c z1 z2 z3 z4 z5 z6 z7 z8
 | .z24 z1 z2 z3 z4 z5 z6 z7 z8 z9 dk dp z12 dC dG dE dM dS dJ dO z20 z21 z22 z23 z24 z25 z26=>dN.qW n c z1 z2 z3 z4 z5 z6 z7 z8 z9 dk dp z12 dC dG dE dM dS dJ dO z20 z21 z22 z23 z24 z25 z26
 | .z25 z1 z2 z3 z4 z5 z6 z7 z8 z9 dk dp z12 dC dG dE dM dS dJ dO z20 z21 z22 z23 z24 z25 z26=>dN.IZ n c z1 z2 z3 z4 z5 z6 z7 z8 z9 dk dp z12 dC dG dE dM dS dJ dO z20 z21 z22 z23 z24 z25 z26
 | .z31 z1 z2 z3 z4 z5 z6 z7 z8 z9=>dN.TS n c z1 z2 z3 z4 z5 z6 z7 z8 z9
 | .H_ z1 z2 z3 z4 z5 z6 z7 z8 z9 dk dp z12 dC dG dE dM dS dJ dO z20 z21 z22 z23 z24 z25 z26 fD z28 iD jx=>dN.LJ n c z1 z2 z3 z4 z5 z6 z7 z8 z9 dk dp z12 dC dG dE dM dS dJ dO z20 z21 z22 z23 z24 z25 z26 fD z28 iD jx
def dN.e(n:Nat)(c:dN.Z->Option (List AV × List AV × List AV × Int × Int))(a0:ByteArray):Option (List AV × List AV × List AV × Int × Int):=
 let y1:Bool:=decide (((a0.size:Nat):Int)>6000)
 bif y1 then(some ([],[],[],0,2))else(c (.z6 a0 1 0 []))
def dN.E(n:Nat)(c:dN.Z->Option (List AV × List AV × List AV × Int × Int)):er.A->Option dI.T:=λa0=>dN.e n c a0
def dN.l(n:Nat):Nat->dN.Z->Option (List AV × List AV × List AV × Int × Int):=ez (dN.r n)
def dN.F(n:Nat)(a0:ByteArray):Option (List AV × List AV × List AV × Int × Int):=dN.e n (dN.l n n) a0
def dN.FA(n:Nat):er.A->Option dI.T:=dN.E n (dN.l n n)
theorem dN.h6(n:Nat)(rec:List Item->St->Option dI.T)(z1:ByteArray)(z2 z3:Int)(z4:List AV):uz G (dN.C n) dN.cut (λS=>jE G Tryz.f21.resultTypes.toList Tryz.f21.results.toList S dI.q) rec (dN.t (.z6 z1 z2 z3 z4)) (dN.s (.z6 z1 z2 z3 z4))=dN.r n (λz=>rec (dN.t z) (dN.s z)) (.z6 z1 z2 z3 z4):=by kernel_rfl
theorem dN.h8(n:Nat)(rec:List Item->St->Option dI.T)(z1:ByteArray)(z2 z3 z4:Int)(z5:List AV):uz G (dN.C n) dN.cut (λS=>jE G Tryz.f21.resultTypes.toList Tryz.f21.results.toList S dI.q) rec (dN.t (.z8 z1 z2 z3 z4 z5)) (dN.s (.z8 z1 z2 z3 z4 z5))=dN.r n (λz=>rec (dN.t z) (dN.s z)) (.z8 z1 z2 z3 z4 z5):=by kernel_rfl
theorem dN.GW(n:Nat)(rec:List Item->St->Option dI.T)(z1:Int):uz G (dN.C n) dN.cut (λS=>jE G Tryz.f21.resultTypes.toList Tryz.f21.results.toList S dI.q) rec (dN.t (.dp z1)) (dN.s (.dp z1))=dN.r n (λz=>rec (dN.t z) (dN.s z)) (.dp z1):=by kernel_rfl
theorem dN.El(n:Nat)(rec:List Item->St->Option dI.T)(z1:Int):uz G (dN.C n) dN.cut (λS=>jE G Tryz.f21.resultTypes.toList Tryz.f21.results.toList S dI.q) rec (dN.t (.dG z1)) (dN.s (.dG z1))=dN.r n (λz=>rec (dN.t z) (dN.s z)) (.dG z1):=by kernel_rfl
theorem dN.Xc(n:Nat)(rec:List Item->St->Option dI.T)(z1:Int)(z2 z3 z4 z5 z6 z7 z8:List AV):uz G (dN.C n) dN.cut (λS=>jE G Tryz.f21.resultTypes.toList Tryz.f21.results.toList S dI.q) rec (dN.t (.z21 z1 z2 z3 z4 z5 z6 z7 z8)) (dN.s (.z21 z1 z2 z3 z4 z5 z6 z7 z8))=dN.r n (λz=>rec (dN.t z) (dN.s z)) (.z21 z1 z2 z3 z4 z5 z6 z7 z8):=by kernel_rfl
theorem dN.GV(n:Nat)(rec:List Item->St->Option dI.T)(z1:Int)(z2 z3 z4 z5 z6 z7 z8:List AV):uz G (dN.C n) dN.cut (λS=>jE G Tryz.f21.resultTypes.toList Tryz.f21.results.toList S dI.q) rec (dN.t (.z22 z1 z2 z3 z4 z5 z6 z7 z8)) (dN.s (.z22 z1 z2 z3 z4 z5 z6 z7 z8))=dN.r n (λz=>rec (dN.t z) (dN.s z)) (.z22 z1 z2 z3 z4 z5 z6 z7 z8):=by kernel_rfl
theorem dN.h24(n:Nat)(rec:List Item->St->Option dI.T)(z1:Int)(z2 z3 z4 z5 z6 z7 z8:List AV)(z9 dk:Int)(dp:ByteArray)(z12 dC dG dE dM:Int)(dS dJ:ByteArray)(dO z20 z21:Int)(z22:List AV)(z23 z24 z25 z26:Int):uz G (dN.C n) dN.cut (λS=>jE G Tryz.f21.resultTypes.toList Tryz.f21.results.toList S dI.q) rec (dN.t (.z24 z1 z2 z3 z4 z5 z6 z7 z8 z9 dk dp z12 dC dG dE dM dS dJ dO z20 z21 z22 z23 z24 z25 z26)) (dN.s (.z24 z1 z2 z3 z4 z5 z6 z7 z8 z9 dk dp z12 dC dG dE dM dS dJ dO z20 z21 z22 z23 z24 z25 z26))=dN.r n (λz=>rec (dN.t z) (dN.s z)) (.z24 z1 z2 z3 z4 z5 z6 z7 z8 z9 dk dp z12 dC dG dE dM dS dJ dO z20 z21 z22 z23 z24 z25 z26):=by kernel_rfl
theorem dN.AE(n:Nat)(rec:List Item->St->Option dI.T)(z1:Int)(z2 z3 z4 z5 z6 z7 z8:List AV)(z9 dk:Int)(dp:ByteArray)(z12 dC dG dE dM:Int)(dS dJ:ByteArray)(dO z20 z21:Int)(z22:List AV)(z23 z24 z25 z26:Int):uz G (dN.C n) dN.cut (λS=>jE G Tryz.f21.resultTypes.toList Tryz.f21.results.toList S dI.q) rec (dN.t (.z25 z1 z2 z3 z4 z5 z6 z7 z8 z9 dk dp z12 dC dG dE dM dS dJ dO z20 z21 z22 z23 z24 z25 z26)) (dN.s (.z25 z1 z2 z3 z4 z5 z6 z7 z8 z9 dk dp z12 dC dG dE dM dS dJ dO z20 z21 z22 z23 z24 z25 z26))=dN.r n (λz=>rec (dN.t z) (dN.s z)) (.z25 z1 z2 z3 z4 z5 z6 z7 z8 z9 dk dp z12 dC dG dE dM dS dJ dO z20 z21 z22 z23 z24 z25 z26):=by kernel_rfl
theorem dN.PG(n:Nat)(rec:List Item->St->Option dI.T)(z1 z2 z3 z4:List AV)(z5:Int)(z6 z7 z8 z9:List AV):uz G (dN.C n) dN.cut (λS=>jE G Tryz.f21.resultTypes.toList Tryz.f21.results.toList S dI.q) rec (dN.t (.z31 z1 z2 z3 z4 z5 z6 z7 z8 z9)) (dN.s (.z31 z1 z2 z3 z4 z5 z6 z7 z8 z9))=dN.r n (λz=>rec (dN.t z) (dN.s z)) (.z31 z1 z2 z3 z4 z5 z6 z7 z8 z9):=by kernel_rfl
theorem dN.W9(n:Nat)(rec:List Item->St->Option dI.T)(z1 z2 z3 z4:List AV)(z5 z6:Int)(z7 z8 z9 dk:List AV)(dp z12:Int)(dC:ByteArray)(dG dE dM dS dJ:Int)(dO z20:ByteArray)(z21 z22 z23:Int)(z24:List AV)(z25 z26 fD z28 iD:Int)(jx:List AV):uz G (dN.C n) dN.cut (λS=>jE G Tryz.f21.resultTypes.toList Tryz.f21.results.toList S dI.q) rec (dN.t (.H_ z1 z2 z3 z4 z5 z6 z7 z8 z9 dk dp z12 dC dG dE dM dS dJ dO z20 z21 z22 z23 z24 z25 z26 fD z28 iD jx)) (dN.s (.H_ z1 z2 z3 z4 z5 z6 z7 z8 z9 dk dp z12 dC dG dE dM dS dJ dO z20 z21 z22 z23 z24 z25 z26 fD z28 iD jx))=dN.r n (λz=>rec (dN.t z) (dN.s z)) (.H_ z1 z2 z3 z4 z5 z6 z7 z8 z9 dk dp z12 dC dG dE dM dS dJ dO z20 z21 z22 z23 z24 z25 z26 fD z28 iD jx):=by kernel_rfl
theorem dN.he(n:Nat)(rec:List Item->St->Option dI.T)(a:er.A):tW G (dN.C n) dN.cut (λS=>jE G Tryz.f21.resultTypes.toList Tryz.f21.results.toList S dI.q) rec 1000 [.code (Tryz.f21.body.getD .skip)] (_root_.Go.Proofs.Ev.start Tryz.f21 (er.i a))=dN.E n (λz=>rec (dN.t z) (dN.s z)) a:=by kernel_rfl
theorem dN.cW(n:Nat):∀a p,dN.FA n a=some p->dc Tryz.prog 21 (er.i a) (dI.p p):=
 oX (C:=dN.C n) (cut:=dN.cut) (t:=dN.t) (s:=dN.s) (e:=dN.E n) (r:=dN.r n) (n:=n) cfg mixed dB rfl dI.qi (dN.c8 n) Tryz.func21 (by kernel_rfl) (by kernel_rfl) (dN.he n) (λrec z=>match z with | .z6 z1 z2 z3 z4=>dN.h6 n rec z1 z2 z3 z4 | .z8 z1 z2 z3 z4 z5=>dN.h8 n rec z1 z2 z3 z4 z5 | .dp z1=>dN.GW n rec z1 | .dG z1=>dN.El n rec z1 | .z21 z1 z2 z3 z4 z5 z6 z7 z8=>dN.Xc n rec z1 z2 z3 z4 z5 z6 z7 z8 | .z22 z1 z2 z3 z4 z5 z6 z7 z8=>dN.GV n rec z1 z2 z3 z4 z5 z6 z7 z8 | .z24 z1 z2 z3 z4 z5 z6 z7 z8 z9 dk dp z12 dC dG dE dM dS dJ dO z20 z21 z22 z23 z24 z25 z26=>dN.h24 n rec z1 z2 z3 z4 z5 z6 z7 z8 z9 dk dp z12 dC dG dE dM dS dJ dO z20 z21 z22 z23 z24 z25 z26 | .z25 z1 z2 z3 z4 z5 z6 z7 z8 z9 dk dp z12 dC dG dE dM dS dJ dO z20 z21 z22 z23 z24 z25 z26=>dN.AE n rec z1 z2 z3 z4 z5 z6 z7 z8 z9 dk dp z12 dC dG dE dM dS dJ dO z20 z21 z22 z23 z24 z25 z26 | .z31 z1 z2 z3 z4 z5 z6 z7 z8 z9=>dN.PG n rec z1 z2 z3 z4 z5 z6 z7 z8 z9 | .H_ z1 z2 z3 z4 z5 z6 z7 z8 z9 dk dp z12 dC dG dE dM dS dJ dO z20 z21 z22 z23 z24 z25 z26 fD z28 iD jx=>dN.W9 n rec z1 z2 z3 z4 z5 z6 z7 z8 z9 dk dp z12 dC dG dE dM dS dJ dO z20 z21 z22 z23 z24 z25 z26 fD z28 iD jx)
def dN.via{R:Type}(n:Nat):List AV->(AV->Option R)->Option R:=d_ (dN.FA n) er.o dI.p
theorem dN.cO{R:Type}(n:Nat)(xs:List AV):cT (R:=R) Tryz.prog 21 xs (dN.via n xs):=c7 er.oi (λa=>by kernel_rfl) (dN.cW n) xs
abbrev ml.A:=ByteArray
def ml.i:ml.A->List AV:=λa0=>[vs a0]
def ml.o(xs:List AV):Option ml.A:=match xs with | [.v (.string a0)]=>some a0 | _=>none
inductive ml.Z where
 | z4
def ml.C{R:Type}(n:Nat)(f:FuncId)(xs:List AV):(AV->Option R)->Option R:=
 bif Nat.beq f 12 then A7.via n xs else bif Nat.beq f 20 then jz.via n xs else bif Nat.beq f 21 then dN.via n xs else bif Nat.beq f 22 then gg.via n xs else λ_=>none
theorem ml.c8{R:Type}(n:Nat):dt (R:=R) Tryz.prog (ml.C n):=λ_ xs=>cR (A7.cO n xs) (cR (jz.cO n xs) (cR (dN.cO n xs) (cR (gg.cO n xs) (cT.none))))
def ml.cut(r:Nat):Option dP:=match r with | 4=>some ⟨[],[]⟩ | _=>none
noncomputable def ml.t (z:ml.Z):List Item:=(dL (match z with | .z4=>4) 1000 [.code (Tryz.f5.body.getD .skip)]).getD []
def ml.s:ml.Z->St
 | .z4=>⟨fx 49 0 [],Mem.ofList [],0⟩
def ml.r4(n:Nat)(c:ml.Z->Option Bool)  : Option Bool:=
 some true
def ml.r(n:Nat)(c:ml.Z->Option Bool):ml.Z->Option Bool
 | .z4=>ml.r4 n c
def ml.e(n:Nat)(c:ml.Z->Option Bool)(a0:ByteArray):Option Bool:=
 (A7.F n ).bind λp1=>
 bif !p1 then(some false)else(let y2:Bool:=decide (((a0.size:Nat):Int)>1500)
 bif y2 then(let y3:Bool:=decide (((a0.size:Nat):Int)<=6000)
 bif y3 then(c .z4)else(let y4:Bool:=decide (((a0.size:Nat):Int)>6100)
 bif y4 then(c .z4)else((jz.F n a0).bind λp5=>
 (dN.F n a0).bind λp6=>
 bif p5.2.2.2.2==p6.2.2.2.2 then(bif p5.2.2.2.1==p6.2.2.2.1 then((gg.F n p5.1 p5.2.1 p5.2.2.1 p6.1 p6.2.1 p6.2.2.1).bind λp7=>
 some p7)else(some false))else(some false))))else(let y8:Bool:=decide (((a0.size:Nat):Int)>6100)
 bif y8 then(c .z4)else((jz.F n a0).bind λp9=>
 (dN.F n a0).bind λku=>
 bif p9.2.2.2.2==ku.2.2.2.2 then(bif p9.2.2.2.1==ku.2.2.2.1 then((gg.F n p9.1 p9.2.1 p9.2.2.1 ku.1 ku.2.1 ku.2.2.1).bind λln=>
 some ln)else(some false))else(some false))))
def ml.E(n:Nat)(c:ml.Z->Option Bool):ml.A->Option ee.T:=λa0=>ml.e n c a0
def ml.l(n:Nat):Nat->ml.Z->Option Bool:=ez (ml.r n)
def ml.F(n:Nat)(a0:ByteArray):Option Bool:=ml.e n (ml.l n n) a0
def ml.FA(n:Nat):ml.A->Option ee.T:=ml.E n (ml.l n n)
theorem ml.cW(n:Nat):∀a p,ml.FA n a=some p->dc Tryz.prog 5 (ml.i a) (ee.p p):=lN ml.cut ml.t ml.s (ml.E n) (ml.r n) cfg mixed dB ee.qi (ml.c8 n) Tryz.func5
theorem dI.tj(n m z1 z2 z3 z4 z5 z6 z7 z8 z9 dk):dI.l n (m+1) (.z4 z1 z2 z3 z4 z5 z6 z7 z8 z9 dk)=dI.r4 n (dI.l n m) z1 z2 z3 z4 z5 z6 z7 z8 z9 dk:=rfl
theorem dI.FT(n m z1 z2 z3 z4 z5 z6 z7 z8 z9 dk dp z12 dC dG dE dM dS dJ dO z20 z21 z22 z23 z24 z25 z26 fD z28):dI.l n (m+1) (.z6 z1 z2 z3 z4 z5 z6 z7 z8 z9 dk dp z12 dC dG dE dM dS dJ dO z20 z21 z22 z23 z24 z25 z26 fD z28)=dI.r6 n (dI.l n m) z1 z2 z3 z4 z5 z6 z7 z8 z9 dk dp z12 dC dG dE dM dS dJ dO z20 z21 z22 z23 z24 z25 z26 fD z28:=rfl
theorem dI.zi(n m z1 z2 z3 z4 z5 z6 z7 z8 z9 dk dp z12 dC dG dE dM dS dJ dO z20 z21 z22 z23 z24 z25 z26 fD z28):dI.l n (m+1) (.z7 z1 z2 z3 z4 z5 z6 z7 z8 z9 dk dp z12 dC dG dE dM dS dJ dO z20 z21 z22 z23 z24 z25 z26 fD z28)=dI.r7 n (dI.l n m) z1 z2 z3 z4 z5 z6 z7 z8 z9 dk dp z12 dC dG dE dM dS dJ dO z20 z21 z22 z23 z24 z25 z26 fD z28:=rfl
theorem dI.EG(n m z1 z2 z3 z4 z5 z6 z7 z8 z9 dk):dI.l n (m+1) (.z12 z1 z2 z3 z4 z5 z6 z7 z8 z9 dk)=dI.ry n (dI.l n m) z1 z2 z3 z4 z5 z6 z7 z8 z9 dk:=rfl
theorem dI.KQ(n m z1 z2 z3 z4 z5 z6 z7 z8 z9 dk):dI.l n (m+1) (.dG z1 z2 z3 z4 z5 z6 z7 z8 z9 dk)=dI.xk n (dI.l n m) z1 z2 z3 z4 z5 z6 z7 z8 z9 dk:=rfl
theorem dI.CY(n m z1 z2 z3 z4 z5 z6 z7 z8 z9 dk dp z12 dC dG dE dM dS dJ dO z20 z21 z22 z23 z24 z25 z26 fD z28 iD jx z31 ng re):dI.l n (m+1) (.z21 z1 z2 z3 z4 z5 z6 z7 z8 z9 dk dp z12 dC dG dE dM dS dJ dO z20 z21 z22 z23 z24 z25 z26 fD z28 iD jx z31 ng re)=dI.qw n (dI.l n m) z1 z2 z3 z4 z5 z6 z7 z8 z9 dk dp z12 dC dG dE dM dS dJ dO z20 z21 z22 z23 z24 z25 z26 fD z28 iD jx z31 ng re:=rfl
theorem dI.XK(n m z1 z2 z3 z4 z5 z6 z7):dI.l n (m+1) (.ng z1 z2 z3 z4 z5 z6 z7)=dI.LK n (dI.l n m) z1 z2 z3 z4 z5 z6 z7:=rfl
theorem jz.Ht(n m z1 z2 z3 z4):jz.l n (m+1) (.z5 z1 z2 z3 z4)=jz.r5 n (jz.l n m) z1 z2 z3 z4:=rfl
theorem dN.FT(n m z1 z2 z3 z4):dN.l n (m+1) (.z6 z1 z2 z3 z4)=dN.r6 n (dN.l n m) z1 z2 z3 z4:=rfl
theorem dN.at8(n m z1 z2 z3 z4 z5):dN.l n (m+1) (.z8 z1 z2 z3 z4 z5)=dN.r8 n (dN.l n m) z1 z2 z3 z4 z5:=rfl
theorem dN.CY(n m z1 z2 z3 z4 z5 z6 z7 z8):dN.l n (m+1) (.z21 z1 z2 z3 z4 z5 z6 z7 z8)=dN.qw n (dN.l n m) z1 z2 z3 z4 z5 z6 z7 z8:=rfl
theorem dN.PV(n m z1 z2 z3 z4 z5 z6 z7 z8):dN.l n (m+1) (.z22 z1 z2 z3 z4 z5 z6 z7 z8)=dN.LL n (dN.l n m) z1 z2 z3 z4 z5 z6 z7 z8:=rfl
theorem dN.EF(n m z1 z2 z3 z4 z5 z6 z7 z8 z9 dk dp z12 dC dG dE dM dS dJ dO z20 z21 z22 z23 z24 z25 z26):dN.l n (m+1) (.z24 z1 z2 z3 z4 z5 z6 z7 z8 z9 dk dp z12 dC dG dE dM dS dJ dO z20 z21 z22 z23 z24 z25 z26)=dN.qW n (dN.l n m) z1 z2 z3 z4 z5 z6 z7 z8 z9 dk dp z12 dC dG dE dM dS dJ dO z20 z21 z22 z23 z24 z25 z26:=rfl
theorem dN.KO(n m z1 z2 z3 z4 z5 z6 z7 z8 z9 dk dp z12 dC dG dE dM dS dJ dO z20 z21 z22 z23 z24 z25 z26):dN.l n (m+1) (.z25 z1 z2 z3 z4 z5 z6 z7 z8 z9 dk dp z12 dC dG dE dM dS dJ dO z20 z21 z22 z23 z24 z25 z26)=dN.IZ n (dN.l n m) z1 z2 z3 z4 z5 z6 z7 z8 z9 dk dp z12 dC dG dE dM dS dJ dO z20 z21 z22 z23 z24 z25 z26:=rfl
theorem dN.Tu(n m z1 z2 z3 z4 z5 z6 z7 z8 z9):dN.l n (m+1) (.z31 z1 z2 z3 z4 z5 z6 z7 z8 z9)=dN.TS n (dN.l n m) z1 z2 z3 z4 z5 z6 z7 z8 z9:=rfl
theorem dN.Tt(n m z1 z2 z3 z4 z5 z6 z7 z8 z9 dk dp z12 dC dG dE dM dS dJ dO z20 z21 z22 z23 z24 z25 z26 fD z28 iD jx):dN.l n (m+1) (.H_ z1 z2 z3 z4 z5 z6 z7 z8 z9 dk dp z12 dC dG dE dM dS dJ dO z20 z21 z22 z23 z24 z25 z26 fD z28 iD jx)=dN.LJ n (dN.l n m) z1 z2 z3 z4 z5 z6 z7 z8 z9 dk dp z12 dC dG dE dM dS dJ dO z20 z21 z22 z23 z24 z25 z26 fD z28 iD jx:=rfl
theorem eK.oE(n m z1 z2 z3 z4):eK.l n (m+1) (.z2 z1 z2 z3 z4)=eK.r2 n (eK.l n m) z1 z2 z3 z4:=rfl
theorem eK.tj(n m z1 z2 z3 z4 z5):eK.l n (m+1) (.z4 z1 z2 z3 z4 z5)=eK.r4 n (eK.l n m) z1 z2 z3 z4 z5:=rfl
theorem ji.tj(n m z1 z2):ji.l n (m+1) (.z4 z1 z2)=ji.r4 n (ji.l n m) z1 z2:=rfl
theorem kA.oE(n m z1 z2 z3):kA.l n (m+1) (.z2 z1 z2 z3)=kA.r2 n (kA.l n m) z1 z2 z3:=rfl
theorem eB.zi(n m z1 z2 z3 z4 z5 z6 z7 z8):eB.l n (m+1) (.z7 z1 z2 z3 z4 z5 z6 z7 z8)=eB.r7 n (eB.l n m) z1 z2 z3 z4 z5 z6 z7 z8:=rfl
theorem eB.at8(n m z1 z2 z3 z4 z5 z6 z7 z8):eB.l n (m+1) (.z8 z1 z2 z3 z4 z5 z6 z7 z8)=eB.r8 n (eB.l n m) z1 z2 z3 z4 z5 z6 z7 z8:=rfl
theorem eB.xN(n m z1 z2 z3 z4 z5 z6 z7 z8 z9):eB.l n (m+1) (.dC z1 z2 z3 z4 z5 z6 z7 z8 z9)=eB.uN n (eB.l n m) z1 z2 z3 z4 z5 z6 z7 z8 z9:=rfl
theorem eB.Hv(n m z1 z2 z3 z4 z5 z6 z7 z8 z9 dk dp):eB.l n (m+1) (.dJ z1 z2 z3 z4 z5 z6 z7 z8 z9 dk dp)=eB.sE n (eB.l n m) z1 z2 z3 z4 z5 z6 z7 z8 z9 dk dp:=rfl
theorem eB.Tv(n m z1 z2 z3 z4 z5 z6 z7 z8 z9 dk dp):eB.l n (m+1) (.dO z1 z2 z3 z4 z5 z6 z7 z8 z9 dk dp)=eB.Ql n (eB.l n m) z1 z2 z3 z4 z5 z6 z7 z8 z9 dk dp:=rfl
theorem eB.EF(n m z1 z2 z3 z4 z5 z6 z7 z8 z9 dk dp z12):eB.l n (m+1) (.z24 z1 z2 z3 z4 z5 z6 z7 z8 z9 dk dp z12)=eB.qW n (eB.l n m) z1 z2 z3 z4 z5 z6 z7 z8 z9 dk dp z12:=rfl
theorem eB.KO(n m z1 z2 z3 z4 z5 z6 z7 z8 z9 dk dp):eB.l n (m+1) (.z25 z1 z2 z3 z4 z5 z6 z7 z8 z9 dk dp)=eB.IZ n (eB.l n m) z1 z2 z3 z4 z5 z6 z7 z8 z9 dk dp:=rfl
theorem jj.Ht(n m z1 z2 z3):jj.l n (m+1) (.z5 z1 z2 z3)=jj.r5 n (jj.l n m) z1 z2 z3:=rfl
theorem jj.at9(n m z1 z2 z3 z4 z5):jj.l n (m+1) (.z9 z1 z2 z3 z4 z5)=jj.r9 n (jj.l n m) z1 z2 z3 z4 z5:=rfl
theorem eV.FT(n m z1 z2 z3 z4 z5 z6):eV.l n (m+1) (.z6 z1 z2 z3 z4 z5 z6)=eV.r6 n (eV.l n m) z1 z2 z3 z4 z5 z6:=rfl
theorem eV.xN(n m z1 z2 z3 z4 z5 z6):eV.l n (m+1) (.dC z1 z2 z3 z4 z5 z6)=eV.uN n (eV.l n m) z1 z2 z3 z4 z5 z6:=rfl
theorem eV.XN(n m z1 z2 z3 z4 z5 z6 z7):eV.l n (m+1) (.fD z1 z2 z3 z4 z5 z6 z7)=eV.yj n (eV.l n m) z1 z2 z3 z4 z5 z6 z7:=rfl
theorem eV.XM(n m z1 z2 z3 z4 z5 z6):eV.l n (m+1) (.iD z1 z2 z3 z4 z5 z6)=eV.HM n (eV.l n m) z1 z2 z3 z4 z5 z6:=rfl
theorem gP.EG(n m z1 z2 z3 z4 z5 z6 z7 z8 z9 dk dp z12 dC dG dE dM dS dJ dO z20 z21 z22):gP.l n (m+1) (.z12 z1 z2 z3 z4 z5 z6 z7 z8 z9 dk dp z12 dC dG dE dM dS dJ dO z20 z21 z22)=gP.ry n (gP.l n m) z1 z2 z3 z4 z5 z6 z7 z8 z9 dk dp z12 dC dG dE dM dS dJ dO z20 z21 z22:=rfl
theorem gP.CZ(n m z1 z2 z3 z4 z5 z6 z7 z8 z9 dk dp z12 dC dG dE dM dS dJ dO z20 z21 z22):gP.l n (m+1) (.dE z1 z2 z3 z4 z5 z6 z7 z8 z9 dk dp z12 dC dG dE dM dS dJ dO z20 z21 z22)=gP.qX n (gP.l n m) z1 z2 z3 z4 z5 z6 z7 z8 z9 dk dp z12 dC dG dE dM dS dJ dO z20 z21 z22:=rfl
theorem gP.Hu(n m z1 z2 z3 z4 z5 z6 z7 z8 z9 dk dp z12 dC dG dE dM dS dJ dO z20 z21 z22):gP.l n (m+1) (.mw z1 z2 z3 z4 z5 z6 z7 z8 z9 dk dp z12 dC dG dE dM dS dJ dO z20 z21 z22)=gP.zW n (gP.l n m) z1 z2 z3 z4 z5 z6 z7 z8 z9 dk dp z12 dC dG dE dM dS dJ dO z20 z21 z22:=rfl
theorem jA.EF(n m z1 z2 z3 z4 z5 z6 z7 z8 z9 dk dp z12 dC dG dE dM dS dJ dO z20 z21 z22 z23 z24 z25 z26 fD z28 iD jx z31 ng re Ia HF mw z37):jA.l n (m+1) (.z24 z1 z2 z3 z4 z5 z6 z7 z8 z9 dk dp z12 dC dG dE dM dS dJ dO z20 z21 z22 z23 z24 z25 z26 fD z28 iD jx z31 ng re Ia HF mw z37)=jA.qW n (jA.l n m) z1 z2 z3 z4 z5 z6 z7 z8 z9 dk dp z12 dC dG dE dM dS dJ dO z20 z21 z22 z23 z24 z25 z26 fD z28 iD jx z31 ng re Ia HF mw z37:=rfl
inductive ud.Z where
 | z2 (z1:List AV) (z2 z3 z4:Int)
def ud.r2(n:Nat)(c:ud.Z->Option Int)(z1:List AV)(z2 z3 z4:Int):Option Int:=
 bif decide (z4<z3)then(bif decide ((0:Int)<=z4)&&decide (z4<((z1.length:Nat):Int))then(cN ((z1.getD ((z4).toNat) .undef).cells) λh1 r2=>
 cQ .i64 h1 λx3=>
 bif z2==x3 then(some z4)else(c (.z2 z1 z2 z3 (IntKind.i64.wrap (z4+1)))))else none)else(some (-1))
def ud.r(n:Nat)(c:ud.Z->Option Int):ud.Z->Option Int
 | .z2 z1 z2 z3 z4=>ud.r2 n c z1 z2 z3 z4
def ud.e(n:Nat)(c:ud.Z->Option Int)(a0:List AV)(a1:Int):Option Int:=
 c (.z2 a0 a1 ((a0.length:Nat):Int) 0)
def ud.l(n:Nat):Nat->ud.Z->Option Int:=ez (ud.r n)
def ud.F(n:Nat)(a0:List AV)(a1:Int):Option Int:=ud.e n (ud.l n n) a0 a1
def Tz.e(n:Nat)(a0:List AV)(a1:Int):Option Bool:=
 (ud.F n a0 a1).bind λp1=>
 some (decide (p1>=0))
def Tz.F(n:Nat)(a0:List AV)(a1:Int):Option Bool:=Tz.e n a0 a1
theorem gE.oE(n m z1 z2 z3 z4):gE.l n (m+1) (.z2 z1 z2 z3 z4)=gE.r2 n (gE.l n m) z1 z2 z3 z4:=rfl
theorem er.tj(n m z1 z2 z3):er.l n (m+1) (.z4 z1 z2 z3)=er.r4 n (er.l n m) z1 z2 z3:=rfl
theorem er.zi(n m z1 z2 z3 z4 z5 z6):er.l n (m+1) (.z7 z1 z2 z3 z4 z5 z6)=er.r7 n (er.l n m) z1 z2 z3 z4 z5 z6:=rfl
theorem er.at8(n m z1 z2 z3 z4 z5 z6):er.l n (m+1) (.z8 z1 z2 z3 z4 z5 z6)=er.r8 n (er.l n m) z1 z2 z3 z4 z5 z6:=rfl
theorem gn.zi(n m z1 z2 z3 z4 z5 z6 z7 z8 z9 dk dp z12 dC dG dE dM dS dJ dO z20 z21 z22 z23 z24 z25 z26 fD z28 iD jx):gn.l n (m+1) (.z7 z1 z2 z3 z4 z5 z6 z7 z8 z9 dk dp z12 dC dG dE dM dS dJ dO z20 z21 z22 z23 z24 z25 z26 fD z28 iD jx)=gn.r7 n (gn.l n m) z1 z2 z3 z4 z5 z6 z7 z8 z9 dk dp z12 dC dG dE dM dS dJ dO z20 z21 z22 z23 z24 z25 z26 fD z28 iD jx:=rfl
theorem gn.MZ(n m z1 z2 z3 z4 z5 z6 z7 z8 z9 dk dp z12 dC dG dE dM dS dJ dO z20 z21 z22 z23 z24 z25 z26 fD z28 iD jx):gn.l n (m+1) (.dk z1 z2 z3 z4 z5 z6 z7 z8 z9 dk dp z12 dC dG dE dM dS dJ dO z20 z21 z22 z23 z24 z25 z26 fD z28 iD jx)=gn.E4 n (gn.l n m) z1 z2 z3 z4 z5 z6 z7 z8 z9 dk dp z12 dC dG dE dM dS dJ dO z20 z21 z22 z23 z24 z25 z26 fD z28 iD jx:=rfl
theorem gn.xN(n m z1 z2 z3 z4 z5 z6 z7 z8 z9 dk dp z12 dC dG dE dM dS dJ dO z20):gn.l n (m+1) (.dC z1 z2 z3 z4 z5 z6 z7 z8 z9 dk dp z12 dC dG dE dM dS dJ dO z20)=gn.uN n (gn.l n m) z1 z2 z3 z4 z5 z6 z7 z8 z9 dk dp z12 dC dG dE dM dS dJ dO z20:=rfl
theorem fK.PT(n m z1 z2 z3):fK.l n (m+1) (.z3 z1 z2 z3)=fK.r3 n (fK.l n m) z1 z2 z3:=rfl
theorem iB.EG(n m z1 z2 z3 z4 z5 z6 z7 z8 z9 dk):iB.l n (m+1) (.z12 z1 z2 z3 z4 z5 z6 z7 z8 z9 dk)=iB.ry n (iB.l n m) z1 z2 z3 z4 z5 z6 z7 z8 z9 dk:=rfl
theorem iB.CZ(n m z1 z2 z3 z4 z5 z6 z7 z8 z9 dk dp):iB.l n (m+1) (.dE z1 z2 z3 z4 z5 z6 z7 z8 z9 dk dp)=iB.qX n (iB.l n m) z1 z2 z3 z4 z5 z6 z7 z8 z9 dk dp:=rfl
theorem fO.tj(n m z1 z2 z3 z4 z5 z6):fO.l n (m+1) (.z4 z1 z2 z3 z4 z5 z6)=fO.r4 n (fO.l n m) z1 z2 z3 z4 z5 z6:=rfl
theorem fO.MZ(n m z1 z2 z3 z4 z5 z6):fO.l n (m+1) (.dk z1 z2 z3 z4 z5 z6)=fO.E4 n (fO.l n m) z1 z2 z3 z4 z5 z6:=rfl
theorem fO.KP(n m z1 z2 z3 z4 z5 z6):fO.l n (m+1) (.dM z1 z2 z3 z4 z5 z6)=fO.LM n (fO.l n m) z1 z2 z3 z4 z5 z6:=rfl
theorem jJ.at8(n m z1 z2 z3 z4 z5 z6 z7 z8 z9 dk dp z12 dC dG dE dM dS dJ dO z20 z21 z22 z23):jJ.l n (m+1) (.z8 z1 z2 z3 z4 z5 z6 z7 z8 z9 dk dp z12 dC dG dE dM dS dJ dO z20 z21 z22 z23)=jJ.r8 n (jJ.l n m) z1 z2 z3 z4 z5 z6 z7 z8 z9 dk dp z12 dC dG dE dM dS dJ dO z20 z21 z22 z23:=rfl
theorem jc.zi(n m z1 z2 z3 z4 z5 z6 z7 z8 z9 dk dp z12 dC dG dE dM dS dJ):jc.l n (m+1) (.z7 z1 z2 z3 z4 z5 z6 z7 z8 z9 dk dp z12 dC dG dE dM dS dJ)=jc.r7 n (jc.l n m) z1 z2 z3 z4 z5 z6 z7 z8 z9 dk dp z12 dC dG dE dM dS dJ:=rfl
theorem jI.PT(n m z1):jI.l n (m+1) (.z3 z1)=jI.r3 n (jI.l n m) z1:=rfl
theorem eP.oE(n m z1 z2 z3 z4 z5 z6):eP.l n (m+1) (.z2 z1 z2 z3 z4 z5 z6)=eP.r2 n (eP.l n m) z1 z2 z3 z4 z5 z6:=rfl
theorem eP.FT(n m z1 z2 z3 z4 z5 z6 z7):eP.l n (m+1) (.z6 z1 z2 z3 z4 z5 z6 z7)=eP.r6 n (eP.l n m) z1 z2 z3 z4 z5 z6 z7:=rfl
theorem eP.KP(n m z1 z2 z3 z4 z5 z6 z7 z8):eP.l n (m+1) (.dM z1 z2 z3 z4 z5 z6 z7 z8)=eP.LM n (eP.l n m) z1 z2 z3 z4 z5 z6 z7 z8:=rfl
theorem eP.MX(n m z1 z2 z3 z4 z5 z6 z7 z8):eP.l n (m+1) (.z23 z1 z2 z3 z4 z5 z6 z7 z8)=eP.yk n (eP.l n m) z1 z2 z3 z4 z5 z6 z7 z8:=rfl
theorem jd.at9(n m z1 z2 z3):jd.l n (m+1) (.z9 z1 z2 z3)=jd.r9 n (jd.l n m) z1 z2 z3:=rfl
theorem jb.oE(n m z1 z2 z3):jb.l n (m+1) (.z2 z1 z2 z3)=jb.r2 n (jb.l n m) z1 z2 z3:=rfl
theorem kJ.at8(n m z1 z2 z3 z4):kJ.l n (m+1) (.z8 z1 z2 z3 z4)=kJ.r8 n (kJ.l n m) z1 z2 z3 z4:=rfl
theorem ju.tj(n m z1 z2 z3):ju.l n (m+1) (.z4 z1 z2 z3)=ju.r4 n (ju.l n m) z1 z2 z3:=rfl
theorem gg.tj(n m z1 z2 z3 z4 z5 z6 z7):gg.l n (m+1) (.z4 z1 z2 z3 z4 z5 z6 z7)=gg.r4 n (gg.l n m) z1 z2 z3 z4 z5 z6 z7:=rfl
theorem gg.at9(n m z1 z2 z3 z4 z5 z6 z7):gg.l n (m+1) (.z9 z1 z2 z3 z4 z5 z6 z7)=gg.r9 n (gg.l n m) z1 z2 z3 z4 z5 z6 z7:=rfl
theorem gg.KQ(n m z1 z2 z3 z4 z5 z6 z7):gg.l n (m+1) (.dG z1 z2 z3 z4 z5 z6 z7)=gg.xk n (gg.l n m) z1 z2 z3 z4 z5 z6 z7:=rfl
theorem iM.oE(n m z1 z2 z3 z4):iM.l n (m+1) (.z2 z1 z2 z3 z4)=iM.r2 n (iM.l n m) z1 z2 z3 z4:=rfl
theorem kz.Ht(n m z1 z2):kz.l n (m+1) (.z5 z1 z2)=kz.r5 n (kz.l n m) z1 z2:=rfl
theorem iC.at8(n m z1 z2 z3):iC.l n (m+1) (.z8 z1 z2 z3)=iC.r8 n (iC.l n m) z1 z2 z3:=rfl
theorem iC.CZ(n m z1 z2 z3 z4):iC.l n (m+1) (.dE z1 z2 z3 z4)=iC.qX n (iC.l n m) z1 z2 z3 z4:=rfl
theorem jt.xN(n m z1 z2 z3 z4 z5 z6 z7 z8 z9):jt.l n (m+1) (.dC z1 z2 z3 z4 z5 z6 z7 z8 z9)=jt.uN n (jt.l n m) z1 z2 z3 z4 z5 z6 z7 z8 z9:=rfl
theorem kP.oE(n m z1 z2):kP.l n (m+1) (.z2 z1 z2)=kP.r2 n (kP.l n m) z1 z2:=rfl
theorem fE.MW(n m z1 z2 z3 z4 z5 z6 z7 z8 z9 dk dp z12 dC dG dE dM dS dJ dO z20 z21 z22 z23 z24):fE.l n (m+1) (.z26 z1 z2 z3 z4 z5 z6 z7 z8 z9 dk dp z12 dC dG dE dM dS dJ dO z20 z21 z22 z23 z24)=fE.A3 n (fE.l n m) z1 z2 z3 z4 z5 z6 z7 z8 z9 dk dp z12 dC dG dE dM dS dJ dO z20 z21 z22 z23 z24:=rfl
theorem fE.Hu(n m z1 z2 z3 z4 z5 z6 z7 z8 z9 dk dp z12 dC dG dE dM dS dJ dO z20 z21 z22 z23):fE.l n (m+1) (.mw z1 z2 z3 z4 z5 z6 z7 z8 z9 dk dp z12 dC dG dE dM dS dJ dO z20 z21 z22 z23)=fE.zW n (fE.l n m) z1 z2 z3 z4 z5 z6 z7 z8 z9 dk dp z12 dC dG dE dM dS dJ dO z20 z21 z22 z23:=rfl
theorem iY.oE(n m z1 z2 z3):iY.l n (m+1) (.z2 z1 z2 z3)=iY.r2 n (iY.l n m) z1 z2 z3:=rfl
theorem fP.at9(n m z1 z2 z3 z4 z5 z6 z7 z8 z9 dk dp z12 dC dG dE dM dS dJ dO z20 z21):fP.l n (m+1) (.z9 z1 z2 z3 z4 z5 z6 z7 z8 z9 dk dp z12 dC dG dE dM dS dJ dO z20 z21)=fP.r9 n (fP.l n m) z1 z2 z3 z4 z5 z6 z7 z8 z9 dk dp z12 dC dG dE dM dS dJ dO z20 z21:=rfl
theorem iO.oE(n m z1 z2 z3 z4 z5):iO.l n (m+1) (.z2 z1 z2 z3 z4 z5)=iO.r2 n (iO.l n m) z1 z2 z3 z4 z5:=rfl
theorem ix.tj(n m z1 z2 z3 z4 z5 z6):ix.l n (m+1) (.z4 z1 z2 z3 z4 z5 z6)=ix.r4 n (ix.l n m) z1 z2 z3 z4 z5 z6:=rfl
theorem ix.MY(n m z1 z2 z3 z4 z5 z6):ix.l n (m+1) (.dp z1 z2 z3 z4 z5 z6)=ix.vN n (ix.l n m) z1 z2 z3 z4 z5 z6:=rfl
theorem ix.Hv(n m z1 z2 z3 z4 z5 z6):ix.l n (m+1) (.dJ z1 z2 z3 z4 z5 z6)=ix.sE n (ix.l n m) z1 z2 z3 z4 z5 z6:=rfl
theorem iF.tj(n m z1 z2):iF.l n (m+1) (.z4 z1 z2)=iF.r4 n (iF.l n m) z1 z2:=rfl
theorem iF.Ht(n m z1 z2):iF.l n (m+1) (.z5 z1 z2)=iF.r5 n (iF.l n m) z1 z2:=rfl
theorem iF.at8(n m z1 z2 z3 z4):iF.l n (m+1) (.z8 z1 z2 z3 z4)=iF.r8 n (iF.l n m) z1 z2 z3 z4:=rfl
theorem kl.Ht(n m z1 z2 z3 z4 z5 z6 z7 z8 z9 dk dp):kl.l n (m+1) (.z5 z1 z2 z3 z4 z5 z6 z7 z8 z9 dk dp)=kl.r5 n (kl.l n m) z1 z2 z3 z4 z5 z6 z7 z8 z9 dk dp:=rfl
theorem kl.at8(n m z1 z2 z3 z4 z5 z6 z7 z8 z9 dk dp):kl.l n (m+1) (.z8 z1 z2 z3 z4 z5 z6 z7 z8 z9 dk dp)=kl.r8 n (kl.l n m) z1 z2 z3 z4 z5 z6 z7 z8 z9 dk dp:=rfl
theorem kW.PT(n m z1 z2 z3):kW.l n (m+1) (.z3 z1 z2 z3)=kW.r3 n (kW.l n m) z1 z2 z3:=rfl
theorem km.zi(n m):km.l n (m+1) .z7=km.r7 n (km.l n m):=rfl
theorem km.at8(n m z1 z2 z3 z4 z5):km.l n (m+1) (.z8 z1 z2 z3 z4 z5)=km.r8 n (km.l n m) z1 z2 z3 z4 z5:=rfl
theorem h_.XO(n m z1 z2 z3 z4 z5 z6 z7 z8 z9 dk):h_.l n (m+1) (.z20 z1 z2 z3 z4 z5 z6 z7 z8 z9 dk)=h_.DF n (h_.l n m) z1 z2 z3 z4 z5 z6 z7 z8 z9 dk:=rfl
theorem h_.MX(n m z1 z2 z3 z4 z5 z6 z7 z8 z9 dk dp z12 dC dG dE):h_.l n (m+1) (.z23 z1 z2 z3 z4 z5 z6 z7 z8 z9 dk dp z12 dC dG dE)=h_.yk n (h_.l n m) z1 z2 z3 z4 z5 z6 z7 z8 z9 dk dp z12 dC dG dE:=rfl
theorem h_.PU(n m z1 z2 z3 z4 z5 z6 z7 z8 z9 dk dp z12 dC dG dE dM dS dJ dO z20):h_.l n (m+1) (.z28 z1 z2 z3 z4 z5 z6 z7 z8 z9 dk dp z12 dC dG dE dM dS dJ dO z20)=h_.OL n (h_.l n m) z1 z2 z3 z4 z5 z6 z7 z8 z9 dk dp z12 dC dG dE dM dS dJ dO z20:=rfl
theorem kV.MY(n m):kV.l n (m+1) .dp=kV.vN n (kV.l n m):=rfl
theorem je.zi(n m z1 z2 z3 z4 z5 z6 z7):je.l n (m+1) (.z7 z1 z2 z3 z4 z5 z6 z7)=je.r7 n (je.l n m) z1 z2 z3 z4 z5 z6 z7:=rfl
theorem je.at8(n m z1 z2 z3 z4 z5 z6 z7):je.l n (m+1) (.z8 z1 z2 z3 z4 z5 z6 z7)=je.r8 n (je.l n m) z1 z2 z3 z4 z5 z6 z7:=rfl
theorem je.PU(n m z1 z2 z3 z4 z5 z6 z7 z8):je.l n (m+1) (.z28 z1 z2 z3 z4 z5 z6 z7 z8)=je.OL n (je.l n m) z1 z2 z3 z4 z5 z6 z7 z8:=rfl
theorem gL.FT(n m z1 z2 z3 z4 z5 z6):gL.l n (m+1) (.z6 z1 z2 z3 z4 z5 z6)=gL.r6 n (gL.l n m) z1 z2 z3 z4 z5 z6:=rfl
theorem gL.CZ(n m z1 z2 z3 z4 z5 z6):gL.l n (m+1) (.dE z1 z2 z3 z4 z5 z6)=gL.qX n (gL.l n m) z1 z2 z3 z4 z5 z6:=rfl
theorem gL.CY(n m z1 z2 z3 z4 z5 z6):gL.l n (m+1) (.z21 z1 z2 z3 z4 z5 z6)=gL.qw n (gL.l n m) z1 z2 z3 z4 z5 z6:=rfl
theorem ko.oE(n m z1 z2 z3):ko.l n (m+1) (.z2 z1 z2 z3)=ko.r2 n (ko.l n m) z1 z2 z3:=rfl
theorem kQ.oE(n m z1 z2):kQ.l n (m+1) (.z2 z1 z2)=kQ.r2 n (kQ.l n m) z1 z2:=rfl
theorem ud.oE(n m z1 z2 z3 z4):ud.l n (m+1) (.z2 z1 z2 z3 z4)=ud.r2 n (ud.l n m) z1 z2 z3 z4:=rfl
end Go.Proofs.YtnoldakbllfmnaaGreatDoor.Ev
namespace Go.Proofs.YtnoldakbllfmnaaGreatDoor.Ev
open Go Go.Proofs Go.Proofs.Ev
variable {R:Type}
theorem jU{x:Int}(h1 : -9223372036854775808<=x)(h2:x<=9223372036854775807):IntKind.i64.wrap x=x:=by rw[IntKind.wrap_i64];omega
theorem w8(x:Int):IntKind.u8.wrap x=x % 256:=by rw[IntKind.wrap_u8]
theorem cU{α:Type}{p:Prop}[Decidable p](h:p)(x y:α):(bif decide p then x else y)=x:=by simp[h]
theorem cV{α:Type}{p:Prop}[Decidable p](h:¬ p)(x y:α):(bif decide p then x else y)=y:=by simp[h]
theorem jh{R:Type}{p:Prop}[Decidable p](h:p)(K:Option R):js (decide p) K=K:=by simp[js,h]
theorem de{i:Nat}{len:Nat}(h:i<len):(decide ((0:Int)<=(i:Int))&&decide ((i:Int)<(len:Int)))=true:=by
 rw[ae,ay,ay];omega
theorem ec{i:Nat}{len:Nat}(h:i<=len):(decide ((0:Int)<=(i:Int))&&decide ((i:Int)<=(len:Int)))=true:=by
 rw[ae,ay,ay];omega
theorem dY{i:Nat}(h:i<=1000000000):IntKind.i64.wrap ((i:Int)+1)=((i+1:Nat):Int):=by rw[jU]<;>omega
abbrev bs(l:List UInt8):ByteArray:=⟨l.toArray⟩
theorem Tp(s:ByteArray):s=bs s.data.toList:=rfl
theorem eF(a b:List UInt8):bs a++bs b=bs (a++b):=by
 apply ByteArray.ext;rw[ByteArray.data_append];simp
theorem cY(l:List UInt8):(bs l).size=l.length:=rfl
theorem AJ(s:ByteArray)(a b:Nat):(s.extract a b).data.toList=(s.data.toList.drop a).take (b - a):=by
 rw[ByteArray.data_extract,Array.toList_extract,List.extract_eq_take_drop]
theorem od(l:List UInt8)(a b:Nat):(bs l).extract a b=bs ((l.drop a).take (b - a)):=by
 rw[Tp ((bs l).extract a b),AJ]
theorem mf(l:List UInt8)(b:Nat):(bs l).extract 0 b=bs (l.take b):=by rw[od];simp
theorem gu(l:List UInt8)(a:Nat):(bs l).extract a (bs l).size=bs (l.drop a):=by
 rw[od,cY,cl (by simp)]
theorem FQ(l:List UInt8)(i:Nat):(bs l).data.getD i 0=l.getD i 0:=by
 rw[aK,ah];simp
theorem getD_at{l:List UInt8}{i:Nat}(hi:i<l.length):(bs l).data.getD i 0=l[i]:=by
 rw[FQ];simp[ah,hi]
theorem ki(l:List UInt8):(bs l).toList=l:=by rw[cJ]
def eQ(c:UInt8):Bool:=decide (48<=c.toNat)&&decide (c.toNat<=57)
theorem rM(c:UInt8):eQ c=true↔48<=c.toNat/\c.toNat<=57:=by simp[eQ]
def fc(a:Nat)(l:List UInt8):Nat:=l.foldl (λa b=>a*10+(b.toNat - 48)) a
theorem mm(a:Nat)(b:UInt8)(l:List UInt8):fc a (b::l)=fc (a*10+(b.toNat - 48)) l:=by unfold fc;rw[List.foldl_cons]
theorem sA(a:Nat)(l:List UInt8)(b:UInt8):fc a (l++[b])=fc a l*10+(b.toNat - 48):=by simp[fc]
theorem EO:∀(l:List UInt8) (a:Nat),a<=fc a l
 | [],a=>aH _
 | b::l,a=>by rw[mm];have:=EO l (a*10+(b.toNat - 48));omega
theorem nM:∀(l:List UInt8) (a:Nat),l.all eQ=true->fc a l<(a+1)*10 ^ l.length
 | [],a,_=>by simp[fc]
 | b::l,a,h=>by
  simp only[bo,ae]at h;have hb:=(rM b).1 h.1;rw[mm,az,Nat.pow_succ];have h1:=nM l (a*10+(b.toNat - 48)) h.2;have h3:(a*10+(b.toNat - 48)+1)*10 ^ l.length<=(a*10+10)*10 ^ l.length:=bf _ (by omega);have h2:(a+1)*(10 ^ l.length*10)=(a*10+10)*10 ^ l.length:=by
   rw[Nat.mul_comm (10 ^ l.length) 10,<-Nat.mul_assoc,bK,Nat.one_mul]
  omega
abbrev iy(l:List UInt8):Nat:=fc 0 l
theorem rz:∀(l:List UInt8) (a:Nat),l.all eQ=true->a<18446744073709551616->Lib.parseUint10 a l=if fc a l<18446744073709551616 then .ok (fc a l)else .range
 | [],a,_,ha=>by rw[show fc a []=a from rfl,ag ha];rfl
 | c::l,a,h,ha=>by
  simp only[bo,ae]at h;have hc:=(rM c).1 h.1;have Sj:=EO l (a*10+(c.toNat - 48));unfold Lib.parseUint10;rw[ag hc,mm];by_cases h1:1844674407370955162<=a
  ·rw[ag h1,af (by omega)]
  ·rw[af h1];by_cases h2:18446744073709551616<=a*10+(c.toNat - 48)
   ·rw[ag h2,af (by omega)]
   ·rw[af h2,rz l _ h.2 (by omega)]
theorem EE{l:List UInt8}(h0:l≠[])(ig:l.all eQ=true)(hv:iy l<9223372036854775808):kT l=((iy l:Int),false):=by
 cases l with
 | nil=>exact absurd rfl h0
 | cons c r=>
  have hc:=ig;simp only[bo,ae]at hc;have hc:=(rM c).1 hc.1;have e:Lib.parseMag (c::r)=.ok (iy (c::r)):=by
   unfold Lib.parseMag;rw[af (by simp),rz _ _ ig (by omega),ag (by show iy (c::r)<_;omega)]
  have n1:¬ c.toNat=43:=by omega
  have n2:¬ c.toNat=45:=by omega
  have key:Lib.atoiAll (c::r)=.ok (iy (c::r):Int):=by
   unfold Lib.atoiAll;simp only[n1,n2,or_self,if_false,e,not_false_eq_true,true_and,false_and];rw[af (by omega)]
  unfold kT;rw[key]
def lead(l:List UInt8):Nat:=(l.takeWhile eQ).length
theorem n_(n:Nat)(b:Bool)(e:Int):kx.F n b e=some (if b then e else 0):=by cases b<;>rfl
theorem rD(n:Nat)(b:Bool)(e:Int):nE.F n b e=some (if b then e else 0):=by cases b<;>rfl
theorem JK(n:Nat)(a b c:Int):om.F n a b c=some (decide (b<=a/\a<=c)):=by
 unfold om.F om.e;by_cases h:b<=a
 ·rw[cU h];simp[h]
 ·rw[cV h];simp[h]
theorem gf(n:Nat)(a b c:Int):jT.F n a b c=some (decide (b<=a/\a<=c)):=by
 unfold jT.F jT.e;by_cases h:b<=a
 ·rw[cU h];simp[h]
 ·rw[cV h];simp[h]
def fz:List Int->Int
 | []=>0
 | x::r=>if x≠0 then x else fz r
theorem FK(n:Nat)(xs:List Int)(hx:xs.length<=1000):∀(d i m:Nat),i+d=xs.length->d<m->dU.l n m (.z2 (xs.map vi) xs.length i)=some (fz (xs.drop i))
 | _,_,0,_,h=>absurd h (by omega)
 | 0,i,m+1,h,_=>by
  show dU.r2 n (dU.l n m) _ _ _=_;unfold dU.r2;rw[cV (by omega),aF (by omega)];rfl
 | d+1,i,m+1,h,hm=>by
  have hi:i<xs.length:=by omega
  have ih:=FK n xs hx d (i+1) m (by omega) (by omega);show dU.r2 n (dU.l n m) _ _ _=_;unfold dU.r2;rw[cU (by omega),aj,de hi,ak];have e:(xs.map vi).getD (((i:Nat):Int)).toNat AV.undef=vi xs[i]:=by simp[ah,hi]
  rw[e,aC hi];show(bif xs[i] != 0 then some xs[i]else _)=_;by_cases h0:xs[i]=0
  ·have:(xs[i] != 0)=false:=by simp[h0]
   rw[this,cond_false,dY (by omega),ih];simp[fz,h0]
  ·have:(xs[i] != 0)=true:=by simp[h0]
   rw[this,ak];simp[fz,h0]
theorem CH{n:Nat}(xs:List Int)(hx:xs.length<=1000)(hn:1001<=n):dU.F n (xs.map vi)=some (fz xs):=by
 unfold dU.F dU.e;rw[aj];exact FK n xs hx xs.length 0 n (by omega) (by omega)
theorem AH{n:Nat}(hn:1001<=n)(a b:Int):dU.F n [vi a,vi b]=some (if a≠0 then a else b):=by
 have:=CH (n:=n) [a,b] (by simp) hn;rw[show([a,b]:List Int).map vi=[vi a,vi b]from rfl]at this;rw[this];by_cases h:a=0<;>by_cases h2:b=0<;>simp[fz,h,h2]
theorem BS(n:Nat)(xs:List Int)(hx:xs.length<=1000):∀(d i m:Nat),i+d=xs.length->d<m->j_.l n m (.z2 (xs.map vi) xs.length i)=some (fz (xs.drop i))
 | _,_,0,_,h=>absurd h (by omega)
 | 0,i,m+1,h,_=>by
  show j_.r2 n (j_.l n m) _ _ _=_;unfold j_.r2;rw[cV (by omega),aF (by omega)];rfl
 | d+1,i,m+1,h,hm=>by
  have hi:i<xs.length:=by omega
  have ih:=BS n xs hx d (i+1) m (by omega) (by omega);show j_.r2 n (j_.l n m) _ _ _=_;unfold j_.r2;rw[cU (by omega),aj,de hi,ak];have e:(xs.map vi).getD (((i:Nat):Int)).toNat AV.undef=vi xs[i]:=by simp[ah,hi]
  rw[e,aC hi];show(bif xs[i] != 0 then some xs[i]else _)=_;by_cases h0:xs[i]=0
  ·have:(xs[i] != 0)=false:=by simp[h0]
   rw[this,cond_false,dY (by omega),ih];simp[fz,h0]
  ·have:(xs[i] != 0)=true:=by simp[h0]
   rw[this,ak];simp[fz,h0]
theorem Gr{n:Nat}(xs:List Int)(hx:xs.length<=1000)(hn:1001<=n):j_.F n (xs.map vi)=some (fz xs):=by
 unfold j_.F j_.e;rw[aj];exact BS n xs hx xs.length 0 n (by omega) (by omega)
theorem Ai{n:Nat}(hn:1001<=n)(a b:Int):j_.F n [vi a,vi b]=some (if a≠0 then a else b):=by
 have:=Gr (n:=n) [a,b] (by simp) hn;rw[show([a,b]:List Int).map vi=[vi a,vi b]from rfl]at this;rw[this];by_cases h:a=0<;>by_cases h2:b=0<;>simp[fz,h,h2]
def mM(k a b:Int):Int:=
 if k=0 then(if ¬ (1<=a/\a<=256)then 18 else if b≠0 then 3 else 0)
 else if k=1\/k=2 then(if ¬ (1<=a/\a<=15)then 18 else if ¬ (0<=b/\b<=a)then 3 else 0)
 else if k=3 then(if ¬ (a=4\/a=9)then 18 else if ¬ (0<=b/\b<=a)then 3 else 0)
 else if k=4 then(if a≠0 then 18 else if b≠0 then 3 else 0)
 else 4
theorem iL(a b:Int):(a==b)=decide (a=b):=rfl
theorem OM{n:Nat}(hn:1001<=n)(c:gj.Z->Option Int)(x y:Bool):gj.uN n c x y=some (if !x then 18 else if !y then 3 else 0):=by
 unfold gj.uN;rw[rD,ab,rD,ab,Ai hn,ab];cases x<;>cases y<;>rfl
theorem w5{n:Nat}(hn:1001<=n)(k a b:Int):gj.F n k a b=some (mM k a b):=by
 obtain⟨m,rfl⟩:∃m,n=m+1:=⟨n - 1,by omega⟩;unfold gj.F gj.e mM;have hl:∀x y,gj.l (m+1) (m+1) (.dC x y)=some (if !x then 18 else if !y then 3 else 0):=λx y=>OM hn (gj.l (m+1) m) x y;simp only[hl,JK,ab,iL];by_cases h0:k=0
 ·rw[cU h0];by_cases h1:1<=a/\a<=256<;>by_cases h2:b=0<;>simp only[h0,h1,h2]<;>(try simp)<;>(try (first|omega|(split<;>split<;>omega)))
 ·rw[cV h0];by_cases h1:k=1
  ·rw[cU h1];by_cases h2:1<=a/\a<=15<;>by_cases h3:0<=b/\b<=a<;>simp only[h1,h2,h3]<;>(try simp)<;>(try (first|omega|(split<;>split<;>omega)))
  ·rw[cV h1];by_cases h2:k=2
   ·rw[cU h2];by_cases h4:1<=a/\a<=15<;>by_cases h3:0<=b/\b<=a<;>simp only[h2,h4,h3]<;>(try simp)<;>(try (first|omega|(split<;>split<;>omega)))
   ·rw[cV h2];by_cases h3:k=3
    ·rw[cU h3];by_cases ha:a=4
     ·rw[cU ha];by_cases h5:0<=b/\b<=a<;>simp only[h3,h5]<;>(try simp[ha])<;>(try (first|omega|(split<;>split<;>omega)))
     ·rw[cV ha];by_cases h6:a=9<;>by_cases h5:0<=b/\b<=a<;>simp only[h3,h5,h6,ha]<;>(try simp)<;>(try (first|omega|(split<;>split<;>omega)))
    ·rw[cV h3];by_cases h4:k=4
     ·rw[cU h4];by_cases h5:a=0<;>by_cases h6:b=0<;>simp only[h4,h5,h6]<;>(try simp)<;>(try (first|omega|(split<;>split<;>omega)))
     ·rw[cV h4];simp[h0,h1,h2,h3,h4]
theorem count_eq(n:Nat)(b:Bool):lU.F n b=some (if b then 1 else 0):=by cases b<;>rfl
theorem vw{n:Nat}(hn:3<=n)(k a b:Int):lh.F n k a b=some (mM k a b):=by
 obtain⟨m,rfl⟩:∃m,n=m+1:=⟨n - 1,by omega⟩;unfold lh.F lh.e;have hl:∀x k a b,lh.l (m+1) (m+1) (.z12 x k a b)=some (if !x then 18 else if 1<=k/\k<=3 then(if 0<=b/\b<=a then 0 else 3)else(if b=0 then 0 else 3)):=by
  intro x k a b;show lh.ry (m+1) (lh.l (m+1) m) x k a b=_;unfold lh.ry q8.F q8.e;cases x with
  | false=>rfl
  | true=>
   simp only[gf,ab,count_eq,aI,cond_false];by_cases h:1<=k/\k<=3
   ·rw[cU h];simp only[b9,if_false,ag h];by_cases h2:0<=b/\b<=a
    ·simp only[h2,and_self,decide_true,aI,b9,if_false,ck];rfl
    ·simp only[h2,decide_false,aM,ck,if_false];rfl
   ·rw[cV h];simp only[b9,if_false,af h];by_cases h2:b=0
    ·subst h2;rfl
    ·have:¬ (0<=b/\b<=0):=by omega
     simp only[h2,this,decide_false,aM,ck,if_false];rfl
 simp only[hl,gf,ab,iL];unfold mM;by_cases hk:0<=k/\k<=4
 ·have:(!decide (0<=k/\k<=4))=false:=by simp[hk]
  rw[this,cond_false];by_cases h0:k=0
  ·rw[cU h0];by_cases h1:1<=a/\a<=256<;>by_cases h2:b=0<;>simp only[h0,h1,h2]<;>(try simp)<;>(try (first|omega|(split<;>split<;>omega)))
  ·rw[cV h0];by_cases h1:k=1
   ·rw[cU h1];by_cases h2:1<=a/\a<=15<;>by_cases h3:0<=b/\b<=a<;>simp only[h1,h2,h3]<;>(try simp)<;>(try (first|omega|(split<;>split<;>omega)))
   ·rw[cV h1];by_cases h2:k=2
    ·rw[cU h2];by_cases h4:1<=a/\a<=15<;>by_cases h3:0<=b/\b<=a<;>simp only[h2,h4,h3]<;>(try simp)<;>(try (first|omega|(split<;>split<;>omega)))
    ·rw[cV h2];by_cases h3:k=3
     ·rw[cU h3];by_cases ha:a=4
      ·rw[cU ha];by_cases h5:0<=b/\b<=a<;>simp only[h3,h5]<;>(try simp[ha])<;>(try (first|omega|(split<;>split<;>omega)))
      ·rw[cV ha];by_cases h6:a=9<;>by_cases h5:0<=b/\b<=a<;>simp only[h3,h5,h6,ha]<;>(try simp)<;>(try (first|omega|(split<;>split<;>omega)))
     ·rw[cV h3];have h4:k=4:=by omega
      by_cases h5:a=0<;>by_cases h6:b=0<;>simp only[h4,h5,h6]<;>(try simp)<;>(try (first|omega|(split<;>split<;>omega)))
 ·have:(!decide (0<=k/\k<=4))=true:=by simp;omega
  rw[this,ak,af (by omega),af (by omega),af (by omega),af (by omega)]
theorem empty_eq(l:List UInt8):((bs l).toList==(⟨#[]⟩:ByteArray).toList)=decide (l=[]):=by
 rw[ki,show(⟨#[]⟩:ByteArray).toList=([]:List UInt8)from ki []];cases l<;>rfl
theorem FP(c u:UInt8)(k:Nat)(hu:u.toNat=k):((((c.toNat:Nat):Int)) != ((k:Nat):Int))=decide (c≠u):=by
 have:(((c.toNat:Nat):Int)=((k:Nat):Int))↔c=u:=by
  constructor
  ·intro h;apply cz.1;omega
  ·rintro rfl;omega
 rw[cA,bne_iff_ne,ay];exact not_congr this
theorem fV(c u:UInt8)(k:Nat)(hu:u.toNat=k):((((c.toNat:Nat):Int))==((k:Nat):Int))=decide (c=u):=by
 have:(((c.toNat:Nat):Int)=((k:Nat):Int))↔c=u:=by
  constructor
  ·intro h;apply cz.1;omega
  ·rintro rfl;omega
 rw[cA,beq_iff_eq,ay];exact this
def Ws(ws:List (List UInt8)):List AV:=ws.map λw=>vs (bs w)
theorem dq(a:List (List UInt8)):(Ws a).length=a.length:=by simp[Ws]
def Qo(c:UInt8):Bool:=(decide (65<=c.toNat)&&decide (c.toNat<=90))||(decide (c=35)||(decide (c=36)||decide (c=64)))
def NC(c:UInt8):Bool:=eQ c||(decide (c=95)||decide (c=46))
def w4:Nat->List UInt8->Bool
 | _,[]=>true
 | i,c::r=>(Qo c||(decide (i≠0)&&NC c))&&w4 (i+1) r
theorem tc(i:Nat)(c:UInt8)(r:List UInt8):w4 i (c::r)=((Qo c||(decide (i≠0)&&NC c))&&w4 (i+1) r):=rfl
def gD(l:List UInt8):Bool:=(decide (1<=l.length)&&decide (l.length<=10))&&w4 0 l
theorem VP{α:Type}(f:Bool->α)(a b c d e:Bool):(bif a then(bif b then f true else(bif c then f true else(bif d then f true else f e)))else(bif c then f true else(bif d then f true else f e)))=f ((a&&b)||(c||(d||e))):=by
 cases a<;>cases b<;>cases c<;>cases d<;>rfl
theorem VQ{α:Type}(g:Bool->α)(a b c d:Bool):(bif a then(bif b then g true else(bif c then g true else g d))else(bif c then g true else g d))=g ((a&&b)||(c||d)):=by
 cases a<;>cases b<;>cases c<;>rfl
theorem uX(c:UInt8)(k:Nat):decide ((k:Int)<=((c.toNat:Nat):Int))=decide (k<=c.toNat):=by rw[bA];omega
theorem sh(c:UInt8)(k:Nat):decide (((c.toNat:Nat):Int)<=(k:Int))=decide (c.toNat<=k):=by rw[bA];omega
theorem B4(n:Nat)(l:List UInt8)(hl:l.length<=1000):∀(d i m:Nat),i+d=l.length->3*d<m->er.l n m (.z4 l.length i (l.map λb=>vu b.toNat))=some (w4 i (l.drop i))
 | _,_,0,_,h=>absurd h (by omega)
 | 0,i,m+1,h,_=>by
  rw[er.tj];unfold er.r4;rw[cV (by omega),aF (by omega)];rfl
 | d+1,i,m+1,h,hm=>by
  have hi:i<l.length:=by omega
  obtain⟨m,rfl⟩:∃q,m=q+2:=⟨m - 2,by omega⟩;have ih:=B4 n l hl d (i+1) m (by omega) (by omega);have e:(l.map λb=>vu b.toNat).getD (((i:Nat):Int)).toNat AV.undef=vu l[i].toNat:=by simp[ah,hi]
  have h8:∀z2 z3,er.l n (m+1) (.z8 i z2 z3 l.length i (l.map λb=>vu b.toNat))=some ((z2||(decide (i≠0)&&z3))&&w4 (i+1) (l.drop (i+1))):=by
   intro z2 z3;rw[er.at8];unfold er.r8;rw[dY (by omega),ih,iL];cases z2 with
   | true=>rfl
   | false=>
    by_cases h0:i=0
    ·subst h0;rfl
    ·rw[aM,ak,cV (by omega)];cases z3<;>simp[h0]
  have h7:∀b,er.l n (m+2) (.z7 i ((l[i].toNat:Nat):Int) b l.length i (l.map λb=>vu b.toNat))=some ((b||(decide (i≠0)&&NC l[i]))&&w4 (i+1) (l.drop (i+1))):=by
   intro b;rw[er.zi];unfold er.r7;rw[VQ (λq=>er.l n (m+1) (.z8 i b q l.length i (l.map λb=>vu b.toNat))),h8];unfold NC eQ;rw[show(48:Int)=((48:Nat):Int)from rfl,uX,show(57:Int)=((57:Nat):Int)from rfl,sh,show(95:Int)=((95:Nat):Int)from rfl,fV _ 95 95 rfl,show(46:Int)=((46:Nat):Int)from rfl,fV _ 46 46 rfl]
  rw[er.tj];unfold er.r4;rw[cU (by omega),aj,de hi,ak,e,aC hi];show(bif decide ((65:Int)<=((l[i].toNat:Nat):Int))then _ else _)=_;rw[VP (λq=>er.l n (m+2) (.z7 i ((l[i].toNat:Nat):Int) q l.length i (l.map λb=>vu b.toNat))),h7];rw[tc];unfold Qo;rw[show(65:Int)=((65:Nat):Int)from rfl,uX,show(90:Int)=((90:Nat):Int)from rfl,sh,show(35:Int)=((35:Nat):Int)from rfl,fV _ 35 35 rfl,show(36:Int)=((36:Nat):Int)from rfl,fV _ 36 36 rfl,
   show(64:Int)=((64:Nat):Int)from rfl,fV _ 64 64 rfl]
theorem mq{n:Nat}(hn:1001<=n)(l:List UInt8):er.F n (bs l)=some (gD l):=by
 unfold er.F er.e gD;rw[empty_eq];simp only[cY,ki,aj];by_cases h0:l=[]
 ·rw[cU h0];subst h0;rfl
 ·have qL:0<l.length:=bP.2 h0;rw[cV h0];by_cases h1:l.length>10
  ·rw[cU (by omega)];have:decide (l.length<=10)=false:=by rw[bH];omega
   rw[this];simp
  ·rw[cV (by omega)];have h2:decide (l.length<=10)=true:=by rw[ay];omega
   have h3:decide (1<=l.length)=true:=by rw[ay];omega
   rw[h2,h3];have:=B4 n l (by omega) l.length 0 n (by omega) (by omega);rw[aW]at this;exact this
theorem D5(n:Nat)(c:UInt8):ug.F n ((c.toNat:Nat):Int)=some (decide (65<=c.toNat)&&decide (c.toNat<=90)):=by
 unfold ug.F ug.e;rw[show(65:Int)=((65:Nat):Int)from rfl,uX,show(90:Int)=((90:Nat):Int)from rfl,sh];cases decide (65<=c.toNat)<;>rfl
theorem pf(n:Nat)(c:UInt8):oM.F n ((c.toNat:Nat):Int)=some (eQ c):=by
 unfold oM.F oM.e eQ;rw[show(48:Int)=((48:Nat):Int)from rfl,uX,show(57:Int)=((57:Nat):Int)from rfl,sh];cases decide (48<=c.toNat)<;>rfl
theorem RG{α:Type}(f:Bool->α)(p c d e:Bool):(bif p then f true else(bif c then f true else(bif d then f true else f e)))=f (p||(d||(c||e))):=by
 cases p<;>cases c<;>cases d<;>rfl
theorem yI(n:Nat)(l:List UInt8)(hl:l.length<=1000):∀(d i m:Nat),i+d=l.length->3*d<m->iF.l n m (.z4 (bs l) i)=some (w4 i (l.drop i))
 | _,_,0,_,h=>absurd h (by omega)
 | 0,i,m+1,h,_=>by
  rw[iF.tj];unfold iF.r4;simp only[cY];rw[cV (by omega),aF (by omega)];rfl
 | d+1,i,m+1,h,hm=>by
  have hi:i<l.length:=by omega
  obtain⟨m,rfl⟩:∃q,m=q+2:=⟨m - 2,by omega⟩;have ih:=yI n l hl d (i+1) m (by omega) (by omega);have h5:iF.l n (m+1) (.z5 (bs l) i)=some (w4 (i+1) (l.drop (i+1))):=by
   rw[iF.Ht];unfold iF.r5;rw[dY (by omega),ih]
  have h8:∀b,iF.l n (m+2) (.z8 (bs l) i ((l[i].toNat:Nat):Int) b)=some ((b||(decide (i≠0)&&NC l[i]))&&w4 (i+1) (l.drop (i+1))):=by
   intro b;rw[iF.at8];unfold iF.r8;rw[pf,ab,h5,iL,show(95:Int)=((95:Nat):Int)from rfl,FP _ 95 95 rfl,show(46:Int)=((46:Nat):Int)from rfl,FP _ 46 46 rfl];unfold NC;cases b with
   | true=>rfl
   | false=>
    by_cases h0:i=0
    ·subst h0;rfl
    ·rw[aM,ak,cV (by omega)];by_cases h1:l[i]=95<;>by_cases h2:l[i]=46<;>cases eQ l[i]<;>simp[h0,h1,h2]
  rw[iF.tj];unfold iF.r4;simp only[cY,de hi,au,getD_at hi,ak];rw[cU (by omega),D5,ab,RG (λq=>iF.l n (m+2) (.z8 (bs l) i ((l[i].toNat:Nat):Int) q)),h8,aC hi];rw[tc];unfold Qo;rw[show(35:Int)=((35:Nat):Int)from rfl,fV _ 35 35 rfl,show(36:Int)=((36:Nat):Int)from rfl,fV _ 36 36 rfl,
   show(64:Int)=((64:Nat):Int)from rfl,fV _ 64 64 rfl]
theorem qG{n:Nat}(hn:1001<=n)(l:List UInt8):iF.F n (bs l)=some (gD l):=by
 unfold iF.F iF.e gD;rw[gf,ab,cY];have e:decide ((1:Int)<=((l.length:Nat):Int)/\((l.length:Nat):Int)<=10)=(decide (1<=l.length)&&decide (l.length<=10)):=by
  rw[<-Bool.decide_and,bA];omega
 rw[e];cases h:(decide (1<=l.length)&&decide (l.length<=10))with
 | false=>rfl
 | true=>
  rw[ae,ay,ay]at h;have:=yI n l (by omega) l.length 0 n (by omega) (by omega);rw[aW]at this;exact this
theorem dK(a b:List UInt8):((bs a).toList==(bs b).toList)=decide (a=b):=by
 rw[ki,ki];by_cases h:a=b<;>simp[h]
def gA:List (List UInt8)->List UInt8->Nat->Int
 | [],_,_=>-1
 | w::r,s,i=>if w=s then(i:Int)else gA r s (i+1)
theorem lu(w:List UInt8)(r:List (List UInt8))(s:List UInt8)(i:Nat):gA (w::r) s i=if w=s then(i:Int)else gA r s (i+1):=rfl
theorem pN:∀(ws:List (List UInt8)) (s:List UInt8) (i:Nat),decide (gA ws s i>=0)=ws.contains s
 | [],s,i=>by simp[gA]
 | w::r,s,i=>by
  unfold gA;rw[ch];by_cases h:w=s
  ·subst h;simp
  ·have:(s==w)=false:=by simpa using λe=>h e.symm
   rw[af h,this,cH,pN r s (i+1)]
theorem JD:∀(ws:List (List UInt8)) (s:List UInt8) (i k:Nat),k<ws.length->ws[k]?=some s->decide (gA ws s i<((i+k:Nat):Int))=(ws.take k).contains s
 | w::r,s,i,0,_,h=>by
  simp at h;subst h;simp[gA]
 | w::r,s,i,k+1,hk,h=>by
  unfold gA;rw[cC,ch];by_cases e:w=s
  ·subst e;simp;omega
  ·have:(s==w)=false:=by simpa using λe'=>e e'.symm
   rw[af e,this,cH,<-JD r s (i+1) k (by simpa using hk) (by simpa using h),show i+(k+1)=i+1+k by omega]
theorem dA(cs:List AV):(AV.agg cs).cells=cs:=rfl
theorem dZ(x:Value):(AV.v x).cells=[.v x]:=rfl
theorem cZ(c:AV)(r:List AV)(K:AV->List AV->Option R):cN (c::r) K=K c r:=rfl
theorem dh(k:IntKind)(n:Int)(K:Int->Option R):cQ k (.v (.int k n)) K=K n:=by simp[cQ]
theorem dn(s:ByteArray)(K:ByteArray->Option R):df (.v (.string s)) K=K s:=rfl
theorem dz(b:Bool)(K:Bool->Option R):gm (.v (.bool b)) K=K b:=rfl
theorem dx(fl:Fl)(sz:Nat)(xs:List AV)(K:List AV->Option R):gU fl sz (.sl fl sz xs) K=K xs:=by
 have:(fl==fl)=true:=by simp
 simp[gU]
theorem u6{p:Prop}[Decidable p](x y:R):(bif decide p then x else y)=if p then x else y:=by by_cases h:p<;>simp[h]
theorem dD(a b:Int)(x y:R):(bif a==b then x else y)=if a=b then x else y:=by
 show(bif decide (a=b)then x else y)=_;exact u6 x y
theorem mV(b:Bool)(x y:R):(bif !b then x else y)=if b=false then x else y:=by cases b<;>rfl
theorem dR{α:Type}(f:α->AV){l:List α}{i:Nat}(hi:i<l.length):(l.map f).getD i AV.undef=f l[i]:=by simp[ah,hi]
theorem dV{ws:List (List UInt8)}{i:Nat}(hi:i<ws.length):(Ws ws).getD i AV.undef=vs (bs ws[i]):=by simp[Ws,ah,hi]
def Dr(k l:Int):Int:=if k=1 then l / 2+1 else if k=3 then(if l=9 then 4 else 2)else if k=4 then 16 else l
theorem la{k l s:Int}(h:mM k l s=0):(k=0/\1<=l/\l<=256)\/((k=1\/k=2)/\1<=l/\l<=15)\/(k=3/\(l=4\/l=9))\/(k=4/\l=0):=by
 unfold mM at h;by_cases h0:k=0
 ·rw[ag h0]at h;by_cases h1:1<=l/\l<=256
  ·exact .inl ⟨h0,h1⟩
  ·rw[ag h1]at h;cases h
 ·rw[af h0]at h;by_cases h1:k=1\/k=2
  ·rw[ag h1]at h;by_cases h2:1<=l/\l<=15
   ·exact .inr (.inl ⟨h1,h2⟩)
   ·rw[ag h2]at h;cases h
  ·rw[af h1]at h;by_cases h3:k=3
   ·rw[ag h3]at h;by_cases h2:l=4\/l=9
    ·exact .inr (.inr (.inl ⟨h3,h2⟩))
    ·rw[ag h2]at h;cases h
   ·rw[af h3]at h;by_cases h4:k=4
    ·rw[ag h4]at h;by_cases h2:l=0
     ·exact .inr (.inr (.inr ⟨h4,h2⟩))
     ·rw[ag h2]at h;cases h
    ·rw[af h4]at h;cases h
theorem py{k l s:Int}(h:mM k l s=0):0<=Dr k l/\Dr k l<=256:=by
 unfold Dr;rcases la h with⟨h1,h2⟩|⟨h1,h2⟩|⟨h1,h2⟩|⟨h1,h2⟩<;>(repeat' split)<;>omega
theorem Jd(n:Nat){k l s:Int}(h:mM k l s=0):tr.F n k l s=some (Dr k l):=by
 unfold tr.F tr.e Dr;have hc:=la h;have h0:0<=l/\l<=256:=by omega
 simp only[dD];rw[Int.tdiv_eq_ediv_of_nonneg h0.1,Int.tdiv_eq_ediv_of_nonneg h0.1];by_cases h1:k=1
 ·rw[ag h1,ag h1,jU (x:=l / 2) (by omega) (by omega),jU (by omega) (by omega)]
 ·rw[af h1,af h1];by_cases h3:k=3
  ·rw[ag h3,ag h3];have:l=4\/l=9:=by omega
   rcases this with rfl|rfl<;>rfl
  ·rw[af h3,af h3];split<;>rfl
theorem w6(n:Nat){k l s:Int}(h:mM k l s=0):q9.F n k l s=some (Dr k l):=by
 unfold q9.F q9.e Dr;have hc:=la h;have h0:0<=l/\l<=256:=by omega
 simp only[dD];rw[Int.tdiv_eq_ediv_of_nonneg h0.1];by_cases h1:k=1
 ·rw[ag h1,ag h1,jU (x:=l / 2) (by omega) (by omega),jU (by omega) (by omega)]
 ·rw[af h1,af h1];by_cases h3:k=3
  ·rw[ag h3,ag h3,count_eq];have:l=4\/l=9:=by omega
   rcases this with rfl|rfl<;>rfl
  ·rw[af h3,af h3];split<;>rfl
theorem sizeOf_eq{n:Nat}(hn:1001<=n){k l s:Int}(h:mM k l s=0):mN.F n k l s=some (Dr k l,0):=by
 unfold mN.F mN.e;rw[w5 hn,ab,h];show((tr.F n k l s).bind λp=>some (p,0))=_;rw[Jd n h];rfl
end Go.Proofs.YtnoldakbllfmnaaGreatDoor.Ev
namespace Go.Proofs.YtnoldakbllfmnaaGreatDoor.Ev
open Go Go.Proofs Go.Proofs.Ev
structure OP where
 nm:List UInt8
 kd:Int
 k:Int
 l:Int
 s:Int
 vn:Int
 vx:List UInt8
 ba:List UInt8
 of:Int
 tg:Int
structure IN where
 op:Int
 ar:List Int
structure MN where
 fr:Int
 tt:Int
 ex:Int
 hd:Int
def OP.av(x:OP):AV:=.agg [vs (bs x.nm),vi x.kd,vi x.k,vi x.l,vi x.s,vi x.vn,vs (bs x.vx),vs (bs x.ba),vi x.of,vi x.tg]
def IN.av(x:IN):AV:=.agg [vi x.op,.sl ⟨true,3,false⟩ 1 (x.ar.map vi)]
def MN.av(x:MN):AV:=.agg [vi x.fr,vi x.tt,vi x.ex,vi x.hd]
def dH(os:List OP):List (List UInt8):=os.map OP.nm
theorem fu(os:List OP):(dH os).length=os.length:=by simp[dH]
theorem qB{os:List OP}{i:Nat}(hi:i<os.length):(dH os)[i]'(by rw[fu];exact hi)=os[i].nm:=by simp[dH]
theorem tJ(os:List OP)(i:Nat):dH (os.take i)=(dH os).take i:=by simp[dH,List.map_take]
section
variable {n:Nat} {a1 a2:List AV}
theorem Fi(hn:1001<=n)(os:List OP)(ho:os.length<=1000)(s:List UInt8):∀(d i m:Nat),i+d=os.length->d<m->gE.l n m (.z2 (os.map OP.av) os.length i (bs s))=some (gA ((dH os).drop i) s i,bs s)
 | _,_,0,_,h=>absurd h (by omega)
 | 0,i,m+1,h,_=>by
  have hl:=fu os;rw[gE.oE];unfold gE.r2;rw[cV (by omega),aF (by omega)];rfl
 | d+1,i,m+1,h,hm=>by
  have hi:i<os.length:=by omega
  have hl:=fu os;have ih:=Fi hn os ho s d (i+1) m (by omega) (by omega);rw[gE.oE];unfold gE.r2;simp(disch:=omega)only[ab,aB,ak,cond_false,aI,aM,aj,dq,cY,de,ec,dY,au,dR,dV,dA,dZ,cZ,dh,dn,dz,dx,cU,cV,OP.av];unfold jH.F jH.e;simp(disch:=omega)only[ab,aB,ak,cond_false,aI,aM,aj,dq,cY,de,ec,dY,au,dR,dV,dA,dZ,cZ,dh,dn,dz,dx,cU,cV];rw[ih,aC (by omega:i<(dH os).length),lu,qB hi,dK];by_cases h1:os[i].nm=s
  ·rw[cU h1,ag h1]
  ·rw[cV h1,af h1]
theorem rE(hn:1001<=n)(os:List OP)(ho:os.length<=1000)(s:List UInt8):mh.F n (os.map OP.av) (bs s)=some (gA (dH os) s 0):=by
 unfold mh.F mh.e gE.F gE.e;have:=Fi hn os ho s os.length 0 n (by omega) (by omega);rw[aW]at this;rw[aj,show((0:Int))=((0:Nat):Int)from rfl,this];rfl
theorem Ts(hn:1001<=n)(os:List OP)(ho:os.length<=1000)(s:List UInt8):∀(d i m:Nat),i+d=os.length->d<m->iO.l n m (.z2 (bs s) i (os.map OP.av) a1 a2)=some (gA ((dH os).drop i) s i)
 | _,_,0,_,h=>absurd h (by omega)
 | 0,i,m+1,h,_=>by
  have hl:=fu os;rw[iO.oE];unfold iO.r2;simp only[aj];rw[cV (by omega),aF (by omega)];rfl
 | d+1,i,m+1,h,hm=>by
  have hi:i<os.length:=by omega
  have hl:=fu os;have ih:=Ts hn os ho s d (i+1) m (by omega) (by omega);rw[iO.oE];unfold iO.r2;simp(disch:=omega)only[ab,aB,ak,cond_false,aI,aM,aj,dq,cY,de,ec,dY,au,dR,dV,dA,dZ,cZ,dh,dn,dz,dx,cU,cV,OP.av];rw[ih,aC (by omega:i<(dH os).length),lu,qB hi,dK];by_cases h1:os[i].nm=s
  ·rw[cU h1,ag h1]
  ·rw[cV h1,af h1]
theorem KN(hn:1001<=n)(os:List OP)(ho:os.length<=1000)(s:List UInt8):iO.F n (os.map OP.av) a1 a2 (bs s)=some (gA (dH os) s 0):=by
 unfold iO.F iO.e;have:=Ts (a1:=a1) (a2:=a2) hn os ho s os.length 0 n (by omega) (by omega);rw[aW]at this;rw[show((0:Int))=((0:Nat):Int)from rfl,this]
end
theorem pq(a b:List UInt8):(bs a==bs b)=decide (a=b):=by
 show(a.toArray==b.toArray)=_;by_cases h:a=b
 ·subst h;simp
 ·simp[h]
theorem qQ(a:List UInt8):(bs a==(⟨#[]⟩:ByteArray))=decide (a=[]):=pq a []
theorem s8(a:List UInt8):((⟨#[]⟩:ByteArray)==bs a)=decide (a=[]):=by
 have:=pq [] a;rw[show bs []=(⟨#[]⟩:ByteArray)from rfl]at this;rw[this,bA];exact⟨λh=>h.symm,λh=>h.symm⟩
theorem Fq:∀(a b:List (List UInt8)) (s:List UInt8) (j:Nat),gA (a++b) s j=if a.contains s=true then gA a s j else gA b s (j+a.length)
 | [],b,s,j=>by simp
 | w::a,b,s,j=>by
  rw[cm,lu,lu,Fq a b s (j+1),ch];by_cases h:w=s
  ·subst h;simp
  ·have:(s==w)=false:=by simpa using λe=>h e.symm
   rw[af h,this,cH,az,show j+1+a.length=j+(a.length+1) by omega];by_cases h2:a.contains s=true
   ·rw[ag h2,ag h2,af h]
   ·rw[af h2,af h2]
theorem pM:∀(b:List (List UInt8)) (s:List UInt8) (j:Nat),gA b s j=-1\/(j:Int)<=gA b s j
 | [],s,j=>.inl rfl
 | w::b,s,j=>by
  rw[lu];by_cases h:w=s
  ·rw[ag h];exact .inr (Int.le_refl _)
  ·rw[af h];rcases pM b s (j+1)with h1|h1
   ·exact .inl h1
   ·exact .inr (by omega)
theorem wv:∀(b:List (List UInt8)) (s:List UInt8) (j:Nat),b.contains s=true->∃k,k<b.length/\gA b s j=((j+k:Nat):Int)/\b[k]?=some s
 | [],s,j,h=>by simp at h
 | w::b,s,j,h=>by
  rw[lu];by_cases e:w=s
  ·rw[ag e];exact⟨0,by simp,rfl,by simp[e]⟩
  ·rw[ch,show(s==w)=false by simpa using λe'=>e e'.symm,cH]at h;obtain⟨k,h1,h2,h3⟩:=wv b s (j+1) h;rw[af e,h2];exact⟨k+1,by simpa using h1,by rw[show j+1+k=j+(k+1) by omega],by simpa using h3⟩
theorem Md{b:List (List UInt8)}{s:List UInt8}(h:b.contains s=false)(j:Nat):gA b s j=-1:=by
 have h1:=pN b s j;rw[h,bH]at h1;rcases pM b s j with h2|h2
 ·exact h2
 ·omega
def ja(k:Int):Bool:=decide (k=0\/k=1\/k=2\/k=4)
section
variable {n:Nat}
theorem vU(n:Nat)(a0:ByteArray)(a1 a2 a3 a4 a5:Int)(a6 a7:ByteArray)(a8 a9:Int):iZ.F n a0 a1 a2 a3 a4 a5 a6 a7 a8 a9=some (ja a1):=by
 unfold iZ.F iZ.e ja;simp only[dD];by_cases h0:a1=0
 ·simp[h0]
 ·by_cases h1:a1=1
  ·simp[h1]
  ·by_cases h2:a1=2
   ·simp[h2]
   ·simp[h0,h1,h2,iL]
theorem qv(n:Nat)(a:Int):q7.F n a=some (decide (a=0\/a=1\/a=2)):=by
 unfold q7.F q7.e;simp only[dD];by_cases h0:a=0
 ·simp[h0]
 ·by_cases h1:a=1
  ·simp[h1]
  ·simp[h0,h1,iL]
theorem rv(n:Nat)(a:Int):qT.F n a=some (ja a):=by
 unfold qT.F qT.e ja;rw[qv,ab];by_cases h:a=0\/a=1\/a=2
 ·rw[cU h];have:a=0\/a=1\/a=2\/a=4:=by omega
  simp[this]
 ·rw[cV h,iL];congr 1;rw[bA];omega
theorem sI(n:Nat)(a b c:Int):ee.F n a b c=some (decide (b<=a/\a<=c)):=by
 unfold ee.F ee.e;by_cases h:b<=a
 ·rw[cU h];simp[h]
 ·rw[cV h];simp[h]
def Te(o:OP):Bool:=!(decide (o.vn=0)&&decide (o.vx=[]))
def Tg(o:OP):Bool:=!(decide (o.ba=[])&&decide (o.of=0))
def Ug(o:OP):Bool:=!(decide (o.k=0)&&(decide (o.l=0)&&decide (o.s=0)))
def Tf(o:OP):Bool:=!decide (o.tg=0)
def extra(o:OP):Bool:=if o.kd=0\/o.kd=4 then Tg o||Tf o else if o.kd=1\/o.kd=2 then Te o||Tf o else if o.kd=3 then Ug o||(Te o||(Tg o||Tf o))else Ug o||(Te o||Tg o)
def Qq(p:gn.T)(o:OP):Bool:=!((p.1==bs o.nm)&&((p.2.1==o.kd)&&((p.2.2.1==o.k)&&((p.2.2.2.1==o.l)&&((p.2.2.2.2.1==o.s)&&((p.2.2.2.2.2.1==o.vn)&&((p.2.2.2.2.2.2.1==bs o.vx)&&((p.2.2.2.2.2.2.2.1==bs o.ba)&&((p.2.2.2.2.2.2.2.2.1==o.of)&&((p.2.2.2.2.2.2.2.2.2==o.tg)&&true))))))))))
theorem FY(a:Int):((0:Int)==a)=decide (a=0):=by rw[iL,bA];omega
theorem Mb(hn:1001<=n)(o:OP):∃p,gn.F n (bs o.nm) o.kd o.k o.l o.s o.vn (bs o.vx) (bs o.ba) o.of o.tg=some p/\(0<=o.kd/\o.kd<=5->Qq p o=extra o):=by
 obtain⟨m,rfl⟩:∃m,n=m+2:=⟨n - 2,by omega⟩;obtain⟨nm,kd,k,l,s,vn,vx,ba,of,tg⟩:=o;unfold gn.F gn.e;simp only[vU,ab,dD,gn.zi,gn.MZ,gn.xN];unfold gn.r7 gn.E4;simp only[gn.xN];unfold gn.uN ja extra Qq Te Tg Ug Tf;by_cases h0:kd=0
 ·subst h0;refine⟨_,by simp;rfl,λ_=>?_⟩;simp[pq,qQ,s8,FY,Bool.not_and,Bool.or_assoc]
 ·by_cases h4:kd=4
  ·subst h4;refine⟨_,by simp;rfl,λ_=>?_⟩;simp[pq,qQ,s8,FY,Bool.not_and,Bool.or_assoc]
  ·by_cases h1:kd=1
   ·subst h1;refine⟨_,by simp;rfl,λ_=>?_⟩;simp[pq,qQ,s8,FY,Bool.not_and,Bool.or_assoc]
   ·by_cases h2:kd=2
    ·subst h2;refine⟨_,by simp;rfl,λ_=>?_⟩;simp[pq,qQ,s8,FY,Bool.not_and,Bool.or_assoc]
    ·by_cases h5:kd=5
     ·subst h5;refine⟨_,by simp;rfl,λ_=>?_⟩;simp[pq,qQ,s8,FY,Bool.not_and,Bool.or_assoc]
     ·refine⟨_,by simp[h0,h1,h2,h4,h5];rfl,λhh=>?_⟩;obtain rfl:kd=3:=by omega
      simp[pq,qQ,s8,FY,Bool.not_and,Bool.or_assoc]
theorem Cr(hn:1001<=n)(o:OP)(hk:0<=o.kd/\o.kd<=5):kl.F n (bs o.nm) o.kd o.k o.l o.s o.vn (bs o.vx) (bs o.ba) o.of o.tg=some (extra o):=by
 obtain⟨m,rfl⟩:∃m,n=m+2:=⟨n - 2,by omega⟩;obtain⟨nm,kd,k,l,s,vn,vx,ba,of,tg⟩:=o;simp only at hk;unfold kl.F kl.e;simp only[dD,kl.Ht,kl.at8,empty_eq];unfold kl.r5 kl.r8 extra Te Tg Ug Tf;simp only[qQ,iL];have hd:kd=0\/kd=1\/kd=2\/kd=3\/kd=4\/kd=5:=by omega
 rcases hd with rfl|rfl|rfl|rfl|rfl|rfl<;>by_cases e1:ba=[]<;>by_cases e2:of=0<;>by_cases e3:vn=0<;>by_cases e4:vx=[]<;>by_cases e5:tg=0<;>by_cases e6:k=0<;>by_cases e7:l=0<;>by_cases e8:s=0<;>simp[e1,e2,e3,e4,e5,e6,e7,e8]
end
section
variable {n:Nat}
theorem eG{α:Type}(a b:Int)(x y:α):(bif a != b then x else y)=if a=b then y else x:=by
 by_cases h:a=b
 ·subst h;simp
 ·rw[af h,bne_iff_ne.2 h,ak]
theorem Rt(n L:Nat)(hL:L<=18):∀(d i m:Nat),i+d=L->d<m->fK.l n m (.z3 ((10 ^ i:Nat):Int) (L:Int) (i:Int))=some ((10 ^ L:Nat):Int)
 | _,_,0,_,h=>absurd h (by omega)
 | 0,i,m+1,h,_=>by
  obtain rfl:i=L:=by omega
  rw[fK.PT];unfold fK.r3;rw[cV (by omega)]
 | d+1,i,m+1,h,hm=>by
  have ih:=Rt n L hL d (i+1) m (by omega) (by omega);have hp:10 ^ (i+1)<=10 ^ 18:=bJ (by omega) (by omega);have he:10 ^ (i+1)=10 ^ i*10:=Nat.pow_succ ..;rw[fK.PT];unfold fK.r3;rw[cU (by omega),dY (by omega),jU (by omega) (by omega),show((10 ^ i:Nat):Int)*10=((10 ^ (i+1):Nat):Int) by omega];exact ih
theorem I2(hn:1001<=n){l:Int}(h0:0<=l)(h1:l<=18):fK.F n l=some ((10 ^ l.toNat:Nat):Int):=by
 unfold fK.F fK.e;have:=Rt n l.toNat (by omega) l.toNat 0 n (by omega) (by omega);rw[af (by omega)];rw[show((l.toNat:Nat):Int)=l by omega]at this;exact this
theorem Nt(n L:Nat)(hL:L<=18):∀(d i m:Nat),i+d=L->d<m->kW.l n m (.z3 (L:Int) ((10 ^ i:Nat):Int) (i:Int))=some ((10 ^ L:Nat):Int)
 | _,_,0,_,h=>absurd h (by omega)
 | 0,i,m+1,h,_=>by
  obtain rfl:i=L:=by omega
  rw[kW.PT];unfold kW.r3;rw[cV (by omega)]
 | d+1,i,m+1,h,hm=>by
  have ih:=Nt n L hL d (i+1) m (by omega) (by omega);have hp:10 ^ (i+1)<=10 ^ 18:=bJ (by omega) (by omega);have he:10 ^ (i+1)=10 ^ i*10:=Nat.pow_succ ..;rw[kW.PT];unfold kW.r3;rw[cU (by omega),dY (by omega),jU (by omega) (by omega),show((10 ^ i:Nat):Int)*10=((10 ^ (i+1):Nat):Int) by omega];exact ih
theorem Gg(hn:1001<=n){l:Int}(h0:0<=l)(h1:l<=18):kW.F n l=some ((10 ^ l.toNat:Nat):Int):=by
 unfold kW.F kW.e;have:=Nt n l.toNat (by omega) l.toNat 0 n (by omega) (by omega);rw[show((l.toNat:Nat):Int)=l by omega]at this;exact this
def kF(l:Int):Int:=((10 ^ l.toNat:Nat):Int) - 1
def nL(k l vn:Int)(vx:List UInt8):Int:=
 if k=0 then(if vn≠0 then 5 else if(vx.length:Int)≠l then 18 else 0)else(if vx≠[]then 5 else if ¬ (-(kF l)<=vn/\vn<=kF l)then 19 else 0)
theorem tL{l:Int}(h1:l<=18):0<=kF l/\kF l<=1000000000000000000:=by
 unfold kF;have hp:10 ^ l.toNat<=10 ^ 18:=bJ (by omega) (by omega);have hq:0<10 ^ l.toNat:=Nat.pow_pos (by omega);omega
theorem xL(hn:1001<=n){k l s vn:Int}{vx:List UInt8}(ht:mM k l s=0)(h4:k≠4):lR.F n k l s vn (bs vx)=some (nL k l vn vx):=by
 unfold lR.F lR.e nL;have hc:=la ht;simp only[w5 hn,rD,Ai hn,ab,ht,iL,h4,decide_false,b9,if_false,ne_eq,not_true_eq_false,eG,ck,u6,empty_eq];by_cases h0:k=0
 ·rw[ag h0,ag h0];by_cases h1:vn=0<;>by_cases h2:((vx.length:Nat):Int)=l<;>simp[h1,h2,cY]
 ·rw[af h0,af h0,I2 hn (by omega) (by omega),ab];have hm:=tL (l:=l) (by omega);have e:IntKind.i64.wrap (((10 ^ l.toNat:Nat):Int) - 1)=kF l:=by
   unfold kF at hm ⊢;rw[jU (by omega) (by omega)]
  rw[e,jU (x:=0 - kF l) (by omega) (by omega),JK,ab,show(0:Int) - kF l=-(kF l) by omega];by_cases h1:vx=[]<;>by_cases h2 : -(kF l)<=vn/\vn<=kF l<;>simp[h1,h2]
theorem Bf(hn:1001<=n){k l s vn:Int}{vx:List UInt8}(ht:mM k l s=0)(h4:k≠4):km.F n k l s vn (bs vx)=some (nL k l vn vx):=by
 obtain⟨m,rfl⟩:∃m,n=m+2:=⟨n - 2,by omega⟩;unfold km.F km.e nL;have hc:=la ht;simp only[vw (show 3<=m+2 by omega),ab,ht,dD,h4,if_false,eG,ck,empty_eq,km.zi,km.at8,mV];unfold km.r7 km.r8;simp only[dD,count_eq,ab];by_cases h0:k=0
 ·simp only[ag h0];by_cases h1:vn=0<;>by_cases h2:((vx.length:Nat):Int)=l<;>simp[h1,h2,cY]<;>decide
 ·simp only[af h0];have hm:=tL (l:=l) (by omega);have hM:tu.F (m+2) k l s=some (kF l):=by
   unfold tu.F tu.e;rw[Gg hn (by omega) (by omega),ab];unfold kF at hm ⊢;rw[jU (by omega) (by omega)]
  simp only[hM,ab];rw[jU (x:=0 - kF l) (by omega) (by omega),gf,ab,show(0:Int) - kF l=-(kF l) by omega];by_cases h1:vx=[]<;>by_cases h2 : -(kF l)<=vn/\vn<=kF l<;>simp[h1,h2]<;>decide
def lC:OP:=⟨[],0,0,0,0,0,[],[],0,0⟩
def OU(os:List OP):Prop:=∀o∈os,ja o.kd=true->mM o.k o.l o.s=0
def under(before:List OP)(o:OP):OP:=before.getD (gA (dH before) o.ba 0).toNat lC
def QK(before:List OP)(o:OP):Int:=
 if(dH before).contains o.ba=false then 11
 else if o.kd=2 then(if(under before o).kd≠3 then 17 else if ¬ (0<=o.of/\o.of<=256)then 3 else 0)
 else if(under before o).kd≠0 then 17 else if ¬ (0<=o.of/\o.of<=Dr (under before o).k (under before o).l - Dr o.k o.l)then 3 else 0
theorem Bk{before:List OP}{o:OP}(h:(dH before).contains o.ba=true):∃j,∃hj:j<before.length,gA (dH before) o.ba 0=(j:Int)/\under before o=before[j]:=by
 obtain⟨j,h1,h2,h3⟩:=wv (dH before) o.ba 0 h;rw[fu]at h1;refine⟨j,h1,by rw[h2,bO],?_⟩;unfold under;rw[h2,bO,au,ah,aN h1,Option.getD_some]
theorem dX{b:Bool}(h:b=true){α:Type}(x:Option α):(bif b then x else none)=x:=by rw[h];rfl
theorem w9(hn:1001<=n)(before:List OP)(hb:before.length<=1000)(fF:OU before)(o:OP)(hk:o.kd=1\/o.kd=2)(ht:mM o.k o.l o.s=0) :
  nF.F n (bs o.nm) o.kd o.k o.l o.s o.vn (bs o.vx) (bs o.ba) o.of o.tg (before.map OP.av)=some (QK before o):=by
 unfold nF.F nF.e QK;rw[rE hn before hb,ab];by_cases hc:(dH before).contains o.ba=true
 ·obtain⟨j,hj,e1,e2⟩:=Bk hc;rw[e1,e2,af (by rw[hc];simp),cV (by omega)];simp(disch:=omega)only[ab,aB,ak,cond_false,aI,aM,aj,dq,cY,de,ec,dY,au,dR,dV,dA,dZ,cZ,dh,dn,dz,dx,cU,cV,OP.av];rw[dD];by_cases h2:o.kd=2
  ·rw[ag h2,ag h2,n_,ab,sI,ab,n_,ab];rw[AH hn,ab];by_cases h3:before[j].kd=3<;>by_cases h4:0<=o.of/\o.of<=256<;>simp[h3,h4]
  ·rw[af h2,af h2,eG];by_cases h0:before[j].kd=0
   ·have hd:ja before[j].kd=true:=by simp[ja,h0]
    have hu:=fF _ (aZ hj) hd;have r1:=py hu;have r2:=py ht;rw[ag h0,af (by simp[h0])];unfold qS.F qS.e;rw[sizeOf_eq hn hu,ab,ab,sizeOf_eq hn ht,ab,ab,jU (by omega) (by omega),sI,ab,n_,ab];by_cases h4:0<=o.of/\o.of<=Dr before[j].k before[j].l - Dr o.k o.l<;>simp[h4]
   ·rw[af h0,ag h0]
 ·rw[a_]at hc;rw[Md hc,ag hc,cU (by omega)]
def DQ(before:List OP)(o:OP)(nI:Nat):Int:=
 if gD o.nm=false then 7 else if(dH before).contains o.nm=true then 13 else if ¬ (0<=o.kd/\o.kd<=5)then 4 else if extra o=true then 5
 else if ja o.kd=true/\mM o.k o.l o.s≠0 then mM o.k o.l o.s else if ja o.kd=true/\o.k=4 then 17
 else if o.kd=0\/o.kd=4 then nL o.k o.l o.vn o.vx else if o.kd=1\/o.kd=2 then QK before o else if o.kd=5 then(if 0<=o.tg/\o.tg<=(nI:Int) - 1 then 0 else 3)else 0
theorem Ja(hn:1001<=n)(os:List OP)(ho:os.length<=1000)(is:List IN)(mL : is.length<=1000)(a2:List AV)(i:Nat)(hi:i<os.length)(fF:OU (os.take i)) :
  iB.F n (os.map OP.av) (is.map IN.av) a2 (i:Int)=some (DQ (os.take i) os[i] is.length):=by
 obtain⟨m,rfl⟩:∃m,n=m+2:=⟨n - 2,by omega⟩;unfold iB.F iB.e;simp(disch:=omega)only[ab,aB,ak,cond_false,aI,aM,aj,dq,cY,de,ec,dY,au,dR,dV,dA,dZ,cZ,dh,dn,dz,dx,cU,cV,OP.av];rw[show((os.map OP.av).take i).drop 0=(os.take i).map OP.av by simp[List.map_take]];obtain⟨p,NX,Ld⟩:=Mb hn os[i];simp only[mq hn,n_,ab,rE hn (os.take i) (by rw[bd];omega),sI,NX,vU];have Le:=CH (n:=m+2) [(if(!gD os[i].nm)=true then 7 else 0),(if decide (gA (dH (os.take i)) os[i].nm 0>=0)=true then 13 else 0),(if(!decide (0<=os[i].kd/\os[i].kd<=5))=true then 4 else 0),(if Qq p os[i]=true then 5 else 0)] (by simp) hn;have J1 : dU.F (m+2) [vi (if(!gD os[i].nm)=true then 7 else 0),vi (if decide (gA (dH (os.take i)) os[i].nm 0>=0)=true then 13 else 0),vi (if(!decide (0<=os[i].kd/\os[i].kd<=5))=true then 4 else 0),vi (if Qq p os[i]=true then 5 else 0)]=_:=Le;rw[pN]at J1;simp only[pN,ge_iff_le]at J1 ⊢;unfold Qq at J1;rw[J1];show(some (fz [(if(!gD os[i].nm)=true then 7 else 0),(if(dH (os.take i)).contains os[i].nm=true then 13 else 0),(if(!decide (0<=os[i].kd/\os[i].kd<=5))=true then 4 else 0),(if Qq p os[i]=true then 5 else 0)])).bind _=_;rw[ab];clear Le J1 NX;unfold DQ;cases h1:gD os[i].nm with
 | false=>simp[fz]
 | true=>
  cases h2:(dH (os.take i)).contains os[i].nm with
  | true=>simp[fz]
  | false=>
   by_cases hk:0<=os[i].kd/\os[i].kd<=5
   ·rw[Ld hk];cases he:extra os[i]with
    | true=>simp[fz,hk]
    | false=>
     have hz:fz [(if(!true)=true then 7 else 0),(if false=true then 13 else 0),(if(!decide (0<=os[i].kd/\os[i].kd<=5))=true then 4 else 0),(if false=true then 5 else 0)]=0:=by simp[fz,hk]
     rw[hz,eG,ag rfl];simp only[af (show ¬ (true=false) by simp),af (show ¬ (false=true) by simp),af (cd hk)];simp only[w5 hn,ab,AH hn,dD,eG,iB.EG,iB.CZ];unfold iB.ry iB.qX;have hd:os[i].kd=0\/os[i].kd=1\/os[i].kd=2\/os[i].kd=3\/os[i].kd=4\/os[i].kd=5:=by omega
     cases J9:ja os[i].kd with
     | true=>
      rw[ak];by_cases ht:mM os[i].k os[i].l os[i].s=0
      ·by_cases h4:os[i].k=4
       ·have RV:=ht;rw[h4]at RV;simp[RV,h4]
       ·simp only[ja,ay]at J9;have hv:=xL (vn:=os[i].vn) (vx:=os[i].vx) hn ht h4;rcases J9 with h|h|h|h
        ·simp[h,ht,h4,hv]
        ·have hb:=w9 hn (os.take i) (by rw[bd];omega) fF os[i] (.inl h) ht;rw[h]at hb;simp[h,ht,h4,<-List.map_take,hb]
        ·have hb:=w9 hn (os.take i) (by rw[bd];omega) fF os[i] (.inr h) ht;rw[h]at hb;simp[h,ht,h4,<-List.map_take,hb]
        ·simp[h,ht,h4,hv]
      ·simp[ht]
     | false=>
      rw[cond_false];simp only[ja,bH]at J9;have WC:os[i].kd=3\/os[i].kd=5:=by omega
      rcases WC with h|h
      ·simp[h]
      ·rw[jU (by omega) (by omega)];by_cases h6:0<=os[i].tg/\os[i].tg<=(is.length:Int) - 1<;>simp[h,h6]
   ·have sV : decide (0<=os[i].kd/\os[i].kd<=5)=false:=by rw[bH];exact hk
    rw[sV,ag hk];simp[fz]
theorem Gx{os:List OP}{i:Nat}(hi:i<os.length)(s:List UInt8):gA (dH os) s 0=if(dH (os.take i)).contains s=true then gA (dH (os.take i)) s 0 else gA ((dH os).drop i) s i:=by
 have h:=Fq ((dH os).take i) ((dH os).drop i) s 0;rw[bW,bd,fu,Nat.min_eq_left (by omega),bO]at h;rw[tJ];exact h
theorem Gm(hn:1001<=n)(os:List OP)(ho:os.length<=1000)(is:List IN)(mL : is.length<=1000)(a2:List AV)(i:Nat)(hi:i<os.length)(fF:OU (os.take i)) :
  h_.F n (os.map OP.av) (is.map IN.av) a2 (i:Int)=some (DQ (os.take i) os[i] is.length):=by
 obtain⟨m,rfl⟩:∃m,n=m+4:=⟨n - 4,by omega⟩;have Ud:∀q,h_.l (m+4) (q+1) .mw=some 0:=λ_=>rfl;have h27:∀q,h_.l (m+4) (q+1) .fD=some 17:=λ_=>rfl;unfold h_.F h_.e;simp(disch:=omega)only[ab,aB,ak,cond_false,aI,aM,aj,dq,cY,de,ec,dY,au,dR,dV,dA,dZ,cZ,dh,dn,dz,dx,cU,cV,OP.av];simp only[qG hn,ab,KN hn os ho,gf,rv,mV,dD,eG,vw (show 3<=m+4 by omega)];unfold DQ;cases h1:gD os[i].nm with
 | false=>simp
 | true=>
  have eT:decide (gA (dH os) os[i].nm 0<(i:Int))=(dH (os.take i)).contains os[i].nm:=by
   have:=JD (dH os) os[i].nm 0 i (by rw[fu];exact hi) (by rw[aN (by rw[fu];exact hi),qB hi]);rw[bO]at this;rw[this,tJ]
  rw[eT];cases h2:(dH (os.take i)).contains os[i].nm with
  | true=>simp
  | false=>
   by_cases hk:0<=os[i].kd/\os[i].kd<=5
   ·rw[Cr hn os[i] hk,ab];cases he:extra os[i]with
    | true=>simp[hk]
    | false=>
     simp only[af (show ¬ (true=false) by simp),af (show ¬ (false=true) by simp),af (cd hk),decide_eq_true hk,cond_false,if_false];simp only[h_.XO,h_.MX,Ud];unfold h_.DF h_.yk;cases J9:ja os[i].kd with
     | true=>
      rw[ak];by_cases ht:mM os[i].k os[i].l os[i].s=0
      ·by_cases h4:os[i].k=4
       ·have RV:=ht;rw[h4]at RV;simp[RV,h4]
       ·simp only[ja,ay]at J9;have hv:=Bf (vn:=os[i].vn) (vx:=os[i].vx) hn ht h4;have hb:(os[i].kd=1\/os[i].kd=2)->(bif gA (dH os) os[i].ba 0==(-1)then some 11 else(bif decide (gA (dH os) os[i].ba 0>=(i:Int))then some 11 else(bif decide ((0:Int)<=gA (dH os) os[i].ba 0)&&decide (gA (dH os) os[i].ba 0<(((os.map OP.av).length:Nat):Int))then(cN (((os.map OP.av).getD ((gA (dH os) os[i].ba 0).toNat) .undef).cells) λMz Nr=>
 df Mz λLB=>
 cN Nr λPD OJ=>
 cQ .i64 PD λzD=>
 cN OJ λPB OH=>
 cQ .i64 PB λIh=>
 cN OH λPz OG=>
 cQ .i64 Pz λLl=>
 cN OG λPx OF=>
 cQ .i64 Px λIg=>
 cN OF λMy Qf=>
 cQ .i64 My λFZ=>
 cN Qf λSE TQ=>
 df SE λLA=>
 cN TQ λW3 Vn=>
 df W3 λLz=>
 cN Vn λW2 Vm=>
 cQ .i64 W2 λLk=>
 cN Vm λPv TO=>
 cQ .i64 Pv λEN=>
 bif os[i].kd==1 then(bif zD != 0 then(h_.l (m+4) (m+3) .fD)else(bif os[i].kd==2 then(bif zD != 3 then(h_.l (m+4) (m+3) .fD)else(h_.l (m+4) (m+3) (.z28 (bs os[i].nm) os[i].kd os[i].k os[i].l os[i].s os[i].vn (bs os[i].vx) (bs os[i].ba) os[i].of os[i].tg LB zD Ih Ll Ig FZ LA Lz Lk EN)))else(h_.l (m+4) (m+3) (.z28 (bs os[i].nm) os[i].kd os[i].k os[i].l os[i].s os[i].vn (bs os[i].vx) (bs os[i].ba) os[i].of os[i].tg LB zD Ih Ll Ig FZ LA Lz Lk EN))))else(bif os[i].kd==2 then(bif zD != 3 then(h_.l (m+4) (m+3) .fD)else(h_.l (m+4) (m+3) (.z28 (bs os[i].nm) os[i].kd os[i].k os[i].l os[i].s os[i].vn (bs os[i].vx) (bs os[i].ba) os[i].of os[i].tg LB zD Ih Ll Ig FZ LA Lz Lk EN)))else(h_.l (m+4) (m+3) (.z28 (bs os[i].nm) os[i].kd os[i].k os[i].l os[i].s os[i].vn (bs os[i].vx) (bs os[i].ba) os[i].of os[i].tg LB zD Ih Ll Ig FZ LA Lz Lk EN))))else none)))=some (QK (os.take i) os[i]):=by
         intro fT;unfold QK;rw[Gx hi];cases hc:(dH (os.take i)).contains os[i].ba with
         | false=>
          rw[af (by simp),ag rfl];rcases pM ((dH os).drop i) os[i].ba i with h5|h5
          ·rw[h5];rfl
          ·rw[dD,cU (by omega)];simp
         | true=>
          obtain⟨j,hj,e1,e2⟩:=Bk hc;rw[ag rfl,af (by simp),e1,e2];have mK : j<i:=by rw[bd]at hj;omega
          have e3:(os.take i)[j]=os[j]:=by simp
          rw[e3,dD,af (by omega),cV (by omega)];simp(disch:=omega)only[ab,aB,ak,cond_false,aI,aM,aj,dq,cY,de,ec,dY,au,dR,dV,dA,dZ,cZ,dh,dn,dz,dx,cU,cV,OP.av,h27,eG,dD,h_.PU];unfold h_.OL;simp only[dD,Ud,gf,ab,mV];rcases fT with h|h
          ·rw[ag h,af (show ¬ os[i].kd=2 by omega),af (show ¬ os[i].kd=2 by omega)];by_cases h0:os[j].kd=0
           ·have hd:ja os[j].kd=true:=by simp[ja,h0]
            have hu:=fF os[j] (by rw[<-e3];exact aZ hj) hd;have r1:=py hu;have r2:=py ht;rw[ag h0,af (show ¬ (os[j].kd≠0) by simp[h0]),ag h,w6 _ hu,ab,w6 _ ht,ab,jU (by omega) (by omega)];by_cases h5:0<=os[i].of/\os[i].of<=Dr os[j].k os[j].l - Dr os[i].k os[i].l<;>simp[h5]
           ·rw[af h0,ag h0]
          ·rw[af (show ¬ os[i].kd=1 by omega),ag h,ag h,af (show ¬ os[i].kd=1 by omega)];by_cases h3:os[j].kd=3
           ·by_cases h5:0<=os[i].of/\os[i].of<=256<;>simp[h3,h5]
           ·rw[af h3,ag h3]
        simp only[ht,h4,ck,if_false,ne_eq,not_true_eq_false,and_false];rcases J9 with h|h|h|h
        ·simp[h,hv]
        ·rw[af (by omega),af (by omega),ag h,af (by omega),ag (.inl h)];exact hb (.inl h)
        ·rw[af (by omega),af (by omega),af (by omega),ag h,af (by omega),ag (.inr h)];exact hb (.inr h)
        ·simp[h,hv]
      ·simp[ht]
     | false=>
      rw[cond_false];simp only[ja,bH]at J9;have WC:os[i].kd=3\/os[i].kd=5:=by omega
      rcases WC with h|h
      ·simp[h]
      ·rw[aj,jU (by omega) (by omega)];by_cases h6:0<=os[i].tg/\os[i].tg<=(is.length:Int) - 1<;>simp[h,h6]
   ·have sV : decide (0<=os[i].kd/\os[i].kd<=5)=false:=by rw[bH];exact hk
    rw[sV,ag hk];simp
end
theorem OC(m k:Nat)(hk:k<=28):iN.F (m+40) [vi (-1)] ((k:Nat):Int)=some (List.replicate k (vi (-1))):=by
 have hd:k=0\/k=1\/k=2\/k=3\/k=4\/k=5\/k=6\/k=7\/k=8\/k=9\/k=10\/k=11\/k=12\/k=13\/k=14\/k=15\/k=16\/k=17\/k=18\/k=19\/k=20\/k=21\/k=22\/k=23\/k=24\/k=25\/k=26\/k=27\/k=28:=by omega
 rcases hd with rfl|rfl|rfl|rfl|rfl|rfl|rfl|rfl|rfl|rfl|rfl|rfl|rfl|rfl|rfl|rfl|rfl|rfl|rfl|rfl|rfl|rfl|rfl|rfl|rfl|rfl|rfl|rfl|rfl<;>(show _=_;kernel_rfl)
def r1:List OP->Int->List Int
 | [],_=>[]
 | o::r,a=>if o.kd=3 then a::r1 r (IntKind.i64.wrap (a+16))else -1::r1 r a
def e1:List OP->Int->Int
 | [],a=>a
 | o::r,a=>e1 r (if o.kd=3 then IntKind.i64.wrap (a+16)else a)
def p2:List OP->Nat->List Int->Int->List Int × Int
 | [],_,row,a=>(row,a)
 | o::r,i,row,a=>if o.kd=0 then p2 r (i+1) (row.set i a) (IntKind.i64.wrap (a+Dr o.k o.l))else p2 r (i+1) row a
def p3(os:List OP):List OP->Nat->List Int->List Int
 | [],_,row=>row
 | o::r,i,row=>if o.kd=1 then p3 os r (i+1) (row.set i (IntKind.i64.wrap (row.getD (gA (dH os) o.ba 0).toNat 0+o.of)))else p3 os r (i+1) row
def wm(os:List OP):List Int × Int:=(p3 os os 0 (p2 os 0 (r1 os 0) (e1 os 0)).1,IntKind.i64.wrap (Int.tdiv (IntKind.i64.wrap (IntKind.i64.wrap ((p2 os 0 (r1 os 0) (e1 os 0)).2+16) - 1)) 16))
theorem zX:∀(xs:List OP) (o:OP) (a:Int),r1 (xs++[o]) a=r1 xs a++[if o.kd=3 then e1 xs a else -1]
 | [],o,a=>by by_cases h:o.kd=3<;>simp[r1,e1,h]
 | x::xs,o,a=>by by_cases h:x.kd=3<;>simp[r1,e1,h,zX xs o]
theorem AL:∀(xs:List OP) (o:OP) (a:Int),e1 (xs++[o]) a=if o.kd=3 then IntKind.i64.wrap (e1 xs a+16)else e1 xs a
 | [],o,a=>rfl
 | x::xs,o,a=>by simp[e1,AL xs o]
theorem nu:∀(xs:List OP) (a:Int),(r1 xs a).length=xs.length
 | [],a=>rfl
 | x::xs,a=>by by_cases h:x.kd=3<;>simp[r1,h,nu xs]
def VN(os:List OP):Prop:=OU os/\∀o∈os,o.kd=1->(dH os).contains o.ba=true
theorem zM{α:Type}(f:Int->α)(A B:List Int)(b x:Int){i:Nat}(h:A.length=i):((A++b::B).map f).set i (f x)=((A++[x])++B).map f:=by
 subst h;simp[List.set_append]
theorem pL(row:List Int)(i:Nat)(x:Int):(row.map vi).set i (vi x)=(row.set i x).map vi:=by rw[List.map_set]
section
variable {n:Nat}
theorem RH(os:List OP)(ho:os.length<=1000)(zo:List AV)(K:Option (List AV × Int))(hK:∀m,2*os.length+40<=m->fO.l n m (.dk zo (e1 os 0) zo ((zo.length:Nat):Int) 0 ((r1 os 0).map vi))=K):∀(d i m:Nat),i+d=os.length->d+(2*os.length+40)<m->
  fO.l n m (.z4 zo (e1 (os.take i) 0) (os.map OP.av) os.length i ((r1 (os.take i) 0++List.replicate d (-1)).map vi))=K
 | _,_,0,_,h=>absurd h (by omega)
 | 0,i,m+1,h,hm=>by
  rw[fO.tj];unfold fO.r4;rw[cV (by omega),cl (by omega)];simp only[List.replicate_zero,bc];exact hK m (by omega)
 | d+1,i,m+1,h,hm=>by
  have hi:i<os.length:=by omega
  have ih:=RH os ho zo K hK d (i+1) m (by omega) (by omega);have hl:(r1 (os.take i) 0).length=i:=by rw[nu,bd];omega
  rw[fO.tj];unfold fO.r4;simp(disch:=omega)only[ab,aB,ak,cond_false,aI,aM,aj,dq,cY,de,ec,dY,au,dR,dV,dA,dZ,cZ,dh,dn,dz,dx,cU,cV,OP.av,ai,bX,hl];rw[bL hi,zX,AL]at ih;rw[dD];by_cases h3:os[i].kd=3
  ·rw[ag h3,ag h3]at ih;rw[ag h3,cG,zM vi _ _ _ _ hl];exact ih
  ·rw[af h3,af h3]at ih;rw[af h3,cG,<-ih];simp
theorem NJ(hn:1001<=n)(os:List OP)(ho:os.length<=1000)(fF:OU os)(zo:List AV)(G:List Int × Int->Option (List AV × Int))(hK:∀m row a,os.length+10<=m->row.length=os.length->fO.l n m (.dM zo a zo ((zo.length:Nat):Int) 0 (row.map vi))=G (row,a)):∀(d i m:Nat) (row:List Int) (a:Int),i+d=os.length->d+(os.length+10)<m->row.length=os.length->
  fO.l n m (.dk zo a (os.map OP.av) os.length i (row.map vi))=G (p2 (os.drop i) i row a)
 | _,_,0,_,_,_,h,_=>absurd h (by omega)
 | 0,i,m+1,row,a,h,hm,hr=>by
  rw[fO.MZ];unfold fO.E4;rw[cV (by omega),aF (by omega)];exact hK m row a (by omega) hr
 | d+1,i,m+1,row,a,h,hm,hr=>by
  have hi:i<os.length:=by omega
  have ih:=λDx a' HU=>NJ hn os ho fF zo G hK d (i+1) m Dx a' (by omega) (by omega) HU;rw[fO.MZ];unfold fO.E4;simp(disch:=omega)only[ab,aB,ak,cond_false,aI,aM,aj,dq,cY,de,ec,dY,au,dR,dV,dA,dZ,cZ,dh,dn,dz,dx,cU,cV,OP.av,hr];rw[aC hi,dD];unfold p2;by_cases h0:os[i].kd=0
  ·have hd:ja os[i].kd=true:=by simp[ja,h0]
   rw[ag h0,ag h0];unfold qS.F qS.e;rw[sizeOf_eq hn (fF _ (aZ hi) hd),ab,ab,pL,ih _ _ (by simpa using hr)]
  ·rw[af h0,af h0,ih _ _ hr]
theorem NI(hn:1001<=n)(os:List OP)(ho:os.length<=1000)(fF:∀o∈os,o.kd=1->(dH os).contains o.ba=true)(a:Int):∀(d i m:Nat) (row:List Int),i+d=os.length->d<m->row.length=os.length->
  fO.l n m (.dM (os.map OP.av) a (os.map OP.av) os.length i (row.map vi))=some ((p3 os (os.drop i) i row).map vi,IntKind.i64.wrap (Int.tdiv (IntKind.i64.wrap (IntKind.i64.wrap (a+16) - 1)) 16))
 | _,_,0,_,_,h,_=>absurd h (by omega)
 | 0,i,m+1,row,h,hm,hr=>by
  rw[fO.KP];unfold fO.LM;rw[cV (by omega),aF (by omega)];rfl
 | d+1,i,m+1,row,h,hm,hr=>by
  have hi:i<os.length:=by omega
  have ih:=λDx HU=>NI hn os ho fF a d (i+1) m Dx (by omega) (by omega) HU;rw[fO.KP];unfold fO.LM;simp(disch:=omega)only[ab,aB,ak,cond_false,aI,aM,aj,dq,cY,de,ec,dY,au,dR,dV,dA,dZ,cZ,dh,dn,dz,dx,cU,cV,OP.av,hr];rw[aC hi,dD];unfold p3;by_cases h1:os[i].kd=1
  ·obtain⟨k,hk,e,_⟩:=wv (dH os) os[i].ba 0 (fF _ (aZ hi) h1);rw[fu]at hk;rw[ag h1,ag h1,rE hn os ho,ab,e,bO];have Wi:k<row.length:=by omega
   simp(disch:=omega)only[ab,aB,ak,cond_false,aI,aM,aj,dq,cY,de,ec,dY,au,dR,dV,dA,dZ,cZ,dh,dn,dz,dx,cU,cV,hr];rw[pL,ih _ (by simpa using hr)];simp[ah,Wi]
  ·rw[af h1,af h1,ih _ hr]
theorem Gv(hn:1001<=n)(os:List OP)(ho:os.length<=28)(fF:VN os):fO.F n (os.map OP.av)=some ((wm os).1.map vi,(wm os).2):=by
 obtain⟨m,rfl⟩:∃m,n=m+40:=⟨n - 40,by omega⟩;unfold fO.F fO.e;rw[aj,OC m _ ho,ab];have h:=RH (n:=m+40) os (by omega) (os.map OP.av) (some ((wm os).1.map vi,(wm os).2)) (λq hq=>by
  rw[aj];have xG:=NJ (n:=m+40) hn os (by omega) fF.1 (os.map OP.av) (λx=>some ((p3 os os 0 x.1).map vi,IntKind.i64.wrap (Int.tdiv (IntKind.i64.wrap (IntKind.i64.wrap (x.2+16) - 1)) 16))) (λq' row a qY hr=>by
   rw[aj];have Cx:=NI (n:=m+40) hn os (by omega) fF.2 a os.length 0 q' row (by omega) (by omega) hr;rw[aW]at Cx;exact Cx) os.length 0 q (r1 os 0) (e1 os 0) (by omega) (by omega) (nu os 0)
  rw[aW]at xG;exact xG) os.length 0 (m+40) (by omega) (by omega)
 simpa[r1,e1]using h
theorem NH(os:List OP)(ho:os.length<=1000)(a1 a2:List AV)(K:Option (List AV × Int))(hK:∀m,2*os.length+40<=m->ix.l n m (.dp (e1 os 0) 0 (os.map OP.av) a1 a2 ((r1 os 0).map vi))=K):∀(d i m:Nat),i+d=os.length->d+(2*os.length+40)<m->
  ix.l n m (.z4 (e1 (os.take i) 0) i (os.map OP.av) a1 a2 ((r1 (os.take i) 0++List.replicate d 0).map vi))=K
 | _,_,0,_,h=>absurd h (by omega)
 | 0,i,m+1,h,hm=>by
  rw[ix.tj];unfold ix.r4;simp only[aj];rw[cV (by omega),cl (by omega)];simp only[List.replicate_zero,bc];exact hK m (by omega)
 | d+1,i,m+1,h,hm=>by
  have hi:i<os.length:=by omega
  have ih:=NH os ho a1 a2 K hK d (i+1) m (by omega) (by omega);have hl:(r1 (os.take i) 0).length=i:=by rw[nu,bd];omega
  rw[ix.tj];unfold ix.r4;simp(disch:=omega)only[ab,aB,ak,cond_false,aI,aM,aj,dq,cY,de,ec,dY,au,dR,dV,dA,dZ,cZ,dh,dn,dz,dx,cU,cV,OP.av,ai,bX,hl,ca,aW,List.length_set];rw[bL hi,zX,AL]at ih;rw[dD];by_cases h3:os[i].kd=3
  ·rw[ag h3,ag h3]at ih;rw[ag h3,cG,List.set_set,zM vi _ _ _ _ hl];exact ih
  ·rw[af h3,af h3]at ih;rw[af h3,cG,zM vi _ _ _ _ hl];exact ih
theorem Jy(hn:1001<=n)(os:List OP)(ho:os.length<=1000)(fF:OU os)(a1 a2:List AV)(G:List Int × Int->Option (List AV × Int))(hK:∀m row a,os.length+10<=m->row.length=os.length->ix.l n m (.dJ a 0 (os.map OP.av) a1 a2 (row.map vi))=G (row,a)):∀(d i m:Nat) (row:List Int) (a:Int),i+d=os.length->d+(os.length+10)<m->row.length=os.length->
  ix.l n m (.dp a i (os.map OP.av) a1 a2 (row.map vi))=G (p2 (os.drop i) i row a)
 | _,_,0,_,_,_,h,_=>absurd h (by omega)
 | 0,i,m+1,row,a,h,hm,hr=>by
  rw[ix.MY];unfold ix.vN;simp only[aj];rw[cV (by omega),aF (by omega)];exact hK m row a (by omega) hr
 | d+1,i,m+1,row,a,h,hm,hr=>by
  have hi:i<os.length:=by omega
  have ih:=λDx a' HU=>Jy hn os ho fF a1 a2 G hK d (i+1) m Dx a' (by omega) (by omega) HU;rw[ix.MY];unfold ix.vN;simp(disch:=omega)only[ab,aB,ak,cond_false,aI,aM,aj,dq,cY,de,ec,dY,au,dR,dV,dA,dZ,cZ,dh,dn,dz,dx,cU,cV,OP.av,hr];rw[aC hi,dD];unfold p2;by_cases h0:os[i].kd=0
  ·have hd:ja os[i].kd=true:=by simp[ja,h0]
   rw[ag h0,ag h0,w6 n (fF _ (aZ hi) hd),ab,pL,ih _ _ (by simpa using hr)]
  ·rw[af h0,af h0,ih _ _ hr]
theorem Jx(hn:1001<=n)(os:List OP)(ho:os.length<=1000)(fF:∀o∈os,o.kd=1->(dH os).contains o.ba=true)(a1 a2:List AV)(a:Int):∀(d i m:Nat) (row:List Int),i+d=os.length->d<m->row.length=os.length->
  ix.l n m (.dJ a i (os.map OP.av) a1 a2 (row.map vi))=some ((p3 os (os.drop i) i row).map vi,IntKind.i64.wrap (Int.tdiv (IntKind.i64.wrap (IntKind.i64.wrap (a+16) - 1)) 16))
 | _,_,0,_,_,h,_=>absurd h (by omega)
 | 0,i,m+1,row,h,hm,hr=>by
  rw[ix.Hv];unfold ix.sE;simp only[aj];rw[cV (by omega),aF (by omega)];rfl
 | d+1,i,m+1,row,h,hm,hr=>by
  have hi:i<os.length:=by omega
  have ih:=λDx HU=>Jx hn os ho fF a1 a2 a d (i+1) m Dx (by omega) (by omega) HU;rw[ix.Hv];unfold ix.sE;simp(disch:=omega)only[ab,aB,ak,cond_false,aI,aM,aj,dq,cY,de,ec,dY,au,dR,dV,dA,dZ,cZ,dh,dn,dz,dx,cU,cV,OP.av,hr];rw[aC hi,dD];unfold p3;by_cases h1:os[i].kd=1
  ·obtain⟨k,hk,e,_⟩:=wv (dH os) os[i].ba 0 (fF _ (aZ hi) h1);rw[fu]at hk;rw[ag h1,ag h1,KN hn os ho,ab,e,bO];have Wi:k<row.length:=by omega
   simp(disch:=omega)only[ab,aB,ak,cond_false,aI,aM,aj,dq,cY,de,ec,dY,au,dR,dV,dA,dZ,cZ,dh,dn,dz,dx,cU,cV,hr];rw[pL,ih _ (by simpa using hr)];simp[ah,Wi]
  ·rw[af h1,af h1,ih _ hr]
theorem D1(hn:1001<=n)(os:List OP)(ho:os.length<=28)(fF:VN os)(a1 a2:List AV):ix.F n (os.map OP.av) a1 a2=some ((wm os).1.map vi,(wm os).2):=by
 unfold ix.F ix.e;have lO:(fe:Int)=1000000000:=rfl;have e1' : ((decide ((0:Int)<=((os.length:Nat):Int))&&decide ((((os.length:Nat):Int):Int)<=fe))&&decide ((((os.length:Nat):Int):Int)=((os.length:Nat):Int))&&true&&true)=true:=by
  rw[decide_eq_true (by omega),decide_eq_true (by omega),decide_eq_true rfl];rfl
 rw[aj,dX e1'];have h:=NH (n:=n) os (by omega) a1 a2 (some ((wm os).1.map vi,(wm os).2)) (λq hq=>by
  have xG:=Jy (n:=n) hn os (by omega) fF.1 a1 a2 (λx=>some ((p3 os os 0 x.1).map vi,IntKind.i64.wrap (Int.tdiv (IntKind.i64.wrap (IntKind.i64.wrap (x.2+16) - 1)) 16))) (λq' row a qY hr=>by
   have Cx:=Jx (n:=n) hn os (by omega) fF.2 a1 a2 a os.length 0 q' row (by omega) (by omega) hr;rw[aW]at Cx;exact Cx) os.length 0 q (r1 os 0) (e1 os 0) (by omega) (by omega) (nu os 0)
  rw[aW]at xG;exact xG) os.length 0 n (by omega) (by omega)
 simpa[r1,e1]using h
end
def cls(op:Int):List Int:=
 if op=0 then[0,4]else if op=1 then[2,3]else if op=2\/op=3\/op=4\/op=5\/op=6 then[2,3,3]else if op=7\/op=8 then[1,4,6]else if op=9\/op=13 then[6]else if op=10 then[5,0]
 else if op=11 then[5,5]else if op=12 then[5,3]else if op=15 then[3]else if op=16 then[2]else if op=17 then[1]else[]
theorem mB{op:Int}(h:0<=op/\op<=18):op=0\/op=1\/op=2\/op=3\/op=4\/op=5\/op=6\/op=7\/op=8\/op=9\/op=10\/op=11\/op=12\/op=13\/op=14\/op=15\/op=16\/op=17\/op=18:=by omega
theorem zd{op:Int}(h:0<=op/\op<=18):∀c∈cls op,0<=c/\c<=6:=by
 rcases mB h with rfl|rfl|rfl|rfl|rfl|rfl|rfl|rfl|rfl|rfl|rfl|rfl|rfl|rfl|rfl|rfl|rfl|rfl|rfl<;>decide
theorem mT{op:Int}(h:0<=op/\op<=18):(cls op).length<=3:=by
 rcases mB h with rfl|rfl|rfl|rfl|rfl|rfl|rfl|rfl|rfl|rfl|rfl|rfl|rfl|rfl|rfl|rfl|rfl|rfl|rfl<;>decide
theorem Hm{op:Int}(h:0<=op/\op<=18)(i:Nat)(hi:(cls op)[i]?=some 4):i=1/\((cls op)[0]?=some 0\/(cls op)[0]?=some 1):=by
 have hl:=mT h;have eT:i<3:=by have:=(aE.1 hi).1;omega
 have hi3:i=0\/i=1\/i=2:=by omega
 revert hi;rcases mB h with rfl|rfl|rfl|rfl|rfl|rfl|rfl|rfl|rfl|rfl|rfl|rfl|rfl|rfl|rfl|rfl|rfl|rfl|rfl<;>rcases hi3 with rfl|rfl|rfl<;>decide
def nB(o b:OP)(c:Int):Bool:=
 if c=5 then decide (o.kd=3)else if c=6 then decide (o.kd=5)
 else ja o.kd&&(!(decide (c=0\/c=2)&&decide (o.kd=4))&&(!(decide (c=2\/c=3)&&decide (o.k=0))&&!(decide (c=4)&&(decide (o.k=0) != decide (b.k=0)))))
theorem PK{o b:OP}{c:Int}(hc:c=0\/c=1)(h:nB o b c=true):ja o.kd=true:=by
 cases hd:ja o.kd with
 | true=>rfl
 | false=>rcases hc with rfl|rfl<;>simp[nB,hd]at h
section
variable {n:Nat}
theorem LQ(n:Nat)(a0:ByteArray)(a1 a2 a3 a4 a5:Int)(a6 a7:ByteArray)(a8 a9:Int):qf.F n a0 a1 a2 a3 a4 a5 a6 a7 a8 a9=some (!decide (a2=0)):=rfl
theorem ME(hn:1001<=n)(o b:OP)(c:Int)(hc:0<=c/\c<=6):jJ.F n (bs o.nm) o.kd o.k o.l o.s o.vn (bs o.vx) (bs o.ba) o.of o.tg (bs b.nm) b.kd b.k b.l b.s b.vn (bs b.vx) (bs b.ba) b.of b.tg c=some (nB o b c):=by
 obtain⟨m,rfl⟩:∃m,n=m+1:=⟨n - 1,by omega⟩;unfold jJ.F jJ.e;simp only[jJ.at8];unfold jJ.r8 nB;simp only[vU,LQ,ab,dD];have hd:c=0\/c=1\/c=2\/c=3\/c=4\/c=5\/c=6:=by omega
 rcases hd with rfl|rfl|rfl|rfl|rfl|rfl|rfl<;>cases ja o.kd<;>by_cases h4:o.kd=4<;>by_cases h0:o.k=0<;>by_cases hb:b.k=0<;>simp[h4,h0,hb,iL]
def O5(os:List OP):List Int->List Int->OP->Int
 | c::cs,a::ar,b=>if ¬ (0<=a/\a<=(os.length:Int) - 1)then 3 else if nB (os.getD a.toNat lC) b c=false then 17 else O5 os cs ar (os.getD a.toNat lC)
 | _,_,_=>0
def wy(os:List OP)(x:IN):Int:=if ¬ (0<=x.op/\x.op<=18)then 4 else if x.ar.length≠(cls x.op).length then 37 else O5 os (cls x.op) x.ar lC
theorem w3{op:Int}(h:0<=op/\op<=18):∃r,kO (op.toNat*1) [.sl ⟨true,3,false⟩ 1 SY,.sl ⟨true,3,false⟩ 1 SX,.sl ⟨true,3,false⟩ 1 SW,.sl ⟨true,3,false⟩ 1 SV,.sl ⟨true,3,false⟩ 1 SU,.sl ⟨true,3,false⟩ 1 SS,.sl ⟨true,3,false⟩ 1 SR,.sl ⟨true,3,false⟩ 1 SQ,.sl ⟨true,3,false⟩ 1 SP,.sl ⟨true,3,false⟩ 1 SO,.sl ⟨true,3,false⟩ 1 Kn,.sl ⟨true,3,false⟩ 1 Km,.sl ⟨true,3,false⟩ 1 Kl,.sl ⟨true,3,false⟩ 1 Kk,.sl ⟨true,3,false⟩ 1 Kj,.sl ⟨true,3,false⟩ 1 Ki,.sl ⟨true,3,false⟩ 1 Kh,.sl ⟨true,3,false⟩ 1 Kg,.sl ⟨true,3,false⟩ 1 Kf]=.sl ⟨true,3,false⟩ 1 ((cls op).map vi)::r:=by
 rcases mB h with rfl|rfl|rfl|rfl|rfl|rfl|rfl|rfl|rfl|rfl|rfl|rfl|rfl|rfl|rfl|rfl|rfl|rfl|rfl<;>exact⟨_,rfl⟩
theorem RA{op:Int}(h:0<=op/\op<=18):(decide ((0:Int)<=op)&&decide (op<((19:Nat):Int)))=true:=by
 rw[ae,ay,ay];omega
theorem AG{os:List OP}{a:Int}(h:0<=a/\a<=(os.length:Int) - 1):(os.map OP.av).getD a.toNat AV.undef=(os.getD a.toNat lC).av:=by
 have:a.toNat<os.length:=by omega
 simp[ah,this]
theorem TL{len:Nat}{a:Int}(h:0<=a/\a<=(len:Int) - 1):(decide ((0:Int)<=a)&&decide (a<((len:Nat):Int)))=true:=by
 rw[ae,ay,ay];omega
theorem NK(hn:1001<=n)(os:List OP)(ho:os.length<=1000)(is:List AV)(ms:List AV)(op:Int)(e_:0<=op/\op<=18)(ar:List Int)(Pt:ar.length=(cls op).length):∀(d i m:Nat) (b:OP),i+d=ar.length->d<m->
  jc.l n m (.z7 (ar.map vi) ar.length i (os.map OP.av) is ms op (ar.map vi) (bs b.nm) b.kd b.k b.l b.s b.vn (bs b.vx) (bs b.ba) b.of b.tg)=some (O5 os ((cls op).drop i) (ar.drop i) b)
 | _,_,0,_,_,h=>absurd h (by omega)
 | 0,i,m+1,b,h,_=>by
  rw[jc.zi];unfold jc.r7;rw[cV (by omega),aF (by omega),aF (by omega)];rfl
 | d+1,i,m+1,b,h,hm=>by
  have hi:i<ar.length:=by omega
  have Mo:i<(cls op).length:=by omega
  have hl3:=mT e_;have ih:=λb=>NK hn os ho is ms op e_ ar Pt d (i+1) m b (by omega) (by omega);obtain⟨r,hr⟩:=w3 e_;rw[jc.zi];unfold jc.r7;rw[hr,aC hi,aC Mo];unfold O5;simp(disch:=omega)only[ab,aB,ak,cond_false,aI,aM,aj,dq,cY,de,ec,dY,au,dR,dV,dA,dZ,cZ,dh,dn,dz,dx,cU,cV,sI];rw[jU (by omega) (by omega)];by_cases hr:0<=ar[i]/\ar[i]<=(os.length:Int) - 1
  ·rw[af (cd hr),decide_eq_true hr,aI,cond_false,dX (TL hr),AG hr];simp only[RA e_,TL hr,ak];simp(disch:=omega)only[ab,aB,ak,cond_false,aI,aM,aj,dq,cY,de,ec,dY,au,dR,dV,dA,dZ,cZ,dh,dn,dz,dx,cU,cV,OP.av,ME hn (os.getD ar[i].toNat lC) b _ (zd e_ _ (aZ Mo))];rw[mV];cases hf:nB (os.getD ar[i].toNat lC) b (cls op)[i]with
   | false=>rfl
   | true=>
    rw[af (by simp),af (by simp)];exact ih _
  ·rw[ag hr,show decide (0<=ar[i]/\ar[i]<=(os.length:Int) - 1)=false by rw[bH];exact hr];rfl
theorem GA(hn:1001<=n)(os:List OP)(ho:os.length<=1000)(is ms:List AV)(x:IN)(hx:x.ar.length<=1000):jc.F n (os.map OP.av) is ms x.op (x.ar.map vi)=some (wy os x):=by
 unfold jc.F jc.e wy;rw[sI,ab,mV];by_cases e_:0<=x.op/\x.op<=18
 ·obtain⟨r,hr⟩:=w3 e_;rw[af (by simpa using e_),af (cd e_),dX (RA e_),hr];simp(disch:=omega)only[ab,aB,ak,cond_false,aI,aM,aj,dq,cY,de,ec,dY,au,dR,dV,dA,dZ,cZ,dh,dn,dz,dx,cU,cV];rw[eG];by_cases hl:x.ar.length=(cls x.op).length
  ·rw[ag (by omega),af (by simpa using hl)];have h:=NK hn os ho is ms x.op e_ x.ar hl x.ar.length 0 n lC (by omega) (by have:=mT e_;omega);rw[aW,aW]at h;exact h
  ·rw[af (by omega),ag hl]
 ·rw[ag (by simpa using e_),ag e_]
def role(c:Int):Int:=if c=1 then 2 else if c=2 then 1 else c
theorem By(hn:1001<=n){op:Int}(h:0<=op/\op<=18):kV.F n op=some ((cls op).map λc=>vi (role c)):=by
 obtain⟨m,rfl⟩:∃m,n=m+1:=⟨n - 1,by omega⟩;unfold kV.F kV.e;simp only[kV.MY];unfold kV.vN;rcases mB h with rfl|rfl|rfl|rfl|rfl|rfl|rfl|rfl|rfl|rfl|rfl|rfl|rfl|rfl|rfl|rfl|rfl|rfl|rfl<;>rfl
def Jc(os:List OP):Prop:=∀o∈os,ja o.kd=true->mM o.k o.l o.s=0/\o.k≠4
theorem E3(n:Nat)(o:OP)(h:ja o.kd=true->mM o.k o.l o.s=0/\o.k≠4)(hd:ja o.kd=true):q6.F n (bs o.nm) o.kd o.k o.l o.s o.vn (bs o.vx) (bs o.ba) o.of o.tg=some (!decide (o.k=0)):=by
 unfold q6.F q6.e q8.F q8.e;rw[gf,ab,ab];have h1:=la (h hd).1;have h2:=(h hd).2;congr 1;by_cases h0:o.k=0
 ·simp[h0]
 ·have:1<=o.k/\o.k<=3:=by omega
  simp[h0,this]
theorem JJ(hn:1001<=n)(os:List OP)(ho:os.length<=1000)(fF:Jc os)(is:List AV)(ms:List AV)(op:Int)(e_:0<=op/\op<=18)(ar:List Int)(Pt:ar.length=(cls op).length):∀(d i m:Nat) (b:OP),i+d=ar.length->3*d<m->
  (1<=i->∃a,ar[i - 1]?=some a/\(0<=a/\a<=(os.length:Int) - 1)/\b=os.getD a.toNat lC/\(((cls op)[i - 1]?=some 0\/(cls op)[i - 1]?=some 1)->ja b.kd=true))->
  je.l n m (.z7 i (os.map OP.av) is ms op (ar.map vi) ((cls op).map λc=>vi (role c)))=some (O5 os ((cls op).drop i) (ar.drop i) b)
 | _,_,0,_,_,h,_=>absurd h (by omega)
 | 0,i,m+1,b,h,_,_=>by
  rw[je.zi];unfold je.r7;simp only[aj];rw[cV (by omega),aF (by omega),aF (by omega)];rfl
 | d+1,i,m+1,b,h,hm,hb=>by
  obtain⟨m,rfl⟩:∃q,m=q+2:=⟨m - 2,by omega⟩;have hi:i<ar.length:=by omega
  have Mo:i<(cls op).length:=by omega
  have hl3:=mT e_;have ih:=λb=>JJ hn os ho fF is ms op e_ ar Pt d (i+1) m b (by omega) (by omega);rw[je.zi];unfold je.r7;rw[aC hi,aC Mo];unfold O5;simp(disch:=omega)only[ab,aB,ak,cond_false,aI,aM,aj,dq,cY,de,ec,dY,au,dR,dV,dA,dZ,cZ,dh,dn,dz,dx,cU,cV,gf];rw[jU (by omega) (by omega)];by_cases hr:0<=ar[i]/\ar[i]<=(os.length:Int) - 1
  ·have lH:os.getD ar[i].toNat lC∈os:=by
    have:ar[i].toNat<os.length:=by omega
    rw[ah,aN this,Option.getD_some];exact aZ this
   have xm:∀z,(z=nB (os.getD ar[i].toNat lC) b (cls op)[i])->je.l n (m+2) (.z28 i z (os.map OP.av) is ms op (ar.map vi) ((cls op).map λc=>vi (role c)))=some (if nB (os.getD ar[i].toNat lC) b (cls op)[i]=false then 17 else O5 os ((cls op).drop (i+1)) (ar.drop (i+1)) (os.getD ar[i].toNat lC)):=by
    rintro z rfl;rw[je.PU];unfold je.OL;rw[mV];cases hf:nB (os.getD ar[i].toNat lC) b (cls op)[i]with
    | false=>rfl
    | true=>
     rw[af (by simp),af (by simp),je.at8];unfold je.r8;rw[dY (by omega)];refine ih _ λ_=>⟨ar[i],by simp,hr,rfl,λhc=>?_⟩;rw[Nat.add_sub_cancel,aN Mo]at hc;exact PK (by rcases hc with hc|hc;exact .inl (bQ hc);exact .inr (bQ hc)) hf
   rw[af (cd hr),decide_eq_true hr,aI,cond_false,dX (TL hr),AG hr];have Pe:ja (os.getD ar[i].toNat lC).kd=true->q6.F n (bs (os.getD ar[i].toNat lC).nm) (os.getD ar[i].toNat lC).kd (os.getD ar[i].toNat lC).k (os.getD ar[i].toNat lC).l (os.getD ar[i].toNat lC).s (os.getD ar[i].toNat lC).vn (bs (os.getD ar[i].toNat lC).vx) (bs (os.getD ar[i].toNat lC).ba) (os.getD ar[i].toNat lC).of (os.getD ar[i].toNat lC).tg=some (!decide ((os.getD ar[i].toNat lC).k=0)):=E3 n _ (fF _ lH);have hcr:=zd e_ _ (aZ Mo);have hcd:(cls op)[i]=0\/(cls op)[i]=1\/(cls op)[i]=2\/(cls op)[i]=3\/(cls op)[i]=4\/(cls op)[i]=5\/(cls op)[i]=6:=by omega
   generalize hO:os.getD ar[i].toNat lC=O at *;have gl:(decide ((0:Int)<=(i:Int))&&decide ((i:Int)<(((cls op).length:Nat):Int)))=true:=de Mo;simp only[OP.av,dA,dZ,cZ,dh,dn,gl,ak,au,dR (λc=>vi (role c)) Mo,dD];have J9:ja O.kd=decide (O.kd=0\/O.kd=1\/O.kd=2\/O.kd=4):=rfl;rcases hcd with hc|hc|hc|hc|hc|hc|hc
   ·rw[show role (cls op)[i]=0 by rw[hc];rfl,ag rfl,qv,ab];refine xm _ ?_;rw[hc];unfold nB;rw[J9];by_cases h0:O.kd=0<;>by_cases h1:O.kd=1<;>by_cases h2:O.kd=2<;>by_cases h4:O.kd=4<;>simp[h0,h1,h2,h4]
   ·rw[show role (cls op)[i]=2 by rw[hc];rfl,af (by decide),af (by decide),ag rfl,rv,ab];refine xm _ ?_;rw[hc];simp[nB]
   ·rw[show role (cls op)[i]=1 by rw[hc];rfl,af (by decide),ag rfl,qv,ab];by_cases hs:O.kd=0\/O.kd=1\/O.kd=2
    ·have hd:ja O.kd=true:=by rw[J9,ay];omega
     rw[cU hs,Pe hd,ab];refine xm _ ?_;rw[hc];have h4:¬ O.kd=4:=by omega
     simp[nB,hd,h4]
    ·rw[cV hs];refine xm _ ?_;rw[hc];by_cases h4:O.kd=4
     ·simp[nB,h4]
     ·have hd:ja O.kd=false:=by rw[J9,bH];omega
      simp[nB,hd]
   ·rw[show role (cls op)[i]=3 by rw[hc];rfl,af (by decide),af (by decide),af (by decide),ag rfl,rv,ab];cases hd:ja O.kd with
    | true=>
     rw[ak,Pe hd,ab];refine xm _ ?_;rw[hc];simp[nB,hd]
    | false=>
     rw[cond_false];refine xm _ ?_;rw[hc];simp[nB,hd]
   ·rw[show role (cls op)[i]=4 by rw[hc];rfl,af (by decide),af (by decide),af (by decide),af (by decide),ag rfl,rv,ab];obtain⟨i1,hp⟩:=Hm e_ i (by rw[aN Mo,hc]);obtain⟨a',Ub,YO,YN,ha4⟩:=hb (by omega);have Ei:=ha4 (by rw[i1];exact hp);have hbm:b∈os:=by
     have:a'.toNat<os.length:=by omega
     rw[YN,ah,aN this,Option.getD_some];exact aZ this
    cases hd:ja O.kd with
    | true=>
     have Wd:0<ar.length:=by omega
     have hw:IntKind.i64.wrap ((i:Int) - 1)=((0:Nat):Int):=by rw[i1,jU (by omega) (by omega)];rfl
     have hg:(ar.map vi).getD 0 AV.undef=vi a':=by
      rw[i1]at Ub;rw[ah,aP,show ar[0]?=some a' from Ub];rfl
     rw[ak,Pe hd,ab,hw,de Wd,ak,au,hg];simp only[dZ,cZ,dh];rw[dX (TL YO),AG YO,<-YN];simp only[OP.av,dA,dZ,cZ,dh,dn];rw[E3 n b (fF b hbm) Ei,ab];refine xm _ ?_;rw[hc];by_cases k1:O.k=0<;>by_cases k2:b.k=0<;>simp[nB,hd,k1,k2]
    | false=>
     rw[cond_false];refine xm _ ?_;rw[hc];simp[nB,hd]
   ·rw[show role (cls op)[i]=5 by rw[hc];rfl,af (by decide),af (by decide),af (by decide),af (by decide),af (by decide),ag rfl];refine xm _ ?_;rw[hc];simp[nB,iL]
   ·rw[show role (cls op)[i]=6 by rw[hc];rfl,af (by decide),af (by decide),af (by decide),af (by decide),af (by decide),af (by decide),ag rfl];refine xm _ ?_;rw[hc];simp[nB,iL]
  ·rw[ag hr,show decide (0<=ar[i]/\ar[i]<=(os.length:Int) - 1)=false by rw[bH];exact hr];rfl
theorem D9(hn:1001<=n)(os:List OP)(ho:os.length<=1000)(fF:Jc os)(is ms:List AV)(x:IN)(hx:x.ar.length<=1000):je.F n (os.map OP.av) is ms x.op (x.ar.map vi)=some (wy os x):=by
 unfold je.F je.e wy;rw[gf,ab,mV];by_cases e_:0<=x.op/\x.op<=18
 ·rw[af (by simpa using e_),af (cd e_),By hn e_,ab];simp only[aj];rw[eG];by_cases hl:x.ar.length=(cls x.op).length
  ·rw[ag (by omega),af (by simpa using hl)];have h:=JJ hn os ho fF is ms x.op e_ x.ar hl x.ar.length 0 n lC (by omega) (by have:=mT e_;omega) (λh=>by omega);rw[aW,aW]at h;exact h
  ·rw[af (by omega),ag hl]
 ·rw[ag (by simpa using e_),ag e_]
def Aj(nI:Nat)(m:MN):Int:=if 0<=m.fr/\m.fr<m.tt/\m.tt<=(nI:Int)/\(0<=m.ex/\m.ex<=999)/\(0<=m.hd/\m.hd<=(nI:Int) - 1)then 0 else 3
theorem Gt(hn:1001<=n)(os:List AV)(is:List IN)(mL : is.length<=1000)(ms:List AV)(x:MN):jI.F n os (is.map IN.av) ms x.fr x.tt x.ex x.hd=some (Aj is.length x):=by
 obtain⟨m,rfl⟩:∃m,n=m+1:=⟨n - 1,by omega⟩;unfold jI.F jI.e Aj;simp only[jI.PT];unfold jI.r3;simp only[sI,n_,ab,aj,ge_iff_le];rw[jU (by omega) (by omega)];by_cases h1:0<=x.fr<;>by_cases h2:x.fr<x.tt<;>by_cases h3:x.tt<=(is.length:Int)<;>by_cases h4:0<=x.ex/\x.ex<=999<;>by_cases h5:0<=x.hd/\x.hd<=(is.length:Int) - 1<;>simp[h1,h2,h3,h4,h5]
end
def mA(nI:Nat):List OP->List OP->Int × Int
 | _,[]=>(0,0)
 | b,o::r=>if DQ b o nI≠0 then((b.length:Int),DQ b o nI)else mA nI (b++[o]) r
def rP(os:List OP):List IN->Nat->Int × Int
 | [],_=>(0,0)
 | x::r,i=>if wy os x≠0 then((i:Int),wy os x)else rP os r (i+1)
def rG(nI:Nat):List MN->Nat->Int × Int
 | [],_=>(0,0)
 | x::r,i=>if Aj nI x≠0 then((i:Int),Aj nI x)else rG nI r (i+1)
def AX(nI:Nat)(ms:List MN):Int × Int × Int:=if(rG nI ms 0).2≠0 then(3,(rG nI ms 0).1,(rG nI ms 0).2)else(0,0,0)
def AY(os:List OP)(is:List IN)(ms:List MN):Int × Int × Int:=if(rP os is 0).2≠0 then(2,(rP os is 0).1,(rP os is 0).2)else AX is.length ms
def gh(os:List OP)(is:List IN)(ms:List MN):Int × Int × Int:=
 if os.length>24\/is.length>40\/ms.length>6 then(0,0,2)else if is.length=0 then(0,0,1)
 else if(mA is.length [] os).2≠0 then(1,(mA is.length [] os).1,(mA is.length [] os).2)else if(wm os).2>24 then(0,0,30)else AY os is ms
theorem pD(nI:Nat)(b r:List OP)(o:OP):mA nI b (o::r)=if DQ b o nI≠0 then((b.length:Int),DQ b o nI)else mA nI (b++[o]) r:=rfl
theorem sR(os:List OP)(x:IN)(r:List IN)(i:Nat):rP os (x::r) i=if wy os x≠0 then((i:Int),wy os x)else rP os r (i+1):=rfl
theorem sP(nI:Nat)(x:MN)(r:List MN)(i:Nat):rG nI (x::r) i=if Aj nI x≠0 then((i:Int),Aj nI x)else rG nI r (i+1):=rfl
theorem Jb{b:List OP}{o:OP}{nI:Nat}(h:DQ b o nI=0):(ja o.kd=true->mM o.k o.l o.s=0/\o.k≠4)/\(o.kd=1->(dH b).contains o.ba=true):=by
 unfold DQ at h;split at h
 ·cases h
 split at h
 ·cases h
 split at h
 ·cases h
 split at h
 ·cases h
 split at h
 ·rename_i h5;exact absurd h h5.2
 split at h
 ·cases h
 rename_i h5 h6;refine⟨λhd=>⟨?_,λh4=>h6 ⟨hd,h4⟩⟩,λh1=>?_⟩
 ·by_cases hc:mM o.k o.l o.s=0
  ·exact hc
  ·exact absurd ⟨hd,hc⟩ h5
 ·rw[af (by omega),ag (.inl h1)]at h;unfold QK at h;cases hc:(dH b).contains o.ba with
  | true=>rfl
  | false=>rw[ag hc]at h;cases h
theorem Af{nI:Nat}:∀(r b:List OP),(mA nI b r).2=0->Jc b->(∀o∈b,o.kd=1->(dH b).contains o.ba=true)->Jc (b++r)/\∀o∈b++r,o.kd=1->(dH (b++r)).contains o.ba=true
 | [],b,_,h1,h2=>by rw[bc];exact⟨h1,h2⟩
 | o::r,b,h,h1,h2=>by
  rw[pD]at h;by_cases h0:DQ b o nI=0
  ·rw[af (cd h0)]at h;obtain⟨k1,k2⟩:=Jb h0;have:=Af r (b++[o]) h (λx hx=>by
    rcases aS.1 hx with hx|hx
    ·exact h1 x hx
    ·rw[bG]at hx;subst hx;exact k1) (λx hx hk=>by
    rw[dH,List.map_append,bT,ay,aS];refine .inl ?_;rcases aS.1 hx with hx|hx
    ·have:=h2 x hx hk;rwa[bT,ay]at this
    ·rw[bG]at hx;subst hx;have:=k2 hk;rwa[bT,ay]at this)
   simpa using this
  ·rw[ag h0]at h;exact absurd h h0
theorem LX{nI:Nat}{os:List OP}(h:(mA nI [] os).2=0):Jc os:=by
 have:=(Af os [] h (λo ho=>by cases ho) (λo ho=>by cases ho)).1;simpa using this
theorem E9{nI:Nat}{os:List OP}(h:(mA nI [] os).2=0):VN os:=by
 have:=Af os [] h (λo ho=>by cases ho) (λo ho=>by cases ho);rw[bF]at this;exact⟨λo ho hd=>(this.1 o ho hd).1,this.2⟩
section
variable {n:Nat}
theorem Bp{os:List OP}{i nI:Nat}(hi:i<os.length)(h:Jc (os.take i))(h0:DQ (os.take i) os[i] nI=0):Jc (os.take (i+1)):=by
 rw[bL hi];intro x hx;rcases aS.1 hx with hx|hx
 ·exact h x hx
 ·rw[bG]at hx;subst hx;exact(Jb h0).1
theorem RC{os:List OP}(h:Jc os):OU os:=λo ho hd=>(h o ho hd).1
theorem Nu(hn:1001<=n)(os:List AV)(is:List IN)(mL : is.length<=1000)(ms:List MN)(qZ : ms.length<=1000)(z7 z8:Int):∀(d i m:Nat),i+d=ms.length->d<m->
  eP.l n m (.z23 (ms.map MN.av) ms.length i os (is.map IN.av) (ms.map MN.av) z7 z8)=some (if(rG is.length (ms.drop i) i).2≠0 then(3,(rG is.length (ms.drop i) i).1,(rG is.length (ms.drop i) i).2)else(0,0,0))
 | _,_,0,_,h=>absurd h (by omega)
 | 0,i,m+1,h,_=>by
  rw[eP.MX];unfold eP.yk;rw[cV (by omega),aF (by omega)];rfl
 | d+1,i,m+1,h,hm=>by
  have hi:i<ms.length:=by omega
  have ih:=Nu hn os is mL ms qZ z7 z8 d (i+1) m (by omega) (by omega);rw[eP.MX];unfold eP.yk;simp(disch:=omega)only[ab,aB,ak,cond_false,aI,aM,aj,dq,cY,de,ec,dY,au,dR,dV,dA,dZ,cZ,dh,dn,dz,dx,cU,cV,MN.av];rw[Gt hn _ _ mL,ab,eG,ih,aC hi,sP];by_cases h0:Aj is.length ms[i]=0
  ·rw[ag h0,af (cd h0)]
  ·rw[af h0,ag h0,ag h0]
theorem Rv(hn:1001<=n)(os:List OP)(ho:os.length<=1000)(is:List IN)(mL : is.length<=1000)(hx:∀x∈is,x.ar.length<=1000)(ms:List MN)(qZ : ms.length<=100)(z7 z8:Int):∀(d i m:Nat),i+d=is.length->d+200<m->
  eP.l n m (.dM (is.map IN.av) is.length i (os.map OP.av) (is.map IN.av) (ms.map MN.av) z7 z8)=some (if(rP os (is.drop i) i).2≠0 then(2,(rP os (is.drop i) i).1,(rP os (is.drop i) i).2)else AX is.length ms)
 | _,_,0,_,h=>absurd h (by omega)
 | 0,i,m+1,h,_=>by
  rw[eP.KP];unfold eP.LM;rw[cV (by omega),aF (by omega),aj];have:=Nu hn (os.map OP.av) is mL ms (by omega) z7 z8 ms.length 0 m (by omega) (by omega);rw[aW]at this;exact this
 | d+1,i,m+1,h,hm=>by
  have hi:i<is.length:=by omega
  have ih:=Rv hn os ho is mL hx ms qZ z7 z8 d (i+1) m (by omega) (by omega);rw[eP.KP];unfold eP.LM;simp(disch:=omega)only[ab,aB,ak,cond_false,aI,aM,aj,dq,cY,de,ec,dY,au,dR,dV,dA,dZ,cZ,dh,dn,dz,dx,cU,cV,IN.av];rw[GA hn os ho _ _ is[i] (hx _ (aZ hi)),ab,eG,ih,aC hi,sR];by_cases h0:wy os is[i]=0
  ·rw[ag h0,af (cd h0)]
  ·rw[af h0,ag h0,ag h0]
theorem Ru(hn:1001<=n)(os:List OP)(ho:os.length<=28)(is:List IN)(mL : is.length<=100)(hx:∀x∈is,x.ar.length<=1000)(ms:List MN)(qZ : ms.length<=100)(z7 z8:Int):∀(d i m:Nat),i+d=os.length->d+400<m->Jc (os.take i)->((mA is.length (os.take i) (os.drop i)).2=0->(mA is.length [] os).2=0)->
  eP.l n m (.z6 os.length i (os.map OP.av) (is.map IN.av) (ms.map MN.av) z7 z8)=some (if(mA is.length (os.take i) (os.drop i)).2≠0 then(1,(mA is.length (os.take i) (os.drop i)).1,(mA is.length (os.take i) (os.drop i)).2)else if(wm os).2>24 then(0,0,30)else AY os is ms)
 | _,_,0,_,h,_,_=>absurd h (by omega)
 | 0,i,m+1,h,_,fF,hz=>by
  rw[aF (by omega)]at hz ⊢;have hL:=E9 (hz rfl);rw[eP.FT];unfold eP.r6;rw[cV (by omega),Gv hn os ho hL,ab,aj];have:=Rv hn os (by omega) is (by omega) hx ms qZ z7 z8 is.length 0 m (by omega) (by omega);rw[aW]at this;rw[af (by simp[mA]),u6,show((0:Int))=((0:Nat):Int)from rfl,this];split<;>rfl
 | d+1,i,m+1,h,hm,fF,hz=>by
  have hi:i<os.length:=by omega
  have ih:=Ru hn os ho is mL hx ms qZ z7 z8 d (i+1) m (by omega) (by omega);rw[eP.FT];unfold eP.r6;rw[cU (by omega),Ja hn os (by omega) is (by omega) _ i hi (RC fF),ab,eG,dY (by omega)];rw[aC hi,pD]at hz ⊢;by_cases h0:DQ (os.take i) os[i] is.length=0
  ·rw[af (cd h0),<-bL hi]at hz;rw[ag h0,af (cd h0),<-bL hi];exact ih (Bp hi fF h0) hz
  ·rw[af h0,ag h0,ag h0,bd,Nat.min_eq_left (by omega)]
theorem Ho(hn:1001<=n)(os:List OP)(ho:os.length<=28)(is:List IN)(mL : is.length<=100)(hx:∀x∈is,x.ar.length<=1000)(ms:List MN)(qZ : ms.length<=100):eP.F n (os.map OP.av) (is.map IN.av) (ms.map MN.av)=some (gh os is ms):=by
 obtain⟨m,rfl⟩:∃m,n=m+1:=⟨n - 1,by omega⟩;unfold eP.F eP.e gh;simp only[aj,eP.oE];unfold eP.r2;simp only[n_,ab,AH hn,eG,aj];have hq:=Ru hn os ho is mL hx ms qZ 0 0 os.length 0 m (by omega) (by omega) (λo ho=>by simp at ho) (λh=>h);rw[aW,List.take_zero]at hq;have c1:decide (((os.length:Nat):Int)>24)=decide (os.length>24):=by rw[bA];omega
 have c2:decide (((is.length:Nat):Int)>40)=decide (is.length>40):=by rw[bA];omega
 have c3:decide (((ms.length:Nat):Int)>6)=decide (ms.length>6):=by rw[bA];omega
 rw[c1,c2,c3];by_cases h1:os.length>24
 ·simp[h1]
 ·by_cases h2:is.length>40
  ·simp[h1,h2]
  ·by_cases h3:ms.length>6
   ·simp[h1,h2,h3]
   ·by_cases h4:is.length=0
    ·simp[h1,h2,h3,h4]
    ·rw[show((0:Int))=((0:Nat):Int)from rfl]at hq;have W8 : ¬ ((is.length:Nat):Int)=0:=by omega
     simp only[h1,h2,h3,h4,W8,decide_false,cond_false,or_self,if_false,iL,b9,ne_eq,not_true_eq_false,ck];exact hq
end
section
variable {n:Nat}
theorem Nq(hn:1001<=n)(os:List AV)(is:List IN)(mL : is.length<=1000)(ms:List MN)(qZ : ms.length<=1000)(z5 z6:Int):∀(d i m:Nat),i+d=ms.length->d+1<m->
  gL.l n m (.z21 i os (is.map IN.av) (ms.map MN.av) z5 z6)=some (if(rG is.length (ms.drop i) i).2≠0 then(3,(rG is.length (ms.drop i) i).1,(rG is.length (ms.drop i) i).2)else(0,0,0))
 | _,_,0,_,h=>absurd h (by omega)
 | 0,i,m+1,h,_=>by
  rw[gL.CY];unfold gL.qw;simp only[aj];rw[cV (by omega),aF (by omega)];rfl
 | d+1,i,m+1,h,hm=>by
  have hi:i<ms.length:=by omega
  obtain⟨q,rfl⟩:∃q,m=q+1:=⟨m - 1,by omega⟩;have ih:=Nq hn os is mL ms qZ z5 z6 d (i+1) (q+1) (by omega) (by omega);have AE:gL.l n (q+1) (.z25 (i:Int) z5 z6)=some (3,(i:Int),3):=rfl;rw[gL.CY];unfold gL.qw;simp(disch:=omega)only[ab,aB,ak,cond_false,aI,aM,aj,dq,cY,de,ec,dY,au,dR,dV,dA,dZ,cZ,dh,dn,dz,dx,cU,cV,MN.av,AE,gf];rw[jU (by omega) (by omega),ih,aC hi,sP];unfold Aj;by_cases h1:0<=ms[i].fr
  ·rw[cV (by omega)];by_cases h2:ms[i].fr<ms[i].tt
   ·rw[cV (by omega)];by_cases h3:ms[i].tt<=(is.length:Int)
    ·rw[cV (by omega)];by_cases h4:0<=ms[i].ex/\ms[i].ex<=999
     ·by_cases h5:0<=ms[i].hd/\ms[i].hd<=(is.length:Int) - 1
      ·simp[h1,h2,h3,h4,h5]
      ·simp[h1,h2,h3,h4,h5]
     ·simp[h1,h2,h3,h4]
    ·rw[cU (by omega)];simp[h1,h2,h3]
   ·rw[cU (by omega)];simp[h1,h2]
  ·rw[cU (by omega)];simp[h1]
theorem Rh(hn:1001<=n)(os:List OP)(ho:os.length<=1000)(fF:Jc os)(is:List IN)(mL : is.length<=1000)(hx:∀x∈is,x.ar.length<=1000)(ms:List MN)(qZ : ms.length<=100)(z5 z6:Int):∀(d i m:Nat),i+d=is.length->d+200<m->
  gL.l n m (.dE i (os.map OP.av) (is.map IN.av) (ms.map MN.av) z5 z6)=some (if(rP os (is.drop i) i).2≠0 then(2,(rP os (is.drop i) i).1,(rP os (is.drop i) i).2)else AX is.length ms)
 | _,_,0,_,h=>absurd h (by omega)
 | 0,i,m+1,h,_=>by
  rw[gL.CZ];unfold gL.qX;simp only[aj];rw[cV (by omega),aF (by omega)];have:=Nq hn (os.map OP.av) is mL ms (by omega) z5 z6 ms.length 0 m (by omega) (by omega);rw[aW]at this;exact this
 | d+1,i,m+1,h,hm=>by
  have hi:i<is.length:=by omega
  have ih:=Rh hn os ho fF is mL hx ms qZ z5 z6 d (i+1) m (by omega) (by omega);rw[gL.CZ];unfold gL.qX;simp(disch:=omega)only[ab,aB,ak,cond_false,aI,aM,aj,dq,cY,de,ec,dY,au,dR,dV,dA,dZ,cZ,dh,dn,dz,dx,cU,cV,IN.av];rw[D9 hn os ho fF _ _ is[i] (hx _ (aZ hi)),ab,eG,ih,aC hi,sR];by_cases h0:wy os is[i]=0
  ·rw[ag h0,af (cd h0)]
  ·rw[af h0,ag h0,ag h0]
theorem Rf(hn:1001<=n)(os:List OP)(ho:os.length<=28)(is:List IN)(mL : is.length<=100)(hx:∀x∈is,x.ar.length<=1000)(ms:List MN)(qZ : ms.length<=100)(z5 z6:Int):∀(d i m:Nat),i+d=os.length->d+400<m->Jc (os.take i)->((mA is.length (os.take i) (os.drop i)).2=0->(mA is.length [] os).2=0)->
  gL.l n m (.z6 i (os.map OP.av) (is.map IN.av) (ms.map MN.av) z5 z6)=some (if(mA is.length (os.take i) (os.drop i)).2≠0 then(1,(mA is.length (os.take i) (os.drop i)).1,(mA is.length (os.take i) (os.drop i)).2)else if(wm os).2>24 then(0,0,30)else AY os is ms)
 | _,_,0,_,h,_,_=>absurd h (by omega)
 | 0,i,m+1,h,_,fF,hz=>by
  rw[aF (by omega)]at hz ⊢;have hL:=E9 (hz rfl);have h4:=LX (hz rfl);rw[gL.FT];unfold gL.r6;simp only[aj];rw[cV (by omega),D1 hn os ho hL,ab];have:=Rh hn os (by omega) h4 is (by omega) hx ms qZ z5 z6 is.length 0 m (by omega) (by omega);rw[aW]at this;rw[af (by simp[mA]),u6,show((0:Int))=((0:Nat):Int)from rfl,this];split<;>rfl
 | d+1,i,m+1,h,hm,fF,hz=>by
  have hi:i<os.length:=by omega
  have ih:=Rf hn os ho is mL hx ms qZ z5 z6 d (i+1) m (by omega) (by omega);rw[gL.FT];unfold gL.r6;simp only[aj];rw[cU (by omega),Gm hn os (by omega) is (by omega) _ i hi (RC fF),ab,eG,dY (by omega)];rw[aC hi,pD]at hz ⊢;by_cases h0:DQ (os.take i) os[i] is.length=0
  ·rw[af (cd h0),<-bL hi]at hz;rw[ag h0,af (cd h0),<-bL hi];exact ih (Bp hi fF h0) hz
  ·rw[af h0,ag h0,ag h0,bd,Nat.min_eq_left (by omega)]
theorem Et(hn:1001<=n)(os:List OP)(ho:os.length<=28)(is:List IN)(mL : is.length<=100)(hx:∀x∈is,x.ar.length<=1000)(ms:List MN)(qZ : ms.length<=100):gL.F n (os.map OP.av) (is.map IN.av) (ms.map MN.av)=some (gh os is ms):=by
 obtain⟨m,rfl⟩:∃m,n=m+1:=⟨n - 1,by omega⟩;unfold gL.F gL.e gh;have SN : gL.l (m+1) (m+1) (.z2 0 0)=some (0,0,2):=rfl;simp only[aj,SN];have hq:=Rf hn os ho is mL hx ms qZ 0 0 os.length 0 (m+1) (by omega) (by omega) (λo ho=>by simp at ho) (λh=>h);rw[aW,List.take_zero,show(((0:Nat):Int))=0 from rfl]at hq;have c1:decide (((os.length:Nat):Int)>24)=decide (os.length>24):=by rw[bA];omega
 have c2:decide (((is.length:Nat):Int)>40)=decide (is.length>40):=by rw[bA];omega
 have c3:decide (((ms.length:Nat):Int)>6)=decide (ms.length>6):=by rw[bA];omega
 rw[c1,c2,c3];by_cases h1:os.length>24
 ·simp[h1]
 ·by_cases h2:is.length>40
  ·simp[h1,h2]
  ·by_cases h3:ms.length>6
   ·simp[h1,h2,h3]
   ·by_cases h4:is.length=0
    ·simp[h1,h2,h3,h4]
    ·have W8 : ¬ ((is.length:Nat):Int)=0:=by omega
     simp only[h1,h2,h3,h4,W8,decide_false,cond_false,or_self,if_false,iL,b9];exact hq
theorem KM(n:Nat):A7.F n=some true:=rfl
end
def RJ:List Int->Int->Nat->Int
 | [],_,_=>-1
 | w::r,s,i=>if w=s then(i:Int)else RJ r s (i+1)
theorem JE(w:Int)(r:List Int)(s:Int)(i:Nat):RJ (w::r) s i=if w=s then(i:Int)else RJ r s (i+1):=rfl
section
variable {n:Nat}
theorem B6(n:Nat)(ws:List Int)(hw:ws.length<=1000)(s:Int):∀(d i m:Nat),i+d=ws.length->d<m->ud.l n m (.z2 (ws.map vi) s ws.length i)=some (RJ (ws.drop i) s i)
 | _,_,0,_,h=>absurd h (by omega)
 | 0,i,m+1,h,_=>by
  rw[ud.oE];unfold ud.r2;rw[cV (by omega),aF (by omega)];rfl
 | d+1,i,m+1,h,hm=>by
  have hi:i<ws.length:=by omega
  have ih:=B6 n ws hw s d (i+1) m (by omega) (by omega);rw[ud.oE];unfold ud.r2;simp(disch:=omega)only[ab,aB,ak,cond_false,aI,aM,aj,dq,cY,de,ec,dY,au,dR,dV,dA,dZ,cZ,dh,dn,dz,dx,cU,cV];rw[ih,aC hi,JE,dD];by_cases h1:ws[i]=s
  ·rw[ag h1,ag h1.symm]
  ·rw[af h1,af (λe=>h1 e.symm)]
theorem MT(hn:1001<=n)(ws:List Int)(hw:ws.length<=1000)(s:Int):Tz.F n (ws.map vi) s=some (decide (RJ ws s 0>=0)):=by
 unfold Tz.F Tz.e ud.F ud.e;have:=B6 n ws hw s ws.length 0 n (by omega) (by omega);rw[aW]at this;rw[aj,show((0:Int))=((0:Nat):Int)from rfl,this];rfl
theorem JG(n:Nat)(l:List Int)(hl:l.length<=100000):∀(d i m:Nat),i+d=l.length->d<m->ju.l n m (.z4 (l.map vi) (l.map vi) i)=some true
 | _,_,0,_,h=>absurd h (by omega)
 | 0,i,m+1,h,_=>by
  rw[ju.tj];unfold ju.r4;simp only[aj];rw[cV (by omega)]
 | d+1,i,m+1,h,hm=>by
  have hi:i<l.length:=by omega
  have ih:=JG n l hl d (i+1) m (by omega) (by omega);rw[ju.tj];unfold ju.r4;simp(disch:=omega)only[ab,aB,ak,cond_false,aI,aM,aj,dq,cY,de,ec,dY,au,dR,dV,dA,dZ,cZ,dh,dn,dz,dx,cU,cV];rw[eG,ag rfl,ih]
theorem Gz(l:List Int)(hl:l.length<=100000)(hn:100001<=n):ju.F n (l.map vi) (l.map vi)=some true:=by
 unfold ju.F ju.e;simp only[aj];rw[eG,ag rfl];exact JG n l hl l.length 0 n (by omega) (by omega)
end
theorem Hl{k:Nat}(h:k<10):Lib.decDigits k=[UInt8.ofNat (48+k)]:=by rw[Lib.decDigits,dif_pos h]
theorem wY{k:Nat}(h:¬ k<10):Lib.decDigits k=Lib.decDigits (k / 10)++[UInt8.ofNat (48+k % 10)]:=by rw[Lib.decDigits,dif_neg h]
theorem kH:∀(m k:Nat),k<10 ^ (m+1)->1<=(Lib.decDigits k).length/\(Lib.decDigits k).length<=m+1
 | m,k,h=>by
  by_cases h1:k<10
  ·rw[Hl h1];simp
  ·rw[wY h1];cases m with
   | zero=>omega
   | succ m=>
    have:=kH m (k / 10) (by rw[Nat.pow_succ]at h;omega);simp only[ai,az,aJ];omega
theorem oS(k:Nat)(h:k<10):strOf [vu (IntKind.u8.wrap (IntKind.i64.wrap (48+(k:Int))))]=some [UInt8.ofNat (48+k)]:=by
 have:∀k:Fin 10,strOf [vu (IntKind.u8.wrap (IntKind.i64.wrap (48+((k.1:Nat):Int))))]=some [UInt8.ofNat (48+k.1)]:=by decide +kernel
 exact this ⟨k,h⟩
theorem G9{n:Nat}(hn:20<=n)(k:Nat)(h:k<10 ^ 18):oG.F n k=some (bs (Lib.decDigits k)):=by
 obtain⟨m,rfl⟩:∃m,n=m+18:=⟨n - 18,by omega⟩;unfold oG.F;have:∀(q j:Nat) (k:Nat),k<10 ^ (j+1)->j<=17->oG.D (m+18) (j+1+q) k=some (bs (Lib.decDigits k)):=by
  intro q j;induction j with
  | zero=>
   intro k hk _;have hk:k<10:=by simpa using hk
   rw[show 0+1+q=q+1 by omega];rw[oG.K2];unfold oG.e;rw[cV (by omega),cV (by omega),cU (by omega)];simp only[oS k hk];rw[Hl hk];rfl
  | succ j ih=>
   intro k hk hj;have hp:10 ^ (j+1+1)<=10 ^ 18:=bJ (by omega) (by omega);rw[show j+1+1+q=(j+1+q)+1 by omega];rw[oG.K2];unfold oG.e;rw[cV (by omega),cV (by omega)];by_cases h1:k<10
   ·rw[cU (by omega)];simp only[oS k h1];rw[Hl h1];rfl
   ·rw[cV (by omega)];have e1:IntKind.i64.wrap (Int.tdiv (k:Int) 10)=((k / 10:Nat):Int):=by rw[Int.tdiv_eq_ediv_of_nonneg (by omega),jU]<;>omega
    have e2:Int.tmod (k:Int) 10=((k % 10:Nat):Int):=by rw[Int.tmod_eq_emod_of_nonneg (by omega)];omega
    have sV : k / 10<10 ^ (j+1):=by rw[Nat.pow_succ]at hk;omega
    have hl:=kH j (k / 10) sV;simp only[e1,e2,oS (k % 10) (by omega)];rw[ih (k / 10) sV (by omega),ab];simp only[cX];rw[jh (by rw[cY,cY];simp;omega),eF,<-wY h1]
 have h2:=this m 17 k h (by omega);rw[show 17+1+m=m+18 by omega]at h2;exact h2
def oI(c:UInt8):Bool:=decide (32<=c.toNat)&&decide (c.toNat<=126)
section
variable {n:Nat}
theorem gQ(a:UInt8):(⟨#[a]⟩:ByteArray)=bs [a]:=rfl
theorem wj(a b:UInt8):(⟨#[a,b]⟩:ByteArray)=bs [a,b]:=rfl
theorem BW(a b c:UInt8):(⟨#[a,b,c]⟩:ByteArray)=bs [a,b,c]:=rfl
theorem BV(a b c d:UInt8):(⟨#[a,b,c,d]⟩:ByteArray)=bs [a,b,c,d]:=rfl
theorem L7(a b c d e f g:UInt8):(⟨#[a,b,c,d,e,f,g]⟩:ByteArray)=bs [a,b,c,d,e,f,g]:=rfl
theorem OY(a b c d e f g h:UInt8):(⟨#[a,b,c,d,e,f,g,h]⟩:ByteArray)=bs [a,b,c,d,e,f,g,h]:=rfl
theorem nx(k:Int)(h1 : -1000000000000000<=k)(h2:k<=1000000000000000):qR.F n k=some (bs (Lib.itoa k)):=by
 unfold qR.F;have:(decide ((-9223372036854775808:Int)<=k)&&decide (k<=9223372036854775807))=true:=by rw[ae,ay,ay];omega
 rw[this,ak]
theorem gH(k:Int)(h1 : -1000000000000000<=k)(h2:k<=1000000000000000):(Lib.itoa k).length<=20:=by
 unfold Lib.itoa;split
 ·have:=(kH 16 k.natAbs (by omega)).2;simp only[az];omega
 ·have:=(kH 16 k.toNat (by omega)).2;omega
def tZ(s:List UInt8):List UInt8:=s.flatMap λc=>if c=39 then[39,39]else[c]
theorem jo(c:UInt8)(s:List UInt8):tZ (c::s)=(if c=39 then[39,39]else[c])++tZ s:=rfl
theorem AT:∀s:List UInt8,(tZ s).length<=2*s.length
 | []=>by simp[tZ]
 | c::s=>by
  have:=AT s;rw[jo,ai,az];split<;>simp<;>omega
def qd(s:List UInt8):List UInt8:=[39]++tZ s++[39]
theorem CS:∀s:List UInt8,s.count 39=0->tZ s=s
 | [],_=>rfl
 | c::s,h=>by
  rw[List.count_cons]at h;have h1:¬ c=39:=by intro e;rw[e]at h;simp at h
  rw[jo,af h1,CS s (by omega)];rfl
theorem IP:∀(s:List UInt8) (k:Nat),s.count 39<=k->Lib.replaceK [39] [39,39] k s=tZ s
 | [],0,_=>rfl
 | [],k+1,_=>rfl
 | c::s,k,h=>by
  by_cases hc:c=39
  ·subst hc;rw[List.count_cons_self]at h;obtain⟨k,rfl⟩:∃q,k=q+1:=⟨k - 1,by omega⟩;have hi:Lib.index (39::s) [39]=((0:Nat):Int):=by simp[Lib.index]
   rw[Lib.replaceK_hit [39] [39,39] k (39::s) 0 hi,jo,ag rfl];have:=IP s k (by omega);simp only[List.take_zero,bF,bN,bO,ca,aW,this]
  ·have hcn:(39::([]:List UInt8)).isPrefixOf (c::s)=false:=by
    simp[List.isPrefixOf];intro e;exact hc e.symm
   have hct:(c::s).count 39=s.count 39:=by rw[List.count_cons];simp[hc]
   rw[hct]at h;cases k with
   | zero=>
    rw[CS (c::s) (by omega)];rfl
   | succ k=>
    have ih:=IP s (k+1) h;have N5:Lib.index (c::s) [39]=if Lib.index s [39]==-1 then -1 else Lib.index s [39]+1:=by
     rw[Lib.index,hcn];rfl
    by_cases hm:Lib.index s [39]=-1
    ·rw[Lib.replaceK,ag (by rw[N5,hm];rfl)];rw[Lib.replaceK,ag (by rw[hm];rfl)]at ih;rw[jo,af hc,<-ih];rfl
    ·have Sj:=Lib.index_ge s [39];obtain⟨i,hi⟩:∃i:Nat,Lib.index s [39]=i:=⟨(Lib.index s [39]).toNat,by omega⟩;have mL : Lib.index (c::s) [39]=((i+1:Nat):Int):=by
      rw[N5,af (by rw[beq_iff_eq];exact hm),hi];rfl
     rw[Lib.replaceK_hit _ _ k s i hi]at ih;rw[Lib.replaceK_hit _ _ k (c::s) (i+1) mL,jo,af hc,<-ih];have:i+1+[(39:UInt8)].length=(i+[(39:UInt8)].length)+1:=by simp
     rw[this,ca,cC];simp
theorem xu(s:List UInt8)(hs:s.length<=100000):zu.F n (bs s) (bs [39]) (bs [39,39])=some (bs (tZ s)):=by
 unfold zu.F;have hc:Lib.countB (bs s) (bs [39])<=s.length:=Lib.countB_le (bs [39]) (by decide) s.length (bs s) (by rw[cY];omega);have hg:((decide ((bs s).size<4294967281)&&decide (1<=(bs [39]).size))&&decide ((bs s).size+Lib.countB (bs s) (bs [39])*(bs [39,39]).size<=140737488355328))=true:=by
  rw[ae,ae,ay,ay,ay,cY,cY,cY];simp only[az,aJ];omega
 rw[hg,ak];have:Lib.replaceAll (bs s).data.toList (bs [39]).data.toList (bs [39,39]).data.toList=tZ s:=by
  show Lib.replaceAll s [39] [39,39]=tZ s;unfold Lib.replaceAll Lib.replace Lib.replaceNum;rw[af (by decide),ag (by left;decide),IP s _ (by rw[Lib.count_one];omega)]
 rw[this]
theorem byte_at{l:List UInt8}{i:Nat}(hi:i<l.length):l.toArray.getD i 0=l[i]:=by
 simp[Array.getD,hi]
end
def fQ(a s:Nat):List UInt8:=List.replicate (s+1 - (Lib.decDigits a).length) 48++Lib.decDigits a
def C_(t:List UInt8)(s:Nat):List UInt8:=if 0<s then t.take (t.length - s)++[46]++t.drop (t.length - s)else t
def oA(v:Int)(s:Nat):List UInt8:=(if v<0 then[45]else[])++C_ (fQ v.natAbs s) s
theorem Nl:∀k,Lib.repeatL [48] k=List.replicate k 48
 | 0=>rfl
 | k+1=>by rw[Lib.repeatL,Nl k];rfl
theorem q_{a s:Nat}(ha:a<10 ^ 15)(hs:s<=15):s<(fQ a s).length/\(fQ a s).length<=16:=by
 have:=kH 14 a ha;unfold fQ;rw[ai,bX];omega
theorem uO{t:List UInt8}{s:Nat}(h:s<=t.length):(C_ t s).length<=t.length+1:=by
 unfold C_;split
 ·simp;omega
 ·omega
theorem BQ{v:Int}{s:Nat}(ha:v.natAbs<10 ^ 15)(hs:s<=15):(oA v s).length<=18:=by
 have h1:=q_ ha hs;have h2:=uO (t:=fQ v.natAbs s) (s:=s) (by omega);unfold oA;rw[ai];split<;>simp<;>omega
section
variable {n:Nat}
theorem abs_eq{v:Int}(h:v.natAbs<10 ^ 15):(if IntKind.i64.wrap (0 - v)>v then IntKind.i64.wrap (0 - v)else v)=((v.natAbs:Nat):Int):=by
 have ov:(10:Nat) ^ 15=1000000000000000:=by decide
 rw[jU (by omega) (by omega)];split<;>omega
theorem IQ(k:Nat)(hk:k<=100):FV.F n (⟨#[48]⟩:ByteArray) ((k:Nat):Int)=some (bs (List.replicate k 48)):=by
 unfold FV.F;have hg:(decide ((0:Int)<=((k:Nat):Int))&&decide ((((⟨#[48]⟩:ByteArray).size:Nat):Int)*((k:Nat):Int)<=140737488355328)&&decide (((k:Nat):Int)<=9223372036854775807))=true:=by
  rw[show(((⟨#[48]⟩:ByteArray).size:Nat):Int)=1 from rfl,ae,ae,ay,ay,ay];omega
 rw[hg,ak,au];show some (bs (Lib.repeatL [48] k))=_;rw[Nl]
theorem IY(m:Nat)(t:List UInt8)(ht:t.length<=100)(v s:Int):jd.l n (m+1) (.z9 (bs t) v s)=some (bs ((if v<0 then[45]else[])++t),0):=by
 rw[jd.at9];unfold jd.r9;by_cases h:v<0
 ·rw[cU h,ag h,jh (by rw[cY];omega),gQ,eF]
 ·rw[cV h,af h];rfl
theorem KC{t:List UInt8}{s:Nat}(hs:s<t.length)(ht:t.length<=100)(h0:0<s)(K:ByteArray->Option (ByteArray × Int)) :
  (bif decide ((0:Int)<=IntKind.i64.wrap ((((bs t).size:Nat):Int) - (s:Int)))&&decide ((IntKind.i64.wrap ((((bs t).size:Nat):Int) - (s:Int)):Int)<=(((bs t).size:Nat):Int))then
   js (decide (((bs t).extract 0 (IntKind.i64.wrap ((((bs t).size:Nat):Int) - (s:Int))).toNat).size+1<=9223372036854775807))
    (bif decide ((0:Int)<=IntKind.i64.wrap ((((bs t).size:Nat):Int) - (s:Int)))&&decide ((IntKind.i64.wrap ((((bs t).size:Nat):Int) - (s:Int)):Int)<=(((bs t).size:Nat):Int))then
     js (decide ((((bs t).extract 0 (IntKind.i64.wrap ((((bs t).size:Nat):Int) - (s:Int))).toNat)++(⟨#[46]⟩:ByteArray)).size+((bs t).extract (IntKind.i64.wrap ((((bs t).size:Nat):Int) - (s:Int))).toNat (bs t).size).size<=9223372036854775807))
      (K ((((bs t).extract 0 (IntKind.i64.wrap ((((bs t).size:Nat):Int) - (s:Int))).toNat)++(⟨#[46]⟩:ByteArray))++((bs t).extract (IntKind.i64.wrap ((((bs t).size:Nat):Int) - (s:Int))).toNat (bs t).size)))else none)else none)=K (bs (C_ t s)):=by
 have e:IntKind.i64.wrap (((t.length:Nat):Int) - (s:Int))=((t.length - s:Nat):Int):=by rw[jU (by omega) (by omega)];omega
 simp only[cY,e,au];rw[ec (by omega),ak,ak,mf,cY,show(bs t).extract (t.length - s) t.length=bs (t.drop (t.length - s))from gu t _,gQ,eF,cY,cY,ai,bd,aQ,bN,jh (by omega),jh (by omega),eF];unfold C_;rw[ag h0]
theorem uv(hn:1001<=n){v s:Int}(hv:v.natAbs<10 ^ 15)(Mh:0<=s)(hs:s<=15):jd.F n v s=some (bs (oA v s.toNat),0):=by
 obtain⟨m,rfl⟩:∃m,n=m+1:=⟨n - 1,by omega⟩;have ov:(10:Nat) ^ 15=1000000000000000:=by decide
 obtain⟨k,rfl⟩:∃k:Nat,s=k:=⟨s.toNat,by omega⟩;unfold jd.F jd.e;have hc:lS.F (m+1) v (k:Int)=some 0:=by
  unfold lS.F lS.e;simp only[JK,ab,rD];rw[decide_eq_true (show -999999999999999<=v/\v<=999999999999999 by omega),decide_eq_true (show(0:Int)<=(k:Int)/\(k:Int)<=15 by omega)];rfl
 have hd:=kH 14 v.natAbs hv;have hz:=q_ hv (show k<=15 by omega);have hi:qR.F (m+1) ((v.natAbs:Nat):Int)=some (bs (Lib.decDigits v.natAbs)):=by
  rw[nx _ (by omega) (by omega),Lib.itoa,af (by omega),au]
 rw[hc,ab,eG,ag rfl];simp only[abs_eq hv,hi,ab];unfold oA;rw[au];by_cases hl:(Lib.decDigits v.natAbs).length<=k
 ·rw[cU (by rw[cY];omega),jU (x:=(k:Int)+1) (by omega) (by omega),cY,jU (by omega) (by omega),show((k:Int)+1 - (((Lib.decDigits v.natAbs).length:Nat):Int))=((k+1 - (Lib.decDigits v.natAbs).length:Nat):Int) by omega,IQ _ (by omega),ab,jh (by rw[cY,bX];omega),eF];have h0:0<k:=by omega
  rw[cU (by omega)];show _=some (bs ((if v<0 then[45]else[])++C_ (fQ v.natAbs k) k),0);have:=KC (t:=fQ v.natAbs k) (s:=k) hz.1 (by omega) h0 (λb=>jd.l (m+1) (m+1) (.z9 b v (k:Int)));have hp:=uO (t:=fQ v.natAbs k) (s:=k) (by omega);rw[IY m _ (show(C_ (fQ v.natAbs k) k).length<=100 by omega)]at this;exact this
 ·have RO:fQ v.natAbs k=Lib.decDigits v.natAbs:=by
   unfold fQ;rw[show k+1 - (Lib.decDigits v.natAbs).length=0 by omega];rfl
  rw[RO]at hz ⊢;rw[cV (by rw[cY];omega)];have hp:=uO (t:=Lib.decDigits v.natAbs) (s:=k) (by omega);by_cases h0:0<k
  ·rw[cU (by omega)];have:=KC (t:=Lib.decDigits v.natAbs) (s:=k) hz.1 (by omega) h0 (λb=>jd.l (m+1) (m+1) (.z9 b v (k:Int)));rw[IY m _ (show(C_ (Lib.decDigits v.natAbs) k).length<=100 by omega)]at this;exact this
  ·rw[cV (by omega),IY m _ (show(Lib.decDigits v.natAbs).length<=100 by omega)];unfold C_;rw[af h0]
theorem Is(hn:1001<=n){v:Int}{k:Nat}(hk:k<=15)(hv:v.natAbs<10 ^ 15):∀(d j m:Nat),k+1 - (Lib.decDigits v.natAbs).length=j+d->d+2<=m->ko.l n m (.z2 (bs (List.replicate j 48++Lib.decDigits v.natAbs)) v (k:Int))=some (bs (oA v k))
 | _,_,0,_,h=>absurd h (by omega)
 | 0,j,m+1,h,hm=>by
  obtain⟨q,rfl⟩:∃q,m=q+1:=⟨m - 1,by omega⟩;have hd:=kH 14 v.natAbs hv;have hz:=q_ hv hk;have hzz:List.replicate j 48++Lib.decDigits v.natAbs=fQ v.natAbs k:=by unfold fQ;rw[show k+1 - (Lib.decDigits v.natAbs).length=j by omega]
  have h8:∀b,ko.l n (q+1) (.z8 b)=some b:=λ_=>rfl;rw[hzz,ko.oE];unfold ko.r2 oA;rw[cV (by rw[cY];omega)];have hp:=uO (t:=fQ v.natAbs k) (s:=k) (by omega);have fin:∀t:List UInt8,t.length<=100->(bif decide (v<0)then(js (decide (1+(bs t).size<=9223372036854775807)) (ko.l n (q+1) (.z8 ((⟨#[45]⟩:ByteArray)++bs t))))else(ko.l n (q+1) (.z8 (bs t))))=some (bs ((if v<0 then[45]else[])++t)):=by
   intro t ht;by_cases h:v<0
   ·rw[cU h,ag h,jh (by rw[cY];omega),gQ,eF,h8]
   ·rw[cV h,af h,h8];rfl
  by_cases h0:0<k
  ·rw[cU (by omega)];have e:IntKind.i64.wrap ((((fQ v.natAbs k).length:Nat):Int) - (k:Int))=(((fQ v.natAbs k).length - k:Nat):Int):=by rw[jU (by omega) (by omega)];omega
   simp only[cY,e,au];rw[ec (by omega),ak,ak,mf,cY,show(bs (fQ v.natAbs k)).extract ((fQ v.natAbs k).length - k) (fQ v.natAbs k).length=bs ((fQ v.natAbs k).drop ((fQ v.natAbs k).length - k))from gu _ _,gQ,eF,cY,cY,ai,bd,aQ,bN,jh (by omega),jh (by omega),eF];have HV:C_ (fQ v.natAbs k) k=(fQ v.natAbs k).take ((fQ v.natAbs k).length - k)++[46]++(fQ v.natAbs k).drop ((fQ v.natAbs k).length - k):=by unfold C_;rw[ag h0]
   rw[<-HV];exact fin _ (by omega)
  ·rw[cV (by omega)];have HV:C_ (fQ v.natAbs k) k=fQ v.natAbs k:=by unfold C_;rw[af h0]
   rw[HV];exact fin _ (by omega)
 | d+1,j,m+1,h,hm=>by
  have hd:=kH 14 v.natAbs hv;have ih:=Is hn hk hv d (j+1) m (by omega) (by omega);rw[ko.oE];unfold ko.r2;rw[cU (by rw[cY,ai,bX];omega),jh (by rw[cY,ai,bX];omega),gQ,eF,<-ih];rfl
theorem It(hn:1001<=n){v s:Int}(hv:v.natAbs<10 ^ 15)(Mh:0<=s)(hs:s<=15):ko.F n v s=some (bs (oA v s.toNat)):=by
 have ov:(10:Nat) ^ 15=1000000000000000:=by decide
 obtain⟨k,rfl⟩:∃k:Nat,s=k:=⟨s.toNat,by omega⟩;unfold ko.F ko.e uH.F uH.e;simp only[abs_eq hv,ab];rw[G9 (by omega) _ (by omega),ab,au];have hd:=kH 14 v.natAbs hv;exact Is hn (by omega) hv (k+1 - (Lib.decDigits v.natAbs).length) 0 n (by omega) (by omega)
end
theorem xA(a b c d e:UInt8):(⟨#[a,b,c,d,e]⟩:ByteArray)=bs [a,b,c,d,e]:=rfl
theorem OZ(a b c d e f:UInt8):(⟨#[a,b,c,d,e,f]⟩:ByteArray)=bs [a,b,c,d,e,f]:=rfl
theorem RF(a b c d e f g h i j:UInt8):(⟨#[a,b,c,d,e,f,g,h,i,j]⟩:ByteArray)=bs [a,b,c,d,e,f,g,h,i,j]:=rfl
def rZ:List UInt8:=[48,49,50,51,52,53,54,55,56,57,65,66,67,68,69,70]
def La(c:UInt8):List UInt8:=[rZ.getD (c.toNat / 16) 0,rZ.getD (c.toNat % 16) 0]
def oC(s:List UInt8):List UInt8:=s.flatMap La
theorem mv(c:UInt8)(s:List UInt8):oC (c::s)=La c++oC s:=rfl
theorem rV:∀s:List UInt8,(oC s).length=2*s.length
 | []=>rfl
 | c::s=>by rw[mv,ai,rV s];simp[La];omega
def ub(l:List UInt8):List AV:=l.map λb=>vu b.toNat
theorem iW(l:List UInt8):(ub l).length=l.length:=by simp[ub]
theorem nr:∀l:List UInt8,strOf (ub l)=some l
 | []=>rfl
 | b::l=>by
  have ih:=nr l;unfold ub at ih ⊢;simp only[bx,strOf,ih,cE];congr 2;simp
theorem Pj(c:UInt8):Int.fdiv ((c.toNat:Nat):Int) (2 ^ min (4:Int).toNat 8)=((c.toNat / 16:Nat):Int):=by
 rw[show(2:Int) ^ min (4:Int).toNat 8=16 from rfl,Int.fdiv_eq_ediv_of_nonneg _ (by omega)];omega
theorem OX(c:UInt8):IntKind.u8.wrap ((BitVec.ofInt 8 ((c.toNat:Nat):Int) &&& BitVec.ofInt 8 15).toNat:Nat)=((c.toNat % 16:Nat):Int):=by
 have:∀k:Fin 256,IntKind.u8.wrap ((BitVec.ofInt 8 ((k.1:Nat):Int) &&& BitVec.ofInt 8 15).toNat:Nat)=((k.1 % 16:Nat):Int):=by decide +kernel
 exact this ⟨c.toNat,c.toNat_lt⟩
theorem Pn(k:Nat):(#[48,49,50,51,52,53,54,55,56,57,65,66,67,68,69,70]:Array UInt8).getD k 0=rZ.getD k 0:=FQ rZ k
theorem Q9(c:UInt8):[vu (((rZ.getD (c.toNat / 16) 0).toNat:Nat):Int),vu (((rZ.getD (c.toNat % 16) 0).toNat:Nat):Int)]=ub (La c):=rfl
theorem zF(a b:List UInt8):ub a++ub b=ub (a++b):=by simp[ub]
theorem Na{l:List UInt8}{i:Nat}(hi:i<l.length):(ub l).getD i AV.undef=vu ((l[i].toNat:Nat):Int):=by simp[ub,ah,hi]
section
variable {n:Nat}
theorem J7(s:List UInt8)(hs:s.length<=100000):∀(d i m:Nat) (acc:List UInt8),i+d=s.length->d<m->acc.length=2+2*i->kJ.l n m (.z8 s.length i (ub acc) (ub s))=some (bs (acc++oC (s.drop i)++[39]))
 | _,_,0,_,_,h,_=>absurd h (by omega)
 | 0,i,m+1,acc,h,_,ha=>by
  have lO:fe=1000000000:=rfl;rw[kJ.at8];unfold kJ.r8;rw[cV (by omega),show([vu 39]:List AV)=ub [39]from rfl,iW,iW,cU (by simp;omega),zF,nr,aF (by omega)];simp[cX,oC]
 | d+1,i,m+1,acc,h,hm,ha=>by
  have hi:i<s.length:=by omega
  have lO:fe=1000000000:=rfl;have Xa:=s[i].toNat_lt;have ih:=J7 s hs d (i+1) m (acc++La s[i]) (by omega) (by omega) (by simp[La];omega);rw[kJ.at8];unfold kJ.r8;simp(disch:=omega)only[ab,aB,ak,cond_false,aI,aM,aj,dq,cY,de,ec,dY,au,dR,dV,dA,dZ,cZ,dh,dn,dz,dx,cU,cV,iW,Na,Pj,OX,Pn];rw[Q9,cU (by rw[iW,show(La s[i]).length=2 from rfl];omega),zF,ih,aC hi,mv];simp
theorem EY(s:List UInt8)(hs:s.length<=100000):∀(d i m:Nat),i+d=s.length->d<m->∃r,jb.l n m (.z2 (ub s) s.length i)=some r/\decide (r>=0)=!(s.drop i).all oI
 | _,_,0,_,h=>absurd h (by omega)
 | 0,i,m+1,h,_=>by
  refine⟨-1,?_,?_⟩
  ·rw[jb.oE];unfold jb.r2;rw[cV (by omega)]
  ·rw[aF (by omega)];rfl
 | d+1,i,m+1,h,hm=>by
  have hi:i<s.length:=by omega
  obtain⟨r,e1,e2⟩:=EY s hs d (i+1) m (by omega) (by omega);rw[jb.oE];unfold jb.r2 mi.F mi.e;simp(disch:=omega)only[ab,aB,ak,cond_false,aI,aM,aj,dq,cY,de,ec,dY,au,dR,dV,dA,dZ,cZ,dh,dn,dz,dx,cU,cV,iW,Na];rw[e1,aC hi,bo];by_cases h1:s[i].toNat<32
  ·have ho:oI s[i]=false:=by simp[oI];omega
   rw[cU (by omega),ab,ak,ho];exact⟨_,rfl,by simp⟩
  ·rw[cV (by omega),ab];by_cases h2:s[i].toNat>126
   ·have ho:oI s[i]=false:=by simp[oI];omega
    rw[cU (by omega),ho];exact⟨_,rfl,by simp⟩
   ·have ho:oI s[i]=true:=by simp[oI];omega
    rw[cV (by omega),ho];exact⟨r,rfl,by rw[e2,ct]⟩
theorem D6(hn:1000002<=n)(s:List UInt8)(hs:s.length<=100000):ue.F n (bs s)=some (s.all oI):=by
 unfold ue.F ue.e uF.F uF.e jb.F jb.e;obtain⟨r,e1,e2⟩:=EY (n:=n) s hs s.length 0 n (by omega) (by omega);simp only[ki];show((jb.l n n (.z2 (ub s) (((ub s).length:Nat):Int) 0)).bind _).bind _=_;rw[iW,show((0:Int))=((0:Nat):Int)from rfl,e1,ab];show some (!decide (r>=0))=_;rw[e2,aW,Bool.not_not]
theorem E7(s:List UInt8)(hs:s.length<=100000):∀(d i m:Nat),i+d=s.length->d<m->kQ.l n m (.z2 (bs s) i)=some ((s.drop i).all oI)
 | _,_,0,_,h=>absurd h (by omega)
 | 0,i,m+1,h,_=>by
  rw[kQ.oE];unfold kQ.r2;simp only[cY];rw[cV (by omega),aF (by omega)];rfl
 | d+1,i,m+1,h,hm=>by
  have hi:i<s.length:=by omega
  have Xa:=s[i].toNat_lt;have ih:=E7 s hs d (i+1) m (by omega) (by omega);rw[kQ.oE];unfold kQ.r2;simp(disch:=omega)only[ab,aB,ak,cond_false,aI,aM,aj,dq,cY,de,ec,dY,au,dR,dV,dA,dZ,cZ,dh,dn,dz,dx,cU,cV,byte_at,gf];rw[jU (by omega) (by omega),ih,aC hi,bo,mV];by_cases h1:32<=s[i].toNat/\s[i].toNat<=126
  ·have ho:oI s[i]=true:=by simp[oI];omega
   rw[decide_eq_true (show(32:Int)<=((s[i].toNat:Nat):Int)/\((s[i].toNat:Nat):Int)<=126 by omega),af (by simp),ho,ct]
  ·have ho:oI s[i]=false:=by simp[oI];omega
   rw[aU (show ¬ ((32:Int)<=((s[i].toNat:Nat):Int)/\((s[i].toNat:Nat):Int)<=126) by omega),ag rfl,ho,Bool.false_and]
theorem wx(hn:1000002<=n)(s:List UInt8)(hs:s.length<=100000):kQ.F n (bs s)=some (s.all oI):=by
 unfold kQ.F kQ.e;have:=E7 (n:=n) s hs s.length 0 n (by omega) (by omega);rw[aW]at this;exact this
def lj(k s vn:Int)(vx:List UInt8):List UInt8:=if k=0 then(if vx.all oI=true then qd vx else[88,39]++oC vx++[39])else oA vn s.toNat
end
def qV(k:Int):List UInt8:=if k=0 then[67,72,65,82]else if k=1 then[80,65,67,75,69,68]else if k=2 then[90,79,78,69,68]else[66,73,78,65,82,89]
def iz(k l s:Int):List UInt8:=qV k++[40]++Lib.itoa l++(if k=0 then[]else[44]++Lib.itoa s)++[41]
def LZ(o:OP):List UInt8:=
 if o.kd=0 then[68,67,76,32,68,68,32]++o.nm++[32]++iz o.k o.l o.s++[32,73,78,73,84,40]++lj o.k o.s o.vn o.vx++[41]
 else if o.kd=1 then[68,67,76,32,68,68,32]++o.nm++[32]++iz o.k o.l o.s++[32,68,69,70,40]++o.ba++[44]++Lib.itoa o.of++[41]
 else if o.kd=2 then[68,67,76,32,68,68,32]++o.nm++[32]++iz o.k o.l o.s++[32,66,65,83,40]++o.ba++[44]++Lib.itoa o.of++[41]
 else if o.kd=3 then[68,67,76,32,80,84,82,32]++o.nm
 else if o.kd=4 then[68,67,76,32,67,79,78,32]++o.nm++[32]++iz o.k o.l o.s++[32,73,78,73,84,40]++lj o.k o.s o.vn o.vx++[41]
 else[68,67,76,32,76,65,66,69,76,32]++o.nm++[32]++Lib.itoa o.tg
def gV:List (List UInt8):=[[77,79,86,69],[77,79,86,69,72],[65,68,68],[83,85,66],[77,85,76],[68,73,86],[82,69,77],[73,70,69,81],[73,70,76,84],[71,79,84,79],[65,68,68,82],[77,79,86,69,80],[65,68,86,65,78,67,69],[67,65,76,76],[82,69,84,85,82,78],[83,73,71,78,65,76],[69,88,67,69,80,84,73,79,78],[80,82,73,78,84],[69,78,68]]
def xw(op:Int):List UInt8:=gV.getD op.toNat []
theorem Ji(n:Nat):lB.F n=some (Ws gV):=rfl
def tn:List (List UInt8)->List UInt8
 | []=>[]
 | w::r=>[32]++w++Lib.joinTail [44] r
def xz(m:MN):List UInt8:=[77,79,78,73,84,79,82,32]++Lib.itoa m.fr++[32]++Lib.itoa m.tt++[32]++Lib.itoa m.ex++[32]++Lib.itoa m.hd
def flat:List (List UInt8)->List UInt8
 | []=>[]
 | w::r=>w++[59,10]++flat r
def Up(d:List UInt8):Bool:=!(decide (1<d.length)&&d.getD 0 0==48)
def iQ(d:List UInt8):Bool:=(decide (1<=d.length)&&decide (d.length<=15))&&(d.all eQ&&Up d)
theorem EM(d:List UInt8):Up d=true↔¬ (1<d.length/\d.getD 0 0=48):=by
 unfold Up;rw[Bool.not_eq_true',<-a_,ae,ay,beq_iff_eq]
theorem jN(d:List UInt8):iQ d=true↔1<=d.length/\d.length<=15/\d.all eQ=true/\¬ (1<d.length/\d.getD 0 0=48):=by
 unfold iQ;rw[ae,ae,ae,ay,ay,EM];constructor
 ·rintro⟨⟨a,b⟩,c,d⟩;exact⟨a,b,c,d⟩
 ·rintro⟨a,b,c,d⟩;exact⟨⟨a,b⟩,c,d⟩
def uL(s:List UInt8):Bool:=s.getD 0 0==45
def lP(s:List UInt8):List UInt8:=if uL s then s.drop 1 else s
theorem Kv{k:Nat}(h:k<10):eQ (UInt8.ofNat (48+k))=true/\(UInt8.ofNat (48+k)).toNat - 48=k/\(k≠0->UInt8.ofNat (48+k)≠48):=by
 have:∀k:Fin 10,eQ (UInt8.ofNat (48+k.1))=true/\(UInt8.ofNat (48+k.1)).toNat - 48=k.1/\(k.1≠0->UInt8.ofNat (48+k.1)≠48):=by decide +kernel
 exact this ⟨k,h⟩
theorem nd:∀(b k:Nat),k<=b->Lib.decDigits k≠[]/\(Lib.decDigits k).all eQ=true/\fc 0 (Lib.decDigits k)=k/\(k≠0->(Lib.decDigits k).getD 0 0≠48)/\(k<10->(Lib.decDigits k).length=1)
 | b,k,hb=>by
  by_cases hk:k<10
  ·obtain⟨d1,d2,d3⟩:=Kv hk;rw[Hl hk];refine⟨by simp,by rw[bo,List.all_nil,d1];rfl,?_,λh=>d3 h,λ_=>rfl⟩;show 0*10+((UInt8.ofNat (48+k)).toNat - 48)=k;omega
  ·match b,hb with
   | 0,hb=>omega
   | b+1,hb=>
    obtain⟨h1,h2,h3,h4,_⟩:=nd b (k / 10) (by omega);obtain⟨d1,d2,_⟩:=Kv (k:=k % 10) (by omega);rw[wY hk];refine⟨by simp,by rw[cf,bo,List.all_nil,h2,d1];rfl,?_,λ_=>?_,λh=>absurd h hk⟩
    ·rw[sA,h3,d2];omega
    ·have:=h4 (by omega)
     match he:Lib.decDigits (k / 10),h1 with
     | c::r,_=>rw[he]at this;exact this
theorem mE{k:Nat}(h:k<10 ^ 15):iQ (Lib.decDigits k)=true:=by
 obtain⟨h1,h2,h3,h4,h5⟩:=nd k k (aH _);have hl:=kH 14 k h;rw[jN];refine⟨hl.1,hl.2,h2,?_⟩;rintro⟨a,b⟩;by_cases h0:k=0
 ·have:=h5 (by omega);omega
 ·exact h4 h0 b
theorem ofNat_toNat(c:UInt8):UInt8.ofNat c.toNat=c:=by simp
theorem BP:∀(b:Nat) (l:List UInt8),l.length<=b->l≠[]->l.all eQ=true->(1<l.length->l.getD 0 0≠48)->Lib.decDigits (iy l)=l
 | 0,l,hb,h0,_,_=>absurd (aV.1 (by omega)) h0
 | b+1,l,hb,h0,hd,hz=>by
  rcases List.eq_nil_or_concat l with rfl|⟨i,c,rfl⟩
  ·exact absurd rfl h0
  ·rw[List.concat_eq_append]at *;simp only[cf,bo,List.all_nil,Bool.and_true,ae]at hd;have hc:=(rM c).1 hd.2;have hv:iy (i++[c])=iy i*10+(c.toNat - 48):=sA 0 i c;rw[hv];by_cases hi:i=[]
   ·subst hi;have e:iy ([]:List UInt8)=0:=rfl;rw[e,Hl (by omega),show 48+(0*10+(c.toNat - 48))=c.toNat by omega,ofNat_toNat];rfl
   ·have hl:1<=i.length:=bP.2 hi;have Dc:=hz (by rw[ai,bN];omega);have hg:(i++[c]).getD 0 0=i.getD 0 0:=by
     rw[ah,ah,aO (by omega)]
    rw[hg]at Dc;have ih:=BP b i (by rw[ai,bN]at hb;omega) hi hd.1 (λ_=>Dc);have qL:iy i≠0:=by
     intro e;rw[e,Hl (by omega)]at ih;rw[<-ih]at Dc;exact Dc rfl
    rw[wY (by omega),show(iy i*10+(c.toNat - 48)) / 10=iy i by omega,show(iy i*10+(c.toNat - 48)) % 10=c.toNat - 48 by omega,ih,show 48+(c.toNat - 48)=c.toNat by omega,ofNat_toNat]
theorem mC{l:List UInt8}(h:iQ l=true):Lib.decDigits (iy l)=l:=by
 obtain⟨h1,h2,h3,h4⟩:=(jN l).1 h;exact BP l.length l (aH _) (λe=>by rw[e]at h1;simp at h1) h3 (λh5 e=>h4 ⟨h5,e⟩)
theorem kE{l:List UInt8}(h:iQ l=true):iy l<10 ^ 15:=by
 obtain⟨h1,h2,h3,_⟩:=(jN l).1 h;have:=nM l 0 h3;have hp:10 ^ l.length<=10 ^ 15:=bJ (by omega) h2;show fc 0 l<10 ^ 15;omega
section
variable {n:Nat}
theorem j5(l:List UInt8)(hl:l.length<=100000):∃v,kU.F n (bs l)=some (v,iQ l)/\(iQ l=true->v=(iy l:Int)):=by
 have ov:(10:Nat) ^ 15=1000000000000000:=by decide
 unfold kU.F kU.e HD.F;rw[cY,cU (by omega),ab];show ∃v,(bif !(kT l).2 then _ else _)=_/\_;cases hn:iQ l with
 | true=>
  have hv:=kE hn;obtain⟨h1,h2,h3,_⟩:=(jN l).1 hn;have ha:=EE (l:=l) (λe=>by rw[e]at h1;simp at h1) h3 (by omega);rw[ha];refine⟨(iy l:Int),?_,λ_=>rfl⟩;simp only[aM,ak];rw[cU (by omega),nx _ (by omega) (by omega),ab,Lib.itoa,af (by omega),au,mC hn,dK,cU rfl];rw[decide_eq_true (by omega)]
 | false=>
  refine⟨(kT l).1,?_,λh=>by cases h⟩;cases he:(kT l).2 with
  | true=>rfl
  | false=>
   simp only[aM,ak];by_cases h2:l.length<=15
   ·have hb : -9223372036854775808<=(kT l).1/\(kT l).1<=9223372036854775807:=by
     unfold kT at he ⊢;rcases hz:Lib.atoiAll l with v|- | -
     ·exact Lib.atoiAll_bounds hz
     ·rw[hz]at he;cases he
     ·rw[hz]at he;cases he
    rw[cU (by omega)];unfold qR.F;rw[dX (by rw[ae,ay,ay];exact hb),ab];show(bif(bs (Lib.itoa (kT l).1)).toList==(bs l).toList then _ else _)=_;rw[dK];by_cases e:Lib.itoa (kT l).1=l
    ·rw[cU e];by_cases h0:(kT l).1>=0
     ·exfalso;unfold Lib.itoa at e;rw[af (by omega)]at e;have hd:=nd (kT l).1.toNat (kT l).1.toNat (aH _);rw[e]at hd;have:iQ l=true:=by
       rw[jN];refine⟨bP.2 hd.1,h2,hd.2.1,?_⟩;rintro⟨a,b⟩;by_cases hz:(kT l).1.toNat=0
       ·have:=hd.2.2.2.2 (by omega);omega
       ·exact hd.2.2.2.1 hz b
      rw[hn]at this;cases this
     ·rw[aU h0]
    ·rw[cV e]
   ·rw[cV (by omega)]
end
def ib(l:List UInt8)(c:UInt8):Nat:=(l.takeWhile (λx=>x != c)).length
theorem jX(b c:UInt8)(l:List UInt8):ib (b::l) c=if b=c then 0 else ib l c+1:=by
 unfold ib;rw[bV];by_cases h:b=c
 ·subst h;simp
 ·have h2:(b != c)=true:=by simpa using h
  rw[h2,af h];simp
theorem NN(c:UInt8):∀l:List UInt8,Lib.indexByte l c=if ib l c<l.length then(ib l c:Int)else -1
 | []=>rfl
 | b::l=>by
  have ih:=NN c l;unfold Lib.indexByte;rw[jX];by_cases h:b=c
  ·subst h;simp
  ·have h1:(b==c)=false:=by simpa using h
   rw[h1,af h,ih];simp only[b9,if_false,az];by_cases h3:ib l c<l.length
   ·have h4:(((ib l c:Nat):Int)==-1)=false:=by rw[beq_eq_false_iff_ne];omega
    simp only[ag h3,h4,b9,if_false];rw[ag (by omega)];simp
   ·simp only[af h3];rw[af (show ¬ (ib l c+1<l.length+1) by omega)];rfl
def eU(s:List UInt8)(c:UInt8):List UInt8 × List UInt8 × Bool:=if ib s c<s.length then(s.take (ib s c),s.drop (ib s c+1),true)else(s,[],false)
theorem MS(s:List UInt8)(c:UInt8):Lib.cut s [c]=eU s c:=by
 unfold Lib.cut eU;rw[Lib.index_one,NN];by_cases h:ib s c<s.length
 ·rw[ag h,ag h,ag (by omega),au];rfl
 ·rw[af h,af h,af (by omega)]
section
variable {n:Nat}
theorem gY(s:List UInt8)(c:UInt8)(h:s.length<=100000):ow.F n (bs s) (bs [c])=some (bs (eU s c).1,bs (eU s c).2.1,(eU s c).2.2):=by
 unfold ow.F;rw[cU (by rw[cY];omega),show(bs [c]).data.toList=[c]from rfl,show(bs s).data.toList=s from rfl,MS]
theorem Ej(s p:List UInt8):g_.F n (bs s) (bs p)=some (decide (s.take p.length=p)):=by
 unfold g_.F g_.e;simp only[cY,ge_iff_le];by_cases h:p.length<=s.length
 ·rw[cU (by omega),dX (ec h),au,mf,dK]
 ·rw[cV (by omega),aU];intro e;have:=congrArg List.length e;rw[bd]at this;omega
theorem AD(s p:List UInt8):sn.F n (bs s) (bs p)=some (decide (s.take p.length=p)):=by
 unfold sn.F sn.e;rw[Ej];rfl
theorem E5{s p:List UInt8}(h:s.take p.length=p):p.length<=s.length:=by
 have:=congrArg List.length h;rw[bd]at this;omega
theorem AU(s p:List UInt8):uc.F n (bs s) (bs p)=some (if s.take p.length=p then(bs (s.drop p.length),true)else(bs s,false)):=by
 unfold uc.F uc.e jY.F jY.e;rw[Ej,ab];by_cases h:s.take p.length=p
 ·have hl:=E5 h;rw[decide_eq_true h,ag h,aI,cond_false];simp only[cY];rw[dX (ec hl),au,show(bs s).extract p.length s.length=bs (s.drop p.length)from gu s _];rfl
 ·rw[aU h,af h];rfl
theorem Ls(s p:List UInt8):ua.F n (bs s) (bs p)=some (bs (if s.take p.length=p then s.drop p.length else s)):=by
 unfold ua.F ua.e uC.F uC.e;rw[Ej,ab];by_cases h:s.take p.length=p
 ·have hl:=E5 h;rw[decide_eq_true h,ag h,ak];simp only[cY];rw[dX (ec hl),au,show(bs s).extract p.length s.length=bs (s.drop p.length)from gu s _];rfl
 ·rw[aU h,af h];rfl
end
theorem sk{ws:List (List UInt8)}{i:Nat}(hi:i<ws.length):(Ws ws).getD (((i:Nat):Int)).toNat AV.undef=vs (bs ws[i]):=by simp[Ws,ah,hi]
theorem Fs(n:Nat)(ws:List (List UInt8))(hw:ws.length<=1000)(s:List UInt8):∀(d i m:Nat),i+d=ws.length->d<m->iM.l n m (.z2 (Ws ws) (bs s) ws.length i)=some (gA (ws.drop i) s i)
 | _,_,0,_,h=>absurd h (by omega)
 | 0,i,m+1,h,_=>by
  rw[iM.oE];unfold iM.r2;rw[cV (by omega),aF (by omega)];rfl
 | d+1,i,m+1,h,hm=>by
  have hi:i<ws.length:=by omega
  have ih:=Fs n ws hw s d (i+1) m (by omega) (by omega);rw[iM.oE];unfold iM.r2;rw[cU (by omega),dq,de hi,ak,sk hi,aC hi];show(bif((bs s).toList==(bs ws[i]).toList)then _ else _)=_;rw[dK,dY (by omega),ih,lu];by_cases h:s=ws[i]
  ·rw[cU h,ag h.symm]
  ·rw[cV h,af (λe=>h e.symm)]
section
variable {n:Nat}
theorem rR(hn:1001<=n)(ws:List (List UInt8))(hw:ws.length<=1000)(s:List UInt8):iM.F n (Ws ws) (bs s)=some (gA ws s 0):=by
 unfold iM.F iM.e;have:=Fs n ws hw s ws.length 0 n (by omega) (by omega);rw[aW]at this;rw[dq];exact this
def xi:List (List UInt8):=[[67,72,65,82],[80,65,67,75,69,68],[90,79,78,69,68],[66,73,78,65,82,89]]
theorem MC:AF=Ws xi:=rfl
def wT(s:List UInt8)(c:UInt8):Option (List UInt8):=if s.getLast?=some c then some s.dropLast else none
theorem G8{s:List UInt8}(h:1<=s.length):s.drop (s.length - 1)=[s.getLast (λe=>by rw[e]at h;simp at h)]:=by
 have gN:s≠[]:=λe=>by rw[e]at h;simp at h
 have e:=List.dropLast_concat_getLast gN;have hl:s.dropLast.length=s.length - 1:=List.length_dropLast
 calc s.drop (s.length - 1)=(s.dropLast++[s.getLast gN]).drop (s.length - 1):=by rw[e]
  _=[s.getLast gN]:=by rw[List.drop_append,aF (by omega),hl,Nat.sub_self];rfl
theorem u5(s:List UInt8)(c:UInt8)(hs:s.length<=100000):q5.F n (bs s) (bs [c])=some (match wT s c with | some t=>(bs t,true) | none=>(bs s,false)):=by
 unfold q5.F q5.e uE.F uE.e uD.F uD.e wT;simp only[cY,az,aJ,bO];by_cases h:1<=s.length
 ·have gN:s≠[]:=λe=>by rw[e]at h;simp at h
  have e:IntKind.i64.wrap (((s.length:Nat):Int) - ((1:Nat):Int))=((s.length - 1:Nat):Int):=by rw[jU (by omega) (by omega)];omega
  simp only[e];rw[cU (by omega),dX (ec (by omega)),au,show(bs s).extract (s.length - 1) s.length=bs (s.drop (s.length - 1))from gu s _,dK,ab,G8 h,List.getLast?_eq_some_getLast gN];by_cases hc:s.getLast gN=c
  ·rw[decide_eq_true (by rw[hc]),ag (by rw[hc]),aI,cond_false,dX (ec (by omega)),mf,List.dropLast_eq_take];rfl
  ·rw[aU (by simpa using hc),af (by simpa using hc)];rfl
 ·have:s=[]:=aV.1 (by omega);subst this;rw[cV (by simp)];rfl
def tB(t:List UInt8):Option (Int × Int × Int):=
 if gA xi (eU t 40).1 0<0 then none else match wT (eU t 40).2.1 41 with
 | none=>none
 | some i=>if gA xi (eU t 40).1 0=0 then(if iQ i=true then some (0,(iy i:Int),0)else none)
  else if iQ (eU i 44).1=true/\iQ (eU i 44).2.1=true then some (gA xi (eU t 40).1 0,(iy (eU i 44).1:Int),(iy (eU i 44).2.1:Int))else none
theorem mF(s:List UInt8)(c:UInt8):(eU s c).1.length<=s.length/\(eU s c).2.1.length<=s.length:=by
 unfold eU;split
 ·exact⟨by rw[bd];omega,by rw[aQ];omega⟩
 ·exact⟨aH _,by simp⟩
theorem x4(hn:1001<=n)(t:List UInt8)(ht:t.length<=100000):∃x,nj.F n (bs t)=some x/\x.2.2.2=(tB t).isSome/\∀v,tB t=some v->x=(v.1,v.2.1,v.2.2,true):=by
 have hc:=mF t 40;unfold nj.F nj.e tB;rw[gQ,gQ,gQ,gY t 40 ht,ab];simp only;rw[MC,rR hn xi (by decide),ab,u5 _ 41 (by omega),ab];by_cases hk:gA xi (eU t 40).1 0<0
 ·rw[cU hk,ag hk];exact⟨_,rfl,rfl,λv h=>by cases h⟩
 ·rw[cV hk,af hk];cases he:wT (eU t 40).2.1 41 with
  | none=>exact⟨_,rfl,rfl,λv h=>by cases h⟩
  | some i=>
   have hi:i.length<=100000:=by
    unfold wT at he;split at he
    ·have:=bQ he;rw[<-this,List.length_dropLast];omega
    ·cases he
   simp only[aI,cond_false];rw[dD];by_cases h0:gA xi (eU t 40).1 0=0
   ·obtain⟨v,e1,e2⟩:=j5 (n:=n) i hi;rw[ag h0,ag h0,e1,ab,h0];cases hd:iQ i with
    | true=>
     rw[ag rfl];exact⟨_,rfl,rfl,λw h=>by cases h;rw[e2 hd]⟩
    | false=>
     rw[af (by simp)];exact⟨_,rfl,rfl,λw h=>by cases h⟩
   ·have hd:=mF i 44;obtain⟨v,e1,e2⟩:=j5 (n:=n) (eU i 44).1 (by omega);obtain⟨w,f1,f2⟩:=j5 (n:=n) (eU i 44).2.1 (by omega);rw[af h0,af h0,gY i 44 hi,ab];simp only;rw[e1,ab,f1,ab];simp only;cases h1:iQ (eU i 44).1 with
    | true=>
     rw[ak];cases h2:iQ (eU i 44).2.1 with
     | true=>
      rw[ag ⟨rfl,rfl⟩];exact⟨_,rfl,rfl,λu h=>by cases h;rw[e2 h1,f2 h2]⟩
     | false=>
      rw[af (by simp)];exact⟨_,rfl,rfl,λu h=>by cases h⟩
    | false=>
     rw[cond_false,af (by simp)];exact⟨_,rfl,rfl,λu h=>by cases h⟩
end
theorem gI:∀(a r:List UInt8) (c:UInt8),a.contains c=false->eU (a++c::r) c=(a,r,true):=by
 intro a r c h;have Wo:ib (a++c::r) c=a.length:=by
  induction a with
  | nil=>rw[bF,jX,ag rfl];rfl
  | cons b a ih=>
   rw[ch,bw]at h;have gN:b≠c:=λe=>by have:=h.1;rw[e]at this;simp at this
   rw[cm,jX,af gN,ih h.2];rfl
 unfold eU;rw[Wo,ag (by rw[ai,az];omega),cK,List.drop_append];have:a.length+1 - a.length=1:=by omega
 rw[this,aF (by omega)];rfl
theorem zc{a:List UInt8}{c:UInt8}(h:a.contains c=false):eU a c=(a,[],false):=by
 have Wo:ib a c=a.length:=by
  induction a with
  | nil=>rfl
  | cons b a ih=>
   rw[ch,bw]at h;have gN:b≠c:=λe=>by have:=h.1;rw[e]at this;simp at this
   rw[jX,af gN,ih h.2];rfl
 unfold eU;rw[Wo,af (Nat.lt_irrefl _)]
theorem JN(s:List UInt8)(c:UInt8):(s.take (ib s c)).contains c=false:=by
 induction s with
 | nil=>rfl
 | cons b s ih=>
  rw[jX];by_cases h:b=c
  ·rw[ag h];rfl
  ·rw[af h,cC,ch,ih,Bool.or_false];simpa using λe=>h e.symm
theorem NO(s:List UInt8)(c:UInt8)(h:ib s c<s.length):s=s.take (ib s c)++c::s.drop (ib s c+1):=by
 induction s with
 | nil=>simp at h
 | cons b s ih=>
  rw[jX]at h ⊢;by_cases e:b=c
  ·rw[ag e,e];rfl
  ·rw[af e]at h ⊢;have:=ih (by simpa using h);rw[cC,ca,cm,<-this]
theorem cutB_hit{s:List UInt8}{c:UInt8}(h:(eU s c).2.2=true):s=(eU s c).1++c::(eU s c).2.1/\(eU s c).1.contains c=false:=by
 unfold eU at h ⊢;by_cases hl:ib s c<s.length
 ·rw[ag hl];exact⟨NO s c hl,JN s c⟩
 ·rw[af hl]at h;cases h
theorem cutB_miss{s:List UInt8}{c:UInt8}(h:(eU s c).2.2=false):eU s c=(s,[],false):=by
 unfold eU at h ⊢;by_cases hl:ib s c<s.length
 ·rw[ag hl]at h;cases h
 ·rw[af hl]
theorem y0{s i:List UInt8}{c:UInt8}(h:wT s c=some i):s=i++[c]:=by
 unfold wT at h;split at h
 ·rename_i hl;rw[<-bQ h];have gN:s≠[]:=λe=>by rw[e]at hl;cases hl
  have e:=List.dropLast_concat_getLast gN;rw[List.getLast?_eq_some_getLast gN]at hl;rw[bQ hl]at e;exact e.symm
 ·cases h
theorem wS(i:List UInt8)(c:UInt8):wT (i++[c]) c=some i:=by
 unfold wT;rw[List.getLast?_concat,ag rfl,List.dropLast_concat]
theorem fJ(k:Nat):Lib.itoa (k:Int)=Lib.decDigits k:=by unfold Lib.itoa;rw[af (by omega),au]
theorem AS{k:Nat}{c:UInt8}(hc:eQ c=false):(Lib.decDigits k).contains c=false:=by
 have h:=(nd k k (aH _)).2.1;cases hb:(Lib.decDigits k).contains c with
 | false=>rfl
 | true=>
  rw[bT,ay]at hb;have:=aA.1 h c hb;rw[hc]at this;cases this
theorem JC{w:List UInt8}(h:¬ gA xi w 0<0):∃k:Int,gA xi w 0=k/\(k=0\/k=1\/k=2\/k=3)/\w=qV k:=by
 unfold xi at h ⊢;simp only[gA]at h ⊢;by_cases h0:[67,72,65,82]=w
 ·rw[ag h0];exact⟨0,rfl,.inl rfl,h0.symm⟩
 ·rw[af h0]at h ⊢;by_cases h1:[80,65,67,75,69,68]=w
  ·rw[ag h1];exact⟨1,rfl,.inr (.inl rfl),h1.symm⟩
  ·rw[af h1]at h ⊢;by_cases h2:[90,79,78,69,68]=w
   ·rw[ag h2];exact⟨2,rfl,.inr (.inr (.inl rfl)),h2.symm⟩
   ·rw[af h2]at h ⊢;by_cases h3:[66,73,78,65,82,89]=w
    ·rw[ag h3];exact⟨3,rfl,.inr (.inr (.inr rfl)),h3.symm⟩
    ·rw[af h3]at h;omega
theorem Fm{k:Int}(h:k=0\/k=1\/k=2\/k=3):gA xi (qV k) 0=k/\(qV k).contains 40=false:=by
 rcases h with rfl|rfl|rfl|rfl<;>exact⟨by decide,by decide⟩
def GT(k l s:Int):Prop:=(k=0\/k=1\/k=2\/k=3)/\(0<=l/\l<1000000000000000)/\(0<=s/\s<1000000000000000)/\(k=0->s=0)
theorem Ol{k l s:Int}(h:GT k l s):tB (iz k l s)=some (k,l,s):=by
 have ov:(10:Nat) ^ 15=1000000000000000:=by decide
 obtain⟨hk,hl,hs,h0⟩:=h;obtain⟨a,rfl⟩:∃a:Nat,l=a:=⟨l.toNat,by omega⟩;obtain⟨b,rfl⟩:∃b:Nat,s=b:=⟨s.toNat,by omega⟩;obtain⟨t1,t2⟩:=Fm hk;have e:iz k (a:Int) (b:Int)=qV k++40::((Lib.decDigits a++(if k=0 then[]else 44::Lib.decDigits b))++[41]):=by
  unfold iz;rw[fJ,fJ];split<;>simp
 have va:=(nd a a (aH _)).2.2.1;have vb:=(nd b b (aH _)).2.2.1;unfold tB;rw[e,gI _ _ _ t2];simp only;rw[t1,af (by omega),wS];simp only;by_cases hz:k=0
 ·rw[ag hz,ag hz,bc,ag (mE (by omega))];have:=h0 hz;show some ((0:Int),((fc 0 (Lib.decDigits a):Nat):Int),(0:Int))=_;rw[va,hz,this]
 ·rw[af hz,af hz,gI _ _ _ (AS (by decide))];simp only;rw[ag ⟨mE (by omega),mE (by omega)⟩];show some (k,((fc 0 (Lib.decDigits a):Nat):Int),((fc 0 (Lib.decDigits b):Nat):Int))=_;rw[va,vb]
theorem Lp{t:List UInt8}{k l s:Int}(h:tB t=some (k,l,s)):GT k l s/\t=iz k l s:=by
 have ov:(10:Nat) ^ 15=1000000000000000:=by decide
 unfold tB at h;split at h
 ·cases h
 rename_i hi;obtain⟨k',e1,hk,hw⟩:=JC hi;rw[e1]at h;have Wr:(eU t 40).2.2=true:=by
  cases hb:(eU t 40).2.2 with
  | true=>rfl
  | false=>
   rw[cutB_miss hb]at h;cases h
 obtain⟨c1,_⟩:=cutB_hit Wr;cases he:wT (eU t 40).2.1 41 with
 | none=>rw[he]at h;cases h
 | some i=>
  rw[he]at h;simp only at h;have Sk:=y0 he;by_cases hz:k'=0
  ·rw[ag hz]at h;split at h
   ·rename_i hd;cases h;have hv:=kE hd;have uu:=mC hd;refine⟨⟨.inl rfl,by omega,by omega,λ_=>rfl⟩,?_⟩;rw[c1,Sk,hw,hz];unfold iz;rw[fJ,uu,ag rfl];simp
   ·cases h
  ·rw[af hz]at h;split at h
   ·rename_i hd;cases h;have GH:=kE hd.1;have Qu:=kE hd.2;have Kc:(eU i 44).2.2=true:=by
     cases hb:(eU i 44).2.2 with
     | true=>rfl
     | false=>
      have:=hd.2;rw[cutB_miss hb]at this;cases this
    obtain⟨c2,_⟩:=cutB_hit Kc;refine⟨⟨hk,by omega,by omega,λe=>absurd e hz⟩,?_⟩;rw[c1,Sk,hw];unfold iz;rw[fJ,fJ,mC hd.1,mC hd.2,af hz]
    conv=>lhs;rw[c2]
    simp
   ·cases h
theorem vY(n:Nat)(l:List UInt8)(hl:l.length<=15)(b:Bool):∀(d i m v:Nat),i+d=l.length->d<m->v<10 ^ i->
  ji.l n m (.z8 (bs l) b (v:Int) i)=some (if(l.drop i).all eQ then((if b then -(fc v (l.drop i):Int)else(fc v (l.drop i):Int)),true)else(0,false))
 | _,_,0,_,_,h,_=>absurd h (by omega)
 | 0,i,m+1,v,h,_,hv=>by
  have hp:10 ^ i<=10 ^ 15:=bJ (by omega) (by omega);show ji.r8 n (ji.l n m) _ _ _ _=_;unfold ji.r8;simp only[cY];rw[cV (by omega),aF (by omega)];cases b with
  | false=>rfl
  | true=>
   rw[ak,jU (by omega) (by omega)];simp[fc]
 | d+1,i,m+1,v,h,hm,hv=>by
  have hi:i<l.length:=by omega
  have hp:10 ^ i<=10 ^ 14:=bJ (by omega) (by omega);show ji.r8 n (ji.l n m) _ _ _ _=_;unfold ji.r8;simp only[cY,de hi,au,getD_at hi,pf,ab,ak];rw[cU (by omega),aC hi,bo,mm];cases hd:eQ l[i]with
  | false=>rfl
  | true=>
   have YH:=(rM _).1 hd;rw[aI,cond_false,ct];have e1:IntKind.i64.wrap (IntKind.i64.wrap ((v:Int)*10)+IntKind.i64.wrap (IntKind.u8.wrap (((l[i].toNat:Nat):Int) - 48)))=((v*10+(l[i].toNat - 48):Nat):Int):=by
    rw[w8];have:(((l[i].toNat:Nat):Int) - 48) % 256=((l[i].toNat - 48:Nat):Int):=by omega
    rw[this,jU (x:=(v:Int)*10) (by omega) (by omega),jU (x:=((l[i].toNat - 48:Nat):Int)) (by omega) (by omega),jU (by omega) (by omega)];omega
   rw[e1,dY (by omega)];exact vY n l hl b d (i+1) m _ (by omega) (by omega) (by rw[Nat.pow_succ];omega)
section
variable {n:Nat}
theorem sL(hn:100<=n)(d:List UInt8)(b:Bool)(hb:b=true->d≠[48]):∀m,20<=m->ji.l n m (.z4 (bs d) b)=some (if iQ d then((if b then -(fc 0 d:Int)else(fc 0 d:Int)),true)else(0,false)):=by
 intro m hm;obtain⟨m,rfl⟩:∃q,m=q+2:=⟨m - 2,by omega⟩;have h5:ji.l n (m+1) .z5=some (0,false):=rfl;rw[ji.tj];unfold ji.r4;rw[cY,gf,ab];by_cases h0:1<=d.length/\d.length<=15
 ·have e1:decide ((1:Int)<=((d.length:Nat):Int)/\((d.length:Nat):Int)<=15)=true:=by simp;omega
  have qL:0<d.length:=by omega
  have e0:d.getD 0 0=d[0]:=by simp[ah,qL]
  rw[e1,aI,cond_false,cU (by omega)];simp only[getD_at qL,h5];have h8:=vY n d (by omega) b d.length 0 (m+1) 0 (by omega) (by omega) (by simp);rw[aW]at h8;have loop:¬ (1<d.length/\d.getD 0 0=48)->ji.l n (m+1) (.z8 (bs d) b 0 0)=some (if iQ d then((if b then -(fc 0 d:Int)else(fc 0 d:Int)),true)else(0,false)):=by
   intro hz;have:iQ d=d.all eQ:=by
    unfold iQ;rw[(EM d).2 hz];simp[h0]
   rw[this];exact h8
  by_cases qb:d[0]=48
  ·have:((((d[0].toNat:Nat):Int))==48)=true:=by rw[qb];rfl
   rw[this,ak];cases b
   ·rw[cond_false];by_cases h1:1<d.length
    ·rw[cU (by omega)];have:iQ d=false:=by rw[<-a_,jN];rintro⟨_,_,_,h⟩;exact h ⟨h1,by rw[e0];exact qb⟩
     rw[this];rfl
    ·rw[cV (by omega)];exact loop fun⟨h,_⟩=>h1 h
   ·rw[ak];have h1:1<d.length:=by
     refine Classical.byContradiction λh=>hb rfl ?_
     match d,qL,h,qb with
     | [c],_,_,e=>simpa using e
     | _::_::_,_,h,_=>simp at h
    have:iQ d=false:=by rw[<-a_,jN];rintro⟨_,_,_,h⟩;exact h ⟨h1,by rw[e0];exact qb⟩
    rw[this];rfl
  ·have:((((d[0].toNat:Nat):Int))==48)=false:=by
    rw[beq_eq_false_iff_ne];intro e;have e2:d[0].toNat=48:=by omega
    exact qb (cz.1 (by rw[e2];rfl))
   rw[this,cond_false];refine loop fun⟨_,e⟩=>qb ?_;rw[e0]at e;exact e
 ·have e1:decide ((1:Int)<=((d.length:Nat):Int)/\((d.length:Nat):Int)<=15)=false:=by simp;omega
  have:iQ d=false:=by rw[<-a_,jN];rintro⟨a,b,_,_⟩;exact h0 ⟨a,b⟩
  rw[e1,aM,ak,h5,this];rfl
end
def gF(s:List UInt8)(c:UInt8):List UInt8:=s.take (ib s c)
def ia(s:List UInt8)(c:UInt8):List UInt8:=s.drop (ib s c)
theorem oR(s:List UInt8)(c:UInt8):s=gF s c++ia s c:=(bW _ _).symm
theorem ER(s:List UInt8)(c:UInt8):(gF s c).contains c=false:=JN s c
theorem jv(s:List UInt8)(c:UInt8):(ia s c).length<=s.length:=by unfold ia;rw[aQ];omega
theorem ES(s:List UInt8)(c:UInt8):(gF s c).length<=s.length:=by unfold gF;rw[bd];omega
theorem mn(s:List UInt8)(c:UInt8):ia s c=[]\/∃r,ia s c=c::r:=by
 by_cases h:ib s c<s.length
 ·have:=NO s c h;refine .inr ⟨s.drop (ib s c+1),?_⟩;unfold ia;have h2:s.drop (ib s c)=(s.take (ib s c)++c::s.drop (ib s c+1)).drop (ib s c):=by rw[<-this]
  rw[h2,List.drop_append,aF (by rw[bd];omega),bd,show ib s c - min (ib s c) s.length=0 by omega];rfl
 ·refine .inl ?_;unfold ia;rw[aF (by omega)]
theorem O6{u:List UInt8}{c:UInt8}(h:u.contains c=false)(r:List UInt8):ib (u++c::r) c=u.length:=by
 induction u with
 | nil=>rw[bF,jX,ag rfl];rfl
 | cons b u ih=>
  simp only[ch,bw]at h;rw[cm,jX,af (λe=>by simp[e]at h),ih h.2];simp
theorem Mg{u:List UInt8}{c:UInt8}(h:u.contains c=false):ib u c=u.length:=by
 induction u with
 | nil=>rfl
 | cons b u ih=>
  simp only[ch,bw]at h;rw[jX,af (λe=>by simp[e]at h),ih h.2];simp
theorem jB{u:List UInt8}{c:UInt8}(h:u.contains c=false)(r:List UInt8):gF (u++c::r) c=u/\ia (u++c::r) c=c::r:=by
 unfold gF ia;rw[O6 h];simp
theorem zE{u:List UInt8}{c:UInt8}(h:u.contains c=false):gF u c=u/\ia u c=[]:=by
 unfold gF ia;rw[Mg h];simp
section
variable {n:Nat}
theorem EP(n:Nat)(s:List UInt8)(hs:s.length<=100000)(c:UInt8)(b:Bool):∀(d i m:Nat),i+d=s.length->3*d<m->
  eK.l n m (.z2 (bs [c]) i (bs s) b)=some (bs (s.take (i+ib (s.drop i) c)),bs (s.drop (i+ib (s.drop i) c)),b)
 | _,_,0,_,h=>absurd h (by omega)
 | 0,i,m+1,h,_=>by
  rw[eK.oE];unfold eK.r2;simp only[cY];rw[cV (by omega),aF (by omega:s.length<=i),cl (by omega),aF (by omega)]
 | d+1,i,m+1,h,hm=>by
  obtain⟨q,rfl⟩:∃q,m=q+2:=⟨m - 2,by omega⟩;have hi:i<s.length:=by omega
  have ih:=EP n s hs c b d (i+1) q (by omega) (by omega);rw[eK.oE];unfold eK.r2;simp only[cY];rw[cU (by omega),eK.tj];unfold eK.r4;simp only[cY,az,aJ];rw[cU (by omega),de hi,ak,au,getD_at hi];have h1:(decide ((0:Int)<=0)&&decide ((0:Int)<((0+1:Nat):Int)))=true:=by decide
  rw[h1,ak,show(bs [c]).data.getD ((0:Int).toNat) 0=c from rfl,aC hi,jX];have hb:((((s[i].toNat:Nat):Int))==((c.toNat:Nat):Int))=decide (s[i]=c):=fV s[i] c c.toNat rfl;rw[hb];by_cases he:s[i]=c
  ·rw[decide_eq_true he,ak,ec (by omega),ak,ak,ag he,bE,mf];congr 2;congr 1;exact gu s i
  ·rw[aU he,cond_false,af he,eK.tj];unfold eK.r4;simp only[cY,az,aJ];rw[jU (by omega) (by omega),cV (by omega),dY (by omega),ih,show i+1+ib (s.drop (i+1)) c=i+(ib (s.drop (i+1)) c+1) by omega]
theorem iP(hn:400000<=n)(s:List UInt8)(hs:s.length<=100000)(c:UInt8)(b:Bool):eK.F n (bs [c]) (bs s) b=some (bs (gF s c),bs (ia s c),b):=by
 unfold eK.F eK.e;have:=EP n s hs c b s.length 0 n (by omega) (by omega);rw[bO,aW]at this;exact this
theorem Bi(n:Nat)(s:List UInt8)(hs:s.length<=100000)(b:Bool):∀(d i m:Nat),i+d=s.length->3*d<m->
  eK.l n m (.z2 ⟨#[]⟩ i (bs s) b)=some (bs s,⟨#[]⟩,b)
 | _,_,0,_,h=>absurd h (by omega)
 | 0,i,m+1,h,_=>by
  rw[eK.oE];unfold eK.r2;simp only[cY];rw[cV (by omega)]
 | d+1,i,m+1,h,hm=>by
  obtain⟨q,rfl⟩:∃q,m=q+1:=⟨m - 1,by omega⟩;have ih:=Bi n s hs b d (i+1) q (by omega) (by omega);rw[eK.oE];unfold eK.r2;simp only[cY];rw[cU (by omega),eK.tj];unfold eK.r4;rw[show decide ((0:Int)<(((⟨#[]⟩:ByteArray).size:Nat):Int))=false from rfl];simp only[cond_false];rw[dY (by omega),ih]
theorem xY(hn:400000<=n)(s:List UInt8)(hs:s.length<=100000)(b:Bool):eK.F n ⟨#[]⟩ (bs s) b=some (bs s,⟨#[]⟩,b):=by
 unfold eK.F eK.e;exact Bi n s hs b s.length 0 n (by omega) (by omega)
def pY(t:List UInt8)(b:Bool):Option (List UInt8):=if b then none else some t
theorem eW(t:List UInt8):pY t false=some t:=rfl
theorem Bs(t:List UInt8):pY t true=none:=rfl
def rW(w s:List UInt8):Option (List UInt8):=if s.take w.length=w then some (s.drop w.length)else none
theorem j0(w r:List UInt8):rW w (w++r)=some r:=by unfold rW;simp
theorem jf{w s r:List UInt8}(h:rW w s=some r):s=w++r:=by
 unfold rW at h;split at h
 ·rename_i e;cases h;have:=bW w.length s;rw[e]at this;exact this.symm
 ·cases h
theorem fw(hn:2<=n)(w t:List UInt8)(b:Bool):∃t' b',fk.F n (bs w) (bs t) b=some (bs t',b')/\t'.length<=t.length/\pY t' b'=(pY t b).bind (rW w):=by
 obtain⟨m,rfl⟩:∃m,n=m+1:=⟨n - 1,by omega⟩;have bad:∀b,fk.l (m+1) (m+1) (.z1 (bs t) b)=some (bs t,true):=λb=>rfl;unfold fk.F fk.e;cases b with
 | true=>exact⟨t,true,by rw[ak,bad],aH _,rfl⟩
 | false=>
  rw[cond_false];simp only[cY];by_cases h:t.length<w.length
  ·refine⟨t,true,by rw[cU (by omega),bad],aH _,?_⟩;rw[Bs,eW,ab];unfold rW;rw[af (λe=>by have:=congrArg List.length e;rw[bd]at this;omega)]
  ·rw[cV (by omega),ec (by omega),ak,au,mf,dK];by_cases h2:t.take w.length=w
   ·refine⟨t.drop w.length,false,?_,by rw[aQ];omega,?_⟩
    ·rw[decide_eq_true h2,aI,cond_false,ak,show(bs t).extract w.length t.length=bs (t.drop w.length)from gu t _]
    ·rw[eW,eW,ab];unfold rW;rw[ag h2]
   ·refine⟨t,true,by rw[aU h2,aM,ak,bad],aH _,?_⟩;rw[Bs,eW,ab];unfold rW;rw[af h2]
def vO{α:Type}(v:α)(t:List UInt8)(b:Bool):Option (α × List UInt8):=if b then none else some (v,t)
theorem Oj{α:Type}(v:α)(t:List UInt8):vO v t true=none:=rfl
def xy(u r:List UInt8):Option (Int × List UInt8):=if iQ u=true then some ((iy u:Int),r)else none
def rN(c:UInt8)(s:List UInt8):Option (Int × List UInt8):=xy (gF s c) (ia s c)
def Qe(s:List UInt8):Option (Int × List UInt8):=xy s []
theorem Ah(hn:100<=n)(d:List UInt8):∃r,ji.l n n (.z4 (bs d) true)=some r:=by
 by_cases h:d=[48]
 ·subst h;obtain⟨m,rfl⟩:∃m,n=m+2:=⟨n - 2,by omega⟩;refine⟨(0,false),?_⟩;rw[ji.tj];unfold ji.r4;rw[cY,gf,ab];rfl
 ·exact⟨_,sL hn d true (λ_=>h) n (by omega)⟩
theorem BO(hn:100<=n)(u:List UInt8):∃v b,ji.F n (bs u)=some (v,b)/\(u.getD 0 0≠45->(b=iQ u/\(iQ u=true->v=(iy u:Int))))/\(b=true->0<u.length):=by
 unfold ji.F ji.e;simp only[cY];by_cases h0:0<u.length
 ·rw[cU (by omega),cU (by omega),getD_at h0];have hg:u.getD 0 0=u[0]:=by simp[ah,h0]
  by_cases Df:u[0]=45
  ·have:((((u[0].toNat:Nat):Int))==45)=true:=by rw[Df];rfl
   obtain⟨r,hr⟩:=Ah hn (u.drop 1);rw[this,ak,dX (show(decide ((0:Int)<=1)&&decide ((1:Int)<=((u.length:Nat):Int)))=true by rw[ae,ay,ay];omega),show(bs u).extract 1 u.length=bs (u.drop 1)from gu u 1,hr];exact⟨r.1,r.2,rfl,λh=>absurd (hg.trans Df) h,λ_=>h0⟩
  ·have:((((u[0].toNat:Nat):Int))==45)=false:=by
    rw[show(45:Int)=((45:Nat):Int)from rfl,fV u[0] 45 45 rfl,aU Df]
   rw[this,cond_false,sL hn u false (λh=>by cases h) n (by omega)];cases hd:iQ u with
   | true=>exact⟨_,_,rfl,λ_=>⟨rfl,λ_=>rfl⟩,λ_=>h0⟩
   | false=>exact⟨_,_,rfl,λ_=>⟨rfl,λh=>by cases h⟩,λ_=>h0⟩
 ·have hu:u=[]:=aV.1 (by omega);subst hu;rw[cV (by simp),sL hn [] false (λh=>by cases h) n (by omega)];exact⟨_,_,rfl,λ_=>⟨rfl,λh=>by cases h⟩,λh=>by cases h⟩
theorem yx(hn:100<=n)(u r:List UInt8)(b:Bool){K:Int->List UInt8->Bool->Option (Int × ByteArray × Bool)} :
  ∃v b',((ji.F n (bs u)).bind λp2=>bif !p2.2 then(some ((0:Int),bs r,true))else(bif decide ((0:Int)<((bs u).size:Nat))then(let y3:Int:=((((bs u).data.getD 0 0).toNat:Nat):Int)
   bif y3==45 then(some (0,bs r,true))else(some (p2.1,bs r,b)))else none))=some (v,bs r,b')/\vO v r b'=if b then none else xy u r:=by
 obtain⟨v,ok,e1,e2,e3⟩:=BO hn u;rw[e1,ab];simp only;cases ok with
 | false=>
  refine⟨0,true,rfl,?_⟩;rw[Oj];cases b with
  | true=>rfl
  | false=>
   unfold xy;rw[af (by simp)];by_cases Df:u.getD 0 0=45
   ·rw[af];intro hd;rw[jN]at hd;have hl:0<u.length:=by omega
    have hg:u.getD 0 0=u[0]:=by simp[ah,hl]
    have:=aA.1 hd.2.2.1 u[0] (aZ hl);rw[<-hg,Df]at this;cases this
   ·rw[<-(e2 Df).1,af (by simp)]
 | true=>
  have hl:=e3 rfl;have hg:u.getD 0 0=u[0]:=by simp[ah,hl]
  rw[aI,cond_false,cU (by rw[cY];omega),getD_at hl];by_cases Df:u[0]=45
  ·have:((((u[0].toNat:Nat):Int))==45)=true:=by rw[Df];rfl
   refine⟨0,true,by rw[this,ak],?_⟩;rw[Oj];cases b with
   | true=>rfl
   | false=>
    unfold xy;rw[af (by simp),af];intro hd;rw[jN]at hd;have:=aA.1 hd.2.2.1 u[0] (aZ hl);rw[Df]at this;cases this
  ·have:((((u[0].toNat:Nat):Int))==45)=false:=by
    rw[show(45:Int)=((45:Nat):Int)from rfl,fV u[0] 45 45 rfl,aU Df]
   have h2:=e2 (by rw[hg];exact Df);refine⟨v,b,by rw[this,cond_false],?_⟩;cases b with
   | true=>rfl
   | false=>
    unfold xy;rw[af (by simp),<-h2.1,ag rfl,<-h2.2 h2.1.symm];rfl
theorem kg(hn:400000<=n)(c:UInt8)(t:List UInt8)(ht:t.length<=100000)(b:Bool):∃v t' b',gO.F n (bs [c]) (bs t) b=some (v,bs t',b')/\t'.length<=t.length/\vO v t' b'=(pY t b).bind (rN c):=by
 unfold gO.F gO.e;rw[iP hn t ht c b,ab];obtain⟨v,b',e1,e2⟩:=yx (show 100<=n by omega) (gF t c) (ia t c) b (K:=λ_ _ _=>none);refine⟨v,ia t c,b',e1,jv t c,?_⟩;rw[e2];cases b<;>rfl
theorem qC(hn:400000<=n)(t:List UInt8)(ht:t.length<=100000)(b:Bool):∃v t' b',gO.F n ⟨#[]⟩ (bs t) b=some (v,bs t',b')/\t'.length<=t.length/\vO v t' b'=(pY t b).bind Qe:=by
 unfold gO.F gO.e;rw[xY hn t ht b,ab];obtain⟨v,b',e1,e2⟩:=yx (show 100<=n by omega) t [] b (K:=λ_ _ _=>none);refine⟨v,[],b',e1,by simp,?_⟩;rw[e2];cases b<;>rfl
def rF(u r:List UInt8):Option (List UInt8 × List UInt8):=if gD u=true then some (u,r)else none
def HL(c:UInt8)(s:List UInt8):Option (List UInt8 × List UInt8):=rF (gF s c) (ia s c)
def Ge(s:List UInt8):Option (List UInt8 × List UInt8):=rF s []
theorem nY(hn:400000<=n)(c:UInt8)(t:List UInt8)(ht:t.length<=100000)(b:Bool):∃u t' b',lT.F n (bs [c]) (bs t) b=some (bs u,bs t',b')/\t'.length<=t.length/\vO u t' b'=(pY t b).bind (HL c):=by
 unfold lT.F lT.e;rw[iP hn t ht c b,ab];simp only;cases b with
 | true=>exact⟨_,_,true,rfl,jv t c,rfl⟩
 | false=>
  rw[cond_false,qG (by omega),ab];refine⟨_,_,_,rfl,jv t c,?_⟩;rw[eW,ab];unfold HL rF;cases gD (gF t c)<;>rfl
theorem BT(hn:400000<=n)(t:List UInt8)(ht:t.length<=100000)(b:Bool):∃u t' b',lT.F n ⟨#[]⟩ (bs t) b=some (bs u,bs t',b')/\t'.length<=t.length/\vO u t' b'=(pY t b).bind Ge:=by
 unfold lT.F lT.e;rw[xY hn t ht b,ab];simp only;cases b with
 | true=>exact⟨_,[],true,rfl,by simp,rfl⟩
 | false=>
  rw[cond_false,qG (by omega),ab];refine⟨_,[],_,rfl,by simp,?_⟩;rw[eW,ab];unfold Ge rF;cases gD t<;>rfl
end
theorem oP{α:Type}{v:α}{t:List UInt8}{b:Bool}{o:Option (α × List UInt8)}(h:vO v t b=o):(o=some (v,t)/\b=false)\/(o=none/\b=true):=by
 subst h;cases b
 ·exact .inl ⟨rfl,rfl⟩
 ·exact .inr ⟨rfl,rfl⟩
theorem im{t:List UInt8}{b:Bool}{o:Option (List UInt8)}(h:pY t b=o):(o=some t/\b=false)\/(o=none/\b=true):=by
 subst h;cases b
 ·exact .inl ⟨rfl,rfl⟩
 ·exact .inr ⟨rfl,rfl⟩
theorem eR{t:List UInt8}{b:Bool}(h:pY t b=none):b=true:=by cases b<;>first|rfl|cases h
theorem ij{α:Type}{v:α}{t:List UInt8}{b:Bool}(h:vO v t b=none):b=true:=by cases b<;>first|rfl|cases h
section
variable {n:Nat}
theorem B5(n:Nat)(ws:List (List UInt8))(hw:ws.length<=1000)(s:List UInt8):∀(d i m:Nat),i+d=ws.length->d<m->kA.l n m (.z2 (Ws ws) (bs s) i)=some (gA (ws.drop i) s i)
 | _,_,0,_,h=>absurd h (by omega)
 | 0,i,m+1,h,_=>by
  rw[kA.oE];unfold kA.r2;simp only[dq];rw[cV (by omega),aF (by omega)];rfl
 | d+1,i,m+1,h,hm=>by
  have hi:i<ws.length:=by omega
  have ih:=B5 n ws hw s d (i+1) m (by omega) (by omega);rw[kA.oE];unfold kA.r2;simp(disch:=omega)only[ab,aB,ak,cond_false,aI,aM,aj,dq,cY,de,ec,dY,au,dR,dV,dA,dZ,cZ,dh,dn,dz,dx,cU,cV];rw[ih,aC hi,lu,dK];by_cases h1:ws[i]=s
  ·rw[cU h1,ag h1]
  ·rw[cV h1,af h1]
theorem yK(hn:1001<=n)(ws:List (List UInt8))(hw:ws.length<=1000)(s:List UInt8):kA.F n (Ws ws) (bs s)=some (gA ws s 0):=by
 unfold kA.F kA.e;have:=B5 n ws hw s ws.length 0 n (by omega) (by omega);rw[aW]at this;exact this
def IX(s:List UInt8):Option ((Int × Int × Int) × List UInt8):=
 if gA xi (gF s 40) 0=-1 then none else
 (rW [40] (ia s 40)).bind λr1=>
  if gA xi (gF s 40) 0=0 then(rN 41 r1).bind λx=>(rW [41] x.2).bind λr2=>some ((gA xi (gF s 40) 0,x.1,0),r2)
  else(rN 44 r1).bind λx=>(rW [44] x.2).bind λr2=>(rN 41 r2).bind λy=>(rW [41] y.2).bind λr3=>some ((gA xi (gF s 40) 0,x.1,y.1),r3)
theorem zH(hn:400000<=n)(t:List UInt8)(ht:t.length<=100000)(b:Bool):∃k l s t' b',jq.F n (bs t) b=some (k,l,s,bs t',b')/\t'.length<=t.length/\vO (k,l,s) t' b'=(pY t b).bind IX:=by
 have hr:=jv t 40;unfold jq.F jq.e;rw[gQ,gQ,gQ,iP hn t ht 40 b,ab];simp only;rw[show([vs (⟨#[67,72,65,82]⟩:ByteArray),vs (⟨#[80,65,67,75,69,68]⟩:ByteArray),vs (⟨#[90,79,78,69,68]⟩:ByteArray),vs (⟨#[66,73,78,65,82,89]⟩:ByteArray)]:List AV)=Ws xi from rfl,yK (by omega) xi (by decide),ab,dD];by_cases h1:gA xi (gF t 40) 0=-1
 ·rw[ag h1];refine⟨0,0,0,ia t 40,true,rfl,hr,?_⟩;rw[Oj];cases b with
  | true=>rfl
  | false=>
   rw[eW,ab];unfold IX;rw[ag h1]
 ·rw[af h1];obtain⟨t1,b1,e1,l1,o1⟩:=fw (show 2<=n by omega) [40] (ia t 40) b;rw[e1,ab,dD];by_cases h0:gA xi (gF t 40) 0=0
  ·rw[ag h0];obtain⟨v,t2,b2,e2,l2,o2⟩:=kg hn 41 t1 (by omega) b1;obtain⟨t3,b3,e3,l3,o3⟩:=fw (show 2<=n by omega) [41] t2 b2;simp only;rw[e2,ab];simp only;rw[e3,ab];refine⟨_,_,_,t3,b3,rfl,by omega,?_⟩;cases b with
   | true=>
    obtain rfl:=eR o1;obtain rfl:=ij o2;obtain rfl:=eR o3;rfl
   | false=>
    rw[eW,ab]at o1 ⊢;unfold IX;simp only[af h1,ag h0];rcases im o1 with⟨g1,rfl⟩|⟨g1,rfl⟩
    ·rw[g1,ab];rw[eW,ab]at o2;rcases oP o2 with⟨g2,rfl⟩|⟨g2,rfl⟩
     ·rw[g2,ab];rw[eW,ab]at o3;rcases im o3 with⟨g3,rfl⟩|⟨g3,rfl⟩
      ·simp only[g3,ab];rfl
      ·simp only[g3,aB];rfl
     ·obtain rfl:=eR o3;rw[g2];rfl
    ·obtain rfl:=ij o2;obtain rfl:=eR o3;rw[g1];rfl
  ·rw[af h0];obtain⟨v,t2,b2,e2,l2,o2⟩:=kg hn 44 t1 (by omega) b1;obtain⟨t3,b3,e3,l3,o3⟩:=fw (show 2<=n by omega) [44] t2 b2;obtain⟨w,t4,b4,e4,l4,o4⟩:=kg hn 41 t3 (by omega) b3;obtain⟨t5,b5,e5,l5,o5⟩:=fw (show 2<=n by omega) [41] t4 b4;simp only;rw[e2,ab];simp only;rw[e3,ab];simp only;rw[e4,ab];simp only;rw[e5,ab];refine⟨_,_,_,t5,b5,rfl,by omega,?_⟩;cases b with
   | true=>
    obtain rfl:=eR o1;obtain rfl:=ij o2;obtain rfl:=eR o3;obtain rfl:=ij o4;obtain rfl:=eR o5;rfl
   | false=>
    rw[eW,ab]at o1 ⊢;unfold IX;simp only[af h1,af h0];rcases im o1 with⟨g1,rfl⟩|⟨g1,rfl⟩
    ·rw[g1,ab];rw[eW,ab]at o2;rcases oP o2 with⟨g2,rfl⟩|⟨g2,rfl⟩
     ·rw[g2,ab];rw[eW,ab]at o3;rcases im o3 with⟨g3,rfl⟩|⟨g3,rfl⟩
      ·simp only[g3,ab];rw[eW,ab]at o4;rcases oP o4 with⟨g4,rfl⟩|⟨g4,rfl⟩
       ·rw[g4,ab];rw[eW,ab]at o5;rcases im o5 with⟨g5,rfl⟩|⟨g5,rfl⟩
        ·simp only[g5,ab];rfl
        ·simp only[g5,aB];rfl
       ·obtain rfl:=eR o5;rw[g4];rfl
      ·obtain rfl:=ij o4;obtain rfl:=eR o5;simp only[g3,aB];rfl
     ·obtain rfl:=eR o3;obtain rfl:=ij o4;obtain rfl:=eR o5;rw[g2];rfl
    ·obtain rfl:=ij o2;obtain rfl:=eR o3;obtain rfl:=ij o4;obtain rfl:=eR o5;rw[g1];rfl
end
theorem rk(k:Nat):iy (Lib.decDigits k)=k:=(nd k k (aH _)).2.2.1
theorem yy{u r:List UInt8}{x:Int × List UInt8}(h:xy u r=some x):iQ u=true/\x=((iy u:Int),r):=by
 unfold xy at h;split at h
 ·rename_i e;cases h;exact⟨e,rfl⟩
 ·cases h
theorem nS{c:UInt8}{s:List UInt8}{x:Int × List UInt8}(h:rN c s=some x):∃k:Nat,x.1=(k:Int)/\k<10 ^ 15/\s=Lib.decDigits k++x.2:=by
 obtain⟨h1,rfl⟩:=yy h;refine⟨iy (gF s c),rfl,kE h1,?_⟩;rw[mC h1];exact oR s c
theorem zV{k:Nat}(hk:k<10 ^ 15){c:UInt8}(hc:eQ c=false)(r:List UInt8):rN c (Lib.decDigits k++c::r)=some ((k:Int),c::r):=by
 obtain⟨e1,e2⟩:=jB (AS (k:=k) hc) r;unfold rN xy;rw[e1,e2,ag (mE hk),rk]
theorem LI{k:Nat}(hk:k<10 ^ 15):Qe (Lib.decDigits k)=some ((k:Int),[]):=by
 unfold Qe xy;rw[ag (mE hk),rk]
theorem BF{s:List UInt8}{x:Int × List UInt8}(h:Qe s=some x):∃k:Nat,x=((k:Int),[])/\k<10 ^ 15/\s=Lib.decDigits k:=by
 obtain⟨h1,rfl⟩:=yy h;exact⟨iy s,rfl,kE h1,(mC h1).symm⟩
theorem Lq{w:List UInt8}(h:gA xi w 0≠-1):¬ gA xi w 0<0:=by
 have:=pM xi w 0;omega
theorem IW{k l s:Int}(h:GT k l s)(r:List UInt8):IX (iz k l s++r)=some ((k,l,s),r):=by
 obtain⟨hk,hl,hs,FF⟩:=h;obtain⟨a,rfl⟩:∃a:Nat,l=(a:Int):=⟨l.toNat,by omega⟩;obtain⟨d,rfl⟩:∃d:Nat,s=(d:Int):=⟨s.toNat,by omega⟩;obtain⟨h1,h2⟩:=Fm hk;have ha:a<10 ^ 15:=by omega
 have hd:d<10 ^ 15:=by omega
 unfold iz;rw[fJ];by_cases h0:k=0
 ·have FG:=FF h0;have e:qV k++[40]++Lib.decDigits a++(if k=0 then[]else[44]++Lib.itoa (d:Int))++[41]++r=qV k++40::(Lib.decDigits a++41::r):=by rw[ag h0];simp
  rw[e];obtain⟨e1,e2⟩:=jB h2 (Lib.decDigits a++41::r);unfold IX;rw[e1,e2,h1,af (by omega),show rW [40] (40::(Lib.decDigits a++41::r))=some (Lib.decDigits a++41::r)from j0 [40] _,ab,ag h0,zV ha (by decide),ab];simp only;rw[show rW [41] (41::r)=some r from j0 [41] r,ab,FG]
 ·have e:qV k++[40]++Lib.decDigits a++(if k=0 then[]else[44]++Lib.itoa (d:Int))++[41]++r=qV k++40::(Lib.decDigits a++44::(Lib.decDigits d++41::r)):=by rw[af h0,fJ];simp
  rw[e];obtain⟨e1,e2⟩:=jB h2 (Lib.decDigits a++44::(Lib.decDigits d++41::r));unfold IX;rw[e1,e2,h1,af (by omega),show rW [40] (40::(Lib.decDigits a++44::(Lib.decDigits d++41::r)))=some (Lib.decDigits a++44::(Lib.decDigits d++41::r))from j0 [40] _,ab,af h0,zV ha (by decide),ab];simp only;rw[show rW [44] (44::(Lib.decDigits d++41::r))=some (Lib.decDigits d++41::r)from j0 [44] _,ab,zV hd (by decide),ab];simp only;rw[show rW [41] (41::r)=some r from j0 [41] r,ab]
theorem Ty{t r:List UInt8}{k l s:Int}(h:IX t=some ((k,l,s),r)):GT k l s/\t=iz k l s++r:=by
 unfold IX at h;split at h
 ·cases h
 rename_i h1;obtain⟨k',sV,hk4,hw⟩:=JC (Lq h1);have ht:=oR t 40;rw[aL]at h;obtain⟨r1,g1,h⟩:=h;have e1:=jf g1;split at h
 ·rename_i h0;rw[aL]at h;obtain⟨x,g2,h⟩:=h;rw[aL]at h;obtain⟨r2,g3,h⟩:=h;cases h;obtain⟨a,ea,ha,es⟩:=nS g2;have e3:=jf g3;have FF:k'=0:=by rw[<-sV];exact h0
  rw[h0,ea];subst FF;refine⟨⟨.inl rfl,by omega,by omega,λ_=>rfl⟩,?_⟩;rw[ht,hw,e1,es,e3];unfold iz;rw[fJ];simp
 ·rename_i h0;rw[aL]at h;obtain⟨x,g2,h⟩:=h;rw[aL]at h;obtain⟨r2,g3,h⟩:=h;rw[aL]at h;obtain⟨y,g4,h⟩:=h;rw[aL]at h;obtain⟨r3,g5,h⟩:=h;cases h;obtain⟨a,ea,ha,es⟩:=nS g2;obtain⟨d,ed,hd,es'⟩:=nS g4;have e3:=jf g3;have e5:=jf g5;have FF:k'≠0:=by rw[<-sV];exact h0
  rw[sV,ea,ed];refine⟨⟨hk4,by omega,by omega,λh=>absurd h FF⟩,?_⟩;rw[ht,hw,e1,es,e3,es',e5];unfold iz;rw[af FF,fJ,fJ];simp
end Go.Proofs.YtnoldakbllfmnaaGreatDoor.Ev
end