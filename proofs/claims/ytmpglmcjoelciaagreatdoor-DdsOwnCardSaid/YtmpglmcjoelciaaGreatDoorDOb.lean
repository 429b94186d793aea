import Derived.Test.YtmpglmcjoelciaaGreatDoorDOa
noncomputable section
namespace Go.Proofs.YtmpglmcjoelciaaGreatDoor.Ev
open Go Go.Proofs Go.Proofs.Ev
set_option linter.unusedVariables false
structure LF where
 nm:List UInt8
 b:Int
 fd:List UInt8
structure JP where
 fr:Int
 lf:List UInt8
 b:Int
 rt:List UInt8
structure KF where
 nm:List UInt8
 d:Bool
structure CN where
 fd:List UInt8
 op:Int
 n:Int
 s:List UInt8
structure RL where
 om:Bool
 cs:List CN
def LF.av (x:LF):AV:=.agg [vs (bs x.nm),vi x.b,vs (bs x.fd)]
def JP.av (x:JP):AV:=.agg [vi x.fr,vs (bs x.lf),vi x.b,vs (bs x.rt)]
def KF.av (x:KF):AV:=.agg [vs (bs x.nm),vb x.d]
def CN.av (x:CN):AV:=.agg [vs (bs x.fd),vi x.op,vi x.n,vs (bs x.s)]
def RL.av (x:RL):AV:=.agg [vb x.om,.sl ⟨true,104⟩ 4 (x.cs.map CN.av)]
theorem at_map {α:Type} (f:α→AV) {l:List α} {i:Nat} (hi:i < l.length):(l.map f).getD (((i:Nat):Int)).toNat AV.undef=f l[i]:=by simp [List.getD_eq_getElem?_getD,hi]
def names (fs:List LF):List (List UInt8):=fs.map LF.nm
def knames (ks:List KF):List (List UInt8):=ks.map KF.nm
def Bl (ts:List Bool):List AV:=ts.map vb
theorem Bl_length (ts:List Bool):(Bl ts).length=ts.length:=by simp [Bl]
def ne (before:List (List UInt8)) (s:List UInt8):Int:=if isNm s=false then 7 else if before.contains s then 13 else 0
def bErr (ws:List (List UInt8)):List (List UInt8)→Nat→Int × Int
 | [],_=>(0,0)
 | w::r,i=>if ne (ws.take i) w≠0 then ((i:Int),ne (ws.take i) w) else bErr ws r (i+1)
def fe (nb:Int) (before:List (List UInt8)) (f:LF):Int:=if ne before f.nm≠0 then ne before f.nm else if ¬ (0≤f.b∧f.b≤nb) then 3 else if isNm f.fd=false then 7 else 0
def fErr (nb:Int) (ns:List (List UInt8)):List LF→Nat→Int × Int
 | [],_=>(0,0)
 | f::r,i=>if fe nb (ns.take i) f≠0 then ((i:Int),fe nb (ns.take i) f) else fErr nb ns r (i+1)
def je (nb last:Int) (j:JP):Int:=if ¬ (1≤j.b∧j.b≤nb) then 3 else if ¬ (0≤j.fr∧j.fr≤j.b - 1) then 3 else if isNm j.lf=false then 7 else if isNm j.rt=false then 7 else if j.b < last then 14 else 0
def jErr (nb:Int):List JP→Nat→Int→List Bool→Int × Int
 | [],_,_,ts=>(0,if (ts.drop 1).contains false then 11 else 0)
 | j::r,i,last,ts=>if je nb last j≠0 then ((i:Int),je nb last j) else jErr nb r (i+1) j.b (ts.set j.b.toNat true)
def ke (ns before:List (List UInt8)) (k:KF):Int:=if ns.contains k.nm=false then 11 else if before.contains k.nm then 13 else 0
def kErr (ns ks:List (List UInt8)):List KF→Nat→Int × Int
 | [],_=>(0,0)
 | k::r,i=>if ke ns (ks.take i) k≠0 then ((i:Int),ke ns (ks.take i) k) else kErr ns ks r (i+1)
def ce (ns:List (List UInt8)) (c:CN):Int:=if ns.contains c.fd=false then 11 else if ¬ (0≤c.op∧c.op≤5) then 4 else if ¬ (-999999999999999≤c.n∧c.n≤999999999999999) then 3 else if c.s.length > 256 then 2 else if c.n≠0∧c.s≠[] then 5 else 0
def cErr (ns:List (List UInt8)):List CN→Int
 | []=>0
 | c::r=>if ce ns c≠0 then ce ns c else cErr ns r
def re (ns:List (List UInt8)) (r:RL):Int:=if r.cs.length > 4 then 2 else cErr ns r.cs
def rErr (ns:List (List UInt8)):List RL→Nat→Int × Int
 | [],_=>(0,0)
 | r::rs,i=>if re ns r≠0 then ((i:Int),re ns r) else rErr ns rs (i+1)
theorem bErr_cons (ws:List (List UInt8)) (w:List UInt8) (r:List (List UInt8)) (i:Nat):bErr ws (w::r) i=if ne (ws.take i) w≠0 then ((i:Int),ne (ws.take i) w) else bErr ws r (i+1):=rfl
theorem fErr_cons (nb:Int) (ns:List (List UInt8)) (f:LF) (r:List LF) (i:Nat):fErr nb ns (f::r) i=if fe nb (ns.take i) f≠0 then ((i:Int),fe nb (ns.take i) f) else fErr nb ns r (i+1):=rfl
theorem jErr_cons (nb:Int) (j:JP) (r:List JP) (i:Nat) (last:Int) (ts:List Bool):jErr nb (j::r) i last ts=if je nb last j≠0 then ((i:Int),je nb last j) else jErr nb r (i+1) j.b (ts.set j.b.toNat true):=rfl
theorem kErr_cons (ns ks:List (List UInt8)) (k:KF) (r:List KF) (i:Nat):kErr ns ks (k::r) i=if ke ns (ks.take i) k≠0 then ((i:Int),ke ns (ks.take i) k) else kErr ns ks r (i+1):=rfl
theorem cErr_cons (ns:List (List UInt8)) (c:CN) (r:List CN):cErr ns (c::r)=if ce ns c≠0 then ce ns c else cErr ns r:=rfl
theorem rErr_cons (ns:List (List UInt8)) (r:RL) (rs:List RL) (i:Nat):rErr ns (r::rs) i=if re ns r≠0 then ((i:Int),re ns r) else rErr ns rs (i+1):=rfl
section
variable {n:Nat} {nm fm:ByteArray} {a2 a4 a5 a7:List AV} {uq:Bool}
theorem namesOf_l (hn:1001≤n) (fs:List LF) (hf:fs.length≤1000):∀ (d i m:Nat),i+d=fs.length→d < m→Q0z.l n m (.z3 (fs.map LF.av) fs.length i (Ws ((names fs).take i)))=some (Ws (names fs))
 | _,_,0,_,h=>absurd h (by omega)
 | 0,i,m+1,h,_=>by
  rw [Q0z.at3]
  unfold Q0z.r3
  rw [cond_f (by omega),List.take_of_length_le (by simp [names]; omega)]
 | d+1,i,m+1,h,hm=>by
  have hi:i < fs.length:=by omega
  have ih:=namesOf_l hn fs hf d (i+1) m (by omega) (by omega)
  have hmost:most=1000000000:=rfl
  have hni:i < (names fs).length:=by simp [names]; omega
  have e2:(names fs)[i]=fs[i].nm:=by simp [names]
  rw [Q0z.at3]
  unfold Q0z.r3
  rw [cond_t (by omega),List.length_map,within_t hi,cond_true,at_map LF.av hi]
  show (bif decide ((Ws ((names fs).take i)).length+1≤most) then (Q0z.l n m (.z3 (fs.map LF.av) fs.length (IntKind.i64.wrap ((i:Int)+1)) (Ws ((names fs).take i)++[vs (bs fs[i].nm)]))) else none)=_
  rw [cond_t (by rw [Ws_length,List.length_take]; omega),wsucc (by omega),Ws_snoc,← e2,← List.take_succ_eq_append_getElem hni]
  exact ih
theorem namesOf_eq (hn:1001≤n) (fs:List LF) (hf:fs.length≤1000):Q0z.F n nm fm a2 (fs.map LF.av) a4 a5 uq a7=some (Ws (names fs)):=by
 unfold Q0z.F Q0z.e
 rw [List.length_map]
 exact namesOf_l hn fs hf fs.length 0 n (by omega) (by omega)
theorem basesErr_l (hn:1001≤n) (ws:List (List UInt8)) (hw:ws.length≤1000) (a3:List AV):∀ (d i m:Nat),i+d=ws.length→d < m→Q0e.l n m (.z5 (Ws ws) ws.length i nm fm (Ws ws) a3 a4 a5 uq a7)=some (bErr ws (ws.drop i) i)
 | _,_,0,_,h=>absurd h (by omega)
 | 0,i,m+1,h,_=>by
  rw [Q0e.at5]
  unfold Q0e.r5
  rw [cond_f (by omega),List.drop_of_length_le (by omega)]
  rfl
 | d+1,i,m+1,h,hm=>by
  have hi:i < ws.length:=by omega
  have ih:=basesErr_l hn ws hw a3 d (i+1) m (by omega) (by omega)
  rw [Q0e.at5]
  unfold Q0e.r5
  rw [cond_t (by omega),Ws_length,within_t hi,cond_true,Ws_getD hi,upto_t (Nat.le_of_lt hi),List.drop_eq_getElem_cons hi]
  show (Q0y.F n (bs ws[i]) (((Ws ws).take i).drop 0)).bind _=_
  rw [Ws_take,nameErr_eq hn _ (by rw [List.length_take]; omega),Option.bind_some,wsucc (by omega),ih]
  rw [bErr_cons]
  show (bif ne (ws.take i) ws[i] != 0 then some ((i:Int),ne (ws.take i) ws[i]) else _)=_
  by_cases h0:ne (ws.take i) ws[i]=0
  ·have:(ne (ws.take i) ws[i] != 0)=false:=by simp [h0]
   rw [this,cond_false,if_neg (by simp [h0])]
  ·have:(ne (ws.take i) ws[i] != 0)=true:=by simp [h0]
   rw [this,cond_true,if_pos h0]
def bErrT (ws:List (List UInt8)):Int × Int:=if ws.length=0 then (0,1) else if ws.length > 3 then (0,2) else bErr ws ws 0
theorem sizes_first {n:Nat} (hn:1001≤n) (a b:Bool):Q0m.F n [vi (if a then 1 else 0),vi (if b then 2 else 0)]=some (if a then 1 else if b then 2 else 0):=by
 rw [first2 hn]
 cases a <;> cases b <;> rfl
theorem basesErr_eq (hn:1001≤n) (ws:List (List UInt8)) (hw:ws.length≤1000) (a3:List AV):Q0e.F n nm fm (Ws ws) a3 a4 a5 uq a7=some (bErrT ws):=by
 unfold Q0e.F Q0e.e bErrT
 simp only [Ws_length]
 rw [cond_eq,Option.bind_some,cond_eq,Option.bind_some,sizes_first hn,Option.bind_some,beq_int]
 by_cases h0:ws.length=0
 ·have:decide (((ws.length:Nat):Int)=0)=true:=by rw [decide_eq_true_eq]; omega
  rw [this,if_pos h0]
  rfl
 ·have:decide (((ws.length:Nat):Int)=0)=false:=by rw [decide_eq_false_iff_not]; omega
  rw [this,if_neg h0]
  by_cases h3:ws.length > 3
  ·have:decide (((ws.length:Nat):Int) > 3)=true:=by rw [decide_eq_true_eq]; omega
   rw [this,if_pos h3]
   rfl
  ·have:decide (((ws.length:Nat):Int) > 3)=false:=by rw [decide_eq_false_iff_not]; omega
   rw [this,if_neg h3]
   have:=basesErr_l (nm:=nm) (fm:=fm) (a4:=a4) (a5:=a5) (uq:=uq) (a7:=a7) hn ws hw a3 ws.length 0 n (by omega) (by omega)
   rw [List.drop_zero] at this
   exact this
theorem fieldsErr_l (hn:1001≤n) (ws:List (List UInt8)) (hw:ws.length≤1000) (fs:List LF) (hf:fs.length≤1000):∀ (d i m:Nat),i+d=fs.length→d < m→
  Q0i.l n m (.z6 (fs.map LF.av) fs.length i nm fm (Ws ws) (fs.map LF.av) a4 a5 uq a7 (Ws (names fs)))=some (fErr ((ws.length:Int) - 1) (names fs) (fs.drop i) i)
 | _,_,0,_,h=>absurd h (by omega)
 | 0,i,m+1,h,_=>by
  rw [Q0i.at6]
  unfold Q0i.r6
  rw [cond_f (by omega),List.drop_of_length_le (by omega)]
  rfl
 | d+1,i,m+1,h,hm=>by
  have hi:i < fs.length:=by omega
  have hni:(names fs).length=fs.length:=by simp [names]
  have ih:=fieldsErr_l hn ws hw fs hf d (i+1) m (by omega) (by omega)
  rw [Q0i.at6]
  unfold Q0i.r6
  rw [cond_t (by omega),List.length_map,within_t hi,cond_true,at_map LF.av hi,List.drop_eq_getElem_cons hi]
  show (bif decide ((0:Int)≤(i:Int))&&decide ((i:Int)≤(((Ws (names fs)).length:Nat):Int)) then ((Q0y.F n (bs fs[i].nm) (((Ws (names fs)).drop 0).take (((i:Int) - 0).toNat))).bind _) else none)=_
  rw [Ws_length,upto_t (by omega),cond_true,show ((i:Int) - 0).toNat=i by omega,Ws_take2,nameErr_eq hn _ (by rw [List.length_take]; omega),Option.bind_some]
  show ((Q0o.F n fs[i].b 0 (IntKind.i64.wrap ((((Ws ws).length:Nat):Int) - 1))).bind _)=_
  rw [Ws_length,w64 (by omega) (by omega)]
  have hin:Q0o.F n fs[i].b 0 ((ws.length:Int) - 1)=some (decide (0≤fs[i].b∧fs[i].b≤(ws.length:Int) - 1)):=by
   unfold Q0o.F Q0o.e
   by_cases h:0≤fs[i].b
   ·rw [cond_t h]; simp [h]
   ·rw [cond_f h]; simp [h]
  rw [hin,Option.bind_some,cond_eq,Option.bind_some,isName_eq hn,Option.bind_some,cond_eq,Option.bind_some,wsucc (by omega),ih]
  rw [fErr_cons]
  have hfz:=first_eq (n:=n) [ne ((names fs).take i) fs[i].nm,(if (!decide (0≤fs[i].b∧fs[i].b≤(ws.length:Int) - 1))=true then 3 else 0),(if (!isNm fs[i].fd)=true then 7 else 0)] (by simp) hn
  show ((Q0m.F n ([ne ((names fs).take i) fs[i].nm,(if (!decide (0≤fs[i].b∧fs[i].b≤(ws.length:Int) - 1))=true then 3 else 0),(if (!isNm fs[i].fd)=true then 7 else 0)].map vi)).bind _)=_
  rw [hfz,Option.bind_some]
  have e:fz [ne ((names fs).take i) fs[i].nm,(if (!decide (0≤fs[i].b∧fs[i].b≤(ws.length:Int) - 1))=true then 3 else 0),(if (!isNm fs[i].fd)=true then 7 else 0)]=fe ((ws.length:Int) - 1) ((names fs).take i) fs[i]:=by
   unfold fe
   by_cases h1:ne ((names fs).take i) fs[i].nm=0
   ·by_cases h2:0≤fs[i].b∧fs[i].b≤(ws.length:Int) - 1
    ·cases h3:isNm fs[i].fd <;> simp [fz,h1,h2]
    ·simp [fz,h1,h2]
   ·simp [fz,h1]
  rw [e]
  by_cases h0:fe ((ws.length:Int) - 1) ((names fs).take i) fs[i]=0
  ·have:(fe ((ws.length:Int) - 1) ((names fs).take i) fs[i] != 0)=false:=by simp [h0]
   rw [this,cond_false,if_neg (by simp [h0])]
  ·have:(fe ((ws.length:Int) - 1) ((names fs).take i) fs[i] != 0)=true:=by simp [h0]
   rw [this,cond_true,if_pos h0]
def fErrT (ws:List (List UInt8)) (fs:List LF):Int × Int:=if fs.length=0 then (0,1) else if fs.length > 20 then (0,2) else fErr ((ws.length:Int) - 1) (names fs) fs 0
theorem fieldsErr_eq (hn:1001≤n) (ws:List (List UInt8)) (hw:ws.length≤1000) (fs:List LF) (hf:fs.length≤1000):Q0i.F n nm fm (Ws ws) (fs.map LF.av) a4 a5 uq a7=some (fErrT ws fs):=by
 unfold Q0i.F Q0i.e fErrT
 simp only [List.length_map]
 rw [cond_eq,Option.bind_some,cond_eq,Option.bind_some,sizes_first hn,Option.bind_some,beq_int]
 by_cases h0:fs.length=0
 ·have:decide (((fs.length:Nat):Int)=0)=true:=by rw [decide_eq_true_eq]; omega
  rw [this,if_pos h0]
  rfl
 ·have:decide (((fs.length:Nat):Int)=0)=false:=by rw [decide_eq_false_iff_not]; omega
  rw [this,if_neg h0]
  by_cases h3:fs.length > 20
  ·have:decide (((fs.length:Nat):Int) > 20)=true:=by rw [decide_eq_true_eq]; omega
   rw [this,if_pos h3]
   rfl
  ·have:decide (((fs.length:Nat):Int) > 20)=false:=by rw [decide_eq_false_iff_not]; omega
   rw [this,if_neg h3]
   show ((Q0z.F n nm fm (Ws ws) (fs.map LF.av) a4 a5 uq a7).bind _)=_
   rw [namesOf_eq hn fs hf,Option.bind_some]
   have:=fieldsErr_l (nm:=nm) (fm:=fm) (a4:=a4) (a5:=a5) (uq:=uq) (a7:=a7) hn ws hw fs hf fs.length 0 n (by omega) (by omega)
   rw [List.drop_zero] at this
   exact this
end
end Go.Proofs.YtmpglmcjoelciaaGreatDoor.Ev
namespace Go.Proofs.YtmpglmcjoelciaaGreatDoor.Ev
open Go Go.Proofs Go.Proofs.Ev
set_option linter.unusedVariables false
section
variable {R:Type}
theorem cells_agg (cs:List AV):(AV.agg cs).cells=cs:=rfl
theorem cells_v (x:Value):(AV.v x).cells=[.v x]:=rfl
theorem withCons_cons (c:AV) (r:List AV) (K:AV→List AV→Option R):withCons (c::r) K=K c r:=rfl
theorem withInt_mk (k:IntKind) (n:Int) (K:Int→Option R):withInt k (.v (.int k n)) K=K n:=by simp [withInt]
theorem withStr_mk (s:ByteArray) (K:ByteArray→Option R):withStr (.v (.string s)) K=K s:=rfl
theorem withBool_mk (b:Bool) (K:Bool→Option R):withBool (.v (.bool b)) K=K b:=rfl
theorem withSl_mk (fl:Fl) (sz:Nat) (xs:List AV) (K:List AV→Option R):withSl fl sz (.sl fl sz xs) K=K xs:=by
 have:(fl==fl)=true:=by simp
 simp [withSl]
theorem bif_ite {p:Prop} [Decidable p] (x y:R):(bif decide p then x else y)=if p then x else y:=by by_cases h:p <;> simp [h]
theorem bif_eq0 (a b:Int) (x y:R):(bif a==b then x else y)=if a=b then x else y:=by
 show (bif decide (a=b) then x else y)=_
 exact bif_ite x y
theorem at_mapN {α:Type} (f:α→AV) {l:List α} {i:Nat} (hi:i < l.length):(l.map f).getD i AV.undef=f l[i]:=by simp [List.getD_eq_getElem?_getD,hi]
theorem Ws_getDN {ws:List (List UInt8)} {i:Nat} (hi:i < ws.length):(Ws ws).getD i AV.undef=vs (bs ws[i]):=by simp [Ws,List.getD_eq_getElem?_getD,hi]
end
end Go.Proofs.YtmpglmcjoelciaaGreatDoor.Ev
namespace Go.Proofs.YtmpglmcjoelciaaGreatDoor.Ev
open Go Go.Proofs Go.Proofs.Ev
set_option linter.unusedVariables false
set_option maxRecDepth 100000
abbrev Q2l.A:=List AV
abbrev Q2l.T:=Bool
def Q2l.i:Q2l.A→List AV:=fun a0=>[.sl ⟨true,9⟩ 1 a0]
def Q2l.o (xs:List AV):Option Q2l.A:=match xs with | [.sl ⟨true,9⟩ 1 a0]=>some a0 | _=>none
theorem Q2l.oi:∀ xs a,Q2l.o xs=some a→xs=Q2l.i a:=by
 intro xs a h
 unfold Q2l.o at h
 split at h
 ·cases h; rfl
 ·cases h
def Q2l.p (p:Q2l.T):AV:=vb p
def Q2l.q (x:AV):Option Q2l.T:=match x with | .v (.bool p0)=>some p0 | _=>none
theorem Q2l.qi:∀ x p,Q2l.q x=some p→x=Q2l.p p:=by
 intro x p h
 unfold Q2l.q at h
 split at h
 ·cases h; rfl
 ·cases h
inductive Q2l.Z where
 | z4 (z1:List AV) (z2:Int)
def Q2l.C {R:Type} (n:Nat) (f:FuncId) (xs:List AV):(AV→Option R)→Option R:=
 fun _=>none
theorem Q2l.tells {R:Type} (n:Nat):Tells (R:=R) Tryz.prog (Q2l.C n):=fun _ xs=>Tells1.none
def Q2l.cut (r:Nat):Option Keep:=match r with | 4=>some ⟨[0,3],[]⟩ | _=>none
def Q2l.t (z:Q2l.Z):List Item:=(todoOf (match z with | .z4 _ _=>4) 1000 [.code (Tryz.f20.body.getD .skip)]).getD []
def Q2l.s:Q2l.Z→St
 | .z4 z1 z2=>⟨spr 19 0 [(0,.sl ⟨true,9⟩ 1 z1),(3,vi z2)],Mem.ofList [],0⟩
def Q2l.r4 (n:Nat) (c:Q2l.Z→Option Bool) (z1:List AV) (z2:Int):Option Bool:=
 let y2:Bool:=decide (z2 < ((z1.length:Nat):Int))
 bif y2 then (bif decide ((0:Int)≤z2)&&decide (z2 < ((z1.length:Nat):Int)) then (withCons ((z1.getD ((z2).toNat) .undef).cells) fun h3 r4=>
 withStr h3 fun s5=>
 let y6:Bool:=decide (((s5.size:Nat):Int) > 300)
 bif y6 then (some false) else (c (.z4 z1 (IntKind.i64.wrap (z2+1))))) else none) else (some true)
def Q2l.r (n:Nat) (c:Q2l.Z→Option Bool):Q2l.Z→Option Bool
 | .z4 z1 z2=>Q2l.r4 n c z1 z2
def Q2l.e (n:Nat) (c:Q2l.Z→Option Bool) (a0:List AV):Option Bool:=
 let y1:Bool:=decide (((a0.length:Nat):Int) > 103)
 bif y1 then (some false) else (c (.z4 a0 0))
def Q2l.E (n:Nat) (c:Q2l.Z→Option Bool):Q2l.A→Option Q2l.T:=fun a0=>Q2l.e n c a0
def Q2l.l (n:Nat):Nat→Q2l.Z→Option Bool:=loopL (Q2l.r n)
def Q2l.F (n:Nat) (a0:List AV):Option Bool:=Q2l.e n (Q2l.l n n) a0
def Q2l.FA (n:Nat):Q2l.A→Option Q2l.T:=Q2l.E n (Q2l.l n n)
theorem Q2l.hands (n:Nat):∀ a p,Q2l.FA n a=some p→HandsIn Tryz.prog 20 (Q2l.i a) (Q2l.p p):=
 pf_hands (C:=Q2l.C n) (cut:=Q2l.cut) (t:=Q2l.t) (s:=Q2l.s) (e:=Q2l.E n) (r:=Q2l.r n) (n:=n) cfg mixed globs rfl Q2l.qi (Q2l.tells n) Tryz.func20 (by kernel_rfl) (by kernel_rfl) (fun rec a=>by kernel_rfl) (fun rec z=>by cases z <;> kernel_rfl)
def Q2l.via {R:Type} (n:Nat):List AV→(AV→Option R)→Option R:=viaK (Q2l.FA n) Q2l.o Q2l.p
theorem Q2l.tells1 {R:Type} (n:Nat) (xs:List AV):Tells1 (R:=R) Tryz.prog 20 xs (Q2l.via n xs):=tells_via Q2l.oi (fun a=>by kernel_rfl) (Q2l.hands n) xs
end Go.Proofs.YtmpglmcjoelciaaGreatDoor.Ev
namespace Go.Proofs.YtmpglmcjoelciaaGreatDoor.Ev
open Go Go.Proofs Go.Proofs.Ev
set_option linter.unusedVariables false
set_option maxRecDepth 100000
abbrev Q0q.A:=ByteArray
abbrev Q0q.T:=Bool
def Q0q.i:Q0q.A→List AV:=fun a0=>[vs a0]
def Q0q.o (xs:List AV):Option Q0q.A:=match xs with | [.v (.string a0)]=>some a0 | _=>none
theorem Q0q.oi:∀ xs a,Q0q.o xs=some a→xs=Q0q.i a:=by
 intro xs a h
 unfold Q0q.o at h
 split at h
 ·cases h; rfl
 ·cases h
def Q0q.p (p:Q0q.T):AV:=vb p
def Q0q.q (x:AV):Option Q0q.T:=match x with | .v (.bool p0)=>some p0 | _=>none
theorem Q0q.qi:∀ x p,Q0q.q x=some p→x=Q0q.p p:=by
 intro x p h
 unfold Q0q.q at h
 split at h
 ·cases h; rfl
 ·cases h
def Q0q.C {R:Type} (n:Nat) (f:FuncId) (xs:List AV):(AV→Option R)→Option R:=
 bif Nat.beq f 98 then Q4f.via n xs else fun _=>none
theorem Q0q.tells {R:Type} (n:Nat):Tells (R:=R) Tryz.prog (Q0q.C n):=fun _ xs=>tells_at (Q4f.tells1 n xs) (Tells1.none)
def Q0q.cut (r:Nat):Option Keep:=match r with  | _=>none
def Q0q.e (n:Nat) (a0:ByteArray):Option Bool:=
 (Q4f.F n a0 (⟨#[39]⟩ : ByteArray)).bind fun p1=>
 some p1
def Q0q.E (n:Nat):Q0q.A→Option Q0q.T:=fun a0=>Q0q.e n a0
def Q0q.F (n:Nat) (a0:ByteArray):Option Bool:=Q0q.e n a0
def Q0q.FA (n:Nat):Q0q.A→Option Q0q.T:=Q0q.E n
theorem Q0q.hands (n:Nat):∀ a p,Q0q.FA n a=some p→HandsIn Tryz.prog 149 (Q0q.i a) (Q0q.p p):=
 pf_hands (C:=Q0q.C n) (cut:=Q0q.cut) (Z:=Empty) (t:=nofun) (s:=nofun) (e:=fun _=>Q0q.E n) (r:=fun _ z=>nomatch z) (n:=n) cfg mixed globs rfl Q0q.qi (Q0q.tells n) Tryz.func149 (by kernel_rfl) (by kernel_rfl) (fun rec a=>by kernel_rfl) (fun rec z=>nomatch z)
def Q0q.via {R:Type} (n:Nat):List AV→(AV→Option R)→Option R:=viaK (Q0q.FA n) Q0q.o Q0q.p
theorem Q0q.tells1 {R:Type} (n:Nat) (xs:List AV):Tells1 (R:=R) Tryz.prog 149 xs (Q0q.via n xs):=tells_via Q0q.oi (fun a=>by kernel_rfl) (Q0q.hands n) xs
end Go.Proofs.YtmpglmcjoelciaaGreatDoor.Ev
namespace Go.Proofs.YtmpglmcjoelciaaGreatDoor.Ev
open Go Go.Proofs Go.Proofs.Ev
set_option linter.unusedVariables false
set_option maxRecDepth 100000
abbrev Q4a.A:=List AV
abbrev Q4a.T:=Int
def Q4a.i:Q4a.A→List AV:=fun a0=>[.sl ⟨true,9⟩ 1 a0,.fn 149 []]
def Q4a.o (xs:List AV):Option Q4a.A:=match xs with | [.sl ⟨true,9⟩ 1 a0,.fn 149 []]=>some a0 | _=>none
theorem Q4a.oi:∀ xs a,Q4a.o xs=some a→xs=Q4a.i a:=by
 intro xs a h
 unfold Q4a.o at h
 split at h
 ·cases h; rfl
 ·cases h
def Q4a.p (p:Q4a.T):AV:=vi p
def Q4a.q (x:AV):Option Q4a.T:=match x with | .v (.int .i64 p0)=>some p0 | _=>none
theorem Q4a.qi:∀ x p,Q4a.q x=some p→x=Q4a.p p:=by
 intro x p h
 unfold Q4a.q at h
 split at h
 ·cases h; rfl
 ·cases h
inductive Q4a.Z where
 | z2 (z1:List AV) (z2 z3:Int)
def Q4a.C {R:Type} (n:Nat) (f:FuncId) (xs:List AV):(AV→Option R)→Option R:=
 bif Nat.beq f 149 then Q0q.via n xs else fun _=>none
theorem Q4a.tells {R:Type} (n:Nat):Tells (R:=R) Tryz.prog (Q4a.C n):=fun _ xs=>tells_at (Q0q.tells1 n xs) (Tells1.none)
def Q4a.cut (r:Nat):Option Keep:=match r with | 2=>some ⟨[0,1,7,8],[]⟩ | _=>none
def Q4a.t (z:Q4a.Z):List Item:=(todoOf (match z with | .z2 _ _ _=>2) 1000 [.code (Tryz.f123.body.getD .skip)]).getD []
def Q4a.s:Q4a.Z→St
 | .z2 z1 z2 z3=>⟨spr 19 0 [(0,.sl ⟨true,9⟩ 1 z1),(1,.fn 149 []),(7,vi z2),(8,vi z3)],Mem.ofList [],0⟩
def Q4a.r2 (n:Nat) (c:Q4a.Z→Option Int) (z1:List AV) (z2 z3:Int):Option Int:=
 bif decide (z3 < z2) then (bif decide ((0:Int)≤z3)&&decide (z3 < ((z1.length:Nat):Int)) then (withCons ((z1.getD ((z3).toNat) .undef).cells) fun h1 r2=>
 withStr h1 fun s3=>
 (Q0q.F n s3).bind fun p4=>
 bif p4 then (some z3) else (c (.z2 z1 z2 (IntKind.i64.wrap (z3+1))))) else none) else (some (-1))
def Q4a.r (n:Nat) (c:Q4a.Z→Option Int):Q4a.Z→Option Int
 | .z2 z1 z2 z3=>Q4a.r2 n c z1 z2 z3
def Q4a.e (n:Nat) (c:Q4a.Z→Option Int) (a0:List AV):Option Int:=
 c (.z2 a0 ((a0.length:Nat):Int) 0)
def Q4a.E (n:Nat) (c:Q4a.Z→Option Int):Q4a.A→Option Q4a.T:=fun a0=>Q4a.e n c a0
def Q4a.l (n:Nat):Nat→Q4a.Z→Option Int:=loopL (Q4a.r n)
def Q4a.F (n:Nat) (a0:List AV):Option Int:=Q4a.e n (Q4a.l n n) a0
def Q4a.FA (n:Nat):Q4a.A→Option Q4a.T:=Q4a.E n (Q4a.l n n)
theorem Q4a.hands (n:Nat):∀ a p,Q4a.FA n a=some p→HandsIn Tryz.prog 123 (Q4a.i a) (Q4a.p p):=
 pf_hands (C:=Q4a.C n) (cut:=Q4a.cut) (t:=Q4a.t) (s:=Q4a.s) (e:=Q4a.E n) (r:=Q4a.r n) (n:=n) cfg mixed globs rfl Q4a.qi (Q4a.tells n) Tryz.func123 (by kernel_rfl) (by kernel_rfl) (fun rec a=>by kernel_rfl) (fun rec z=>by cases z <;> kernel_rfl)
def Q4a.via {R:Type} (n:Nat):List AV→(AV→Option R)→Option R:=viaK (Q4a.FA n) Q4a.o Q4a.p
theorem Q4a.tells1 {R:Type} (n:Nat) (xs:List AV):Tells1 (R:=R) Tryz.prog 123 xs (Q4a.via n xs):=tells_via Q4a.oi (fun a=>by kernel_rfl) (Q4a.hands n) xs
end Go.Proofs.YtmpglmcjoelciaaGreatDoor.Ev
namespace Go.Proofs.YtmpglmcjoelciaaGreatDoor.Ev
open Go Go.Proofs Go.Proofs.Ev
set_option linter.unusedVariables false
set_option maxRecDepth 100000
abbrev Q45.A:=List AV
abbrev Q45.T:=Bool
def Q45.i:Q45.A→List AV:=fun a0=>[.sl ⟨true,9⟩ 1 a0,.fn 149 []]
def Q45.o (xs:List AV):Option Q45.A:=match xs with | [.sl ⟨true,9⟩ 1 a0,.fn 149 []]=>some a0 | _=>none
theorem Q45.oi:∀ xs a,Q45.o xs=some a→xs=Q45.i a:=by
 intro xs a h
 unfold Q45.o at h
 split at h
 ·cases h; rfl
 ·cases h
def Q45.p (p:Q45.T):AV:=vb p
def Q45.q (x:AV):Option Q45.T:=match x with | .v (.bool p0)=>some p0 | _=>none
theorem Q45.qi:∀ x p,Q45.q x=some p→x=Q45.p p:=by
 intro x p h
 unfold Q45.q at h
 split at h
 ·cases h; rfl
 ·cases h
def Q45.C {R:Type} (n:Nat) (f:FuncId) (xs:List AV):(AV→Option R)→Option R:=
 bif Nat.beq f 123 then Q4a.via n xs else fun _=>none
theorem Q45.tells {R:Type} (n:Nat):Tells (R:=R) Tryz.prog (Q45.C n):=fun _ xs=>tells_at (Q4a.tells1 n xs) (Tells1.none)
def Q45.cut (r:Nat):Option Keep:=match r with  | _=>none
def Q45.e (n:Nat) (a0:List AV):Option Bool:=
 (Q4a.F n a0).bind fun p1=>
 some (decide (p1≥0))
def Q45.E (n:Nat):Q45.A→Option Q45.T:=fun a0=>Q45.e n a0
def Q45.F (n:Nat) (a0:List AV):Option Bool:=Q45.e n a0
def Q45.FA (n:Nat):Q45.A→Option Q45.T:=Q45.E n
theorem Q45.hands (n:Nat):∀ a p,Q45.FA n a=some p→HandsIn Tryz.prog 78 (Q45.i a) (Q45.p p):=
 pf_hands (C:=Q45.C n) (cut:=Q45.cut) (Z:=Empty) (t:=nofun) (s:=nofun) (e:=fun _=>Q45.E n) (r:=fun _ z=>nomatch z) (n:=n) cfg mixed globs rfl Q45.qi (Q45.tells n) Tryz.func78 (by kernel_rfl) (by kernel_rfl) (fun rec a=>by kernel_rfl) (fun rec z=>nomatch z)
def Q45.via {R:Type} (n:Nat):List AV→(AV→Option R)→Option R:=viaK (Q45.FA n) Q45.o Q45.p
theorem Q45.tells1 {R:Type} (n:Nat) (xs:List AV):Tells1 (R:=R) Tryz.prog 78 xs (Q45.via n xs):=tells_via Q45.oi (fun a=>by kernel_rfl) (Q45.hands n) xs
end Go.Proofs.YtmpglmcjoelciaaGreatDoor.Ev
namespace Go.Proofs.YtmpglmcjoelciaaGreatDoor.Ev
open Go Go.Proofs Go.Proofs.Ev
set_option linter.unusedVariables false
set_option maxRecDepth 100000
abbrev Q0p.A:=List AV
abbrev Q0p.T:=Bool
def Q0p.i:Q0p.A→List AV:=fun a0=>[.sl ⟨true,9⟩ 1 a0]
def Q0p.o (xs:List AV):Option Q0p.A:=match xs with | [.sl ⟨true,9⟩ 1 a0]=>some a0 | _=>none
theorem Q0p.oi:∀ xs a,Q0p.o xs=some a→xs=Q0p.i a:=by
 intro xs a h
 unfold Q0p.o at h
 split at h
 ·cases h; rfl
 ·cases h
def Q0p.p (p:Q0p.T):AV:=vb p
def Q0p.q (x:AV):Option Q0p.T:=match x with | .v (.bool p0)=>some p0 | _=>none
theorem Q0p.qi:∀ x p,Q0p.q x=some p→x=Q0p.p p:=by
 intro x p h
 unfold Q0p.q at h
 split at h
 ·cases h; rfl
 ·cases h
def Q0p.C {R:Type} (n:Nat) (f:FuncId) (xs:List AV):(AV→Option R)→Option R:=
 bif Nat.beq f 78 then Q45.via n xs else fun _=>none
theorem Q0p.tells {R:Type} (n:Nat):Tells (R:=R) Tryz.prog (Q0p.C n):=fun _ xs=>tells_at (Q45.tells1 n xs) (Tells1.none)
def Q0p.cut (r:Nat):Option Keep:=match r with  | _=>none
def Q0p.e (n:Nat) (a0:List AV):Option Bool:=
 (Q45.F n a0).bind fun p1=>
 some (!p1)
def Q0p.E (n:Nat):Q0p.A→Option Q0p.T:=fun a0=>Q0p.e n a0
def Q0p.F (n:Nat) (a0:List AV):Option Bool:=Q0p.e n a0
def Q0p.FA (n:Nat):Q0p.A→Option Q0p.T:=Q0p.E n
theorem Q0p.hands (n:Nat):∀ a p,Q0p.FA n a=some p→HandsIn Tryz.prog 113 (Q0p.i a) (Q0p.p p):=
 pf_hands (C:=Q0p.C n) (cut:=Q0p.cut) (Z:=Empty) (t:=nofun) (s:=nofun) (e:=fun _=>Q0p.E n) (r:=fun _ z=>nomatch z) (n:=n) cfg mixed globs rfl Q0p.qi (Q0p.tells n) Tryz.func113 (by kernel_rfl) (by kernel_rfl) (fun rec a=>by kernel_rfl) (fun rec z=>nomatch z)
def Q0p.via {R:Type} (n:Nat):List AV→(AV→Option R)→Option R:=viaK (Q0p.FA n) Q0p.o Q0p.p
theorem Q0p.tells1 {R:Type} (n:Nat) (xs:List AV):Tells1 (R:=R) Tryz.prog 113 xs (Q0p.via n xs):=tells_via Q0p.oi (fun a=>by kernel_rfl) (Q0p.hands n) xs
end Go.Proofs.YtmpglmcjoelciaaGreatDoor.Ev
namespace Go.Proofs.YtmpglmcjoelciaaGreatDoor.Ev
open Go Go.Proofs Go.Proofs.Ev
set_option linter.unusedVariables false
set_option maxRecDepth 100000
abbrev Q1a.A:=List AV × Bool × ByteArray × ByteArray × Bool × ByteArray × ByteArray × Bool × Int × List AV × List AV × List AV × List AV × List AV × List AV × List AV
abbrev Q1a.T:=Bool × Bool × ByteArray × ByteArray × Bool × ByteArray × ByteArray × Bool × Int × List AV × List AV × List AV × List AV × List AV × List AV × List AV
def Q1a.i:Q1a.A→List AV:=fun (a0,a1,a2,a3,a4,a5,a6,a7,a8,a9,a10,a11,a12,a13,a14,a15)=>[.ptr 0 0,.sl ⟨true,9⟩ 1 a0]
def Q1a.b:Q1a.A→List AV:=fun (a0,a1,a2,a3,a4,a5,a6,a7,a8,a9,a10,a11,a12,a13,a14,a15)=>[.fn 115 [vb a1,vs a2,vs a3,.own 1 0 none,.own 2 0 none,vb a4,vs a5,vs a6,.own 3 0 none,.own 4 0 none,.own 5 0 none,.own 6 0 none,vb a7,.own 7 0 none,vi a8],.fr ⟨true,125⟩ 4 a9,.fr ⟨true,111⟩ 2 a10,.fr ⟨true,9⟩ 1 a11,.fr ⟨true,95⟩ 3 a12,.fr ⟨true,97⟩ 4 a13,.fr ⟨true,111⟩ 2 a14,.fr ⟨false,100⟩ 2 a15]
def Q1a.o (xs:List AV):Option Q1a.A:=match xs with | [.ptr 0 0,.sl ⟨true,9⟩ 1 a0,.tup [.fn 115 [.v (.bool a1),.v (.string a2),.v (.string a3),.own 1 0 none,.own 2 0 none,.v (.bool a4),.v (.string a5),.v (.string a6),.own 3 0 none,.own 4 0 none,.own 5 0 none,.own 6 0 none,.v (.bool a7),.own 7 0 none,.v (.int .i64 a8)],.fr ⟨true,125⟩ 4 a9,.fr ⟨true,111⟩ 2 a10,.fr ⟨true,9⟩ 1 a11,.fr ⟨true,95⟩ 3 a12,.fr ⟨true,97⟩ 4 a13,.fr ⟨true,111⟩ 2 a14,.fr ⟨false,100⟩ 2 a15]]=>some (a0,a1,a2,a3,a4,a5,a6,a7,a8,a9,a10,a11,a12,a13,a14,a15) | _=>none
theorem Q1a.oi:∀ xs a,Q1a.o xs=some a→xs=Q1a.i a++[.tup (Q1a.b a)]:=by
 intro xs a h
 unfold Q1a.o at h
 split at h
 ·cases h; rfl
 ·cases h
def Q1a.y (p:Q1a.T):AV:=vb p.1
def Q1a.w (p:Q1a.T):List AV:=[.fn 115 [vb p.2.1,vs p.2.2.1,vs p.2.2.2.1,.own 1 0 none,.own 2 0 none,vb p.2.2.2.2.1,vs p.2.2.2.2.2.1,vs p.2.2.2.2.2.2.1,.own 3 0 none,.own 4 0 none,.own 5 0 none,.own 6 0 none,vb p.2.2.2.2.2.2.2.1,.own 7 0 none,vi p.2.2.2.2.2.2.2.2.1],.fr ⟨true,125⟩ 4 p.2.2.2.2.2.2.2.2.2.1,.fr ⟨true,111⟩ 2 p.2.2.2.2.2.2.2.2.2.2.1,.fr ⟨true,9⟩ 1 p.2.2.2.2.2.2.2.2.2.2.2.1,.fr ⟨true,95⟩ 3 p.2.2.2.2.2.2.2.2.2.2.2.2.1,.fr ⟨true,97⟩ 4 p.2.2.2.2.2.2.2.2.2.2.2.2.2.1,.fr ⟨true,111⟩ 2 p.2.2.2.2.2.2.2.2.2.2.2.2.2.2.1,.fr ⟨false,100⟩ 2 p.2.2.2.2.2.2.2.2.2.2.2.2.2.2.2]
def Q1a.p (p:Q1a.T):AV:=.tup [Q1a.y p,.tup (Q1a.w p)]
def Q1a.q (x:AV):Option Q1a.T:=match x with | .tup [.v (.bool p0),.tup [.fn 115 [.v (.bool p1),.v (.string p2),.v (.string p3),.own 1 0 none,.own 2 0 none,.v (.bool p4),.v (.string p5),.v (.string p6),.own 3 0 none,.own 4 0 none,.own 5 0 none,.own 6 0 none,.v (.bool p7),.own 7 0 none,.v (.int .i64 p8)],.fr ⟨true,125⟩ 4 p9,.fr ⟨true,111⟩ 2 p10,.fr ⟨true,9⟩ 1 p11,.fr ⟨true,95⟩ 3 p12,.fr ⟨true,97⟩ 4 p13,.fr ⟨true,111⟩ 2 p14,.fr ⟨false,100⟩ 2 p15]]=>some (p0,p1,p2,p3,p4,p5,p6,p7,p8,p9,p10,p11,p12,p13,p14,p15) | _=>none
theorem Q1a.qi:∀ x p,Q1a.q x=some p→x=Q1a.p p:=by
 intro x p h
 unfold Q1a.q at h
 split at h
 ·cases h; rfl
 ·cases h
def Q1a.C {R:Type} (n:Nat) (f:FuncId) (xs:List AV):(AV→Option R)→Option R:=
 bif Nat.beq f 113 then Q0p.via n xs else fun _=>none
theorem Q1a.tells {R:Type} (n:Nat):Tells (R:=R) Tryz.prog (Q1a.C n):=fun _ xs=>tells_at (Q0p.tells1 n xs) (Tells1.none)
def Q1a.cut (r:Nat):Option Keep:=match r with  | _=>none
def Q1a.e (n:Nat) (a0:List AV) (a1:Bool) (a2 a3:ByteArray) (a4:Bool) (a5 a6:ByteArray) (a7:Bool) (a8:Int) (a9 a10 a11 a12 a13 a14 a15:List AV):Option Q1a.T:=
 let y1:Bool:=((a0.length:Nat):Int) != 2
 bif y1 then (some (false,a1,a2,a3,a4,a5,a6,a7,a8,a9,a10,a11,a12,a13,a14,a15)) else (bif decide ((1:Int) < (a0.length:Nat)) then (withCons ((a0.getD 1 .undef).cells) fun h2 r3=>
 withStr h2 fun s4=>
 (Q0p.F n [vs s4]).bind fun p5=>
 bif !p5 then (some (false,a1,a2,a3,a4,a5,a6,a7,a8,a9,a10,a11,a12,a13,a14,a15)) else (bif a1 then (bif decide ((1:Int) < (a0.length:Nat)) then (withCons ((a0.getD 1 .undef).cells) fun h6 r7=>
 withStr h6 fun s8=>
 some (true,a1,a2,a3,a4,a5,s8,a7,a8,a9,a10,a11,a12,a13,a14,a15)) else none) else (bif decide ((1:Int) < (a0.length:Nat)) then (withCons ((a0.getD 1 .undef).cells) fun h9 r10=>
 withStr h9 fun s11=>
 some (true,a1,a2,s11,a4,a5,a6,a7,a8,a9,a10,a11,a12,a13,a14,a15)) else none))) else none)
def Q1a.E (n:Nat):Q1a.A→Option Q1a.T:=fun (a0,a1,a2,a3,a4,a5,a6,a7,a8,a9,a10,a11,a12,a13,a14,a15)=>Q1a.e n a0 a1 a2 a3 a4 a5 a6 a7 a8 a9 a10 a11 a12 a13 a14 a15
def Q1a.F (n:Nat) (a0:List AV) (a1:Bool) (a2 a3:ByteArray) (a4:Bool) (a5 a6:ByteArray) (a7:Bool) (a8:Int) (a9 a10 a11 a12 a13 a14 a15:List AV):Option Q1a.T:=Q1a.e n a0 a1 a2 a3 a4 a5 a6 a7 a8 a9 a10 a11 a12 a13 a14 a15
def Q1a.FA (n:Nat):Q1a.A→Option Q1a.T:=Q1a.E n
def Q1a.nils:List (Nat × Nat × Fl × Nat):=[]
theorem Q1a.hands (n:Nat):∀ a p,Q1a.FA n a=some p→HandsMIn Tryz.prog 107 (Q1a.i a) (Q1a.b a) (Q1a.y p) (Q1a.w p):=
 pfM_hands (G:=Gk 1) (C:=Q1a.C n) (cut:=Q1a.cut) (Z:=Empty) (t:=nofun) (s:=nofun) (nils:=Q1a.nils) (e:=fun _=>Q1a.E n) (r:=fun _ z=>nomatch z) (n:=n) (cfg.kb 1) mixed globs Q1a.qi (fun a=>by kernel_rfl) (Q1a.tells n) Tryz.func107 (by kernel_rfl) (by kernel_rfl) (fun rec a=>by kernel_rfl) (fun rec z=>nomatch z)
def Q1a.via {R:Type} (n:Nat):List AV→(AV→Option R)→Option R:=viaK (Q1a.FA n) Q1a.o Q1a.p
theorem Q1a.tells1 {R:Type} (n:Nat) (xs:List AV):Tells1 (R:=R) Tryz.prog 107 xs (Q1a.via n xs):=tells_viaM (fun _=>rfl) Q1a.oi (Q1a.hands n) xs
end Go.Proofs.YtmpglmcjoelciaaGreatDoor.Ev
namespace Go.Proofs.YtmpglmcjoelciaaGreatDoor.Ev
open Go Go.Proofs Go.Proofs.Ev
set_option linter.unusedVariables false
set_option maxRecDepth 100000
abbrev Q18.A:=List AV × Bool × ByteArray × ByteArray × Bool × ByteArray × ByteArray × Bool × Int × List AV × List AV × List AV × List AV × List AV × List AV × List AV
abbrev Q18.T:=Bool × Bool × ByteArray × ByteArray × Bool × ByteArray × ByteArray × Bool × Int × List AV × List AV × List AV × List AV × List AV × List AV × List AV
def Q18.i:Q18.A→List AV:=fun (a0,a1,a2,a3,a4,a5,a6,a7,a8,a9,a10,a11,a12,a13,a14,a15)=>[.ptr 0 0,.sl ⟨true,9⟩ 1 a0]
def Q18.b:Q18.A→List AV:=fun (a0,a1,a2,a3,a4,a5,a6,a7,a8,a9,a10,a11,a12,a13,a14,a15)=>[.fn 115 [vb a1,vs a2,vs a3,.own 1 0 none,.own 2 0 none,vb a4,vs a5,vs a6,.own 3 0 none,.own 4 0 none,.own 5 0 none,.own 6 0 none,vb a7,.own 7 0 none,vi a8],.fr ⟨true,125⟩ 4 a9,.fr ⟨true,111⟩ 2 a10,.fr ⟨true,9⟩ 1 a11,.fr ⟨true,95⟩ 3 a12,.fr ⟨true,97⟩ 4 a13,.fr ⟨true,111⟩ 2 a14,.fr ⟨false,100⟩ 2 a15]
def Q18.o (xs:List AV):Option Q18.A:=match xs with | [.ptr 0 0,.sl ⟨true,9⟩ 1 a0,.tup [.fn 115 [.v (.bool a1),.v (.string a2),.v (.string a3),.own 1 0 none,.own 2 0 none,.v (.bool a4),.v (.string a5),.v (.string a6),.own 3 0 none,.own 4 0 none,.own 5 0 none,.own 6 0 none,.v (.bool a7),.own 7 0 none,.v (.int .i64 a8)],.fr ⟨true,125⟩ 4 a9,.fr ⟨true,111⟩ 2 a10,.fr ⟨true,9⟩ 1 a11,.fr ⟨true,95⟩ 3 a12,.fr ⟨true,97⟩ 4 a13,.fr ⟨true,111⟩ 2 a14,.fr ⟨false,100⟩ 2 a15]]=>some (a0,a1,a2,a3,a4,a5,a6,a7,a8,a9,a10,a11,a12,a13,a14,a15) | _=>none
theorem Q18.oi:∀ xs a,Q18.o xs=some a→xs=Q18.i a++[.tup (Q18.b a)]:=by
 intro xs a h
 unfold Q18.o at h
 split at h
 ·cases h; rfl
 ·cases h
def Q18.y (p:Q18.T):AV:=vb p.1
def Q18.w (p:Q18.T):List AV:=[.fn 115 [vb p.2.1,vs p.2.2.1,vs p.2.2.2.1,.own 1 0 none,.own 2 0 none,vb p.2.2.2.2.1,vs p.2.2.2.2.2.1,vs p.2.2.2.2.2.2.1,.own 3 0 none,.own 4 0 none,.own 5 0 none,.own 6 0 none,vb p.2.2.2.2.2.2.2.1,.own 7 0 none,vi p.2.2.2.2.2.2.2.2.1],.fr ⟨true,125⟩ 4 p.2.2.2.2.2.2.2.2.2.1,.fr ⟨true,111⟩ 2 p.2.2.2.2.2.2.2.2.2.2.1,.fr ⟨true,9⟩ 1 p.2.2.2.2.2.2.2.2.2.2.2.1,.fr ⟨true,95⟩ 3 p.2.2.2.2.2.2.2.2.2.2.2.2.1,.fr ⟨true,97⟩ 4 p.2.2.2.2.2.2.2.2.2.2.2.2.2.1,.fr ⟨true,111⟩ 2 p.2.2.2.2.2.2.2.2.2.2.2.2.2.2.1,.fr ⟨false,100⟩ 2 p.2.2.2.2.2.2.2.2.2.2.2.2.2.2.2]
def Q18.p (p:Q18.T):AV:=.tup [Q18.y p,.tup (Q18.w p)]
def Q18.q (x:AV):Option Q18.T:=match x with | .tup [.v (.bool p0),.tup [.fn 115 [.v (.bool p1),.v (.string p2),.v (.string p3),.own 1 0 none,.own 2 0 none,.v (.bool p4),.v (.string p5),.v (.string p6),.own 3 0 none,.own 4 0 none,.own 5 0 none,.own 6 0 none,.v (.bool p7),.own 7 0 none,.v (.int .i64 p8)],.fr ⟨true,125⟩ 4 p9,.fr ⟨true,111⟩ 2 p10,.fr ⟨true,9⟩ 1 p11,.fr ⟨true,95⟩ 3 p12,.fr ⟨true,97⟩ 4 p13,.fr ⟨true,111⟩ 2 p14,.fr ⟨false,100⟩ 2 p15]]=>some (p0,p1,p2,p3,p4,p5,p6,p7,p8,p9,p10,p11,p12,p13,p14,p15) | _=>none
theorem Q18.qi:∀ x p,Q18.q x=some p→x=Q18.p p:=by
 intro x p h
 unfold Q18.q at h
 split at h
 ·cases h; rfl
 ·cases h
inductive Q18.Z where
 | z2 (z1:Bool) (z2 z3:ByteArray) (z4:Bool) (z5 z6:ByteArray) (z7:Bool) (z8:Int) (z9 z10 z11 z12 z13 z14 z15:List AV)
def Q18.C {R:Type} (n:Nat) (f:FuncId) (xs:List AV):(AV→Option R)→Option R:=
 bif Nat.beq f 113 then Q0p.via n xs else fun _=>none
theorem Q18.tells {R:Type} (n:Nat):Tells (R:=R) Tryz.prog (Q18.C n):=fun _ xs=>tells_at (Q0p.tells1 n xs) (Tells1.none)
def Q18.cut (r:Nat):Option Keep:=match r with | 2=>some ⟨[],[]⟩ | _=>none
def Q18.t (z:Q18.Z):List Item:=(todoOf (match z with | .z2 _ _ _ _ _ _ _ _ _ _ _ _ _ _ _=>2) 1000 [.code (Tryz.f108.body.getD .skip)]).getD []
def Q18.s:Q18.Z→St
 | .z2 z1 z2 z3 z4 z5 z6 z7 z8 z9 z10 z11 z12 z13 z14 z15=>⟨spr 40 0 [],Mem.ofList [.box 115 [vb z1,vs z2,vs z3,.own 1 0 none,.own 2 0 none,vb z4,vs z5,vs z6,.own 3 0 none,.own 4 0 none,.own 5 0 none,.own 6 0 none,vb z7,.own 7 0 none,vi z8],.row ⟨true,125⟩ 4 z9,.row ⟨true,111⟩ 2 z10,.row ⟨true,9⟩ 1 z11,.row ⟨true,95⟩ 3 z12,.row ⟨true,97⟩ 4 z13,.row ⟨true,111⟩ 2 z14,.row ⟨false,100⟩ 2 z15],8⟩
def Q18.r2 (n:Nat) (c:Q18.Z→Option Q18.T) (z1:Bool) (z2 z3:ByteArray) (z4:Bool) (z5 z6:ByteArray) (z7:Bool) (z8:Int) (z9 z10 z11 z12 z13 z14 z15:List AV):Option Q18.T:=
 some (false,z1,z2,z3,z4,z5,z6,z7,z8,z9,z10,z11,z12,z13,z14,z15)
def Q18.r (n:Nat) (c:Q18.Z→Option Q18.T):Q18.Z→Option Q18.T
 | .z2 z1 z2 z3 z4 z5 z6 z7 z8 z9 z10 z11 z12 z13 z14 z15=>Q18.r2 n c z1 z2 z3 z4 z5 z6 z7 z8 z9 z10 z11 z12 z13 z14 z15
def Q18.e (n:Nat) (c:Q18.Z→Option Q18.T) (a0:List AV) (a1:Bool) (a2 a3:ByteArray) (a4:Bool) (a5 a6:ByteArray) (a7:Bool) (a8:Int) (a9 a10 a11 a12 a13 a14 a15:List AV):Option Q18.T:=
 bif !a1 then (c (.z2 a1 a2 a3 a4 a5 a6 a7 a8 a9 a10 a11 a12 a13 a14 a15)) else (let y1:Bool:=((a0.length:Nat):Int) != 2
 bif y1 then (c (.z2 a1 a2 a3 a4 a5 a6 a7 a8 a9 a10 a11 a12 a13 a14 a15)) else (bif decide ((1:Int) < (a0.length:Nat)) then (withCons ((a0.getD 1 .undef).cells) fun h2 r3=>
 withStr h2 fun s4=>
 (Q0p.F n [vs s4]).bind fun p5=>
 bif !p5 then (c (.z2 a1 a2 a3 a4 a5 a6 a7 a8 a9 a10 a11 a12 a13 a14 a15)) else (bif decide ((1:Int) < (a0.length:Nat)) then (withCons ((a0.getD 1 .undef).cells) fun h6 r7=>
 withStr h6 fun s8=>
 bif decide (a11.length+[vs s8].length≤most) then (some (true,a1,a2,a3,a4,a5,a6,a7,a8,a9,a10,a11++[vs s8],a12,a13,a14,a15)) else none) else none)) else none))
def Q18.E (n:Nat) (c:Q18.Z→Option Q18.T):Q18.A→Option Q18.T:=fun (a0,a1,a2,a3,a4,a5,a6,a7,a8,a9,a10,a11,a12,a13,a14,a15)=>Q18.e n c a0 a1 a2 a3 a4 a5 a6 a7 a8 a9 a10 a11 a12 a13 a14 a15
def Q18.l (n:Nat):Nat→Q18.Z→Option Q18.T:=loopL (Q18.r n)
def Q18.F (n:Nat) (a0:List AV) (a1:Bool) (a2 a3:ByteArray) (a4:Bool) (a5 a6:ByteArray) (a7:Bool) (a8:Int) (a9 a10 a11 a12 a13 a14 a15:List AV):Option Q18.T:=Q18.e n (Q18.l n n) a0 a1 a2 a3 a4 a5 a6 a7 a8 a9 a10 a11 a12 a13 a14 a15
def Q18.FA (n:Nat):Q18.A→Option Q18.T:=Q18.E n (Q18.l n n)
def Q18.nils:List (Nat × Nat × Fl × Nat):=[]
theorem Q18.hands (n:Nat):∀ a p,Q18.FA n a=some p→HandsMIn Tryz.prog 108 (Q18.i a) (Q18.b a) (Q18.y p) (Q18.w p):=
 pfM_hands (G:=Gk 1) (C:=Q18.C n) (cut:=Q18.cut) (t:=Q18.t) (s:=Q18.s) (nils:=Q18.nils) (e:=Q18.E n) (r:=Q18.r n) (n:=n) (cfg.kb 1) mixed globs Q18.qi (fun a=>by kernel_rfl) (Q18.tells n) Tryz.func108 (by kernel_rfl) (by kernel_rfl) (fun rec a=>by kernel_rfl) (fun rec z=>by cases z <;> kernel_rfl)
def Q18.via {R:Type} (n:Nat):List AV→(AV→Option R)→Option R:=viaK (Q18.FA n) Q18.o Q18.p
theorem Q18.tells1 {R:Type} (n:Nat) (xs:List AV):Tells1 (R:=R) Tryz.prog 108 xs (Q18.via n xs):=tells_viaM (fun _=>rfl) Q18.oi (Q18.hands n) xs
end Go.Proofs.YtmpglmcjoelciaaGreatDoor.Ev
namespace Go.Proofs.YtmpglmcjoelciaaGreatDoor.Ev
open Go Go.Proofs Go.Proofs.Ev
set_option linter.unusedVariables false
set_option maxRecDepth 100000
abbrev Q40.A:=ByteArray × Int
abbrev Q40.T:=Bool
def Q40.i:Q40.A→List AV:=fun (a0,a1)=>[vs a0,vi a1]
def Q40.o (xs:List AV):Option Q40.A:=match xs with | [.v (.string a0),.v (.int .i64 a1)]=>some (a0,a1) | _=>none
theorem Q40.oi:∀ xs a,Q40.o xs=some a→xs=Q40.i a:=by
 intro xs a h
 unfold Q40.o at h
 split at h
 ·cases h; rfl
 ·cases h
def Q40.p (p:Q40.T):AV:=vb p
def Q40.q (x:AV):Option Q40.T:=match x with | .v (.bool p0)=>some p0 | _=>none
theorem Q40.qi:∀ x p,Q40.q x=some p→x=Q40.p p:=by
 intro x p h
 unfold Q40.q at h
 split at h
 ·cases h; rfl
 ·cases h
def Q40.C {R:Type} (n:Nat) (f:FuncId) (xs:List AV):(AV→Option R)→Option R:=
 fun _=>none
theorem Q40.tells {R:Type} (n:Nat):Tells (R:=R) Tryz.prog (Q40.C n):=fun _ xs=>Tells1.none
def Q40.cut (r:Nat):Option Keep:=match r with  | _=>none
def Q40.e (n:Nat) (a0:ByteArray) (a1:Int):Option Bool:=
 let y1:Bool:=decide (a1 < ((a0.size:Nat):Int))
 bif y1 then (bif decide ((0:Int)≤a1)&&decide (a1 < ((a0.size:Nat):Int)) then (let y2:Int:=(((a0.data.getD ((a1).toNat) 0).toNat:Nat):Int)
 bif decide ((48:Int)≤y2) then (bif decide ((0:Int)≤a1)&&decide (a1 < ((a0.size:Nat):Int)) then (let y3:Int:=(((a0.data.getD ((a1).toNat) 0).toNat:Nat):Int)
 some (decide (y3≤57))) else none) else (some false)) else none) else (some false)
def Q40.E (n:Nat):Q40.A→Option Q40.T:=fun (a0,a1)=>Q40.e n a0 a1
def Q40.F (n:Nat) (a0:ByteArray) (a1:Int):Option Bool:=Q40.e n a0 a1
def Q40.FA (n:Nat):Q40.A→Option Q40.T:=Q40.E n
theorem Q40.hands (n:Nat):∀ a p,Q40.FA n a=some p→HandsIn Tryz.prog 214 (Q40.i a) (Q40.p p):=
 pf_hands (C:=Q40.C n) (cut:=Q40.cut) (Z:=Empty) (t:=nofun) (s:=nofun) (e:=fun _=>Q40.E n) (r:=fun _ z=>nomatch z) (n:=n) cfg mixed globs rfl Q40.qi (Q40.tells n) Tryz.func214 (by kernel_rfl) (by kernel_rfl) (fun rec a=>by kernel_rfl) (fun rec z=>nomatch z)
def Q40.via {R:Type} (n:Nat):List AV→(AV→Option R)→Option R:=viaK (Q40.FA n) Q40.o Q40.p
theorem Q40.tells1 {R:Type} (n:Nat) (xs:List AV):Tells1 (R:=R) Tryz.prog 214 xs (Q40.via n xs):=tells_via Q40.oi (fun a=>by kernel_rfl) (Q40.hands n) xs
end Go.Proofs.YtmpglmcjoelciaaGreatDoor.Ev
namespace Go.Proofs.YtmpglmcjoelciaaGreatDoor.Ev
open Go Go.Proofs Go.Proofs.Ev
set_option linter.unusedVariables false
set_option maxRecDepth 100000
abbrev Q43.A:=ByteArray × Int
abbrev Q43.T:=Int × Int
def Q43.i:Q43.A→List AV:=fun (a0,a1)=>[vs a0,vi a1]
def Q43.o (xs:List AV):Option Q43.A:=match xs with | [.v (.string a0),.v (.int .i64 a1)]=>some (a0,a1) | _=>none
theorem Q43.oi:∀ xs a,Q43.o xs=some a→xs=Q43.i a:=by
 intro xs a h
 unfold Q43.o at h
 split at h
 ·cases h; rfl
 ·cases h
def Q43.p (p:Q43.T):AV:=.tup [vi p.1,vi p.2]
def Q43.q (x:AV):Option Q43.T:=match x with | .tup [.v (.int .i64 p0),.v (.int .i64 p1)]=>some (p0,p1) | _=>none
theorem Q43.qi:∀ x p,Q43.q x=some p→x=Q43.p p:=by
 intro x p h
 unfold Q43.q at h
 split at h
 ·cases h; rfl
 ·cases h
inductive Q43.Z where
 | z5 (z1:ByteArray) (z2:Int)
def Q43.C {R:Type} (n:Nat) (f:FuncId) (xs:List AV):(AV→Option R)→Option R:=
 bif Nat.beq f 214 then Q40.via n xs else fun _=>none
theorem Q43.tells {R:Type} (n:Nat):Tells (R:=R) Tryz.prog (Q43.C n):=fun _ xs=>tells_at (Q40.tells1 n xs) (Tells1.none)
def Q43.cut (r:Nat):Option Keep:=match r with | 5=>some ⟨[0,1],[]⟩ | _=>none
def Q43.t (z:Q43.Z):List Item:=(todoOf (match z with | .z5 _ _=>5) 1000 [.code (Tryz.f201.body.getD .skip)]).getD []
def Q43.s:Q43.Z→St
 | .z5 z1 z2=>⟨spr 22 0 [(0,vs z1),(1,vi z2)],Mem.ofList [],0⟩
def Q43.r5 (n:Nat) (c:Q43.Z→Option (Int × Int)) (z1:ByteArray) (z2:Int):Option (Int × Int):=
 (Q40.F n z1 z2).bind fun p3=>
 bif p3 then (c (.z5 z1 (IntKind.i64.wrap (z2+1)))) else (some (z2,0))
def Q43.r (n:Nat) (c:Q43.Z→Option (Int × Int)):Q43.Z→Option (Int × Int)
 | .z5 z1 z2=>Q43.r5 n c z1 z2
def Q43.e (n:Nat) (c:Q43.Z→Option (Int × Int)) (a0:ByteArray) (a1:Int):Option (Int × Int):=
 (Q40.F n a0 a1).bind fun p1=>
 bif !p1 then (let y2:Bool:=decide (a1 < ((a0.size:Nat):Int))
 bif y2 then (some (a1,8)) else (some (a1,9))) else (c (.z5 a0 a1))
def Q43.E (n:Nat) (c:Q43.Z→Option (Int × Int)):Q43.A→Option Q43.T:=fun (a0,a1)=>Q43.e n c a0 a1
def Q43.l (n:Nat):Nat→Q43.Z→Option (Int × Int):=loopL (Q43.r n)
def Q43.F (n:Nat) (a0:ByteArray) (a1:Int):Option (Int × Int):=Q43.e n (Q43.l n n) a0 a1
def Q43.FA (n:Nat):Q43.A→Option Q43.T:=Q43.E n (Q43.l n n)
theorem Q43.hands (n:Nat):∀ a p,Q43.FA n a=some p→HandsIn Tryz.prog 201 (Q43.i a) (Q43.p p):=
 pf_hands (C:=Q43.C n) (cut:=Q43.cut) (t:=Q43.t) (s:=Q43.s) (e:=Q43.E n) (r:=Q43.r n) (n:=n) cfg mixed globs rfl Q43.qi (Q43.tells n) Tryz.func201 (by kernel_rfl) (by kernel_rfl) (fun rec a=>by kernel_rfl) (fun rec z=>by cases z <;> kernel_rfl)
def Q43.via {R:Type} (n:Nat):List AV→(AV→Option R)→Option R:=viaK (Q43.FA n) Q43.o Q43.p
theorem Q43.tells1 {R:Type} (n:Nat) (xs:List AV):Tells1 (R:=R) Tryz.prog 201 xs (Q43.via n xs):=tells_via Q43.oi (fun a=>by kernel_rfl) (Q43.hands n) xs
end Go.Proofs.YtmpglmcjoelciaaGreatDoor.Ev
namespace Go.Proofs.YtmpglmcjoelciaaGreatDoor.Ev
open Go Go.Proofs Go.Proofs.Ev
set_option linter.unusedVariables false
set_option maxRecDepth 100000
abbrev Q41.A:=ByteArray
abbrev Q41.T:=Int × Int × Int
def Q41.i:Q41.A→List AV:=fun a0=>[vs a0]
def Q41.o (xs:List AV):Option Q41.A:=match xs with | [.v (.string a0)]=>some a0 | _=>none
theorem Q41.oi:∀ xs a,Q41.o xs=some a→xs=Q41.i a:=by
 intro xs a h
 unfold Q41.o at h
 split at h
 ·cases h; rfl
 ·cases h
def Q41.p (p:Q41.T):AV:=.tup [vi p.1,vi p.2.1,vi p.2.2]
def Q41.q (x:AV):Option Q41.T:=match x with | .tup [.v (.int .i64 p0),.v (.int .i64 p1),.v (.int .i64 p2)]=>some (p0,p1,p2) | _=>none
theorem Q41.qi:∀ x p,Q41.q x=some p→x=Q41.p p:=by
 intro x p h
 unfold Q41.q at h
 split at h
 ·cases h; rfl
 ·cases h
inductive Q41.Z where
 | z8 (z1:ByteArray) (z2 z3:Int)
 | z15 (z1 z2 z3 z4:Int)
def Q41.C {R:Type} (n:Nat) (f:FuncId) (xs:List AV):(AV→Option R)→Option R:=
 bif Nat.beq f 201 then Q43.via n xs else fun _=>none
theorem Q41.tells {R:Type} (n:Nat):Tells (R:=R) Tryz.prog (Q41.C n):=fun _ xs=>tells_at (Q43.tells1 n xs) (Tells1.none)
def Q41.cut (r:Nat):Option Keep:=match r with | 8=>some ⟨[0,2,3],[]⟩ | 15=>some ⟨[2,3,4,5],[]⟩ | _=>none
def Q41.t (z:Q41.Z):List Item:=(todoOf (match z with | .z8 _ _ _=>8 | .z15 _ _ _ _=>15) 1000 [.code (Tryz.f183.body.getD .skip)]).getD []
def Q41.s:Q41.Z→St
 | .z8 z1 z2 z3=>⟨spr 63 0 [(0,vs z1),(2,vi z2),(3,vi z3)],Mem.ofList [],0⟩
 | .z15 z1 z2 z3 z4=>⟨spr 63 0 [(2,vi z1),(3,vi z2),(4,vi z3),(5,vi z4)],Mem.ofList [],0⟩
def Q41.r8 (n:Nat) (c:Q41.Z→Option (Int × Int × Int)) (z1:ByteArray) (z2 z3:Int):Option (Int × Int × Int):=
 let y10:Bool:=z3==((z1.size:Nat):Int)
 bif y10 then (some (z2,z3,0)) else (bif decide ((0:Int)≤z3)&&decide (z3 < ((z1.size:Nat):Int)) then (let y11:Int:=(((z1.data.getD ((z3).toNat) 0).toNat:Nat):Int)
 bif y11 != 46 then (some (0,z3,8)) else ((Q43.F n z1 (IntKind.i64.wrap (z3+1))).bind fun p12=>
 bif p12.2==0 then (let y13:Bool:=decide (p12.1 < ((z1.size:Nat):Int))
 bif y13 then (c (.z15 z2 z3 8 p12.1)) else (c (.z15 z2 z3 p12.2 p12.1))) else (c (.z15 z2 z3 p12.2 p12.1)))) else none)
def Q41.r15 (n:Nat) (c:Q41.Z→Option (Int × Int × Int)) (z1 z2 z3 z4:Int):Option (Int × Int × Int):=
 bif z3 != 0 then (some (0,z4,z3)) else (some (z1,z2,0))
def Q41.r (n:Nat) (c:Q41.Z→Option (Int × Int × Int)):Q41.Z→Option (Int × Int × Int)
 | .z8 z1 z2 z3=>Q41.r8 n c z1 z2 z3
 | .z15 z1 z2 z3 z4=>Q41.r15 n c z1 z2 z3 z4
def Q41.e (n:Nat) (c:Q41.Z→Option (Int × Int × Int)) (a0:ByteArray):Option (Int × Int × Int):=
 bif decide ((0:Int) < (a0.size:Nat)) then (let y1:Int:=(((a0.data.getD 0 0).toNat:Nat):Int)
 bif y1==45 then ((Q43.F n a0 1).bind fun p2=>
 bif p2.2 != 0 then (some (0,p2.1,p2.2)) else (bif decide ((1:Int) < (a0.size:Nat)) then (let y3:Int:=(((a0.data.getD 1 0).toNat:Nat):Int)
 bif y3==48 then (let y4:Int:=IntKind.i64.wrap ((1:Int)+1)
 bif decide (p2.1 > y4) then (let y5:Int:=IntKind.i64.wrap ((1:Int)+1)
 some (0,y5,8)) else (c (.z8 a0 1 p2.1))) else (c (.z8 a0 1 p2.1))) else none)) else ((Q43.F n a0 0).bind fun p6=>
 bif p6.2 != 0 then (some (0,p6.1,p6.2)) else (bif decide ((0:Int) < (a0.size:Nat)) then (let y7:Int:=(((a0.data.getD 0 0).toNat:Nat):Int)
 bif y7==48 then (let y8:Int:=IntKind.i64.wrap ((0:Int)+1)
 bif decide (p6.1 > y8) then (let y9:Int:=IntKind.i64.wrap ((0:Int)+1)
 some (0,y9,8)) else (c (.z8 a0 0 p6.1))) else (c (.z8 a0 0 p6.1))) else none))) else none
def Q41.E (n:Nat) (c:Q41.Z→Option (Int × Int × Int)):Q41.A→Option Q41.T:=fun a0=>Q41.e n c a0
def Q41.l (n:Nat):Nat→Q41.Z→Option (Int × Int × Int):=loopL (Q41.r n)
def Q41.F (n:Nat) (a0:ByteArray):Option (Int × Int × Int):=Q41.e n (Q41.l n n) a0
def Q41.FA (n:Nat):Q41.A→Option Q41.T:=Q41.E n (Q41.l n n)
theorem Q41.hands (n:Nat):∀ a p,Q41.FA n a=some p→HandsIn Tryz.prog 183 (Q41.i a) (Q41.p p):=
 pf_hands (C:=Q41.C n) (cut:=Q41.cut) (t:=Q41.t) (s:=Q41.s) (e:=Q41.E n) (r:=Q41.r n) (n:=n) cfg mixed globs rfl Q41.qi (Q41.tells n) Tryz.func183 (by kernel_rfl) (by kernel_rfl) (fun rec a=>by kernel_rfl) (fun rec z=>by cases z <;> kernel_rfl)
def Q41.via {R:Type} (n:Nat):List AV→(AV→Option R)→Option R:=viaK (Q41.FA n) Q41.o Q41.p
theorem Q41.tells1 {R:Type} (n:Nat) (xs:List AV):Tells1 (R:=R) Tryz.prog 183 xs (Q41.via n xs):=tells_via Q41.oi (fun a=>by kernel_rfl) (Q41.hands n) xs
end Go.Proofs.YtmpglmcjoelciaaGreatDoor.Ev
namespace Go.Proofs.YtmpglmcjoelciaaGreatDoor.Ev
open Go Go.Proofs Go.Proofs.Ev
set_option linter.unusedVariables false
set_option maxRecDepth 100000
abbrev Q3v.A:=ByteArray
abbrev Q3v.T:=Int × Int × Int × Int
def Q3v.i:Q3v.A→List AV:=fun a0=>[vs a0]
def Q3v.o (xs:List AV):Option Q3v.A:=match xs with | [.v (.string a0)]=>some a0 | _=>none
theorem Q3v.oi:∀ xs a,Q3v.o xs=some a→xs=Q3v.i a:=by
 intro xs a h
 unfold Q3v.o at h
 split at h
 ·cases h; rfl
 ·cases h
def Q3v.p (p:Q3v.T):AV:=.tup [AV.agg [vi p.1,vi p.2.1],vi p.2.2.1,vi p.2.2.2]
def Q3v.q (x:AV):Option Q3v.T:=match x with | .tup [.agg [.v (.int .i64 p0),.v (.int .i64 p1)],.v (.int .i64 p2),.v (.int .i64 p3)]=>some (p0,p1,p2,p3) | _=>none
theorem Q3v.qi:∀ x p,Q3v.q x=some p→x=Q3v.p p:=by
 intro x p h
 unfold Q3v.q at h
 split at h
 ·cases h; rfl
 ·cases h
inductive Q3v.Z where
 | z13 (z1:ByteArray) (z2:Int) (z3:ByteArray) (z4 z5 z6 z7 z8:Int) (z9:List AV)
def Q3v.C {R:Type} (n:Nat) (f:FuncId) (xs:List AV):(AV→Option R)→Option R:=
 bif Nat.beq f 128 then Q3y.via n xs else bif Nat.beq f 129 then Q3x.via n xs else bif Nat.beq f 183 then Q41.via n xs else bif Nat.beq f 184 then Q4g.via n xs else bif Nat.beq f 185 then Q4k.via n xs else fun _=>none
theorem Q3v.tells {R:Type} (n:Nat):Tells (R:=R) Tryz.prog (Q3v.C n):=fun _ xs=>tells_at (Q3y.tells1 n xs) (tells_at (Q3x.tells1 n xs) (tells_at (Q41.tells1 n xs) (tells_at (Q4g.tells1 n xs) (tells_at (Q4k.tells1 n xs) (Tells1.none)))))
def Q3v.cut (r:Nat):Option Keep:=match r with | 13=>some ⟨[0,2,6,10,13,57,58,59],[]⟩ | _=>none
def Q3v.t (z:Q3v.Z):List Item:=(todoOf (match z with | .z13 _ _ _ _ _ _ _ _ _=>13) 1000 [.code (Tryz.f166.body.getD .skip)]).getD []
def Q3v.s:Q3v.Z→St
 | .z13 z1 z2 z3 z4 z5 z6 z7 z8 z9=>⟨spr 80 0 [(0,vs z1),(2,.ptr 0 0),(6,vi z2),(10,vs z3),(13,vi z4),(57,.own 1 0 none),(58,vi z5),(59,vi z6)],Mem.ofList [.box 191 [vi z7,vi z8],.row ⟨true,5⟩ 1 z9],2⟩
def Q3v.r13 (n:Nat) (c:Q3v.Z→Option (Int × Int × Int × Int)) (z1:ByteArray) (z2:Int) (z3:ByteArray) (z4 z5 z6 z7 z8:Int) (z9:List AV):Option (Int × Int × Int × Int):=
 bif decide (z6 < z5) then (bif decide ((0:Int)≤z6)&&decide (z6 < ((z9.length:Nat):Int)) then (withCons ((z9.getD ((z6).toNat) .undef).cells) fun h12 r13=>
 withInt .u8 h12 fun x14=>
 let y15:Int:=IntKind.i64.wrap (IntKind.u8.wrap (x14 - 48))
 let y16:Int:=IntKind.i64.wrap ((IntKind.i64.wrap (z4*10))+y15)
 c (.z13 z1 z2 z3 y16 z5 (IntKind.i64.wrap (z6+1)) z7 z8 z9)) else none) else (bif z2==1 then (some (IntKind.i64.wrap (0 - z4),((z3.size:Nat):Int),((z1.size:Nat):Int),0)) else (some (z4,((z3.size:Nat):Int),((z1.size:Nat):Int),0)))
def Q3v.r (n:Nat) (c:Q3v.Z→Option (Int × Int × Int × Int)):Q3v.Z→Option (Int × Int × Int × Int)
 | .z13 z1 z2 z3 z4 z5 z6 z7 z8 z9=>Q3v.r13 n c z1 z2 z3 z4 z5 z6 z7 z8 z9
def Q3v.e (n:Nat) (c:Q3v.Z→Option (Int × Int × Int × Int)) (a0:ByteArray):Option (Int × Int × Int × Int):=
 let y1:Bool:=decide (((a0.size:Nat):Int) > 40)
 (Q3x.F n y1 2).bind fun p2=>
 let y3:Bool:=a0.toList==(⟨#[]⟩ : ByteArray).toList
 (Q3x.F n y3 1).bind fun p4=>
 (Q3y.F n [vi p2,vi p4]).bind fun p5=>
 bif p5 != 0 then (some (0,0,0,p5)) else ((Q41.F n a0).bind fun p6=>
 bif p6.2.2 != 0 then (some (0,0,p6.2.1,p6.2.2)) else (bif decide ((0:Int)≤p6.1)&&decide ((p6.1:Int)≤((a0.size:Nat):Int)) then (let y7:ByteArray:=a0.extract (p6.1).toNat a0.size
 (Q4g.F n y7 (⟨#[46]⟩ : ByteArray)).bind fun p8=>
 (Q4k.F n p8.1 (⟨#[48]⟩ : ByteArray)).bind fun p9=>
 chk (decide (p9.size+p8.2.1.size≤9223372036854775807)) (let y10:Bool:=decide ((((p9++p8.2.1).size:Nat):Int) > 15)
 bif y10 then (some (0,0,0,19)) else (let y11:List AV:=(p9++p8.2.1).toList.map fun b=>vu b.toNat
 c (.z13 a0 p6.1 p8.2.1 0 ((y11.length:Nat):Int) 0 0 0 y11)))) else none))
def Q3v.E (n:Nat) (c:Q3v.Z→Option (Int × Int × Int × Int)):Q3v.A→Option Q3v.T:=fun a0=>Q3v.e n c a0
def Q3v.l (n:Nat):Nat→Q3v.Z→Option (Int × Int × Int × Int):=loopL (Q3v.r n)
def Q3v.F (n:Nat) (a0:ByteArray):Option (Int × Int × Int × Int):=Q3v.e n (Q3v.l n n) a0
def Q3v.FA (n:Nat):Q3v.A→Option Q3v.T:=Q3v.E n (Q3v.l n n)
theorem Q3v.hands (n:Nat):∀ a p,Q3v.FA n a=some p→HandsIn Tryz.prog 166 (Q3v.i a) (Q3v.p p):=
 pf_hands (C:=Q3v.C n) (cut:=Q3v.cut) (t:=Q3v.t) (s:=Q3v.s) (e:=Q3v.E n) (r:=Q3v.r n) (n:=n) cfg mixed globs rfl Q3v.qi (Q3v.tells n) Tryz.func166 (by kernel_rfl) (by kernel_rfl) (fun rec a=>by kernel_rfl) (fun rec z=>by cases z <;> kernel_rfl)
def Q3v.via {R:Type} (n:Nat):List AV→(AV→Option R)→Option R:=viaK (Q3v.FA n) Q3v.o Q3v.p
theorem Q3v.tells1 {R:Type} (n:Nat) (xs:List AV):Tells1 (R:=R) Tryz.prog 166 xs (Q3v.via n xs):=tells_via Q3v.oi (fun a=>by kernel_rfl) (Q3v.hands n) xs
end Go.Proofs.YtmpglmcjoelciaaGreatDoor.Ev
namespace Go.Proofs.YtmpglmcjoelciaaGreatDoor.Ev
open Go Go.Proofs Go.Proofs.Ev
set_option linter.unusedVariables false
set_option maxRecDepth 100000
abbrev Q1m.A:=ByteArray
abbrev Q1m.T:=Int × Bool
def Q1m.i:Q1m.A→List AV:=fun a0=>[vs a0]
def Q1m.o (xs:List AV):Option Q1m.A:=match xs with | [.v (.string a0)]=>some a0 | _=>none
theorem Q1m.oi:∀ xs a,Q1m.o xs=some a→xs=Q1m.i a:=by
 intro xs a h
 unfold Q1m.o at h
 split at h
 ·cases h; rfl
 ·cases h
def Q1m.p (p:Q1m.T):AV:=.tup [vi p.1,vb p.2]
def Q1m.q (x:AV):Option Q1m.T:=match x with | .tup [.v (.int .i64 p0),.v (.bool p1)]=>some (p0,p1) | _=>none
theorem Q1m.qi:∀ x p,Q1m.q x=some p→x=Q1m.p p:=by
 intro x p h
 unfold Q1m.q at h
 split at h
 ·cases h; rfl
 ·cases h
def Q1m.C {R:Type} (n:Nat) (f:FuncId) (xs:List AV):(AV→Option R)→Option R:=
 bif Nat.beq f 98 then Q4f.via n xs else bif Nat.beq f 166 then Q3v.via n xs else fun _=>none
theorem Q1m.tells {R:Type} (n:Nat):Tells (R:=R) Tryz.prog (Q1m.C n):=fun _ xs=>tells_at (Q4f.tells1 n xs) (tells_at (Q3v.tells1 n xs) (Tells1.none))
def Q1m.cut (r:Nat):Option Keep:=match r with  | _=>none
def Q1m.e (n:Nat) (a0:ByteArray):Option (Int × Bool):=
 (Q3v.F n a0).bind fun p1=>
 bif p1.2.2.2==0 then ((Q4f.F n a0 (⟨#[46]⟩ : ByteArray)).bind fun p2=>
 some (p1.1,!p2)) else (some (p1.1,false))
def Q1m.E (n:Nat):Q1m.A→Option Q1m.T:=fun a0=>Q1m.e n a0
def Q1m.F (n:Nat) (a0:ByteArray):Option (Int × Bool):=Q1m.e n a0
def Q1m.FA (n:Nat):Q1m.A→Option Q1m.T:=Q1m.E n
theorem Q1m.hands (n:Nat):∀ a p,Q1m.FA n a=some p→HandsIn Tryz.prog 147 (Q1m.i a) (Q1m.p p):=
 pf_hands (C:=Q1m.C n) (cut:=Q1m.cut) (Z:=Empty) (t:=nofun) (s:=nofun) (e:=fun _=>Q1m.E n) (r:=fun _ z=>nomatch z) (n:=n) cfg mixed globs rfl Q1m.qi (Q1m.tells n) Tryz.func147 (by kernel_rfl) (by kernel_rfl) (fun rec a=>by kernel_rfl) (fun rec z=>nomatch z)
def Q1m.via {R:Type} (n:Nat):List AV→(AV→Option R)→Option R:=viaK (Q1m.FA n) Q1m.o Q1m.p
theorem Q1m.tells1 {R:Type} (n:Nat) (xs:List AV):Tells1 (R:=R) Tryz.prog 147 xs (Q1m.via n xs):=tells_via Q1m.oi (fun a=>by kernel_rfl) (Q1m.hands n) xs
end Go.Proofs.YtmpglmcjoelciaaGreatDoor.Ev
namespace Go.Proofs.YtmpglmcjoelciaaGreatDoor.Ev
open Go Go.Proofs Go.Proofs.Ev
set_option linter.unusedVariables false
set_option maxRecDepth 100000
abbrev Q1c.A:=List AV × Bool × ByteArray × ByteArray × Bool × ByteArray × ByteArray × Bool × Int × List AV × List AV × List AV × List AV × List AV × List AV × List AV
abbrev Q1c.T:=Bool × Bool × ByteArray × ByteArray × Bool × ByteArray × ByteArray × Bool × Int × List AV × List AV × List AV × List AV × List AV × List AV × List AV
def Q1c.i:Q1c.A→List AV:=fun (a0,a1,a2,a3,a4,a5,a6,a7,a8,a9,a10,a11,a12,a13,a14,a15)=>[.ptr 0 0,.sl ⟨true,9⟩ 1 a0]
def Q1c.b:Q1c.A→List AV:=fun (a0,a1,a2,a3,a4,a5,a6,a7,a8,a9,a10,a11,a12,a13,a14,a15)=>[.fn 115 [vb a1,vs a2,vs a3,.own 1 0 none,.own 2 0 none,vb a4,vs a5,vs a6,.own 3 0 none,.own 4 0 none,.own 5 0 none,.own 6 0 none,vb a7,.own 7 0 none,vi a8],.fr ⟨true,125⟩ 4 a9,.fr ⟨true,111⟩ 2 a10,.fr ⟨true,9⟩ 1 a11,.fr ⟨true,95⟩ 3 a12,.fr ⟨true,97⟩ 4 a13,.fr ⟨true,111⟩ 2 a14,.fr ⟨false,100⟩ 2 a15]
def Q1c.o (xs:List AV):Option Q1c.A:=match xs with | [.ptr 0 0,.sl ⟨true,9⟩ 1 a0,.tup [.fn 115 [.v (.bool a1),.v (.string a2),.v (.string a3),.own 1 0 none,.own 2 0 none,.v (.bool a4),.v (.string a5),.v (.string a6),.own 3 0 none,.own 4 0 none,.own 5 0 none,.own 6 0 none,.v (.bool a7),.own 7 0 none,.v (.int .i64 a8)],.fr ⟨true,125⟩ 4 a9,.fr ⟨true,111⟩ 2 a10,.fr ⟨true,9⟩ 1 a11,.fr ⟨true,95⟩ 3 a12,.fr ⟨true,97⟩ 4 a13,.fr ⟨true,111⟩ 2 a14,.fr ⟨false,100⟩ 2 a15]]=>some (a0,a1,a2,a3,a4,a5,a6,a7,a8,a9,a10,a11,a12,a13,a14,a15) | _=>none
theorem Q1c.oi:∀ xs a,Q1c.o xs=some a→xs=Q1c.i a++[.tup (Q1c.b a)]:=by
 intro xs a h
 unfold Q1c.o at h
 split at h
 ·cases h; rfl
 ·cases h
def Q1c.y (p:Q1c.T):AV:=vb p.1
def Q1c.w (p:Q1c.T):List AV:=[.fn 115 [vb p.2.1,vs p.2.2.1,vs p.2.2.2.1,.own 1 0 none,.own 2 0 none,vb p.2.2.2.2.1,vs p.2.2.2.2.2.1,vs p.2.2.2.2.2.2.1,.own 3 0 none,.own 4 0 none,.own 5 0 none,.own 6 0 none,vb p.2.2.2.2.2.2.2.1,.own 7 0 none,vi p.2.2.2.2.2.2.2.2.1],.fr ⟨true,125⟩ 4 p.2.2.2.2.2.2.2.2.2.1,.fr ⟨true,111⟩ 2 p.2.2.2.2.2.2.2.2.2.2.1,.fr ⟨true,9⟩ 1 p.2.2.2.2.2.2.2.2.2.2.2.1,.fr ⟨true,95⟩ 3 p.2.2.2.2.2.2.2.2.2.2.2.2.1,.fr ⟨true,97⟩ 4 p.2.2.2.2.2.2.2.2.2.2.2.2.2.1,.fr ⟨true,111⟩ 2 p.2.2.2.2.2.2.2.2.2.2.2.2.2.2.1,.fr ⟨false,100⟩ 2 p.2.2.2.2.2.2.2.2.2.2.2.2.2.2.2]
def Q1c.p (p:Q1c.T):AV:=.tup [Q1c.y p,.tup (Q1c.w p)]
def Q1c.q (x:AV):Option Q1c.T:=match x with | .tup [.v (.bool p0),.tup [.fn 115 [.v (.bool p1),.v (.string p2),.v (.string p3),.own 1 0 none,.own 2 0 none,.v (.bool p4),.v (.string p5),.v (.string p6),.own 3 0 none,.own 4 0 none,.own 5 0 none,.own 6 0 none,.v (.bool p7),.own 7 0 none,.v (.int .i64 p8)],.fr ⟨true,125⟩ 4 p9,.fr ⟨true,111⟩ 2 p10,.fr ⟨true,9⟩ 1 p11,.fr ⟨true,95⟩ 3 p12,.fr ⟨true,97⟩ 4 p13,.fr ⟨true,111⟩ 2 p14,.fr ⟨false,100⟩ 2 p15]]=>some (p0,p1,p2,p3,p4,p5,p6,p7,p8,p9,p10,p11,p12,p13,p14,p15) | _=>none
theorem Q1c.qi:∀ x p,Q1c.q x=some p→x=Q1c.p p:=by
 intro x p h
 unfold Q1c.q at h
 split at h
 ·cases h; rfl
 ·cases h
inductive Q1c.Z where
 | z2 (z1:Bool) (z2 z3:ByteArray) (z4:Bool) (z5 z6:ByteArray) (z7:Bool) (z8:Int) (z9 z10 z11 z12 z13 z14 z15:List AV)
def Q1c.C {R:Type} (n:Nat) (f:FuncId) (xs:List AV):(AV→Option R)→Option R:=
 bif Nat.beq f 113 then Q0p.via n xs else bif Nat.beq f 147 then Q1m.via n xs else fun _=>none
theorem Q1c.tells {R:Type} (n:Nat):Tells (R:=R) Tryz.prog (Q1c.C n):=fun _ xs=>tells_at (Q0p.tells1 n xs) (tells_at (Q1m.tells1 n xs) (Tells1.none))
def Q1c.cut (r:Nat):Option Keep:=match r with | 2=>some ⟨[],[]⟩ | _=>none
def Q1c.t (z:Q1c.Z):List Item:=(todoOf (match z with | .z2 _ _ _ _ _ _ _ _ _ _ _ _ _ _ _=>2) 1000 [.code (Tryz.f109.body.getD .skip)]).getD []
def Q1c.s:Q1c.Z→St
 | .z2 z1 z2 z3 z4 z5 z6 z7 z8 z9 z10 z11 z12 z13 z14 z15=>⟨spr 71 0 [],Mem.ofList [.box 115 [vb z1,vs z2,vs z3,.own 1 0 none,.own 2 0 none,vb z4,vs z5,vs z6,.own 3 0 none,.own 4 0 none,.own 5 0 none,.own 6 0 none,vb z7,.own 7 0 none,vi z8],.row ⟨true,125⟩ 4 z9,.row ⟨true,111⟩ 2 z10,.row ⟨true,9⟩ 1 z11,.row ⟨true,95⟩ 3 z12,.row ⟨true,97⟩ 4 z13,.row ⟨true,111⟩ 2 z14,.row ⟨false,100⟩ 2 z15],8⟩
def Q1c.r2 (n:Nat) (c:Q1c.Z→Option Q1c.T) (z1:Bool) (z2 z3:ByteArray) (z4:Bool) (z5 z6:ByteArray) (z7:Bool) (z8:Int) (z9 z10 z11 z12 z13 z14 z15:List AV):Option Q1c.T:=
 some (false,z1,z2,z3,z4,z5,z6,z7,z8,z9,z10,z11,z12,z13,z14,z15)
def Q1c.r (n:Nat) (c:Q1c.Z→Option Q1c.T):Q1c.Z→Option Q1c.T
 | .z2 z1 z2 z3 z4 z5 z6 z7 z8 z9 z10 z11 z12 z13 z14 z15=>Q1c.r2 n c z1 z2 z3 z4 z5 z6 z7 z8 z9 z10 z11 z12 z13 z14 z15
def Q1c.e (n:Nat) (c:Q1c.Z→Option Q1c.T) (a0:List AV) (a1:Bool) (a2 a3:ByteArray) (a4:Bool) (a5 a6:ByteArray) (a7:Bool) (a8:Int) (a9 a10 a11 a12 a13 a14 a15:List AV):Option Q1c.T:=
 bif !a1 then (c (.z2 a1 a2 a3 a4 a5 a6 a7 a8 a9 a10 a11 a12 a13 a14 a15)) else (let y1:Bool:=((a0.length:Nat):Int) != 5
 bif y1 then (c (.z2 a1 a2 a3 a4 a5 a6 a7 a8 a9 a10 a11 a12 a13 a14 a15)) else (bif decide ((2:Int) < (a0.length:Nat)) then (withCons ((a0.getD 2 .undef).cells) fun h2 r3=>
 withStr h2 fun s4=>
 bif decide ((4:Int) < (a0.length:Nat)) then (withCons ((a0.getD 4 .undef).cells) fun h5 r6=>
 withStr h5 fun s7=>
 (Q0p.F n [vs s4,vs s7]).bind fun p8=>
 bif !p8 then (c (.z2 a1 a2 a3 a4 a5 a6 a7 a8 a9 a10 a11 a12 a13 a14 a15)) else (bif decide ((1:Int) < (a0.length:Nat)) then (withCons ((a0.getD 1 .undef).cells) fun h9 r10=>
 withStr h9 fun s11=>
 (Q1m.F n s11).bind fun p12=>
 bif decide ((3:Int) < (a0.length:Nat)) then (withCons ((a0.getD 3 .undef).cells) fun h13 r14=>
 withStr h13 fun s15=>
 (Q1m.F n s15).bind fun p16=>
 bif decide ((2:Int) < (a0.length:Nat)) then (withCons ((a0.getD 2 .undef).cells) fun h17 r18=>
 withStr h17 fun s19=>
 bif decide ((4:Int) < (a0.length:Nat)) then (withCons ((a0.getD 4 .undef).cells) fun h20 r21=>
 withStr h20 fun s22=>
 let y23:List AV:=[AV.agg [vi p12.1,vs s19,vi p16.1,vs s22]]
 bif decide (a13.length+y23.length≤most) then (bif p12.2 then (some (p16.2,a1,a2,a3,a4,a5,a6,a7,a8,a9,a10,a11,a12,a13++y23,a14,a15)) else (some (false,a1,a2,a3,a4,a5,a6,a7,a8,a9,a10,a11,a12,a13++y23,a14,a15))) else none) else none) else none) else none) else none)) else none) else none))
def Q1c.E (n:Nat) (c:Q1c.Z→Option Q1c.T):Q1c.A→Option Q1c.T:=fun (a0,a1,a2,a3,a4,a5,a6,a7,a8,a9,a10,a11,a12,a13,a14,a15)=>Q1c.e n c a0 a1 a2 a3 a4 a5 a6 a7 a8 a9 a10 a11 a12 a13 a14 a15
def Q1c.l (n:Nat):Nat→Q1c.Z→Option Q1c.T:=loopL (Q1c.r n)
def Q1c.F (n:Nat) (a0:List AV) (a1:Bool) (a2 a3:ByteArray) (a4:Bool) (a5 a6:ByteArray) (a7:Bool) (a8:Int) (a9 a10 a11 a12 a13 a14 a15:List AV):Option Q1c.T:=Q1c.e n (Q1c.l n n) a0 a1 a2 a3 a4 a5 a6 a7 a8 a9 a10 a11 a12 a13 a14 a15
def Q1c.FA (n:Nat):Q1c.A→Option Q1c.T:=Q1c.E n (Q1c.l n n)
def Q1c.nils:List (Nat × Nat × Fl × Nat):=[]
theorem Q1c.hands (n:Nat):∀ a p,Q1c.FA n a=some p→HandsMIn Tryz.prog 109 (Q1c.i a) (Q1c.b a) (Q1c.y p) (Q1c.w p):=
 pfM_hands (G:=Gk 1) (C:=Q1c.C n) (cut:=Q1c.cut) (t:=Q1c.t) (s:=Q1c.s) (nils:=Q1c.nils) (e:=Q1c.E n) (r:=Q1c.r n) (n:=n) (cfg.kb 1) mixed globs Q1c.qi (fun a=>by kernel_rfl) (Q1c.tells n) Tryz.func109 (by kernel_rfl) (by kernel_rfl) (fun rec a=>by kernel_rfl) (fun rec z=>by cases z <;> kernel_rfl)
def Q1c.via {R:Type} (n:Nat):List AV→(AV→Option R)→Option R:=viaK (Q1c.FA n) Q1c.o Q1c.p
theorem Q1c.tells1 {R:Type} (n:Nat) (xs:List AV):Tells1 (R:=R) Tryz.prog 109 xs (Q1c.via n xs):=tells_viaM (fun _=>rfl) Q1c.oi (Q1c.hands n) xs
end Go.Proofs.YtmpglmcjoelciaaGreatDoor.Ev
namespace Go.Proofs.YtmpglmcjoelciaaGreatDoor.Ev
open Go Go.Proofs Go.Proofs.Ev
set_option linter.unusedVariables false
set_option maxRecDepth 100000
abbrev Q19.A:=List AV × Bool × ByteArray × ByteArray × Bool × ByteArray × ByteArray × Bool × Int × List AV × List AV × List AV × List AV × List AV × List AV × List AV
abbrev Q19.T:=Bool × Bool × ByteArray × ByteArray × Bool × ByteArray × ByteArray × Bool × Int × List AV × List AV × List AV × List AV × List AV × List AV × List AV
def Q19.i:Q19.A→List AV:=fun (a0,a1,a2,a3,a4,a5,a6,a7,a8,a9,a10,a11,a12,a13,a14,a15)=>[.ptr 0 0,.sl ⟨true,9⟩ 1 a0]
def Q19.b:Q19.A→List AV:=fun (a0,a1,a2,a3,a4,a5,a6,a7,a8,a9,a10,a11,a12,a13,a14,a15)=>[.fn 115 [vb a1,vs a2,vs a3,.own 1 0 none,.own 2 0 none,vb a4,vs a5,vs a6,.own 3 0 none,.own 4 0 none,.own 5 0 none,.own 6 0 none,vb a7,.own 7 0 none,vi a8],.fr ⟨true,125⟩ 4 a9,.fr ⟨true,111⟩ 2 a10,.fr ⟨true,9⟩ 1 a11,.fr ⟨true,95⟩ 3 a12,.fr ⟨true,97⟩ 4 a13,.fr ⟨true,111⟩ 2 a14,.fr ⟨false,100⟩ 2 a15]
def Q19.o (xs:List AV):Option Q19.A:=match xs with | [.ptr 0 0,.sl ⟨true,9⟩ 1 a0,.tup [.fn 115 [.v (.bool a1),.v (.string a2),.v (.string a3),.own 1 0 none,.own 2 0 none,.v (.bool a4),.v (.string a5),.v (.string a6),.own 3 0 none,.own 4 0 none,.own 5 0 none,.own 6 0 none,.v (.bool a7),.own 7 0 none,.v (.int .i64 a8)],.fr ⟨true,125⟩ 4 a9,.fr ⟨true,111⟩ 2 a10,.fr ⟨true,9⟩ 1 a11,.fr ⟨true,95⟩ 3 a12,.fr ⟨true,97⟩ 4 a13,.fr ⟨true,111⟩ 2 a14,.fr ⟨false,100⟩ 2 a15]]=>some (a0,a1,a2,a3,a4,a5,a6,a7,a8,a9,a10,a11,a12,a13,a14,a15) | _=>none
theorem Q19.oi:∀ xs a,Q19.o xs=some a→xs=Q19.i a++[.tup (Q19.b a)]:=by
 intro xs a h
 unfold Q19.o at h
 split at h
 ·cases h; rfl
 ·cases h
def Q19.y (p:Q19.T):AV:=vb p.1
def Q19.w (p:Q19.T):List AV:=[.fn 115 [vb p.2.1,vs p.2.2.1,vs p.2.2.2.1,.own 1 0 none,.own 2 0 none,vb p.2.2.2.2.1,vs p.2.2.2.2.2.1,vs p.2.2.2.2.2.2.1,.own 3 0 none,.own 4 0 none,.own 5 0 none,.own 6 0 none,vb p.2.2.2.2.2.2.2.1,.own 7 0 none,vi p.2.2.2.2.2.2.2.2.1],.fr ⟨true,125⟩ 4 p.2.2.2.2.2.2.2.2.2.1,.fr ⟨true,111⟩ 2 p.2.2.2.2.2.2.2.2.2.2.1,.fr ⟨true,9⟩ 1 p.2.2.2.2.2.2.2.2.2.2.2.1,.fr ⟨true,95⟩ 3 p.2.2.2.2.2.2.2.2.2.2.2.2.1,.fr ⟨true,97⟩ 4 p.2.2.2.2.2.2.2.2.2.2.2.2.2.1,.fr ⟨true,111⟩ 2 p.2.2.2.2.2.2.2.2.2.2.2.2.2.2.1,.fr ⟨false,100⟩ 2 p.2.2.2.2.2.2.2.2.2.2.2.2.2.2.2]
def Q19.p (p:Q19.T):AV:=.tup [Q19.y p,.tup (Q19.w p)]
def Q19.q (x:AV):Option Q19.T:=match x with | .tup [.v (.bool p0),.tup [.fn 115 [.v (.bool p1),.v (.string p2),.v (.string p3),.own 1 0 none,.own 2 0 none,.v (.bool p4),.v (.string p5),.v (.string p6),.own 3 0 none,.own 4 0 none,.own 5 0 none,.own 6 0 none,.v (.bool p7),.own 7 0 none,.v (.int .i64 p8)],.fr ⟨true,125⟩ 4 p9,.fr ⟨true,111⟩ 2 p10,.fr ⟨true,9⟩ 1 p11,.fr ⟨true,95⟩ 3 p12,.fr ⟨true,97⟩ 4 p13,.fr ⟨true,111⟩ 2 p14,.fr ⟨false,100⟩ 2 p15]]=>some (p0,p1,p2,p3,p4,p5,p6,p7,p8,p9,p10,p11,p12,p13,p14,p15) | _=>none
theorem Q19.qi:∀ x p,Q19.q x=some p→x=Q19.p p:=by
 intro x p h
 unfold Q19.q at h
 split at h
 ·cases h; rfl
 ·cases h
inductive Q19.Z where
 | z6 (z1:Bool) (z2 z3:ByteArray) (z4:Bool) (z5 z6:ByteArray) (z7:Bool) (z8:Int) (z9 z10 z11 z12 z13 z14 z15:List AV)
def Q19.C {R:Type} (n:Nat) (f:FuncId) (xs:List AV):(AV→Option R)→Option R:=
 bif Nat.beq f 83 then Q1i.via n xs else bif Nat.beq f 113 then Q0p.via n xs else bif Nat.beq f 147 then Q1m.via n xs else fun _=>none
theorem Q19.tells {R:Type} (n:Nat):Tells (R:=R) Tryz.prog (Q19.C n):=fun _ xs=>tells_at (Q1i.tells1 n xs) (tells_at (Q0p.tells1 n xs) (tells_at (Q1m.tells1 n xs) (Tells1.none)))
def Q19.cut (r:Nat):Option Keep:=match r with | 6=>some ⟨[],[]⟩ | _=>none
def Q19.t (z:Q19.Z):List Item:=(todoOf (match z with | .z6 _ _ _ _ _ _ _ _ _ _ _ _ _ _ _=>6) 1000 [.code (Tryz.f110.body.getD .skip)]).getD []
def Q19.s:Q19.Z→St
 | .z6 z1 z2 z3 z4 z5 z6 z7 z8 z9 z10 z11 z12 z13 z14 z15=>⟨spr 101 0 [],Mem.ofList [.box 115 [vb z1,vs z2,vs z3,.own 1 0 none,.own 2 0 none,vb z4,vs z5,vs z6,.own 3 0 none,.own 4 0 none,.own 5 0 none,.own 6 0 none,vb z7,.own 7 0 none,vi z8],.row ⟨true,125⟩ 4 z9,.row ⟨true,111⟩ 2 z10,.row ⟨true,9⟩ 1 z11,.row ⟨true,95⟩ 3 z12,.row ⟨true,97⟩ 4 z13,.row ⟨true,111⟩ 2 z14,.row ⟨false,100⟩ 2 z15],8⟩
def Q19.r6 (n:Nat) (c:Q19.Z→Option Q19.T) (z1:Bool) (z2 z3:ByteArray) (z4:Bool) (z5 z6:ByteArray) (z7:Bool) (z8:Int) (z9 z10 z11 z12 z13 z14 z15:List AV):Option Q19.T:=
 some (false,z1,z2,z3,z4,z5,z6,z7,z8,z9,z10,z11,z12,z13,z14,z15)
def Q19.r (n:Nat) (c:Q19.Z→Option Q19.T):Q19.Z→Option Q19.T
 | .z6 z1 z2 z3 z4 z5 z6 z7 z8 z9 z10 z11 z12 z13 z14 z15=>Q19.r6 n c z1 z2 z3 z4 z5 z6 z7 z8 z9 z10 z11 z12 z13 z14 z15
def Q19.e (n:Nat) (c:Q19.Z→Option Q19.T) (a0:List AV) (a1:Bool) (a2 a3:ByteArray) (a4:Bool) (a5 a6:ByteArray) (a7:Bool) (a8:Int) (a9 a10 a11 a12 a13 a14 a15:List AV):Option Q19.T:=
 let y1:Bool:=decide (((a0.length:Nat):Int) < 3)
 bif y1 then (some (false,a1,a2,a3,a4,a5,a6,a7,a8,a9,a10,a11,a12,a13,a14,a15)) else (bif decide ((1:Int) < (a0.length:Nat)) then (withCons ((a0.getD 1 .undef).cells) fun h2 r3=>
 withStr h2 fun s4=>
 (Q0p.F n [vs s4]).bind fun p5=>
 bif !p5 then (some (false,a1,a2,a3,a4,a5,a6,a7,a8,a9,a10,a11,a12,a13,a14,a15)) else (bif a1 then (bif decide ((2:Int) < (a0.length:Nat)) then (withCons ((a0.getD 2 .undef).cells) fun h6 r7=>
 withStr h6 fun s8=>
 (Q1m.F n s8).bind fun p9=>
 bif !p9.2 then (c (.z6 a1 a2 a3 a4 a5 a6 a7 a8 a9 a10 a11 a12 a13 a14 a15)) else (let y10:Bool:=((a0.length:Nat):Int) != 4
 bif y10 then (c (.z6 a1 a2 a3 a4 a5 a6 a7 a8 a9 a10 a11 a12 a13 a14 a15)) else (bif decide ((3:Int) < (a0.length:Nat)) then (withCons ((a0.getD 3 .undef).cells) fun h11 r12=>
 withStr h11 fun s13=>
 (Q0p.F n [vs s13]).bind fun p14=>
 bif !p14 then (c (.z6 a1 a2 a3 a4 a5 a6 a7 a8 a9 a10 a11 a12 a13 a14 a15)) else (bif decide ((1:Int) < (a0.length:Nat)) then (withCons ((a0.getD 1 .undef).cells) fun h15 r16=>
 withStr h15 fun s17=>
 bif decide ((3:Int) < (a0.length:Nat)) then (withCons ((a0.getD 3 .undef).cells) fun h18 r19=>
 withStr h18 fun s20=>
 let y21:List AV:=[AV.agg [vs s17,vi p9.1,vs s20]]
 bif decide (a12.length+y21.length≤most) then (some (true,a1,a2,a3,a4,a5,a6,a7,a8,a9,a10,a11,a12++y21,a13,a14,a15)) else none) else none) else none)) else none))) else none) else (bif decide ((2:Int) < (a0.length:Nat)) then (withCons ((a0.getD 2 .undef).cells) fun h22 r23=>
 withStr h22 fun s24=>
 (Q1i.F n s24).bind fun p25=>
 bif decide ((1:Int) < (a0.length:Nat)) then (withCons ((a0.getD 1 .undef).cells) fun h26 r27=>
 withStr h26 fun s28=>
 let y29:List AV:=[AV.agg [vs s28,vi p25.1,vi p25.2.1,vi p25.2.2.1]]
 bif decide (a9.length+y29.length≤most) then (bif p25.2.2.2 then (let y30:Bool:=((a0.length:Nat):Int)==3
 some (y30,a1,a2,a3,a4,a5,a6,a7,a8,a9++y29,a10,a11,a12,a13,a14,a15)) else (some (false,a1,a2,a3,a4,a5,a6,a7,a8,a9++y29,a10,a11,a12,a13,a14,a15))) else none) else none) else none))) else none)
def Q19.E (n:Nat) (c:Q19.Z→Option Q19.T):Q19.A→Option Q19.T:=fun (a0,a1,a2,a3,a4,a5,a6,a7,a8,a9,a10,a11,a12,a13,a14,a15)=>Q19.e n c a0 a1 a2 a3 a4 a5 a6 a7 a8 a9 a10 a11 a12 a13 a14 a15
def Q19.l (n:Nat):Nat→Q19.Z→Option Q19.T:=loopL (Q19.r n)
def Q19.F (n:Nat) (a0:List AV) (a1:Bool) (a2 a3:ByteArray) (a4:Bool) (a5 a6:ByteArray) (a7:Bool) (a8:Int) (a9 a10 a11 a12 a13 a14 a15:List AV):Option Q19.T:=Q19.e n (Q19.l n n) a0 a1 a2 a3 a4 a5 a6 a7 a8 a9 a10 a11 a12 a13 a14 a15
def Q19.FA (n:Nat):Q19.A→Option Q19.T:=Q19.E n (Q19.l n n)
def Q19.nils:List (Nat × Nat × Fl × Nat):=[]
theorem Q19.hands (n:Nat):∀ a p,Q19.FA n a=some p→HandsMIn Tryz.prog 110 (Q19.i a) (Q19.b a) (Q19.y p) (Q19.w p):=
 pfM_hands (G:=Gk 1) (C:=Q19.C n) (cut:=Q19.cut) (t:=Q19.t) (s:=Q19.s) (nils:=Q19.nils) (e:=Q19.E n) (r:=Q19.r n) (n:=n) (cfg.kb 1) mixed globs Q19.qi (fun a=>by kernel_rfl) (Q19.tells n) Tryz.func110 (by kernel_rfl) (by kernel_rfl) (fun rec a=>by kernel_rfl) (fun rec z=>by cases z <;> kernel_rfl)
def Q19.via {R:Type} (n:Nat):List AV→(AV→Option R)→Option R:=viaK (Q19.FA n) Q19.o Q19.p
theorem Q19.tells1 {R:Type} (n:Nat) (xs:List AV):Tells1 (R:=R) Tryz.prog 110 xs (Q19.via n xs):=tells_viaM (fun _=>rfl) Q19.oi (Q19.hands n) xs
end Go.Proofs.YtmpglmcjoelciaaGreatDoor.Ev
namespace Go.Proofs.YtmpglmcjoelciaaGreatDoor.Ev
open Go Go.Proofs Go.Proofs.Ev
set_option linter.unusedVariables false
set_option maxRecDepth 100000
abbrev Q1d.A:=List AV × Bool × ByteArray × ByteArray × Bool × ByteArray × ByteArray × Bool × Int × List AV × List AV × List AV × List AV × List AV × List AV × List AV
abbrev Q1d.T:=Bool × Bool × ByteArray × ByteArray × Bool × ByteArray × ByteArray × Bool × Int × List AV × List AV × List AV × List AV × List AV × List AV × List AV
def Q1d.i:Q1d.A→List AV:=fun (a0,a1,a2,a3,a4,a5,a6,a7,a8,a9,a10,a11,a12,a13,a14,a15)=>[.ptr 0 0,.sl ⟨true,9⟩ 1 a0]
def Q1d.b:Q1d.A→List AV:=fun (a0,a1,a2,a3,a4,a5,a6,a7,a8,a9,a10,a11,a12,a13,a14,a15)=>[.fn 115 [vb a1,vs a2,vs a3,.own 1 0 none,.own 2 0 none,vb a4,vs a5,vs a6,.own 3 0 none,.own 4 0 none,.own 5 0 none,.own 6 0 none,vb a7,.own 7 0 none,vi a8],.fr ⟨true,125⟩ 4 a9,.fr ⟨true,111⟩ 2 a10,.fr ⟨true,9⟩ 1 a11,.fr ⟨true,95⟩ 3 a12,.fr ⟨true,97⟩ 4 a13,.fr ⟨true,111⟩ 2 a14,.fr ⟨false,100⟩ 2 a15]
def Q1d.o (xs:List AV):Option Q1d.A:=match xs with | [.ptr 0 0,.sl ⟨true,9⟩ 1 a0,.tup [.fn 115 [.v (.bool a1),.v (.string a2),.v (.string a3),.own 1 0 none,.own 2 0 none,.v (.bool a4),.v (.string a5),.v (.string a6),.own 3 0 none,.own 4 0 none,.own 5 0 none,.own 6 0 none,.v (.bool a7),.own 7 0 none,.v (.int .i64 a8)],.fr ⟨true,125⟩ 4 a9,.fr ⟨true,111⟩ 2 a10,.fr ⟨true,9⟩ 1 a11,.fr ⟨true,95⟩ 3 a12,.fr ⟨true,97⟩ 4 a13,.fr ⟨true,111⟩ 2 a14,.fr ⟨false,100⟩ 2 a15]]=>some (a0,a1,a2,a3,a4,a5,a6,a7,a8,a9,a10,a11,a12,a13,a14,a15) | _=>none
theorem Q1d.oi:∀ xs a,Q1d.o xs=some a→xs=Q1d.i a++[.tup (Q1d.b a)]:=by
 intro xs a h
 unfold Q1d.o at h
 split at h
 ·cases h; rfl
 ·cases h
def Q1d.y (p:Q1d.T):AV:=vb p.1
def Q1d.w (p:Q1d.T):List AV:=[.fn 115 [vb p.2.1,vs p.2.2.1,vs p.2.2.2.1,.own 1 0 none,.own 2 0 none,vb p.2.2.2.2.1,vs p.2.2.2.2.2.1,vs p.2.2.2.2.2.2.1,.own 3 0 none,.own 4 0 none,.own 5 0 none,.own 6 0 none,vb p.2.2.2.2.2.2.2.1,.own 7 0 none,vi p.2.2.2.2.2.2.2.2.1],.fr ⟨true,125⟩ 4 p.2.2.2.2.2.2.2.2.2.1,.fr ⟨true,111⟩ 2 p.2.2.2.2.2.2.2.2.2.2.1,.fr ⟨true,9⟩ 1 p.2.2.2.2.2.2.2.2.2.2.2.1,.fr ⟨true,95⟩ 3 p.2.2.2.2.2.2.2.2.2.2.2.2.1,.fr ⟨true,97⟩ 4 p.2.2.2.2.2.2.2.2.2.2.2.2.2.1,.fr ⟨true,111⟩ 2 p.2.2.2.2.2.2.2.2.2.2.2.2.2.2.1,.fr ⟨false,100⟩ 2 p.2.2.2.2.2.2.2.2.2.2.2.2.2.2.2]
def Q1d.p (p:Q1d.T):AV:=.tup [Q1d.y p,.tup (Q1d.w p)]
def Q1d.q (x:AV):Option Q1d.T:=match x with | .tup [.v (.bool p0),.tup [.fn 115 [.v (.bool p1),.v (.string p2),.v (.string p3),.own 1 0 none,.own 2 0 none,.v (.bool p4),.v (.string p5),.v (.string p6),.own 3 0 none,.own 4 0 none,.own 5 0 none,.own 6 0 none,.v (.bool p7),.own 7 0 none,.v (.int .i64 p8)],.fr ⟨true,125⟩ 4 p9,.fr ⟨true,111⟩ 2 p10,.fr ⟨true,9⟩ 1 p11,.fr ⟨true,95⟩ 3 p12,.fr ⟨true,97⟩ 4 p13,.fr ⟨true,111⟩ 2 p14,.fr ⟨false,100⟩ 2 p15]]=>some (p0,p1,p2,p3,p4,p5,p6,p7,p8,p9,p10,p11,p12,p13,p14,p15) | _=>none
theorem Q1d.qi:∀ x p,Q1d.q x=some p→x=Q1d.p p:=by
 intro x p h
 unfold Q1d.q at h
 split at h
 ·cases h; rfl
 ·cases h
inductive Q1d.Z where
 | z3 (z1:Bool) (z2 z3:ByteArray) (z4:Bool) (z5 z6:ByteArray) (z7:Bool) (z8:Int) (z9 z10 z11 z12 z13 z14 z15:List AV)
 | z4 (z1:List AV) (z2 z3:Bool) (z4 z5:ByteArray) (z6:Bool) (z7 z8:ByteArray) (z9:Bool) (z10:Int) (z11 z12 z13 z14 z15 z16 z17:List AV)
def Q1d.C {R:Type} (n:Nat) (f:FuncId) (xs:List AV):(AV→Option R)→Option R:=
 bif Nat.beq f 113 then Q0p.via n xs else fun _=>none
theorem Q1d.tells {R:Type} (n:Nat):Tells (R:=R) Tryz.prog (Q1d.C n):=fun _ xs=>tells_at (Q0p.tells1 n xs) (Tells1.none)
def Q1d.cut (r:Nat):Option Keep:=match r with | 3=>some ⟨[],[]⟩ | 4=>some ⟨[0,1,5],[]⟩ | _=>none
def Q1d.t (z:Q1d.Z):List Item:=(todoOf (match z with | .z3 _ _ _ _ _ _ _ _ _ _ _ _ _ _ _=>3 | .z4 _ _ _ _ _ _ _ _ _ _ _ _ _ _ _ _ _=>4) 1000 [.code (Tryz.f111.body.getD .skip)]).getD []
def Q1d.s:Q1d.Z→St
 | .z3 z1 z2 z3 z4 z5 z6 z7 z8 z9 z10 z11 z12 z13 z14 z15=>⟨spr 69 0 [],Mem.ofList [.box 115 [vb z1,vs z2,vs z3,.own 1 0 none,.own 2 0 none,vb z4,vs z5,vs z6,.own 3 0 none,.own 4 0 none,.own 5 0 none,.own 6 0 none,vb z7,.own 7 0 none,vi z8],.row ⟨true,125⟩ 4 z9,.row ⟨true,111⟩ 2 z10,.row ⟨true,9⟩ 1 z11,.row ⟨true,95⟩ 3 z12,.row ⟨true,97⟩ 4 z13,.row ⟨true,111⟩ 2 z14,.row ⟨false,100⟩ 2 z15],8⟩
 | .z4 z1 z2 z3 z4 z5 z6 z7 z8 z9 z10 z11 z12 z13 z14 z15 z16 z17=>⟨spr 69 0 [(0,.ptr 0 0),(1,.sl ⟨true,9⟩ 1 z1),(5,vb z2)],Mem.ofList [.box 115 [vb z3,vs z4,vs z5,.own 1 0 none,.own 2 0 none,vb z6,vs z7,vs z8,.own 3 0 none,.own 4 0 none,.own 5 0 none,.own 6 0 none,vb z9,.own 7 0 none,vi z10],.row ⟨true,125⟩ 4 z11,.row ⟨true,111⟩ 2 z12,.row ⟨true,9⟩ 1 z13,.row ⟨true,95⟩ 3 z14,.row ⟨true,97⟩ 4 z15,.row ⟨true,111⟩ 2 z16,.row ⟨false,100⟩ 2 z17],8⟩
def Q1d.r3 (n:Nat) (c:Q1d.Z→Option Q1d.T) (z1:Bool) (z2 z3:ByteArray) (z4:Bool) (z5 z6:ByteArray) (z7:Bool) (z8:Int) (z9 z10 z11 z12 z13 z14 z15:List AV):Option Q1d.T:=
 some (false,z1,z2,z3,z4,z5,z6,z7,z8,z9,z10,z11,z12,z13,z14,z15)
def Q1d.r4 (n:Nat) (c:Q1d.Z→Option Q1d.T) (z1:List AV) (z2 z3:Bool) (z4 z5:ByteArray) (z6:Bool) (z7 z8:ByteArray) (z9:Bool) (z10:Int) (z11 z12 z13 z14 z15 z16 z17:List AV):Option Q1d.T:=
 bif decide ((1:Int) < (z1.length:Nat)) then (withCons ((z1.getD 1 .undef).cells) fun h20 r21=>
 withStr h20 fun s22=>
 bif z3 then (bif decide (z16.length+[AV.agg [vs s22,vb z2]].length≤most) then (let y23:List AV:=z16++[AV.agg [vs s22,vb z2]]
 some (true,z3,z4,z5,z6,z7,z8,z9,z10,z11,z12,z13,z14,z15,y23,z17)) else none) else (bif decide (z12.length+[AV.agg [vs s22,vb z2]].length≤most) then (let y24:List AV:=z12++[AV.agg [vs s22,vb z2]]
 some (true,z3,z4,z5,z6,z7,z8,z9,z10,z11,y24,z13,z14,z15,z16,z17)) else none)) else none
def Q1d.r (n:Nat) (c:Q1d.Z→Option Q1d.T):Q1d.Z→Option Q1d.T
 | .z3 z1 z2 z3 z4 z5 z6 z7 z8 z9 z10 z11 z12 z13 z14 z15=>Q1d.r3 n c z1 z2 z3 z4 z5 z6 z7 z8 z9 z10 z11 z12 z13 z14 z15
 | .z4 z1 z2 z3 z4 z5 z6 z7 z8 z9 z10 z11 z12 z13 z14 z15 z16 z17=>Q1d.r4 n c z1 z2 z3 z4 z5 z6 z7 z8 z9 z10 z11 z12 z13 z14 z15 z16 z17
def Q1d.e (n:Nat) (c:Q1d.Z→Option Q1d.T) (a0:List AV) (a1:Bool) (a2 a3:ByteArray) (a4:Bool) (a5 a6:ByteArray) (a7:Bool) (a8:Int) (a9 a10 a11 a12 a13 a14 a15:List AV):Option Q1d.T:=
 let y1:Bool:=((a0.length:Nat):Int)==3
 bif y1 then (bif decide ((2:Int) < (a0.length:Nat)) then (withCons ((a0.getD 2 .undef).cells) fun h2 r3=>
 withStr h2 fun s4=>
 let y5:Bool:=s4.toList==(⟨#[68,69,83,67,69,78,68]⟩ : ByteArray).toList
 let y6:Bool:=((a0.length:Nat):Int) != 2
 bif y6 then (bif !y5 then (c (.z3 a1 a2 a3 a4 a5 a6 a7 a8 a9 a10 a11 a12 a13 a14 a15)) else (bif decide ((1:Int) < (a0.length:Nat)) then (withCons ((a0.getD 1 .undef).cells) fun h7 r8=>
 withStr h7 fun s9=>
 (Q0p.F n [vs s9]).bind fun p10=>
 bif !p10 then (c (.z3 a1 a2 a3 a4 a5 a6 a7 a8 a9 a10 a11 a12 a13 a14 a15)) else (c (.z4 a0 y5 a1 a2 a3 a4 a5 a6 a7 a8 a9 a10 a11 a12 a13 a14 a15))) else none)) else (bif decide ((1:Int) < (a0.length:Nat)) then (withCons ((a0.getD 1 .undef).cells) fun h11 r12=>
 withStr h11 fun s13=>
 (Q0p.F n [vs s13]).bind fun p14=>
 bif !p14 then (c (.z3 a1 a2 a3 a4 a5 a6 a7 a8 a9 a10 a11 a12 a13 a14 a15)) else (c (.z4 a0 y5 a1 a2 a3 a4 a5 a6 a7 a8 a9 a10 a11 a12 a13 a14 a15))) else none)) else none) else (let y15:Bool:=((a0.length:Nat):Int) != 2
 bif y15 then (c (.z3 a1 a2 a3 a4 a5 a6 a7 a8 a9 a10 a11 a12 a13 a14 a15)) else (bif decide ((1:Int) < (a0.length:Nat)) then (withCons ((a0.getD 1 .undef).cells) fun h16 r17=>
 withStr h16 fun s18=>
 (Q0p.F n [vs s18]).bind fun p19=>
 bif !p19 then (c (.z3 a1 a2 a3 a4 a5 a6 a7 a8 a9 a10 a11 a12 a13 a14 a15)) else (c (.z4 a0 false a1 a2 a3 a4 a5 a6 a7 a8 a9 a10 a11 a12 a13 a14 a15))) else none))
def Q1d.E (n:Nat) (c:Q1d.Z→Option Q1d.T):Q1d.A→Option Q1d.T:=fun (a0,a1,a2,a3,a4,a5,a6,a7,a8,a9,a10,a11,a12,a13,a14,a15)=>Q1d.e n c a0 a1 a2 a3 a4 a5 a6 a7 a8 a9 a10 a11 a12 a13 a14 a15
def Q1d.l (n:Nat):Nat→Q1d.Z→Option Q1d.T:=loopL (Q1d.r n)
def Q1d.F (n:Nat) (a0:List AV) (a1:Bool) (a2 a3:ByteArray) (a4:Bool) (a5 a6:ByteArray) (a7:Bool) (a8:Int) (a9 a10 a11 a12 a13 a14 a15:List AV):Option Q1d.T:=Q1d.e n (Q1d.l n n) a0 a1 a2 a3 a4 a5 a6 a7 a8 a9 a10 a11 a12 a13 a14 a15
def Q1d.FA (n:Nat):Q1d.A→Option Q1d.T:=Q1d.E n (Q1d.l n n)
def Q1d.nils:List (Nat × Nat × Fl × Nat):=[]
theorem Q1d.hands (n:Nat):∀ a p,Q1d.FA n a=some p→HandsMIn Tryz.prog 111 (Q1d.i a) (Q1d.b a) (Q1d.y p) (Q1d.w p):=
 pfM_hands (G:=Gk 1) (C:=Q1d.C n) (cut:=Q1d.cut) (t:=Q1d.t) (s:=Q1d.s) (nils:=Q1d.nils) (e:=Q1d.E n) (r:=Q1d.r n) (n:=n) (cfg.kb 1) mixed globs Q1d.qi (fun a=>by kernel_rfl) (Q1d.tells n) Tryz.func111 (by kernel_rfl) (by kernel_rfl) (fun rec a=>by kernel_rfl) (fun rec z=>by cases z <;> kernel_rfl)
def Q1d.via {R:Type} (n:Nat):List AV→(AV→Option R)→Option R:=viaK (Q1d.FA n) Q1d.o Q1d.p
theorem Q1d.tells1 {R:Type} (n:Nat) (xs:List AV):Tells1 (R:=R) Tryz.prog 111 xs (Q1d.via n xs):=tells_viaM (fun _=>rfl) Q1d.oi (Q1d.hands n) xs
end Go.Proofs.YtmpglmcjoelciaaGreatDoor.Ev
namespace Go.Proofs.YtmpglmcjoelciaaGreatDoor.Ev
open Go Go.Proofs Go.Proofs.Ev
set_option linter.unusedVariables false
set_option maxRecDepth 100000
abbrev Q1l.A:=ByteArray
abbrev Q1l.T:=Int × ByteArray × Bool
def Q1l.i:Q1l.A→List AV:=fun a0=>[vs a0]
def Q1l.o (xs:List AV):Option Q1l.A:=match xs with | [.v (.string a0)]=>some a0 | _=>none
theorem Q1l.oi:∀ xs a,Q1l.o xs=some a→xs=Q1l.i a:=by
 intro xs a h
 unfold Q1l.o at h
 split at h
 ·cases h; rfl
 ·cases h
def Q1l.p (p:Q1l.T):AV:=.tup [AV.agg [vi p.1,vs p.2.1],vb p.2.2]
def Q1l.q (x:AV):Option Q1l.T:=match x with | .tup [.agg [.v (.int .i64 p0),.v (.string p1)],.v (.bool p2)]=>some (p0,p1,p2) | _=>none
theorem Q1l.qi:∀ x p,Q1l.q x=some p→x=Q1l.p p:=by
 intro x p h
 unfold Q1l.q at h
 split at h
 ·cases h; rfl
 ·cases h
def Q1l.C {R:Type} (n:Nat) (f:FuncId) (xs:List AV):(AV→Option R)→Option R:=
 bif Nat.beq f 122 then Q4j.via n xs else bif Nat.beq f 147 then Q1m.via n xs else fun _=>none
theorem Q1l.tells {R:Type} (n:Nat):Tells (R:=R) Tryz.prog (Q1l.C n):=fun _ xs=>tells_at (Q4j.tells1 n xs) (tells_at (Q1m.tells1 n xs) (Tells1.none))
def Q1l.cut (r:Nat):Option Keep:=match r with  | _=>none
def Q1l.e (n:Nat) (a0:ByteArray):Option (Int × ByteArray × Bool):=
 bif decide ((0:Int) < (a0.size:Nat)) then (let y1:Int:=(((a0.data.getD 0 0).toNat:Nat):Int)
 bif y1==39 then (let y2:Int:=IntKind.i64.wrap (((a0.size:Nat):Int) - 1)
 bif decide ((0:Int)≤y2)&&decide ((y2:Int)≤((a0.size:Nat):Int)) then (bif decide ((0:Int)≤1)&&decide ((1:Int)≤y2) then ((Q4j.F n (a0.extract 1 (y2).toNat) (⟨#[39,39]⟩ : ByteArray) (⟨#[39]⟩ : ByteArray)).bind fun p3=>
 some (0,p3,true)) else none) else none) else ((Q1m.F n a0).bind fun p4=>
 some (p4.1,(⟨#[]⟩ : ByteArray),p4.2))) else none
def Q1l.E (n:Nat):Q1l.A→Option Q1l.T:=fun a0=>Q1l.e n a0
def Q1l.F (n:Nat) (a0:ByteArray):Option (Int × ByteArray × Bool):=Q1l.e n a0
def Q1l.FA (n:Nat):Q1l.A→Option Q1l.T:=Q1l.E n
theorem Q1l.hands (n:Nat):∀ a p,Q1l.FA n a=some p→HandsIn Tryz.prog 148 (Q1l.i a) (Q1l.p p):=
 pf_hands (C:=Q1l.C n) (cut:=Q1l.cut) (Z:=Empty) (t:=nofun) (s:=nofun) (e:=fun _=>Q1l.E n) (r:=fun _ z=>nomatch z) (n:=n) cfg mixed globs rfl Q1l.qi (Q1l.tells n) Tryz.func148 (by kernel_rfl) (by kernel_rfl) (fun rec a=>by kernel_rfl) (fun rec z=>nomatch z)
def Q1l.via {R:Type} (n:Nat):List AV→(AV→Option R)→Option R:=viaK (Q1l.FA n) Q1l.o Q1l.p
theorem Q1l.tells1 {R:Type} (n:Nat) (xs:List AV):Tells1 (R:=R) Tryz.prog 148 xs (Q1l.via n xs):=tells_via Q1l.oi (fun a=>by kernel_rfl) (Q1l.hands n) xs
end Go.Proofs.YtmpglmcjoelciaaGreatDoor.Ev
namespace Go.Proofs.YtmpglmcjoelciaaGreatDoor.Ev
open Go Go.Proofs Go.Proofs.Ev
set_option linter.unusedVariables false
set_option maxRecDepth 100000
abbrev Q1f.A:=List AV × Bool × ByteArray × ByteArray × Bool × ByteArray × ByteArray × Bool × Int × List AV × List AV × List AV × List AV × List AV × List AV × List AV
abbrev Q1f.T:=Bool × Bool × ByteArray × ByteArray × Bool × ByteArray × ByteArray × Bool × Int × List AV × List AV × List AV × List AV × List AV × List AV × List AV
def Q1f.i:Q1f.A→List AV:=fun (a0,a1,a2,a3,a4,a5,a6,a7,a8,a9,a10,a11,a12,a13,a14,a15)=>[.ptr 0 0,.sl ⟨true,9⟩ 1 a0]
def Q1f.b:Q1f.A→List AV:=fun (a0,a1,a2,a3,a4,a5,a6,a7,a8,a9,a10,a11,a12,a13,a14,a15)=>[.fn 115 [vb a1,vs a2,vs a3,.own 1 0 none,.own 2 0 none,vb a4,vs a5,vs a6,.own 3 0 none,.own 4 0 none,.own 5 0 none,.own 6 0 none,vb a7,.own 7 0 none,vi a8],.fr ⟨true,125⟩ 4 a9,.fr ⟨true,111⟩ 2 a10,.fr ⟨true,9⟩ 1 a11,.fr ⟨true,95⟩ 3 a12,.fr ⟨true,97⟩ 4 a13,.fr ⟨true,111⟩ 2 a14,.fr ⟨false,100⟩ 2 a15]
def Q1f.o (xs:List AV):Option Q1f.A:=match xs with | [.ptr 0 0,.sl ⟨true,9⟩ 1 a0,.tup [.fn 115 [.v (.bool a1),.v (.string a2),.v (.string a3),.own 1 0 none,.own 2 0 none,.v (.bool a4),.v (.string a5),.v (.string a6),.own 3 0 none,.own 4 0 none,.own 5 0 none,.own 6 0 none,.v (.bool a7),.own 7 0 none,.v (.int .i64 a8)],.fr ⟨true,125⟩ 4 a9,.fr ⟨true,111⟩ 2 a10,.fr ⟨true,9⟩ 1 a11,.fr ⟨true,95⟩ 3 a12,.fr ⟨true,97⟩ 4 a13,.fr ⟨true,111⟩ 2 a14,.fr ⟨false,100⟩ 2 a15]]=>some (a0,a1,a2,a3,a4,a5,a6,a7,a8,a9,a10,a11,a12,a13,a14,a15) | _=>none
theorem Q1f.oi:∀ xs a,Q1f.o xs=some a→xs=Q1f.i a++[.tup (Q1f.b a)]:=by
 intro xs a h
 unfold Q1f.o at h
 split at h
 ·cases h; rfl
 ·cases h
def Q1f.y (p:Q1f.T):AV:=vb p.1
def Q1f.w (p:Q1f.T):List AV:=[.fn 115 [vb p.2.1,vs p.2.2.1,vs p.2.2.2.1,.own 1 0 none,.own 2 0 none,vb p.2.2.2.2.1,vs p.2.2.2.2.2.1,vs p.2.2.2.2.2.2.1,.own 3 0 none,.own 4 0 none,.own 5 0 none,.own 6 0 none,vb p.2.2.2.2.2.2.2.1,.own 7 0 none,vi p.2.2.2.2.2.2.2.2.1],.fr ⟨true,125⟩ 4 p.2.2.2.2.2.2.2.2.2.1,.fr ⟨true,111⟩ 2 p.2.2.2.2.2.2.2.2.2.2.1,.fr ⟨true,9⟩ 1 p.2.2.2.2.2.2.2.2.2.2.2.1,.fr ⟨true,95⟩ 3 p.2.2.2.2.2.2.2.2.2.2.2.2.1,.fr ⟨true,97⟩ 4 p.2.2.2.2.2.2.2.2.2.2.2.2.2.1,.fr ⟨true,111⟩ 2 p.2.2.2.2.2.2.2.2.2.2.2.2.2.2.1,.fr ⟨false,100⟩ 2 p.2.2.2.2.2.2.2.2.2.2.2.2.2.2.2]
def Q1f.p (p:Q1f.T):AV:=.tup [Q1f.y p,.tup (Q1f.w p)]
def Q1f.q (x:AV):Option Q1f.T:=match x with | .tup [.v (.bool p0),.tup [.fn 115 [.v (.bool p1),.v (.string p2),.v (.string p3),.own 1 0 none,.own 2 0 none,.v (.bool p4),.v (.string p5),.v (.string p6),.own 3 0 none,.own 4 0 none,.own 5 0 none,.own 6 0 none,.v (.bool p7),.own 7 0 none,.v (.int .i64 p8)],.fr ⟨true,125⟩ 4 p9,.fr ⟨true,111⟩ 2 p10,.fr ⟨true,9⟩ 1 p11,.fr ⟨true,95⟩ 3 p12,.fr ⟨true,97⟩ 4 p13,.fr ⟨true,111⟩ 2 p14,.fr ⟨false,100⟩ 2 p15]]=>some (p0,p1,p2,p3,p4,p5,p6,p7,p8,p9,p10,p11,p12,p13,p14,p15) | _=>none
theorem Q1f.qi:∀ x p,Q1f.q x=some p→x=Q1f.p p:=by
 intro x p h
 unfold Q1f.q at h
 split at h
 ·cases h; rfl
 ·cases h
inductive Q1f.Z where
 | z5 (z1:List AV) (z2:Bool) (z3 z4:ByteArray) (z5:Bool) (z6 z7:ByteArray) (z8:Bool) (z9:Int) (z10:Bool) (z11 z12 z13 z14 z15 z16 z17 z18:List AV)
 | z7 (z1:Bool) (z2 z3:ByteArray) (z4:Bool) (z5 z6:ByteArray) (z7:Bool) (z8:Int) (z9 z10 z11 z12 z13 z14 z15:List AV)
def Q1f.C {R:Type} (n:Nat) (f:FuncId) (xs:List AV):(AV→Option R)→Option R:=
 bif Nat.beq f 102 then Q48.via n xs else bif Nat.beq f 113 then Q0p.via n xs else bif Nat.beq f 145 then Q4c.via n xs else bif Nat.beq f 148 then Q1l.via n xs else fun _=>none
theorem Q1f.tells {R:Type} (n:Nat):Tells (R:=R) Tryz.prog (Q1f.C n):=fun _ xs=>tells_at (Q48.tells1 n xs) (tells_at (Q0p.tells1 n xs) (tells_at (Q4c.tells1 n xs) (tells_at (Q1l.tells1 n xs) (Tells1.none))))
def Q1f.cut (r:Nat):Option Keep:=match r with | 5=>some ⟨[0,1,5],[(5,some 1,⟨true,104⟩,4)]⟩ | 7=>some ⟨[],[]⟩ | _=>none
def Q1f.t (z:Q1f.Z):List Item:=(todoOf (match z with | .z5 _ _ _ _ _ _ _ _ _ _ _ _ _ _ _ _ _ _=>5 | .z7 _ _ _ _ _ _ _ _ _ _ _ _ _ _ _=>7) 1000 [.code (Tryz.f112.body.getD .skip)]).getD []
def Q1f.s:Q1f.Z→St
 | .z5 z1 z2 z3 z4 z5 z6 z7 z8 z9 z10 z11 z12 z13 z14 z15 z16 z17 z18=>⟨spr 97 0 [(0,.ptr 0 0),(1,.sl ⟨true,9⟩ 1 z1),(5,.ptr 1 0)],Mem.ofList [.box 115 [vb z2,vs z3,vs z4,.own 3 0 none,.own 4 0 none,vb z5,vs z6,vs z7,.own 5 0 none,.own 6 0 none,.own 7 0 none,.own 8 0 none,vb z8,.own 9 0 none,vi z9],.box 100 [vb z10,.own 2 0 none],.row ⟨true,104⟩ 4 z11,.row ⟨true,125⟩ 4 z12,.row ⟨true,111⟩ 2 z13,.row ⟨true,9⟩ 1 z14,.row ⟨true,95⟩ 3 z15,.row ⟨true,97⟩ 4 z16,.row ⟨true,111⟩ 2 z17,.row ⟨false,100⟩ 2 z18],10⟩
 | .z7 z1 z2 z3 z4 z5 z6 z7 z8 z9 z10 z11 z12 z13 z14 z15=>⟨spr 97 0 [],Mem.ofList [.box 115 [vb z1,vs z2,vs z3,.own 1 0 none,.own 2 0 none,vb z4,vs z5,vs z6,.own 3 0 none,.own 4 0 none,.own 5 0 none,.own 6 0 none,vb z7,.own 7 0 none,vi z8],.row ⟨true,125⟩ 4 z9,.row ⟨true,111⟩ 2 z10,.row ⟨true,9⟩ 1 z11,.row ⟨true,95⟩ 3 z12,.row ⟨true,97⟩ 4 z13,.row ⟨true,111⟩ 2 z14,.row ⟨false,100⟩ 2 z15],8⟩
def Q1f.r5 (n:Nat) (c:Q1f.Z→Option Q1f.T) (z1:List AV) (z2:Bool) (z3 z4:ByteArray) (z5:Bool) (z6 z7:ByteArray) (z8:Bool) (z9:Int) (z10:Bool) (z11 z12 z13 z14 z15 z16 z17 z18:List AV):Option Q1f.T:=
 let y5:Bool:=decide (((z1.length:Nat):Int) > 0)
 bif y5 then (let y6:Bool:=decide (((z1.length:Nat):Int) < 3)
 bif y6 then (c (.z7 z2 z3 z4 z5 z6 z7 z8 z9 z12 z13 z14 z15 z16 z17 z18)) else (bif decide ((0:Int) < (z1.length:Nat)) then (withCons ((z1.getD 0 .undef).cells) fun h7 r8=>
 withStr h7 fun s9=>
 (Q0p.F n [vs s9]).bind fun p10=>
 bif !p10 then (c (.z7 z2 z3 z4 z5 z6 z7 z8 z9 z12 z13 z14 z15 z16 z17 z18)) else (bif decide ((1:Int) < (z1.length:Nat)) then (withCons ((z1.getD 1 .undef).cells) fun h11 r12=>
 withStr h11 fun s13=>
 (Q48.F n gr0 s13).bind fun p14=>
 bif !p14 then (c (.z7 z2 z3 z4 z5 z6 z7 z8 z9 z12 z13 z14 z15 z16 z17 z18)) else (bif decide ((2:Int) < (z1.length:Nat)) then (withCons ((z1.getD 2 .undef).cells) fun h15 r16=>
 withStr h15 fun s17=>
 (Q1l.F n s17).bind fun p18=>
 bif !p18.2.2 then (some (false,z2,z3,z4,z5,z6,z7,z8,z9,z12,z13,z14,z15,z16,z17,z18)) else (bif decide ((0:Int) < (z1.length:Nat)) then (withCons ((z1.getD 0 .undef).cells) fun h19 r20=>
 withStr h19 fun s21=>
 bif decide ((1:Int) < (z1.length:Nat)) then (withCons ((z1.getD 1 .undef).cells) fun h22 r23=>
 withStr h22 fun s24=>
 (Q4c.F n gr0 s24).bind fun p25=>
 let y26:List AV:=[AV.agg [vs s21,vi p25,vi p18.1,vs p18.2.1]]
 bif decide (z11.length+y26.length≤most) then (bif decide ((0:Int)≤3)&&decide ((3:Int)≤((z1.length:Nat):Int)) then (let y27:Bool:=(((z1.drop 3).length:Nat):Int)==0
 bif y27 then (let y28:List AV:=[AV.agg [vb z10,.sl ⟨true,104⟩ 4 (z11++y26)]]
 bif decide (z18.length+y28.length≤most) then (some (true,z2,z3,z4,z5,z6,z7,z8,z9,z12,z13,z14,z15,z16,z17,z18++y28)) else none) else (bif decide ((0:Int) < ((z1.drop 3).length:Nat)) then (withCons (((z1.drop 3).getD 0 .undef).cells) fun h29 r30=>
 withStr h29 fun s31=>
 let y32:Bool:=!(s31.toList==(⟨#[65,78,68]⟩ : ByteArray).toList)
 bif y32 then (some (false,z2,z3,z4,z5,z6,z7,z8,z9,z12,z13,z14,z15,z16,z17,z18)) else (let y33:Bool:=(((z1.drop 3).length:Nat):Int)==1
 bif y33 then (some (false,z2,z3,z4,z5,z6,z7,z8,z9,z12,z13,z14,z15,z16,z17,z18)) else (bif decide ((0:Int)≤1)&&decide ((1:Int)≤(((z1.drop 3).length:Nat):Int)) then (c (.z5 ((z1.drop 3).drop 1) z2 z3 z4 z5 z6 z7 z8 z9 z10 (z11++y26) z12 z13 z14 z15 z16 z17 z18)) else none))) else none)) else none) else none) else none) else none)) else none)) else none)) else none)) else (let y34:List AV:=[AV.agg [vb z10,.sl ⟨true,104⟩ 4 z11]]
 bif decide (z18.length+y34.length≤most) then (some (true,z2,z3,z4,z5,z6,z7,z8,z9,z12,z13,z14,z15,z16,z17,z18++y34)) else none)
def Q1f.r7 (n:Nat) (c:Q1f.Z→Option Q1f.T) (z1:Bool) (z2 z3:ByteArray) (z4:Bool) (z5 z6:ByteArray) (z7:Bool) (z8:Int) (z9 z10 z11 z12 z13 z14 z15:List AV):Option Q1f.T:=
 some (false,z1,z2,z3,z4,z5,z6,z7,z8,z9,z10,z11,z12,z13,z14,z15)
def Q1f.r (n:Nat) (c:Q1f.Z→Option Q1f.T):Q1f.Z→Option Q1f.T
 | .z5 z1 z2 z3 z4 z5 z6 z7 z8 z9 z10 z11 z12 z13 z14 z15 z16 z17 z18=>Q1f.r5 n c z1 z2 z3 z4 z5 z6 z7 z8 z9 z10 z11 z12 z13 z14 z15 z16 z17 z18
 | .z7 z1 z2 z3 z4 z5 z6 z7 z8 z9 z10 z11 z12 z13 z14 z15=>Q1f.r7 n c z1 z2 z3 z4 z5 z6 z7 z8 z9 z10 z11 z12 z13 z14 z15
def Q1f.e (n:Nat) (c:Q1f.Z→Option Q1f.T) (a0:List AV) (a1:Bool) (a2 a3:ByteArray) (a4:Bool) (a5 a6:ByteArray) (a7:Bool) (a8:Int) (a9 a10 a11 a12 a13 a14 a15:List AV):Option Q1f.T:=
 bif !a1 then (some (false,a1,a2,a3,a4,a5,a6,a7,a8,a9,a10,a11,a12,a13,a14,a15)) else (bif decide ((0:Int) < (a0.length:Nat)) then (withCons ((a0.getD 0 .undef).cells) fun h1 r2=>
 withStr h1 fun s3=>
 let y4:Bool:=s3.toList==(⟨#[79]⟩ : ByteArray).toList
 bif decide ((0:Int)≤1)&&decide ((1:Int)≤((a0.length:Nat):Int)) then (c (.z5 (a0.drop 1) a1 a2 a3 a4 a5 a6 a7 a8 y4 [] a9 a10 a11 a12 a13 a14 a15)) else none) else none)
def Q1f.E (n:Nat) (c:Q1f.Z→Option Q1f.T):Q1f.A→Option Q1f.T:=fun (a0,a1,a2,a3,a4,a5,a6,a7,a8,a9,a10,a11,a12,a13,a14,a15)=>Q1f.e n c a0 a1 a2 a3 a4 a5 a6 a7 a8 a9 a10 a11 a12 a13 a14 a15
def Q1f.l (n:Nat):Nat→Q1f.Z→Option Q1f.T:=loopL (Q1f.r n)
def Q1f.F (n:Nat) (a0:List AV) (a1:Bool) (a2 a3:ByteArray) (a4:Bool) (a5 a6:ByteArray) (a7:Bool) (a8:Int) (a9 a10 a11 a12 a13 a14 a15:List AV):Option Q1f.T:=Q1f.e n (Q1f.l n n) a0 a1 a2 a3 a4 a5 a6 a7 a8 a9 a10 a11 a12 a13 a14 a15
def Q1f.FA (n:Nat):Q1f.A→Option Q1f.T:=Q1f.E n (Q1f.l n n)
def Q1f.nils:List (Nat × Nat × Fl × Nat):=[]
theorem Q1f.hands (n:Nat):∀ a p,Q1f.FA n a=some p→HandsMIn Tryz.prog 112 (Q1f.i a) (Q1f.b a) (Q1f.y p) (Q1f.w p):=
 pfM_hands (G:=Gk 1) (C:=Q1f.C n) (cut:=Q1f.cut) (t:=Q1f.t) (s:=Q1f.s) (nils:=Q1f.nils) (e:=Q1f.E n) (r:=Q1f.r n) (n:=n) (cfg.kb 1) mixed globs Q1f.qi (fun a=>by kernel_rfl) (Q1f.tells n) Tryz.func112 (by kernel_rfl) (by kernel_rfl) (fun rec a=>by kernel_rfl) (fun rec z=>by cases z <;> kernel_rfl)
def Q1f.via {R:Type} (n:Nat):List AV→(AV→Option R)→Option R:=viaK (Q1f.FA n) Q1f.o Q1f.p
theorem Q1f.tells1 {R:Type} (n:Nat) (xs:List AV):Tells1 (R:=R) Tryz.prog 112 xs (Q1f.via n xs):=tells_viaM (fun _=>rfl) Q1f.oi (Q1f.hands n) xs
end Go.Proofs.YtmpglmcjoelciaaGreatDoor.Ev
namespace Go.Proofs.YtmpglmcjoelciaaGreatDoor.Ev
open Go Go.Proofs Go.Proofs.Ev
set_option linter.unusedVariables false
set_option maxRecDepth 100000
abbrev Q1e.A:=List AV × Bool × ByteArray × ByteArray × Bool × ByteArray × ByteArray × Bool × Int × List AV × List AV × List AV × List AV × List AV × List AV × List AV
abbrev Q1e.T:=Bool × Bool × ByteArray × ByteArray × Bool × ByteArray × ByteArray × Bool × Int × List AV × List AV × List AV × List AV × List AV × List AV × List AV
def Q1e.i:Q1e.A→List AV:=fun (a0,a1,a2,a3,a4,a5,a6,a7,a8,a9,a10,a11,a12,a13,a14,a15)=>[.ptr 0 0,.sl ⟨true,9⟩ 1 a0]
def Q1e.b:Q1e.A→List AV:=fun (a0,a1,a2,a3,a4,a5,a6,a7,a8,a9,a10,a11,a12,a13,a14,a15)=>[.fn 115 [vb a1,vs a2,vs a3,.own 1 0 none,.own 2 0 none,vb a4,vs a5,vs a6,.own 3 0 none,.own 4 0 none,.own 5 0 none,.own 6 0 none,vb a7,.own 7 0 none,vi a8],.fr ⟨true,125⟩ 4 a9,.fr ⟨true,111⟩ 2 a10,.fr ⟨true,9⟩ 1 a11,.fr ⟨true,95⟩ 3 a12,.fr ⟨true,97⟩ 4 a13,.fr ⟨true,111⟩ 2 a14,.fr ⟨false,100⟩ 2 a15]
def Q1e.o (xs:List AV):Option Q1e.A:=match xs with | [.ptr 0 0,.sl ⟨true,9⟩ 1 a0,.tup [.fn 115 [.v (.bool a1),.v (.string a2),.v (.string a3),.own 1 0 none,.own 2 0 none,.v (.bool a4),.v (.string a5),.v (.string a6),.own 3 0 none,.own 4 0 none,.own 5 0 none,.own 6 0 none,.v (.bool a7),.own 7 0 none,.v (.int .i64 a8)],.fr ⟨true,125⟩ 4 a9,.fr ⟨true,111⟩ 2 a10,.fr ⟨true,9⟩ 1 a11,.fr ⟨true,95⟩ 3 a12,.fr ⟨true,97⟩ 4 a13,.fr ⟨true,111⟩ 2 a14,.fr ⟨false,100⟩ 2 a15]]=>some (a0,a1,a2,a3,a4,a5,a6,a7,a8,a9,a10,a11,a12,a13,a14,a15) | _=>none
theorem Q1e.oi:∀ xs a,Q1e.o xs=some a→xs=Q1e.i a++[.tup (Q1e.b a)]:=by
 intro xs a h
 unfold Q1e.o at h
 split at h
 ·cases h; rfl
 ·cases h
def Q1e.y (p:Q1e.T):AV:=vb p.1
def Q1e.w (p:Q1e.T):List AV:=[.fn 115 [vb p.2.1,vs p.2.2.1,vs p.2.2.2.1,.own 1 0 none,.own 2 0 none,vb p.2.2.2.2.1,vs p.2.2.2.2.2.1,vs p.2.2.2.2.2.2.1,.own 3 0 none,.own 4 0 none,.own 5 0 none,.own 6 0 none,vb p.2.2.2.2.2.2.2.1,.own 7 0 none,vi p.2.2.2.2.2.2.2.2.1],.fr ⟨true,125⟩ 4 p.2.2.2.2.2.2.2.2.2.1,.fr ⟨true,111⟩ 2 p.2.2.2.2.2.2.2.2.2.2.1,.fr ⟨true,9⟩ 1 p.2.2.2.2.2.2.2.2.2.2.2.1,.fr ⟨true,95⟩ 3 p.2.2.2.2.2.2.2.2.2.2.2.2.1,.fr ⟨true,97⟩ 4 p.2.2.2.2.2.2.2.2.2.2.2.2.2.1,.fr ⟨true,111⟩ 2 p.2.2.2.2.2.2.2.2.2.2.2.2.2.2.1,.fr ⟨false,100⟩ 2 p.2.2.2.2.2.2.2.2.2.2.2.2.2.2.2]
def Q1e.p (p:Q1e.T):AV:=.tup [Q1e.y p,.tup (Q1e.w p)]
def Q1e.q (x:AV):Option Q1e.T:=match x with | .tup [.v (.bool p0),.tup [.fn 115 [.v (.bool p1),.v (.string p2),.v (.string p3),.own 1 0 none,.own 2 0 none,.v (.bool p4),.v (.string p5),.v (.string p6),.own 3 0 none,.own 4 0 none,.own 5 0 none,.own 6 0 none,.v (.bool p7),.own 7 0 none,.v (.int .i64 p8)],.fr ⟨true,125⟩ 4 p9,.fr ⟨true,111⟩ 2 p10,.fr ⟨true,9⟩ 1 p11,.fr ⟨true,95⟩ 3 p12,.fr ⟨true,97⟩ 4 p13,.fr ⟨true,111⟩ 2 p14,.fr ⟨false,100⟩ 2 p15]]=>some (p0,p1,p2,p3,p4,p5,p6,p7,p8,p9,p10,p11,p12,p13,p14,p15) | _=>none
theorem Q1e.qi:∀ x p,Q1e.q x=some p→x=Q1e.p p:=by
 intro x p h
 unfold Q1e.q at h
 split at h
 ·cases h; rfl
 ·cases h
inductive Q1e.Z where
 | z8 (z1:Bool) (z2 z3:ByteArray) (z4:Bool) (z5 z6:ByteArray) (z7:Bool) (z8:Int) (z9 z10 z11 z12 z13 z14 z15:List AV)
 | z9 (z1:List AV) (z2:Int) (z3:Bool) (z4 z5:ByteArray) (z6:Bool) (z7 z8:ByteArray) (z9:Bool) (z10:Int) (z11 z12 z13 z14 z15 z16 z17:List AV)
def Q1e.C {R:Type} (n:Nat) (f:FuncId) (xs:List AV):(AV→Option R)→Option R:=
 bif Nat.beq f 106 then Q4h.via n xs else bif Nat.beq f 107 then Q1a.via n xs else bif Nat.beq f 108 then Q18.via n xs else bif Nat.beq f 109 then Q1c.via n xs else bif Nat.beq f 110 then Q19.via n xs else bif Nat.beq f 111 then Q1d.via n xs else bif Nat.beq f 112 then Q1f.via n xs else fun _=>none
theorem Q1e.tells {R:Type} (n:Nat):Tells (R:=R) Tryz.prog (Q1e.C n):=fun _ xs=>tells_at (Q4h.tells1 n xs) (tells_at (Q1a.tells1 n xs) (tells_at (Q18.tells1 n xs) (tells_at (Q1c.tells1 n xs) (tells_at (Q19.tells1 n xs) (tells_at (Q1d.tells1 n xs) (tells_at (Q1f.tells1 n xs) (Tells1.none)))))))
def Q1e.cut (r:Nat):Option Keep:=match r with | 8=>some ⟨[],[]⟩ | 9=>some ⟨[0,1,6],[]⟩ | _=>none
def Q1e.t (z:Q1e.Z):List Item:=(todoOf (match z with | .z8 _ _ _ _ _ _ _ _ _ _ _ _ _ _ _=>8 | .z9 _ _ _ _ _ _ _ _ _ _ _ _ _ _ _ _ _=>9) 1000 [.code (Tryz.f64.body.getD .skip)]).getD []
def Q1e.s:Q1e.Z→St
 | .z8 z1 z2 z3 z4 z5 z6 z7 z8 z9 z10 z11 z12 z13 z14 z15=>⟨spr 62 0 [],Mem.ofList [.box 115 [vb z1,vs z2,vs z3,.own 1 0 none,.own 2 0 none,vb z4,vs z5,vs z6,.own 3 0 none,.own 4 0 none,.own 5 0 none,.own 6 0 none,vb z7,.own 7 0 none,vi z8],.row ⟨true,125⟩ 4 z9,.row ⟨true,111⟩ 2 z10,.row ⟨true,9⟩ 1 z11,.row ⟨true,95⟩ 3 z12,.row ⟨true,97⟩ 4 z13,.row ⟨true,111⟩ 2 z14,.row ⟨false,100⟩ 2 z15],8⟩
 | .z9 z1 z2 z3 z4 z5 z6 z7 z8 z9 z10 z11 z12 z13 z14 z15 z16 z17=>⟨spr 62 0 [(0,.ptr 0 0),(1,.sl ⟨true,9⟩ 1 z1),(6,vi z2)],Mem.ofList [.box 115 [vb z3,vs z4,vs z5,.own 1 0 none,.own 2 0 none,vb z6,vs z7,vs z8,.own 3 0 none,.own 4 0 none,.own 5 0 none,.own 6 0 none,vb z9,.own 7 0 none,vi z10],.row ⟨true,125⟩ 4 z11,.row ⟨true,111⟩ 2 z12,.row ⟨true,9⟩ 1 z13,.row ⟨true,95⟩ 3 z14,.row ⟨true,97⟩ 4 z15,.row ⟨true,111⟩ 2 z16,.row ⟨false,100⟩ 2 z17],8⟩
def Q1e.r8 (n:Nat) (c:Q1e.Z→Option Q1e.T) (z1:Bool) (z2 z3:ByteArray) (z4:Bool) (z5 z6:ByteArray) (z7:Bool) (z8:Int) (z9 z10 z11 z12 z13 z14 z15:List AV):Option Q1e.T:=
 some (false,z1,z2,z3,z4,z5,z6,z7,z8,z9,z10,z11,z12,z13,z14,z15)
def Q1e.r9 (n:Nat) (c:Q1e.Z→Option Q1e.T) (z1:List AV) (z2:Int) (z3:Bool) (z4 z5:ByteArray) (z6:Bool) (z7 z8:ByteArray) (z9:Bool) (z10:Int) (z11 z12 z13 z14 z15 z16 z17:List AV):Option Q1e.T:=
 bif decide (z2=((5:Nat):Int)) then ((Q1f.F n z1 z3 z4 z5 z6 z7 z8 z9 (if 1 > z2 then 1 else z2) z11 z12 z13 z14 z15 z16 z17).bind fun p8=>
 some (p8.1,p8.2.1,p8.2.2.1,p8.2.2.2.1,p8.2.2.2.2.1,p8.2.2.2.2.2.1,p8.2.2.2.2.2.2.1,p8.2.2.2.2.2.2.2.1,p8.2.2.2.2.2.2.2.2.1,p8.2.2.2.2.2.2.2.2.2.1,p8.2.2.2.2.2.2.2.2.2.2.1,p8.2.2.2.2.2.2.2.2.2.2.2.1,p8.2.2.2.2.2.2.2.2.2.2.2.2.1,p8.2.2.2.2.2.2.2.2.2.2.2.2.2.1,p8.2.2.2.2.2.2.2.2.2.2.2.2.2.2.1,p8.2.2.2.2.2.2.2.2.2.2.2.2.2.2.2)) else (bif decide (z2=((4:Nat):Int)) then ((Q1d.F n z1 z3 z4 z5 z6 z7 z8 z9 (if 1 > z2 then 1 else z2) z11 z12 z13 z14 z15 z16 z17).bind fun p9=>
 some (p9.1,p9.2.1,p9.2.2.1,p9.2.2.2.1,p9.2.2.2.2.1,p9.2.2.2.2.2.1,p9.2.2.2.2.2.2.1,p9.2.2.2.2.2.2.2.1,p9.2.2.2.2.2.2.2.2.1,p9.2.2.2.2.2.2.2.2.2.1,p9.2.2.2.2.2.2.2.2.2.2.1,p9.2.2.2.2.2.2.2.2.2.2.2.1,p9.2.2.2.2.2.2.2.2.2.2.2.2.1,p9.2.2.2.2.2.2.2.2.2.2.2.2.2.1,p9.2.2.2.2.2.2.2.2.2.2.2.2.2.2.1,p9.2.2.2.2.2.2.2.2.2.2.2.2.2.2.2)) else (bif decide (z2=((3:Nat):Int)) then ((Q19.F n z1 z3 z4 z5 z6 z7 z8 z9 (if 1 > z2 then 1 else z2) z11 z12 z13 z14 z15 z16 z17).bind fun p10=>
 some (p10.1,p10.2.1,p10.2.2.1,p10.2.2.2.1,p10.2.2.2.2.1,p10.2.2.2.2.2.1,p10.2.2.2.2.2.2.1,p10.2.2.2.2.2.2.2.1,p10.2.2.2.2.2.2.2.2.1,p10.2.2.2.2.2.2.2.2.2.1,p10.2.2.2.2.2.2.2.2.2.2.1,p10.2.2.2.2.2.2.2.2.2.2.2.1,p10.2.2.2.2.2.2.2.2.2.2.2.2.1,p10.2.2.2.2.2.2.2.2.2.2.2.2.2.1,p10.2.2.2.2.2.2.2.2.2.2.2.2.2.2.1,p10.2.2.2.2.2.2.2.2.2.2.2.2.2.2.2)) else (bif decide (z2=((2:Nat):Int)) then ((Q1c.F n z1 z3 z4 z5 z6 z7 z8 z9 (if 1 > z2 then 1 else z2) z11 z12 z13 z14 z15 z16 z17).bind fun p11=>
 some (p11.1,p11.2.1,p11.2.2.1,p11.2.2.2.1,p11.2.2.2.2.1,p11.2.2.2.2.2.1,p11.2.2.2.2.2.2.1,p11.2.2.2.2.2.2.2.1,p11.2.2.2.2.2.2.2.2.1,p11.2.2.2.2.2.2.2.2.2.1,p11.2.2.2.2.2.2.2.2.2.2.1,p11.2.2.2.2.2.2.2.2.2.2.2.1,p11.2.2.2.2.2.2.2.2.2.2.2.2.1,p11.2.2.2.2.2.2.2.2.2.2.2.2.2.1,p11.2.2.2.2.2.2.2.2.2.2.2.2.2.2.1,p11.2.2.2.2.2.2.2.2.2.2.2.2.2.2.2)) else (bif decide (z2=((1:Nat):Int)) then ((Q18.F n z1 z3 z4 z5 z6 z7 z8 z9 (if 1 > z2 then 1 else z2) z11 z12 z13 z14 z15 z16 z17).bind fun p12=>
 some (p12.1,p12.2.1,p12.2.2.1,p12.2.2.2.1,p12.2.2.2.2.1,p12.2.2.2.2.2.1,p12.2.2.2.2.2.2.1,p12.2.2.2.2.2.2.2.1,p12.2.2.2.2.2.2.2.2.1,p12.2.2.2.2.2.2.2.2.2.1,p12.2.2.2.2.2.2.2.2.2.2.1,p12.2.2.2.2.2.2.2.2.2.2.2.1,p12.2.2.2.2.2.2.2.2.2.2.2.2.1,p12.2.2.2.2.2.2.2.2.2.2.2.2.2.1,p12.2.2.2.2.2.2.2.2.2.2.2.2.2.2.1,p12.2.2.2.2.2.2.2.2.2.2.2.2.2.2.2)) else (bif decide (z2=((0:Nat):Int)) then ((Q1a.F n z1 z3 z4 z5 z6 z7 z8 z9 (if 1 > z2 then 1 else z2) z11 z12 z13 z14 z15 z16 z17).bind fun p13=>
 some (p13.1,p13.2.1,p13.2.2.1,p13.2.2.2.1,p13.2.2.2.2.1,p13.2.2.2.2.2.1,p13.2.2.2.2.2.2.1,p13.2.2.2.2.2.2.2.1,p13.2.2.2.2.2.2.2.2.1,p13.2.2.2.2.2.2.2.2.2.1,p13.2.2.2.2.2.2.2.2.2.2.1,p13.2.2.2.2.2.2.2.2.2.2.2.1,p13.2.2.2.2.2.2.2.2.2.2.2.2.1,p13.2.2.2.2.2.2.2.2.2.2.2.2.2.1,p13.2.2.2.2.2.2.2.2.2.2.2.2.2.2.1,p13.2.2.2.2.2.2.2.2.2.2.2.2.2.2.2)) else (none))))))
def Q1e.r (n:Nat) (c:Q1e.Z→Option Q1e.T):Q1e.Z→Option Q1e.T
 | .z8 z1 z2 z3 z4 z5 z6 z7 z8 z9 z10 z11 z12 z13 z14 z15=>Q1e.r8 n c z1 z2 z3 z4 z5 z6 z7 z8 z9 z10 z11 z12 z13 z14 z15
 | .z9 z1 z2 z3 z4 z5 z6 z7 z8 z9 z10 z11 z12 z13 z14 z15 z16 z17=>Q1e.r9 n c z1 z2 z3 z4 z5 z6 z7 z8 z9 z10 z11 z12 z13 z14 z15 z16 z17
def Q1e.e (n:Nat) (c:Q1e.Z→Option Q1e.T) (a0:List AV) (a1:Bool) (a2 a3:ByteArray) (a4:Bool) (a5 a6:ByteArray) (a7:Bool) (a8:Int) (a9 a10 a11 a12 a13 a14 a15:List AV):Option Q1e.T:=
 let y1:Bool:=((a0.length:Nat):Int)==0
 bif y1 then (some (false,a1,a2,a3,a4,a5,a6,a7,a8,a9,a10,a11,a12,a13,a14,a15)) else (bif decide ((0:Int) < (a0.length:Nat)) then (withCons ((a0.getD 0 .undef).cells) fun h2 r3=>
 withStr h2 fun s4=>
 let y5:Bool:=s4.toList==(⟨#[79]⟩ : ByteArray).toList
 bif y5 then ((Q4h.F n (⟨#[82,66,74,70,75,83]⟩ : ByteArray) (⟨#[83]⟩ : ByteArray)).bind fun p6=>
 bif decide (p6 < a8) then (c (.z8 a1 a2 a3 a4 a5 a6 a7 a8 a9 a10 a11 a12 a13 a14 a15)) else (bif a8==0 then (bif decide (p6 > 0) then (c (.z8 a1 a2 a3 a4 a5 a6 a7 a8 a9 a10 a11 a12 a13 a14 a15)) else (c (.z9 a0 p6 a1 a2 a3 a4 a5 a6 a7 a8 a9 a10 a11 a12 a13 a14 a15))) else (c (.z9 a0 p6 a1 a2 a3 a4 a5 a6 a7 a8 a9 a10 a11 a12 a13 a14 a15)))) else ((Q4h.F n (⟨#[82,66,74,70,75,83]⟩ : ByteArray) s4).bind fun p7=>
 bif ((s4.size:Nat):Int) != 1 then (c (.z8 a1 a2 a3 a4 a5 a6 a7 a8 a9 a10 a11 a12 a13 a14 a15)) else (bif decide (p7 < a8) then (c (.z8 a1 a2 a3 a4 a5 a6 a7 a8 a9 a10 a11 a12 a13 a14 a15)) else (bif a8==0 then (bif decide (p7 > 0) then (c (.z8 a1 a2 a3 a4 a5 a6 a7 a8 a9 a10 a11 a12 a13 a14 a15)) else (c (.z9 a0 p7 a1 a2 a3 a4 a5 a6 a7 a8 a9 a10 a11 a12 a13 a14 a15))) else (c (.z9 a0 p7 a1 a2 a3 a4 a5 a6 a7 a8 a9 a10 a11 a12 a13 a14 a15)))))) else none)
def Q1e.E (n:Nat) (c:Q1e.Z→Option Q1e.T):Q1e.A→Option Q1e.T:=fun (a0,a1,a2,a3,a4,a5,a6,a7,a8,a9,a10,a11,a12,a13,a14,a15)=>Q1e.e n c a0 a1 a2 a3 a4 a5 a6 a7 a8 a9 a10 a11 a12 a13 a14 a15
def Q1e.l (n:Nat):Nat→Q1e.Z→Option Q1e.T:=loopL (Q1e.r n)
def Q1e.F (n:Nat) (a0:List AV) (a1:Bool) (a2 a3:ByteArray) (a4:Bool) (a5 a6:ByteArray) (a7:Bool) (a8:Int) (a9 a10 a11 a12 a13 a14 a15:List AV):Option Q1e.T:=Q1e.e n (Q1e.l n n) a0 a1 a2 a3 a4 a5 a6 a7 a8 a9 a10 a11 a12 a13 a14 a15
def Q1e.FA (n:Nat):Q1e.A→Option Q1e.T:=Q1e.E n (Q1e.l n n)
def Q1e.nils:List (Nat × Nat × Fl × Nat):=[]
theorem Q1e.hands (n:Nat):∀ a p,Q1e.FA n a=some p→HandsMIn Tryz.prog 64 (Q1e.i a) (Q1e.b a) (Q1e.y p) (Q1e.w p):=
 pfM_hands (G:=Gk 1) (C:=Q1e.C n) (cut:=Q1e.cut) (t:=Q1e.t) (s:=Q1e.s) (nils:=Q1e.nils) (e:=Q1e.E n) (r:=Q1e.r n) (n:=n) (cfg.kb 1) mixed globs Q1e.qi (fun a=>by kernel_rfl) (Q1e.tells n) Tryz.func64 (by kernel_rfl) (by kernel_rfl) (fun rec a=>by kernel_rfl) (fun rec z=>by cases z <;> kernel_rfl)
def Q1e.via {R:Type} (n:Nat):List AV→(AV→Option R)→Option R:=viaK (Q1e.FA n) Q1e.o Q1e.p
theorem Q1e.tells1 {R:Type} (n:Nat) (xs:List AV):Tells1 (R:=R) Tryz.prog 64 xs (Q1e.via n xs):=tells_viaM (fun _=>rfl) Q1e.oi (Q1e.hands n) xs
end Go.Proofs.YtmpglmcjoelciaaGreatDoor.Ev
namespace Go.Proofs.YtmpglmcjoelciaaGreatDoor.Ev
open Go Go.Proofs Go.Proofs.Ev
set_option linter.unusedVariables false
set_option maxRecDepth 100000
abbrev Q1b.A:=List AV × Bool × ByteArray × ByteArray × Bool × ByteArray × ByteArray × Bool × Int × List AV × List AV × List AV × List AV × List AV × List AV × List AV
abbrev Q1b.T:=Bool × Bool × ByteArray × ByteArray × Bool × ByteArray × ByteArray × Bool × Int × List AV × List AV × List AV × List AV × List AV × List AV × List AV
def Q1b.i:Q1b.A→List AV:=fun (a0,a1,a2,a3,a4,a5,a6,a7,a8,a9,a10,a11,a12,a13,a14,a15)=>[.ptr 0 0,.sl ⟨true,9⟩ 1 a0]
def Q1b.b:Q1b.A→List AV:=fun (a0,a1,a2,a3,a4,a5,a6,a7,a8,a9,a10,a11,a12,a13,a14,a15)=>[.fn 115 [vb a1,vs a2,vs a3,.own 1 0 none,.own 2 0 none,vb a4,vs a5,vs a6,.own 3 0 none,.own 4 0 none,.own 5 0 none,.own 6 0 none,vb a7,.own 7 0 none,vi a8],.fr ⟨true,125⟩ 4 a9,.fr ⟨true,111⟩ 2 a10,.fr ⟨true,9⟩ 1 a11,.fr ⟨true,95⟩ 3 a12,.fr ⟨true,97⟩ 4 a13,.fr ⟨true,111⟩ 2 a14,.fr ⟨false,100⟩ 2 a15]
def Q1b.o (xs:List AV):Option Q1b.A:=match xs with | [.ptr 0 0,.sl ⟨true,9⟩ 1 a0,.tup [.fn 115 [.v (.bool a1),.v (.string a2),.v (.string a3),.own 1 0 none,.own 2 0 none,.v (.bool a4),.v (.string a5),.v (.string a6),.own 3 0 none,.own 4 0 none,.own 5 0 none,.own 6 0 none,.v (.bool a7),.own 7 0 none,.v (.int .i64 a8)],.fr ⟨true,125⟩ 4 a9,.fr ⟨true,111⟩ 2 a10,.fr ⟨true,9⟩ 1 a11,.fr ⟨true,95⟩ 3 a12,.fr ⟨true,97⟩ 4 a13,.fr ⟨true,111⟩ 2 a14,.fr ⟨false,100⟩ 2 a15]]=>some (a0,a1,a2,a3,a4,a5,a6,a7,a8,a9,a10,a11,a12,a13,a14,a15) | _=>none
theorem Q1b.oi:∀ xs a,Q1b.o xs=some a→xs=Q1b.i a++[.tup (Q1b.b a)]:=by
 intro xs a h
 unfold Q1b.o at h
 split at h
 ·cases h; rfl
 ·cases h
def Q1b.y (p:Q1b.T):AV:=vb p.1
def Q1b.w (p:Q1b.T):List AV:=[.fn 115 [vb p.2.1,vs p.2.2.1,vs p.2.2.2.1,.own 1 0 none,.own 2 0 none,vb p.2.2.2.2.1,vs p.2.2.2.2.2.1,vs p.2.2.2.2.2.2.1,.own 3 0 none,.own 4 0 none,.own 5 0 none,.own 6 0 none,vb p.2.2.2.2.2.2.2.1,.own 7 0 none,vi p.2.2.2.2.2.2.2.2.1],.fr ⟨true,125⟩ 4 p.2.2.2.2.2.2.2.2.2.1,.fr ⟨true,111⟩ 2 p.2.2.2.2.2.2.2.2.2.2.1,.fr ⟨true,9⟩ 1 p.2.2.2.2.2.2.2.2.2.2.2.1,.fr ⟨true,95⟩ 3 p.2.2.2.2.2.2.2.2.2.2.2.2.1,.fr ⟨true,97⟩ 4 p.2.2.2.2.2.2.2.2.2.2.2.2.2.1,.fr ⟨true,111⟩ 2 p.2.2.2.2.2.2.2.2.2.2.2.2.2.2.1,.fr ⟨false,100⟩ 2 p.2.2.2.2.2.2.2.2.2.2.2.2.2.2.2]
def Q1b.p (p:Q1b.T):AV:=.tup [Q1b.y p,.tup (Q1b.w p)]
def Q1b.q (x:AV):Option Q1b.T:=match x with | .tup [.v (.bool p0),.tup [.fn 115 [.v (.bool p1),.v (.string p2),.v (.string p3),.own 1 0 none,.own 2 0 none,.v (.bool p4),.v (.string p5),.v (.string p6),.own 3 0 none,.own 4 0 none,.own 5 0 none,.own 6 0 none,.v (.bool p7),.own 7 0 none,.v (.int .i64 p8)],.fr ⟨true,125⟩ 4 p9,.fr ⟨true,111⟩ 2 p10,.fr ⟨true,9⟩ 1 p11,.fr ⟨true,95⟩ 3 p12,.fr ⟨true,97⟩ 4 p13,.fr ⟨true,111⟩ 2 p14,.fr ⟨false,100⟩ 2 p15]]=>some (p0,p1,p2,p3,p4,p5,p6,p7,p8,p9,p10,p11,p12,p13,p14,p15) | _=>none
theorem Q1b.qi:∀ x p,Q1b.q x=some p→x=Q1b.p p:=by
 intro x p h
 unfold Q1b.q at h
 split at h
 ·cases h; rfl
 ·cases h
inductive Q1b.Z where
 | z3 (z1:Bool) (z2 z3:ByteArray) (z4:Bool) (z5 z6:ByteArray) (z7:Bool) (z8:Int) (z9 z10 z11 z12 z13 z14 z15:List AV)
 | z4 (z1:List AV) (z2 z3:Bool) (z4 z5:ByteArray) (z6:Bool) (z7 z8:ByteArray) (z9:Bool) (z10:Int) (z11 z12 z13 z14 z15 z16 z17:List AV)
def Q1b.C {R:Type} (n:Nat) (f:FuncId) (xs:List AV):(AV→Option R)→Option R:=
 bif Nat.beq f 113 then Q0p.via n xs else fun _=>none
theorem Q1b.tells {R:Type} (n:Nat):Tells (R:=R) Tryz.prog (Q1b.C n):=fun _ xs=>tells_at (Q0p.tells1 n xs) (Tells1.none)
def Q1b.cut (r:Nat):Option Keep:=match r with | 3=>some ⟨[],[]⟩ | 4=>some ⟨[0,1,5],[]⟩ | _=>none
def Q1b.t (z:Q1b.Z):List Item:=(todoOf (match z with | .z3 _ _ _ _ _ _ _ _ _ _ _ _ _ _ _=>3 | .z4 _ _ _ _ _ _ _ _ _ _ _ _ _ _ _ _ _=>4) 1000 [.code (Tryz.f65.body.getD .skip)]).getD []
def Q1b.s:Q1b.Z→St
 | .z3 z1 z2 z3 z4 z5 z6 z7 z8 z9 z10 z11 z12 z13 z14 z15=>⟨spr 83 0 [],Mem.ofList [.box 115 [vb z1,vs z2,vs z3,.own 1 0 none,.own 2 0 none,vb z4,vs z5,vs z6,.own 3 0 none,.own 4 0 none,.own 5 0 none,.own 6 0 none,vb z7,.own 7 0 none,vi z8],.row ⟨true,125⟩ 4 z9,.row ⟨true,111⟩ 2 z10,.row ⟨true,9⟩ 1 z11,.row ⟨true,95⟩ 3 z12,.row ⟨true,97⟩ 4 z13,.row ⟨true,111⟩ 2 z14,.row ⟨false,100⟩ 2 z15],8⟩
 | .z4 z1 z2 z3 z4 z5 z6 z7 z8 z9 z10 z11 z12 z13 z14 z15 z16 z17=>⟨spr 83 0 [(0,.ptr 0 0),(1,.sl ⟨true,9⟩ 1 z1),(5,vb z2)],Mem.ofList [.box 115 [vb z3,vs z4,vs z5,.own 1 0 none,.own 2 0 none,vb z6,vs z7,vs z8,.own 3 0 none,.own 4 0 none,.own 5 0 none,.own 6 0 none,vb z9,.own 7 0 none,vi z10],.row ⟨true,125⟩ 4 z11,.row ⟨true,111⟩ 2 z12,.row ⟨true,9⟩ 1 z13,.row ⟨true,95⟩ 3 z14,.row ⟨true,97⟩ 4 z15,.row ⟨true,111⟩ 2 z16,.row ⟨false,100⟩ 2 z17],8⟩
def Q1b.r3 (n:Nat) (c:Q1b.Z→Option Q1b.T) (z1:Bool) (z2 z3:ByteArray) (z4:Bool) (z5 z6:ByteArray) (z7:Bool) (z8:Int) (z9 z10 z11 z12 z13 z14 z15:List AV):Option Q1b.T:=
 some (false,z1,z2,z3,z4,z5,z6,z7,z8,z9,z10,z11,z12,z13,z14,z15)
def Q1b.r4 (n:Nat) (c:Q1b.Z→Option Q1b.T) (z1:List AV) (z2 z3:Bool) (z4 z5:ByteArray) (z6:Bool) (z7 z8:ByteArray) (z9:Bool) (z10:Int) (z11 z12 z13 z14 z15 z16 z17:List AV):Option Q1b.T:=
 bif decide ((0:Int) < (z1.length:Nat)) then (withCons ((z1.getD 0 .undef).cells) fun h56 r57=>
 withStr h56 fun s58=>
 let y59:Bool:=s58.toList==(⟨#[76,70]⟩ : ByteArray).toList
 bif y59 then (bif decide ((1:Int) < (z1.length:Nat)) then (withCons ((z1.getD 1 .undef).cells) fun h60 r61=>
 withStr h60 fun s62=>
 some (true,y59,z4,z5,z6,s62,z8,z2,z10,z11,z12,z13,z14,z15,z16,z17)) else none) else (bif decide ((1:Int) < (z1.length:Nat)) then (withCons ((z1.getD 1 .undef).cells) fun h63 r64=>
 withStr h63 fun s65=>
 some (true,y59,s65,z5,z2,z7,z8,z9,z10,z11,z12,z13,z14,z15,z16,z17)) else none)) else none
def Q1b.r (n:Nat) (c:Q1b.Z→Option Q1b.T):Q1b.Z→Option Q1b.T
 | .z3 z1 z2 z3 z4 z5 z6 z7 z8 z9 z10 z11 z12 z13 z14 z15=>Q1b.r3 n c z1 z2 z3 z4 z5 z6 z7 z8 z9 z10 z11 z12 z13 z14 z15
 | .z4 z1 z2 z3 z4 z5 z6 z7 z8 z9 z10 z11 z12 z13 z14 z15 z16 z17=>Q1b.r4 n c z1 z2 z3 z4 z5 z6 z7 z8 z9 z10 z11 z12 z13 z14 z15 z16 z17
def Q1b.e (n:Nat) (c:Q1b.Z→Option Q1b.T) (a0:List AV) (a1:Bool) (a2 a3:ByteArray) (a4:Bool) (a5 a6:ByteArray) (a7:Bool) (a8:Int) (a9 a10 a11 a12 a13 a14 a15:List AV):Option Q1b.T:=
 let y1:Bool:=((a0.length:Nat):Int)==3
 bif y1 then (bif decide ((2:Int) < (a0.length:Nat)) then (withCons ((a0.getD 2 .undef).cells) fun h2 r3=>
 withStr h2 fun s4=>
 let y5:Bool:=s4.toList==(⟨#[85,78,73,81,85,69]⟩ : ByteArray).toList
 let y6:Bool:=((a0.length:Nat):Int) != 2
 bif y6 then (bif !y5 then (c (.z3 a1 a2 a3 a4 a5 a6 a7 a8 a9 a10 a11 a12 a13 a14 a15)) else (bif decide ((0:Int) < (a0.length:Nat)) then (withCons ((a0.getD 0 .undef).cells) fun h7 r8=>
 withStr h7 fun s9=>
 let y10:Bool:=!(s9.toList==(⟨#[80,70]⟩ : ByteArray).toList)
 bif y10 then (bif decide ((0:Int) < (a0.length:Nat)) then (withCons ((a0.getD 0 .undef).cells) fun h11 r12=>
 withStr h11 fun s13=>
 let y14:Bool:=!(s13.toList==(⟨#[76,70]⟩ : ByteArray).toList)
 bif y14 then (c (.z3 a1 a2 a3 a4 a5 a6 a7 a8 a9 a10 a11 a12 a13 a14 a15)) else (bif decide ((1:Int) < (a0.length:Nat)) then (withCons ((a0.getD 1 .undef).cells) fun h15 r16=>
 withStr h15 fun s17=>
 (Q0p.F n [vs s17]).bind fun p18=>
 bif !p18 then (c (.z3 a1 a2 a3 a4 a5 a6 a7 a8 a9 a10 a11 a12 a13 a14 a15)) else (c (.z4 a0 y5 a1 a2 a3 a4 a5 a6 a7 a8 a9 a10 a11 a12 a13 a14 a15))) else none)) else none) else (bif decide ((1:Int) < (a0.length:Nat)) then (withCons ((a0.getD 1 .undef).cells) fun h19 r20=>
 withStr h19 fun s21=>
 (Q0p.F n [vs s21]).bind fun p22=>
 bif !p22 then (c (.z3 a1 a2 a3 a4 a5 a6 a7 a8 a9 a10 a11 a12 a13 a14 a15)) else (c (.z4 a0 y5 a1 a2 a3 a4 a5 a6 a7 a8 a9 a10 a11 a12 a13 a14 a15))) else none)) else none)) else (bif decide ((0:Int) < (a0.length:Nat)) then (withCons ((a0.getD 0 .undef).cells) fun h23 r24=>
 withStr h23 fun s25=>
 let y26:Bool:=!(s25.toList==(⟨#[80,70]⟩ : ByteArray).toList)
 bif y26 then (bif decide ((0:Int) < (a0.length:Nat)) then (withCons ((a0.getD 0 .undef).cells) fun h27 r28=>
 withStr h27 fun s29=>
 let y30:Bool:=!(s29.toList==(⟨#[76,70]⟩ : ByteArray).toList)
 bif y30 then (c (.z3 a1 a2 a3 a4 a5 a6 a7 a8 a9 a10 a11 a12 a13 a14 a15)) else (bif decide ((1:Int) < (a0.length:Nat)) then (withCons ((a0.getD 1 .undef).cells) fun h31 r32=>
 withStr h31 fun s33=>
 (Q0p.F n [vs s33]).bind fun p34=>
 bif !p34 then (c (.z3 a1 a2 a3 a4 a5 a6 a7 a8 a9 a10 a11 a12 a13 a14 a15)) else (c (.z4 a0 y5 a1 a2 a3 a4 a5 a6 a7 a8 a9 a10 a11 a12 a13 a14 a15))) else none)) else none) else (bif decide ((1:Int) < (a0.length:Nat)) then (withCons ((a0.getD 1 .undef).cells) fun h35 r36=>
 withStr h35 fun s37=>
 (Q0p.F n [vs s37]).bind fun p38=>
 bif !p38 then (c (.z3 a1 a2 a3 a4 a5 a6 a7 a8 a9 a10 a11 a12 a13 a14 a15)) else (c (.z4 a0 y5 a1 a2 a3 a4 a5 a6 a7 a8 a9 a10 a11 a12 a13 a14 a15))) else none)) else none)) else none) else (let y39:Bool:=((a0.length:Nat):Int) != 2
 bif y39 then (c (.z3 a1 a2 a3 a4 a5 a6 a7 a8 a9 a10 a11 a12 a13 a14 a15)) else (bif decide ((0:Int) < (a0.length:Nat)) then (withCons ((a0.getD 0 .undef).cells) fun h40 r41=>
 withStr h40 fun s42=>
 let y43:Bool:=!(s42.toList==(⟨#[80,70]⟩ : ByteArray).toList)
 bif y43 then (bif decide ((0:Int) < (a0.length:Nat)) then (withCons ((a0.getD 0 .undef).cells) fun h44 r45=>
 withStr h44 fun s46=>
 let y47:Bool:=!(s46.toList==(⟨#[76,70]⟩ : ByteArray).toList)
 bif y47 then (c (.z3 a1 a2 a3 a4 a5 a6 a7 a8 a9 a10 a11 a12 a13 a14 a15)) else (bif decide ((1:Int) < (a0.length:Nat)) then (withCons ((a0.getD 1 .undef).cells) fun h48 r49=>
 withStr h48 fun s50=>
 (Q0p.F n [vs s50]).bind fun p51=>
 bif !p51 then (c (.z3 a1 a2 a3 a4 a5 a6 a7 a8 a9 a10 a11 a12 a13 a14 a15)) else (c (.z4 a0 false a1 a2 a3 a4 a5 a6 a7 a8 a9 a10 a11 a12 a13 a14 a15))) else none)) else none) else (bif decide ((1:Int) < (a0.length:Nat)) then (withCons ((a0.getD 1 .undef).cells) fun h52 r53=>
 withStr h52 fun s54=>
 (Q0p.F n [vs s54]).bind fun p55=>
 bif !p55 then (c (.z3 a1 a2 a3 a4 a5 a6 a7 a8 a9 a10 a11 a12 a13 a14 a15)) else (c (.z4 a0 false a1 a2 a3 a4 a5 a6 a7 a8 a9 a10 a11 a12 a13 a14 a15))) else none)) else none))
def Q1b.E (n:Nat) (c:Q1b.Z→Option Q1b.T):Q1b.A→Option Q1b.T:=fun (a0,a1,a2,a3,a4,a5,a6,a7,a8,a9,a10,a11,a12,a13,a14,a15)=>Q1b.e n c a0 a1 a2 a3 a4 a5 a6 a7 a8 a9 a10 a11 a12 a13 a14 a15
def Q1b.l (n:Nat):Nat→Q1b.Z→Option Q1b.T:=loopL (Q1b.r n)
def Q1b.F (n:Nat) (a0:List AV) (a1:Bool) (a2 a3:ByteArray) (a4:Bool) (a5 a6:ByteArray) (a7:Bool) (a8:Int) (a9 a10 a11 a12 a13 a14 a15:List AV):Option Q1b.T:=Q1b.e n (Q1b.l n n) a0 a1 a2 a3 a4 a5 a6 a7 a8 a9 a10 a11 a12 a13 a14 a15
def Q1b.FA (n:Nat):Q1b.A→Option Q1b.T:=Q1b.E n (Q1b.l n n)
def Q1b.nils:List (Nat × Nat × Fl × Nat):=[]
theorem Q1b.hands (n:Nat):∀ a p,Q1b.FA n a=some p→HandsMIn Tryz.prog 65 (Q1b.i a) (Q1b.b a) (Q1b.y p) (Q1b.w p):=
 pfM_hands (G:=Gk 1) (C:=Q1b.C n) (cut:=Q1b.cut) (t:=Q1b.t) (s:=Q1b.s) (nils:=Q1b.nils) (e:=Q1b.E n) (r:=Q1b.r n) (n:=n) (cfg.kb 1) mixed globs Q1b.qi (fun a=>by kernel_rfl) (Q1b.tells n) Tryz.func65 (by kernel_rfl) (by kernel_rfl) (fun rec a=>by kernel_rfl) (fun rec z=>by cases z <;> kernel_rfl)
def Q1b.via {R:Type} (n:Nat):List AV→(AV→Option R)→Option R:=viaK (Q1b.FA n) Q1b.o Q1b.p
theorem Q1b.tells1 {R:Type} (n:Nat) (xs:List AV):Tells1 (R:=R) Tryz.prog 65 xs (Q1b.via n xs):=tells_viaM (fun _=>rfl) Q1b.oi (Q1b.hands n) xs
end Go.Proofs.YtmpglmcjoelciaaGreatDoor.Ev
namespace Go.Proofs.YtmpglmcjoelciaaGreatDoor.Ev
open Go Go.Proofs Go.Proofs.Ev
set_option linter.unusedVariables false
set_option maxRecDepth 100000
abbrev Q0x.A:=ByteArray × ByteArray × List AV × List AV × List AV × List AV × Bool × List AV
abbrev Q0x.T:=Int
def Q0x.i:Q0x.A→List AV:=fun (a0,a1,a2,a3,a4,a5,a6,a7)=>[AV.agg [vs a0,vs a1,.sl ⟨true,9⟩ 1 a2,.sl ⟨true,95⟩ 3 a3,.sl ⟨true,97⟩ 4 a4,.sl ⟨true,111⟩ 2 a5,vb a6,.sl ⟨false,100⟩ 2 a7]]
def Q0x.o (xs:List AV):Option Q0x.A:=match xs with | [.agg [.v (.string a0),.v (.string a1),.sl ⟨true,9⟩ 1 a2,.sl ⟨true,95⟩ 3 a3,.sl ⟨true,97⟩ 4 a4,.sl ⟨true,111⟩ 2 a5,.v (.bool a6),.sl ⟨false,100⟩ 2 a7]]=>some (a0,a1,a2,a3,a4,a5,a6,a7) | _=>none
theorem Q0x.oi:∀ xs a,Q0x.o xs=some a→xs=Q0x.i a:=by
 intro xs a h
 unfold Q0x.o at h
 split at h
 ·cases h; rfl
 ·cases h
def Q0x.p (p:Q0x.T):AV:=vi p
def Q0x.q (x:AV):Option Q0x.T:=match x with | .v (.int .i64 p0)=>some p0 | _=>none
theorem Q0x.qi:∀ x p,Q0x.q x=some p→x=Q0x.p p:=by
 intro x p h
 unfold Q0x.q at h
 split at h
 ·cases h; rfl
 ·cases h
def Q0x.C {R:Type} (n:Nat) (f:FuncId) (xs:List AV):(AV→Option R)→Option R:=
 bif Nat.beq f 17 then Q04.via n xs else fun _=>none
theorem Q0x.tells {R:Type} (n:Nat):Tells (R:=R) Tryz.prog (Q0x.C n):=fun _ xs=>tells_at (Q04.tells1 n xs) (Tells1.none)
def Q0x.cut (r:Nat):Option Keep:=match r with  | _=>none
def Q0x.e (n:Nat) (a0 a1:ByteArray) (a2 a3 a4 a5:List AV) (a6:Bool) (a7:List AV):Option Int:=
 (Q04.F n a0 a1 a2 a3 a4 a5 a6 a7).bind fun p1=>
 some p1.2
def Q0x.E (n:Nat):Q0x.A→Option Q0x.T:=fun (a0,a1,a2,a3,a4,a5,a6,a7)=>Q0x.e n a0 a1 a2 a3 a4 a5 a6 a7
def Q0x.F (n:Nat) (a0 a1:ByteArray) (a2 a3 a4 a5:List AV) (a6:Bool) (a7:List AV):Option Int:=Q0x.e n a0 a1 a2 a3 a4 a5 a6 a7
def Q0x.FA (n:Nat):Q0x.A→Option Q0x.T:=Q0x.E n
theorem Q0x.hands (n:Nat):∀ a p,Q0x.FA n a=some p→HandsIn Tryz.prog 114 (Q0x.i a) (Q0x.p p):=
 pf_hands (C:=Q0x.C n) (cut:=Q0x.cut) (Z:=Empty) (t:=nofun) (s:=nofun) (e:=fun _=>Q0x.E n) (r:=fun _ z=>nomatch z) (n:=n) cfg mixed globs rfl Q0x.qi (Q0x.tells n) Tryz.func114 (by kernel_rfl) (by kernel_rfl) (fun rec a=>by kernel_rfl) (fun rec z=>nomatch z)
def Q0x.via {R:Type} (n:Nat):List AV→(AV→Option R)→Option R:=viaK (Q0x.FA n) Q0x.o Q0x.p
theorem Q0x.tells1 {R:Type} (n:Nat) (xs:List AV):Tells1 (R:=R) Tryz.prog 114 xs (Q0x.via n xs):=tells_via Q0x.oi (fun a=>by kernel_rfl) (Q0x.hands n) xs
end Go.Proofs.YtmpglmcjoelciaaGreatDoor.Ev
namespace Go.Proofs.YtmpglmcjoelciaaGreatDoor.Ev
open Go Go.Proofs Go.Proofs.Ev
set_option linter.unusedVariables false
set_option maxRecDepth 100000
abbrev Q44.A:=Int × Int × Int
abbrev Q44.T:=Int
def Q44.i:Q44.A→List AV:=fun (a0,a1,a2)=>[AV.agg [vi a0,vi a1,vi a2]]
def Q44.o (xs:List AV):Option Q44.A:=match xs with | [.agg [.v (.int .i64 a0),.v (.int .i64 a1),.v (.int .i64 a2)]]=>some (a0,a1,a2) | _=>none
theorem Q44.oi:∀ xs a,Q44.o xs=some a→xs=Q44.i a:=by
 intro xs a h
 unfold Q44.o at h
 split at h
 ·cases h; rfl
 ·cases h
def Q44.p (p:Q44.T):AV:=vi p
def Q44.q (x:AV):Option Q44.T:=match x with | .v (.int .i64 p0)=>some p0 | _=>none
theorem Q44.qi:∀ x p,Q44.q x=some p→x=Q44.p p:=by
 intro x p h
 unfold Q44.q at h
 split at h
 ·cases h; rfl
 ·cases h
def Q44.C {R:Type} (n:Nat) (f:FuncId) (xs:List AV):(AV→Option R)→Option R:=
 fun _=>none
theorem Q44.tells {R:Type} (n:Nat):Tells (R:=R) Tryz.prog (Q44.C n):=fun _ xs=>Tells1.none
def Q44.cut (r:Nat):Option Keep:=match r with  | _=>none
def Q44.e (n:Nat) (a0 a1 a2:Int):Option Int:=
 bif a0==1 then (let y1:Int:=IntKind.i64.wrap (Int.tdiv a1 2)
 some (IntKind.i64.wrap (y1+1))) else (bif a0==3 then (let y2:Int:=IntKind.i64.wrap (Int.tdiv a1 9)
 let y3:Int:=IntKind.i64.wrap ((2:Int)+(IntKind.i64.wrap (y2*2)))
 some y3) else (bif a0==4 then (some 16) else (some a1)))
def Q44.E (n:Nat):Q44.A→Option Q44.T:=fun (a0,a1,a2)=>Q44.e n a0 a1 a2
def Q44.F (n:Nat) (a0 a1 a2:Int):Option Int:=Q44.e n a0 a1 a2
def Q44.FA (n:Nat):Q44.A→Option Q44.T:=Q44.E n
theorem Q44.hands (n:Nat):∀ a p,Q44.FA n a=some p→HandsIn Tryz.prog 180 (Q44.i a) (Q44.p p):=
 pf_hands (C:=Q44.C n) (cut:=Q44.cut) (Z:=Empty) (t:=nofun) (s:=nofun) (e:=fun _=>Q44.E n) (r:=fun _ z=>nomatch z) (n:=n) cfg mixed globs rfl Q44.qi (Q44.tells n) Tryz.func180 (by kernel_rfl) (by kernel_rfl) (fun rec a=>by kernel_rfl) (fun rec z=>nomatch z)
def Q44.via {R:Type} (n:Nat):List AV→(AV→Option R)→Option R:=viaK (Q44.FA n) Q44.o Q44.p
theorem Q44.tells1 {R:Type} (n:Nat) (xs:List AV):Tells1 (R:=R) Tryz.prog 180 xs (Q44.via n xs):=tells_via Q44.oi (fun a=>by kernel_rfl) (Q44.hands n) xs
end Go.Proofs.YtmpglmcjoelciaaGreatDoor.Ev
namespace Go.Proofs.YtmpglmcjoelciaaGreatDoor.Ev
open Go Go.Proofs Go.Proofs.Ev
set_option linter.unusedVariables false
set_option maxRecDepth 100000
abbrev Q3w.A:=Int × Int × Int
abbrev Q3w.T:=Int × Int
def Q3w.i:Q3w.A→List AV:=fun (a0,a1,a2)=>[AV.agg [vi a0,vi a1,vi a2]]
def Q3w.o (xs:List AV):Option Q3w.A:=match xs with | [.agg [.v (.int .i64 a0),.v (.int .i64 a1),.v (.int .i64 a2)]]=>some (a0,a1,a2) | _=>none
theorem Q3w.oi:∀ xs a,Q3w.o xs=some a→xs=Q3w.i a:=by
 intro xs a h
 unfold Q3w.o at h
 split at h
 ·cases h; rfl
 ·cases h
def Q3w.p (p:Q3w.T):AV:=.tup [vi p.1,vi p.2]
def Q3w.q (x:AV):Option Q3w.T:=match x with | .tup [.v (.int .i64 p0),.v (.int .i64 p1)]=>some (p0,p1) | _=>none
theorem Q3w.qi:∀ x p,Q3w.q x=some p→x=Q3w.p p:=by
 intro x p h
 unfold Q3w.q at h
 split at h
 ·cases h; rfl
 ·cases h
def Q3w.C {R:Type} (n:Nat) (f:FuncId) (xs:List AV):(AV→Option R)→Option R:=
 bif Nat.beq f 84 then Q3t.via n xs else bif Nat.beq f 180 then Q44.via n xs else fun _=>none
theorem Q3w.tells {R:Type} (n:Nat):Tells (R:=R) Tryz.prog (Q3w.C n):=fun _ xs=>tells_at (Q3t.tells1 n xs) (tells_at (Q44.tells1 n xs) (Tells1.none))
def Q3w.cut (r:Nat):Option Keep:=match r with  | _=>none
def Q3w.e (n:Nat) (a0 a1 a2:Int):Option (Int × Int):=
 (Q3t.F n a0 a1 a2).bind fun p1=>
 bif p1 != 0 then (some (0,p1)) else ((Q44.F n a0 a1 a2).bind fun p2=>
 some (p2,0))
def Q3w.E (n:Nat):Q3w.A→Option Q3w.T:=fun (a0,a1,a2)=>Q3w.e n a0 a1 a2
def Q3w.F (n:Nat) (a0 a1 a2:Int):Option (Int × Int):=Q3w.e n a0 a1 a2
def Q3w.FA (n:Nat):Q3w.A→Option Q3w.T:=Q3w.E n
theorem Q3w.hands (n:Nat):∀ a p,Q3w.FA n a=some p→HandsIn Tryz.prog 159 (Q3w.i a) (Q3w.p p):=
 pf_hands (C:=Q3w.C n) (cut:=Q3w.cut) (Z:=Empty) (t:=nofun) (s:=nofun) (e:=fun _=>Q3w.E n) (r:=fun _ z=>nomatch z) (n:=n) cfg mixed globs rfl Q3w.qi (Q3w.tells n) Tryz.func159 (by kernel_rfl) (by kernel_rfl) (fun rec a=>by kernel_rfl) (fun rec z=>nomatch z)
def Q3w.via {R:Type} (n:Nat):List AV→(AV→Option R)→Option R:=viaK (Q3w.FA n) Q3w.o Q3w.p
theorem Q3w.tells1 {R:Type} (n:Nat) (xs:List AV):Tells1 (R:=R) Tryz.prog 159 xs (Q3w.via n xs):=tells_via Q3w.oi (fun a=>by kernel_rfl) (Q3w.hands n) xs
end Go.Proofs.YtmpglmcjoelciaaGreatDoor.Ev
namespace Go.Proofs.YtmpglmcjoelciaaGreatDoor.Ev
open Go Go.Proofs Go.Proofs.Ev
set_option linter.unusedVariables false
set_option maxRecDepth 100000
abbrev Q17.A:=List AV
abbrev Q17.T:=Int
def Q17.i:Q17.A→List AV:=fun a0=>[.sl ⟨true,125⟩ 4 a0]
def Q17.o (xs:List AV):Option Q17.A:=match xs with | [.sl ⟨true,125⟩ 4 a0]=>some a0 | _=>none
theorem Q17.oi:∀ xs a,Q17.o xs=some a→xs=Q17.i a:=by
 intro xs a h
 unfold Q17.o at h
 split at h
 ·cases h; rfl
 ·cases h
def Q17.p (p:Q17.T):AV:=vi p
def Q17.q (x:AV):Option Q17.T:=match x with | .v (.int .i64 p0)=>some p0 | _=>none
theorem Q17.qi:∀ x p,Q17.q x=some p→x=Q17.p p:=by
 intro x p h
 unfold Q17.q at h
 split at h
 ·cases h; rfl
 ·cases h
inductive Q17.Z where
 | z3 (z1:Int) (z2:List AV) (z3 z4:Int)
def Q17.C {R:Type} (n:Nat) (f:FuncId) (xs:List AV):(AV→Option R)→Option R:=
 bif Nat.beq f 159 then Q3w.via n xs else fun _=>none
theorem Q17.tells {R:Type} (n:Nat):Tells (R:=R) Tryz.prog (Q17.C n):=fun _ xs=>tells_at (Q3w.tells1 n xs) (Tells1.none)
def Q17.cut (r:Nat):Option Keep:=match r with | 3=>some ⟨[3,8,9,10],[]⟩ | _=>none
def Q17.t (z:Q17.Z):List Item:=(todoOf (match z with | .z3 _ _ _ _=>3) 1000 [.code (Tryz.f137.body.getD .skip)]).getD []
def Q17.s:Q17.Z→St
 | .z3 z1 z2 z3 z4=>⟨spr 25 0 [(3,vi z1),(8,.sl ⟨true,125⟩ 4 z2),(9,vi z3),(10,vi z4)],Mem.ofList [],0⟩
def Q17.r3 (n:Nat) (c:Q17.Z→Option Int) (z1:Int) (z2:List AV) (z3 z4:Int):Option Int:=
 bif decide (z4 < z3) then (bif decide ((0:Int)≤z4)&&decide (z4 < ((z2.length:Nat):Int)) then (withCons ((z2.getD ((z4).toNat) .undef).cells) fun h1 r2=>
 withStr h1 fun s3=>
 withCons r2 fun h4 r5=>
 withInt .i64 h4 fun x6=>
 withCons r5 fun h7 r8=>
 withInt .i64 h7 fun x9=>
 withCons r8 fun h10 r11=>
 withInt .i64 h10 fun x12=>
 (Q3w.F n x6 x9 x12).bind fun p13=>
 let y14:Int:=IntKind.i64.wrap (z1+p13.1)
 c (.z3 y14 z2 z3 (IntKind.i64.wrap (z4+1)))) else none) else (some z1)
def Q17.r (n:Nat) (c:Q17.Z→Option Int):Q17.Z→Option Int
 | .z3 z1 z2 z3 z4=>Q17.r3 n c z1 z2 z3 z4
def Q17.e (n:Nat) (c:Q17.Z→Option Int) (a0:List AV):Option Int:=
 c (.z3 0 a0 ((a0.length:Nat):Int) 0)
def Q17.E (n:Nat) (c:Q17.Z→Option Int):Q17.A→Option Q17.T:=fun a0=>Q17.e n c a0
def Q17.l (n:Nat):Nat→Q17.Z→Option Int:=loopL (Q17.r n)
def Q17.F (n:Nat) (a0:List AV):Option Int:=Q17.e n (Q17.l n n) a0
def Q17.FA (n:Nat):Q17.A→Option Q17.T:=Q17.E n (Q17.l n n)
theorem Q17.hands (n:Nat):∀ a p,Q17.FA n a=some p→HandsIn Tryz.prog 137 (Q17.i a) (Q17.p p):=
 pf_hands (C:=Q17.C n) (cut:=Q17.cut) (t:=Q17.t) (s:=Q17.s) (e:=Q17.E n) (r:=Q17.r n) (n:=n) cfg mixed globs rfl Q17.qi (Q17.tells n) Tryz.func137 (by kernel_rfl) (by kernel_rfl) (fun rec a=>by kernel_rfl) (fun rec z=>by cases z <;> kernel_rfl)
def Q17.via {R:Type} (n:Nat):List AV→(AV→Option R)→Option R:=viaK (Q17.FA n) Q17.o Q17.p
theorem Q17.tells1 {R:Type} (n:Nat) (xs:List AV):Tells1 (R:=R) Tryz.prog 137 xs (Q17.via n xs):=tells_via Q17.oi (fun a=>by kernel_rfl) (Q17.hands n) xs
end Go.Proofs.YtmpglmcjoelciaaGreatDoor.Ev
namespace Go.Proofs.YtmpglmcjoelciaaGreatDoor.Ev
open Go Go.Proofs Go.Proofs.Ev
set_option linter.unusedVariables false
set_option maxRecDepth 100000
abbrev Q0j.A:=ByteArray × ByteArray × List AV × List AV × Bool
abbrev Q0j.T:=Int
def Q0j.i:Q0j.A→List AV:=fun (a0,a1,a2,a3,a4)=>[AV.agg [vs a0,vs a1,.sl ⟨true,125⟩ 4 a2,.sl ⟨true,111⟩ 2 a3,vb a4]]
def Q0j.o (xs:List AV):Option Q0j.A:=match xs with | [.agg [.v (.string a0),.v (.string a1),.sl ⟨true,125⟩ 4 a2,.sl ⟨true,111⟩ 2 a3,.v (.bool a4)]]=>some (a0,a1,a2,a3,a4) | _=>none
theorem Q0j.oi:∀ xs a,Q0j.o xs=some a→xs=Q0j.i a:=by
 intro xs a h
 unfold Q0j.o at h
 split at h
 ·cases h; rfl
 ·cases h
def Q0j.p (p:Q0j.T):AV:=vi p
def Q0j.q (x:AV):Option Q0j.T:=match x with | .v (.int .i64 p0)=>some p0 | _=>none
theorem Q0j.qi:∀ x p,Q0j.q x=some p→x=Q0j.p p:=by
 intro x p h
 unfold Q0j.q at h
 split at h
 ·cases h; rfl
 ·cases h
inductive Q0j.Z where
 | z7 (z1 z2:List AV) (z3 z4:Int) (z5 z6:ByteArray) (z7 z8:List AV) (z9:Bool) (z10:List AV)
def Q0j.C {R:Type} (n:Nat) (f:FuncId) (xs:List AV):(AV→Option R)→Option R:=
 bif Nat.beq f 44 then Q0m.via n xs else bif Nat.beq f 45 then Q0f.via n xs else bif Nat.beq f 51 then Q0r.via n xs else bif Nat.beq f 56 then Q0w.via n xs else bif Nat.beq f 84 then Q3t.via n xs else bif Nat.beq f 99 then Q0y.via n xs else bif Nat.beq f 137 then Q17.via n xs else fun _=>none
theorem Q0j.tells {R:Type} (n:Nat):Tells (R:=R) Tryz.prog (Q0j.C n):=fun _ xs=>tells_at (Q0m.tells1 n xs) (tells_at (Q0f.tells1 n xs) (tells_at (Q0r.tells1 n xs) (tells_at (Q0w.tells1 n xs) (tells_at (Q3t.tells1 n xs) (tells_at (Q0y.tells1 n xs) (tells_at (Q17.tells1 n xs) (Tells1.none)))))))
def Q0j.cut (r:Nat):Option Keep:=match r with | 7=>some ⟨[1,3,5,38,39,40],[(5,none,⟨true,9⟩,1)]⟩ | _=>none
def Q0j.t (z:Q0j.Z):List Item:=(todoOf (match z with | .z7 _ _ _ _ _ _ _ _ _ _=>7) 1000 [.code (Tryz.f115.body.getD .skip)]).getD []
def Q0j.s:Q0j.Z→St
 | .z7 z1 z2 z3 z4 z5 z6 z7 z8 z9 z10=>⟨spr 78 0 [(1,.ptr 0 0),(3,.sl ⟨true,125⟩ 4 z1),(5,.own 1 0 none),(38,.sl ⟨true,125⟩ 4 z2),(39,vi z3),(40,vi z4)],Mem.ofList [.box 48 [vs z5,vs z6,.sl ⟨true,125⟩ 4 z7,.sl ⟨true,111⟩ 2 z8,vb z9],.row ⟨true,9⟩ 1 z10],2⟩
def Q0j.r7 (n:Nat) (c:Q0j.Z→Option Int) (z1 z2:List AV) (z3 z4:Int) (z5 z6:ByteArray) (z7 z8:List AV) (z9:Bool) (z10:List AV):Option Int:=
 bif decide (z4 < z3) then (bif decide ((0:Int)≤z4)&&decide (z4 < ((z2.length:Nat):Int)) then (withCons ((z2.getD ((z4).toNat) .undef).cells) fun h10 r11=>
 withStr h10 fun s12=>
 withCons r11 fun h13 r14=>
 withInt .i64 h13 fun x15=>
 withCons r14 fun h16 r17=>
 withInt .i64 h16 fun x18=>
 withCons r17 fun h19 r20=>
 withInt .i64 h19 fun x21=>
 (Q0y.F n s12 z10).bind fun p22=>
 (Q3t.F n x15 x18 x21).bind fun p23=>
 (Q0f.F n (x15==4) 17).bind fun p24=>
 (Q0m.F n [vi p22,vi p23,vi p24]).bind fun p25=>
 bif p25 != 0 then (some p25) else (bif decide (z10.length+[vs s12].length≤most) then (c (.z7 z1 z2 z3 (IntKind.i64.wrap (z4+1)) z5 z6 z7 z8 z9 (z10++[vs s12]))) else none)) else none) else ((Q17.F n z1).bind fun p26=>
 bif decide (p26 > 200) then (some 18) else ((Q0w.F n z8 z10).bind fun p27=>
 some p27.2))
def Q0j.r (n:Nat) (c:Q0j.Z→Option Int):Q0j.Z→Option Int
 | .z7 z1 z2 z3 z4 z5 z6 z7 z8 z9 z10=>Q0j.r7 n c z1 z2 z3 z4 z5 z6 z7 z8 z9 z10
def Q0j.e (n:Nat) (c:Q0j.Z→Option Int) (a0 a1:ByteArray) (a2 a3:List AV) (a4:Bool):Option Int:=
 (Q0r.F n a0).bind fun p1=>
 (Q0f.F n (!p1) 7).bind fun p2=>
 (Q0r.F n a1).bind fun p3=>
 (Q0f.F n (!p3) 7).bind fun p4=>
 let y5:Bool:=((a2.length:Nat):Int)==0
 (Q0f.F n y5 1).bind fun p6=>
 let y7:Bool:=decide (((a2.length:Nat):Int) > 20)
 (Q0f.F n y7 2).bind fun p8=>
 (Q0m.F n [vi p2,vi p4,vi p6,vi p8]).bind fun p9=>
 bif p9 != 0 then (some p9) else (c (.z7 a2 a2 ((a2.length:Nat):Int) 0 a0 a1 a2 a3 a4 []))
def Q0j.E (n:Nat) (c:Q0j.Z→Option Int):Q0j.A→Option Q0j.T:=fun (a0,a1,a2,a3,a4)=>Q0j.e n c a0 a1 a2 a3 a4
def Q0j.l (n:Nat):Nat→Q0j.Z→Option Int:=loopL (Q0j.r n)
def Q0j.F (n:Nat) (a0 a1:ByteArray) (a2 a3:List AV) (a4:Bool):Option Int:=Q0j.e n (Q0j.l n n) a0 a1 a2 a3 a4
def Q0j.FA (n:Nat):Q0j.A→Option Q0j.T:=Q0j.E n (Q0j.l n n)
theorem Q0j.hands (n:Nat):∀ a p,Q0j.FA n a=some p→HandsIn Tryz.prog 115 (Q0j.i a) (Q0j.p p):=
 pf_hands (C:=Q0j.C n) (cut:=Q0j.cut) (t:=Q0j.t) (s:=Q0j.s) (e:=Q0j.E n) (r:=Q0j.r n) (n:=n) cfg mixed globs rfl Q0j.qi (Q0j.tells n) Tryz.func115 (by kernel_rfl) (by kernel_rfl) (fun rec a=>by kernel_rfl) (fun rec z=>by cases z <;> kernel_rfl)
def Q0j.via {R:Type} (n:Nat):List AV→(AV→Option R)→Option R:=viaK (Q0j.FA n) Q0j.o Q0j.p
theorem Q0j.tells1 {R:Type} (n:Nat) (xs:List AV):Tells1 (R:=R) Tryz.prog 115 xs (Q0j.via n xs):=tells_via Q0j.oi (fun a=>by kernel_rfl) (Q0j.hands n) xs
end Go.Proofs.YtmpglmcjoelciaaGreatDoor.Ev
namespace Go.Proofs.YtmpglmcjoelciaaGreatDoor.Ev
open Go Go.Proofs Go.Proofs.Ev
set_option linter.unusedVariables false
set_option maxRecDepth 100000
abbrev Q0h.A:=Bool × ByteArray × ByteArray × List AV × List AV × Bool × ByteArray × ByteArray × List AV × List AV × List AV × List AV × Bool × List AV
abbrev Q0h.T:=Int
def Q0h.i:Q0h.A→List AV:=fun (a0,a1,a2,a3,a4,a5,a6,a7,a8,a9,a10,a11,a12,a13)=>[AV.agg [vb a0,vs a1,vs a2,.sl ⟨true,125⟩ 4 a3,.sl ⟨true,111⟩ 2 a4,vb a5,vs a6,vs a7,.sl ⟨true,9⟩ 1 a8,.sl ⟨true,95⟩ 3 a9,.sl ⟨true,97⟩ 4 a10,.sl ⟨true,111⟩ 2 a11,vb a12,.sl ⟨false,100⟩ 2 a13]]
def Q0h.o (xs:List AV):Option Q0h.A:=match xs with | [.agg [.v (.bool a0),.v (.string a1),.v (.string a2),.sl ⟨true,125⟩ 4 a3,.sl ⟨true,111⟩ 2 a4,.v (.bool a5),.v (.string a6),.v (.string a7),.sl ⟨true,9⟩ 1 a8,.sl ⟨true,95⟩ 3 a9,.sl ⟨true,97⟩ 4 a10,.sl ⟨true,111⟩ 2 a11,.v (.bool a12),.sl ⟨false,100⟩ 2 a13]]=>some (a0,a1,a2,a3,a4,a5,a6,a7,a8,a9,a10,a11,a12,a13) | _=>none
theorem Q0h.oi:∀ xs a,Q0h.o xs=some a→xs=Q0h.i a:=by
 intro xs a h
 unfold Q0h.o at h
 split at h
 ·cases h; rfl
 ·cases h
def Q0h.p (p:Q0h.T):AV:=vi p
def Q0h.q (x:AV):Option Q0h.T:=match x with | .v (.int .i64 p0)=>some p0 | _=>none
theorem Q0h.qi:∀ x p,Q0h.q x=some p→x=Q0h.p p:=by
 intro x p h
 unfold Q0h.q at h
 split at h
 ·cases h; rfl
 ·cases h
def Q0h.C {R:Type} (n:Nat) (f:FuncId) (xs:List AV):(AV→Option R)→Option R:=
 bif Nat.beq f 114 then Q0x.via n xs else bif Nat.beq f 115 then Q0j.via n xs else fun _=>none
theorem Q0h.tells {R:Type} (n:Nat):Tells (R:=R) Tryz.prog (Q0h.C n):=fun _ xs=>tells_at (Q0x.tells1 n xs) (tells_at (Q0j.tells1 n xs) (Tells1.none))
def Q0h.cut (r:Nat):Option Keep:=match r with  | _=>none
def Q0h.e (n:Nat) (a0:Bool) (a1 a2:ByteArray) (a3 a4:List AV) (a5:Bool) (a6 a7:ByteArray) (a8 a9 a10 a11:List AV) (a12:Bool) (a13:List AV):Option Int:=
 bif a0 then ((Q0x.F n a6 a7 a8 a9 a10 a11 a12 a13).bind fun p1=>
 some p1) else ((Q0j.F n a1 a2 a3 a4 a5).bind fun p2=>
 some p2)
def Q0h.E (n:Nat):Q0h.A→Option Q0h.T:=fun (a0,a1,a2,a3,a4,a5,a6,a7,a8,a9,a10,a11,a12,a13)=>Q0h.e n a0 a1 a2 a3 a4 a5 a6 a7 a8 a9 a10 a11 a12 a13
def Q0h.F (n:Nat) (a0:Bool) (a1 a2:ByteArray) (a3 a4:List AV) (a5:Bool) (a6 a7:ByteArray) (a8 a9 a10 a11:List AV) (a12:Bool) (a13:List AV):Option Int:=Q0h.e n a0 a1 a2 a3 a4 a5 a6 a7 a8 a9 a10 a11 a12 a13
def Q0h.FA (n:Nat):Q0h.A→Option Q0h.T:=Q0h.E n
theorem Q0h.hands (n:Nat):∀ a p,Q0h.FA n a=some p→HandsIn Tryz.prog 66 (Q0h.i a) (Q0h.p p):=
 pf_hands (C:=Q0h.C n) (cut:=Q0h.cut) (Z:=Empty) (t:=nofun) (s:=nofun) (e:=fun _=>Q0h.E n) (r:=fun _ z=>nomatch z) (n:=n) cfg mixed globs rfl Q0h.qi (Q0h.tells n) Tryz.func66 (by kernel_rfl) (by kernel_rfl) (fun rec a=>by kernel_rfl) (fun rec z=>nomatch z)
def Q0h.via {R:Type} (n:Nat):List AV→(AV→Option R)→Option R:=viaK (Q0h.FA n) Q0h.o Q0h.p
theorem Q0h.tells1 {R:Type} (n:Nat) (xs:List AV):Tells1 (R:=R) Tryz.prog 66 xs (Q0h.via n xs):=tells_via Q0h.oi (fun a=>by kernel_rfl) (Q0h.hands n) xs
end Go.Proofs.YtmpglmcjoelciaaGreatDoor.Ev
namespace Go.Proofs.YtmpglmcjoelciaaGreatDoor.Ev
open Go Go.Proofs Go.Proofs.Ev
set_option linter.unusedVariables false
set_option maxRecDepth 100000
abbrev Q0c.A:=List AV
abbrev Q0c.T:=Bool × ByteArray × ByteArray × List AV × List AV × Bool × ByteArray × ByteArray × List AV × List AV × List AV × List AV × Bool × List AV × Int × Int
def Q0c.i:Q0c.A→List AV:=fun a0=>[.sl ⟨true,9⟩ 1 a0]
def Q0c.o (xs:List AV):Option Q0c.A:=match xs with | [.sl ⟨true,9⟩ 1 a0]=>some a0 | _=>none
theorem Q0c.oi:∀ xs a,Q0c.o xs=some a→xs=Q0c.i a:=by
 intro xs a h
 unfold Q0c.o at h
 split at h
 ·cases h; rfl
 ·cases h
def Q0c.p (p:Q0c.T):AV:=.tup [AV.agg [vb p.1,vs p.2.1,vs p.2.2.1,.fr ⟨true,125⟩ 4 p.2.2.2.1,.fr ⟨true,111⟩ 2 p.2.2.2.2.1,vb p.2.2.2.2.2.1,vs p.2.2.2.2.2.2.1,vs p.2.2.2.2.2.2.2.1,.fr ⟨true,9⟩ 1 p.2.2.2.2.2.2.2.2.1,.fr ⟨true,95⟩ 3 p.2.2.2.2.2.2.2.2.2.1,.fr ⟨true,97⟩ 4 p.2.2.2.2.2.2.2.2.2.2.1,.fr ⟨true,111⟩ 2 p.2.2.2.2.2.2.2.2.2.2.2.1,vb p.2.2.2.2.2.2.2.2.2.2.2.2.1,.fr ⟨false,100⟩ 2 p.2.2.2.2.2.2.2.2.2.2.2.2.2.1],vi p.2.2.2.2.2.2.2.2.2.2.2.2.2.2.1,vi p.2.2.2.2.2.2.2.2.2.2.2.2.2.2.2]
def Q0c.q (x:AV):Option Q0c.T:=match x with | .tup [.agg [.v (.bool p0),.v (.string p1),.v (.string p2),.fr ⟨true,125⟩ 4 p3,.fr ⟨true,111⟩ 2 p4,.v (.bool p5),.v (.string p6),.v (.string p7),.fr ⟨true,9⟩ 1 p8,.fr ⟨true,95⟩ 3 p9,.fr ⟨true,97⟩ 4 p10,.fr ⟨true,111⟩ 2 p11,.v (.bool p12),.fr ⟨false,100⟩ 2 p13],.v (.int .i64 p14),.v (.int .i64 p15)]=>some (p0,p1,p2,p3,p4,p5,p6,p7,p8,p9,p10,p11,p12,p13,p14,p15) | _=>none
theorem Q0c.qi:∀ x p,Q0c.q x=some p→x=Q0c.p p:=by
 intro x p h
 unfold Q0c.q at h
 split at h
 ·cases h; rfl
 ·cases h
inductive Q0c.Z where
 | z6 (z1 z2:List AV) (z3 z4:Int) (z5:Bool) (z6 z7:ByteArray) (z8:Bool) (z9 z10:ByteArray) (z11 z12:Bool) (z13 z14:ByteArray) (z15:Bool) (z16 z17:ByteArray) (z18:Bool) (z19:Int) (z20 z21 z22 z23 z24 z25 z26:List AV)
def Q0c.C {R:Type} (n:Nat) (f:FuncId) (xs:List AV):(AV→Option R)→Option R:=
 bif Nat.beq f 13 then Q0d.via n xs else bif Nat.beq f 44 then Q0m.via n xs else bif Nat.beq f 45 then Q0f.via n xs else bif Nat.beq f 64 then Q1e.via n xs else bif Nat.beq f 65 then Q1b.via n xs else bif Nat.beq f 66 then Q0h.via n xs else fun _=>none
theorem Q0c.tells {R:Type} (n:Nat):Tells (R:=R) Tryz.prog (Q0c.C n):=fun _ xs=>tells_at (Q0d.tells1 n xs) (tells_at (Q0m.tells1 n xs) (tells_at (Q0f.tells1 n xs) (tells_at (Q1e.tells1 n xs) (tells_at (Q1b.tells1 n xs) (tells_at (Q0h.tells1 n xs) (Tells1.none))))))
def Q0c.cut (r:Nat):Option Keep:=match r with | 6=>some ⟨[0,2,6,29,30,31],[(6,some 3,⟨true,125⟩,4),(6,some 4,⟨true,111⟩,2),(6,some 8,⟨true,9⟩,1),(6,some 9,⟨true,95⟩,3),(6,some 10,⟨true,97⟩,4),(6,some 11,⟨true,111⟩,2),(6,some 13,⟨false,100⟩,2)]⟩ | _=>none
def Q0c.t (z:Q0c.Z):List Item:=(todoOf (match z with | .z6 _ _ _ _ _ _ _ _ _ _ _ _ _ _ _ _ _ _ _ _ _ _ _ _ _ _=>6) 1000 [.code (Tryz.f21.body.getD .skip)]).getD []
def Q0c.s:Q0c.Z→St
 | .z6 z1 z2 z3 z4 z5 z6 z7 z8 z9 z10 z11 z12 z13 z14 z15 z16 z17 z18 z19 z20 z21 z22 z23 z24 z25 z26=>⟨spr 76 0 [(0,.sl ⟨true,9⟩ 1 z1),(2,.ptr 0 0),(6,.ptr 1 0),(29,.sl ⟨true,9⟩ 1 z2),(30,vi z3),(31,vi z4)],Mem.ofList [.box 50 [vb z5,vs z6,vs z7,.v (.slice none 0 0),.v (.slice none 0 0),vb z8,vs z9,vs z10,.v (.slice none 0 0),.v (.slice none 0 0),.v (.slice none 0 0),.v (.slice none 0 0),vb z11,.v (.slice none 0 0)],.box 115 [vb z12,vs z13,vs z14,.own 2 0 none,.own 3 0 none,vb z15,vs z16,vs z17,.own 4 0 none,.own 5 0 none,.own 6 0 none,.own 7 0 none,vb z18,.own 8 0 none,vi z19],.row ⟨true,125⟩ 4 z20,.row ⟨true,111⟩ 2 z21,.row ⟨true,9⟩ 1 z22,.row ⟨true,95⟩ 3 z23,.row ⟨true,97⟩ 4 z24,.row ⟨true,111⟩ 2 z25,.row ⟨false,100⟩ 2 z26],9⟩
def Q0c.r6 (n:Nat) (c:Q0c.Z→Option Q0c.T) (z1 z2:List AV) (z3 z4:Int) (z5:Bool) (z6 z7:ByteArray) (z8:Bool) (z9 z10:ByteArray) (z11 z12:Bool) (z13 z14:ByteArray) (z15:Bool) (z16 z17:ByteArray) (z18:Bool) (z19:Int) (z20 z21 z22 z23 z24 z25 z26:List AV):Option Q0c.T:=
 bif decide (z4 < z3) then (bif decide ((0:Int)≤z4)&&decide (z4 < ((z2.length:Nat):Int)) then (withCons ((z2.getD ((z4).toNat) .undef).cells) fun h6 r7=>
 withStr h6 fun s8=>
 (Q0d.F n s8).bind fun p9=>
 bif p9.2 != 0 then (some (false,(⟨#[]⟩ : ByteArray),(⟨#[]⟩ : ByteArray),[],[],false,(⟨#[]⟩ : ByteArray),(⟨#[]⟩ : ByteArray),[],[],[],[],false,[],z4,p9.2)) else (bif z4==0 then ((Q1b.F n p9.1 z12 z13 z14 z15 z16 z17 z18 z19 z20 z21 z22 z23 z24 z25 z26).bind fun p10=>
 bif !p10.1 then (some (false,(⟨#[]⟩ : ByteArray),(⟨#[]⟩ : ByteArray),[],[],false,(⟨#[]⟩ : ByteArray),(⟨#[]⟩ : ByteArray),[],[],[],[],false,[],z4,8)) else (c (.z6 z1 z2 z3 (IntKind.i64.wrap (z4+1)) z5 z6 z7 z8 z9 z10 z11 p10.2.1 p10.2.2.1 p10.2.2.2.1 p10.2.2.2.2.1 p10.2.2.2.2.2.1 p10.2.2.2.2.2.2.1 p10.2.2.2.2.2.2.2.1 p10.2.2.2.2.2.2.2.2.1 p10.2.2.2.2.2.2.2.2.2.1 p10.2.2.2.2.2.2.2.2.2.2.1 p10.2.2.2.2.2.2.2.2.2.2.2.1 p10.2.2.2.2.2.2.2.2.2.2.2.2.1 p10.2.2.2.2.2.2.2.2.2.2.2.2.2.1 p10.2.2.2.2.2.2.2.2.2.2.2.2.2.2.1 p10.2.2.2.2.2.2.2.2.2.2.2.2.2.2.2))) else ((Q1e.F n p9.1 z12 z13 z14 z15 z16 z17 z18 z19 z20 z21 z22 z23 z24 z25 z26).bind fun p11=>
 bif !p11.1 then (some (false,(⟨#[]⟩ : ByteArray),(⟨#[]⟩ : ByteArray),[],[],false,(⟨#[]⟩ : ByteArray),(⟨#[]⟩ : ByteArray),[],[],[],[],false,[],z4,8)) else (c (.z6 z1 z2 z3 (IntKind.i64.wrap (z4+1)) z5 z6 z7 z8 z9 z10 z11 p11.2.1 p11.2.2.1 p11.2.2.2.1 p11.2.2.2.2.1 p11.2.2.2.2.2.1 p11.2.2.2.2.2.2.1 p11.2.2.2.2.2.2.2.1 p11.2.2.2.2.2.2.2.2.1 p11.2.2.2.2.2.2.2.2.2.1 p11.2.2.2.2.2.2.2.2.2.2.1 p11.2.2.2.2.2.2.2.2.2.2.2.1 p11.2.2.2.2.2.2.2.2.2.2.2.2.1 p11.2.2.2.2.2.2.2.2.2.2.2.2.2.1 p11.2.2.2.2.2.2.2.2.2.2.2.2.2.2.1 p11.2.2.2.2.2.2.2.2.2.2.2.2.2.2.2))))) else none) else (let y12:Bool:=((z1.length:Nat):Int)==1
 bif y12 then (some (false,(⟨#[]⟩ : ByteArray),(⟨#[]⟩ : ByteArray),[],[],false,(⟨#[]⟩ : ByteArray),(⟨#[]⟩ : ByteArray),[],[],[],[],false,[],1,9)) else ((Q0h.F n z12 z13 z14 z20 z21 z15 z16 z17 z22 z23 z24 z25 z18 z26).bind fun p13=>
 bif p13 != 0 then (some (false,(⟨#[]⟩ : ByteArray),(⟨#[]⟩ : ByteArray),[],[],false,(⟨#[]⟩ : ByteArray),(⟨#[]⟩ : ByteArray),[],[],[],[],false,[],0,p13)) else (some (z12,z13,z14,z20,z21,z15,z16,z17,z22,z23,z24,z25,z18,z26,0,0))))
def Q0c.r (n:Nat) (c:Q0c.Z→Option Q0c.T):Q0c.Z→Option Q0c.T
 | .z6 z1 z2 z3 z4 z5 z6 z7 z8 z9 z10 z11 z12 z13 z14 z15 z16 z17 z18 z19 z20 z21 z22 z23 z24 z25 z26=>Q0c.r6 n c z1 z2 z3 z4 z5 z6 z7 z8 z9 z10 z11 z12 z13 z14 z15 z16 z17 z18 z19 z20 z21 z22 z23 z24 z25 z26
def Q0c.e (n:Nat) (c:Q0c.Z→Option Q0c.T) (a0:List AV):Option Q0c.T:=
 let y1:Bool:=((a0.length:Nat):Int)==0
 (Q0f.F n y1 1).bind fun p2=>
 let y3:Bool:=decide (((a0.length:Nat):Int) > 100)
 (Q0f.F n y3 2).bind fun p4=>
 (Q0m.F n [vi p2,vi p4]).bind fun p5=>
 bif p5 != 0 then (some (false,(⟨#[]⟩ : ByteArray),(⟨#[]⟩ : ByteArray),[],[],false,(⟨#[]⟩ : ByteArray),(⟨#[]⟩ : ByteArray),[],[],[],[],false,[],0,p5)) else (c (.z6 a0 a0 ((a0.length:Nat):Int) 0 false (⟨#[]⟩ : ByteArray) (⟨#[]⟩ : ByteArray) false (⟨#[]⟩ : ByteArray) (⟨#[]⟩ : ByteArray) false false (⟨#[]⟩ : ByteArray) (⟨#[]⟩ : ByteArray) false (⟨#[]⟩ : ByteArray) (⟨#[]⟩ : ByteArray) false 0 [] [] [] [] [] [] []))
def Q0c.E (n:Nat) (c:Q0c.Z→Option Q0c.T):Q0c.A→Option Q0c.T:=fun a0=>Q0c.e n c a0
def Q0c.l (n:Nat):Nat→Q0c.Z→Option Q0c.T:=loopL (Q0c.r n)
def Q0c.F (n:Nat) (a0:List AV):Option Q0c.T:=Q0c.e n (Q0c.l n n) a0
def Q0c.FA (n:Nat):Q0c.A→Option Q0c.T:=Q0c.E n (Q0c.l n n)
theorem Q0c.hands (n:Nat):∀ a p,Q0c.FA n a=some p→HandsIn Tryz.prog 21 (Q0c.i a) (Q0c.p p):=
 pf_hands (C:=Q0c.C n) (cut:=Q0c.cut) (t:=Q0c.t) (s:=Q0c.s) (e:=Q0c.E n) (r:=Q0c.r n) (n:=n) cfg mixed globs rfl Q0c.qi (Q0c.tells n) Tryz.func21 (by kernel_rfl) (by kernel_rfl) (fun rec a=>by kernel_rfl) (fun rec z=>by cases z <;> kernel_rfl)
def Q0c.via {R:Type} (n:Nat):List AV→(AV→Option R)→Option R:=viaK (Q0c.FA n) Q0c.o Q0c.p
theorem Q0c.tells1 {R:Type} (n:Nat) (xs:List AV):Tells1 (R:=R) Tryz.prog 21 xs (Q0c.via n xs):=tells_via Q0c.oi (fun a=>by kernel_rfl) (Q0c.hands n) xs
end Go.Proofs.YtmpglmcjoelciaaGreatDoor.Ev
namespace Go.Proofs.YtmpglmcjoelciaaGreatDoor.Ev
open Go Go.Proofs Go.Proofs.Ev
set_option linter.unusedVariables false
set_option maxRecDepth 100000
abbrev Q1x.A:=Int × Int × Int
abbrev Q1x.T:=Int
def Q1x.i:Q1x.A→List AV:=fun (a0,a1,a2)=>[AV.agg [vi a0,vi a1,vi a2]]
def Q1x.o (xs:List AV):Option Q1x.A:=match xs with | [.agg [.v (.int .i64 a0),.v (.int .i64 a1),.v (.int .i64 a2)]]=>some (a0,a1,a2) | _=>none
theorem Q1x.oi:∀ xs a,Q1x.o xs=some a→xs=Q1x.i a:=by
 intro xs a h
 unfold Q1x.o at h
 split at h
 ·cases h; rfl
 ·cases h
def Q1x.p (p:Q1x.T):AV:=vi p
def Q1x.q (x:AV):Option Q1x.T:=match x with | .v (.int .i64 p0)=>some p0 | _=>none
theorem Q1x.qi:∀ x p,Q1x.q x=some p→x=Q1x.p p:=by
 intro x p h
 unfold Q1x.q at h
 split at h
 ·cases h; rfl
 ·cases h
def Q1x.C {R:Type} (n:Nat) (f:FuncId) (xs:List AV):(AV→Option R)→Option R:=
 bif Nat.beq f 88 then Q1p.via n xs else fun _=>none
theorem Q1x.tells {R:Type} (n:Nat):Tells (R:=R) Tryz.prog (Q1x.C n):=fun _ xs=>tells_at (Q1p.tells1 n xs) (Tells1.none)
def Q1x.cut (r:Nat):Option Keep:=match r with  | _=>none
def Q1x.e (n:Nat) (a0 a1 a2:Int):Option Int:=
 bif a0==1 then (let y1:Int:=IntKind.i64.wrap (Int.tdiv a1 2)
 some (IntKind.i64.wrap (y1+1))) else (bif a0==3 then ((Q1p.F n (a1==9)).bind fun p2=>
 let y3:Int:=IntKind.i64.wrap ((2:Int)*p2)
 let y4:Int:=IntKind.i64.wrap ((2:Int)+y3)
 some y4) else (bif a0==4 then (some 16) else (some a1)))
def Q1x.E (n:Nat):Q1x.A→Option Q1x.T:=fun (a0,a1,a2)=>Q1x.e n a0 a1 a2
def Q1x.F (n:Nat) (a0 a1 a2:Int):Option Int:=Q1x.e n a0 a1 a2
def Q1x.FA (n:Nat):Q1x.A→Option Q1x.T:=Q1x.E n
theorem Q1x.hands (n:Nat):∀ a p,Q1x.FA n a=some p→HandsIn Tryz.prog 142 (Q1x.i a) (Q1x.p p):=
 pf_hands (C:=Q1x.C n) (cut:=Q1x.cut) (Z:=Empty) (t:=nofun) (s:=nofun) (e:=fun _=>Q1x.E n) (r:=fun _ z=>nomatch z) (n:=n) cfg mixed globs rfl Q1x.qi (Q1x.tells n) Tryz.func142 (by kernel_rfl) (by kernel_rfl) (fun rec a=>by kernel_rfl) (fun rec z=>nomatch z)
def Q1x.via {R:Type} (n:Nat):List AV→(AV→Option R)→Option R:=viaK (Q1x.FA n) Q1x.o Q1x.p
theorem Q1x.tells1 {R:Type} (n:Nat) (xs:List AV):Tells1 (R:=R) Tryz.prog 142 xs (Q1x.via n xs):=tells_via Q1x.oi (fun a=>by kernel_rfl) (Q1x.hands n) xs
end Go.Proofs.YtmpglmcjoelciaaGreatDoor.Ev
namespace Go.Proofs.YtmpglmcjoelciaaGreatDoor.Ev
open Go Go.Proofs Go.Proofs.Ev
set_option linter.unusedVariables false
set_option maxRecDepth 100000
abbrev Q27.A:=ByteArray × List AV
abbrev Q27.T:=Int
def Q27.i:Q27.A→List AV:=fun (a0,a1)=>[AV.agg [vs a0,.sl ⟨true,125⟩ 4 a1]]
def Q27.o (xs:List AV):Option Q27.A:=match xs with | [.agg [.v (.string a0),.sl ⟨true,125⟩ 4 a1]]=>some (a0,a1) | _=>none
theorem Q27.oi:∀ xs a,Q27.o xs=some a→xs=Q27.i a:=by
 intro xs a h
 unfold Q27.o at h
 split at h
 ·cases h; rfl
 ·cases h
def Q27.p (p:Q27.T):AV:=vi p
def Q27.q (x:AV):Option Q27.T:=match x with | .v (.int .i64 p0)=>some p0 | _=>none
theorem Q27.qi:∀ x p,Q27.q x=some p→x=Q27.p p:=by
 intro x p h
 unfold Q27.q at h
 split at h
 ·cases h; rfl
 ·cases h
inductive Q27.Z where
 | z3 (z1 z2:Int) (z3:ByteArray) (z4:List AV)
def Q27.C {R:Type} (n:Nat) (f:FuncId) (xs:List AV):(AV→Option R)→Option R:=
 bif Nat.beq f 142 then Q1x.via n xs else fun _=>none
theorem Q27.tells {R:Type} (n:Nat):Tells (R:=R) Tryz.prog (Q27.C n):=fun _ xs=>tells_at (Q1x.tells1 n xs) (Tells1.none)
def Q27.cut (r:Nat):Option Keep:=match r with | 3=>some ⟨[1,3,4],[]⟩ | _=>none
def Q27.t (z:Q27.Z):List Item:=(todoOf (match z with | .z3 _ _ _ _=>3) 1000 [.code (Tryz.f95.body.getD .skip)]).getD []
def Q27.s:Q27.Z→St
 | .z3 z1 z2 z3 z4=>⟨spr 22 0 [(1,.ptr 0 0),(3,vi z1),(4,vi z2)],Mem.ofList [.box 46 [vs z3,.sl ⟨true,125⟩ 4 z4]],1⟩
def Q27.r3 (n:Nat) (c:Q27.Z→Option Int) (z1 z2:Int) (z3:ByteArray) (z4:List AV):Option Int:=
 let y1:Bool:=decide (z2 < ((z4.length:Nat):Int))
 bif y1 then (bif decide ((0:Int)≤z2)&&decide (z2 < ((z4.length:Nat):Int)) then (withCons (((z4.getD ((z2).toNat) .undef).cells).drop 1) fun h2 r3=>
 withInt .i64 h2 fun x4=>
 withCons r3 fun h5 r6=>
 withInt .i64 h5 fun x7=>
 withCons r6 fun h8 r9=>
 withInt .i64 h8 fun x10=>
 (Q1x.F n x4 x7 x10).bind fun p11=>
 c (.z3 (IntKind.i64.wrap (z1+p11)) (IntKind.i64.wrap (z2+1)) z3 z4)) else none) else (some z1)
def Q27.r (n:Nat) (c:Q27.Z→Option Int):Q27.Z→Option Int
 | .z3 z1 z2 z3 z4=>Q27.r3 n c z1 z2 z3 z4
def Q27.e (n:Nat) (c:Q27.Z→Option Int) (a0:ByteArray) (a1:List AV):Option Int:=
 c (.z3 0 0 a0 a1)
def Q27.E (n:Nat) (c:Q27.Z→Option Int):Q27.A→Option Q27.T:=fun (a0,a1)=>Q27.e n c a0 a1
def Q27.l (n:Nat):Nat→Q27.Z→Option Int:=loopL (Q27.r n)
def Q27.F (n:Nat) (a0:ByteArray) (a1:List AV):Option Int:=Q27.e n (Q27.l n n) a0 a1
def Q27.FA (n:Nat):Q27.A→Option Q27.T:=Q27.E n (Q27.l n n)
theorem Q27.hands (n:Nat):∀ a p,Q27.FA n a=some p→HandsIn Tryz.prog 95 (Q27.i a) (Q27.p p):=
 pf_hands (C:=Q27.C n) (cut:=Q27.cut) (t:=Q27.t) (s:=Q27.s) (e:=Q27.E n) (r:=Q27.r n) (n:=n) cfg mixed globs rfl Q27.qi (Q27.tells n) Tryz.func95 (by kernel_rfl) (by kernel_rfl) (fun rec a=>by kernel_rfl) (fun rec z=>by cases z <;> kernel_rfl)
def Q27.via {R:Type} (n:Nat):List AV→(AV→Option R)→Option R:=viaK (Q27.FA n) Q27.o Q27.p
theorem Q27.tells1 {R:Type} (n:Nat) (xs:List AV):Tells1 (R:=R) Tryz.prog 95 xs (Q27.via n xs):=tells_via Q27.oi (fun a=>by kernel_rfl) (Q27.hands n) xs
end Go.Proofs.YtmpglmcjoelciaaGreatDoor.Ev
namespace Go.Proofs.YtmpglmcjoelciaaGreatDoor.Ev
open Go Go.Proofs Go.Proofs.Ev
set_option linter.unusedVariables false
set_option maxRecDepth 100000
abbrev Q21.A:=ByteArray × List AV × ByteArray
abbrev Q21.T:=Int
def Q21.i:Q21.A→List AV:=fun (a0,a1,a2)=>[AV.agg [vs a0,.sl ⟨true,125⟩ 4 a1],vs a2]
def Q21.o (xs:List AV):Option Q21.A:=match xs with | [.agg [.v (.string a0),.sl ⟨true,125⟩ 4 a1],.v (.string a2)]=>some (a0,a1,a2) | _=>none
theorem Q21.oi:∀ xs a,Q21.o xs=some a→xs=Q21.i a:=by
 intro xs a h
 unfold Q21.o at h
 split at h
 ·cases h; rfl
 ·cases h
def Q21.p (p:Q21.T):AV:=vi p
def Q21.q (x:AV):Option Q21.T:=match x with | .v (.int .i64 p0)=>some p0 | _=>none
theorem Q21.qi:∀ x p,Q21.q x=some p→x=Q21.p p:=by
 intro x p h
 unfold Q21.q at h
 split at h
 ·cases h; rfl
 ·cases h
inductive Q21.Z where
 | z2 (z1:ByteArray) (z2:Int) (z3:ByteArray) (z4:List AV)
def Q21.C {R:Type} (n:Nat) (f:FuncId) (xs:List AV):(AV→Option R)→Option R:=
 fun _=>none
theorem Q21.tells {R:Type} (n:Nat):Tells (R:=R) Tryz.prog (Q21.C n):=fun _ xs=>Tells1.none
def Q21.cut (r:Nat):Option Keep:=match r with | 2=>some ⟨[1,2,5],[]⟩ | _=>none
def Q21.t (z:Q21.Z):List Item:=(todoOf (match z with | .z2 _ _ _ _=>2) 1000 [.code (Tryz.f140.body.getD .skip)]).getD []
def Q21.s:Q21.Z→St
 | .z2 z1 z2 z3 z4=>⟨spr 22 0 [(1,vs z1),(2,.ptr 0 0),(5,vi z2)],Mem.ofList [.box 46 [vs z3,.sl ⟨true,125⟩ 4 z4]],1⟩
def Q21.r2 (n:Nat) (c:Q21.Z→Option Int) (z1:ByteArray) (z2:Int) (z3:ByteArray) (z4:List AV):Option Int:=
 let y1:Bool:=decide (z2 < ((z4.length:Nat):Int))
 bif y1 then (bif decide ((0:Int)≤z2)&&decide (z2 < ((z4.length:Nat):Int)) then (withCons ((z4.getD ((z2).toNat) .undef).cells) fun h2 r3=>
 withStr h2 fun s4=>
 bif s4.toList==z1.toList then (some z2) else (c (.z2 z1 (IntKind.i64.wrap (z2+1)) z3 z4))) else none) else (some (-1))
def Q21.r (n:Nat) (c:Q21.Z→Option Int):Q21.Z→Option Int
 | .z2 z1 z2 z3 z4=>Q21.r2 n c z1 z2 z3 z4
def Q21.e (n:Nat) (c:Q21.Z→Option Int) (a0:ByteArray) (a1:List AV) (a2:ByteArray):Option Int:=
 c (.z2 a2 0 a0 a1)
def Q21.E (n:Nat) (c:Q21.Z→Option Int):Q21.A→Option Q21.T:=fun (a0,a1,a2)=>Q21.e n c a0 a1 a2
def Q21.l (n:Nat):Nat→Q21.Z→Option Int:=loopL (Q21.r n)
def Q21.F (n:Nat) (a0:ByteArray) (a1:List AV) (a2:ByteArray):Option Int:=Q21.e n (Q21.l n n) a0 a1 a2
def Q21.FA (n:Nat):Q21.A→Option Q21.T:=Q21.E n (Q21.l n n)
theorem Q21.hands (n:Nat):∀ a p,Q21.FA n a=some p→HandsIn Tryz.prog 140 (Q21.i a) (Q21.p p):=
 pf_hands (C:=Q21.C n) (cut:=Q21.cut) (t:=Q21.t) (s:=Q21.s) (e:=Q21.E n) (r:=Q21.r n) (n:=n) cfg mixed globs rfl Q21.qi (Q21.tells n) Tryz.func140 (by kernel_rfl) (by kernel_rfl) (fun rec a=>by kernel_rfl) (fun rec z=>by cases z <;> kernel_rfl)
def Q21.via {R:Type} (n:Nat):List AV→(AV→Option R)→Option R:=viaK (Q21.FA n) Q21.o Q21.p
theorem Q21.tells1 {R:Type} (n:Nat) (xs:List AV):Tells1 (R:=R) Tryz.prog 140 xs (Q21.via n xs):=tells_via Q21.oi (fun a=>by kernel_rfl) (Q21.hands n) xs
end Go.Proofs.YtmpglmcjoelciaaGreatDoor.Ev
namespace Go.Proofs.YtmpglmcjoelciaaGreatDoor.Ev
open Go Go.Proofs Go.Proofs.Ev
set_option linter.unusedVariables false
set_option maxRecDepth 100000
abbrev Q22.A:=ByteArray × List AV
abbrev Q22.T:=Int × Int
def Q22.i:Q22.A→List AV:=fun (a0,a1)=>[AV.agg [vs a0,.sl ⟨true,125⟩ 4 a1]]
def Q22.o (xs:List AV):Option Q22.A:=match xs with | [.agg [.v (.string a0),.sl ⟨true,125⟩ 4 a1]]=>some (a0,a1) | _=>none
theorem Q22.oi:∀ xs a,Q22.o xs=some a→xs=Q22.i a:=by
 intro xs a h
 unfold Q22.o at h
 split at h
 ·cases h; rfl
 ·cases h
def Q22.p (p:Q22.T):AV:=.tup [vi p.1,vi p.2]
def Q22.q (x:AV):Option Q22.T:=match x with | .tup [.v (.int .i64 p0),.v (.int .i64 p1)]=>some (p0,p1) | _=>none
theorem Q22.qi:∀ x p,Q22.q x=some p→x=Q22.p p:=by
 intro x p h
 unfold Q22.q at h
 split at h
 ·cases h; rfl
 ·cases h
inductive Q22.Z where
 | z6 (z1:Int) (z2:ByteArray) (z3:List AV)
def Q22.C {R:Type} (n:Nat) (f:FuncId) (xs:List AV):(AV→Option R)→Option R:=
 bif Nat.beq f 32 then Q2q.via n xs else bif Nat.beq f 59 then Q1t.via n xs else bif Nat.beq f 88 then Q1p.via n xs else bif Nat.beq f 95 then Q27.via n xs else bif Nat.beq f 140 then Q21.via n xs else fun _=>none
theorem Q22.tells {R:Type} (n:Nat):Tells (R:=R) Tryz.prog (Q22.C n):=fun _ xs=>tells_at (Q2q.tells1 n xs) (tells_at (Q1t.tells1 n xs) (tells_at (Q1p.tells1 n xs) (tells_at (Q27.tells1 n xs) (tells_at (Q21.tells1 n xs) (Tells1.none)))))
def Q22.cut (r:Nat):Option Keep:=match r with | 6=>some ⟨[1,4],[]⟩ | _=>none
def Q22.t (z:Q22.Z):List Item:=(todoOf (match z with | .z6 _ _ _=>6) 1000 [.code (Tryz.f160.body.getD .skip)]).getD []
def Q22.s:Q22.Z→St
 | .z6 z1 z2 z3=>⟨spr 66 0 [(1,.ptr 0 0),(4,vi z1)],Mem.ofList [.box 46 [vs z2,.sl ⟨true,125⟩ 4 z3]],1⟩
def Q22.r6 (n:Nat) (c:Q22.Z→Option (Int × Int)) (z1:Int) (z2:ByteArray) (z3:List AV):Option (Int × Int):=
 let y3:Bool:=decide (z1 < ((z3.length:Nat):Int))
 bif y3 then (bif decide ((0:Int)≤z1)&&decide (z1 < ((z3.length:Nat):Int)) then (withCons ((z3.getD ((z1).toNat) .undef).cells) fun h4 r5=>
 withStr h4 fun s6=>
 (Q1t.F n s6).bind fun p7=>
 bif !p7 then (some (z1,7)) else (bif decide ((0:Int)≤z1)&&decide (z1 < ((z3.length:Nat):Int)) then (withCons ((z3.getD ((z1).toNat) .undef).cells) fun h8 r9=>
 withStr h8 fun s10=>
 (Q21.F n z2 z3 s10).bind fun p11=>
 bif decide (p11 < z1) then (some (z1,13)) else (bif decide ((0:Int)≤z1)&&decide (z1 < ((z3.length:Nat):Int)) then (withCons (((z3.getD ((z1).toNat) .undef).cells).drop 1) fun h12 r13=>
 withInt .i64 h12 fun x14=>
 withCons r13 fun h15 r16=>
 withInt .i64 h15 fun x17=>
 withCons r16 fun h18 r19=>
 withInt .i64 h18 fun x20=>
 (Q2q.F n x14 x17 x20).bind fun p21=>
 bif p21 != 0 then (some (z1,p21)) else (bif decide ((0:Int)≤z1)&&decide (z1 < ((z3.length:Nat):Int)) then (withCons (((z3.getD ((z1).toNat) .undef).cells).drop 1) fun h22 r23=>
 withInt .i64 h22 fun x24=>
 bif x24==4 then (some (z1,17)) else (c (.z6 (IntKind.i64.wrap (z1+1)) z2 z3))) else none)) else none)) else none)) else none) else ((Q27.F n z2 z3).bind fun p25=>
 (Q1p.F n (decide (p25 > 200))).bind fun p26=>
 let y27:Int:=IntKind.i64.wrap ((18:Int)*p26)
 some (0,y27))
def Q22.r (n:Nat) (c:Q22.Z→Option (Int × Int)):Q22.Z→Option (Int × Int)
 | .z6 z1 z2 z3=>Q22.r6 n c z1 z2 z3
def Q22.e (n:Nat) (c:Q22.Z→Option (Int × Int)) (a0:ByteArray) (a1:List AV):Option (Int × Int):=
 let y1:Bool:=((a1.length:Nat):Int)==0
 bif y1 then (some (0,1)) else (let y2:Bool:=decide (((a1.length:Nat):Int) > 20)
 bif y2 then (some (0,2)) else (c (.z6 0 a0 a1)))
def Q22.E (n:Nat) (c:Q22.Z→Option (Int × Int)):Q22.A→Option Q22.T:=fun (a0,a1)=>Q22.e n c a0 a1
def Q22.l (n:Nat):Nat→Q22.Z→Option (Int × Int):=loopL (Q22.r n)
def Q22.F (n:Nat) (a0:ByteArray) (a1:List AV):Option (Int × Int):=Q22.e n (Q22.l n n) a0 a1
def Q22.FA (n:Nat):Q22.A→Option Q22.T:=Q22.E n (Q22.l n n)
theorem Q22.hands (n:Nat):∀ a p,Q22.FA n a=some p→HandsIn Tryz.prog 160 (Q22.i a) (Q22.p p):=
 pf_hands (C:=Q22.C n) (cut:=Q22.cut) (t:=Q22.t) (s:=Q22.s) (e:=Q22.E n) (r:=Q22.r n) (n:=n) cfg mixed globs rfl Q22.qi (Q22.tells n) Tryz.func160 (by kernel_rfl) (by kernel_rfl) (fun rec a=>by kernel_rfl) (fun rec z=>by cases z <;> kernel_rfl)
def Q22.via {R:Type} (n:Nat):List AV→(AV→Option R)→Option R:=viaK (Q22.FA n) Q22.o Q22.p
theorem Q22.tells1 {R:Type} (n:Nat) (xs:List AV):Tells1 (R:=R) Tryz.prog 160 xs (Q22.via n xs):=tells_via Q22.oi (fun a=>by kernel_rfl) (Q22.hands n) xs
end Go.Proofs.YtmpglmcjoelciaaGreatDoor.Ev
namespace Go.Proofs.YtmpglmcjoelciaaGreatDoor.Ev
open Go Go.Proofs Go.Proofs.Ev
set_option linter.unusedVariables false
set_option maxRecDepth 100000
abbrev Q24.A:=ByteArray × List AV
abbrev Q24.T:=Int × Int
def Q24.i:Q24.A→List AV:=fun (a0,a1)=>[AV.agg [vs a0,.sl ⟨true,125⟩ 4 a1]]
def Q24.o (xs:List AV):Option Q24.A:=match xs with | [.agg [.v (.string a0),.sl ⟨true,125⟩ 4 a1]]=>some (a0,a1) | _=>none
theorem Q24.oi:∀ xs a,Q24.o xs=some a→xs=Q24.i a:=by
 intro xs a h
 unfold Q24.o at h
 split at h
 ·cases h; rfl
 ·cases h
def Q24.p (p:Q24.T):AV:=.tup [vi p.1,vi p.2]
def Q24.q (x:AV):Option Q24.T:=match x with | .tup [.v (.int .i64 p0),.v (.int .i64 p1)]=>some (p0,p1) | _=>none
theorem Q24.qi:∀ x p,Q24.q x=some p→x=Q24.p p:=by
 intro x p h
 unfold Q24.q at h
 split at h
 ·cases h; rfl
 ·cases h
def Q24.C {R:Type} (n:Nat) (f:FuncId) (xs:List AV):(AV→Option R)→Option R:=
 bif Nat.beq f 59 then Q1t.via n xs else bif Nat.beq f 160 then Q22.via n xs else fun _=>none
theorem Q24.tells {R:Type} (n:Nat):Tells (R:=R) Tryz.prog (Q24.C n):=fun _ xs=>tells_at (Q1t.tells1 n xs) (tells_at (Q22.tells1 n xs) (Tells1.none))
def Q24.cut (r:Nat):Option Keep:=match r with  | _=>none
def Q24.e (n:Nat) (a0:ByteArray) (a1:List AV):Option (Int × Int):=
 (Q1t.F n a0).bind fun p1=>
 bif !p1 then (some (0,7)) else ((Q22.F n a0 a1).bind fun p2=>
 some (p2.1,p2.2))
def Q24.E (n:Nat):Q24.A→Option Q24.T:=fun (a0,a1)=>Q24.e n a0 a1
def Q24.F (n:Nat) (a0:ByteArray) (a1:List AV):Option (Int × Int):=Q24.e n a0 a1
def Q24.FA (n:Nat):Q24.A→Option Q24.T:=Q24.E n
theorem Q24.hands (n:Nat):∀ a p,Q24.FA n a=some p→HandsIn Tryz.prog 138 (Q24.i a) (Q24.p p):=
 pf_hands (C:=Q24.C n) (cut:=Q24.cut) (Z:=Empty) (t:=nofun) (s:=nofun) (e:=fun _=>Q24.E n) (r:=fun _ z=>nomatch z) (n:=n) cfg mixed globs rfl Q24.qi (Q24.tells n) Tryz.func138 (by kernel_rfl) (by kernel_rfl) (fun rec a=>by kernel_rfl) (fun rec z=>nomatch z)
def Q24.via {R:Type} (n:Nat):List AV→(AV→Option R)→Option R:=viaK (Q24.FA n) Q24.o Q24.p
theorem Q24.tells1 {R:Type} (n:Nat) (xs:List AV):Tells1 (R:=R) Tryz.prog 138 xs (Q24.via n xs):=tells_via Q24.oi (fun a=>by kernel_rfl) (Q24.hands n) xs
end Go.Proofs.YtmpglmcjoelciaaGreatDoor.Ev
namespace Go.Proofs.YtmpglmcjoelciaaGreatDoor.Ev
open Go Go.Proofs Go.Proofs.Ev
set_option linter.unusedVariables false
set_option maxRecDepth 100000
abbrev Q25.A:=ByteArray × ByteArray × List AV × List AV × Bool
abbrev Q25.T:=Int × Int
def Q25.i:Q25.A→List AV:=fun (a0,a1,a2,a3,a4)=>[AV.agg [vs a0,vs a1,.sl ⟨true,125⟩ 4 a2,.sl ⟨true,111⟩ 2 a3,vb a4]]
def Q25.o (xs:List AV):Option Q25.A:=match xs with | [.agg [.v (.string a0),.v (.string a1),.sl ⟨true,125⟩ 4 a2,.sl ⟨true,111⟩ 2 a3,.v (.bool a4)]]=>some (a0,a1,a2,a3,a4) | _=>none
theorem Q25.oi:∀ xs a,Q25.o xs=some a→xs=Q25.i a:=by
 intro xs a h
 unfold Q25.o at h
 split at h
 ·cases h; rfl
 ·cases h
def Q25.p (p:Q25.T):AV:=.tup [vi p.1,vi p.2]
def Q25.q (x:AV):Option Q25.T:=match x with | .tup [.v (.int .i64 p0),.v (.int .i64 p1)]=>some (p0,p1) | _=>none
theorem Q25.qi:∀ x p,Q25.q x=some p→x=Q25.p p:=by
 intro x p h
 unfold Q25.q at h
 split at h
 ·cases h; rfl
 ·cases h
inductive Q25.Z where
 | z4 (z1:Int) (z2 z3:ByteArray) (z4 z5:List AV) (z6:Bool)
 | z9 (z1 z2:Int) (z3 z4:ByteArray) (z5 z6:List AV) (z7:Bool)
def Q25.C {R:Type} (n:Nat) (f:FuncId) (xs:List AV):(AV→Option R)→Option R:=
 bif Nat.beq f 140 then Q21.via n xs else fun _=>none
theorem Q25.tells {R:Type} (n:Nat):Tells (R:=R) Tryz.prog (Q25.C n):=fun _ xs=>tells_at (Q21.tells1 n xs) (Tells1.none)
def Q25.cut (r:Nat):Option Keep:=match r with | 4=>some ⟨[1,4],[]⟩ | 9=>some ⟨[1,4,5],[]⟩ | _=>none
def Q25.t (z:Q25.Z):List Item:=(todoOf (match z with | .z4 _ _ _ _ _ _=>4 | .z9 _ _ _ _ _ _ _=>9) 1000 [.code (Tryz.f139.body.getD .skip)]).getD []
def Q25.s:Q25.Z→St
 | .z4 z1 z2 z3 z4 z5 z6=>⟨spr 47 0 [(1,.ptr 0 0),(4,vi z1)],Mem.ofList [.box 48 [vs z2,vs z3,.sl ⟨true,125⟩ 4 z4,.sl ⟨true,111⟩ 2 z5,vb z6]],1⟩
 | .z9 z1 z2 z3 z4 z5 z6 z7=>⟨spr 47 0 [(1,.ptr 0 0),(4,vi z1),(5,vi z2)],Mem.ofList [.box 48 [vs z3,vs z4,.sl ⟨true,125⟩ 4 z5,.sl ⟨true,111⟩ 2 z6,vb z7]],1⟩
def Q25.r4 (n:Nat) (c:Q25.Z→Option (Int × Int)) (z1:Int) (z2 z3:ByteArray) (z4 z5:List AV) (z6:Bool):Option (Int × Int):=
 let y2:Bool:=decide (z1 < ((z5.length:Nat):Int))
 bif y2 then (bif decide ((0:Int)≤z1)&&decide (z1 < ((z5.length:Nat):Int)) then (withCons ((z5.getD ((z1).toNat) .undef).cells) fun h3 r4=>
 withStr h3 fun s5=>
 (Q21.F n z3 z4 s5).bind fun p6=>
 bif p6==(-1) then (some (z1,11)) else (c (.z9 z1 0 z2 z3 z4 z5 z6))) else none) else (some (0,0))
def Q25.r9 (n:Nat) (c:Q25.Z→Option (Int × Int)) (z1 z2:Int) (z3 z4:ByteArray) (z5 z6:List AV) (z7:Bool):Option (Int × Int):=
 bif decide (z2 < z1) then (bif decide ((0:Int)≤z2)&&decide (z2 < ((z6.length:Nat):Int)) then (withCons ((z6.getD ((z2).toNat) .undef).cells) fun h7 r8=>
 withStr h7 fun s9=>
 bif decide ((0:Int)≤z1)&&decide (z1 < ((z6.length:Nat):Int)) then (withCons ((z6.getD ((z1).toNat) .undef).cells) fun h10 r11=>
 withStr h10 fun s12=>
 bif s9.toList==s12.toList then (some (z1,13)) else (c (.z9 z1 (IntKind.i64.wrap (z2+1)) z3 z4 z5 z6 z7))) else none) else none) else (c (.z4 (IntKind.i64.wrap (z1+1)) z3 z4 z5 z6 z7))
def Q25.r (n:Nat) (c:Q25.Z→Option (Int × Int)):Q25.Z→Option (Int × Int)
 | .z4 z1 z2 z3 z4 z5 z6=>Q25.r4 n c z1 z2 z3 z4 z5 z6
 | .z9 z1 z2 z3 z4 z5 z6 z7=>Q25.r9 n c z1 z2 z3 z4 z5 z6 z7
def Q25.e (n:Nat) (c:Q25.Z→Option (Int × Int)) (a0 a1:ByteArray) (a2 a3:List AV) (a4:Bool):Option (Int × Int):=
 let y1:Bool:=decide (((a3.length:Nat):Int) > 4)
 bif y1 then (some (0,2)) else (c (.z4 0 a0 a1 a2 a3 a4))
def Q25.E (n:Nat) (c:Q25.Z→Option (Int × Int)):Q25.A→Option Q25.T:=fun (a0,a1,a2,a3,a4)=>Q25.e n c a0 a1 a2 a3 a4
def Q25.l (n:Nat):Nat→Q25.Z→Option (Int × Int):=loopL (Q25.r n)
def Q25.F (n:Nat) (a0 a1:ByteArray) (a2 a3:List AV) (a4:Bool):Option (Int × Int):=Q25.e n (Q25.l n n) a0 a1 a2 a3 a4
def Q25.FA (n:Nat):Q25.A→Option Q25.T:=Q25.E n (Q25.l n n)
theorem Q25.hands (n:Nat):∀ a p,Q25.FA n a=some p→HandsIn Tryz.prog 139 (Q25.i a) (Q25.p p):=
 pf_hands (C:=Q25.C n) (cut:=Q25.cut) (t:=Q25.t) (s:=Q25.s) (e:=Q25.E n) (r:=Q25.r n) (n:=n) cfg mixed globs rfl Q25.qi (Q25.tells n) Tryz.func139 (by kernel_rfl) (by kernel_rfl) (fun rec a=>by kernel_rfl) (fun rec z=>by cases z <;> kernel_rfl)
def Q25.via {R:Type} (n:Nat):List AV→(AV→Option R)→Option R:=viaK (Q25.FA n) Q25.o Q25.p
theorem Q25.tells1 {R:Type} (n:Nat) (xs:List AV):Tells1 (R:=R) Tryz.prog 139 xs (Q25.via n xs):=tells_via Q25.oi (fun a=>by kernel_rfl) (Q25.hands n) xs
end Go.Proofs.YtmpglmcjoelciaaGreatDoor.Ev
namespace Go.Proofs.YtmpglmcjoelciaaGreatDoor.Ev
open Go Go.Proofs Go.Proofs.Ev
set_option linter.unusedVariables false
set_option maxRecDepth 100000
abbrev Q23.A:=ByteArray × ByteArray × List AV × List AV × Bool
abbrev Q23.T:=Int × Int
def Q23.i:Q23.A→List AV:=fun (a0,a1,a2,a3,a4)=>[AV.agg [vs a0,vs a1,.sl ⟨true,125⟩ 4 a2,.sl ⟨true,111⟩ 2 a3,vb a4]]
def Q23.o (xs:List AV):Option Q23.A:=match xs with | [.agg [.v (.string a0),.v (.string a1),.sl ⟨true,125⟩ 4 a2,.sl ⟨true,111⟩ 2 a3,.v (.bool a4)]]=>some (a0,a1,a2,a3,a4) | _=>none
theorem Q23.oi:∀ xs a,Q23.o xs=some a→xs=Q23.i a:=by
 intro xs a h
 unfold Q23.o at h
 split at h
 ·cases h; rfl
 ·cases h
def Q23.p (p:Q23.T):AV:=.tup [vi p.1,vi p.2]
def Q23.q (x:AV):Option Q23.T:=match x with | .tup [.v (.int .i64 p0),.v (.int .i64 p1)]=>some (p0,p1) | _=>none
theorem Q23.qi:∀ x p,Q23.q x=some p→x=Q23.p p:=by
 intro x p h
 unfold Q23.q at h
 split at h
 ·cases h; rfl
 ·cases h
def Q23.C {R:Type} (n:Nat) (f:FuncId) (xs:List AV):(AV→Option R)→Option R:=
 bif Nat.beq f 59 then Q1t.via n xs else bif Nat.beq f 138 then Q24.via n xs else bif Nat.beq f 139 then Q25.via n xs else fun _=>none
theorem Q23.tells {R:Type} (n:Nat):Tells (R:=R) Tryz.prog (Q23.C n):=fun _ xs=>tells_at (Q1t.tells1 n xs) (tells_at (Q24.tells1 n xs) (tells_at (Q25.tells1 n xs) (Tells1.none)))
def Q23.cut (r:Nat):Option Keep:=match r with  | _=>none
def Q23.e (n:Nat) (a0 a1:ByteArray) (a2 a3:List AV) (a4:Bool):Option (Int × Int):=
 (Q1t.F n a0).bind fun p1=>
 bif !p1 then (some (0,7)) else ((Q24.F n a1 a2).bind fun p2=>
 bif p2.2 != 0 then (some (0,p2.2)) else ((Q25.F n a0 a1 a2 a3 a4).bind fun p3=>
 some (p3.1,p3.2)))
def Q23.E (n:Nat):Q23.A→Option Q23.T:=fun (a0,a1,a2,a3,a4)=>Q23.e n a0 a1 a2 a3 a4
def Q23.F (n:Nat) (a0 a1:ByteArray) (a2 a3:List AV) (a4:Bool):Option (Int × Int):=Q23.e n a0 a1 a2 a3 a4
def Q23.FA (n:Nat):Q23.A→Option Q23.T:=Q23.E n
theorem Q23.hands (n:Nat):∀ a p,Q23.FA n a=some p→HandsIn Tryz.prog 90 (Q23.i a) (Q23.p p):=
 pf_hands (C:=Q23.C n) (cut:=Q23.cut) (Z:=Empty) (t:=nofun) (s:=nofun) (e:=fun _=>Q23.E n) (r:=fun _ z=>nomatch z) (n:=n) cfg mixed globs rfl Q23.qi (Q23.tells n) Tryz.func90 (by kernel_rfl) (by kernel_rfl) (fun rec a=>by kernel_rfl) (fun rec z=>nomatch z)
def Q23.via {R:Type} (n:Nat):List AV→(AV→Option R)→Option R:=viaK (Q23.FA n) Q23.o Q23.p
theorem Q23.tells1 {R:Type} (n:Nat) (xs:List AV):Tells1 (R:=R) Tryz.prog 90 xs (Q23.via n xs):=tells_via Q23.oi (fun a=>by kernel_rfl) (Q23.hands n) xs
end Go.Proofs.YtmpglmcjoelciaaGreatDoor.Ev
namespace Go.Proofs.YtmpglmcjoelciaaGreatDoor.Ev
open Go Go.Proofs Go.Proofs.Ev
set_option linter.unusedVariables false
set_option maxRecDepth 100000
abbrev Q20.A:=ByteArray × ByteArray × List AV × List AV × Bool
abbrev Q20.T:=Int
def Q20.i:Q20.A→List AV:=fun (a0,a1,a2,a3,a4)=>[AV.agg [vs a0,vs a1,.sl ⟨true,125⟩ 4 a2,.sl ⟨true,111⟩ 2 a3,vb a4]]
def Q20.o (xs:List AV):Option Q20.A:=match xs with | [.agg [.v (.string a0),.v (.string a1),.sl ⟨true,125⟩ 4 a2,.sl ⟨true,111⟩ 2 a3,.v (.bool a4)]]=>some (a0,a1,a2,a3,a4) | _=>none
theorem Q20.oi:∀ xs a,Q20.o xs=some a→xs=Q20.i a:=by
 intro xs a h
 unfold Q20.o at h
 split at h
 ·cases h; rfl
 ·cases h
def Q20.p (p:Q20.T):AV:=vi p
def Q20.q (x:AV):Option Q20.T:=match x with | .v (.int .i64 p0)=>some p0 | _=>none
theorem Q20.qi:∀ x p,Q20.q x=some p→x=Q20.p p:=by
 intro x p h
 unfold Q20.q at h
 split at h
 ·cases h; rfl
 ·cases h
def Q20.C {R:Type} (n:Nat) (f:FuncId) (xs:List AV):(AV→Option R)→Option R:=
 bif Nat.beq f 90 then Q23.via n xs else fun _=>none
theorem Q20.tells {R:Type} (n:Nat):Tells (R:=R) Tryz.prog (Q20.C n):=fun _ xs=>tells_at (Q23.tells1 n xs) (Tells1.none)
def Q20.cut (r:Nat):Option Keep:=match r with  | _=>none
def Q20.e (n:Nat) (a0 a1:ByteArray) (a2 a3:List AV) (a4:Bool):Option Int:=
 (Q23.F n a0 a1 a2 a3 a4).bind fun p1=>
 some p1.2
def Q20.E (n:Nat):Q20.A→Option Q20.T:=fun (a0,a1,a2,a3,a4)=>Q20.e n a0 a1 a2 a3 a4
def Q20.F (n:Nat) (a0 a1:ByteArray) (a2 a3:List AV) (a4:Bool):Option Int:=Q20.e n a0 a1 a2 a3 a4
def Q20.FA (n:Nat):Q20.A→Option Q20.T:=Q20.E n
theorem Q20.hands (n:Nat):∀ a p,Q20.FA n a=some p→HandsIn Tryz.prog 38 (Q20.i a) (Q20.p p):=
 pf_hands (C:=Q20.C n) (cut:=Q20.cut) (Z:=Empty) (t:=nofun) (s:=nofun) (e:=fun _=>Q20.E n) (r:=fun _ z=>nomatch z) (n:=n) cfg mixed globs rfl Q20.qi (Q20.tells n) Tryz.func38 (by kernel_rfl) (by kernel_rfl) (fun rec a=>by kernel_rfl) (fun rec z=>nomatch z)
def Q20.via {R:Type} (n:Nat):List AV→(AV→Option R)→Option R:=viaK (Q20.FA n) Q20.o Q20.p
theorem Q20.tells1 {R:Type} (n:Nat) (xs:List AV):Tells1 (R:=R) Tryz.prog 38 xs (Q20.via n xs):=tells_via Q20.oi (fun a=>by kernel_rfl) (Q20.hands n) xs
end Go.Proofs.YtmpglmcjoelciaaGreatDoor.Ev
namespace Go.Proofs.YtmpglmcjoelciaaGreatDoor.Ev
open Go Go.Proofs Go.Proofs.Ev
set_option linter.unusedVariables false
set_option maxRecDepth 100000
abbrev Q2g.A:=ByteArray × ByteArray × List AV × List AV × Bool
abbrev Q2g.T:=Bool
def Q2g.i:Q2g.A→List AV:=fun (a0,a1,a2,a3,a4)=>[AV.agg [vs a0,vs a1,.sl ⟨true,125⟩ 4 a2,.sl ⟨true,111⟩ 2 a3,vb a4]]
def Q2g.o (xs:List AV):Option Q2g.A:=match xs with | [.agg [.v (.string a0),.v (.string a1),.sl ⟨true,125⟩ 4 a2,.sl ⟨true,111⟩ 2 a3,.v (.bool a4)]]=>some (a0,a1,a2,a3,a4) | _=>none
theorem Q2g.oi:∀ xs a,Q2g.o xs=some a→xs=Q2g.i a:=by
 intro xs a h
 unfold Q2g.o at h
 split at h
 ·cases h; rfl
 ·cases h
def Q2g.p (p:Q2g.T):AV:=vb p
def Q2g.q (x:AV):Option Q2g.T:=match x with | .v (.bool p0)=>some p0 | _=>none
theorem Q2g.qi:∀ x p,Q2g.q x=some p→x=Q2g.p p:=by
 intro x p h
 unfold Q2g.q at h
 split at h
 ·cases h; rfl
 ·cases h
inductive Q2g.Z where
 | z2
 | z4 (z1:Int) (z2 z3:ByteArray) (z4 z5:List AV) (z6:Bool)
def Q2g.C {R:Type} (n:Nat) (f:FuncId) (xs:List AV):(AV→Option R)→Option R:=
 bif Nat.beq f 50 then Q2k.via n xs else fun _=>none
theorem Q2g.tells {R:Type} (n:Nat):Tells (R:=R) Tryz.prog (Q2g.C n):=fun _ xs=>tells_at (Q2k.tells1 n xs) (Tells1.none)
def Q2g.cut (r:Nat):Option Keep:=match r with | 2=>some ⟨[],[]⟩ | 4=>some ⟨[1,3],[]⟩ | _=>none
def Q2g.t (z:Q2g.Z):List Item:=(todoOf (match z with | .z2=>2 | .z4 _ _ _ _ _ _=>4) 1000 [.code (Tryz.f71.body.getD .skip)]).getD []
def Q2g.s:Q2g.Z→St
 | .z2=>⟨spr 48 0 [],Mem.ofList [],0⟩
 | .z4 z1 z2 z3 z4 z5 z6=>⟨spr 48 0 [(1,.ptr 0 0),(3,vi z1)],Mem.ofList [.box 48 [vs z2,vs z3,.sl ⟨true,125⟩ 4 z4,.sl ⟨true,111⟩ 2 z5,vb z6]],1⟩
def Q2g.r2 (n:Nat) (c:Q2g.Z→Option Bool)  : Option Bool:=
 some false
def Q2g.r4 (n:Nat) (c:Q2g.Z→Option Bool) (z1:Int) (z2 z3:ByteArray) (z4 z5:List AV) (z6:Bool):Option Bool:=
 let y5:Bool:=decide (z1 < ((z4.length:Nat):Int))
 bif y5 then (bif decide ((0:Int)≤z1)&&decide (z1 < ((z4.length:Nat):Int)) then (withCons ((z4.getD ((z1).toNat) .undef).cells) fun h6 r7=>
 withStr h6 fun s8=>
 let y9:Bool:=decide (((s8.size:Nat):Int) > 100)
 bif y9 then (some false) else (c (.z4 (IntKind.i64.wrap (z1+1)) z2 z3 z4 z5 z6))) else none) else ((Q2k.F n z5).bind fun p10=>
 some p10)
def Q2g.r (n:Nat) (c:Q2g.Z→Option Bool):Q2g.Z→Option Bool
 | .z2=>Q2g.r2 n c
 | .z4 z1 z2 z3 z4 z5 z6=>Q2g.r4 n c z1 z2 z3 z4 z5 z6
def Q2g.e (n:Nat) (c:Q2g.Z→Option Bool) (a0 a1:ByteArray) (a2 a3:List AV) (a4:Bool):Option Bool:=
 let y1:Bool:=decide (((a0.size:Nat):Int) > 100)
 bif y1 then (c .z2) else (let y2:Bool:=decide (((a1.size:Nat):Int) > 100)
 bif y2 then (c .z2) else (let y3:Bool:=decide (((a2.length:Nat):Int) > 40)
 bif y3 then (c .z2) else (let y4:Bool:=decide (((a3.length:Nat):Int) > 40)
 bif y4 then (c .z2) else (c (.z4 0 a0 a1 a2 a3 a4)))))
def Q2g.E (n:Nat) (c:Q2g.Z→Option Bool):Q2g.A→Option Q2g.T:=fun (a0,a1,a2,a3,a4)=>Q2g.e n c a0 a1 a2 a3 a4
def Q2g.l (n:Nat):Nat→Q2g.Z→Option Bool:=loopL (Q2g.r n)
def Q2g.F (n:Nat) (a0 a1:ByteArray) (a2 a3:List AV) (a4:Bool):Option Bool:=Q2g.e n (Q2g.l n n) a0 a1 a2 a3 a4
def Q2g.FA (n:Nat):Q2g.A→Option Q2g.T:=Q2g.E n (Q2g.l n n)
theorem Q2g.hands (n:Nat):∀ a p,Q2g.FA n a=some p→HandsIn Tryz.prog 71 (Q2g.i a) (Q2g.p p):=
 pf_hands (C:=Q2g.C n) (cut:=Q2g.cut) (t:=Q2g.t) (s:=Q2g.s) (e:=Q2g.E n) (r:=Q2g.r n) (n:=n) cfg mixed globs rfl Q2g.qi (Q2g.tells n) Tryz.func71 (by kernel_rfl) (by kernel_rfl) (fun rec a=>by kernel_rfl) (fun rec z=>by cases z <;> kernel_rfl)
def Q2g.via {R:Type} (n:Nat):List AV→(AV→Option R)→Option R:=viaK (Q2g.FA n) Q2g.o Q2g.p
theorem Q2g.tells1 {R:Type} (n:Nat) (xs:List AV):Tells1 (R:=R) Tryz.prog 71 xs (Q2g.via n xs):=tells_via Q2g.oi (fun a=>by kernel_rfl) (Q2g.hands n) xs
end Go.Proofs.YtmpglmcjoelciaaGreatDoor.Ev
namespace Go.Proofs.YtmpglmcjoelciaaGreatDoor.Ev
open Go Go.Proofs Go.Proofs.Ev
set_option linter.unusedVariables false
set_option maxRecDepth 100000
abbrev Q2y.A:=ByteArray × ByteArray × List AV × List AV × Bool
abbrev Q2y.T:=ByteArray × ByteArray × List AV × List AV × Bool
def Q2y.i:Q2y.A→List AV:=fun (a0,a1,a2,a3,a4)=>[AV.agg [vs a0,vs a1,.sl ⟨true,125⟩ 4 a2,.sl ⟨true,111⟩ 2 a3,vb a4]]
def Q2y.o (xs:List AV):Option Q2y.A:=match xs with | [.agg [.v (.string a0),.v (.string a1),.sl ⟨true,125⟩ 4 a2,.sl ⟨true,111⟩ 2 a3,.v (.bool a4)]]=>some (a0,a1,a2,a3,a4) | _=>none
theorem Q2y.oi:∀ xs a,Q2y.o xs=some a→xs=Q2y.i a:=by
 intro xs a h
 unfold Q2y.o at h
 split at h
 ·cases h; rfl
 ·cases h
def Q2y.p (p:Q2y.T):AV:=AV.agg [vs p.1,vs p.2.1,.fr ⟨true,125⟩ 4 p.2.2.1,.fr ⟨true,111⟩ 2 p.2.2.2.1,vb p.2.2.2.2]
def Q2y.q (x:AV):Option Q2y.T:=match x with | .agg [.v (.string p0),.v (.string p1),.fr ⟨true,125⟩ 4 p2,.fr ⟨true,111⟩ 2 p3,.v (.bool p4)]=>some (p0,p1,p2,p3,p4) | _=>none
theorem Q2y.qi:∀ x p,Q2y.q x=some p→x=Q2y.p p:=by
 intro x p h
 unfold Q2y.q at h
 split at h
 ·cases h; rfl
 ·cases h
def Q2y.C {R:Type} (n:Nat) (f:FuncId) (xs:List AV):(AV→Option R)→Option R:=
 fun _=>none
theorem Q2y.tells {R:Type} (n:Nat):Tells (R:=R) Tryz.prog (Q2y.C n):=fun _ xs=>Tells1.none
def Q2y.cut (r:Nat):Option Keep:=match r with  | _=>none
def Q2y.e (n:Nat) (a0 a1:ByteArray) (a2 a3:List AV) (a4:Bool):Option (ByteArray × ByteArray × List AV × List AV × Bool):=
 bif decide (a2.length≤most) then (bif decide (a3.length≤most) then (some (a0,a1,a2,a3,a4)) else none) else none
def Q2y.E (n:Nat):Q2y.A→Option Q2y.T:=fun (a0,a1,a2,a3,a4)=>Q2y.e n a0 a1 a2 a3 a4
def Q2y.F (n:Nat) (a0 a1:ByteArray) (a2 a3:List AV) (a4:Bool):Option (ByteArray × ByteArray × List AV × List AV × Bool):=Q2y.e n a0 a1 a2 a3 a4
def Q2y.FA (n:Nat):Q2y.A→Option Q2y.T:=Q2y.E n
theorem Q2y.hands (n:Nat):∀ a p,Q2y.FA n a=some p→HandsIn Tryz.prog 80 (Q2y.i a) (Q2y.p p):=
 pf_hands (C:=Q2y.C n) (cut:=Q2y.cut) (Z:=Empty) (t:=nofun) (s:=nofun) (e:=fun _=>Q2y.E n) (r:=fun _ z=>nomatch z) (n:=n) cfg mixed globs rfl Q2y.qi (Q2y.tells n) Tryz.func80 (by kernel_rfl) (by kernel_rfl) (fun rec a=>by kernel_rfl) (fun rec z=>nomatch z)
def Q2y.via {R:Type} (n:Nat):List AV→(AV→Option R)→Option R:=viaK (Q2y.FA n) Q2y.o Q2y.p
theorem Q2y.tells1 {R:Type} (n:Nat) (xs:List AV):Tells1 (R:=R) Tryz.prog 80 xs (Q2y.via n xs):=tells_via Q2y.oi (fun a=>by kernel_rfl) (Q2y.hands n) xs
end Go.Proofs.YtmpglmcjoelciaaGreatDoor.Ev
namespace Go.Proofs.YtmpglmcjoelciaaGreatDoor.Ev
open Go Go.Proofs Go.Proofs.Ev
set_option linter.unusedVariables false
set_option maxRecDepth 100000
abbrev Q2h.A:=List AV
abbrev Q2h.T:=Bool
def Q2h.i:Q2h.A→List AV:=fun a0=>[.sl ⟨false,48⟩ 5 a0]
def Q2h.o (xs:List AV):Option Q2h.A:=match xs with | [.sl ⟨false,48⟩ 5 a0]=>some a0 | _=>none
theorem Q2h.oi:∀ xs a,Q2h.o xs=some a→xs=Q2h.i a:=by
 intro xs a h
 unfold Q2h.o at h
 split at h
 ·cases h; rfl
 ·cases h
def Q2h.p (p:Q2h.T):AV:=vb p
def Q2h.q (x:AV):Option Q2h.T:=match x with | .v (.bool p0)=>some p0 | _=>none
theorem Q2h.qi:∀ x p,Q2h.q x=some p→x=Q2h.p p:=by
 intro x p h
 unfold Q2h.q at h
 split at h
 ·cases h; rfl
 ·cases h
inductive Q2h.Z where
 | z4 (z1:List AV) (z2:Int)
def Q2h.C {R:Type} (n:Nat) (f:FuncId) (xs:List AV):(AV→Option R)→Option R:=
 bif Nat.beq f 71 then Q2g.via n xs else fun _=>none
theorem Q2h.tells {R:Type} (n:Nat):Tells (R:=R) Tryz.prog (Q2h.C n):=fun _ xs=>tells_at (Q2g.tells1 n xs) (Tells1.none)
def Q2h.cut (r:Nat):Option Keep:=match r with | 4=>some ⟨[0,3],[]⟩ | _=>none
def Q2h.t (z:Q2h.Z):List Item:=(todoOf (match z with | .z4 _ _=>4) 1000 [.code (Tryz.f35.body.getD .skip)]).getD []
def Q2h.s:Q2h.Z→St
 | .z4 z1 z2=>⟨spr 19 0 [(0,.sl ⟨false,48⟩ 5 z1),(3,vi z2)],Mem.ofList [],0⟩
def Q2h.r4 (n:Nat) (c:Q2h.Z→Option Bool) (z1:List AV) (z2:Int):Option Bool:=
 let y2:Bool:=decide (z2 < ((z1.length:Nat):Int))
 bif y2 then (bif decide ((0:Int)≤z2)&&decide (z2 < ((z1.length:Nat):Int)) then (withCons ((z1.getD ((z2).toNat) .undef).cells) fun h3 r4=>
 withStr h3 fun s5=>
 withCons r4 fun h6 r7=>
 withStr h6 fun s8=>
 withCons r7 fun h9 r10=>
 withSl ⟨true,125⟩ 4 h9 fun xs11=>
 withCons r10 fun h12 r13=>
 withSl ⟨true,111⟩ 2 h12 fun xs14=>
 withCons r13 fun h15 r16=>
 withBool h15 fun b17=>
 (Q2g.F n s5 s8 xs11 xs14 b17).bind fun p18=>
 bif !p18 then (some false) else (c (.z4 z1 (IntKind.i64.wrap (z2+1))))) else none) else (some true)
def Q2h.r (n:Nat) (c:Q2h.Z→Option Bool):Q2h.Z→Option Bool
 | .z4 z1 z2=>Q2h.r4 n c z1 z2
def Q2h.e (n:Nat) (c:Q2h.Z→Option Bool) (a0:List AV):Option Bool:=
 let y1:Bool:=decide (((a0.length:Nat):Int) > 20)
 bif y1 then (some false) else (c (.z4 a0 0))
def Q2h.E (n:Nat) (c:Q2h.Z→Option Bool):Q2h.A→Option Q2h.T:=fun a0=>Q2h.e n c a0
def Q2h.l (n:Nat):Nat→Q2h.Z→Option Bool:=loopL (Q2h.r n)
def Q2h.F (n:Nat) (a0:List AV):Option Bool:=Q2h.e n (Q2h.l n n) a0
def Q2h.FA (n:Nat):Q2h.A→Option Q2h.T:=Q2h.E n (Q2h.l n n)
theorem Q2h.hands (n:Nat):∀ a p,Q2h.FA n a=some p→HandsIn Tryz.prog 35 (Q2h.i a) (Q2h.p p):=
 pf_hands (C:=Q2h.C n) (cut:=Q2h.cut) (t:=Q2h.t) (s:=Q2h.s) (e:=Q2h.E n) (r:=Q2h.r n) (n:=n) cfg mixed globs rfl Q2h.qi (Q2h.tells n) Tryz.func35 (by kernel_rfl) (by kernel_rfl) (fun rec a=>by kernel_rfl) (fun rec z=>by cases z <;> kernel_rfl)
def Q2h.via {R:Type} (n:Nat):List AV→(AV→Option R)→Option R:=viaK (Q2h.FA n) Q2h.o Q2h.p
theorem Q2h.tells1 {R:Type} (n:Nat) (xs:List AV):Tells1 (R:=R) Tryz.prog 35 xs (Q2h.via n xs):=tells_via Q2h.oi (fun a=>by kernel_rfl) (Q2h.hands n) xs
end Go.Proofs.YtmpglmcjoelciaaGreatDoor.Ev
namespace Go.Proofs.YtmpglmcjoelciaaGreatDoor.Ev
open Go Go.Proofs Go.Proofs.Ev
set_option linter.unusedVariables false
set_option maxRecDepth 100000
abbrev Q0l.A:=ByteArray × ByteArray × List AV × List AV × Bool × ByteArray × ByteArray × List AV × List AV × Bool
abbrev Q0l.T:=Bool × ByteArray × ByteArray × List AV × List AV × Bool
def Q0l.i:Q0l.A→List AV:=fun (a0,a1,a2,a3,a4,a5,a6,a7,a8,a9)=>[AV.agg [vs a0,vs a1,.sl ⟨true,125⟩ 4 a2,.sl ⟨true,111⟩ 2 a3,vb a4],.ptr 0 0]
def Q0l.b:Q0l.A→List AV:=fun (a0,a1,a2,a3,a4,a5,a6,a7,a8,a9)=>[.fn 48 [vs a5,vs a6,.sl ⟨true,125⟩ 4 a7,.sl ⟨true,111⟩ 2 a8,vb a9]]
def Q0l.o (xs:List AV):Option Q0l.A:=match xs with | [.agg [.v (.string a0),.v (.string a1),.sl ⟨true,125⟩ 4 a2,.sl ⟨true,111⟩ 2 a3,.v (.bool a4)],.ptr 0 0,.tup [.fn 48 [.v (.string a5),.v (.string a6),.sl ⟨true,125⟩ 4 a7,.sl ⟨true,111⟩ 2 a8,.v (.bool a9)]]]=>some (a0,a1,a2,a3,a4,a5,a6,a7,a8,a9) | _=>none
theorem Q0l.oi:∀ xs a,Q0l.o xs=some a→xs=Q0l.i a++[.tup (Q0l.b a)]:=by
 intro xs a h
 unfold Q0l.o at h
 split at h
 ·cases h; rfl
 ·cases h
def Q0l.y (p:Q0l.T):AV:=vb p.1
def Q0l.w (p:Q0l.T):List AV:=[.fn 48 [vs p.2.1,vs p.2.2.1,.sl ⟨true,125⟩ 4 p.2.2.2.1,.sl ⟨true,111⟩ 2 p.2.2.2.2.1,vb p.2.2.2.2.2]]
def Q0l.p (p:Q0l.T):AV:=.tup [Q0l.y p,.tup (Q0l.w p)]
def Q0l.q (x:AV):Option Q0l.T:=match x with | .tup [.v (.bool p0),.tup [.fn 48 [.v (.string p1),.v (.string p2),.sl ⟨true,125⟩ 4 p3,.sl ⟨true,111⟩ 2 p4,.v (.bool p5)]]]=>some (p0,p1,p2,p3,p4,p5) | _=>none
theorem Q0l.qi:∀ x p,Q0l.q x=some p→x=Q0l.p p:=by
 intro x p h
 unfold Q0l.q at h
 split at h
 ·cases h; rfl
 ·cases h
def Q0l.C {R:Type} (n:Nat) (f:FuncId) (xs:List AV):(AV→Option R)→Option R:=
 fun _=>none
theorem Q0l.tells {R:Type} (n:Nat):Tells (R:=R) Tryz.prog (Q0l.C n):=fun _ xs=>Tells1.none
def Q0l.cut (r:Nat):Option Keep:=match r with  | _=>none
def Q0l.e (n:Nat) (a0 a1:ByteArray) (a2 a3:List AV) (a4:Bool) (a5 a6:ByteArray) (a7 a8:List AV) (a9:Bool):Option (Bool × ByteArray × ByteArray × List AV × List AV × Bool):=
 some (a0.toList==a5.toList,a5,a6,a7,a8,a9)
def Q0l.E (n:Nat):Q0l.A→Option Q0l.T:=fun (a0,a1,a2,a3,a4,a5,a6,a7,a8,a9)=>Q0l.e n a0 a1 a2 a3 a4 a5 a6 a7 a8 a9
def Q0l.F (n:Nat) (a0 a1:ByteArray) (a2 a3:List AV) (a4:Bool) (a5 a6:ByteArray) (a7 a8:List AV) (a9:Bool):Option (Bool × ByteArray × ByteArray × List AV × List AV × Bool):=Q0l.e n a0 a1 a2 a3 a4 a5 a6 a7 a8 a9
def Q0l.FA (n:Nat):Q0l.A→Option Q0l.T:=Q0l.E n
def Q0l.nils:List (Nat × Nat × Fl × Nat):=[]
theorem Q0l.hands (n:Nat):∀ a p,Q0l.FA n a=some p→HandsMIn Tryz.prog 155 (Q0l.i a) (Q0l.b a) (Q0l.y p) (Q0l.w p):=
 pfM_hands (G:=Gk 1) (C:=Q0l.C n) (cut:=Q0l.cut) (Z:=Empty) (t:=nofun) (s:=nofun) (nils:=Q0l.nils) (e:=fun _=>Q0l.E n) (r:=fun _ z=>nomatch z) (n:=n) (cfg.kb 1) mixed globs Q0l.qi (fun a=>by kernel_rfl) (Q0l.tells n) Tryz.func155 (by kernel_rfl) (by kernel_rfl) (fun rec a=>by kernel_rfl) (fun rec z=>nomatch z)
def Q0l.via {R:Type} (n:Nat):List AV→(AV→Option R)→Option R:=viaK (Q0l.FA n) Q0l.o Q0l.p
theorem Q0l.tells1 {R:Type} (n:Nat) (xs:List AV):Tells1 (R:=R) Tryz.prog 155 xs (Q0l.via n xs):=tells_viaM (fun _=>rfl) Q0l.oi (Q0l.hands n) xs
end Go.Proofs.YtmpglmcjoelciaaGreatDoor.Ev
namespace Go.Proofs.YtmpglmcjoelciaaGreatDoor.Ev
open Go Go.Proofs Go.Proofs.Ev
set_option linter.unusedVariables false
set_option maxRecDepth 100000
abbrev Q02.A:=List AV × ByteArray × ByteArray × List AV × List AV × Bool
abbrev Q02.T:=Int × ByteArray × ByteArray × List AV × List AV × Bool
def Q02.i:Q02.A→List AV:=fun (a0,a1,a2,a3,a4,a5)=>[.sl ⟨false,48⟩ 5 a0,.fn 155 [.ptr 0 0]]
def Q02.b:Q02.A→List AV:=fun (a0,a1,a2,a3,a4,a5)=>[.fn 48 [vs a1,vs a2,.sl ⟨true,125⟩ 4 a3,.sl ⟨true,111⟩ 2 a4,vb a5]]
def Q02.o (xs:List AV):Option Q02.A:=match xs with | [.sl ⟨false,48⟩ 5 a0,.fn 155 [.ptr 0 0],.tup [.fn 48 [.v (.string a1),.v (.string a2),.sl ⟨true,125⟩ 4 a3,.sl ⟨true,111⟩ 2 a4,.v (.bool a5)]]]=>some (a0,a1,a2,a3,a4,a5) | _=>none
theorem Q02.oi:∀ xs a,Q02.o xs=some a→xs=Q02.i a++[.tup (Q02.b a)]:=by
 intro xs a h
 unfold Q02.o at h
 split at h
 ·cases h; rfl
 ·cases h
def Q02.y (p:Q02.T):AV:=vi p.1
def Q02.w (p:Q02.T):List AV:=[.fn 48 [vs p.2.1,vs p.2.2.1,.sl ⟨true,125⟩ 4 p.2.2.2.1,.sl ⟨true,111⟩ 2 p.2.2.2.2.1,vb p.2.2.2.2.2]]
def Q02.p (p:Q02.T):AV:=.tup [Q02.y p,.tup (Q02.w p)]
def Q02.q (x:AV):Option Q02.T:=match x with | .tup [.v (.int .i64 p0),.tup [.fn 48 [.v (.string p1),.v (.string p2),.sl ⟨true,125⟩ 4 p3,.sl ⟨true,111⟩ 2 p4,.v (.bool p5)]]]=>some (p0,p1,p2,p3,p4,p5) | _=>none
theorem Q02.qi:∀ x p,Q02.q x=some p→x=Q02.p p:=by
 intro x p h
 unfold Q02.q at h
 split at h
 ·cases h; rfl
 ·cases h
inductive Q02.Z where
 | z2 (z1:List AV) (z2 z3:Int) (z4 z5:ByteArray) (z6 z7:List AV) (z8:Bool)
def Q02.C {R:Type} (n:Nat) (f:FuncId) (xs:List AV):(AV→Option R)→Option R:=
 bif Nat.beq f 155 then Q0l.via n xs else fun _=>none
theorem Q02.tells {R:Type} (n:Nat):Tells (R:=R) Tryz.prog (Q02.C n):=fun _ xs=>tells_at (Q0l.tells1 n xs) (Tells1.none)
def Q02.cut (r:Nat):Option Keep:=match r with | 2=>some ⟨[0,1,7,8],[]⟩ | _=>none
def Q02.t (z:Q02.Z):List Item:=(todoOf (match z with | .z2 _ _ _ _ _ _ _ _=>2) 1000 [.code (Tryz.f132.body.getD .skip)]).getD []
def Q02.s:Q02.Z→St
 | .z2 z1 z2 z3 z4 z5 z6 z7 z8=>⟨spr 19 0 [(0,.sl ⟨false,48⟩ 5 z1),(1,.fn 155 [.ptr 0 0]),(7,vi z2),(8,vi z3)],Mem.ofList [.box 48 [vs z4,vs z5,.sl ⟨true,125⟩ 4 z6,.sl ⟨true,111⟩ 2 z7,vb z8]],1⟩
def Q02.r2 (n:Nat) (c:Q02.Z→Option (Int × ByteArray × ByteArray × List AV × List AV × Bool)) (z1:List AV) (z2 z3:Int) (z4 z5:ByteArray) (z6 z7:List AV) (z8:Bool):Option (Int × ByteArray × ByteArray × List AV × List AV × Bool):=
 bif decide (z3 < z2) then (bif decide ((0:Int)≤z3)&&decide (z3 < ((z1.length:Nat):Int)) then (withCons ((z1.getD ((z3).toNat) .undef).cells) fun h1 r2=>
 withStr h1 fun s3=>
 withCons r2 fun h4 r5=>
 withStr h4 fun s6=>
 withCons r5 fun h7 r8=>
 withSl ⟨true,125⟩ 4 h7 fun xs9=>
 withCons r8 fun h10 r11=>
 withSl ⟨true,111⟩ 2 h10 fun xs12=>
 withCons r11 fun h13 r14=>
 withBool h13 fun b15=>
 (Q0l.F n s3 s6 xs9 xs12 b15 z4 z5 z6 z7 z8).bind fun p16=>
 bif p16.1 then (some (z3,p16.2.1,p16.2.2.1,p16.2.2.2.1,p16.2.2.2.2.1,p16.2.2.2.2.2)) else (c (.z2 z1 z2 (IntKind.i64.wrap (z3+1)) p16.2.1 p16.2.2.1 p16.2.2.2.1 p16.2.2.2.2.1 p16.2.2.2.2.2))) else none) else (some ((-1),z4,z5,z6,z7,z8))
def Q02.r (n:Nat) (c:Q02.Z→Option (Int × ByteArray × ByteArray × List AV × List AV × Bool)):Q02.Z→Option (Int × ByteArray × ByteArray × List AV × List AV × Bool)
 | .z2 z1 z2 z3 z4 z5 z6 z7 z8=>Q02.r2 n c z1 z2 z3 z4 z5 z6 z7 z8
def Q02.e (n:Nat) (c:Q02.Z→Option (Int × ByteArray × ByteArray × List AV × List AV × Bool)) (a0:List AV) (a1 a2:ByteArray) (a3 a4:List AV) (a5:Bool):Option (Int × ByteArray × ByteArray × List AV × List AV × Bool):=
 c (.z2 a0 ((a0.length:Nat):Int) 0 a1 a2 a3 a4 a5)
def Q02.E (n:Nat) (c:Q02.Z→Option (Int × ByteArray × ByteArray × List AV × List AV × Bool)):Q02.A→Option Q02.T:=fun (a0,a1,a2,a3,a4,a5)=>Q02.e n c a0 a1 a2 a3 a4 a5
def Q02.l (n:Nat):Nat→Q02.Z→Option (Int × ByteArray × ByteArray × List AV × List AV × Bool):=loopL (Q02.r n)
def Q02.F (n:Nat) (a0:List AV) (a1 a2:ByteArray) (a3 a4:List AV) (a5:Bool):Option (Int × ByteArray × ByteArray × List AV × List AV × Bool):=Q02.e n (Q02.l n n) a0 a1 a2 a3 a4 a5
def Q02.FA (n:Nat):Q02.A→Option Q02.T:=Q02.E n (Q02.l n n)
def Q02.nils:List (Nat × Nat × Fl × Nat):=[]
theorem Q02.hands (n:Nat):∀ a p,Q02.FA n a=some p→HandsMIn Tryz.prog 132 (Q02.i a) (Q02.b a) (Q02.y p) (Q02.w p):=
 pfM_hands (G:=Gk 1) (C:=Q02.C n) (cut:=Q02.cut) (t:=Q02.t) (s:=Q02.s) (nils:=Q02.nils) (e:=Q02.E n) (r:=Q02.r n) (n:=n) (cfg.kb 1) mixed globs Q02.qi (fun a=>by kernel_rfl) (Q02.tells n) Tryz.func132 (by kernel_rfl) (by kernel_rfl) (fun rec a=>by kernel_rfl) (fun rec z=>by cases z <;> kernel_rfl)
def Q02.via {R:Type} (n:Nat):List AV→(AV→Option R)→Option R:=viaK (Q02.FA n) Q02.o Q02.p
theorem Q02.tells1 {R:Type} (n:Nat) (xs:List AV):Tells1 (R:=R) Tryz.prog 132 xs (Q02.via n xs):=tells_viaM (fun _=>rfl) Q02.oi (Q02.hands n) xs
end Go.Proofs.YtmpglmcjoelciaaGreatDoor.Ev
namespace Go.Proofs.YtmpglmcjoelciaaGreatDoor.Ev
open Go Go.Proofs Go.Proofs.Ev
set_option linter.unusedVariables false
set_option maxRecDepth 100000
abbrev Q01.A:=List AV × ByteArray × ByteArray × List AV × List AV × Bool
abbrev Q01.T:=Bool × ByteArray × ByteArray × List AV × List AV × Bool
def Q01.i:Q01.A→List AV:=fun (a0,a1,a2,a3,a4,a5)=>[.sl ⟨false,48⟩ 5 a0,.fn 155 [.ptr 0 0]]
def Q01.b:Q01.A→List AV:=fun (a0,a1,a2,a3,a4,a5)=>[.fn 48 [vs a1,vs a2,.sl ⟨true,125⟩ 4 a3,.sl ⟨true,111⟩ 2 a4,vb a5]]
def Q01.o (xs:List AV):Option Q01.A:=match xs with | [.sl ⟨false,48⟩ 5 a0,.fn 155 [.ptr 0 0],.tup [.fn 48 [.v (.string a1),.v (.string a2),.sl ⟨true,125⟩ 4 a3,.sl ⟨true,111⟩ 2 a4,.v (.bool a5)]]]=>some (a0,a1,a2,a3,a4,a5) | _=>none
theorem Q01.oi:∀ xs a,Q01.o xs=some a→xs=Q01.i a++[.tup (Q01.b a)]:=by
 intro xs a h
 unfold Q01.o at h
 split at h
 ·cases h; rfl
 ·cases h
def Q01.y (p:Q01.T):AV:=vb p.1
def Q01.w (p:Q01.T):List AV:=[.fn 48 [vs p.2.1,vs p.2.2.1,.sl ⟨true,125⟩ 4 p.2.2.2.1,.sl ⟨true,111⟩ 2 p.2.2.2.2.1,vb p.2.2.2.2.2]]
def Q01.p (p:Q01.T):AV:=.tup [Q01.y p,.tup (Q01.w p)]
def Q01.q (x:AV):Option Q01.T:=match x with | .tup [.v (.bool p0),.tup [.fn 48 [.v (.string p1),.v (.string p2),.sl ⟨true,125⟩ 4 p3,.sl ⟨true,111⟩ 2 p4,.v (.bool p5)]]]=>some (p0,p1,p2,p3,p4,p5) | _=>none
theorem Q01.qi:∀ x p,Q01.q x=some p→x=Q01.p p:=by
 intro x p h
 unfold Q01.q at h
 split at h
 ·cases h; rfl
 ·cases h
def Q01.C {R:Type} (n:Nat) (f:FuncId) (xs:List AV):(AV→Option R)→Option R:=
 bif Nat.beq f 132 then Q02.via n xs else fun _=>none
theorem Q01.tells {R:Type} (n:Nat):Tells (R:=R) Tryz.prog (Q01.C n):=fun _ xs=>tells_at (Q02.tells1 n xs) (Tells1.none)
def Q01.cut (r:Nat):Option Keep:=match r with  | _=>none
def Q01.e (n:Nat) (a0:List AV) (a1 a2:ByteArray) (a3 a4:List AV) (a5:Bool):Option (Bool × ByteArray × ByteArray × List AV × List AV × Bool):=
 (Q02.F n a0 a1 a2 a3 a4 a5).bind fun p1=>
 some (decide (p1.1≥0),p1.2.1,p1.2.2.1,p1.2.2.2.1,p1.2.2.2.2.1,p1.2.2.2.2.2)
def Q01.E (n:Nat):Q01.A→Option Q01.T:=fun (a0,a1,a2,a3,a4,a5)=>Q01.e n a0 a1 a2 a3 a4 a5
def Q01.F (n:Nat) (a0:List AV) (a1 a2:ByteArray) (a3 a4:List AV) (a5:Bool):Option (Bool × ByteArray × ByteArray × List AV × List AV × Bool):=Q01.e n a0 a1 a2 a3 a4 a5
def Q01.FA (n:Nat):Q01.A→Option Q01.T:=Q01.E n
def Q01.nils:List (Nat × Nat × Fl × Nat):=[]
theorem Q01.hands (n:Nat):∀ a p,Q01.FA n a=some p→HandsMIn Tryz.prog 154 (Q01.i a) (Q01.b a) (Q01.y p) (Q01.w p):=
 pfM_hands (G:=Gk 1) (C:=Q01.C n) (cut:=Q01.cut) (Z:=Empty) (t:=nofun) (s:=nofun) (nils:=Q01.nils) (e:=fun _=>Q01.E n) (r:=fun _ z=>nomatch z) (n:=n) (cfg.kb 1) mixed globs Q01.qi (fun a=>by kernel_rfl) (Q01.tells n) Tryz.func154 (by kernel_rfl) (by kernel_rfl) (fun rec a=>by kernel_rfl) (fun rec z=>nomatch z)
def Q01.via {R:Type} (n:Nat):List AV→(AV→Option R)→Option R:=viaK (Q01.FA n) Q01.o Q01.p
theorem Q01.tells1 {R:Type} (n:Nat) (xs:List AV):Tells1 (R:=R) Tryz.prog 154 xs (Q01.via n xs):=tells_viaM (fun _=>rfl) Q01.oi (Q01.hands n) xs
end Go.Proofs.YtmpglmcjoelciaaGreatDoor.Ev
namespace Go.Proofs.YtmpglmcjoelciaaGreatDoor.Ev
open Go Go.Proofs Go.Proofs.Ev
set_option linter.unusedVariables false
set_option maxRecDepth 100000
abbrev Q0k.A:=List AV
abbrev Q0k.T:=Int
def Q0k.i:Q0k.A→List AV:=fun a0=>[.sl ⟨false,48⟩ 5 a0]
def Q0k.o (xs:List AV):Option Q0k.A:=match xs with | [.sl ⟨false,48⟩ 5 a0]=>some a0 | _=>none
theorem Q0k.oi:∀ xs a,Q0k.o xs=some a→xs=Q0k.i a:=by
 intro xs a h
 unfold Q0k.o at h
 split at h
 ·cases h; rfl
 ·cases h
def Q0k.p (p:Q0k.T):AV:=vi p
def Q0k.q (x:AV):Option Q0k.T:=match x with | .v (.int .i64 p0)=>some p0 | _=>none
theorem Q0k.qi:∀ x p,Q0k.q x=some p→x=Q0k.p p:=by
 intro x p h
 unfold Q0k.q at h
 split at h
 ·cases h; rfl
 ·cases h
inductive Q0k.Z where
 | z4 (z1 z2:List AV) (z3 z4:Int)
def Q0k.C {R:Type} (n:Nat) (f:FuncId) (xs:List AV):(AV→Option R)→Option R:=
 bif Nat.beq f 44 then Q0m.via n xs else bif Nat.beq f 45 then Q0f.via n xs else bif Nat.beq f 115 then Q0j.via n xs else bif Nat.beq f 154 then Q01.via n xs else fun _=>none
theorem Q0k.tells {R:Type} (n:Nat):Tells (R:=R) Tryz.prog (Q0k.C n):=fun _ xs=>tells_at (Q0m.tells1 n xs) (tells_at (Q0f.tells1 n xs) (tells_at (Q0j.tells1 n xs) (tells_at (Q01.tells1 n xs) (Tells1.none))))
def Q0k.cut (r:Nat):Option Keep:=match r with | 4=>some ⟨[0,10,11,12],[]⟩ | _=>none
def Q0k.t (z:Q0k.Z):List Item:=(todoOf (match z with | .z4 _ _ _ _=>4) 1000 [.code (Tryz.f131.body.getD .skip)]).getD []
def Q0k.s:Q0k.Z→St
 | .z4 z1 z2 z3 z4=>⟨spr 32 0 [(0,.sl ⟨false,48⟩ 5 z1),(10,.sl ⟨false,48⟩ 5 z2),(11,vi z3),(12,vi z4)],Mem.ofList [],0⟩
def Q0k.r4 (n:Nat) (c:Q0k.Z→Option Int) (z1 z2:List AV) (z3 z4:Int):Option Int:=
 bif decide (z4 < z3) then (bif decide ((0:Int)≤z4)&&decide (z4 < ((z2.length:Nat):Int)) then (withCons ((z2.getD ((z4).toNat) .undef).cells) fun h2 r3=>
 withStr h2 fun s4=>
 withCons r3 fun h5 r6=>
 withStr h5 fun s7=>
 withCons r6 fun h8 r9=>
 withSl ⟨true,125⟩ 4 h8 fun xs10=>
 withCons r9 fun h11 r12=>
 withSl ⟨true,111⟩ 2 h11 fun xs13=>
 withCons r12 fun h14 r15=>
 withBool h14 fun b16=>
 bif decide ((0:Int)≤z4)&&decide ((z4:Int)≤((z1.length:Nat):Int)) then ((Q01.F n ((z1.take (z4).toNat).drop 0) s4 s7 xs10 xs13 b16).bind fun p17=>
 (Q0j.F n p17.2.1 p17.2.2.1 p17.2.2.2.1 p17.2.2.2.2.1 p17.2.2.2.2.2).bind fun p18=>
 (Q0f.F n p17.1 13).bind fun p19=>
 (Q0m.F n [vi p18,vi p19]).bind fun p20=>
 bif p20 != 0 then (some p20) else (c (.z4 z1 z2 z3 (IntKind.i64.wrap (z4+1))))) else none) else none) else (some 0)
def Q0k.r (n:Nat) (c:Q0k.Z→Option Int):Q0k.Z→Option Int
 | .z4 z1 z2 z3 z4=>Q0k.r4 n c z1 z2 z3 z4
def Q0k.e (n:Nat) (c:Q0k.Z→Option Int) (a0:List AV):Option Int:=
 let y1:Bool:=decide (((a0.length:Nat):Int) > 8)
 bif y1 then (some 2) else (c (.z4 a0 a0 ((a0.length:Nat):Int) 0))
def Q0k.E (n:Nat) (c:Q0k.Z→Option Int):Q0k.A→Option Q0k.T:=fun a0=>Q0k.e n c a0
def Q0k.l (n:Nat):Nat→Q0k.Z→Option Int:=loopL (Q0k.r n)
def Q0k.F (n:Nat) (a0:List AV):Option Int:=Q0k.e n (Q0k.l n n) a0
def Q0k.FA (n:Nat):Q0k.A→Option Q0k.T:=Q0k.E n (Q0k.l n n)
theorem Q0k.hands (n:Nat):∀ a p,Q0k.FA n a=some p→HandsIn Tryz.prog 131 (Q0k.i a) (Q0k.p p):=
 pf_hands (C:=Q0k.C n) (cut:=Q0k.cut) (t:=Q0k.t) (s:=Q0k.s) (e:=Q0k.E n) (r:=Q0k.r n) (n:=n) cfg mixed globs rfl Q0k.qi (Q0k.tells n) Tryz.func131 (by kernel_rfl) (by kernel_rfl) (fun rec a=>by kernel_rfl) (fun rec z=>by cases z <;> kernel_rfl)
def Q0k.via {R:Type} (n:Nat):List AV→(AV→Option R)→Option R:=viaK (Q0k.FA n) Q0k.o Q0k.p
theorem Q0k.tells1 {R:Type} (n:Nat) (xs:List AV):Tells1 (R:=R) Tryz.prog 131 xs (Q0k.via n xs):=tells_via Q0k.oi (fun a=>by kernel_rfl) (Q0k.hands n) xs
end Go.Proofs.YtmpglmcjoelciaaGreatDoor.Ev
namespace Go.Proofs.YtmpglmcjoelciaaGreatDoor.Ev
open Go Go.Proofs Go.Proofs.Ev
set_option linter.unusedVariables false
set_option maxRecDepth 100000
abbrev Q12.A:=ByteArray × ByteArray × List AV × List AV × Bool × ByteArray
abbrev Q12.T:=Bool × ByteArray
def Q12.i:Q12.A→List AV:=fun (a0,a1,a2,a3,a4,a5)=>[AV.agg [vs a0,vs a1,.sl ⟨true,125⟩ 4 a2,.sl ⟨true,111⟩ 2 a3,vb a4],.ptr 0 0]
def Q12.b:Q12.A→List AV:=fun (a0,a1,a2,a3,a4,a5)=>[.fn 9 [vs a5]]
def Q12.o (xs:List AV):Option Q12.A:=match xs with | [.agg [.v (.string a0),.v (.string a1),.sl ⟨true,125⟩ 4 a2,.sl ⟨true,111⟩ 2 a3,.v (.bool a4)],.ptr 0 0,.tup [.fn 9 [.v (.string a5)]]]=>some (a0,a1,a2,a3,a4,a5) | _=>none
theorem Q12.oi:∀ xs a,Q12.o xs=some a→xs=Q12.i a++[.tup (Q12.b a)]:=by
 intro xs a h
 unfold Q12.o at h
 split at h
 ·cases h; rfl
 ·cases h
def Q12.y (p:Q12.T):AV:=vb p.1
def Q12.w (p:Q12.T):List AV:=[.fn 9 [vs p.2]]
def Q12.p (p:Q12.T):AV:=.tup [Q12.y p,.tup (Q12.w p)]
def Q12.q (x:AV):Option Q12.T:=match x with | .tup [.v (.bool p0),.tup [.fn 9 [.v (.string p1)]]]=>some (p0,p1) | _=>none
theorem Q12.qi:∀ x p,Q12.q x=some p→x=Q12.p p:=by
 intro x p h
 unfold Q12.q at h
 split at h
 ·cases h; rfl
 ·cases h
def Q12.C {R:Type} (n:Nat) (f:FuncId) (xs:List AV):(AV→Option R)→Option R:=
 fun _=>none
theorem Q12.tells {R:Type} (n:Nat):Tells (R:=R) Tryz.prog (Q12.C n):=fun _ xs=>Tells1.none
def Q12.cut (r:Nat):Option Keep:=match r with  | _=>none
def Q12.e (n:Nat) (a0 a1:ByteArray) (a2 a3:List AV) (a4:Bool) (a5:ByteArray):Option (Bool × ByteArray):=
 some (a0.toList==a5.toList,a5)
def Q12.E (n:Nat):Q12.A→Option Q12.T:=fun (a0,a1,a2,a3,a4,a5)=>Q12.e n a0 a1 a2 a3 a4 a5
def Q12.F (n:Nat) (a0 a1:ByteArray) (a2 a3:List AV) (a4:Bool) (a5:ByteArray):Option (Bool × ByteArray):=Q12.e n a0 a1 a2 a3 a4 a5
def Q12.FA (n:Nat):Q12.A→Option Q12.T:=Q12.E n
def Q12.nils:List (Nat × Nat × Fl × Nat):=[]
theorem Q12.hands (n:Nat):∀ a p,Q12.FA n a=some p→HandsMIn Tryz.prog 133 (Q12.i a) (Q12.b a) (Q12.y p) (Q12.w p):=
 pfM_hands (G:=Gk 1) (C:=Q12.C n) (cut:=Q12.cut) (Z:=Empty) (t:=nofun) (s:=nofun) (nils:=Q12.nils) (e:=fun _=>Q12.E n) (r:=fun _ z=>nomatch z) (n:=n) (cfg.kb 1) mixed globs Q12.qi (fun a=>by kernel_rfl) (Q12.tells n) Tryz.func133 (by kernel_rfl) (by kernel_rfl) (fun rec a=>by kernel_rfl) (fun rec z=>nomatch z)
def Q12.via {R:Type} (n:Nat):List AV→(AV→Option R)→Option R:=viaK (Q12.FA n) Q12.o Q12.p
theorem Q12.tells1 {R:Type} (n:Nat) (xs:List AV):Tells1 (R:=R) Tryz.prog 133 xs (Q12.via n xs):=tells_viaM (fun _=>rfl) Q12.oi (Q12.hands n) xs
end Go.Proofs.YtmpglmcjoelciaaGreatDoor.Ev
namespace Go.Proofs.YtmpglmcjoelciaaGreatDoor.Ev
open Go Go.Proofs Go.Proofs.Ev
set_option linter.unusedVariables false
set_option maxRecDepth 100000
abbrev Q03.A:=List AV × ByteArray
abbrev Q03.T:=Int × ByteArray
def Q03.i:Q03.A→List AV:=fun (a0,a1)=>[.sl ⟨false,48⟩ 5 a0,.fn 133 [.ptr 0 0]]
def Q03.b:Q03.A→List AV:=fun (a0,a1)=>[.fn 9 [vs a1]]
def Q03.o (xs:List AV):Option Q03.A:=match xs with | [.sl ⟨false,48⟩ 5 a0,.fn 133 [.ptr 0 0],.tup [.fn 9 [.v (.string a1)]]]=>some (a0,a1) | _=>none
theorem Q03.oi:∀ xs a,Q03.o xs=some a→xs=Q03.i a++[.tup (Q03.b a)]:=by
 intro xs a h
 unfold Q03.o at h
 split at h
 ·cases h; rfl
 ·cases h
def Q03.y (p:Q03.T):AV:=vi p.1
def Q03.w (p:Q03.T):List AV:=[.fn 9 [vs p.2]]
def Q03.p (p:Q03.T):AV:=.tup [Q03.y p,.tup (Q03.w p)]
def Q03.q (x:AV):Option Q03.T:=match x with | .tup [.v (.int .i64 p0),.tup [.fn 9 [.v (.string p1)]]]=>some (p0,p1) | _=>none
theorem Q03.qi:∀ x p,Q03.q x=some p→x=Q03.p p:=by
 intro x p h
 unfold Q03.q at h
 split at h
 ·cases h; rfl
 ·cases h
inductive Q03.Z where
 | z2 (z1:List AV) (z2 z3:Int) (z4:ByteArray)
def Q03.C {R:Type} (n:Nat) (f:FuncId) (xs:List AV):(AV→Option R)→Option R:=
 bif Nat.beq f 133 then Q12.via n xs else fun _=>none
theorem Q03.tells {R:Type} (n:Nat):Tells (R:=R) Tryz.prog (Q03.C n):=fun _ xs=>tells_at (Q12.tells1 n xs) (Tells1.none)
def Q03.cut (r:Nat):Option Keep:=match r with | 2=>some ⟨[0,1,7,8],[]⟩ | _=>none
def Q03.t (z:Q03.Z):List Item:=(todoOf (match z with | .z2 _ _ _ _=>2) 1000 [.code (Tryz.f132.body.getD .skip)]).getD []
def Q03.s:Q03.Z→St
 | .z2 z1 z2 z3 z4=>⟨spr 19 0 [(0,.sl ⟨false,48⟩ 5 z1),(1,.fn 133 [.ptr 0 0]),(7,vi z2),(8,vi z3)],Mem.ofList [.box 9 [vs z4]],1⟩
def Q03.r2 (n:Nat) (c:Q03.Z→Option (Int × ByteArray)) (z1:List AV) (z2 z3:Int) (z4:ByteArray):Option (Int × ByteArray):=
 bif decide (z3 < z2) then (bif decide ((0:Int)≤z3)&&decide (z3 < ((z1.length:Nat):Int)) then (withCons ((z1.getD ((z3).toNat) .undef).cells) fun h1 r2=>
 withStr h1 fun s3=>
 withCons r2 fun h4 r5=>
 withStr h4 fun s6=>
 withCons r5 fun h7 r8=>
 withSl ⟨true,125⟩ 4 h7 fun xs9=>
 withCons r8 fun h10 r11=>
 withSl ⟨true,111⟩ 2 h10 fun xs12=>
 withCons r11 fun h13 r14=>
 withBool h13 fun b15=>
 (Q12.F n s3 s6 xs9 xs12 b15 z4).bind fun p16=>
 bif p16.1 then (some (z3,p16.2)) else (c (.z2 z1 z2 (IntKind.i64.wrap (z3+1)) p16.2))) else none) else (some ((-1),z4))
def Q03.r (n:Nat) (c:Q03.Z→Option (Int × ByteArray)):Q03.Z→Option (Int × ByteArray)
 | .z2 z1 z2 z3 z4=>Q03.r2 n c z1 z2 z3 z4
def Q03.e (n:Nat) (c:Q03.Z→Option (Int × ByteArray)) (a0:List AV) (a1:ByteArray):Option (Int × ByteArray):=
 c (.z2 a0 ((a0.length:Nat):Int) 0 a1)
def Q03.E (n:Nat) (c:Q03.Z→Option (Int × ByteArray)):Q03.A→Option Q03.T:=fun (a0,a1)=>Q03.e n c a0 a1
def Q03.l (n:Nat):Nat→Q03.Z→Option (Int × ByteArray):=loopL (Q03.r n)
def Q03.F (n:Nat) (a0:List AV) (a1:ByteArray):Option (Int × ByteArray):=Q03.e n (Q03.l n n) a0 a1
def Q03.FA (n:Nat):Q03.A→Option Q03.T:=Q03.E n (Q03.l n n)
def Q03.nils:List (Nat × Nat × Fl × Nat):=[]
theorem Q03.hands (n:Nat):∀ a p,Q03.FA n a=some p→HandsMIn Tryz.prog 132 (Q03.i a) (Q03.b a) (Q03.y p) (Q03.w p):=
 pfM_hands (G:=Gk 1) (C:=Q03.C n) (cut:=Q03.cut) (t:=Q03.t) (s:=Q03.s) (nils:=Q03.nils) (e:=Q03.E n) (r:=Q03.r n) (n:=n) (cfg.kb 1) mixed globs Q03.qi (fun a=>by kernel_rfl) (Q03.tells n) Tryz.func132 (by kernel_rfl) (by kernel_rfl) (fun rec a=>by kernel_rfl) (fun rec z=>by cases z <;> kernel_rfl)
def Q03.via {R:Type} (n:Nat):List AV→(AV→Option R)→Option R:=viaK (Q03.FA n) Q03.o Q03.p
theorem Q03.tells1 {R:Type} (n:Nat) (xs:List AV):Tells1 (R:=R) Tryz.prog 132 xs (Q03.via n xs):=tells_viaM (fun _=>rfl) Q03.oi (Q03.hands n) xs
end Go.Proofs.YtmpglmcjoelciaaGreatDoor.Ev
namespace Go.Proofs.YtmpglmcjoelciaaGreatDoor.Ev
open Go Go.Proofs Go.Proofs.Ev
set_option linter.unusedVariables false
set_option maxRecDepth 100000
abbrev Q1h.A:=ByteArray × Int × Int × Int × ByteArray
abbrev Q1h.T:=Bool × ByteArray
def Q1h.i:Q1h.A→List AV:=fun (a0,a1,a2,a3,a4)=>[AV.agg [vs a0,vi a1,vi a2,vi a3],.ptr 0 0]
def Q1h.b:Q1h.A→List AV:=fun (a0,a1,a2,a3,a4)=>[.fn 9 [vs a4]]
def Q1h.o (xs:List AV):Option Q1h.A:=match xs with | [.agg [.v (.string a0),.v (.int .i64 a1),.v (.int .i64 a2),.v (.int .i64 a3)],.ptr 0 0,.tup [.fn 9 [.v (.string a4)]]]=>some (a0,a1,a2,a3,a4) | _=>none
theorem Q1h.oi:∀ xs a,Q1h.o xs=some a→xs=Q1h.i a++[.tup (Q1h.b a)]:=by
 intro xs a h
 unfold Q1h.o at h
 split at h
 ·cases h; rfl
 ·cases h
def Q1h.y (p:Q1h.T):AV:=vb p.1
def Q1h.w (p:Q1h.T):List AV:=[.fn 9 [vs p.2]]
def Q1h.p (p:Q1h.T):AV:=.tup [Q1h.y p,.tup (Q1h.w p)]
def Q1h.q (x:AV):Option Q1h.T:=match x with | .tup [.v (.bool p0),.tup [.fn 9 [.v (.string p1)]]]=>some (p0,p1) | _=>none
theorem Q1h.qi:∀ x p,Q1h.q x=some p→x=Q1h.p p:=by
 intro x p h
 unfold Q1h.q at h
 split at h
 ·cases h; rfl
 ·cases h
def Q1h.C {R:Type} (n:Nat) (f:FuncId) (xs:List AV):(AV→Option R)→Option R:=
 fun _=>none
theorem Q1h.tells {R:Type} (n:Nat):Tells (R:=R) Tryz.prog (Q1h.C n):=fun _ xs=>Tells1.none
def Q1h.cut (r:Nat):Option Keep:=match r with  | _=>none
def Q1h.e (n:Nat) (a0:ByteArray) (a1 a2 a3:Int) (a4:ByteArray):Option (Bool × ByteArray):=
 some (a0.toList==a4.toList,a4)
def Q1h.E (n:Nat):Q1h.A→Option Q1h.T:=fun (a0,a1,a2,a3,a4)=>Q1h.e n a0 a1 a2 a3 a4
def Q1h.F (n:Nat) (a0:ByteArray) (a1 a2 a3:Int) (a4:ByteArray):Option (Bool × ByteArray):=Q1h.e n a0 a1 a2 a3 a4
def Q1h.FA (n:Nat):Q1h.A→Option Q1h.T:=Q1h.E n
def Q1h.nils:List (Nat × Nat × Fl × Nat):=[]
theorem Q1h.hands (n:Nat):∀ a p,Q1h.FA n a=some p→HandsMIn Tryz.prog 157 (Q1h.i a) (Q1h.b a) (Q1h.y p) (Q1h.w p):=
 pfM_hands (G:=Gk 1) (C:=Q1h.C n) (cut:=Q1h.cut) (Z:=Empty) (t:=nofun) (s:=nofun) (nils:=Q1h.nils) (e:=fun _=>Q1h.E n) (r:=fun _ z=>nomatch z) (n:=n) (cfg.kb 1) mixed globs Q1h.qi (fun a=>by kernel_rfl) (Q1h.tells n) Tryz.func157 (by kernel_rfl) (by kernel_rfl) (fun rec a=>by kernel_rfl) (fun rec z=>nomatch z)
def Q1h.via {R:Type} (n:Nat):List AV→(AV→Option R)→Option R:=viaK (Q1h.FA n) Q1h.o Q1h.p
theorem Q1h.tells1 {R:Type} (n:Nat) (xs:List AV):Tells1 (R:=R) Tryz.prog 157 xs (Q1h.via n xs):=tells_viaM (fun _=>rfl) Q1h.oi (Q1h.hands n) xs
end Go.Proofs.YtmpglmcjoelciaaGreatDoor.Ev
namespace Go.Proofs.YtmpglmcjoelciaaGreatDoor.Ev
open Go Go.Proofs Go.Proofs.Ev
set_option linter.unusedVariables false
set_option maxRecDepth 100000
abbrev Q00.A:=List AV × ByteArray
abbrev Q00.T:=Int × ByteArray
def Q00.i:Q00.A→List AV:=fun (a0,a1)=>[.sl ⟨true,125⟩ 4 a0,.fn 157 [.ptr 0 0]]
def Q00.b:Q00.A→List AV:=fun (a0,a1)=>[.fn 9 [vs a1]]
def Q00.o (xs:List AV):Option Q00.A:=match xs with | [.sl ⟨true,125⟩ 4 a0,.fn 157 [.ptr 0 0],.tup [.fn 9 [.v (.string a1)]]]=>some (a0,a1) | _=>none
theorem Q00.oi:∀ xs a,Q00.o xs=some a→xs=Q00.i a++[.tup (Q00.b a)]:=by
 intro xs a h
 unfold Q00.o at h
 split at h
 ·cases h; rfl
 ·cases h
def Q00.y (p:Q00.T):AV:=vi p.1
def Q00.w (p:Q00.T):List AV:=[.fn 9 [vs p.2]]
def Q00.p (p:Q00.T):AV:=.tup [Q00.y p,.tup (Q00.w p)]
def Q00.q (x:AV):Option Q00.T:=match x with | .tup [.v (.int .i64 p0),.tup [.fn 9 [.v (.string p1)]]]=>some (p0,p1) | _=>none
theorem Q00.qi:∀ x p,Q00.q x=some p→x=Q00.p p:=by
 intro x p h
 unfold Q00.q at h
 split at h
 ·cases h; rfl
 ·cases h
inductive Q00.Z where
 | z2 (z1:List AV) (z2 z3:Int) (z4:ByteArray)
def Q00.C {R:Type} (n:Nat) (f:FuncId) (xs:List AV):(AV→Option R)→Option R:=
 bif Nat.beq f 157 then Q1h.via n xs else fun _=>none
theorem Q00.tells {R:Type} (n:Nat):Tells (R:=R) Tryz.prog (Q00.C n):=fun _ xs=>tells_at (Q1h.tells1 n xs) (Tells1.none)
def Q00.cut (r:Nat):Option Keep:=match r with | 2=>some ⟨[0,1,7,8],[]⟩ | _=>none
def Q00.t (z:Q00.Z):List Item:=(todoOf (match z with | .z2 _ _ _ _=>2) 1000 [.code (Tryz.f156.body.getD .skip)]).getD []
def Q00.s:Q00.Z→St
 | .z2 z1 z2 z3 z4=>⟨spr 19 0 [(0,.sl ⟨true,125⟩ 4 z1),(1,.fn 157 [.ptr 0 0]),(7,vi z2),(8,vi z3)],Mem.ofList [.box 9 [vs z4]],1⟩
def Q00.r2 (n:Nat) (c:Q00.Z→Option (Int × ByteArray)) (z1:List AV) (z2 z3:Int) (z4:ByteArray):Option (Int × ByteArray):=
 bif decide (z3 < z2) then (bif decide ((0:Int)≤z3)&&decide (z3 < ((z1.length:Nat):Int)) then (withCons ((z1.getD ((z3).toNat) .undef).cells) fun h1 r2=>
 withStr h1 fun s3=>
 withCons r2 fun h4 r5=>
 withInt .i64 h4 fun x6=>
 withCons r5 fun h7 r8=>
 withInt .i64 h7 fun x9=>
 withCons r8 fun h10 r11=>
 withInt .i64 h10 fun x12=>
 (Q1h.F n s3 x6 x9 x12 z4).bind fun p13=>
 bif p13.1 then (some (z3,p13.2)) else (c (.z2 z1 z2 (IntKind.i64.wrap (z3+1)) p13.2))) else none) else (some ((-1),z4))
def Q00.r (n:Nat) (c:Q00.Z→Option (Int × ByteArray)):Q00.Z→Option (Int × ByteArray)
 | .z2 z1 z2 z3 z4=>Q00.r2 n c z1 z2 z3 z4
def Q00.e (n:Nat) (c:Q00.Z→Option (Int × ByteArray)) (a0:List AV) (a1:ByteArray):Option (Int × ByteArray):=
 c (.z2 a0 ((a0.length:Nat):Int) 0 a1)
def Q00.E (n:Nat) (c:Q00.Z→Option (Int × ByteArray)):Q00.A→Option Q00.T:=fun (a0,a1)=>Q00.e n c a0 a1
def Q00.l (n:Nat):Nat→Q00.Z→Option (Int × ByteArray):=loopL (Q00.r n)
def Q00.F (n:Nat) (a0:List AV) (a1:ByteArray):Option (Int × ByteArray):=Q00.e n (Q00.l n n) a0 a1
def Q00.FA (n:Nat):Q00.A→Option Q00.T:=Q00.E n (Q00.l n n)
def Q00.nils:List (Nat × Nat × Fl × Nat):=[]
theorem Q00.hands (n:Nat):∀ a p,Q00.FA n a=some p→HandsMIn Tryz.prog 156 (Q00.i a) (Q00.b a) (Q00.y p) (Q00.w p):=
 pfM_hands (G:=Gk 1) (C:=Q00.C n) (cut:=Q00.cut) (t:=Q00.t) (s:=Q00.s) (nils:=Q00.nils) (e:=Q00.E n) (r:=Q00.r n) (n:=n) (cfg.kb 1) mixed globs Q00.qi (fun a=>by kernel_rfl) (Q00.tells n) Tryz.func156 (by kernel_rfl) (by kernel_rfl) (fun rec a=>by kernel_rfl) (fun rec z=>by cases z <;> kernel_rfl)
def Q00.via {R:Type} (n:Nat):List AV→(AV→Option R)→Option R:=viaK (Q00.FA n) Q00.o Q00.p
theorem Q00.tells1 {R:Type} (n:Nat) (xs:List AV):Tells1 (R:=R) Tryz.prog 156 xs (Q00.via n xs):=tells_viaM (fun _=>rfl) Q00.oi (Q00.hands n) xs
end Go.Proofs.YtmpglmcjoelciaaGreatDoor.Ev
namespace Go.Proofs.YtmpglmcjoelciaaGreatDoor.Ev
open Go Go.Proofs Go.Proofs.Ev
set_option linter.unusedVariables false
set_option maxRecDepth 100000
abbrev Q1g.A:=ByteArray × ByteArray × List AV × List AV × Bool × ByteArray
abbrev Q1g.T:=Int × Int × Int × Bool
def Q1g.i:Q1g.A→List AV:=fun (a0,a1,a2,a3,a4,a5)=>[AV.agg [vs a0,vs a1,.sl ⟨true,125⟩ 4 a2,.sl ⟨true,111⟩ 2 a3,vb a4],vs a5]
def Q1g.o (xs:List AV):Option Q1g.A:=match xs with | [.agg [.v (.string a0),.v (.string a1),.sl ⟨true,125⟩ 4 a2,.sl ⟨true,111⟩ 2 a3,.v (.bool a4)],.v (.string a5)]=>some (a0,a1,a2,a3,a4,a5) | _=>none
theorem Q1g.oi:∀ xs a,Q1g.o xs=some a→xs=Q1g.i a:=by
 intro xs a h
 unfold Q1g.o at h
 split at h
 ·cases h; rfl
 ·cases h
def Q1g.p (p:Q1g.T):AV:=.tup [AV.agg [vi p.1,vi p.2.1,vi p.2.2.1],vb p.2.2.2]
def Q1g.q (x:AV):Option Q1g.T:=match x with | .tup [.agg [.v (.int .i64 p0),.v (.int .i64 p1),.v (.int .i64 p2)],.v (.bool p3)]=>some (p0,p1,p2,p3) | _=>none
theorem Q1g.qi:∀ x p,Q1g.q x=some p→x=Q1g.p p:=by
 intro x p h
 unfold Q1g.q at h
 split at h
 ·cases h; rfl
 ·cases h
def Q1g.C {R:Type} (n:Nat) (f:FuncId) (xs:List AV):(AV→Option R)→Option R:=
 bif Nat.beq f 156 then Q00.via n xs else fun _=>none
theorem Q1g.tells {R:Type} (n:Nat):Tells (R:=R) Tryz.prog (Q1g.C n):=fun _ xs=>tells_at (Q00.tells1 n xs) (Tells1.none)
def Q1g.cut (r:Nat):Option Keep:=match r with  | _=>none
def Q1g.e (n:Nat) (a0 a1:ByteArray) (a2 a3:List AV) (a4:Bool) (a5:ByteArray):Option (Int × Int × Int × Bool):=
 (Q00.F n a2 a5).bind fun p1=>
 bif decide (p1.1 < 0) then (some (0,0,0,false)) else (bif decide ((0:Int)≤p1.1)&&decide (p1.1 < ((a2.length:Nat):Int)) then (withCons (((a2.getD ((p1.1).toNat) .undef).cells).drop 1) fun h2 r3=>
 withInt .i64 h2 fun x4=>
 withCons r3 fun h5 r6=>
 withInt .i64 h5 fun x7=>
 withCons r6 fun h8 r9=>
 withInt .i64 h8 fun x10=>
 some (x4,x7,x10,true)) else none)
def Q1g.E (n:Nat):Q1g.A→Option Q1g.T:=fun (a0,a1,a2,a3,a4,a5)=>Q1g.e n a0 a1 a2 a3 a4 a5
def Q1g.F (n:Nat) (a0 a1:ByteArray) (a2 a3:List AV) (a4:Bool) (a5:ByteArray):Option (Int × Int × Int × Bool):=Q1g.e n a0 a1 a2 a3 a4 a5
def Q1g.FA (n:Nat):Q1g.A→Option Q1g.T:=Q1g.E n
theorem Q1g.hands (n:Nat):∀ a p,Q1g.FA n a=some p→HandsIn Tryz.prog 134 (Q1g.i a) (Q1g.p p):=
 pf_hands (C:=Q1g.C n) (cut:=Q1g.cut) (Z:=Empty) (t:=nofun) (s:=nofun) (e:=fun _=>Q1g.E n) (r:=fun _ z=>nomatch z) (n:=n) cfg mixed globs rfl Q1g.qi (Q1g.tells n) Tryz.func134 (by kernel_rfl) (by kernel_rfl) (fun rec a=>by kernel_rfl) (fun rec z=>nomatch z)
def Q1g.via {R:Type} (n:Nat):List AV→(AV→Option R)→Option R:=viaK (Q1g.FA n) Q1g.o Q1g.p
theorem Q1g.tells1 {R:Type} (n:Nat) (xs:List AV):Tells1 (R:=R) Tryz.prog 134 xs (Q1g.via n xs):=tells_via Q1g.oi (fun a=>by kernel_rfl) (Q1g.hands n) xs
end Go.Proofs.YtmpglmcjoelciaaGreatDoor.Ev
namespace Go.Proofs.YtmpglmcjoelciaaGreatDoor.Ev
open Go Go.Proofs Go.Proofs.Ev
set_option linter.unusedVariables false
set_option maxRecDepth 100000
abbrev Q13.A:=Int × ByteArray × Int × ByteArray × List AV
abbrev Q13.T:=Int
def Q13.i:Q13.A→List AV:=fun (a0,a1,a2,a3,a4)=>[AV.agg [vi a0,vs a1,vi a2,vs a3],.sl ⟨false,48⟩ 5 a4]
def Q13.o (xs:List AV):Option Q13.A:=match xs with | [.agg [.v (.int .i64 a0),.v (.string a1),.v (.int .i64 a2),.v (.string a3)],.sl ⟨false,48⟩ 5 a4]=>some (a0,a1,a2,a3,a4) | _=>none
theorem Q13.oi:∀ xs a,Q13.o xs=some a→xs=Q13.i a:=by
 intro xs a h
 unfold Q13.o at h
 split at h
 ·cases h; rfl
 ·cases h
def Q13.p (p:Q13.T):AV:=vi p
def Q13.q (x:AV):Option Q13.T:=match x with | .v (.int .i64 p0)=>some p0 | _=>none
theorem Q13.qi:∀ x p,Q13.q x=some p→x=Q13.p p:=by
 intro x p h
 unfold Q13.q at h
 split at h
 ·cases h; rfl
 ·cases h
def Q13.C {R:Type} (n:Nat) (f:FuncId) (xs:List AV):(AV→Option R)→Option R:=
 bif Nat.beq f 44 then Q0m.via n xs else bif Nat.beq f 45 then Q0f.via n xs else bif Nat.beq f 134 then Q1g.via n xs else fun _=>none
theorem Q13.tells {R:Type} (n:Nat):Tells (R:=R) Tryz.prog (Q13.C n):=fun _ xs=>tells_at (Q0m.tells1 n xs) (tells_at (Q0f.tells1 n xs) (tells_at (Q1g.tells1 n xs) (Tells1.none)))
def Q13.cut (r:Nat):Option Keep:=match r with  | _=>none
def Q13.e (n:Nat) (a0:Int) (a1:ByteArray) (a2:Int) (a3:ByteArray) (a4:List AV):Option Int:=
 bif decide ((0:Int)≤a0)&&decide (a0 < ((a4.length:Nat):Int)) then (withCons ((a4.getD ((a0).toNat) .undef).cells) fun h1 r2=>
 withStr h1 fun s3=>
 withCons r2 fun h4 r5=>
 withStr h4 fun s6=>
 withCons r5 fun h7 r8=>
 withSl ⟨true,125⟩ 4 h7 fun xs9=>
 withCons r8 fun h10 r11=>
 withSl ⟨true,111⟩ 2 h10 fun xs12=>
 withCons r11 fun h13 r14=>
 withBool h13 fun b15=>
 (Q1g.F n s3 s6 xs9 xs12 b15 a1).bind fun p16=>
 bif decide ((0:Int)≤a2)&&decide (a2 < ((a4.length:Nat):Int)) then (withCons ((a4.getD ((a2).toNat) .undef).cells) fun h17 r18=>
 withStr h17 fun s19=>
 withCons r18 fun h20 r21=>
 withStr h20 fun s22=>
 withCons r21 fun h23 r24=>
 withSl ⟨true,125⟩ 4 h23 fun xs25=>
 withCons r24 fun h26 r27=>
 withSl ⟨true,111⟩ 2 h26 fun xs28=>
 withCons r27 fun h29 r30=>
 withBool h29 fun b31=>
 (Q1g.F n s19 s22 xs25 xs28 b31 a3).bind fun p32=>
 (Q0f.F n (!p16.2.2.2) 11).bind fun p33=>
 (Q0f.F n (!p32.2.2.2) 11).bind fun p34=>
 let y35:Bool:=!((p16.1==p32.1)&&((p16.2.1==p32.2.1)&&((p16.2.2.1==p32.2.2.1)&&true)))
 (Q0f.F n y35 17).bind fun p36=>
 (Q0m.F n [vi p33,vi p34,vi p36]).bind fun p37=>
 some p37) else none) else none
def Q13.E (n:Nat):Q13.A→Option Q13.T:=fun (a0,a1,a2,a3,a4)=>Q13.e n a0 a1 a2 a3 a4
def Q13.F (n:Nat) (a0:Int) (a1:ByteArray) (a2:Int) (a3:ByteArray) (a4:List AV):Option Int:=Q13.e n a0 a1 a2 a3 a4
def Q13.FA (n:Nat):Q13.A→Option Q13.T:=Q13.E n
theorem Q13.hands (n:Nat):∀ a p,Q13.FA n a=some p→HandsIn Tryz.prog 135 (Q13.i a) (Q13.p p):=
 pf_hands (C:=Q13.C n) (cut:=Q13.cut) (Z:=Empty) (t:=nofun) (s:=nofun) (e:=fun _=>Q13.E n) (r:=fun _ z=>nomatch z) (n:=n) cfg mixed globs rfl Q13.qi (Q13.tells n) Tryz.func135 (by kernel_rfl) (by kernel_rfl) (fun rec a=>by kernel_rfl) (fun rec z=>nomatch z)
def Q13.via {R:Type} (n:Nat):List AV→(AV→Option R)→Option R:=viaK (Q13.FA n) Q13.o Q13.p
theorem Q13.tells1 {R:Type} (n:Nat) (xs:List AV):Tells1 (R:=R) Tryz.prog 135 xs (Q13.via n xs):=tells_via Q13.oi (fun a=>by kernel_rfl) (Q13.hands n) xs
end Go.Proofs.YtmpglmcjoelciaaGreatDoor.Ev
namespace Go.Proofs.YtmpglmcjoelciaaGreatDoor.Ev
open Go Go.Proofs Go.Proofs.Ev
set_option linter.unusedVariables false
set_option maxRecDepth 100000
abbrev Q42.A:=Int
abbrev Q42.T:=Int
def Q42.i:Q42.A→List AV:=fun a0=>[vi a0]
def Q42.o (xs:List AV):Option Q42.A:=match xs with | [.v (.int .i64 a0)]=>some a0 | _=>none
theorem Q42.oi:∀ xs a,Q42.o xs=some a→xs=Q42.i a:=by
 intro xs a h
 unfold Q42.o at h
 split at h
 ·cases h; rfl
 ·cases h
def Q42.p (p:Q42.T):AV:=vi p
def Q42.q (x:AV):Option Q42.T:=match x with | .v (.int .i64 p0)=>some p0 | _=>none
theorem Q42.qi:∀ x p,Q42.q x=some p→x=Q42.p p:=by
 intro x p h
 unfold Q42.q at h
 split at h
 ·cases h; rfl
 ·cases h
inductive Q42.Z where
 | z3 (z1 z2 z3:Int)
def Q42.C {R:Type} (n:Nat) (f:FuncId) (xs:List AV):(AV→Option R)→Option R:=
 fun _=>none
theorem Q42.tells {R:Type} (n:Nat):Tells (R:=R) Tryz.prog (Q42.C n):=fun _ xs=>Tells1.none
def Q42.cut (r:Nat):Option Keep:=match r with | 3=>some ⟨[3,5,6],[]⟩ | _=>none
def Q42.t (z:Q42.Z):List Item:=(todoOf (match z with | .z3 _ _ _=>3) 1000 [.code (Tryz.f179.body.getD .skip)]).getD []
def Q42.s:Q42.Z→St
 | .z3 z1 z2 z3=>⟨spr 12 0 [(3,vi z1),(5,vi z2),(6,vi z3)],Mem.ofList [],0⟩
def Q42.r3 (n:Nat) (c:Q42.Z→Option Int) (z1 z2 z3:Int):Option Int:=
 bif decide (z3 < z2) then (c (.z3 (IntKind.i64.wrap (z1*10)) z2 (IntKind.i64.wrap (z3+1)))) else (some z1)
def Q42.r (n:Nat) (c:Q42.Z→Option Int):Q42.Z→Option Int
 | .z3 z1 z2 z3=>Q42.r3 n c z1 z2 z3
def Q42.e (n:Nat) (c:Q42.Z→Option Int) (a0:Int):Option Int:=
 c (.z3 1 (if 18 < a0 then 18 else a0) 0)
def Q42.E (n:Nat) (c:Q42.Z→Option Int):Q42.A→Option Q42.T:=fun a0=>Q42.e n c a0
def Q42.l (n:Nat):Nat→Q42.Z→Option Int:=loopL (Q42.r n)
def Q42.F (n:Nat) (a0:Int):Option Int:=Q42.e n (Q42.l n n) a0
def Q42.FA (n:Nat):Q42.A→Option Q42.T:=Q42.E n (Q42.l n n)
theorem Q42.hands (n:Nat):∀ a p,Q42.FA n a=some p→HandsIn Tryz.prog 179 (Q42.i a) (Q42.p p):=
 pf_hands (C:=Q42.C n) (cut:=Q42.cut) (t:=Q42.t) (s:=Q42.s) (e:=Q42.E n) (r:=Q42.r n) (n:=n) cfg mixed globs rfl Q42.qi (Q42.tells n) Tryz.func179 (by kernel_rfl) (by kernel_rfl) (fun rec a=>by kernel_rfl) (fun rec z=>by cases z <;> kernel_rfl)
def Q42.via {R:Type} (n:Nat):List AV→(AV→Option R)→Option R:=viaK (Q42.FA n) Q42.o Q42.p
theorem Q42.tells1 {R:Type} (n:Nat) (xs:List AV):Tells1 (R:=R) Tryz.prog 179 xs (Q42.via n xs):=tells_via Q42.oi (fun a=>by kernel_rfl) (Q42.hands n) xs
end Go.Proofs.YtmpglmcjoelciaaGreatDoor.Ev
namespace Go.Proofs.YtmpglmcjoelciaaGreatDoor.Ev
open Go Go.Proofs Go.Proofs.Ev
set_option linter.unusedVariables false
set_option maxRecDepth 100000
abbrev Q3u.A:=Int × Int × Int × Int × ByteArray
abbrev Q3u.T:=Int
def Q3u.i:Q3u.A→List AV:=fun (a0,a1,a2,a3,a4)=>[AV.agg [vi a0,vi a1,vi a2],AV.agg [vi a3,vs a4]]
def Q3u.o (xs:List AV):Option Q3u.A:=match xs with | [.agg [.v (.int .i64 a0),.v (.int .i64 a1),.v (.int .i64 a2)],.agg [.v (.int .i64 a3),.v (.string a4)]]=>some (a0,a1,a2,a3,a4) | _=>none
theorem Q3u.oi:∀ xs a,Q3u.o xs=some a→xs=Q3u.i a:=by
 intro xs a h
 unfold Q3u.o at h
 split at h
 ·cases h; rfl
 ·cases h
def Q3u.p (p:Q3u.T):AV:=vi p
def Q3u.q (x:AV):Option Q3u.T:=match x with | .v (.int .i64 p0)=>some p0 | _=>none
theorem Q3u.qi:∀ x p,Q3u.q x=some p→x=Q3u.p p:=by
 intro x p h
 unfold Q3u.q at h
 split at h
 ·cases h; rfl
 ·cases h
def Q3u.C {R:Type} (n:Nat) (f:FuncId) (xs:List AV):(AV→Option R)→Option R:=
 bif Nat.beq f 84 then Q3t.via n xs else bif Nat.beq f 127 then Q3z.via n xs else bif Nat.beq f 128 then Q3y.via n xs else bif Nat.beq f 129 then Q3x.via n xs else bif Nat.beq f 179 then Q42.via n xs else fun _=>none
theorem Q3u.tells {R:Type} (n:Nat):Tells (R:=R) Tryz.prog (Q3u.C n):=fun _ xs=>tells_at (Q3t.tells1 n xs) (tells_at (Q3z.tells1 n xs) (tells_at (Q3y.tells1 n xs) (tells_at (Q3x.tells1 n xs) (tells_at (Q42.tells1 n xs) (Tells1.none)))))
def Q3u.cut (r:Nat):Option Keep:=match r with  | _=>none
def Q3u.e (n:Nat) (a0 a1 a2 a3:Int) (a4:ByteArray):Option Int:=
 (Q3t.F n a0 a1 a2).bind fun p1=>
 (Q3x.F n (a0==4) 17).bind fun p2=>
 (Q3y.F n [vi p1,vi p2]).bind fun p3=>
 bif p3 != 0 then (some p3) else (bif a0==0 then ((Q3x.F n (a3 != 0) 5).bind fun p4=>
 let y5:Bool:=((a4.size:Nat):Int) != a1
 (Q3x.F n y5 18).bind fun p6=>
 (Q3y.F n [vi p4,vi p6]).bind fun p7=>
 some p7) else ((Q42.F n a1).bind fun p8=>
 let y9:Bool:=!(a4.toList==(⟨#[]⟩ : ByteArray).toList)
 (Q3x.F n y9 5).bind fun p10=>
 (Q3z.F n a3 (IntKind.i64.wrap (0 - (IntKind.i64.wrap (p8 - 1)))) (IntKind.i64.wrap (p8 - 1))).bind fun p11=>
 (Q3x.F n (!p11) 19).bind fun p12=>
 (Q3y.F n [vi p10,vi p12]).bind fun p13=>
 some p13))
def Q3u.E (n:Nat):Q3u.A→Option Q3u.T:=fun (a0,a1,a2,a3,a4)=>Q3u.e n a0 a1 a2 a3 a4
def Q3u.F (n:Nat) (a0 a1 a2 a3:Int) (a4:ByteArray):Option Int:=Q3u.e n a0 a1 a2 a3 a4
def Q3u.FA (n:Nat):Q3u.A→Option Q3u.T:=Q3u.E n
theorem Q3u.hands (n:Nat):∀ a p,Q3u.FA n a=some p→HandsIn Tryz.prog 158 (Q3u.i a) (Q3u.p p):=
 pf_hands (C:=Q3u.C n) (cut:=Q3u.cut) (Z:=Empty) (t:=nofun) (s:=nofun) (e:=fun _=>Q3u.E n) (r:=fun _ z=>nomatch z) (n:=n) cfg mixed globs rfl Q3u.qi (Q3u.tells n) Tryz.func158 (by kernel_rfl) (by kernel_rfl) (fun rec a=>by kernel_rfl) (fun rec z=>nomatch z)
def Q3u.via {R:Type} (n:Nat):List AV→(AV→Option R)→Option R:=viaK (Q3u.FA n) Q3u.o Q3u.p
theorem Q3u.tells1 {R:Type} (n:Nat) (xs:List AV):Tells1 (R:=R) Tryz.prog 158 xs (Q3u.via n xs):=tells_via Q3u.oi (fun a=>by kernel_rfl) (Q3u.hands n) xs
end Go.Proofs.YtmpglmcjoelciaaGreatDoor.Ev
namespace Go.Proofs.YtmpglmcjoelciaaGreatDoor.Ev
open Go Go.Proofs Go.Proofs.Ev
set_option linter.unusedVariables false
set_option maxRecDepth 100000
abbrev Q1k.A:=Int × ByteArray × Int × Int × Int
abbrev Q1k.T:=Int
def Q1k.i:Q1k.A→List AV:=fun (a0,a1,a2,a3,a4)=>[AV.agg [vi a0,vs a1],AV.agg [vi a2,vi a3,vi a4]]
def Q1k.o (xs:List AV):Option Q1k.A:=match xs with | [.agg [.v (.int .i64 a0),.v (.string a1)],.agg [.v (.int .i64 a2),.v (.int .i64 a3),.v (.int .i64 a4)]]=>some (a0,a1,a2,a3,a4) | _=>none
theorem Q1k.oi:∀ xs a,Q1k.o xs=some a→xs=Q1k.i a:=by
 intro xs a h
 unfold Q1k.o at h
 split at h
 ·cases h; rfl
 ·cases h
def Q1k.p (p:Q1k.T):AV:=vi p
def Q1k.q (x:AV):Option Q1k.T:=match x with | .v (.int .i64 p0)=>some p0 | _=>none
theorem Q1k.qi:∀ x p,Q1k.q x=some p→x=Q1k.p p:=by
 intro x p h
 unfold Q1k.q at h
 split at h
 ·cases h; rfl
 ·cases h
def Q1k.C {R:Type} (n:Nat) (f:FuncId) (xs:List AV):(AV→Option R)→Option R:=
 bif Nat.beq f 44 then Q0m.via n xs else bif Nat.beq f 45 then Q0f.via n xs else bif Nat.beq f 158 then Q3u.via n xs else fun _=>none
theorem Q1k.tells {R:Type} (n:Nat):Tells (R:=R) Tryz.prog (Q1k.C n):=fun _ xs=>tells_at (Q0m.tells1 n xs) (tells_at (Q0f.tells1 n xs) (tells_at (Q3u.tells1 n xs) (Tells1.none)))
def Q1k.cut (r:Nat):Option Keep:=match r with  | _=>none
def Q1k.e (n:Nat) (a0:Int) (a1:ByteArray) (a2 a3 a4:Int):Option Int:=
 bif a2==0 then ((Q0f.F n (a0 != 0) 17).bind fun p1=>
 let y2:Bool:=decide (((a1.size:Nat):Int) > a3)
 (Q0f.F n y2 18).bind fun p3=>
 (Q0m.F n [vi p1,vi p3]).bind fun p4=>
 some p4) else (let y5:Bool:=!(a1.toList==(⟨#[]⟩ : ByteArray).toList)
 (Q0f.F n y5 17).bind fun p6=>
 (Q3u.F n a2 a3 a4 a0 a1).bind fun p7=>
 (Q0m.F n [vi p6,vi p7]).bind fun p8=>
 some p8)
def Q1k.E (n:Nat):Q1k.A→Option Q1k.T:=fun (a0,a1,a2,a3,a4)=>Q1k.e n a0 a1 a2 a3 a4
def Q1k.F (n:Nat) (a0:Int) (a1:ByteArray) (a2 a3 a4:Int):Option Int:=Q1k.e n a0 a1 a2 a3 a4
def Q1k.FA (n:Nat):Q1k.A→Option Q1k.T:=Q1k.E n
theorem Q1k.hands (n:Nat):∀ a p,Q1k.FA n a=some p→HandsIn Tryz.prog 136 (Q1k.i a) (Q1k.p p):=
 pf_hands (C:=Q1k.C n) (cut:=Q1k.cut) (Z:=Empty) (t:=nofun) (s:=nofun) (e:=fun _=>Q1k.E n) (r:=fun _ z=>nomatch z) (n:=n) cfg mixed globs rfl Q1k.qi (Q1k.tells n) Tryz.func136 (by kernel_rfl) (by kernel_rfl) (fun rec a=>by kernel_rfl) (fun rec z=>nomatch z)
def Q1k.via {R:Type} (n:Nat):List AV→(AV→Option R)→Option R:=viaK (Q1k.FA n) Q1k.o Q1k.p
theorem Q1k.tells1 {R:Type} (n:Nat) (xs:List AV):Tells1 (R:=R) Tryz.prog 136 xs (Q1k.via n xs):=tells_via Q1k.oi (fun a=>by kernel_rfl) (Q1k.hands n) xs
end Go.Proofs.YtmpglmcjoelciaaGreatDoor.Ev
namespace Go.Proofs.YtmpglmcjoelciaaGreatDoor.Ev
open Go Go.Proofs Go.Proofs.Ev
set_option linter.unusedVariables false
set_option maxRecDepth 100000
abbrev Q11.A:=ByteArray × ByteArray × List AV × List AV × List AV × List AV × Bool × List AV × List AV
abbrev Q11.T:=ByteArray × List AV × Int × Int
def Q11.i:Q11.A→List AV:=fun (a0,a1,a2,a3,a4,a5,a6,a7,a8)=>[AV.agg [vs a0,vs a1,.sl ⟨true,9⟩ 1 a2,.sl ⟨true,95⟩ 3 a3,.sl ⟨true,97⟩ 4 a4,.sl ⟨true,111⟩ 2 a5,vb a6,.sl ⟨false,100⟩ 2 a7],.sl ⟨false,48⟩ 5 a8]
def Q11.o (xs:List AV):Option Q11.A:=match xs with | [.agg [.v (.string a0),.v (.string a1),.sl ⟨true,9⟩ 1 a2,.sl ⟨true,95⟩ 3 a3,.sl ⟨true,97⟩ 4 a4,.sl ⟨true,111⟩ 2 a5,.v (.bool a6),.sl ⟨false,100⟩ 2 a7],.sl ⟨false,48⟩ 5 a8]=>some (a0,a1,a2,a3,a4,a5,a6,a7,a8) | _=>none
theorem Q11.oi:∀ xs a,Q11.o xs=some a→xs=Q11.i a:=by
 intro xs a h
 unfold Q11.o at h
 split at h
 ·cases h; rfl
 ·cases h
def Q11.p (p:Q11.T):AV:=.tup [AV.agg [vs p.1,.fr ⟨true,125⟩ 4 p.2.1],vi p.2.2.1,vi p.2.2.2]
def Q11.q (x:AV):Option Q11.T:=match x with | .tup [.agg [.v (.string p0),.fr ⟨true,125⟩ 4 p1],.v (.int .i64 p2),.v (.int .i64 p3)]=>some (p0,p1,p2,p3) | _=>none
theorem Q11.qi:∀ x p,Q11.q x=some p→x=Q11.p p:=by
 intro x p h
 unfold Q11.q at h
 split at h
 ·cases h; rfl
 ·cases h
inductive Q11.Z where
 | z6 (z1 z2:List AV) (z3 z4:Int) (z5 z6:ByteArray) (z7 z8 z9 z10:List AV) (z11:Bool) (z12:List AV) (z13:ByteArray) (z14:List AV)
 | z15 (z1:List AV) (z2 z3:Int) (z4 z5:ByteArray) (z6 z7 z8 z9:List AV) (z10:Bool) (z11:List AV) (z12:ByteArray) (z13:List AV) (z14:ByteArray) (z15:List AV)
 | z23 (z1:List AV) (z2 z3:Int) (z4 z5:ByteArray) (z6 z7 z8 z9:List AV) (z10:Bool) (z11:List AV) (z12:ByteArray) (z13:List AV) (z14:ByteArray) (z15:List AV)
 | z30 (z1:List AV) (z2 z3:Int) (z4 z5:ByteArray) (z6:List AV)
 | z33 (z1:Int) (z2:List AV) (z3 z4:Int) (z5:List AV) (z6 z7:Int) (z8 z9:ByteArray) (z10:List AV)
def Q11.C {R:Type} (n:Nat) (f:FuncId) (xs:List AV):(AV→Option R)→Option R:=
 bif Nat.beq f 45 then Q0f.via n xs else bif Nat.beq f 131 then Q0k.via n xs else bif Nat.beq f 132 then Q03.via n xs else bif Nat.beq f 134 then Q1g.via n xs else bif Nat.beq f 135 then Q13.via n xs else bif Nat.beq f 136 then Q1k.via n xs else bif Nat.beq f 137 then Q17.via n xs else fun _=>none
theorem Q11.tells {R:Type} (n:Nat):Tells (R:=R) Tryz.prog (Q11.C n):=fun _ xs=>tells_at (Q0f.tells1 n xs) (tells_at (Q0k.tells1 n xs) (tells_at (Q03.tells1 n xs) (tells_at (Q1g.tells1 n xs) (tells_at (Q13.tells1 n xs) (tells_at (Q1k.tells1 n xs) (tells_at (Q17.tells1 n xs) (Tells1.none)))))))
def Q11.cut (r:Nat):Option Keep:=match r with | 6=>some ⟨[1,2,4,8,34,35,36],[(8,none,⟨false,48⟩,5)]⟩ | 15=>some ⟨[2,4,8,12,60,61,62],[(12,some 1,⟨true,125⟩,4)]⟩ | 23=>some ⟨[2,4,8,12,93,94,95],[]⟩ | 30=>some ⟨[4,12,110,111,112],[]⟩ | 33=>some ⟨[4,12,20,110,111,112,118,119,120],[]⟩ | _=>none
def Q11.t (z:Q11.Z):List Item:=(todoOf (match z with | .z6 _ _ _ _ _ _ _ _ _ _ _ _ _ _=>6 | .z15 _ _ _ _ _ _ _ _ _ _ _ _ _ _ _=>15 | .z23 _ _ _ _ _ _ _ _ _ _ _ _ _ _ _=>23 | .z30 _ _ _ _ _ _=>30 | .z33 _ _ _ _ _ _ _ _ _ _=>33) 1000 [.code (Tryz.f89.body.getD .skip)]).getD []
def Q11.s:Q11.Z→St
 | .z6 z1 z2 z3 z4 z5 z6 z7 z8 z9 z10 z11 z12 z13 z14=>⟨spr 149 0 [(1,.sl ⟨false,48⟩ 5 z1),(2,.ptr 0 0),(4,.ptr 1 0),(8,.own 2 0 none),(34,.sl ⟨true,9⟩ 1 z2),(35,vi z3),(36,vi z4)],Mem.ofList [.box 36 [vs z5,vs z6,.sl ⟨true,9⟩ 1 z7,.sl ⟨true,95⟩ 3 z8,.sl ⟨true,97⟩ 4 z9,.sl ⟨true,111⟩ 2 z10,vb z11,.sl ⟨false,100⟩ 2 z12],.box 46 [vs z13,.v (.slice none 0 0)],.row ⟨false,48⟩ 5 z14],3⟩
 | .z15 z1 z2 z3 z4 z5 z6 z7 z8 z9 z10 z11 z12 z13 z14 z15=>⟨spr 149 0 [(2,.ptr 0 0),(4,.ptr 1 0),(8,.own 2 0 none),(12,.ptr 3 0),(60,.sl ⟨true,95⟩ 3 z1),(61,vi z2),(62,vi z3)],Mem.ofList [.box 36 [vs z4,vs z5,.sl ⟨true,9⟩ 1 z6,.sl ⟨true,95⟩ 3 z7,.sl ⟨true,97⟩ 4 z8,.sl ⟨true,111⟩ 2 z9,vb z10,.sl ⟨false,100⟩ 2 z11],.box 46 [vs z12,.v (.slice none 0 0)],.row ⟨false,48⟩ 5 z13,.box 46 [vs z14,.own 4 0 none],.row ⟨true,125⟩ 4 z15],5⟩
 | .z23 z1 z2 z3 z4 z5 z6 z7 z8 z9 z10 z11 z12 z13 z14 z15=>⟨spr 149 0 [(2,.ptr 0 0),(4,.ptr 1 0),(8,.own 2 0 none),(12,.ptr 3 0),(93,.sl ⟨true,97⟩ 4 z1),(94,vi z2),(95,vi z3)],Mem.ofList [.box 36 [vs z4,vs z5,.sl ⟨true,9⟩ 1 z6,.sl ⟨true,95⟩ 3 z7,.sl ⟨true,97⟩ 4 z8,.sl ⟨true,111⟩ 2 z9,vb z10,.sl ⟨false,100⟩ 2 z11],.box 46 [vs z12,.v (.slice none 0 0)],.row ⟨false,48⟩ 5 z13,.box 46 [vs z14,.own 4 0 none],.row ⟨true,125⟩ 4 z15],5⟩
 | .z30 z1 z2 z3 z4 z5 z6=>⟨spr 149 0 [(4,.ptr 0 0),(12,.ptr 1 0),(110,.sl ⟨false,100⟩ 2 z1),(111,vi z2),(112,vi z3)],Mem.ofList [.box 46 [vs z4,.v (.slice none 0 0)],.box 46 [vs z5,.own 2 0 none],.row ⟨true,125⟩ 4 z6],3⟩
 | .z33 z1 z2 z3 z4 z5 z6 z7 z8 z9 z10=>⟨spr 149 0 [(4,.ptr 0 0),(12,.ptr 1 0),(20,vi z1),(110,.sl ⟨false,100⟩ 2 z2),(111,vi z3),(112,vi z4),(118,.sl ⟨true,104⟩ 4 z5),(119,vi z6),(120,vi z7)],Mem.ofList [.box 46 [vs z8,.v (.slice none 0 0)],.box 46 [vs z9,.own 2 0 none],.row ⟨true,125⟩ 4 z10],3⟩
def Q11.r6 (n:Nat) (c:Q11.Z→Option (ByteArray × List AV × Int × Int)) (z1 z2:List AV) (z3 z4:Int) (z5 z6:ByteArray) (z7 z8 z9 z10:List AV) (z11:Bool) (z12:List AV) (z13:ByteArray) (z14:List AV):Option (ByteArray × List AV × Int × Int):=
 bif decide (z4 < z3) then (bif decide ((0:Int)≤z4)&&decide (z4 < ((z2.length:Nat):Int)) then (withCons ((z2.getD ((z4).toNat) .undef).cells) fun h2 r3=>
 withStr h2 fun s4=>
 (Q03.F n z1 s4).bind fun p5=>
 bif decide (p5.1 < 0) then (some ((⟨#[]⟩ : ByteArray),[],z4,11)) else (bif decide ((0:Int)≤p5.1)&&decide (p5.1 < ((z1.length:Nat):Int)) then (withCons ((z1.getD ((p5.1).toNat) .undef).cells) fun h6 r7=>
 withStr h6 fun s8=>
 withCons r7 fun h9 r10=>
 withStr h9 fun s11=>
 withCons r10 fun h12 r13=>
 withSl ⟨true,125⟩ 4 h12 fun xs14=>
 withCons r13 fun h15 r16=>
 withSl ⟨true,111⟩ 2 h15 fun xs17=>
 withCons r16 fun h18 r19=>
 withBool h18 fun b20=>
 let y21:List AV:=[AV.agg [vs s8,vs s11,.sl ⟨true,125⟩ 4 xs14,.sl ⟨true,111⟩ 2 xs17,vb b20]]
 bif decide (z14.length+y21.length≤most) then (c (.z6 z1 z2 z3 (IntKind.i64.wrap (z4+1)) z5 z6 z7 z8 z9 z10 z11 z12 z13 (z14++y21))) else none) else none)) else none) else (c (.z15 z8 ((z8.length:Nat):Int) 0 z5 z6 z7 z8 z9 z10 z11 z12 z13 z14 z6 []))
def Q11.r15 (n:Nat) (c:Q11.Z→Option (ByteArray × List AV × Int × Int)) (z1:List AV) (z2 z3:Int) (z4 z5:ByteArray) (z6 z7 z8 z9:List AV) (z10:Bool) (z11:List AV) (z12:ByteArray) (z13:List AV) (z14:ByteArray) (z15:List AV):Option (ByteArray × List AV × Int × Int):=
 bif decide (z3 < z2) then (bif decide ((0:Int)≤z3)&&decide (z3 < ((z1.length:Nat):Int)) then (withCons ((z1.getD ((z3).toNat) .undef).cells) fun h22 r23=>
 withStr h22 fun s24=>
 withCons r23 fun h25 r26=>
 withInt .i64 h25 fun x27=>
 withCons r26 fun h28 r29=>
 withStr h28 fun s30=>
 bif decide ((0:Int)≤x27)&&decide (x27 < ((z13.length:Nat):Int)) then (withCons ((z13.getD ((x27).toNat) .undef).cells) fun h31 r32=>
 withStr h31 fun s33=>
 withCons r32 fun h34 r35=>
 withStr h34 fun s36=>
 withCons r35 fun h37 r38=>
 withSl ⟨true,125⟩ 4 h37 fun xs39=>
 withCons r38 fun h40 r41=>
 withSl ⟨true,111⟩ 2 h40 fun xs42=>
 withCons r41 fun h43 r44=>
 withBool h43 fun b45=>
 (Q1g.F n s33 s36 xs39 xs42 b45 s30).bind fun p46=>
 bif !p46.2.2.2 then (some ((⟨#[]⟩ : ByteArray),[],z3,11)) else (let y47:List AV:=[AV.agg [vs s24,vi p46.1,vi p46.2.1,vi p46.2.2.1]]
 bif decide (z15.length+y47.length≤most) then (c (.z15 z1 z2 (IntKind.i64.wrap (z3+1)) z4 z5 z6 z7 z8 z9 z10 z11 z12 z13 z14 (z15++y47))) else none)) else none) else none) else (c (.z23 z8 ((z8.length:Nat):Int) 0 z4 z5 z6 z7 z8 z9 z10 z11 z12 z13 z14 z15))
def Q11.r23 (n:Nat) (c:Q11.Z→Option (ByteArray × List AV × Int × Int)) (z1:List AV) (z2 z3:Int) (z4 z5:ByteArray) (z6 z7 z8 z9:List AV) (z10:Bool) (z11:List AV) (z12:ByteArray) (z13:List AV) (z14:ByteArray) (z15:List AV):Option (ByteArray × List AV × Int × Int):=
 bif decide (z3 < z2) then (bif decide ((0:Int)≤z3)&&decide (z3 < ((z1.length:Nat):Int)) then (withCons ((z1.getD ((z3).toNat) .undef).cells) fun h48 r49=>
 withInt .i64 h48 fun x50=>
 withCons r49 fun h51 r52=>
 withStr h51 fun s53=>
 withCons r52 fun h54 r55=>
 withInt .i64 h54 fun x56=>
 withCons r55 fun h57 r58=>
 withStr h57 fun s59=>
 (Q13.F n x50 s53 x56 s59 z13).bind fun p60=>
 bif p60 != 0 then (some ((⟨#[]⟩ : ByteArray),[],z3,p60)) else (c (.z23 z1 z2 (IntKind.i64.wrap (z3+1)) z4 z5 z6 z7 z8 z9 z10 z11 z12 z13 z14 z15))) else none) else (c (.z30 z11 ((z11.length:Nat):Int) 0 z12 z14 z15))
def Q11.r30 (n:Nat) (c:Q11.Z→Option (ByteArray × List AV × Int × Int)) (z1:List AV) (z2 z3:Int) (z4 z5:ByteArray) (z6:List AV):Option (ByteArray × List AV × Int × Int):=
 bif decide (z3 < z2) then (bif decide ((0:Int)≤z3)&&decide (z3 < ((z1.length:Nat):Int)) then (withCons ((z1.getD ((z3).toNat) .undef).cells) fun h61 r62=>
 withBool h61 fun b63=>
 withCons r62 fun h64 r65=>
 withSl ⟨true,104⟩ 4 h64 fun xs66=>
 c (.z33 z3 z1 z2 z3 xs66 ((xs66.length:Nat):Int) 0 z4 z5 z6)) else none) else ((Q17.F n z6).bind fun p67=>
 (Q0f.F n (decide (p67 > 200)) 18).bind fun p68=>
 some (z5,z6,0,p68))
def Q11.r33 (n:Nat) (c:Q11.Z→Option (ByteArray × List AV × Int × Int)) (z1:Int) (z2:List AV) (z3 z4:Int) (z5:List AV) (z6 z7:Int) (z8 z9:ByteArray) (z10:List AV):Option (ByteArray × List AV × Int × Int):=
 bif decide (z7 < z6) then (bif decide ((0:Int)≤z7)&&decide (z7 < ((z5.length:Nat):Int)) then (withCons ((z5.getD ((z7).toNat) .undef).cells) fun h69 r70=>
 withStr h69 fun s71=>
 withCons r70 fun h72 r73=>
 withInt .i64 h72 fun x74=>
 withCons r73 fun h75 r76=>
 withInt .i64 h75 fun x77=>
 withCons r76 fun h78 r79=>
 withStr h78 fun s80=>
 (Q1g.F n (⟨#[]⟩ : ByteArray) z9 z10 [] false s71).bind fun p81=>
 (Q1k.F n x77 s80 p81.1 p81.2.1 p81.2.2.1).bind fun p82=>
 bif p82 != 0 then (some ((⟨#[]⟩ : ByteArray),[],z1,p82)) else (c (.z33 z1 z2 z3 z4 z5 z6 (IntKind.i64.wrap (z7+1)) z8 z9 z10))) else none) else (c (.z30 z2 z3 (IntKind.i64.wrap (z4+1)) z8 z9 z10))
def Q11.r (n:Nat) (c:Q11.Z→Option (ByteArray × List AV × Int × Int)):Q11.Z→Option (ByteArray × List AV × Int × Int)
 | .z6 z1 z2 z3 z4 z5 z6 z7 z8 z9 z10 z11 z12 z13 z14=>Q11.r6 n c z1 z2 z3 z4 z5 z6 z7 z8 z9 z10 z11 z12 z13 z14
 | .z15 z1 z2 z3 z4 z5 z6 z7 z8 z9 z10 z11 z12 z13 z14 z15=>Q11.r15 n c z1 z2 z3 z4 z5 z6 z7 z8 z9 z10 z11 z12 z13 z14 z15
 | .z23 z1 z2 z3 z4 z5 z6 z7 z8 z9 z10 z11 z12 z13 z14 z15=>Q11.r23 n c z1 z2 z3 z4 z5 z6 z7 z8 z9 z10 z11 z12 z13 z14 z15
 | .z30 z1 z2 z3 z4 z5 z6=>Q11.r30 n c z1 z2 z3 z4 z5 z6
 | .z33 z1 z2 z3 z4 z5 z6 z7 z8 z9 z10=>Q11.r33 n c z1 z2 z3 z4 z5 z6 z7 z8 z9 z10
def Q11.e (n:Nat) (c:Q11.Z→Option (ByteArray × List AV × Int × Int)) (a0 a1:ByteArray) (a2 a3 a4 a5:List AV) (a6:Bool) (a7 a8:List AV):Option (ByteArray × List AV × Int × Int):=
 (Q0k.F n a8).bind fun p1=>
 bif p1 != 0 then (some ((⟨#[]⟩ : ByteArray),[],0,p1)) else (c (.z6 a8 a2 ((a2.length:Nat):Int) 0 a0 a1 a2 a3 a4 a5 a6 a7 (⟨#[]⟩ : ByteArray) []))
def Q11.E (n:Nat) (c:Q11.Z→Option (ByteArray × List AV × Int × Int)):Q11.A→Option Q11.T:=fun (a0,a1,a2,a3,a4,a5,a6,a7,a8)=>Q11.e n c a0 a1 a2 a3 a4 a5 a6 a7 a8
def Q11.l (n:Nat):Nat→Q11.Z→Option (ByteArray × List AV × Int × Int):=loopL (Q11.r n)
def Q11.F (n:Nat) (a0 a1:ByteArray) (a2 a3 a4 a5:List AV) (a6:Bool) (a7 a8:List AV):Option (ByteArray × List AV × Int × Int):=Q11.e n (Q11.l n n) a0 a1 a2 a3 a4 a5 a6 a7 a8
def Q11.FA (n:Nat):Q11.A→Option Q11.T:=Q11.E n (Q11.l n n)
theorem Q11.hands (n:Nat):∀ a p,Q11.FA n a=some p→HandsIn Tryz.prog 89 (Q11.i a) (Q11.p p):=
 pf_hands (C:=Q11.C n) (cut:=Q11.cut) (t:=Q11.t) (s:=Q11.s) (e:=Q11.E n) (r:=Q11.r n) (n:=n) cfg mixed globs rfl Q11.qi (Q11.tells n) Tryz.func89 (by kernel_rfl) (by kernel_rfl) (fun rec a=>by kernel_rfl) (fun rec z=>by cases z <;> kernel_rfl)
def Q11.via {R:Type} (n:Nat):List AV→(AV→Option R)→Option R:=viaK (Q11.FA n) Q11.o Q11.p
theorem Q11.tells1 {R:Type} (n:Nat) (xs:List AV):Tells1 (R:=R) Tryz.prog 89 xs (Q11.via n xs):=tells_via Q11.oi (fun a=>by kernel_rfl) (Q11.hands n) xs
end Go.Proofs.YtmpglmcjoelciaaGreatDoor.Ev
namespace Go.Proofs.YtmpglmcjoelciaaGreatDoor.Ev
open Go Go.Proofs Go.Proofs.Ev
set_option linter.unusedVariables false
set_option maxRecDepth 100000
abbrev Q08.A:=ByteArray × ByteArray × List AV × List AV × List AV × List AV × Bool × List AV × List AV
abbrev Q08.T:=ByteArray × List AV × Int
def Q08.i:Q08.A→List AV:=fun (a0,a1,a2,a3,a4,a5,a6,a7,a8)=>[AV.agg [vs a0,vs a1,.sl ⟨true,9⟩ 1 a2,.sl ⟨true,95⟩ 3 a3,.sl ⟨true,97⟩ 4 a4,.sl ⟨true,111⟩ 2 a5,vb a6,.sl ⟨false,100⟩ 2 a7],.sl ⟨false,48⟩ 5 a8]
def Q08.o (xs:List AV):Option Q08.A:=match xs with | [.agg [.v (.string a0),.v (.string a1),.sl ⟨true,9⟩ 1 a2,.sl ⟨true,95⟩ 3 a3,.sl ⟨true,97⟩ 4 a4,.sl ⟨true,111⟩ 2 a5,.v (.bool a6),.sl ⟨false,100⟩ 2 a7],.sl ⟨false,48⟩ 5 a8]=>some (a0,a1,a2,a3,a4,a5,a6,a7,a8) | _=>none
theorem Q08.oi:∀ xs a,Q08.o xs=some a→xs=Q08.i a:=by
 intro xs a h
 unfold Q08.o at h
 split at h
 ·cases h; rfl
 ·cases h
def Q08.p (p:Q08.T):AV:=.tup [AV.agg [vs p.1,.fr ⟨true,125⟩ 4 p.2.1],vi p.2.2]
def Q08.q (x:AV):Option Q08.T:=match x with | .tup [.agg [.v (.string p0),.fr ⟨true,125⟩ 4 p1],.v (.int .i64 p2)]=>some (p0,p1,p2) | _=>none
theorem Q08.qi:∀ x p,Q08.q x=some p→x=Q08.p p:=by
 intro x p h
 unfold Q08.q at h
 split at h
 ·cases h; rfl
 ·cases h
def Q08.C {R:Type} (n:Nat) (f:FuncId) (xs:List AV):(AV→Option R)→Option R:=
 bif Nat.beq f 17 then Q04.via n xs else bif Nat.beq f 89 then Q11.via n xs else fun _=>none
theorem Q08.tells {R:Type} (n:Nat):Tells (R:=R) Tryz.prog (Q08.C n):=fun _ xs=>tells_at (Q04.tells1 n xs) (tells_at (Q11.tells1 n xs) (Tells1.none))
def Q08.cut (r:Nat):Option Keep:=match r with  | _=>none
def Q08.e (n:Nat) (a0 a1:ByteArray) (a2 a3 a4 a5:List AV) (a6:Bool) (a7 a8:List AV):Option (ByteArray × List AV × Int):=
 (Q04.F n a0 a1 a2 a3 a4 a5 a6 a7).bind fun p1=>
 bif p1.2 != 0 then (some ((⟨#[]⟩ : ByteArray),[],p1.2)) else ((Q11.F n a0 a1 a2 a3 a4 a5 a6 a7 a8).bind fun p2=>
 bif p2.2.2.2 != 0 then (some ((⟨#[]⟩ : ByteArray),[],p2.2.2.2)) else (some (p2.1,p2.2.1,0)))
def Q08.E (n:Nat):Q08.A→Option Q08.T:=fun (a0,a1,a2,a3,a4,a5,a6,a7,a8)=>Q08.e n a0 a1 a2 a3 a4 a5 a6 a7 a8
def Q08.F (n:Nat) (a0 a1:ByteArray) (a2 a3 a4 a5:List AV) (a6:Bool) (a7 a8:List AV):Option (ByteArray × List AV × Int):=Q08.e n a0 a1 a2 a3 a4 a5 a6 a7 a8
def Q08.FA (n:Nat):Q08.A→Option Q08.T:=Q08.E n
theorem Q08.hands (n:Nat):∀ a p,Q08.FA n a=some p→HandsIn Tryz.prog 36 (Q08.i a) (Q08.p p):=
 pf_hands (C:=Q08.C n) (cut:=Q08.cut) (Z:=Empty) (t:=nofun) (s:=nofun) (e:=fun _=>Q08.E n) (r:=fun _ z=>nomatch z) (n:=n) cfg mixed globs rfl Q08.qi (Q08.tells n) Tryz.func36 (by kernel_rfl) (by kernel_rfl) (fun rec a=>by kernel_rfl) (fun rec z=>nomatch z)
def Q08.via {R:Type} (n:Nat):List AV→(AV→Option R)→Option R:=viaK (Q08.FA n) Q08.o Q08.p
theorem Q08.tells1 {R:Type} (n:Nat) (xs:List AV):Tells1 (R:=R) Tryz.prog 36 xs (Q08.via n xs):=tells_via Q08.oi (fun a=>by kernel_rfl) (Q08.hands n) xs
end Go.Proofs.YtmpglmcjoelciaaGreatDoor.Ev
namespace Go.Proofs.YtmpglmcjoelciaaGreatDoor.Ev
open Go Go.Proofs Go.Proofs.Ev
set_option linter.unusedVariables false
set_option maxRecDepth 100000
abbrev Q2z.A:=List AV
abbrev Q2z.T:=List AV
def Q2z.i:Q2z.A→List AV:=fun a0=>[.sl ⟨false,48⟩ 5 a0]
def Q2z.o (xs:List AV):Option Q2z.A:=match xs with | [.sl ⟨false,48⟩ 5 a0]=>some a0 | _=>none
theorem Q2z.oi:∀ xs a,Q2z.o xs=some a→xs=Q2z.i a:=by
 intro xs a h
 unfold Q2z.o at h
 split at h
 ·cases h; rfl
 ·cases h
def Q2z.p (p:Q2z.T):AV:=.fr ⟨false,48⟩ 5 p
def Q2z.q (x:AV):Option Q2z.T:=match x with | .fr ⟨false,48⟩ 5 p0=>some p0 | _=>none
theorem Q2z.qi:∀ x p,Q2z.q x=some p→x=Q2z.p p:=by
 intro x p h
 unfold Q2z.q at h
 split at h
 ·cases h; rfl
 ·cases h
inductive Q2z.Z where
 | z3 (z1:List AV) (z2:Int) (z3:List AV)
def Q2z.C {R:Type} (n:Nat) (f:FuncId) (xs:List AV):(AV→Option R)→Option R:=
 bif Nat.beq f 80 then Q2y.via n xs else fun _=>none
theorem Q2z.tells {R:Type} (n:Nat):Tells (R:=R) Tryz.prog (Q2z.C n):=fun _ xs=>tells_at (Q2y.tells1 n xs) (Tells1.none)
def Q2z.cut (r:Nat):Option Keep:=match r with | 3=>some ⟨[0,3,4],[(3,none,⟨false,48⟩,5)]⟩ | _=>none
def Q2z.t (z:Q2z.Z):List Item:=(todoOf (match z with | .z3 _ _ _=>3) 1000 [.code (Tryz.f37.body.getD .skip)]).getD []
def Q2z.s:Q2z.Z→St
 | .z3 z1 z2 z3=>⟨spr 20 0 [(0,.sl ⟨false,48⟩ 5 z1),(3,.own 0 0 none),(4,vi z2)],Mem.ofList [.row ⟨false,48⟩ 5 z3],1⟩
def Q2z.r3 (n:Nat) (c:Q2z.Z→Option (List AV)) (z1:List AV) (z2:Int) (z3:List AV):Option (List AV):=
 let y1:Bool:=decide (z2 < ((z1.length:Nat):Int))
 bif y1 then (bif decide ((0:Int)≤z2)&&decide (z2 < ((z1.length:Nat):Int)) then (withCons ((z1.getD ((z2).toNat) .undef).cells) fun h2 r3=>
 withStr h2 fun s4=>
 withCons r3 fun h5 r6=>
 withStr h5 fun s7=>
 withCons r6 fun h8 r9=>
 withSl ⟨true,125⟩ 4 h8 fun xs10=>
 withCons r9 fun h11 r12=>
 withSl ⟨true,111⟩ 2 h11 fun xs13=>
 withCons r12 fun h14 r15=>
 withBool h14 fun b16=>
 (Q2y.F n s4 s7 xs10 xs13 b16).bind fun p17=>
 let y18:List AV:=[AV.agg [vs p17.1,vs p17.2.1,.sl ⟨true,125⟩ 4 p17.2.2.1,.sl ⟨true,111⟩ 2 p17.2.2.2.1,vb p17.2.2.2.2]]
 bif decide (z3.length+y18.length≤most) then (c (.z3 z1 (IntKind.i64.wrap (z2+1)) (z3++y18))) else none) else none) else (some z3)
def Q2z.r (n:Nat) (c:Q2z.Z→Option (List AV)):Q2z.Z→Option (List AV)
 | .z3 z1 z2 z3=>Q2z.r3 n c z1 z2 z3
def Q2z.e (n:Nat) (c:Q2z.Z→Option (List AV)) (a0:List AV):Option (List AV):=
 c (.z3 a0 0 [])
def Q2z.E (n:Nat) (c:Q2z.Z→Option (List AV)):Q2z.A→Option Q2z.T:=fun a0=>Q2z.e n c a0
def Q2z.l (n:Nat):Nat→Q2z.Z→Option (List AV):=loopL (Q2z.r n)
def Q2z.F (n:Nat) (a0:List AV):Option (List AV):=Q2z.e n (Q2z.l n n) a0
def Q2z.FA (n:Nat):Q2z.A→Option Q2z.T:=Q2z.E n (Q2z.l n n)
theorem Q2z.hands (n:Nat):∀ a p,Q2z.FA n a=some p→HandsIn Tryz.prog 37 (Q2z.i a) (Q2z.p p):=
 pf_hands (C:=Q2z.C n) (cut:=Q2z.cut) (t:=Q2z.t) (s:=Q2z.s) (e:=Q2z.E n) (r:=Q2z.r n) (n:=n) cfg mixed globs rfl Q2z.qi (Q2z.tells n) Tryz.func37 (by kernel_rfl) (by kernel_rfl) (fun rec a=>by kernel_rfl) (fun rec z=>by cases z <;> kernel_rfl)
def Q2z.via {R:Type} (n:Nat):List AV→(AV→Option R)→Option R:=viaK (Q2z.FA n) Q2z.o Q2z.p
theorem Q2z.tells1 {R:Type} (n:Nat) (xs:List AV):Tells1 (R:=R) Tryz.prog 37 xs (Q2z.via n xs):=tells_via Q2z.oi (fun a=>by kernel_rfl) (Q2z.hands n) xs
end Go.Proofs.YtmpglmcjoelciaaGreatDoor.Ev
namespace Go.Proofs.YtmpglmcjoelciaaGreatDoor.Ev
open Go Go.Proofs Go.Proofs.Ev
set_option linter.unusedVariables false
set_option maxRecDepth 100000
abbrev Q2c.A:=ByteArray × ByteArray × List AV × List AV × List AV × List AV × Bool × List AV × List AV × List AV
abbrev Q2c.T:=Bool
def Q2c.i:Q2c.A→List AV:=fun (a0,a1,a2,a3,a4,a5,a6,a7,a8,a9)=>[AV.agg [vs a0,vs a1,.sl ⟨true,9⟩ 1 a2,.sl ⟨true,95⟩ 3 a3,.sl ⟨true,97⟩ 4 a4,.sl ⟨true,111⟩ 2 a5,vb a6,.sl ⟨false,100⟩ 2 a7],.sl ⟨false,48⟩ 5 a8,.sl ⟨true,9⟩ 1 a9]
def Q2c.o (xs:List AV):Option Q2c.A:=match xs with | [.agg [.v (.string a0),.v (.string a1),.sl ⟨true,9⟩ 1 a2,.sl ⟨true,95⟩ 3 a3,.sl ⟨true,97⟩ 4 a4,.sl ⟨true,111⟩ 2 a5,.v (.bool a6),.sl ⟨false,100⟩ 2 a7],.sl ⟨false,48⟩ 5 a8,.sl ⟨true,9⟩ 1 a9]=>some (a0,a1,a2,a3,a4,a5,a6,a7,a8,a9) | _=>none
def Q2c.p (p:Q2c.T):AV:=vb p
def Q2c.q (x:AV):Option Q2c.T:=match x with | .v (.bool p0)=>some p0 | _=>none
theorem Q2c.qi:∀ x p,Q2c.q x=some p→x=Q2c.p p:=by
 intro x p h
 unfold Q2c.q at h
 split at h
 ·cases h; rfl
 ·cases h
inductive Q2c.Z where
 | z4
def Q2c.C {R:Type} (n:Nat) (f:FuncId) (xs:List AV):(AV→Option R)→Option R:=
 bif Nat.beq f 12 then Q2j.via n xs else bif Nat.beq f 16 then Q2i.via n xs else bif Nat.beq f 18 then Q30.via n xs else bif Nat.beq f 20 then Q2l.via n xs else bif Nat.beq f 21 then Q0c.via n xs else bif Nat.beq f 22 then Q1o.via n xs else bif Nat.beq f 35 then Q2h.via n xs else bif Nat.beq f 36 then Q08.via n xs else bif Nat.beq f 37 then Q2z.via n xs else bif Nat.beq f 38 then Q20.via n xs else fun _=>none
theorem Q2c.tells {R:Type} (n:Nat):Tells (R:=R) Tryz.prog (Q2c.C n):=fun _ xs=>tells_at (Q2j.tells1 n xs) (tells_at (Q2i.tells1 n xs) (tells_at (Q30.tells1 n xs) (tells_at (Q2l.tells1 n xs) (tells_at (Q0c.tells1 n xs) (tells_at (Q1o.tells1 n xs) (tells_at (Q2h.tells1 n xs) (tells_at (Q08.tells1 n xs) (tells_at (Q2z.tells1 n xs) (tells_at (Q20.tells1 n xs) (Tells1.none))))))))))
def Q2c.cut (r:Nat):Option Keep:=match r with | 4=>some ⟨[],[]⟩ | _=>none
def Q2c.t (z:Q2c.Z):List Item:=(todoOf (match z with | .z4=>4) 1000 [.code (Tryz.f10.body.getD .skip)]).getD []
def Q2c.s:Q2c.Z→St
 | .z4=>⟨spr 66 0 [],Mem.ofList [],0⟩
def Q2c.r4 (n:Nat) (c:Q2c.Z→Option Bool)  : Option Bool:=
 some true
def Q2c.r (n:Nat) (c:Q2c.Z→Option Bool):Q2c.Z→Option Bool
 | .z4=>Q2c.r4 n c
def Q2c.e (n:Nat) (c:Q2c.Z→Option Bool) (a0 a1:ByteArray) (a2 a3 a4 a5:List AV) (a6:Bool) (a7 a8 a9:List AV):Option Bool:=
 (Q2j.F n ).bind fun p1=>
 bif !p1 then (some false) else ((Q2i.F n a0 a1 a2 a3 a4 a5 a6 a7).bind fun p2=>
 bif !p2 then (c .z4) else ((Q2h.F n a8).bind fun p3=>
 bif !p3 then (c .z4) else ((Q2l.F n a9).bind fun p4=>
 bif !p4 then (c .z4) else ((Q30.F n a0 a1 a2 a3 a4 a5 a6 a7).bind fun p5=>
 (Q2z.F n a8).bind fun p6=>
 (Q08.F n p5.1 p5.2.1 p5.2.2.1 p5.2.2.2.1 p5.2.2.2.2.1 p5.2.2.2.2.2.1 p5.2.2.2.2.2.2.1 p5.2.2.2.2.2.2.2 p6).bind fun p7=>
 bif p7.2.2==0 then ((Q20.F n a0 p7.1 p7.2.1 a5 false).bind fun p8=>
 bif p8 != 0 then (some false) else ((Q1o.F n a9).bind fun p9=>
 (Q0c.F n p9).bind fun p10=>
 let y11:Bool:=p10.2.2.2.2.2.2.2.2.2.2.2.2.2.2.2 != 0
 bif y11 then (some true) else (bif p10.1 then (some true) else ((Q20.F n p10.2.1 p10.2.2.1 p10.2.2.2.1 p10.2.2.2.2.1 p10.2.2.2.2.2.1).bind fun p12=>
 some (p12==0))))) else ((Q1o.F n a9).bind fun p13=>
 (Q0c.F n p13).bind fun p14=>
 let y15:Bool:=p14.2.2.2.2.2.2.2.2.2.2.2.2.2.2.2 != 0
 bif y15 then (some true) else (bif p14.1 then (some true) else ((Q20.F n p14.2.1 p14.2.2.1 p14.2.2.2.1 p14.2.2.2.2.1 p14.2.2.2.2.2.1).bind fun p16=>
 some (p16==0))))))))
def Q2c.E (n:Nat) (c:Q2c.Z→Option Bool):Q2c.A→Option Q2c.T:=fun (a0,a1,a2,a3,a4,a5,a6,a7,a8,a9)=>Q2c.e n c a0 a1 a2 a3 a4 a5 a6 a7 a8 a9
def Q2c.l (n:Nat):Nat→Q2c.Z→Option Bool:=loopL (Q2c.r n)
def Q2c.F (n:Nat) (a0 a1:ByteArray) (a2 a3 a4 a5:List AV) (a6:Bool) (a7 a8 a9:List AV):Option Bool:=Q2c.e n (Q2c.l n n) a0 a1 a2 a3 a4 a5 a6 a7 a8 a9
def Q2c.FA (n:Nat):Q2c.A→Option Q2c.T:=Q2c.E n (Q2c.l n n)
theorem Q2c.hands (n:Nat):∀ a p,Q2c.FA n a=some p→HandsIn Tryz.prog 10 (Q2c.i a) (Q2c.p p):=
 pf_hands (C:=Q2c.C n) (cut:=Q2c.cut) (t:=Q2c.t) (s:=Q2c.s) (e:=Q2c.E n) (r:=Q2c.r n) (n:=n) cfg mixed globs rfl Q2c.qi (Q2c.tells n) Tryz.func10 (by kernel_rfl) (by kernel_rfl) (fun rec a=>by kernel_rfl) (fun rec z=>by cases z <;> kernel_rfl)
end Go.Proofs.YtmpglmcjoelciaaGreatDoor.Ev
namespace Go.Proofs.YtmpglmcjoelciaaGreatDoor.Ev
open Go Go.Proofs Go.Proofs.Ev
set_option linter.unusedVariables false
set_option maxRecDepth 100000
def Q06.e (n:Nat) (a0 a1:ByteArray) (a2 a3 a4 a5:List AV) (a6:Bool) (a7 a8:List AV):Option (Int × Int):=
 (Q04.F n a0 a1 a2 a3 a4 a5 a6 a7).bind fun p1=>
 bif p1.2 != 0 then (some (p1.1,p1.2)) else ((Q11.F n a0 a1 a2 a3 a4 a5 a6 a7 a8).bind fun p2=>
 some (p2.2.2.1,p2.2.2.2))
def Q06.F (n:Nat) (a0 a1:ByteArray) (a2 a3 a4 a5:List AV) (a6:Bool) (a7 a8:List AV):Option (Int × Int):=Q06.e n a0 a1 a2 a3 a4 a5 a6 a7 a8
end Go.Proofs.YtmpglmcjoelciaaGreatDoor.Ev
namespace Go.Proofs.YtmpglmcjoelciaaGreatDoor.Ev
open Go Go.Proofs Go.Proofs.Ev
theorem Q2l.at4 (n m z1 z2):Q2l.l n (m+1) (.z4 z1 z2)=Q2l.r4 n (Q2l.l n m) z1 z2:=rfl
theorem Q4a.at2 (n m z1 z2 z3):Q4a.l n (m+1) (.z2 z1 z2 z3)=Q4a.r2 n (Q4a.l n m) z1 z2 z3:=rfl
theorem Q43.at5 (n m z1 z2):Q43.l n (m+1) (.z5 z1 z2)=Q43.r5 n (Q43.l n m) z1 z2:=rfl
theorem Q41.at8 (n m z1 z2 z3):Q41.l n (m+1) (.z8 z1 z2 z3)=Q41.r8 n (Q41.l n m) z1 z2 z3:=rfl
theorem Q3v.at13 (n m z1 z2 z3 z4 z5 z6 z7 z8 z9):Q3v.l n (m+1) (.z13 z1 z2 z3 z4 z5 z6 z7 z8 z9)=Q3v.r13 n (Q3v.l n m) z1 z2 z3 z4 z5 z6 z7 z8 z9:=rfl
theorem Q1d.at4 (n m z1 z2 z3 z4 z5 z6 z7 z8 z9 z10 z11 z12 z13 z14 z15 z16 z17):Q1d.l n (m+1) (.z4 z1 z2 z3 z4 z5 z6 z7 z8 z9 z10 z11 z12 z13 z14 z15 z16 z17)=Q1d.r4 n (Q1d.l n m) z1 z2 z3 z4 z5 z6 z7 z8 z9 z10 z11 z12 z13 z14 z15 z16 z17:=rfl
theorem Q1f.at5 (n m z1 z2 z3 z4 z5 z6 z7 z8 z9 z10 z11 z12 z13 z14 z15 z16 z17 z18):Q1f.l n (m+1) (.z5 z1 z2 z3 z4 z5 z6 z7 z8 z9 z10 z11 z12 z13 z14 z15 z16 z17 z18)=Q1f.r5 n (Q1f.l n m) z1 z2 z3 z4 z5 z6 z7 z8 z9 z10 z11 z12 z13 z14 z15 z16 z17 z18:=rfl
theorem Q1e.at9 (n m z1 z2 z3 z4 z5 z6 z7 z8 z9 z10 z11 z12 z13 z14 z15 z16 z17):Q1e.l n (m+1) (.z9 z1 z2 z3 z4 z5 z6 z7 z8 z9 z10 z11 z12 z13 z14 z15 z16 z17)=Q1e.r9 n (Q1e.l n m) z1 z2 z3 z4 z5 z6 z7 z8 z9 z10 z11 z12 z13 z14 z15 z16 z17:=rfl
theorem Q1b.at4 (n m z1 z2 z3 z4 z5 z6 z7 z8 z9 z10 z11 z12 z13 z14 z15 z16 z17):Q1b.l n (m+1) (.z4 z1 z2 z3 z4 z5 z6 z7 z8 z9 z10 z11 z12 z13 z14 z15 z16 z17)=Q1b.r4 n (Q1b.l n m) z1 z2 z3 z4 z5 z6 z7 z8 z9 z10 z11 z12 z13 z14 z15 z16 z17:=rfl
theorem Q17.at3 (n m z1 z2 z3 z4):Q17.l n (m+1) (.z3 z1 z2 z3 z4)=Q17.r3 n (Q17.l n m) z1 z2 z3 z4:=rfl
theorem Q0j.at7 (n m z1 z2 z3 z4 z5 z6 z7 z8 z9 z10):Q0j.l n (m+1) (.z7 z1 z2 z3 z4 z5 z6 z7 z8 z9 z10)=Q0j.r7 n (Q0j.l n m) z1 z2 z3 z4 z5 z6 z7 z8 z9 z10:=rfl
theorem Q0c.at6 (n m z1 z2 z3 z4 z5 z6 z7 z8 z9 z10 z11 z12 z13 z14 z15 z16 z17 z18 z19 z20 z21 z22 z23 z24 z25 z26):Q0c.l n (m+1) (.z6 z1 z2 z3 z4 z5 z6 z7 z8 z9 z10 z11 z12 z13 z14 z15 z16 z17 z18 z19 z20 z21 z22 z23 z24 z25 z26)=Q0c.r6 n (Q0c.l n m) z1 z2 z3 z4 z5 z6 z7 z8 z9 z10 z11 z12 z13 z14 z15 z16 z17 z18 z19 z20 z21 z22 z23 z24 z25 z26:=rfl
theorem Q27.at3 (n m z1 z2 z3 z4):Q27.l n (m+1) (.z3 z1 z2 z3 z4)=Q27.r3 n (Q27.l n m) z1 z2 z3 z4:=rfl
theorem Q21.at2 (n m z1 z2 z3 z4):Q21.l n (m+1) (.z2 z1 z2 z3 z4)=Q21.r2 n (Q21.l n m) z1 z2 z3 z4:=rfl
theorem Q22.at6 (n m z1 z2 z3):Q22.l n (m+1) (.z6 z1 z2 z3)=Q22.r6 n (Q22.l n m) z1 z2 z3:=rfl
theorem Q25.at4 (n m z1 z2 z3 z4 z5 z6):Q25.l n (m+1) (.z4 z1 z2 z3 z4 z5 z6)=Q25.r4 n (Q25.l n m) z1 z2 z3 z4 z5 z6:=rfl
theorem Q25.at9 (n m z1 z2 z3 z4 z5 z6 z7):Q25.l n (m+1) (.z9 z1 z2 z3 z4 z5 z6 z7)=Q25.r9 n (Q25.l n m) z1 z2 z3 z4 z5 z6 z7:=rfl
theorem Q2g.at4 (n m z1 z2 z3 z4 z5 z6):Q2g.l n (m+1) (.z4 z1 z2 z3 z4 z5 z6)=Q2g.r4 n (Q2g.l n m) z1 z2 z3 z4 z5 z6:=rfl
theorem Q2h.at4 (n m z1 z2):Q2h.l n (m+1) (.z4 z1 z2)=Q2h.r4 n (Q2h.l n m) z1 z2:=rfl
theorem Q02.at2 (n m z1 z2 z3 z4 z5 z6 z7 z8):Q02.l n (m+1) (.z2 z1 z2 z3 z4 z5 z6 z7 z8)=Q02.r2 n (Q02.l n m) z1 z2 z3 z4 z5 z6 z7 z8:=rfl
theorem Q0k.at4 (n m z1 z2 z3 z4):Q0k.l n (m+1) (.z4 z1 z2 z3 z4)=Q0k.r4 n (Q0k.l n m) z1 z2 z3 z4:=rfl
theorem Q03.at2 (n m z1 z2 z3 z4):Q03.l n (m+1) (.z2 z1 z2 z3 z4)=Q03.r2 n (Q03.l n m) z1 z2 z3 z4:=rfl
theorem Q00.at2 (n m z1 z2 z3 z4):Q00.l n (m+1) (.z2 z1 z2 z3 z4)=Q00.r2 n (Q00.l n m) z1 z2 z3 z4:=rfl
theorem Q42.at3 (n m z1 z2 z3):Q42.l n (m+1) (.z3 z1 z2 z3)=Q42.r3 n (Q42.l n m) z1 z2 z3:=rfl
theorem Q11.at6 (n m z1 z2 z3 z4 z5 z6 z7 z8 z9 z10 z11 z12 z13 z14):Q11.l n (m+1) (.z6 z1 z2 z3 z4 z5 z6 z7 z8 z9 z10 z11 z12 z13 z14)=Q11.r6 n (Q11.l n m) z1 z2 z3 z4 z5 z6 z7 z8 z9 z10 z11 z12 z13 z14:=rfl
theorem Q11.at15 (n m z1 z2 z3 z4 z5 z6 z7 z8 z9 z10 z11 z12 z13 z14 z15):Q11.l n (m+1) (.z15 z1 z2 z3 z4 z5 z6 z7 z8 z9 z10 z11 z12 z13 z14 z15)=Q11.r15 n (Q11.l n m) z1 z2 z3 z4 z5 z6 z7 z8 z9 z10 z11 z12 z13 z14 z15:=rfl
theorem Q11.at23 (n m z1 z2 z3 z4 z5 z6 z7 z8 z9 z10 z11 z12 z13 z14 z15):Q11.l n (m+1) (.z23 z1 z2 z3 z4 z5 z6 z7 z8 z9 z10 z11 z12 z13 z14 z15)=Q11.r23 n (Q11.l n m) z1 z2 z3 z4 z5 z6 z7 z8 z9 z10 z11 z12 z13 z14 z15:=rfl
theorem Q11.at30 (n m z1 z2 z3 z4 z5 z6):Q11.l n (m+1) (.z30 z1 z2 z3 z4 z5 z6)=Q11.r30 n (Q11.l n m) z1 z2 z3 z4 z5 z6:=rfl
theorem Q11.at33 (n m z1 z2 z3 z4 z5 z6 z7 z8 z9 z10):Q11.l n (m+1) (.z33 z1 z2 z3 z4 z5 z6 z7 z8 z9 z10)=Q11.r33 n (Q11.l n m) z1 z2 z3 z4 z5 z6 z7 z8 z9 z10:=rfl
theorem Q2z.at3 (n m z1 z2 z3):Q2z.l n (m+1) (.z3 z1 z2 z3)=Q2z.r3 n (Q2z.l n m) z1 z2 z3:=rfl
end Go.Proofs.YtmpglmcjoelciaaGreatDoor.Ev
namespace Go.Proofs.YtmpglmcjoelciaaGreatDoor.Ev
open Go Go.Proofs Go.Proofs.Ev
set_option linter.unusedVariables false
def run (l:List UInt8):Nat:=(l.takeWhile (fun x=>x != 32&&x != 39)).length
theorem wordsP_len:∀ (g:Nat) (l:List UInt8) (ws:List (List UInt8)),wordsP g l=some ws→ws.length≤l.length+1
 | 0,_,_,h=>by cases h
 | g+1,l,ws,h=>by
  unfold wordsP at h
  split at h
  ·cases h
  ·split at h
   ·cases h; simp
   ·rename_i h1 h2
    rw [Option.map_eq_some_iff] at h
    obtain ⟨w,hw,rfl⟩:=h
    have:=wordsP_len g _ _ hw
    rw [List.length_drop] at this
    have:=wrd_le l
    simp only [List.length_cons]
    omega
end Go.Proofs.YtmpglmcjoelciaaGreatDoor.Ev
namespace Go.Proofs.YtmpglmcjoelciaaGreatDoor.Ev
open Go Go.Proofs Go.Proofs.Ev
set_option linter.unusedVariables false
section
variable {n:Nat} {nm fm:ByteArray} {a3 a4 a5 a7:List AV} {uq:Bool}
theorem din_eq (n:Nat) (a b c:Int):Q0o.F n a b c=some (decide (b≤a∧a≤c)):=by
 unfold Q0o.F Q0o.e
 by_cases h:b≤a
 ·rw [cond_t h]; simp [h]
 ·rw [cond_f h]; simp [h]
theorem bif_ne {α:Type} (e:Int) (x y:α):(bif e != 0 then x else y)=if e≠0 then x else y:=by
 by_cases h:e=0
 ·have h1:(e != 0)=false:=by simp [h]
  rw [h1,if_neg (by simp [h])]; rfl
 ·have h1:(e != 0)=true:=by simp [h]
  rw [h1,if_pos h]; rfl
theorem cond_yes {α:Type} {b:Bool} (h:b=true) (x y:α):(bif b then x else y)=x:=by rw [h]; rfl
theorem some_ite {α:Type} {p:Prop} [Decidable p] (x y:α):(if p then some x else some y)=some (if p then x else y):=by split <;> rfl
theorem Bl_getD {ts:List Bool} {i:Nat} (hi:i < ts.length):(Bl ts).getD (((i:Nat):Int)).toNat AV.undef=vb ts[i]:=by simp [Bl,List.getD_eq_getElem?_getD,hi]
theorem indexB_l (n:Nat) (ts:List Bool) (hw:ts.length≤1000):∀ (d i m:Nat),i+d=ts.length→d < m→∃ q,Q4b.l n m (.z2 (Bl ts) false ts.length i)=some q∧decide (q≥0)=(ts.drop i).contains false
 | _,_,0,_,h=>absurd h (by omega)
 | 0,i,m+1,h,_=>by
  refine ⟨-1,?_,by rw [List.drop_of_length_le (by omega)]; rfl⟩
  rw [Q4b.at2]
  unfold Q4b.r2
  rw [cond_f (by omega)]
 | d+1,i,m+1,h,hm=>by
  have hi:i < ts.length:=by omega
  obtain ⟨q,h1,h2⟩:=indexB_l n ts hw d (i+1) m (by omega) (by omega)
  rw [Q4b.at2]
  unfold Q4b.r2
  rw [cond_t (by omega),Bl_length,within_t hi,cond_true,Bl_getD hi,List.drop_eq_getElem_cons hi,List.contains_cons]
  show ∃ q,(bif (false==ts[i]) then some (i:Int) else _)=some q∧_
  cases ts[i] with
  | false=>exact ⟨i,rfl,by simp⟩
  | true=>
   refine ⟨q,?_,by rw [h2]; rfl⟩
   show Q4b.l n m (.z2 (Bl ts) false ts.length (IntKind.i64.wrap ((i:Int)+1)))=_
   rw [wsucc (by omega)]
   exact h1
theorem containsB {n:Nat} (hn:1001≤n) (ts:List Bool) (hw:ts.length≤1000):Q47.F n (Bl ts) false=some (ts.contains false):=by
 unfold Q47.F Q47.e Q4b.F Q4b.e
 obtain ⟨q,h1,h2⟩:=indexB_l n ts hw ts.length 0 n (by omega) (by omega)
 rw [List.drop_zero] at h2
 rw [Bl_length,show (0:Int)=((0:Nat):Int) from rfl,h1,Option.bind_some]
 exact congrArg some h2
theorem Bl_drop (ts:List Bool) (k:Nat):(Bl ts).drop k=Bl (ts.drop k):=by simp [Bl,List.map_drop]
theorem Bl_set (ts:List Bool) (k:Nat) (b:Bool):(Bl ts).set k (vb b)=Bl (ts.set k b):=by simp [Bl,List.map_set]
theorem joins_l (hn:1001≤n) (ws:List (List UInt8)) (hw:1≤ws.length∧ws.length≤1000) (js:List JP) (hj:js.length≤1000):∀ (d i m:Nat) (last:Int) (ts:List Bool),i+d=js.length→d < m→ts.length=ws.length→
  Q0u.l n m (.z6 last (js.map JP.av) js.length i nm fm (Ws ws) a3 (js.map JP.av) a5 uq a7 (Bl ts))=some (jErr ((ws.length:Int) - 1) (js.drop i) i last ts)
 | _,_,0,_,_,_,h,_=>absurd h (by omega)
 | 0,i,m+1,last,ts,h,_,ht=>by
  rw [Q0u.at6]
  unfold Q0u.r6
  rw [cond_f (by omega),Bl_length,cond_yes (by rw [Bool.and_eq_true,decide_eq_true_eq,decide_eq_true_eq]; omega),Bl_drop,containsB hn _ (by rw [List.length_drop]; omega),Option.bind_some,cond_eq,Option.bind_some,List.drop_of_length_le (show js.length≤i by omega)]
  rfl
 | d+1,i,m+1,last,ts,h,hm,ht=>by
  have hi:i < js.length:=by omega
  rw [Q0u.at6]
  unfold Q0u.r6
  rw [cond_t (by omega),List.length_map,within_t hi,cond_true,at_map JP.av hi,List.drop_eq_getElem_cons hi]
  show ((Q0o.F n js[i].b 1 (IntKind.i64.wrap ((((Ws ws).length:Nat):Int) - 1))).bind fun p16=>(Q0f.F n (!p16) 3).bind fun p17=>(Q0o.F n js[i].fr 0 (IntKind.i64.wrap (js[i].b - 1))).bind fun p18=>
   (Q0f.F n (!p18) 3).bind fun p19=>(Q0r.F n (bs js[i].lf)).bind fun p20=>(Q0f.F n (!p20) 7).bind fun p21=>(Q0r.F n (bs js[i].rt)).bind fun p22=>(Q0f.F n (!p22) 7).bind fun p23=>
   (Q0f.F n (decide (js[i].b < last)) 14).bind fun p24=>(Q0m.F n ([p17,p19,p21,p23,p24].map vi)).bind fun p25=>
   bif p25 != 0 then (some ((i:Int),p25)) else (bif decide ((0:Int)≤js[i].b)&&decide (js[i].b < (((Bl ts).length:Nat):Int)) then
    (Q0u.l n m (.z6 js[i].b (js.map JP.av) js.length (IntKind.i64.wrap ((i:Int)+1)) nm fm (Ws ws) a3 (js.map JP.av) a5 uq a7 ((Bl ts).set ((js[i].b).toNat) (vb true)))) else none))=_
  simp only [Ws_length,din_eq,Option.bind_some,cond_eq,isName_eq hn,first_eq (n:=n) [_,_,_,_,_] (by simp) hn]
  rw [w64 (x:=(ws.length:Int) - 1) (by omega) (by omega),bif_ne]
  rw [jErr_cons]
  have e:fz [(if (!decide (1≤js[i].b∧js[i].b≤(ws.length:Int) - 1))=true then 3 else 0),(if (!decide (0≤js[i].fr∧js[i].fr≤IntKind.i64.wrap (js[i].b - 1)))=true then 3 else 0),(if (!isNm js[i].lf)=true then 7 else 0),(if (!isNm js[i].rt)=true then 7 else 0),(if decide (js[i].b < last)=true then 14 else 0)]=je ((ws.length:Int) - 1) last js[i]:=by
   unfold je
   by_cases h1:1≤js[i].b∧js[i].b≤(ws.length:Int) - 1
   ·rw [w64 (x:=js[i].b - 1) (by omega) (by omega)]
    by_cases h2:0≤js[i].fr∧js[i].fr≤js[i].b - 1
    ·cases h3:isNm js[i].lf
     ·simp [fz,h1,h2]
     ·cases h4:isNm js[i].rt
      ·simp [fz,h1,h2]
      ·simp [fz,h1,h2]
    ·simp [fz,h1,h2]
   ·simp [fz,h1]
  rw [e]
  by_cases h0:je ((ws.length:Int) - 1) last js[i]=0
  ·rw [if_neg (by simp [h0]),if_neg (by simp [h0])]
   have hb:1≤js[i].b∧js[i].b≤(ws.length:Int) - 1:=by
    unfold je at h0
    by_cases h1:1≤js[i].b∧js[i].b≤(ws.length:Int) - 1
    ·exact h1
    ·rw [if_pos h1] at h0; omega
   have e2:(decide ((0:Int)≤js[i].b)&&decide (js[i].b < (((Bl ts).length:Nat):Int)))=true:=by
    rw [Bl_length,Bool.and_eq_true,decide_eq_true_eq,decide_eq_true_eq]; omega
   rw [e2,cond_true,wsucc (by omega),Bl_set]
   exact joins_l hn ws hw js hj d (i+1) m js[i].b (ts.set js[i].b.toNat true) (by omega) (by omega) (by simp [ht])
  ·rw [if_pos h0,if_pos h0]
def jErrT (ws:List (List UInt8)) (js:List JP):Int × Int:=if js.length > 20 then (0,2) else jErr ((ws.length:Int) - 1) js 0 0 (List.replicate ws.length false)
theorem joins_eq (hn:1001≤n) (ws:List (List UInt8)) (hw:1≤ws.length∧ws.length≤1000) (js:List JP) (hj:js.length≤1000):Q0u.F n nm fm (Ws ws) a3 (js.map JP.av) a5 uq a7=some (jErrT ws js):=by
 unfold Q0u.F Q0u.e jErrT
 simp only [List.length_map,Ws_length]
 by_cases h:js.length > 20
 ·rw [cond_t (by omega),if_pos h]
 ·rw [cond_f (by omega),if_neg h,cond_yes (by have:most=1000000000:=rfl; simp [this]; omega),Int.toNat_natCast]
  have e:List.replicate ws.length (vb false)=Bl (List.replicate ws.length false):=by simp [Bl]
  rw [e]
  have:=joins_l (nm:=nm) (fm:=fm) (a3:=a3) (a5:=a5) (uq:=uq) (a7:=a7) hn ws hw js hj js.length 0 n 0 (List.replicate ws.length false) (by omega) (by omega) (by simp)
  rw [List.drop_zero] at this
  exact this
theorem keys_l (hn:1001≤n) (ns:List (List UInt8)) (hs:ns.length≤1000) (ks:List KF) (hk:ks.length≤1000):∀ (d i m:Nat),i+d=ks.length→d < m→
  Q0w.l n m (.z5 (Ws ns) (ks.map KF.av) ks.length i (Ws ((knames ks).take i)))=some (kErr ns (knames ks) (ks.drop i) i)
 | _,_,0,_,h=>absurd h (by omega)
 | 0,i,m+1,h,_=>by
  rw [Q0w.at5]
  unfold Q0w.r5
  rw [cond_f (by omega),List.drop_of_length_le (by omega)]
  rfl
 | d+1,i,m+1,h,hm=>by
  have hi:i < ks.length:=by omega
  have hni:(knames ks).length=ks.length:=by simp [knames]
  have hni' : i < (knames ks).length:=by omega
  have hmost:most=1000000000:=rfl
  have e2:(knames ks)[i]=ks[i].nm:=by simp [knames]
  have ih:=keys_l hn ns hs ks hk d (i+1) m (by omega) (by omega)
  rw [Q0w.at5]
  unfold Q0w.r5
  rw [cond_t (by omega),List.length_map,within_t hi,cond_true,at_map KF.av hi,List.drop_eq_getElem_cons hi]
  show ((Q48.F n (Ws ns) (bs ks[i].nm)).bind fun p8=>(Q0f.F n (!p8) 11).bind fun p9=>(Q48.F n (Ws ((knames ks).take i)) (bs ks[i].nm)).bind fun p10=>(Q0f.F n p10 13).bind fun p11=>
   (Q0m.F n [vi p9,vi p11]).bind fun p12=>bif p12 != 0 then (some ((i:Int),p12)) else (bif decide ((Ws ((knames ks).take i)).length+1≤most) then
    (Q0w.l n m (.z5 (Ws ns) (ks.map KF.av) ks.length (IntKind.i64.wrap ((i:Int)+1)) (Ws ((knames ks).take i)++[vs (bs ks[i].nm)]))) else none))=_
  rw [contains_str hn ns hs,Option.bind_some,cond_eq,Option.bind_some,contains_str hn _ (by rw [List.length_take]; omega),Option.bind_some,cond_eq,Option.bind_some,first2 hn,Option.bind_some,bif_ne,
   cond_t (by rw [Ws_length,List.length_take]; omega),wsucc (by omega),Ws_snoc,← e2,← List.take_succ_eq_append_getElem hni',ih]
  rw [kErr_cons]
  have e:(if (if (!ns.contains (knames ks)[i])=true then (11:Int) else 0)≠0 then (if (!ns.contains (knames ks)[i])=true then (11:Int) else 0) else (if ((knames ks).take i).contains (knames ks)[i]=true then 13 else 0))=ke ns ((knames ks).take i) ks[i]:=by
   unfold ke
   rw [e2]
   cases ns.contains ks[i].nm <;> cases ((knames ks).take i).contains ks[i].nm <;> rfl
  rw [e,some_ite]
def kErrT (ns:List (List UInt8)) (ks:List KF):Int × Int:=if ks.length > 4 then (0,2) else kErr ns (knames ks) ks 0
theorem keysErr_eq (hn:1001≤n) (ns:List (List UInt8)) (hs:ns.length≤1000) (ks:List KF) (hk:ks.length≤1000):Q0w.F n (ks.map KF.av) (Ws ns)=some (kErrT ns ks):=by
 unfold Q0w.F Q0w.e kErrT
 simp only [List.length_map]
 by_cases h:ks.length > 4
 ·rw [cond_t (by omega),if_pos h]
 ·rw [cond_f (by omega),if_neg h]
  have:=keys_l hn ns hs ks hk ks.length 0 n (by omega) (by omega)
  rw [List.drop_zero] at this
  exact this
theorem condErr_eq (hn:1001≤n) (ns:List (List UInt8)) (hs:ns.length≤1000) (c:CN):Q0g.F n (bs c.fd) c.op c.n (bs c.s) (Ws ns)=some (ce ns c):=by
 unfold Q0g.F Q0g.e
 simp only [contains_str hn ns hs,Option.bind_some,cond_eq,din_eq,bs_size,empty_eq]
 have e5:∀ a b c d e:Int,Q0m.F n [vi a,vi b,vi c,vi d,vi e]=some (fz [a,b,c,d,e]):=fun a b c d e=>first_eq [a,b,c,d,e] (by simp) hn
 simp only [e5,Option.bind_some]
 rw [bif_ne]
 unfold ce
 have hsz:decide (((c.s.length:Nat):Int) > 256)=decide (c.s.length > 256):=by rw [decide_eq_decide]; omega
 rw [hsz]
 cases h1:ns.contains c.fd
 ·by_cases h0:c.n=0 <;> simp [fz,h0]
 ·by_cases h2:0≤c.op∧c.op≤5
  ·by_cases h3 : -999999999999999≤c.n∧c.n≤999999999999999
   ·by_cases h4:c.s.length > 256
    ·by_cases h0:c.n=0 <;> simp [fz,h0,h2,h3,h4]
    ·by_cases h0:c.n=0 <;> by_cases h5:c.s=[] <;> simp [fz,h0,h2,h3,h4,h5]
   ·by_cases h0:c.n=0 <;> simp [fz,h0,h2,h3]
  ·by_cases h0:c.n=0 <;> simp [fz,h0,h2]
theorem rules_l (hn:1001≤n) (ns:List (List UInt8)) (hs:ns.length≤1000) (rs:List RL) (hr:rs.length≤1000):∀ (d i m:Nat),i+d=rs.length→10*d+1≤m→
  Q16.l n m (.z5 (rs.map RL.av) rs.length i (Ws ns))=some (rErr ns (rs.drop i) i)
 | 0,i,m,h,hm=>by
  obtain ⟨m,rfl⟩ : ∃ q,m=q+1:=⟨m - 1,by omega⟩
  rw [Q16.at5]
  unfold Q16.r5
  rw [cond_f (by omega),List.drop_of_length_le (by omega)]
  rfl
 | d+1,i,m,h,hm=>by
  obtain ⟨m,rfl⟩ : ∃ q,m=q+1:=⟨m - 1,by omega⟩
  have hi:i < rs.length:=by omega
  -- the conditions of a rule
  have inner:∀ (e j q:Nat),rs[i].cs.length≤4→j+e=rs[i].cs.length→10*d+2+e≤q→
    Q16.l n q (.z10 i (rs.map RL.av) rs.length i (rs[i].cs.map CN.av) rs[i].cs.length j (Ws ns))=some (if cErr ns (rs[i].cs.drop j)≠0 then ((i:Int),cErr ns (rs[i].cs.drop j)) else rErr ns (rs.drop (i+1)) (i+1)):=by
   intro e
   induction e with
   | zero=>
    intro j q h4 hj hq
    obtain ⟨q,rfl⟩ : ∃ r,q=r+1:=⟨q - 1,by omega⟩
    rw [Q16.at10]
    unfold Q16.r10
    rw [cond_f (by omega),wsucc (by omega),rules_l hn ns hs rs hr d (i+1) q (by omega) (by omega),List.drop_of_length_le (show rs[i].cs.length≤j by omega)]
    rfl
   | succ e ih=>
    intro j q h4 hj hq
    obtain ⟨q,rfl⟩ : ∃ r,q=r+1:=⟨q - 1,by omega⟩
    have hjl:j < rs[i].cs.length:=by omega
    have ih':=ih (j+1) q h4 (by omega) (by omega)
    rw [Q16.at10]
    unfold Q16.r10
    rw [cond_t (by omega),List.length_map,within_t hjl,cond_true,at_map CN.av hjl,List.drop_eq_getElem_cons hjl]
    show ((Q0g.F n (bs rs[i].cs[j].fd) rs[i].cs[j].op rs[i].cs[j].n (bs rs[i].cs[j].s) (Ws ns)).bind fun p22=>bif p22 != 0 then (some ((i:Int),p22)) else
     Q16.l n q (.z10 i (rs.map RL.av) rs.length i (rs[i].cs.map CN.av) rs[i].cs.length (IntKind.i64.wrap ((j:Int)+1)) (Ws ns)))=_
    rw [condErr_eq hn ns hs,Option.bind_some,bif_ne,wsucc (by omega),ih']
    rw [cErr_cons]
    by_cases h0:ce ns rs[i].cs[j]=0
    ·simp only [h0,ne_eq,not_true_eq_false,if_false]
    ·simp only [h0,ne_eq,not_false_eq_true,if_true]
  rw [Q16.at5]
  unfold Q16.r5
  rw [cond_t (by omega),List.length_map,within_t hi,cond_true,at_map RL.av hi,List.drop_eq_getElem_cons hi]
  show (bif decide ((((rs[i].cs.map CN.av).length:Nat):Int) > 4) then (some ((i:Int),2)) else Q16.l n m (.z10 i (rs.map RL.av) rs.length i (rs[i].cs.map CN.av) (((rs[i].cs.map CN.av).length:Nat):Int) 0 (Ws ns)))=_
  rw [List.length_map]
  rw [rErr_cons]
  unfold re
  by_cases h4:rs[i].cs.length > 4
  ·rw [cond_t (by omega),if_pos h4,if_pos (by decide)]
  ·rw [cond_f (by omega),if_neg h4]
   have:=inner rs[i].cs.length 0 m (by omega) (by omega) (by omega)
   rw [List.drop_zero] at this
   exact this
def rErrT (ns:List (List UInt8)) (rs:List RL):Int × Int:=if rs.length > 8 then (0,2) else rErr ns rs 0
theorem rulesErr_eq (hn:20001≤n) (fs:List LF) (hf:fs.length≤1000) (rs:List RL) (hr:rs.length≤1000) {a2:List AV}:Q16.F n nm fm a2 (fs.map LF.av) a4 a5 uq (rs.map RL.av)=some (rErrT (names fs) rs):=by
 unfold Q16.F Q16.e rErrT
 simp only [List.length_map]
 by_cases h:rs.length > 8
 ·rw [cond_t (by omega),if_pos h]
 ·rw [cond_f (by omega),if_neg h,namesOf_eq (by omega) fs hf,Option.bind_some]
  have:=rules_l (n:=n) (by omega) (names fs) (by simp [names]; omega) rs hr rs.length 0 n (by omega) (by omega)
  rw [List.drop_zero] at this
  exact this
def chkL (nm fm:List UInt8) (ws:List (List UInt8)) (fs:List LF) (js:List JP) (ks:List KF) (uq:Bool) (rs:List RL):Int × Int:=
 if isNm nm=false then (0,7) else if isNm fm=false then (0,7)
 else if (bErrT ws).2≠0 then bErrT ws
 else if (fErrT ws fs).2≠0 then fErrT ws fs
 else if (jErrT ws js).2≠0 then jErrT ws js
 else if (kErrT (names fs) ks).2≠0 then kErrT (names fs) ks
 else if (rErrT (names fs) rs).2≠0 then rErrT (names fs) rs
 else (0,if ws.length > 1∧(rs.length > 0∨uq=true) then 15 else 0)
theorem checkLogical_eq (hn:20010≤n) (nm fm:List UInt8) (ws:List (List UInt8)) (hw:ws.length≤1000) (fs:List LF) (hf:fs.length≤1000) (js:List JP) (hj:js.length≤1000) (ks:List KF) (hk:ks.length≤1000) (uq:Bool) (rs:List RL) (hr:rs.length≤1000) :
  Q04.F n (bs nm) (bs fm) (Ws ws) (fs.map LF.av) (js.map JP.av) (ks.map KF.av) uq (rs.map RL.av)=some (chkL nm fm ws fs js ks uq rs):=by
 have hnl:(names fs).length≤1000:=by simp [names]; omega
 -- behind a part
 have h7:∀ (m:Nat) (p:Int × Int) (i:Nat),i≤5→Q04.l n (m+1) (.z7 p.1 p.2 5 i (bs nm) (bs fm) (Ws ws) (fs.map LF.av) (js.map JP.av) (ks.map KF.av) uq (rs.map RL.av)) =
   if p.2≠0 then some p else Q04.l n m (.z4 5 ((i+1:Nat):Int) (bs nm) (bs fm) (Ws ws) (fs.map LF.av) (js.map JP.av) (ks.map KF.av) uq (rs.map RL.av)):=by
  intro m p i hi
  rw [Q04.at7]
  unfold Q04.r7
  rw [bif_ne,wsucc (by omega)]
 have h5:∀ m,Q04.l n (m+1) (.z4 5 ((5:Nat):Int) (bs nm) (bs fm) (Ws ws) (fs.map LF.av) (js.map JP.av) (ks.map KF.av) uq (rs.map RL.av))=some (0,if ws.length > 1∧(rs.length > 0∨uq=true) then 15 else 0):=by
  intro m
  rw [Q04.at4]
  unfold Q04.r4
  simp only [Ws_length,List.length_map,cond_eq,Option.bind_some]
  rw [cond_f (by omega)]
  by_cases h1:ws.length > 1
  ·rw [cond_t (by omega)]
   by_cases h2:rs.length > 0
   ·rw [cond_t (by omega)]; simp [h1,h2]
   ·rw [cond_f (by omega)]; simp [h1,h2]
  ·rw [cond_f (by omega)]; simp [h1]
 have h4:∀ m,Q04.l n (m+4) (.z4 5 ((4:Nat):Int) (bs nm) (bs fm) (Ws ws) (fs.map LF.av) (js.map JP.av) (ks.map KF.av) uq (rs.map RL.av))=if (rErrT (names fs) rs).2≠0 then some (rErrT (names fs) rs) else some (0,if ws.length > 1∧(rs.length > 0∨uq=true) then 15 else 0):=by
  intro m
  rw [Q04.at4]
  unfold Q04.r4
  rw [cond_t (by omega),cond_t (by omega),Q04.at6]
  unfold Q04.r6
  rw [rulesErr_eq (by omega) fs hf rs hr,Option.bind_some,h7 _ _ 4 (by omega),h5]
 have h3:∀ m,Q04.l n (m+7) (.z4 5 ((3:Nat):Int) (bs nm) (bs fm) (Ws ws) (fs.map LF.av) (js.map JP.av) (ks.map KF.av) uq (rs.map RL.av))=if (kErrT (names fs) ks).2≠0 then some (kErrT (names fs) ks) else
   if (rErrT (names fs) rs).2≠0 then some (rErrT (names fs) rs) else some (0,if ws.length > 1∧(rs.length > 0∨uq=true) then 15 else 0):=by
  intro m
  rw [Q04.at4]
  unfold Q04.r4
  rw [cond_t (by omega),cond_f (by omega),cond_t (by omega),Q04.at6x1]
  unfold Q04.r6x1 Q05.F Q05.e
  rw [namesOf_eq (by omega) fs hf,Option.bind_some,keysErr_eq (by omega) _ hnl ks hk,Option.bind_some,Option.bind_some,h7 _ _ 3 (by omega),h4]
 have h2:1≤ws.length→∀ m,Q04.l n (m+10) (.z4 5 ((2:Nat):Int) (bs nm) (bs fm) (Ws ws) (fs.map LF.av) (js.map JP.av) (ks.map KF.av) uq (rs.map RL.av))=if (jErrT ws js).2≠0 then some (jErrT ws js) else
   if (kErrT (names fs) ks).2≠0 then some (kErrT (names fs) ks) else if (rErrT (names fs) rs).2≠0 then some (rErrT (names fs) rs) else some (0,if ws.length > 1∧(rs.length > 0∨uq=true) then 15 else 0):=by
  intro h1 m
  rw [Q04.at4]
  unfold Q04.r4
  rw [cond_t (by omega),cond_f (by omega),cond_f (by omega),cond_t (by omega),Q04.at6x2]
  unfold Q04.r6x2
  rw [joins_eq (by omega) ws ⟨h1,hw⟩ js hj,Option.bind_some,h7 _ _ 2 (by omega),h3]
 have h1:1≤ws.length→∀ m,Q04.l n (m+13) (.z4 5 ((1:Nat):Int) (bs nm) (bs fm) (Ws ws) (fs.map LF.av) (js.map JP.av) (ks.map KF.av) uq (rs.map RL.av))=if (fErrT ws fs).2≠0 then some (fErrT ws fs) else if (jErrT ws js).2≠0 then some (jErrT ws js) else
   if (kErrT (names fs) ks).2≠0 then some (kErrT (names fs) ks) else if (rErrT (names fs) rs).2≠0 then some (rErrT (names fs) rs) else some (0,if ws.length > 1∧(rs.length > 0∨uq=true) then 15 else 0):=by
  intro h1 m
  rw [Q04.at4]
  unfold Q04.r4
  rw [cond_t (by omega),cond_f (by omega),cond_f (by omega),cond_f (by omega),cond_t (by omega),Q04.at6x3]
  unfold Q04.r6x3
  rw [fieldsErr_eq (by omega) ws hw fs hf,Option.bind_some,h7 _ _ 1 (by omega),h2 h1]
 unfold Q04.F Q04.e chkL
 rw [isName_eq (by omega),Option.bind_some,isName_eq (by omega),Option.bind_some]
 cases hnm:isNm nm with
 | false=>rfl
 | true=>
  cases hfm:isNm fm with
  | false=>rfl
  | true=>
   simp only [Bool.not_true,cond_false,Bool.true_eq_false,if_false]
   obtain ⟨m,rfl⟩ : ∃ m,n=m+16:=⟨n - 16,by omega⟩
   rw [show (0:Int)=((0:Nat):Int) from rfl,Q04.at4]
   unfold Q04.r4
   rw [cond_t (by omega),cond_f (by omega),cond_f (by omega),cond_f (by omega),cond_f (by omega),cond_t (by omega),Q04.at6x4]
   unfold Q04.r6x4
   rw [basesErr_eq (by omega) ws hw,Option.bind_some,h7 _ _ 0 (by omega)]
   by_cases hb:(bErrT ws).2=0
   ·have hlen:1≤ws.length:=by
     unfold bErrT at hb
     by_cases h0:ws.length=0
     ·rw [if_pos h0] at hb; cases hb
     ·omega
    rw [if_neg (by simp [hb]),if_neg (by simp [hb]),h1 hlen]
    simp only [some_ite,if_false]
    rfl
   ·rw [if_pos hb]
    show _=some (if (bErrT ws).2≠0 then _ else _)
    rw [if_pos hb]
end
end Go.Proofs.YtmpglmcjoelciaaGreatDoor.Ev
namespace Go.Proofs.YtmpglmcjoelciaaGreatDoor.Ev
open Go Go.Proofs Go.Proofs.Ev
set_option linter.unusedVariables false
section
variable {n:Nat} {nm fm:ByteArray} {a2 a3 a4 a5 a7:List AV} {uq:Bool}
theorem ixs_ge:∀ (ws:List (List UInt8)) (s:List UInt8) (i:Nat),-1≤ixs ws s i
 | [],_,_=>by simp [ixs]
 | w::r,s,i=>by
  unfold ixs
  split
  ·omega
  ·exact ixs_ge r s (i+1)
theorem ixs_none (ws:List (List UInt8)) (s:List UInt8):(ixs ws s 0==-1)=!ws.contains s:=by
 have h1:=ixs_has ws s 0
 have h2:=ixs_ge ws s 0
 rw [← h1,beq_int]
 by_cases h:ixs ws s 0≥0
 ·have:¬ ixs ws s 0=-1:=by omega
  simp [h,this]
 ·have:ixs ws s 0=-1:=by omega
  simp [this]
end
end Go.Proofs.YtmpglmcjoelciaaGreatDoor.Ev
end
