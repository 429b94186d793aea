import Derived.Test.YtnoldakbllfmnaaGreatDoorDUb
noncomputable section
namespace Go.Proofs.YtnoldakbllfmnaaGreatDoor.Ev
open Go Go.Proofs Go.Proofs.Ev
set_option linter.unusedVariables false
set_option linter.unusedSimpArgs false
def cls (op:Int):List Int:=
 if op=0 then [0,4] else if op=1 then [2,3] else if op=2∨op=3∨op=4∨op=5∨op=6 then [2,3,3] else if op=7∨op=8 then [1,4,6] else if op=9∨op=13 then [6] else if op=10 then [5,0]
 else if op=11 then [5,5] else if op=12 then [5,3] else if op=15 then [3] else if op=16 then [2] else if op=17 then [1] else []
theorem op_cases {op:Int} (h:0≤op∧op≤18):op=0∨op=1∨op=2∨op=3∨op=4∨op=5∨op=6∨op=7∨op=8∨op=9∨op=10∨op=11∨op=12∨op=13∨op=14∨op=15∨op=16∨op=17∨op=18:=by omega
theorem cls_range {op:Int} (h:0≤op∧op≤18):∀ c∈cls op,0≤c∧c≤6:=by
 rcases op_cases h with rfl | rfl | rfl | rfl | rfl | rfl | rfl | rfl | rfl | rfl | rfl | rfl | rfl | rfl | rfl | rfl | rfl | rfl | rfl <;> decide
theorem cls_len {op:Int} (h:0≤op∧op≤18):(cls op).length≤3:=by
 rcases op_cases h with rfl | rfl | rfl | rfl | rfl | rfl | rfl | rfl | rfl | rfl | rfl | rfl | rfl | rfl | rfl | rfl | rfl | rfl | rfl <;> decide
theorem cls_alike {op:Int} (h:0≤op∧op≤18) (i:Nat) (hi:(cls op)[i]?=some 4):i=1∧((cls op)[0]?=some 0∨(cls op)[0]?=some 1):=by
 have hl:=cls_len h
 have hlt:i < 3:=by have:=(List.getElem?_eq_some_iff.1 hi).1; omega
 have hi3:i=0∨i=1∨i=2:=by omega
 revert hi
 rcases op_cases h with rfl | rfl | rfl | rfl | rfl | rfl | rfl | rfl | rfl | rfl | rfl | rfl | rfl | rfl | rfl | rfl | rfl | rfl | rfl <;> rcases hi3 with rfl | rfl | rfl <;> decide
def fitX (o b:OP) (c:Int):Bool:=
 if c=5 then decide (o.kd=3) else if c=6 then decide (o.kd=5)
 else isDt o.kd&&(!(decide (c=0∨c=2)&&decide (o.kd=4))&&(!(decide (c=2∨c=3)&&decide (o.k=0))&&!(decide (c=4)&&(decide (o.k=0) != decide (b.k=0)))))
theorem fit_dt {o b:OP} {c:Int} (hc:c=0∨c=1) (h:fitX o b c=true):isDt o.kd=true:=by
 cases hd:isDt o.kd with
 | true=>rfl
 | false=>rcases hc with rfl | rfl <;> simp [fitX,hd] at h
section
variable {n:Nat}
theorem pNum_eq (n:Nat) (a0:ByteArray) (a1 a2 a3 a4 a5:Int) (a6 a7:ByteArray) (a8 a9:Int):Q2j.F n a0 a1 a2 a3 a4 a5 a6 a7 a8 a9=some (!decide (a2=0)):=rfl
theorem fits_eq (hn:1001≤n) (o b:OP) (c:Int) (hc:0≤c∧c≤6):Q2d.F n (bs o.nm) o.kd o.k o.l o.s o.vn (bs o.vx) (bs o.ba) o.of o.tg (bs b.nm) b.kd b.k b.l b.s b.vn (bs b.vx) (bs b.ba) b.of b.tg c=some (fitX o b c):=by
 obtain ⟨m,rfl⟩ : ∃ m,n=m+1:=⟨n - 1,by omega⟩
 unfold Q2d.F Q2d.e
 simp only [Q2d.at8]
 unfold Q2d.r8 fitX
 simp only [pData_eq,pNum_eq,Option.bind_some,bif_eq0]
 have hd:c=0∨c=1∨c=2∨c=3∨c=4∨c=5∨c=6:=by omega
 rcases hd with rfl | rfl | rfl | rfl | rfl | rfl | rfl <;> cases isDt o.kd <;> by_cases h4:o.kd=4 <;> by_cases h0:o.k=0 <;> by_cases hb:b.k=0 <;> simp [h4,h0,hb,beq_int]
def inE (os:List OP):List Int→List Int→OP→Int
 | c::cs,a::ar,b=>if ¬ (0≤a∧a≤(os.length:Int) - 1) then 3 else if fitX (os.getD a.toNat zOP) b c=false then 17 else inE os cs ar (os.getD a.toNat zOP)
 | _,_,_=>0
def insX (os:List OP) (x:IN):Int:=if ¬ (0≤x.op∧x.op≤18) then 4 else if x.ar.length≠(cls x.op).length then 37 else inE os (cls x.op) x.ar zOP
theorem chop_ops {op:Int} (h:0≤op∧op≤18):∃ r,chop (op.toNat*1) [.sl ⟨true,3,false⟩ 1 gr0,.sl ⟨true,3,false⟩ 1 gr1,.sl ⟨true,3,false⟩ 1 gr2,.sl ⟨true,3,false⟩ 1 gr3,.sl ⟨true,3,false⟩ 1 gr4,.sl ⟨true,3,false⟩ 1 gr5,.sl ⟨true,3,false⟩ 1 gr6,.sl ⟨true,3,false⟩ 1 gr7,.sl ⟨true,3,false⟩ 1 gr8,.sl ⟨true,3,false⟩ 1 gr9,.sl ⟨true,3,false⟩ 1 gr10,.sl ⟨true,3,false⟩ 1 gr11,.sl ⟨true,3,false⟩ 1 gr12,.sl ⟨true,3,false⟩ 1 gr13,.sl ⟨true,3,false⟩ 1 gr14,.sl ⟨true,3,false⟩ 1 gr15,.sl ⟨true,3,false⟩ 1 gr16,.sl ⟨true,3,false⟩ 1 gr17,.sl ⟨true,3,false⟩ 1 gr18]=.sl ⟨true,3,false⟩ 1 ((cls op).map vi)::r:=by
 rcases op_cases h with rfl | rfl | rfl | rfl | rfl | rfl | rfl | rfl | rfl | rfl | rfl | rfl | rfl | rfl | rfl | rfl | rfl | rfl | rfl <;> exact ⟨_,rfl⟩
theorem op19 {op:Int} (h:0≤op∧op≤18):(decide ((0:Int)≤op)&&decide (op < ((19:Nat):Int)))=true:=by
 rw [Bool.and_eq_true,decide_eq_true_eq,decide_eq_true_eq]; omega
theorem getD_av {os:List OP} {a:Int} (h:0≤a∧a≤(os.length:Int) - 1):(os.map OP.av).getD a.toNat AV.undef=(os.getD a.toNat zOP).av:=by
 have:a.toNat < os.length:=by omega
 simp [List.getD_eq_getElem?_getD,this]
theorem rng {len:Nat} {a:Int} (h:0≤a∧a≤(len:Int) - 1):(decide ((0:Int)≤a)&&decide (a < ((len:Nat):Int)))=true:=by
 rw [Bool.and_eq_true,decide_eq_true_eq,decide_eq_true_eq]; omega
theorem ins_l (hn:1001≤n) (os:List OP) (ho:os.length≤1000) (is:List AV) (ms:List AV) (op:Int) (hop:0≤op∧op≤18) (ar:List Int) (har:ar.length=(cls op).length):∀ (d i m:Nat) (b:OP),i+d=ar.length→d < m→
  Q2f.l n m (.z7 (ar.map vi) ar.length i (os.map OP.av) is ms op (ar.map vi) (bs b.nm) b.kd b.k b.l b.s b.vn (bs b.vx) (bs b.ba) b.of b.tg)=some (inE os ((cls op).drop i) (ar.drop i) b)
 | _,_,0,_,_,h=>absurd h (by omega)
 | 0,i,m+1,b,h,_=>by
  rw [Q2f.at7]
  unfold Q2f.r7
  rw [cond_f (by omega),List.drop_of_length_le (by omega),List.drop_of_length_le (by omega)]
  rfl
 | d+1,i,m+1,b,h,hm=>by
  have hi:i < ar.length:=by omega
  have hic:i < (cls op).length:=by omega
  have hl3:=cls_len hop
  have ih:=fun b=>ins_l hn os ho is ms op hop ar har d (i+1) m b (by omega) (by omega)
  obtain ⟨r,hr⟩:=chop_ops hop
  rw [Q2f.at7]
  unfold Q2f.r7
  rw [hr,List.drop_eq_getElem_cons hi,List.drop_eq_getElem_cons hic]
  unfold inE
  simp (disch:=omega) only [Option.bind_some,Option.bind_none,cond_true,cond_false,Bool.not_true,Bool.not_false,List.length_map,Ws_length,bs_size,within_t,upto_t,wsucc,Int.toNat_natCast,at_mapN,Ws_getDN,cells_agg,cells_v,withCons_cons,withInt_mk,withStr_mk,withBool_mk,withSl_mk,cond_t,cond_f,pin_eq]
  rw [w64 (by omega) (by omega)]
  by_cases hr:0≤ar[i]∧ar[i]≤(os.length:Int) - 1
  ·rw [if_neg (not_not_intro hr),decide_eq_true hr,Bool.not_true,cond_false,bif_none (rng hr),getD_av hr]
   simp only [op19 hop,rng hr,cond_true]
   simp (disch:=omega) only [Option.bind_some,Option.bind_none,cond_true,cond_false,Bool.not_true,Bool.not_false,List.length_map,Ws_length,bs_size,within_t,upto_t,wsucc,Int.toNat_natCast,at_mapN,Ws_getDN,cells_agg,cells_v,withCons_cons,withInt_mk,withStr_mk,withBool_mk,withSl_mk,cond_t,cond_f,OP.av,fits_eq hn (os.getD ar[i].toNat zOP) b _ (cls_range hop _ (List.getElem_mem hic))]
   rw [bif_not]
   cases hf:fitX (os.getD ar[i].toNat zOP) b (cls op)[i] with
   | false=>rfl
   | true=>
    rw [if_neg (by simp),if_neg (by simp)]
    exact ih _
  ·rw [if_pos hr,show decide (0≤ar[i]∧ar[i]≤(os.length:Int) - 1)=false by rw [decide_eq_false_iff_not]; exact hr]
   rfl
theorem insErr_eq (hn:1001≤n) (os:List OP) (ho:os.length≤1000) (is ms:List AV) (x:IN) (hx:x.ar.length≤1000):Q2f.F n (os.map OP.av) is ms x.op (x.ar.map vi)=some (insX os x):=by
 unfold Q2f.F Q2f.e insX
 rw [pin_eq,Option.bind_some,bif_not]
 by_cases hop:0≤x.op∧x.op≤18
 ·obtain ⟨r,hr⟩:=chop_ops hop
  rw [if_neg (by simpa using hop),if_neg (not_not_intro hop),bif_none (op19 hop),hr]
  simp (disch:=omega) only [Option.bind_some,Option.bind_none,cond_true,cond_false,Bool.not_true,Bool.not_false,List.length_map,Ws_length,bs_size,within_t,upto_t,wsucc,Int.toNat_natCast,at_mapN,Ws_getDN,cells_agg,cells_v,withCons_cons,withInt_mk,withStr_mk,withBool_mk,withSl_mk,cond_t,cond_f]
  rw [bifne]
  by_cases hl:x.ar.length=(cls x.op).length
  ·rw [if_pos (by omega),if_neg (by simpa using hl)]
   have h:=ins_l hn os ho is ms x.op hop x.ar hl x.ar.length 0 n zOP (by omega) (by have:=cls_len hop; omega)
   rw [List.drop_zero,List.drop_zero] at h
   exact h
  ·rw [if_neg (by omega),if_pos hl]
 ·rw [if_pos (by simpa using hop),if_pos hop]
def role (c:Int):Int:=if c=1 then 2 else if c=2 then 1 else c
theorem roles_eq (hn:1001≤n) {op:Int} (h:0≤op∧op≤18):Q1h.F n op=some ((cls op).map fun c=>vi (role c)):=by
 obtain ⟨m,rfl⟩ : ∃ m,n=m+1:=⟨n - 1,by omega⟩
 unfold Q1h.F Q1h.e
 simp only [Q1h.at11]
 unfold Q1h.r11
 rcases op_cases h with rfl | rfl | rfl | rfl | rfl | rfl | rfl | rfl | rfl | rfl | rfl | rfl | rfl | rfl | rfl | rfl | rfl | rfl | rfl <;> rfl
def ok4 (os:List OP):Prop:=∀ o∈os,isDt o.kd=true→chkT o.k o.l o.s=0∧o.k≠4
theorem rNum_eq (n:Nat) (o:OP) (h:isDt o.kd=true→chkT o.k o.l o.s=0∧o.k≠4) (hd:isDt o.kd=true):Q1c.F n (bs o.nm) o.kd o.k o.l o.s o.vn (bs o.vx) (bs o.ba) o.of o.tg=some (!decide (o.k=0)):=by
 unfold Q1c.F Q1c.e Q0s.F Q0s.e
 rw [Within_eq,Option.bind_some,Option.bind_some]
 have h1:=chkT_cases (h hd).1
 have h2:=(h hd).2
 congr 1
 by_cases h0:o.k=0
 ·simp [h0]
 ·have:1≤o.k∧o.k≤3:=by omega
  simp [h0,this]
theorem insR_l (hn:1001≤n) (os:List OP) (ho:os.length≤1000) (hok:ok4 os) (is:List AV) (ms:List AV) (op:Int) (hop:0≤op∧op≤18) (ar:List Int) (har:ar.length=(cls op).length):∀ (d i m:Nat) (b:OP),i+d=ar.length→3*d < m→
  (1≤i→∃ a,ar[i - 1]?=some a∧(0≤a∧a≤(os.length:Int) - 1)∧b=os.getD a.toNat zOP∧(((cls op)[i - 1]?=some 0∨(cls op)[i - 1]?=some 1)→isDt b.kd=true))→
  Q1b.l n m (.z7 i (os.map OP.av) is ms op (ar.map vi) ((cls op).map fun c=>vi (role c)))=some (inE os ((cls op).drop i) (ar.drop i) b)
 | _,_,0,_,_,h,_=>absurd h (by omega)
 | 0,i,m+1,b,h,_,_=>by
  rw [Q1b.at7]
  unfold Q1b.r7
  simp only [List.length_map]
  rw [cond_f (by omega),List.drop_of_length_le (by omega),List.drop_of_length_le (by omega)]
  rfl
 | d+1,i,m+1,b,h,hm,hb=>by
  obtain ⟨m,rfl⟩ : ∃ q,m=q+2:=⟨m - 2,by omega⟩
  have hi:i < ar.length:=by omega
  have hic:i < (cls op).length:=by omega
  have hl3:=cls_len hop
  have ih:=fun b=>insR_l hn os ho hok is ms op hop ar har d (i+1) m b (by omega) (by omega)
  rw [Q1b.at7]
  unfold Q1b.r7
  rw [List.drop_eq_getElem_cons hi,List.drop_eq_getElem_cons hic]
  unfold inE
  simp (disch:=omega) only [Option.bind_some,Option.bind_none,cond_true,cond_false,Bool.not_true,Bool.not_false,List.length_map,Ws_length,bs_size,within_t,upto_t,wsucc,Int.toNat_natCast,at_mapN,Ws_getDN,cells_agg,cells_v,withCons_cons,withInt_mk,withStr_mk,withBool_mk,withSl_mk,cond_t,cond_f,Within_eq]
  rw [w64 (by omega) (by omega)]
  by_cases hr:0≤ar[i]∧ar[i]≤(os.length:Int) - 1
  ·have hmem:os.getD ar[i].toNat zOP∈os:=by
    have:ar[i].toNat < os.length:=by omega
    rw [List.getD_eq_getElem?_getD,List.getElem?_eq_getElem this,Option.getD_some]
    exact List.getElem_mem this
   have h28:∀ z,(z=fitX (os.getD ar[i].toNat zOP) b (cls op)[i])→Q1b.l n (m+2) (.z28 i z (os.map OP.av) is ms op (ar.map vi) ((cls op).map fun c=>vi (role c)))=some (if fitX (os.getD ar[i].toNat zOP) b (cls op)[i]=false then 17 else inE os ((cls op).drop (i+1)) (ar.drop (i+1)) (os.getD ar[i].toNat zOP)):=by
    rintro z rfl
    rw [Q1b.at28]
    unfold Q1b.r28
    rw [bif_not]
    cases hf:fitX (os.getD ar[i].toNat zOP) b (cls op)[i] with
    | false=>rfl
    | true=>
     rw [if_neg (by simp),if_neg (by simp),Q1b.at8]
     unfold Q1b.r8
     rw [wsucc (by omega)]
     refine ih _ fun _=>⟨ar[i],by simp,hr,rfl,fun hc=>?_⟩
     rw [Nat.add_sub_cancel,List.getElem?_eq_getElem hic] at hc
     exact fit_dt (by rcases hc with hc | hc; exact .inl (Option.some.inj hc); exact .inr (Option.some.inj hc)) hf
   rw [if_neg (not_not_intro hr),decide_eq_true hr,Bool.not_true,cond_false,bif_none (rng hr),getD_av hr]
   have hnum:isDt (os.getD ar[i].toNat zOP).kd=true→Q1c.F n (bs (os.getD ar[i].toNat zOP).nm) (os.getD ar[i].toNat zOP).kd (os.getD ar[i].toNat zOP).k (os.getD ar[i].toNat zOP).l (os.getD ar[i].toNat zOP).s (os.getD ar[i].toNat zOP).vn (bs (os.getD ar[i].toNat zOP).vx) (bs (os.getD ar[i].toNat zOP).ba) (os.getD ar[i].toNat zOP).of (os.getD ar[i].toNat zOP).tg=some (!decide ((os.getD ar[i].toNat zOP).k=0)):=rNum_eq n _ (hok _ hmem)
   have hcr:=cls_range hop _ (List.getElem_mem hic)
   have hcd:(cls op)[i]=0∨(cls op)[i]=1∨(cls op)[i]=2∨(cls op)[i]=3∨(cls op)[i]=4∨(cls op)[i]=5∨(cls op)[i]=6:=by omega
   generalize hO:os.getD ar[i].toNat zOP=O at *
   have gl:(decide ((0:Int)≤(i:Int))&&decide ((i:Int) < (((cls op).length:Nat):Int)))=true:=within_t hic
   simp only [OP.av,cells_agg,cells_v,withCons_cons,withInt_mk,withStr_mk,gl,cond_true,Int.toNat_natCast,at_mapN (fun c=>vi (role c)) hic,bif_eq0]
   have hdt:isDt O.kd=decide (O.kd=0∨O.kd=1∨O.kd=2∨O.kd=4):=rfl
   rcases hcd with hc | hc | hc | hc | hc | hc | hc
   ·rw [show role (cls op)[i]=0 by rw [hc]; rfl,if_pos rfl,rScalar_eq,Option.bind_some]
    refine h28 _ ?_
    rw [hc]
    unfold fitX
    rw [hdt]
    by_cases h0:O.kd=0 <;> by_cases h1:O.kd=1 <;> by_cases h2:O.kd=2 <;> by_cases h4:O.kd=4 <;> simp [h0,h1,h2,h4]
   ·rw [show role (cls op)[i]=2 by rw [hc]; rfl,if_neg (by decide),if_neg (by decide),if_pos rfl,rData_eq,Option.bind_some]
    refine h28 _ ?_
    rw [hc]
    simp [fitX]
   ·rw [show role (cls op)[i]=1 by rw [hc]; rfl,if_neg (by decide),if_pos rfl,rScalar_eq,Option.bind_some]
    by_cases hs:O.kd=0∨O.kd=1∨O.kd=2
    ·have hd:isDt O.kd=true:=by rw [hdt,decide_eq_true_eq]; omega
     rw [cond_t hs,hnum hd,Option.bind_some]
     refine h28 _ ?_
     rw [hc]
     have h4:¬ O.kd=4:=by omega
     simp [fitX,hd,h4]
    ·rw [cond_f hs]
     refine h28 _ ?_
     rw [hc]
     by_cases h4:O.kd=4
     ·simp [fitX,h4]
     ·have hd:isDt O.kd=false:=by rw [hdt,decide_eq_false_iff_not]; omega
      simp [fitX,hd]
   ·rw [show role (cls op)[i]=3 by rw [hc]; rfl,if_neg (by decide),if_neg (by decide),if_neg (by decide),if_pos rfl,rData_eq,Option.bind_some]
    cases hd:isDt O.kd with
    | true=>
     rw [cond_true,hnum hd,Option.bind_some]
     refine h28 _ ?_
     rw [hc]
     simp [fitX,hd]
    | false=>
     rw [cond_false]
     refine h28 _ ?_
     rw [hc]
     simp [fitX,hd]
   ·rw [show role (cls op)[i]=4 by rw [hc]; rfl,if_neg (by decide),if_neg (by decide),if_neg (by decide),if_neg (by decide),if_pos rfl,rData_eq,Option.bind_some]
    obtain ⟨i1,hp⟩:=cls_alike hop i (by rw [List.getElem?_eq_getElem hic,hc])
    obtain ⟨a',ha1,ha2,ha3,ha4⟩:=hb (by omega)
    have hbd:=ha4 (by rw [i1]; exact hp)
    have hbm:b∈os:=by
     have:a'.toNat < os.length:=by omega
     rw [ha3,List.getD_eq_getElem?_getD,List.getElem?_eq_getElem this,Option.getD_some]
     exact List.getElem_mem this
    cases hd:isDt O.kd with
    | true=>
     have hlt0:0 < ar.length:=by omega
     have hw:IntKind.i64.wrap ((i:Int) - 1)=((0:Nat):Int):=by rw [i1,w64 (by omega) (by omega)]; rfl
     have hg:(ar.map vi).getD 0 AV.undef=vi a':=by
      rw [i1] at ha1
      rw [List.getD_eq_getElem?_getD,List.getElem?_map,show ar[0]?=some a' from ha1]
      rfl
     rw [cond_true,hnum hd,Option.bind_some,hw,within_t hlt0,cond_true,Int.toNat_natCast,hg]
     simp only [cells_v,withCons_cons,withInt_mk]
     rw [bif_none (rng ha2),getD_av ha2,← ha3]
     simp only [OP.av,cells_agg,cells_v,withCons_cons,withInt_mk,withStr_mk]
     rw [rNum_eq n b (hok b hbm) hbd,Option.bind_some]
     refine h28 _ ?_
     rw [hc]
     by_cases k1:O.k=0 <;> by_cases k2:b.k=0 <;> simp [fitX,hd,k1,k2]
    | false=>
     rw [cond_false]
     refine h28 _ ?_
     rw [hc]
     simp [fitX,hd]
   ·rw [show role (cls op)[i]=5 by rw [hc]; rfl,if_neg (by decide),if_neg (by decide),if_neg (by decide),if_neg (by decide),if_neg (by decide),if_pos rfl]
    refine h28 _ ?_
    rw [hc]
    simp [fitX,beq_int]
   ·rw [show role (cls op)[i]=6 by rw [hc]; rfl,if_neg (by decide),if_neg (by decide),if_neg (by decide),if_neg (by decide),if_neg (by decide),if_neg (by decide),if_pos rfl]
    refine h28 _ ?_
    rw [hc]
    simp [fitX,beq_int]
  ·rw [if_pos hr,show decide (0≤ar[i]∧ar[i]≤(os.length:Int) - 1)=false by rw [decide_eq_false_iff_not]; exact hr]
   rfl
theorem insErrR_eq (hn:1001≤n) (os:List OP) (ho:os.length≤1000) (hok:ok4 os) (is ms:List AV) (x:IN) (hx:x.ar.length≤1000):Q1b.F n (os.map OP.av) is ms x.op (x.ar.map vi)=some (insX os x):=by
 unfold Q1b.F Q1b.e insX
 rw [Within_eq,Option.bind_some,bif_not]
 by_cases hop:0≤x.op∧x.op≤18
 ·rw [if_neg (by simpa using hop),if_neg (not_not_intro hop),roles_eq hn hop,Option.bind_some]
  simp only [List.length_map]
  rw [bifne]
  by_cases hl:x.ar.length=(cls x.op).length
  ·rw [if_pos (by omega),if_neg (by simpa using hl)]
   have h:=insR_l hn os ho hok is ms x.op hop x.ar hl x.ar.length 0 n zOP (by omega) (by have:=cls_len hop; omega) (fun h=>by omega)
   rw [List.drop_zero,List.drop_zero] at h
   exact h
  ·rw [if_neg (by omega),if_pos hl]
 ·rw [if_pos (by simpa using hop),if_pos hop]
def monX (nI:Nat) (m:MN):Int:=if 0≤m.fr∧m.fr < m.tt∧m.tt≤(nI:Int)∧(0≤m.ex∧m.ex≤999)∧(0≤m.hd∧m.hd≤(nI:Int) - 1) then 0 else 3
theorem monErr_eq (hn:1001≤n) (os:List AV) (is:List IN) (hi' : is.length≤1000) (ms:List AV) (x:MN):Q2o.F n os (is.map IN.av) ms x.fr x.tt x.ex x.hd=some (monX is.length x):=by
 obtain ⟨m,rfl⟩ : ∃ m,n=m+1:=⟨n - 1,by omega⟩
 unfold Q2o.F Q2o.e monX
 simp only [Q2o.at3]
 unfold Q2o.r3
 simp only [pin_eq,cond_eq,Option.bind_some,List.length_map,ge_iff_le]
 rw [w64 (by omega) (by omega)]
 by_cases h1:0≤x.fr <;> by_cases h2:x.fr < x.tt <;> by_cases h3:x.tt≤(is.length:Int) <;> by_cases h4:0≤x.ex∧x.ex≤999 <;> by_cases h5:0≤x.hd∧x.hd≤(is.length:Int) - 1 <;> simp [h1,h2,h3,h4,h5]
end
end Go.Proofs.YtnoldakbllfmnaaGreatDoor.Ev
namespace Go.Proofs.YtnoldakbllfmnaaGreatDoor.Ev
open Go Go.Proofs Go.Proofs.Ev
set_option linter.unusedVariables false
set_option linter.unusedSimpArgs false
def opsE (nI:Nat):List OP→List OP→Int × Int
 | _,[]=>(0,0)
 | b,o::r=>if opE b o nI≠0 then ((b.length:Int),opE b o nI) else opsE nI (b++[o]) r
def insE (os:List OP):List IN→Nat→Int × Int
 | [],_=>(0,0)
 | x::r,i=>if insX os x≠0 then ((i:Int),insX os x) else insE os r (i+1)
def mosE (nI:Nat):List MN→Nat→Int × Int
 | [],_=>(0,0)
 | x::r,i=>if monX nI x≠0 then ((i:Int),monX nI x) else mosE nI r (i+1)
def check3 (nI:Nat) (ms:List MN):Int × Int × Int:=if (mosE nI ms 0).2≠0 then (3,(mosE nI ms 0).1,(mosE nI ms 0).2) else (0,0,0)
def check2 (os:List OP) (is:List IN) (ms:List MN):Int × Int × Int:=if (insE os is 0).2≠0 then (2,(insE os is 0).1,(insE os is 0).2) else check3 is.length ms
def checkX (os:List OP) (is:List IN) (ms:List MN):Int × Int × Int:=
 if os.length > 24∨is.length > 40∨ms.length > 6 then (0,0,2) else if is.length=0 then (0,0,1)
 else if (opsE is.length [] os).2≠0 then (1,(opsE is.length [] os).1,(opsE is.length [] os).2) else if (layX os).2 > 24 then (0,0,30) else check2 os is ms
theorem opsE_cons (nI:Nat) (b r:List OP) (o:OP):opsE nI b (o::r)=if opE b o nI≠0 then ((b.length:Int),opE b o nI) else opsE nI (b++[o]) r:=rfl
theorem insE_cons (os:List OP) (x:IN) (r:List IN) (i:Nat):insE os (x::r) i=if insX os x≠0 then ((i:Int),insX os x) else insE os r (i+1):=rfl
theorem mosE_cons (nI:Nat) (x:MN) (r:List MN) (i:Nat):mosE nI (x::r) i=if monX nI x≠0 then ((i:Int),monX nI x) else mosE nI r (i+1):=rfl
theorem opE_ok {b:List OP} {o:OP} {nI:Nat} (h:opE b o nI=0):(isDt o.kd=true→chkT o.k o.l o.s=0∧o.k≠4)∧(o.kd=1→(onames b).contains o.ba=true):=by
 unfold opE at h
 split at h
 ·cases h
 split at h
 ·cases h
 split at h
 ·cases h
 split at h
 ·cases h
 split at h
 ·rename_i h5; exact absurd h h5.2
 split at h
 ·cases h
 rename_i h5 h6
 refine ⟨fun hd=>⟨?_,fun h4=>h6 ⟨hd,h4⟩⟩,fun h1=>?_⟩
 ·by_cases hc:chkT o.k o.l o.s=0
  ·exact hc
  ·exact absurd ⟨hd,hc⟩ h5
 ·rw [if_neg (by omega),if_pos (.inl h1)] at h
  unfold baE at h
  cases hc:(onames b).contains o.ba with
  | true=>rfl
  | false=>rw [if_pos hc] at h; cases h
theorem opsE_ok {nI:Nat}:∀ (r b:List OP),(opsE nI b r).2=0→ok4 b→(∀ o∈b,o.kd=1→(onames b).contains o.ba=true)→ok4 (b++r)∧∀ o∈b++r,o.kd=1→(onames (b++r)).contains o.ba=true
 | [],b,_,h1,h2=>by rw [List.append_nil]; exact ⟨h1,h2⟩
 | o::r,b,h,h1,h2=>by
  rw [opsE_cons] at h
  by_cases h0:opE b o nI=0
  ·rw [if_neg (not_not_intro h0)] at h
   obtain ⟨k1,k2⟩:=opE_ok h0
   have:=opsE_ok r (b++[o]) h (fun x hx=>by
    rcases List.mem_append.1 hx with hx | hx
    ·exact h1 x hx
    ·rw [List.mem_singleton] at hx; subst hx; exact k1) (fun x hx hk=>by
    rw [onames,List.map_append,List.contains_eq_mem,decide_eq_true_eq,List.mem_append]
    refine .inl ?_
    rcases List.mem_append.1 hx with hx | hx
    ·have:=h2 x hx hk; rwa [List.contains_eq_mem,decide_eq_true_eq] at this
    ·rw [List.mem_singleton] at hx; subst hx
     have:=k2 hk; rwa [List.contains_eq_mem,decide_eq_true_eq] at this)
   simpa using this
  ·rw [if_pos h0] at h; exact absurd h h0
theorem ops_ok4 {nI:Nat} {os:List OP} (h:(opsE nI [] os).2=0):ok4 os:=by
 have:=(opsE_ok os [] h (fun o ho=>by cases ho) (fun o ho=>by cases ho)).1
 simpa using this
theorem ops_okL {nI:Nat} {os:List OP} (h:(opsE nI [] os).2=0):okL os:=by
 have:=opsE_ok os [] h (fun o ho=>by cases ho) (fun o ho=>by cases ho)
 rw [List.nil_append] at this
 exact ⟨fun o ho hd=>(this.1 o ho hd).1,this.2⟩
section
variable {n:Nat}
theorem take_ok4 {os:List OP} {i nI:Nat} (hi:i < os.length) (h:ok4 (os.take i)) (h0:opE (os.take i) os[i] nI=0):ok4 (os.take (i+1)):=by
 rw [List.take_succ_eq_append_getElem hi]
 intro x hx
 rcases List.mem_append.1 hx with hx | hx
 ·exact h x hx
 ·rw [List.mem_singleton] at hx; subst hx; exact (opE_ok h0).1
theorem ok4T {os:List OP} (h:ok4 os):okT os:=fun o ho hd=>(h o ho hd).1
theorem pMons (hn:1001≤n) (os:List AV) (is:List IN) (hi' : is.length≤1000) (ms:List MN) (hm' : ms.length≤1000) (z7 z8:Int):∀ (d i m:Nat),i+d=ms.length→d < m→
  Q22.l n m (.z23 (ms.map MN.av) ms.length i os (is.map IN.av) (ms.map MN.av) z7 z8)=some (if (mosE is.length (ms.drop i) i).2≠0 then (3,(mosE is.length (ms.drop i) i).1,(mosE is.length (ms.drop i) i).2) else (0,0,0))
 | _,_,0,_,h=>absurd h (by omega)
 | 0,i,m+1,h,_=>by
  rw [Q22.at23]
  unfold Q22.r23
  rw [cond_f (by omega),List.drop_of_length_le (by omega)]
  rfl
 | d+1,i,m+1,h,hm=>by
  have hi:i < ms.length:=by omega
  have ih:=pMons hn os is hi' ms hm' z7 z8 d (i+1) m (by omega) (by omega)
  rw [Q22.at23]
  unfold Q22.r23
  simp (disch:=omega) only [Option.bind_some,Option.bind_none,cond_true,cond_false,Bool.not_true,Bool.not_false,List.length_map,Ws_length,bs_size,within_t,upto_t,wsucc,Int.toNat_natCast,at_mapN,Ws_getDN,cells_agg,cells_v,withCons_cons,withInt_mk,withStr_mk,withBool_mk,withSl_mk,cond_t,cond_f,MN.av]
  rw [monErr_eq hn _ _ hi',Option.bind_some,bifne,ih,List.drop_eq_getElem_cons hi,mosE_cons]
  by_cases h0:monX is.length ms[i]=0
  ·rw [if_pos h0,if_neg (not_not_intro h0)]
  ·rw [if_neg h0,if_pos h0,if_pos h0]
theorem pIns (hn:1001≤n) (os:List OP) (ho:os.length≤1000) (is:List IN) (hi' : is.length≤1000) (hx:∀ x∈is,x.ar.length≤1000) (ms:List MN) (hm' : ms.length≤100) (z7 z8:Int):∀ (d i m:Nat),i+d=is.length→d+200 < m→
  Q22.l n m (.z16 (is.map IN.av) is.length i (os.map OP.av) (is.map IN.av) (ms.map MN.av) z7 z8)=some (if (insE os (is.drop i) i).2≠0 then (2,(insE os (is.drop i) i).1,(insE os (is.drop i) i).2) else check3 is.length ms)
 | _,_,0,_,h=>absurd h (by omega)
 | 0,i,m+1,h,_=>by
  rw [Q22.at16]
  unfold Q22.r16
  rw [cond_f (by omega),List.drop_of_length_le (by omega),List.length_map]
  have:=pMons hn (os.map OP.av) is hi' ms (by omega) z7 z8 ms.length 0 m (by omega) (by omega)
  rw [List.drop_zero] at this
  exact this
 | d+1,i,m+1,h,hm=>by
  have hi:i < is.length:=by omega
  have ih:=pIns hn os ho is hi' hx ms hm' z7 z8 d (i+1) m (by omega) (by omega)
  rw [Q22.at16]
  unfold Q22.r16
  simp (disch:=omega) only [Option.bind_some,Option.bind_none,cond_true,cond_false,Bool.not_true,Bool.not_false,List.length_map,Ws_length,bs_size,within_t,upto_t,wsucc,Int.toNat_natCast,at_mapN,Ws_getDN,cells_agg,cells_v,withCons_cons,withInt_mk,withStr_mk,withBool_mk,withSl_mk,cond_t,cond_f,IN.av]
  rw [insErr_eq hn os ho _ _ is[i] (hx _ (List.getElem_mem hi)),Option.bind_some,bifne,ih,List.drop_eq_getElem_cons hi,insE_cons]
  by_cases h0:insX os is[i]=0
  ·rw [if_pos h0,if_neg (not_not_intro h0)]
  ·rw [if_neg h0,if_pos h0,if_pos h0]
theorem pOps (hn:1001≤n) (os:List OP) (ho:os.length≤28) (is:List IN) (hi' : is.length≤100) (hx:∀ x∈is,x.ar.length≤1000) (ms:List MN) (hm' : ms.length≤100) (z7 z8:Int):∀ (d i m:Nat),i+d=os.length→d+400 < m→ok4 (os.take i)→((opsE is.length (os.take i) (os.drop i)).2=0→(opsE is.length [] os).2=0)→
  Q22.l n m (.z6 os.length i (os.map OP.av) (is.map IN.av) (ms.map MN.av) z7 z8)=some (if (opsE is.length (os.take i) (os.drop i)).2≠0 then (1,(opsE is.length (os.take i) (os.drop i)).1,(opsE is.length (os.take i) (os.drop i)).2) else if (layX os).2 > 24 then (0,0,30) else check2 os is ms)
 | _,_,0,_,h,_,_=>absurd h (by omega)
 | 0,i,m+1,h,_,hok,hz=>by
  rw [List.drop_of_length_le (by omega)] at hz ⊢
  have hL:=ops_okL (hz rfl)
  rw [Q22.at6]
  unfold Q22.r6
  rw [cond_f (by omega),layout_eq hn os ho hL,Option.bind_some,List.length_map]
  have:=pIns hn os (by omega) is (by omega) hx ms hm' z7 z8 is.length 0 m (by omega) (by omega)
  rw [List.drop_zero] at this
  rw [if_neg (by simp [opsE]),bif_ite,show ((0:Int))=((0:Nat):Int) from rfl,this]
  split <;> rfl
 | d+1,i,m+1,h,hm,hok,hz=>by
  have hi:i < os.length:=by omega
  have ih:=pOps hn os ho is hi' hx ms hm' z7 z8 d (i+1) m (by omega) (by omega)
  rw [Q22.at6]
  unfold Q22.r6
  rw [cond_t (by omega),opErr_eq hn os (by omega) is (by omega) _ i hi (ok4T hok),Option.bind_some,bifne,wsucc (by omega)]
  rw [List.drop_eq_getElem_cons hi,opsE_cons] at hz ⊢
  by_cases h0:opE (os.take i) os[i] is.length=0
  ·rw [if_neg (not_not_intro h0),← List.take_succ_eq_append_getElem hi] at hz
   rw [if_pos h0,if_neg (not_not_intro h0),← List.take_succ_eq_append_getElem hi]
   exact ih (take_ok4 hi hok h0) hz
  ·rw [if_neg h0,if_pos h0,if_pos h0,List.length_take,Nat.min_eq_left (by omega)]
theorem check_law (hn:1001≤n) (os:List OP) (ho:os.length≤28) (is:List IN) (hi' : is.length≤100) (hx:∀ x∈is,x.ar.length≤1000) (ms:List MN) (hm' : ms.length≤100):Q22.F n (os.map OP.av) (is.map IN.av) (ms.map MN.av)=some (checkX os is ms):=by
 obtain ⟨m,rfl⟩ : ∃ m,n=m+1:=⟨n - 1,by omega⟩
 unfold Q22.F Q22.e checkX
 simp only [List.length_map,Q22.at2]
 unfold Q22.r2
 simp only [cond_eq,Option.bind_some,first2 hn,bifne,List.length_map]
 have hq:=pOps hn os ho is hi' hx ms hm' 0 0 os.length 0 m (by omega) (by omega) (fun o ho=>by simp at ho) (fun h=>h)
 rw [List.drop_zero,List.take_zero] at hq
 have c1:decide (((os.length:Nat):Int) > 24)=decide (os.length > 24):=by rw [decide_eq_decide]; omega
 have c2:decide (((is.length:Nat):Int) > 40)=decide (is.length > 40):=by rw [decide_eq_decide]; omega
 have c3:decide (((ms.length:Nat):Int) > 6)=decide (ms.length > 6):=by rw [decide_eq_decide]; omega
 rw [c1,c2,c3]
 by_cases h1:os.length > 24
 ·simp [h1]
 ·by_cases h2:is.length > 40
  ·simp [h1,h2]
  ·by_cases h3:ms.length > 6
   ·simp [h1,h2,h3]
   ·by_cases h4:is.length=0
    ·simp [h1,h2,h3,h4]
    ·rw [show ((0:Int))=((0:Nat):Int) from rfl] at hq
     have h4' : ¬ ((is.length:Nat):Int)=0:=by omega
     simp only [h1,h2,h3,h4,h4',decide_false,cond_false,or_self,if_false,beq_int,Bool.false_eq_true,ne_eq,not_true_eq_false,if_true]
     exact hq
end
end Go.Proofs.YtnoldakbllfmnaaGreatDoor.Ev
namespace Go.Proofs.YtnoldakbllfmnaaGreatDoor.Ev
open Go Go.Proofs Go.Proofs.Ev
set_option linter.unusedVariables false
set_option linter.unusedSimpArgs false
section
variable {n:Nat}
theorem rMons (hn:1001≤n) (os:List AV) (is:List IN) (hi' : is.length≤1000) (ms:List MN) (hm' : ms.length≤1000) (z5 z6:Int):∀ (d i m:Nat),i+d=ms.length→d+1 < m→
  Q0z.l n m (.z21 i os (is.map IN.av) (ms.map MN.av) z5 z6)=some (if (mosE is.length (ms.drop i) i).2≠0 then (3,(mosE is.length (ms.drop i) i).1,(mosE is.length (ms.drop i) i).2) else (0,0,0))
 | _,_,0,_,h=>absurd h (by omega)
 | 0,i,m+1,h,_=>by
  rw [Q0z.at21]
  unfold Q0z.r21
  simp only [List.length_map]
  rw [cond_f (by omega),List.drop_of_length_le (by omega)]
  rfl
 | d+1,i,m+1,h,hm=>by
  have hi:i < ms.length:=by omega
  obtain ⟨q,rfl⟩ : ∃ q,m=q+1:=⟨m - 1,by omega⟩
  have ih:=rMons hn os is hi' ms hm' z5 z6 d (i+1) (q+1) (by omega) (by omega)
  have h25:Q0z.l n (q+1) (.z25 (i:Int) z5 z6)=some (3,(i:Int),3):=rfl
  rw [Q0z.at21]
  unfold Q0z.r21
  simp (disch:=omega) only [Option.bind_some,Option.bind_none,cond_true,cond_false,Bool.not_true,Bool.not_false,List.length_map,Ws_length,bs_size,within_t,upto_t,wsucc,Int.toNat_natCast,at_mapN,Ws_getDN,cells_agg,cells_v,withCons_cons,withInt_mk,withStr_mk,withBool_mk,withSl_mk,cond_t,cond_f,MN.av,h25,Within_eq]
  rw [w64 (by omega) (by omega),ih,List.drop_eq_getElem_cons hi,mosE_cons]
  unfold monX
  by_cases h1:0≤ms[i].fr
  ·rw [cond_f (by omega)]
   by_cases h2:ms[i].fr < ms[i].tt
   ·rw [cond_f (by omega)]
    by_cases h3:ms[i].tt≤(is.length:Int)
    ·rw [cond_f (by omega)]
     by_cases h4:0≤ms[i].ex∧ms[i].ex≤999
     ·by_cases h5:0≤ms[i].hd∧ms[i].hd≤(is.length:Int) - 1
      ·simp [h1,h2,h3,h4,h5]
      ·simp [h1,h2,h3,h4,h5]
     ·simp [h1,h2,h3,h4]
    ·rw [cond_t (by omega)]; simp [h1,h2,h3]
   ·rw [cond_t (by omega)]; simp [h1,h2]
  ·rw [cond_t (by omega)]; simp [h1]
theorem rIns (hn:1001≤n) (os:List OP) (ho:os.length≤1000) (hok:ok4 os) (is:List IN) (hi' : is.length≤1000) (hx:∀ x∈is,x.ar.length≤1000) (ms:List MN) (hm' : ms.length≤100) (z5 z6:Int):∀ (d i m:Nat),i+d=is.length→d+200 < m→
  Q0z.l n m (.z15 i (os.map OP.av) (is.map IN.av) (ms.map MN.av) z5 z6)=some (if (insE os (is.drop i) i).2≠0 then (2,(insE os (is.drop i) i).1,(insE os (is.drop i) i).2) else check3 is.length ms)
 | _,_,0,_,h=>absurd h (by omega)
 | 0,i,m+1,h,_=>by
  rw [Q0z.at15]
  unfold Q0z.r15
  simp only [List.length_map]
  rw [cond_f (by omega),List.drop_of_length_le (by omega)]
  have:=rMons hn (os.map OP.av) is hi' ms (by omega) z5 z6 ms.length 0 m (by omega) (by omega)
  rw [List.drop_zero] at this
  exact this
 | d+1,i,m+1,h,hm=>by
  have hi:i < is.length:=by omega
  have ih:=rIns hn os ho hok is hi' hx ms hm' z5 z6 d (i+1) m (by omega) (by omega)
  rw [Q0z.at15]
  unfold Q0z.r15
  simp (disch:=omega) only [Option.bind_some,Option.bind_none,cond_true,cond_false,Bool.not_true,Bool.not_false,List.length_map,Ws_length,bs_size,within_t,upto_t,wsucc,Int.toNat_natCast,at_mapN,Ws_getDN,cells_agg,cells_v,withCons_cons,withInt_mk,withStr_mk,withBool_mk,withSl_mk,cond_t,cond_f,IN.av]
  rw [insErrR_eq hn os ho hok _ _ is[i] (hx _ (List.getElem_mem hi)),Option.bind_some,bifne,ih,List.drop_eq_getElem_cons hi,insE_cons]
  by_cases h0:insX os is[i]=0
  ·rw [if_pos h0,if_neg (not_not_intro h0)]
  ·rw [if_neg h0,if_pos h0,if_pos h0]
theorem rOps (hn:1001≤n) (os:List OP) (ho:os.length≤28) (is:List IN) (hi' : is.length≤100) (hx:∀ x∈is,x.ar.length≤1000) (ms:List MN) (hm' : ms.length≤100) (z5 z6:Int):∀ (d i m:Nat),i+d=os.length→d+400 < m→ok4 (os.take i)→((opsE is.length (os.take i) (os.drop i)).2=0→(opsE is.length [] os).2=0)→
  Q0z.l n m (.z6 i (os.map OP.av) (is.map IN.av) (ms.map MN.av) z5 z6)=some (if (opsE is.length (os.take i) (os.drop i)).2≠0 then (1,(opsE is.length (os.take i) (os.drop i)).1,(opsE is.length (os.take i) (os.drop i)).2) else if (layX os).2 > 24 then (0,0,30) else check2 os is ms)
 | _,_,0,_,h,_,_=>absurd h (by omega)
 | 0,i,m+1,h,_,hok,hz=>by
  rw [List.drop_of_length_le (by omega)] at hz ⊢
  have hL:=ops_okL (hz rfl)
  have h4:=ops_ok4 (hz rfl)
  rw [Q0z.at6]
  unfold Q0z.r6
  simp only [List.length_map]
  rw [cond_f (by omega),layoutR_eq hn os ho hL,Option.bind_some]
  have:=rIns hn os (by omega) h4 is (by omega) hx ms hm' z5 z6 is.length 0 m (by omega) (by omega)
  rw [List.drop_zero] at this
  rw [if_neg (by simp [opsE]),bif_ite,show ((0:Int))=((0:Nat):Int) from rfl,this]
  split <;> rfl
 | d+1,i,m+1,h,hm,hok,hz=>by
  have hi:i < os.length:=by omega
  have ih:=rOps hn os ho is hi' hx ms hm' z5 z6 d (i+1) m (by omega) (by omega)
  rw [Q0z.at6]
  unfold Q0z.r6
  simp only [List.length_map]
  rw [cond_t (by omega),opErrR_eq hn os (by omega) is (by omega) _ i hi (ok4T hok),Option.bind_some,bifne,wsucc (by omega)]
  rw [List.drop_eq_getElem_cons hi,opsE_cons] at hz ⊢
  by_cases h0:opE (os.take i) os[i] is.length=0
  ·rw [if_neg (not_not_intro h0),← List.take_succ_eq_append_getElem hi] at hz
   rw [if_pos h0,if_neg (not_not_intro h0),← List.take_succ_eq_append_getElem hi]
   exact ih (take_ok4 hi hok h0) hz
  ·rw [if_neg h0,if_pos h0,if_pos h0,List.length_take,Nat.min_eq_left (by omega)]
theorem checkR_law (hn:1001≤n) (os:List OP) (ho:os.length≤28) (is:List IN) (hi' : is.length≤100) (hx:∀ x∈is,x.ar.length≤1000) (ms:List MN) (hm' : ms.length≤100):Q0z.F n (os.map OP.av) (is.map IN.av) (ms.map MN.av)=some (checkX os is ms):=by
 obtain ⟨m,rfl⟩ : ∃ m,n=m+1:=⟨n - 1,by omega⟩
 unfold Q0z.F Q0z.e checkX
 have h2' : Q0z.l (m+1) (m+1) (.z2 0 0)=some (0,0,2):=rfl
 simp only [List.length_map,h2']
 have hq:=rOps hn os ho is hi' hx ms hm' 0 0 os.length 0 (m+1) (by omega) (by omega) (fun o ho=>by simp at ho) (fun h=>h)
 rw [List.drop_zero,List.take_zero,show (((0:Nat):Int))=0 from rfl] at hq
 have c1:decide (((os.length:Nat):Int) > 24)=decide (os.length > 24):=by rw [decide_eq_decide]; omega
 have c2:decide (((is.length:Nat):Int) > 40)=decide (is.length > 40):=by rw [decide_eq_decide]; omega
 have c3:decide (((ms.length:Nat):Int) > 6)=decide (ms.length > 6):=by rw [decide_eq_decide]; omega
 rw [c1,c2,c3]
 by_cases h1:os.length > 24
 ·simp [h1]
 ·by_cases h2:is.length > 40
  ·simp [h1,h2]
  ·by_cases h3:ms.length > 6
   ·simp [h1,h2,h3]
   ·by_cases h4:is.length=0
    ·simp [h1,h2,h3,h4]
    ·have h4' : ¬ ((is.length:Nat):Int)=0:=by omega
     simp only [h1,h2,h3,h4,h4',decide_false,cond_false,or_self,if_false,beq_int,Bool.false_eq_true]
     exact hq
theorem awake_eq (n:Nat):Q0p.F n=some true:=rfl
theorem few_x {os:List OP} {is:List IN} {ms:List MN} (h:fewP os is ms=true):os.length≤28∧is.length≤100∧ms.length≤100∧∀ x∈is,x.ar.length≤1000:=by
 obtain ⟨h1,h2,h3,_,h5⟩:=fewP_spec h
 exact ⟨h1,by omega,by omega,fun x hx=>by have:=h5 x hx; omega⟩
end
end Go.Proofs.YtnoldakbllfmnaaGreatDoor.Ev
namespace Go.Proofs.YtnoldakbllfmnaaGreatDoor.Ev
open Go Go.Proofs Go.Proofs.Ev
set_option linter.unusedVariables false
set_option linter.unusedSimpArgs false
def ixI:List Int→Int→Nat→Int
 | [],_,_=>-1
 | w::r,s,i=>if w=s then (i:Int) else ixI r s (i+1)
theorem ixI_cons (w:Int) (r:List Int) (s:Int) (i:Nat):ixI (w::r) s i=if w=s then (i:Int) else ixI r s (i+1):=rfl
theorem ixI_low:∀ (b:List Int) (s:Int) (j:Nat),ixI b s j=-1∨(j:Int)≤ixI b s j
 | [],s,j=>.inl rfl
 | w::b,s,j=>by
  rw [ixI_cons]
  by_cases h:w=s
  ·rw [if_pos h]; exact .inr (Int.le_refl _)
  ·rw [if_neg h]
   rcases ixI_low b s (j+1) with h1 | h1
   ·exact .inl h1
   ·exact .inr (by omega)
section
variable {n:Nat}
theorem indexI_l (n:Nat) (ws:List Int) (hw:ws.length≤1000) (s:Int):∀ (d i m:Nat),i+d=ws.length→d < m→Q39.l n m (.z2 (ws.map vi) s ws.length i)=some (ixI (ws.drop i) s i)
 | _,_,0,_,h=>absurd h (by omega)
 | 0,i,m+1,h,_=>by
  rw [Q39.at2]
  unfold Q39.r2
  rw [cond_f (by omega),List.drop_of_length_le (by omega)]
  rfl
 | d+1,i,m+1,h,hm=>by
  have hi:i < ws.length:=by omega
  have ih:=indexI_l n ws hw s d (i+1) m (by omega) (by omega)
  rw [Q39.at2]
  unfold Q39.r2
  simp (disch:=omega) only [Option.bind_some,Option.bind_none,cond_true,cond_false,Bool.not_true,Bool.not_false,List.length_map,Ws_length,bs_size,within_t,upto_t,wsucc,Int.toNat_natCast,at_mapN,Ws_getDN,cells_agg,cells_v,withCons_cons,withInt_mk,withStr_mk,withBool_mk,withSl_mk,cond_t,cond_f]
  rw [ih,List.drop_eq_getElem_cons hi,ixI_cons,bif_eq0]
  by_cases h1:ws[i]=s
  ·rw [if_pos h1,if_pos h1.symm]
  ·rw [if_neg h1,if_neg (fun e=>h1 e.symm)]
theorem containsI_eq (hn:1001≤n) (ws:List Int) (hw:ws.length≤1000) (s:Int):Q36.F n (ws.map vi) s=some (decide (ixI ws s 0≥0)):=by
 unfold Q36.F Q36.e Q39.F Q39.e
 have:=indexI_l n ws hw s ws.length 0 n (by omega) (by omega)
 rw [List.drop_zero] at this
 rw [List.length_map,show ((0:Int))=((0:Nat):Int) from rfl,this]
 rfl
theorem indexOfI_l (n:Nat) (ws:List Int) (hw:ws.length≤1000) (s:Int):∀ (d i m:Nat),i+d=ws.length→d < m→Q08.l n m (.z2 (ws.map vi) s i)=some (ixI (ws.drop i) s i)
 | _,_,0,_,h=>absurd h (by omega)
 | 0,i,m+1,h,_=>by
  rw [Q08.at2]
  unfold Q08.r2
  simp only [List.length_map]
  rw [cond_f (by omega),List.drop_of_length_le (by omega)]
  rfl
 | d+1,i,m+1,h,hm=>by
  have hi:i < ws.length:=by omega
  have ih:=indexOfI_l n ws hw s d (i+1) m (by omega) (by omega)
  rw [Q08.at2]
  unfold Q08.r2
  simp (disch:=omega) only [Option.bind_some,Option.bind_none,cond_true,cond_false,Bool.not_true,Bool.not_false,List.length_map,Ws_length,bs_size,within_t,upto_t,wsucc,Int.toNat_natCast,at_mapN,Ws_getDN,cells_agg,cells_v,withCons_cons,withInt_mk,withStr_mk,withBool_mk,withSl_mk,cond_t,cond_f]
  rw [ih,List.drop_eq_getElem_cons hi,ixI_cons,bif_eq0]
  split <;> rfl
theorem indexOfI_eq (hn:1001≤n) (ws:List Int) (hw:ws.length≤1000) (s:Int):Q08.F n (ws.map vi) s=some (ixI ws s 0):=by
 unfold Q08.F Q08.e
 have:=indexOfI_l n ws hw s ws.length 0 n (by omega) (by omega)
 rw [List.drop_zero] at this
 exact this
theorem ints_l (n:Nat) (l:List Int) (hl:l.length≤100000):∀ (d i m:Nat),i+d=l.length→d < m→Q09.l n m (.z4 (l.map vi) (l.map vi) i)=some true
 | _,_,0,_,h=>absurd h (by omega)
 | 0,i,m+1,h,_=>by
  rw [Q09.at4]
  unfold Q09.r4
  simp only [List.length_map]
  rw [cond_f (by omega)]
 | d+1,i,m+1,h,hm=>by
  have hi:i < l.length:=by omega
  have ih:=ints_l n l hl d (i+1) m (by omega) (by omega)
  rw [Q09.at4]
  unfold Q09.r4
  simp (disch:=omega) only [Option.bind_some,Option.bind_none,cond_true,cond_false,Bool.not_true,Bool.not_false,List.length_map,Ws_length,bs_size,within_t,upto_t,wsucc,Int.toNat_natCast,at_mapN,Ws_getDN,cells_agg,cells_v,withCons_cons,withInt_mk,withStr_mk,withBool_mk,withSl_mk,cond_t,cond_f]
  rw [bifne,if_pos rfl,ih]
theorem ints_self (l:List Int) (hl:l.length≤100000) (hn:100001≤n):Q09.F n (l.map vi) (l.map vi)=some true:=by
 unfold Q09.F Q09.e
 simp only [List.length_map]
 rw [bifne,if_pos rfl]
 exact ints_l n l hl l.length 0 n (by omega) (by omega)
def usE:List IN→Nat→Int→List Int
 | [],_,_=>[]
 | x::r,i,a=>if ixI x.ar a 0≥0 then (i:Int)::usE r (i+1) a else usE r (i+1) a
theorem usE_length:∀ (r:List IN) (i:Nat) (a:Int),(usE r i a).length≤r.length
 | [],_,_=>Nat.le_refl _
 | x::r,i,a=>by
  have:=usE_length r (i+1) a
  unfold usE
  split <;> simp <;> omega
theorem usesOf_l (hn:1001≤n) (is:List IN) (hi' : is.length≤1000) (hx:∀ x∈is,x.ar.length≤1000) (a:Int):∀ (d i m:Nat) (acc:List Int),i+d=is.length→d < m→acc.length≤i→Q27.l n m (.z6 a (is.map IN.av) is.length i (acc.map vi))=some ((acc++usE (is.drop i) i a).map vi,0)
 | _,_,0,_,_,h,_=>absurd h (by omega)
 | 0,i,m+1,acc,h,_,_=>by
  rw [Q27.at6]
  unfold Q27.r6
  rw [cond_f (by omega),List.drop_of_length_le (by omega)]
  simp [usE]
 | d+1,i,m+1,acc,h,hm,hac=>by
  have hi:i < is.length:=by omega
  have hmost:most=1000000000:=rfl
  have ih:=fun acc' h'=>usesOf_l hn is hi' hx a d (i+1) m acc' (by omega) (by omega) h'
  rw [Q27.at6]
  unfold Q27.r6
  simp (disch:=omega) only [Option.bind_some,Option.bind_none,cond_true,cond_false,Bool.not_true,Bool.not_false,List.length_map,Ws_length,bs_size,within_t,upto_t,wsucc,Int.toNat_natCast,at_mapN,Ws_getDN,cells_agg,cells_v,withCons_cons,withInt_mk,withStr_mk,withBool_mk,withSl_mk,cond_t,cond_f,IN.av]
  rw [containsI_eq hn _ (hx _ (List.getElem_mem hi)),Option.bind_some,bif_ite,List.drop_eq_getElem_cons hi]
  show _=some ((acc++(if ixI is[i].ar a 0≥0 then (i:Int)::usE (is.drop (i+1)) (i+1) a else usE (is.drop (i+1)) (i+1) a)).map vi,0)
  by_cases h0:ixI is[i].ar a 0≥0
  ·rw [if_pos h0,if_pos h0,cond_t (by simp; omega),show acc.map vi++[vi (i:Int)]=(acc++[(i:Int)]).map vi by simp,ih _ (by simp; omega)]
   simp
  ·rw [if_neg h0,if_neg h0,ih _ (by omega)]
theorem usesR_l (hn:1001≤n) (is:List IN) (hi' : is.length≤1000) (hx:∀ x∈is,x.ar.length≤1000) (a:Int) (z3 z5:List AV):∀ (d i m:Nat) (acc:List Int),i+d=is.length→d < m→acc.length≤i→Q18.l n m (.z3 a i z3 (is.map IN.av) z5 (acc.map vi))=some ((acc++usE (is.drop i) i a).map vi)
 | _,_,0,_,_,h,_=>absurd h (by omega)
 | 0,i,m+1,acc,h,_,_=>by
  rw [Q18.at3]
  unfold Q18.r3
  simp only [List.length_map]
  rw [cond_f (by omega),List.drop_of_length_le (by omega)]
  simp [usE]
 | d+1,i,m+1,acc,h,hm,hac=>by
  have hi:i < is.length:=by omega
  have hmost:most=1000000000:=rfl
  have ih:=fun acc' h'=>usesR_l hn is hi' hx a z3 z5 d (i+1) m acc' (by omega) (by omega) h'
  rw [Q18.at3]
  unfold Q18.r3
  simp (disch:=omega) only [Option.bind_some,Option.bind_none,cond_true,cond_false,Bool.not_true,Bool.not_false,List.length_map,Ws_length,bs_size,within_t,upto_t,wsucc,Int.toNat_natCast,at_mapN,Ws_getDN,cells_agg,cells_v,withCons_cons,withInt_mk,withStr_mk,withBool_mk,withSl_mk,cond_t,cond_f,IN.av,List.drop_succ_cons,List.drop_zero]
  rw [indexOfI_eq hn _ (hx _ (List.getElem_mem hi)),Option.bind_some,bifne,List.drop_eq_getElem_cons hi]
  show _=some ((acc++(if ixI is[i].ar a 0≥0 then (i:Int)::usE (is.drop (i+1)) (i+1) a else usE (is.drop (i+1)) (i+1) a)).map vi)
  have hl:=ixI_low is[i].ar a 0
  by_cases h0:ixI is[i].ar a 0≥0
  ·rw [if_neg (by omega),if_pos h0,cond_t (by simp; omega),show acc.map vi++[vi (i:Int)]=(acc++[(i:Int)]).map vi by simp,ih _ (by simp; omega)]
   simp
  ·rw [if_pos (by omega),if_neg h0,ih _ (by omega)]
abbrev errX (os:List OP) (is:List IN) (ms:List MN):Int:=(checkX os is ms).2.2
theorem programErr_eq (hn:1001≤n) (os:List OP) (ho:os.length≤28) (is:List IN) (hi' : is.length≤100) (hx:∀ x∈is,x.ar.length≤1000) (ms:List MN) (hm' : ms.length≤100):Q2v.F n (os.map OP.av) (is.map IN.av) (ms.map MN.av)=some (errX os is ms):=by
 unfold Q2v.F Q2v.e
 rw [check_law hn os ho is hi' hx ms hm']
 rfl
theorem errR_eq (hn:1001≤n) (os:List OP) (ho:os.length≤28) (is:List IN) (hi' : is.length≤100) (hx:∀ x∈is,x.ar.length≤1000) (ms:List MN) (hm' : ms.length≤100):Q10.F n (os.map OP.av) (is.map IN.av) (ms.map MN.av)=some (errX os is ms):=by
 unfold Q10.F Q10.e
 rw [checkR_law hn os ho is hi' hx ms hm']
 rfl
theorem uses_lawL (hn' : 1000002≤n) (os:List OP) (is:List IN) (ms:List MN) (nm:List UInt8) (a:Int):Q0o.F n (os.map OP.av) (is.map IN.av) (ms.map MN.av) (bs nm) a=some true:=by
 have hn:1001≤n:=by omega
 obtain ⟨m,rfl⟩ : ∃ m,n=m+2:=⟨n - 2,by omega⟩
 unfold Q0o.F Q0o.e
 rw [awake_eq,Option.bind_some,few_eq hn,Option.bind_some,bif_not,if_neg (by simp),bif_not]
 cases h:fewP os is ms with
 | false=>rfl
 | true=>
  obtain ⟨h1,h2,h3,h4⟩:=few_x h
  rw [if_neg (by simp),bs_size]
  by_cases h5:nm.length > 100
  ·rw [cond_t (by omega)]
  ·rw [cond_f (by omega),own_eq hn os (by omega) is (by omega) h4 ms (by omega),Option.bind_some]
   simp only [Option.bind_some,errR_eq hn os h1 is h2 h4 ms h3]
   unfold Q26.F Q26.e Q27.F Q27.e
   simp only [programErr_eq hn os h1 is h2 h4 ms h3,Option.bind_some,bifne,named_eq hn os (by omega),at_eq hn os (by omega),pin_eq,cond_eq,first2 hn,List.length_map,w64 (show -9223372036854775808≤((os.length:Nat):Int) - 1 by omega) (show ((os.length:Nat):Int) - 1≤9223372036854775807 by omega),bif_ite,Q0o.at13]
   by_cases he:errX os is ms=0
   ·simp only [he,if_true,ne_eq,not_true_eq_false,if_false]
    have hq:Q27.l (m+2) (m+2) (.z6 a (is.map IN.av) ((is.length:Nat):Int) 0 [])=some ((usE is 0 a).map vi,0):=by
     have:=usesOf_l hn is (by omega) h4 a is.length 0 (m+2) [] (by omega) (by omega) (by simp)
     simpa using this
    have hr:Q18.F (m+2) (os.map OP.av) (is.map IN.av) (ms.map MN.av) a=some ((usE is 0 a).map vi):=by
     unfold Q18.F Q18.e
     have:=usesR_l hn is (by omega) h4 a (os.map OP.av) (ms.map MN.av) is.length 0 (m+2) [] (by omega) (by omega) (by simp)
     simpa using this
    have hus:=usE_length is 0 a
    have h13:∀ (l:List AV) (e:Int),(if 0≤a∧a≤((os.length:Nat):Int) - 1 then (l,e)=((usE is 0 a).map vi,0) else (l,e)=([],3))→Q0o.r13 (m+2) (Q0o.l (m+2) (m+1)) a e (os.map OP.av) (is.map IN.av) (ms.map MN.av) l=some true:=by
     intro l e hle
     unfold Q0o.r13
     rw [List.length_map,w64 (by omega) (by omega)]
     simp only [Within_eq,Option.bind_some,bif_not]
     by_cases ha:0≤a∧a≤((os.length:Nat):Int) - 1
     ·rw [if_pos ha] at hle
      cases hle
      rw [decide_eq_true ha,if_neg (by simp)]
      show (bif ((0:Int)==0) then _ else _)=_
      rw [bif_eq0,if_pos rfl,hr,Option.bind_some,ints_self _ (by omega) (by omega)]
      rfl
     ·rw [if_neg ha] at hle
      cases hle
      rw [if_pos (by simpa using ha)]
      rfl
    have hx:=ixs_low (onames os) nm 0
    have hp7:∃ l e,(if (if (!decide (0≤a∧a≤((os.length:Nat):Int) - 1))=true then 3 else 0)=(0:Int) then Q27.l (m+2) (m+2) (.z6 a (is.map IN.av) ((is.length:Nat):Int) 0 []) else some ([],if (!decide (0≤a∧a≤((os.length:Nat):Int) - 1))=true then 3 else 0))=some (l,e)∧(if 0≤a∧a≤((os.length:Nat):Int) - 1 then (l,e)=((usE is 0 a).map vi,(0:Int)) else (l,e)=([],3)):=by
     by_cases ha:0≤a∧a≤((os.length:Nat):Int) - 1
     ·exact ⟨(usE is 0 a).map vi,0,by rw [if_pos (by simp [ha]),hq],by rw [if_pos ha]⟩
     ·exact ⟨[],3,by rw [decide_eq_false ha]; rfl,by rw [if_neg ha]⟩
    obtain ⟨l,e,e1,e2⟩:=hp7
    have e3:=h13 l e e2
    by_cases hm:ixs (onames os) nm 0=-1
    ·rw [if_pos (by omega),Option.bind_some,e1,Option.bind_some,hm]
     exact e3
    ·rw [if_neg (by omega),Option.bind_some,e1,Option.bind_some,bif_eq0,if_neg hm]
     simp only [hm,if_false,if_true]
     exact e3
   ·by_cases ha:0≤a∧a≤((os.length:Nat):Int) - 1 <;> simp [he]
theorem uses_law (hn' : 1000002≤n) (os:List OP) (is:List IN) (ms:List MN) (nm:ByteArray) (a:Int):Q0o.F n (os.map OP.av) (is.map IN.av) (ms.map MN.av) nm a=some true:=uses_lawL hn' os is ms nm.data.toList a
end
end Go.Proofs.YtnoldakbllfmnaaGreatDoor.Ev
end
