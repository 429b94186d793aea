import Derived.Test.YtnoldakbllfmnaaGreatDoorDAb
import Derived.Lib.Replace
noncomputable section
namespace Go.Proofs.YtnoldakbllfmnaaGreatDoor.Ev
open Go Go.Proofs Go.Proofs.Ev
set_option linter.unusedVariables false
set_option linter.unusedSimpArgs false
theorem map_of {α:Type} (f:α→AV) (P:AV→Prop) (h:∀ y,P y→∃ a,y=f a):∀ xs:List AV,(∀ y∈xs,P y)→∃ l:List α,xs=l.map f
 | [],_=>⟨[],rfl⟩
 | x::xs,hx=>by
  obtain ⟨a,rfl⟩:=h x (hx x (by simp))
  obtain ⟨l,rfl⟩:=map_of f P h xs (fun y hy=>hx y (by simp [hy]))
  exact ⟨a::l,rfl⟩
theorem map_of' {α:Type} {f:α→AV} {P:AV→Prop} {xs:List AV} (hx:∀ y∈xs,P y) (h:∀ y,P y→∃ a,y=f a):∃ l:List α,xs=l.map f:=map_of f P h xs hx
structure OP where
 nm:List UInt8
 kd:Int
 k:Int
 l:Int
 s:Int
 vn:Int
 vx:List UInt8
 ba:List UInt8
 of:Int
 tg:Int
structure IN where
 op:Int
 ar:List Int
structure MN where
 fr:Int
 tt:Int
 ex:Int
 hd:Int
def OP.av (x:OP):AV:=.agg [vs (bs x.nm),vi x.kd,vi x.k,vi x.l,vi x.s,vi x.vn,vs (bs x.vx),vs (bs x.ba),vi x.of,vi x.tg]
def IN.av (x:IN):AV:=.agg [vi x.op,.sl ⟨true,3,false⟩ 1 (x.ar.map vi)]
def MN.av (x:MN):AV:=.agg [vi x.fr,vi x.tt,vi x.ex,vi x.hd]
def onames (os:List OP):List (List UInt8):=os.map OP.nm
theorem onames_length (os:List OP):(onames os).length=os.length:=by simp [onames]
theorem onames_get {os:List OP} {i:Nat} (hi:i < os.length):(onames os)[i]'(by rw [onames_length]; exact hi)=os[i].nm:=by simp [onames]
theorem onames_take (os:List OP) (i:Nat):onames (os.take i)=(onames os).take i:=by simp [onames,List.map_take]
theorem take_snocL {α β:Type} (f:α→β) {l:List α} {i:Nat} (hi:i < l.length):(l.take (i+1)).map f=(l.take i).map f++[f l[i]]:=by
 rw [List.take_succ_eq_append_getElem hi,List.map_append]; rfl
section
variable {n:Nat} {a1 a2:List AV}
theorem named_l (hn:1001≤n) (os:List OP) (ho:os.length≤1000) (s:List UInt8):∀ (d i m:Nat),i+d=os.length→d < m→Q00.l n m (.z2 (os.map OP.av) os.length i (bs s))=some (ixs ((onames os).drop i) s i,bs s)
 | _,_,0,_,h=>absurd h (by omega)
 | 0,i,m+1,h,_=>by
  have hl:=onames_length os
  rw [Q00.at2]
  unfold Q00.r2
  rw [cond_f (by omega),List.drop_of_length_le (by omega)]
  rfl
 | d+1,i,m+1,h,hm=>by
  have hi:i < os.length:=by omega
  have hl:=onames_length os
  have ih:=named_l hn os ho s d (i+1) m (by omega) (by omega)
  rw [Q00.at2]
  unfold Q00.r2
  simp (disch:=omega) only [Option.bind_some,Option.bind_none,cond_true,cond_false,Bool.not_true,Bool.not_false,List.length_map,Ws_length,bs_size,within_t,upto_t,wsucc,Int.toNat_natCast,at_mapN,Ws_getDN,cells_agg,cells_v,withCons_cons,withInt_mk,withStr_mk,withBool_mk,withSl_mk,cond_t,cond_f,OP.av]
  unfold Q2r.F Q2r.e
  simp (disch:=omega) only [Option.bind_some,Option.bind_none,cond_true,cond_false,Bool.not_true,Bool.not_false,List.length_map,Ws_length,bs_size,within_t,upto_t,wsucc,Int.toNat_natCast,at_mapN,Ws_getDN,cells_agg,cells_v,withCons_cons,withInt_mk,withStr_mk,withBool_mk,withSl_mk,cond_t,cond_f]
  rw [ih,List.drop_eq_getElem_cons (by omega:i < (onames os).length),ixs_cons,onames_get hi,str_eq]
  by_cases h1:os[i].nm=s
  ·rw [cond_t h1,if_pos h1]
  ·rw [cond_f h1,if_neg h1]
theorem named_eq (hn:1001≤n) (os:List OP) (ho:os.length≤1000) (s:List UInt8):Q2q.F n (os.map OP.av) (bs s)=some (ixs (onames os) s 0):=by
 unfold Q2q.F Q2q.e Q00.F Q00.e
 have:=named_l hn os ho s os.length 0 n (by omega) (by omega)
 rw [List.drop_zero] at this
 rw [List.length_map,show ((0:Int))=((0:Nat):Int) from rfl,this]
 rfl
theorem at_l (hn:1001≤n) (os:List OP) (ho:os.length≤1000) (s:List UInt8):∀ (d i m:Nat),i+d=os.length→d < m→Q0y.l n m (.z2 (bs s) i (os.map OP.av) a1 a2)=some (ixs ((onames os).drop i) s i)
 | _,_,0,_,h=>absurd h (by omega)
 | 0,i,m+1,h,_=>by
  have hl:=onames_length os
  rw [Q0y.at2]
  unfold Q0y.r2
  simp only [List.length_map]
  rw [cond_f (by omega),List.drop_of_length_le (by omega)]
  rfl
 | d+1,i,m+1,h,hm=>by
  have hi:i < os.length:=by omega
  have hl:=onames_length os
  have ih:=at_l hn os ho s d (i+1) m (by omega) (by omega)
  rw [Q0y.at2]
  unfold Q0y.r2
  simp (disch:=omega) only [Option.bind_some,Option.bind_none,cond_true,cond_false,Bool.not_true,Bool.not_false,List.length_map,Ws_length,bs_size,within_t,upto_t,wsucc,Int.toNat_natCast,at_mapN,Ws_getDN,cells_agg,cells_v,withCons_cons,withInt_mk,withStr_mk,withBool_mk,withSl_mk,cond_t,cond_f,OP.av]
  rw [ih,List.drop_eq_getElem_cons (by omega:i < (onames os).length),ixs_cons,onames_get hi,str_eq]
  by_cases h1:os[i].nm=s
  ·rw [cond_t h1,if_pos h1]
  ·rw [cond_f h1,if_neg h1]
theorem at_eq (hn:1001≤n) (os:List OP) (ho:os.length≤1000) (s:List UInt8):Q0y.F n (os.map OP.av) a1 a2 (bs s)=some (ixs (onames os) s 0):=by
 unfold Q0y.F Q0y.e
 have:=at_l (a1:=a1) (a2:=a2) hn os ho s os.length 0 n (by omega) (by omega)
 rw [List.drop_zero] at this
 rw [show ((0:Int))=((0:Nat):Int) from rfl,this]
def fewO (os:List OP):Bool:=os.all fun o=>!(decide (o.nm.length > 100)||decide (o.ba.length > 100)||decide (o.vx.length > 600))
def fewI (is:List IN):Bool:=is.all fun x=>decide (x.ar.length≤6)
theorem few_i (hn:1001≤n) (os:List OP) (ho:os.length≤1000) (is:List IN) (hi' : is.length≤1000) (ms:List MN):∀ (d i m:Nat),i+d=is.length→d < m→Q0j.l n m (.z10 i (os.map OP.av) (is.map IN.av) (ms.map MN.av))=some (fewI (is.drop i))
 | _,_,0,_,h=>absurd h (by omega)
 | 0,i,m+1,h,_=>by
  rw [Q0j.at10]
  unfold Q0j.r10
  simp only [List.length_map]
  rw [cond_f (by omega),List.drop_of_length_le (by omega)]
  rfl
 | d+1,i,m+1,h,hm=>by
  have hi:i < is.length:=by omega
  have ih:=few_i hn os ho is hi' ms d (i+1) m (by omega) (by omega)
  rw [Q0j.at10]
  unfold Q0j.r10
  simp (disch:=omega) only [Option.bind_some,Option.bind_none,cond_true,cond_false,Bool.not_true,Bool.not_false,List.length_map,Ws_length,bs_size,within_t,upto_t,wsucc,Int.toNat_natCast,at_mapN,Ws_getDN,cells_agg,cells_v,withCons_cons,withInt_mk,withStr_mk,withBool_mk,withSl_mk,cond_t,cond_f,IN.av,List.drop_succ_cons,List.drop_zero]
  rw [ih,List.drop_eq_getElem_cons hi]
  show _=some (decide (is[i].ar.length≤6)&&fewI (is.drop (i+1)))
  by_cases h1:is[i].ar.length≤6
  ·rw [cond_f (by omega),show decide (is[i].ar.length≤6)=true by simpa using h1,Bool.true_and]
  ·rw [cond_t (by omega),show decide (is[i].ar.length≤6)=false by simpa using h1,Bool.false_and]
theorem few_o (hn:1001≤n) (os:List OP) (ho:os.length≤100) (is:List IN) (hi' : is.length≤100) (ms:List MN):∀ (d i m:Nat),i+d=os.length→d+200 < m→Q0j.l n m (.z4 i (os.map OP.av) (is.map IN.av) (ms.map MN.av))=some (fewO (os.drop i)&&fewI is)
 | _,_,0,_,h=>absurd h (by omega)
 | 0,i,m+1,h,_=>by
  rw [Q0j.at4]
  unfold Q0j.r4
  simp only [List.length_map]
  rw [cond_f (by omega),List.drop_of_length_le (by omega)]
  have:=few_i hn os (by omega) is (by omega) ms is.length 0 m (by omega) (by omega)
  rw [List.drop_zero] at this
  rw [show ((0:Int))=((0:Nat):Int) from rfl,this]
  rfl
 | d+1,i,m+1,h,hm=>by
  have hi:i < os.length:=by omega
  obtain ⟨m',rfl⟩ : ∃ m',m=m'+1:=⟨m - 1,by omega⟩
  have ih:=few_o hn os ho is hi' ms d (i+1) (m'+1) (by omega) (by omega)
  have h8:Q0j.l n (m'+1) .z8=some false:=rfl
  rw [Q0j.at4]
  unfold Q0j.r4
  simp (disch:=omega) only [Option.bind_some,Option.bind_none,cond_true,cond_false,Bool.not_true,Bool.not_false,List.length_map,Ws_length,bs_size,within_t,upto_t,wsucc,Int.toNat_natCast,at_mapN,Ws_getDN,cells_agg,cells_v,withCons_cons,withInt_mk,withStr_mk,withBool_mk,withSl_mk,cond_t,cond_f,OP.av]
  rw [ih,h8,List.drop_eq_getElem_cons hi]
  show _=some ((!(decide (os[i].nm.length > 100)||decide (os[i].ba.length > 100)||decide (os[i].vx.length > 600))&&fewO (os.drop (i+1)))&&fewI is)
  have e1:∀ (a b:Nat),decide (((a:Nat):Int) > (b:Int))=decide (a > b):=fun a b=>by rw [decide_eq_decide]; omega
  rw [show (100:Int)=((100:Nat):Int) from rfl,show (600:Int)=((600:Nat):Int) from rfl,e1,e1,e1]
  cases decide (os[i].nm.length > 100) <;> cases decide (os[i].ba.length > 100) <;> cases decide (os[i].vx.length > 600) <;> simp
def fewP (os:List OP) (is:List IN) (ms:List MN):Bool:=(decide (os.length≤28)&&decide (is.length≤44)&&decide (ms.length≤9))&&(fewO os&&fewI is)
theorem few_eq (hn:1001≤n) (os:List OP) (is:List IN) (ms:List MN):Q0j.F n (os.map OP.av) (is.map IN.av) (ms.map MN.av)=some (fewP os is ms):=by
 unfold Q0j.F Q0j.e fewP
 obtain ⟨m,rfl⟩ : ∃ m,n=m+1:=⟨n - 1,by omega⟩
 have h2:Q0j.l (m+1) (m+1) .z2=some false:=rfl
 simp only [List.length_map,h2]
 by_cases h1:os.length≤28
 ·rw [cond_f (by omega)]
  by_cases h3:is.length≤44
  ·rw [cond_f (by omega)]
   by_cases h4:ms.length≤9
   ·rw [cond_f (by omega)]
    have:=few_o hn os (by omega) is (by omega) ms os.length 0 (m+1) (by omega) (by omega)
    rw [List.drop_zero] at this
    rw [show ((0:Int))=((0:Nat):Int) from rfl,this]
    simp [h1,h3,h4]
   ·rw [cond_t (by omega)]; simp [h4]
  ·rw [cond_t (by omega)]; simp [h3]
 ·rw [cond_t (by omega)]; simp [h1]
theorem fewP_spec {os:List OP} {is:List IN} {ms:List MN} (h:fewP os is ms=true):os.length≤28∧is.length≤44∧ms.length≤9∧(∀ o∈os,o.nm.length≤100∧o.ba.length≤100∧o.vx.length≤600)∧∀ x∈is,x.ar.length≤6:=by
 unfold fewP fewO fewI at h
 simp only [Bool.and_eq_true,decide_eq_true_eq,List.all_eq_true,Bool.not_eq_true',Bool.or_eq_false_iff,decide_eq_false_iff_not] at h
 refine ⟨h.1.1.1,h.1.1.2,h.1.2,fun o ho=>?_,h.2.2⟩
 have:=h.2.1 o ho
 omega
theorem own_l (hn:1001≤n) (is:List IN) (hi' : is.length≤1000) (hx:∀ x∈is,x.ar.length≤1000) (z2 z4 z5 z7:List AV):∀ (d i m:Nat),i+d=is.length→d < m→Q16.l n m (.z3 i z2 (is.map IN.av) z4 z5 ((is.take i).map IN.av) z7)=some (z5,is.map IN.av,z7)
 | _,_,0,_,h=>absurd h (by omega)
 | 0,i,m+1,h,_=>by
  rw [Q16.at3]
  unfold Q16.r3
  simp only [List.length_map]
  rw [cond_f (by omega),List.take_of_length_le (by omega)]
 | d+1,i,m+1,h,hm=>by
  have hi:i < is.length:=by omega
  have hmost:most=1000000000:=rfl
  have hxi:=hx is[i] (List.getElem_mem hi)
  have ih:=own_l hn is hi' hx z2 z4 z5 z7 d (i+1) m (by omega) (by omega)
  have hc:Q05.F n (is[i].ar.map vi)=some (is[i].ar.map vi):=by
   unfold Q05.F Q05.e
   rw [List.length_map,cond_t (by omega)]
  rw [Q16.at3]
  unfold Q16.r3
  simp (disch:=omega) only [Option.bind_some,Option.bind_none,cond_true,cond_false,Bool.not_true,Bool.not_false,List.length_map,Ws_length,bs_size,within_t,upto_t,wsucc,Int.toNat_natCast,at_mapN,Ws_getDN,cells_agg,cells_v,withCons_cons,withInt_mk,withStr_mk,withBool_mk,withSl_mk,cond_t,cond_f,IN.av,List.drop_succ_cons,List.drop_zero,hc,List.length_take,List.length_cons,List.length_nil]
  rw [take_snocL IN.av hi] at ih
  exact ih
theorem own_eq (hn:1001≤n) (os:List OP) (ho:os.length≤1000) (is:List IN) (hi' : is.length≤1000) (hx:∀ x∈is,x.ar.length≤1000) (ms:List MN) (hm:ms.length≤1000):Q16.F n (os.map OP.av) (is.map IN.av) (ms.map MN.av)=some (os.map OP.av,is.map IN.av,ms.map MN.av):=by
 unfold Q16.F Q16.e
 have hmost:most=1000000000:=rfl
 rw [List.length_map,List.length_map,cond_t (by omega),cond_t (by omega)]
 exact own_l hn is hi' hx _ _ _ _ is.length 0 n (by omega) (by omega)
end
end Go.Proofs.YtnoldakbllfmnaaGreatDoor.Ev
namespace Go.Proofs.YtnoldakbllfmnaaGreatDoor.Ev
open Go Go.Proofs Go.Proofs.Ev
set_option linter.unusedVariables false
set_option linter.unusedSimpArgs false
theorem bs_beq (a b:List UInt8):(bs a==bs b)=decide (a=b):=by
 show (a.toArray==b.toArray)=_
 by_cases h:a=b
 ·subst h; simp
 ·simp [h]
theorem bs_emp (a:List UInt8):(bs a==(⟨#[]⟩ : ByteArray))=decide (a=[]):=bs_beq a []
theorem emp_bs (a:List UInt8):((⟨#[]⟩ : ByteArray)==bs a)=decide (a=[]):=by
 have:=bs_beq [] a
 rw [show bs []=(⟨#[]⟩ : ByteArray) from rfl] at this
 rw [this,decide_eq_decide]
 exact ⟨fun h=>h.symm,fun h=>h.symm⟩
theorem ixs_app:∀ (a b:List (List UInt8)) (s:List UInt8) (j:Nat),ixs (a++b) s j=if a.contains s=true then ixs a s j else ixs b s (j+a.length)
 | [],b,s,j=>by simp
 | w::a,b,s,j=>by
  rw [List.cons_append,ixs_cons,ixs_cons,ixs_app a b s (j+1),List.contains_cons]
  by_cases h:w=s
  ·subst h; simp
  ·have:(s==w)=false:=by simpa using fun e=>h e.symm
   rw [if_neg h,this,Bool.false_or,List.length_cons,show j+1+a.length=j+(a.length+1) by omega]
   by_cases h2:a.contains s=true
   ·rw [if_pos h2,if_pos h2,if_neg h]
   ·rw [if_neg h2,if_neg h2]
theorem ixs_low:∀ (b:List (List UInt8)) (s:List UInt8) (j:Nat),ixs b s j=-1∨(j:Int)≤ixs b s j
 | [],s,j=>.inl rfl
 | w::b,s,j=>by
  rw [ixs_cons]
  by_cases h:w=s
  ·rw [if_pos h]; exact .inr (Int.le_refl _)
  ·rw [if_neg h]
   rcases ixs_low b s (j+1) with h1 | h1
   ·exact .inl h1
   ·exact .inr (by omega)
theorem ixs_in:∀ (b:List (List UInt8)) (s:List UInt8) (j:Nat),b.contains s=true→∃ k,k < b.length∧ixs b s j=((j+k:Nat):Int)∧b[k]?=some s
 | [],s,j,h=>by simp at h
 | w::b,s,j,h=>by
  rw [ixs_cons]
  by_cases e:w=s
  ·rw [if_pos e]; exact ⟨0,by simp,rfl,by simp [e]⟩
  ·rw [List.contains_cons,show (s==w)=false by simpa using fun e'=>e e'.symm,Bool.false_or] at h
   obtain ⟨k,h1,h2,h3⟩:=ixs_in b s (j+1) h
   rw [if_neg e,h2]
   exact ⟨k+1,by simpa using h1,by rw [show j+1+k=j+(k+1) by omega],by simpa using h3⟩
theorem ixs_out {b:List (List UInt8)} {s:List UInt8} (h:b.contains s=false) (j:Nat):ixs b s j=-1:=by
 have h1:=ixs_has b s j
 rw [h,decide_eq_false_iff_not] at h1
 rcases ixs_low b s j with h2 | h2
 ·exact h2
 ·omega
def isDt (k:Int):Bool:=decide (k=0∨k=1∨k=2∨k=4)
section
variable {n:Nat}
theorem pData_eq (n:Nat) (a0:ByteArray) (a1 a2 a3 a4 a5:Int) (a6 a7:ByteArray) (a8 a9:Int):Q2h.F n a0 a1 a2 a3 a4 a5 a6 a7 a8 a9=some (isDt a1):=by
 unfold Q2h.F Q2h.e isDt
 simp only [bif_eq0]
 by_cases h0:a1=0
 ·simp [h0]
 ·by_cases h1:a1=1
  ·simp [h1]
  ·by_cases h2:a1=2
   ·simp [h2]
   ·simp [h0,h1,h2,beq_int]
theorem rScalar_eq (n:Nat) (a:Int):Q14.F n a=some (decide (a=0∨a=1∨a=2)):=by
 unfold Q14.F Q14.e
 simp only [bif_eq0]
 by_cases h0:a=0
 ·simp [h0]
 ·by_cases h1:a=1
  ·simp [h1]
  ·simp [h0,h1,beq_int]
theorem rData_eq (n:Nat) (a:Int):Q13.F n a=some (isDt a):=by
 unfold Q13.F Q13.e isDt
 rw [rScalar_eq,Option.bind_some]
 by_cases h:a=0∨a=1∨a=2
 ·rw [cond_t h]
  have:a=0∨a=1∨a=2∨a=4:=by omega
  simp [this]
 ·rw [cond_f h,beq_int]
  congr 1
  rw [decide_eq_decide]
  omega
theorem pin_eq (n:Nat) (a b c:Int):Q2e.F n a b c=some (decide (b≤a∧a≤c)):=by
 unfold Q2e.F Q2e.e
 by_cases h:b≤a
 ·rw [cond_t h]; simp [h]
 ·rw [cond_f h]; simp [h]
def exV (o:OP):Bool:=!(decide (o.vn=0)&&decide (o.vx=[]))
def exB (o:OP):Bool:=!(decide (o.ba=[])&&decide (o.of=0))
def exT (o:OP):Bool:=!(decide (o.k=0)&&(decide (o.l=0)&&decide (o.s=0)))
def exG (o:OP):Bool:=!decide (o.tg=0)
def extra (o:OP):Bool:=if o.kd=0∨o.kd=4 then exB o||exG o else if o.kd=1∨o.kd=2 then exV o||exG o else if o.kd=3 then exT o||(exV o||(exB o||exG o)) else exT o||(exV o||exB o)
def kEq (p:Q2m.T) (o:OP):Bool:=!((p.1==bs o.nm)&&((p.2.1==o.kd)&&((p.2.2.1==o.k)&&((p.2.2.2.1==o.l)&&((p.2.2.2.2.1==o.s)&&((p.2.2.2.2.2.1==o.vn)&&((p.2.2.2.2.2.2.1==bs o.vx)&&((p.2.2.2.2.2.2.2.1==bs o.ba)&&((p.2.2.2.2.2.2.2.2.1==o.of)&&((p.2.2.2.2.2.2.2.2.2==o.tg)&&true))))))))))
theorem z_eq (a:Int):((0:Int)==a)=decide (a=0):=by rw [beq_int,decide_eq_decide]; omega
theorem kept_eq (hn:1001≤n) (o:OP):∃ p,Q2m.F n (bs o.nm) o.kd o.k o.l o.s o.vn (bs o.vx) (bs o.ba) o.of o.tg=some p∧(0≤o.kd∧o.kd≤5→kEq p o=extra o):=by
 obtain ⟨m,rfl⟩ : ∃ m,n=m+2:=⟨n - 2,by omega⟩
 obtain ⟨nm,kd,k,l,s,vn,vx,ba,of,tg⟩:=o
 unfold Q2m.F Q2m.e
 simp only [pData_eq,Option.bind_some,bif_eq0,Q2m.at7,Q2m.at10,Q2m.at13]
 unfold Q2m.r7 Q2m.r10
 simp only [Q2m.at13]
 unfold Q2m.r13 isDt extra kEq exV exB exT exG
 by_cases h0:kd=0
 ·subst h0
  refine ⟨_,by simp; rfl,fun _=>?_⟩
  simp [bs_beq,bs_emp,emp_bs,z_eq,Bool.not_and,Bool.or_assoc]
 ·by_cases h4:kd=4
  ·subst h4
   refine ⟨_,by simp; rfl,fun _=>?_⟩
   simp [bs_beq,bs_emp,emp_bs,z_eq,Bool.not_and,Bool.or_assoc]
  ·by_cases h1:kd=1
   ·subst h1
    refine ⟨_,by simp; rfl,fun _=>?_⟩
    simp [bs_beq,bs_emp,emp_bs,z_eq,Bool.not_and,Bool.or_assoc]
   ·by_cases h2:kd=2
    ·subst h2
     refine ⟨_,by simp; rfl,fun _=>?_⟩
     simp [bs_beq,bs_emp,emp_bs,z_eq,Bool.not_and,Bool.or_assoc]
    ·by_cases h5:kd=5
     ·subst h5
      refine ⟨_,by simp; rfl,fun _=>?_⟩
      simp [bs_beq,bs_emp,emp_bs,z_eq,Bool.not_and,Bool.or_assoc]
     ·refine ⟨_,by simp [h0,h1,h2,h4,h5]; rfl,fun hh=>?_⟩
      obtain rfl:kd=3:=by omega
      simp [bs_beq,bs_emp,emp_bs,z_eq,Bool.not_and,Bool.or_assoc]
theorem hasExtra_eq (hn:1001≤n) (o:OP) (hk:0≤o.kd∧o.kd≤5):Q19.F n (bs o.nm) o.kd o.k o.l o.s o.vn (bs o.vx) (bs o.ba) o.of o.tg=some (extra o):=by
 obtain ⟨m,rfl⟩ : ∃ m,n=m+2:=⟨n - 2,by omega⟩
 obtain ⟨nm,kd,k,l,s,vn,vx,ba,of,tg⟩:=o
 simp only at hk
 unfold Q19.F Q19.e
 simp only [bif_eq0,Q19.at5,Q19.at8,empty_eq]
 unfold Q19.r5 Q19.r8 extra exV exB exT exG
 simp only [bs_emp,beq_int]
 have hd:kd=0∨kd=1∨kd=2∨kd=3∨kd=4∨kd=5:=by omega
 rcases hd with rfl | rfl | rfl | rfl | rfl | rfl <;> by_cases e1:ba=[] <;> by_cases e2:of=0 <;> by_cases e3:vn=0 <;> by_cases e4:vx=[] <;> by_cases e5:tg=0 <;> by_cases e6:k=0 <;> by_cases e7:l=0 <;> by_cases e8:s=0 <;> simp [e1,e2,e3,e4,e5,e6,e7,e8]
end
end Go.Proofs.YtnoldakbllfmnaaGreatDoor.Ev
namespace Go.Proofs.YtnoldakbllfmnaaGreatDoor.Ev
open Go Go.Proofs Go.Proofs.Ev
set_option linter.unusedVariables false
set_option linter.unusedSimpArgs false
section
variable {n:Nat}
theorem bifne {α:Type} (a b:Int) (x y:α):(bif a != b then x else y)=if a=b then y else x:=by
 by_cases h:a=b
 ·subst h; simp
 ·rw [if_neg h,bne_iff_ne.2 h,cond_true]
theorem pw_l (n L:Nat) (hL:L≤18):∀ (d i m:Nat),i+d=L→d < m→Q1z.l n m (.z3 ((10 ^ i:Nat):Int) (L:Int) (i:Int))=some ((10 ^ L:Nat):Int)
 | _,_,0,_,h=>absurd h (by omega)
 | 0,i,m+1,h,_=>by
  obtain rfl:i=L:=by omega
  rw [Q1z.at3]
  unfold Q1z.r3
  rw [cond_f (by omega)]
 | d+1,i,m+1,h,hm=>by
  have ih:=pw_l n L hL d (i+1) m (by omega) (by omega)
  have hp:10 ^ (i+1)≤10 ^ 18:=Nat.pow_le_pow_right (by omega) (by omega)
  have he:10 ^ (i+1)=10 ^ i*10:=Nat.pow_succ ..
  rw [Q1z.at3]
  unfold Q1z.r3
  rw [cond_t (by omega),wsucc (by omega),w64 (by omega) (by omega),show ((10 ^ i:Nat):Int)*10=((10 ^ (i+1):Nat):Int) by omega]
  exact ih
theorem power_eq (hn:1001≤n) {l:Int} (h0:0≤l) (h1:l≤18):Q1z.F n l=some ((10 ^ l.toNat:Nat):Int):=by
 unfold Q1z.F Q1z.e
 have:=pw_l n l.toNat (by omega) l.toNat 0 n (by omega) (by omega)
 rw [if_neg (by omega)]
 rw [show ((l.toNat:Nat):Int)=l by omega] at this
 exact this
theorem pwR_l (n L:Nat) (hL:L≤18):∀ (d i m:Nat),i+d=L→d < m→Q0e.l n m (.z3 (L:Int) ((10 ^ i:Nat):Int) (i:Int))=some ((10 ^ L:Nat):Int)
 | _,_,0,_,h=>absurd h (by omega)
 | 0,i,m+1,h,_=>by
  obtain rfl:i=L:=by omega
  rw [Q0e.at3]
  unfold Q0e.r3
  rw [cond_f (by omega)]
 | d+1,i,m+1,h,hm=>by
  have ih:=pwR_l n L hL d (i+1) m (by omega) (by omega)
  have hp:10 ^ (i+1)≤10 ^ 18:=Nat.pow_le_pow_right (by omega) (by omega)
  have he:10 ^ (i+1)=10 ^ i*10:=Nat.pow_succ ..
  rw [Q0e.at3]
  unfold Q0e.r3
  rw [cond_t (by omega),wsucc (by omega),w64 (by omega) (by omega),show ((10 ^ i:Nat):Int)*10=((10 ^ (i+1):Nat):Int) by omega]
  exact ih
theorem powerR_eq (hn:1001≤n) {l:Int} (h0:0≤l) (h1:l≤18):Q0e.F n l=some ((10 ^ l.toNat:Nat):Int):=by
 unfold Q0e.F Q0e.e
 have:=pwR_l n l.toNat (by omega) l.toNat 0 n (by omega) (by omega)
 rw [show ((l.toNat:Nat):Int)=l by omega] at this
 exact this
def mostT (l:Int):Int:=((10 ^ l.toNat:Nat):Int) - 1
def valE (k l vn:Int) (vx:List UInt8):Int:=
 if k=0 then (if vn≠0 then 5 else if (vx.length:Int)≠l then 18 else 0) else (if vx≠[] then 5 else if ¬ (-(mostT l)≤vn∧vn≤mostT l) then 19 else 0)
theorem mostT_range {l:Int} (h1:l≤18):0≤mostT l∧mostT l≤1000000000000000000:=by
 unfold mostT
 have hp:10 ^ l.toNat≤10 ^ 18:=Nat.pow_le_pow_right (by omega) (by omega)
 have hq:0 < 10 ^ l.toNat:=Nat.pow_pos (by omega)
 omega
theorem checkValue_eq (hn:1001≤n) {k l s vn:Int} {vx:List UInt8} (ht:chkT k l s=0) (h4:k≠4):Q1m.F n k l s vn (bs vx)=some (valE k l vn vx):=by
 unfold Q1m.F Q1m.e valE
 have hc:=chkT_cases ht
 simp only [check_eq hn,ncond_eq,nfirst2 hn,Option.bind_some,ht,beq_int,h4,decide_false,Bool.false_eq_true,if_false,ne_eq,not_true_eq_false,bifne,if_true,bif_ite,empty_eq]
 by_cases h0:k=0
 ·rw [if_pos h0,if_pos h0]
  by_cases h1:vn=0 <;> by_cases h2:((vx.length:Nat):Int)=l <;> simp [h1,h2,bs_size]
 ·rw [if_neg h0,if_neg h0,power_eq hn (by omega) (by omega),Option.bind_some]
  have hm:=mostT_range (l:=l) (by omega)
  have e:IntKind.i64.wrap (((10 ^ l.toNat:Nat):Int) - 1)=mostT l:=by
   unfold mostT at hm ⊢
   rw [w64 (by omega) (by omega)]
  rw [e,w64 (x:=0 - mostT l) (by omega) (by omega),in_eq,Option.bind_some,show (0:Int) - mostT l=-(mostT l) by omega]
  by_cases h1:vx=[] <;> by_cases h2 : -(mostT l)≤vn∧vn≤mostT l <;> simp [h1,h2]
theorem valueErr_eq (hn:1001≤n) {k l s vn:Int} {vx:List UInt8} (ht:chkT k l s=0) (h4:k≠4):Q0w.F n k l s vn (bs vx)=some (valE k l vn vx):=by
 obtain ⟨m,rfl⟩ : ∃ m,n=m+2:=⟨n - 2,by omega⟩
 unfold Q0w.F Q0w.e valE
 have hc:=chkT_cases ht
 simp only [typeErr_eq (show 3≤m+2 by omega),Option.bind_some,ht,bif_eq0,h4,if_false,bifne,if_true,empty_eq,Q0w.at7,Q0w.at8,bif_not]
 unfold Q0w.r7 Q0w.r8
 simp only [bif_eq0,count_eq,Option.bind_some]
 by_cases h0:k=0
 ·simp only [if_pos h0]
  by_cases h1:vn=0 <;> by_cases h2:((vx.length:Nat):Int)=l <;> simp [h1,h2,bs_size] <;> decide
 ·simp only [if_neg h0]
  have hm:=mostT_range (l:=l) (by omega)
  have hM:Q0t.F (m+2) k l s=some (mostT l):=by
   unfold Q0t.F Q0t.e
   rw [powerR_eq hn (by omega) (by omega),Option.bind_some]
   unfold mostT at hm ⊢
   rw [w64 (by omega) (by omega)]
  simp only [hM,Option.bind_some]
  rw [w64 (x:=0 - mostT l) (by omega) (by omega),Within_eq,Option.bind_some,show (0:Int) - mostT l=-(mostT l) by omega]
  by_cases h1:vx=[] <;> by_cases h2 : -(mostT l)≤vn∧vn≤mostT l <;> simp [h1,h2] <;> decide
def zOP:OP:=⟨[],0,0,0,0,0,[],[],0,0⟩
def okT (os:List OP):Prop:=∀ o∈os,isDt o.kd=true→chkT o.k o.l o.s=0
def under (before:List OP) (o:OP):OP:=before.getD (ixs (onames before) o.ba 0).toNat zOP
def baE (before:List OP) (o:OP):Int:=
 if (onames before).contains o.ba=false then 11
 else if o.kd=2 then (if (under before o).kd≠3 then 17 else if ¬ (0≤o.of∧o.of≤256) then 3 else 0)
 else if (under before o).kd≠0 then 17 else if ¬ (0≤o.of∧o.of≤szT (under before o).k (under before o).l - szT o.k o.l) then 3 else 0
theorem under_in {before:List OP} {o:OP} (h:(onames before).contains o.ba=true):∃ j,∃ hj:j < before.length,ixs (onames before) o.ba 0=(j:Int)∧under before o=before[j]:=by
 obtain ⟨j,h1,h2,h3⟩:=ixs_in (onames before) o.ba 0 h
 rw [onames_length] at h1
 refine ⟨j,h1,by rw [h2,Nat.zero_add],?_⟩
 unfold under
 rw [h2,Nat.zero_add,Int.toNat_natCast,List.getD_eq_getElem?_getD,List.getElem?_eq_getElem h1,Option.getD_some]
theorem bif_none {b:Bool} (h:b=true) {α:Type} (x:Option α):(bif b then x else none)=x:=by rw [h]; rfl
theorem baseErr_eq (hn:1001≤n) (before:List OP) (hb:before.length≤1000) (hok:okT before) (o:OP) (hk:o.kd=1∨o.kd=2) (ht:chkT o.k o.l o.s=0) :
  Q28.F n (bs o.nm) o.kd o.k o.l o.s o.vn (bs o.vx) (bs o.ba) o.of o.tg (before.map OP.av)=some (baE before o):=by
 unfold Q28.F Q28.e baE
 rw [named_eq hn before hb,Option.bind_some]
 by_cases hc:(onames before).contains o.ba=true
 ·obtain ⟨j,hj,e1,e2⟩:=under_in hc
  rw [e1,e2,if_neg (by rw [hc]; simp),cond_f (by omega)]
  simp (disch:=omega) only [Option.bind_some,Option.bind_none,cond_true,cond_false,Bool.not_true,Bool.not_false,List.length_map,Ws_length,bs_size,within_t,upto_t,wsucc,Int.toNat_natCast,at_mapN,Ws_getDN,cells_agg,cells_v,withCons_cons,withInt_mk,withStr_mk,withBool_mk,withSl_mk,cond_t,cond_f,OP.av]
  rw [bif_eq0]
  by_cases h2:o.kd=2
  ·rw [if_pos h2,if_pos h2,cond_eq,Option.bind_some,pin_eq,Option.bind_some,cond_eq,Option.bind_some]
   rw [first2 hn,Option.bind_some]
   by_cases h3:before[j].kd=3 <;> by_cases h4:0≤o.of∧o.of≤256 <;> simp [h3,h4]
  ·rw [if_neg h2,if_neg h2,bifne]
   by_cases h0:before[j].kd=0
   ·have hd:isDt before[j].kd=true:=by simp [isDt,h0]
    have hu:=hok _ (List.getElem_mem hj) hd
    have r1:=szT_range hu
    have r2:=szT_range ht
    rw [if_pos h0,if_neg (by simp [h0])]
    unfold Q2y.F Q2y.e
    rw [sizeOf_eq hn hu,Option.bind_some,Option.bind_some,sizeOf_eq hn ht,Option.bind_some,Option.bind_some,w64 (by omega) (by omega),pin_eq,Option.bind_some,cond_eq,Option.bind_some]
    by_cases h4:0≤o.of∧o.of≤szT before[j].k before[j].l - szT o.k o.l <;> simp [h4]
   ·rw [if_neg h0,if_pos h0]
 ·rw [Bool.not_eq_true] at hc
  rw [ixs_out hc,if_pos hc,cond_t (by omega)]
def opE (before:List OP) (o:OP) (nI:Nat):Int:=
 if isNm o.nm=false then 7 else if (onames before).contains o.nm=true then 13 else if ¬ (0≤o.kd∧o.kd≤5) then 4 else if extra o=true then 5
 else if isDt o.kd=true∧chkT o.k o.l o.s≠0 then chkT o.k o.l o.s else if isDt o.kd=true∧o.k=4 then 17
 else if o.kd=0∨o.kd=4 then valE o.k o.l o.vn o.vx else if o.kd=1∨o.kd=2 then baE before o else if o.kd=5 then (if 0≤o.tg∧o.tg≤(nI:Int) - 1 then 0 else 3) else 0
theorem opErr_eq (hn:1001≤n) (os:List OP) (ho:os.length≤1000) (is:List IN) (hi' : is.length≤1000) (a2:List AV) (i:Nat) (hi:i < os.length) (hok:okT (os.take i)) :
  Q2t.F n (os.map OP.av) (is.map IN.av) a2 (i:Int)=some (opE (os.take i) os[i] is.length):=by
 obtain ⟨m,rfl⟩ : ∃ m,n=m+2:=⟨n - 2,by omega⟩
 unfold Q2t.F Q2t.e
 simp (disch:=omega) only [Option.bind_some,Option.bind_none,cond_true,cond_false,Bool.not_true,Bool.not_false,List.length_map,Ws_length,bs_size,within_t,upto_t,wsucc,Int.toNat_natCast,at_mapN,Ws_getDN,cells_agg,cells_v,withCons_cons,withInt_mk,withStr_mk,withBool_mk,withSl_mk,cond_t,cond_f,OP.av]
 rw [show ((os.map OP.av).take i).drop 0=(os.take i).map OP.av by simp [List.map_take]]
 obtain ⟨p,hp1,hp2⟩:=kept_eq hn os[i]
 simp only [isName_eq hn,cond_eq,Option.bind_some,named_eq hn (os.take i) (by rw [List.length_take]; omega),pin_eq,hp1,pData_eq]
 have hfz:=first_eq (n:=m+2) [(if (!isNm os[i].nm)=true then 7 else 0),(if decide (ixs (onames (os.take i)) os[i].nm 0≥0)=true then 13 else 0),(if (!decide (0≤os[i].kd∧os[i].kd≤5))=true then 4 else 0),(if kEq p os[i]=true then 5 else 0)] (by simp) hn
 have hfz' : Q2c.F (m+2) [vi (if (!isNm os[i].nm)=true then 7 else 0),vi (if decide (ixs (onames (os.take i)) os[i].nm 0≥0)=true then 13 else 0),vi (if (!decide (0≤os[i].kd∧os[i].kd≤5))=true then 4 else 0),vi (if kEq p os[i]=true then 5 else 0)]=_:=hfz
 rw [ixs_has] at hfz'
 simp only [ixs_has,ge_iff_le] at hfz' ⊢
 unfold kEq at hfz'
 rw [hfz']
 show (some (fz [(if (!isNm os[i].nm)=true then 7 else 0),(if (onames (os.take i)).contains os[i].nm=true then 13 else 0),(if (!decide (0≤os[i].kd∧os[i].kd≤5))=true then 4 else 0),(if kEq p os[i]=true then 5 else 0)])).bind _=_
 rw [Option.bind_some]
 clear hfz hfz' hp1
 unfold opE
 cases h1:isNm os[i].nm with
 | false=>simp [fz]
 | true=>
  cases h2:(onames (os.take i)).contains os[i].nm with
  | true=>simp [fz]
  | false=>
   by_cases hk:0≤os[i].kd∧os[i].kd≤5
   ·rw [hp2 hk]
    cases he:extra os[i] with
    | true=>simp [fz,hk]
    | false=>
     have hz:fz [(if (!true)=true then 7 else 0),(if false=true then 13 else 0),(if (!decide (0≤os[i].kd∧os[i].kd≤5))=true then 4 else 0),(if false=true then 5 else 0)]=0:=by simp [fz,hk]
     rw [hz,bifne,if_pos rfl]
     simp only [if_neg (show ¬ (true=false) by simp),if_neg (show ¬ (false=true) by simp),if_neg (not_not_intro hk)]
     simp only [check_eq hn,Option.bind_some,first2 hn,bif_eq0,bifne,Q2t.at12,Q2t.at15]
     unfold Q2t.r12 Q2t.r15
     have hd:os[i].kd=0∨os[i].kd=1∨os[i].kd=2∨os[i].kd=3∨os[i].kd=4∨os[i].kd=5:=by omega
     cases hdt:isDt os[i].kd with
     | true=>
      rw [cond_true]
      by_cases ht:chkT os[i].k os[i].l os[i].s=0
      ·by_cases h4:os[i].k=4
       ·have ht':=ht
        rw [h4] at ht'
        simp [ht',h4]
       ·simp only [isDt,decide_eq_true_eq] at hdt
        have hv:=checkValue_eq (vn:=os[i].vn) (vx:=os[i].vx) hn ht h4
        rcases hdt with h | h | h | h
        ·simp [h,ht,h4,hv]
        ·have hb:=baseErr_eq hn (os.take i) (by rw [List.length_take]; omega) hok os[i] (.inl h) ht
         rw [h] at hb
         simp [h,ht,h4,← List.map_take,hb]
        ·have hb:=baseErr_eq hn (os.take i) (by rw [List.length_take]; omega) hok os[i] (.inr h) ht
         rw [h] at hb
         simp [h,ht,h4,← List.map_take,hb]
        ·simp [h,ht,h4,hv]
      ·simp [ht]
     | false=>
      rw [cond_false]
      simp only [isDt,decide_eq_false_iff_not] at hdt
      have hd2:os[i].kd=3∨os[i].kd=5:=by omega
      rcases hd2 with h | h
      ·simp [h]
      ·rw [w64 (by omega) (by omega)]
       by_cases h6:0≤os[i].tg∧os[i].tg≤(is.length:Int) - 1 <;> simp [h,h6]
   ·have hk' : decide (0≤os[i].kd∧os[i].kd≤5)=false:=by rw [decide_eq_false_iff_not]; exact hk
    rw [hk',if_pos hk]
    simp [fz]
theorem ixs_split {os:List OP} {i:Nat} (hi:i < os.length) (s:List UInt8):ixs (onames os) s 0=if (onames (os.take i)).contains s=true then ixs (onames (os.take i)) s 0 else ixs ((onames os).drop i) s i:=by
 have h:=ixs_app ((onames os).take i) ((onames os).drop i) s 0
 rw [List.take_append_drop,List.length_take,onames_length,Nat.min_eq_left (by omega),Nat.zero_add] at h
 rw [onames_take]
 exact h
theorem opErrR_eq (hn:1001≤n) (os:List OP) (ho:os.length≤1000) (is:List IN) (hi' : is.length≤1000) (a2:List AV) (i:Nat) (hi:i < os.length) (hok:okT (os.take i)) :
  Q1f.F n (os.map OP.av) (is.map IN.av) a2 (i:Int)=some (opE (os.take i) os[i] is.length):=by
 obtain ⟨m,rfl⟩ : ∃ m,n=m+4:=⟨n - 4,by omega⟩
 have h36:∀ q,Q1f.l (m+4) (q+1) .z36=some 0:=fun _=>rfl
 have h27:∀ q,Q1f.l (m+4) (q+1) .z27=some 17:=fun _=>rfl
 unfold Q1f.F Q1f.e
 simp (disch:=omega) only [Option.bind_some,Option.bind_none,cond_true,cond_false,Bool.not_true,Bool.not_false,List.length_map,Ws_length,bs_size,within_t,upto_t,wsucc,Int.toNat_natCast,at_mapN,Ws_getDN,cells_agg,cells_v,withCons_cons,withInt_mk,withStr_mk,withBool_mk,withSl_mk,cond_t,cond_f,OP.av]
 simp only [isNameR_eq hn,Option.bind_some,at_eq hn os ho,Within_eq,rData_eq,bif_not,bif_eq0,bifne,typeErr_eq (show 3≤m+4 by omega)]
 unfold opE
 cases h1:isNm os[i].nm with
 | false=>simp
 | true=>
  have hlt:decide (ixs (onames os) os[i].nm 0 < (i:Int))=(onames (os.take i)).contains os[i].nm:=by
   have:=ixs_lt (onames os) os[i].nm 0 i (by rw [onames_length]; exact hi) (by rw [List.getElem?_eq_getElem (by rw [onames_length]; exact hi),onames_get hi])
   rw [Nat.zero_add] at this
   rw [this,onames_take]
  rw [hlt]
  cases h2:(onames (os.take i)).contains os[i].nm with
  | true=>simp
  | false=>
   by_cases hk:0≤os[i].kd∧os[i].kd≤5
   ·rw [hasExtra_eq hn os[i] hk,Option.bind_some]
    cases he:extra os[i] with
    | true=>simp [hk]
    | false=>
     simp only [if_neg (show ¬ (true=false) by simp),if_neg (show ¬ (false=true) by simp),if_neg (not_not_intro hk),decide_eq_true hk,cond_false,if_false]
     simp only [Q1f.at20,Q1f.at23,h36]
     unfold Q1f.r20 Q1f.r23
     cases hdt:isDt os[i].kd with
     | true=>
      rw [cond_true]
      by_cases ht:chkT os[i].k os[i].l os[i].s=0
      ·by_cases h4:os[i].k=4
       ·have ht':=ht
        rw [h4] at ht'
        simp [ht',h4]
       ·simp only [isDt,decide_eq_true_eq] at hdt
        have hv:=valueErr_eq (vn:=os[i].vn) (vx:=os[i].vx) hn ht h4
        have hb:(os[i].kd=1∨os[i].kd=2)→(bif ixs (onames os) os[i].ba 0==(-1) then some 11 else (bif decide (ixs (onames os) os[i].ba 0≥(i:Int)) then some 11 else (bif decide ((0:Int)≤ixs (onames os) os[i].ba 0)&&decide (ixs (onames os) os[i].ba 0 < (((os.map OP.av).length:Nat):Int)) then (withCons (((os.map OP.av).getD ((ixs (onames os) os[i].ba 0).toNat) .undef).cells) fun h44 r45=>
 withStr h44 fun s46=>
 withCons r45 fun h47 r48=>
 withInt .i64 h47 fun x49=>
 withCons r48 fun h50 r51=>
 withInt .i64 h50 fun x52=>
 withCons r51 fun h53 r54=>
 withInt .i64 h53 fun x55=>
 withCons r54 fun h56 r57=>
 withInt .i64 h56 fun x58=>
 withCons r57 fun h59 r60=>
 withInt .i64 h59 fun x61=>
 withCons r60 fun h62 r63=>
 withStr h62 fun s64=>
 withCons r63 fun h65 r66=>
 withStr h65 fun s67=>
 withCons r66 fun h68 r69=>
 withInt .i64 h68 fun x70=>
 withCons r69 fun h71 r72=>
 withInt .i64 h71 fun x73=>
 bif os[i].kd==1 then (bif x49 != 0 then (Q1f.l (m+4) (m+3) .z27) else (bif os[i].kd==2 then (bif x49 != 3 then (Q1f.l (m+4) (m+3) .z27) else (Q1f.l (m+4) (m+3) (.z28 (bs os[i].nm) os[i].kd os[i].k os[i].l os[i].s os[i].vn (bs os[i].vx) (bs os[i].ba) os[i].of os[i].tg s46 x49 x52 x55 x58 x61 s64 s67 x70 x73))) else (Q1f.l (m+4) (m+3) (.z28 (bs os[i].nm) os[i].kd os[i].k os[i].l os[i].s os[i].vn (bs os[i].vx) (bs os[i].ba) os[i].of os[i].tg s46 x49 x52 x55 x58 x61 s64 s67 x70 x73)))) else (bif os[i].kd==2 then (bif x49 != 3 then (Q1f.l (m+4) (m+3) .z27) else (Q1f.l (m+4) (m+3) (.z28 (bs os[i].nm) os[i].kd os[i].k os[i].l os[i].s os[i].vn (bs os[i].vx) (bs os[i].ba) os[i].of os[i].tg s46 x49 x52 x55 x58 x61 s64 s67 x70 x73))) else (Q1f.l (m+4) (m+3) (.z28 (bs os[i].nm) os[i].kd os[i].k os[i].l os[i].s os[i].vn (bs os[i].vx) (bs os[i].ba) os[i].of os[i].tg s46 x49 x52 x55 x58 x61 s64 s67 x70 x73)))) else none)))=some (baE (os.take i) os[i]):=by
         intro hkd
         unfold baE
         rw [ixs_split hi]
         cases hc:(onames (os.take i)).contains os[i].ba with
         | false=>
          rw [if_neg (by simp),if_pos rfl]
          rcases ixs_low ((onames os).drop i) os[i].ba i with h5 | h5
          ·rw [h5]; rfl
          ·rw [bif_eq0,cond_t (by omega)]; simp
         | true=>
          obtain ⟨j,hj,e1,e2⟩:=under_in hc
          rw [if_pos rfl,if_neg (by simp),e1,e2]
          have hj' : j < i:=by rw [List.length_take] at hj; omega
          have e3:(os.take i)[j]=os[j]:=by simp
          rw [e3,bif_eq0,if_neg (by omega),cond_f (by omega)]
          simp (disch:=omega) only [Option.bind_some,Option.bind_none,cond_true,cond_false,Bool.not_true,Bool.not_false,List.length_map,Ws_length,bs_size,within_t,upto_t,wsucc,Int.toNat_natCast,at_mapN,Ws_getDN,cells_agg,cells_v,withCons_cons,withInt_mk,withStr_mk,withBool_mk,withSl_mk,cond_t,cond_f,OP.av,h27,bifne,bif_eq0,Q1f.at28]
          unfold Q1f.r28
          simp only [bif_eq0,h36,Within_eq,Option.bind_some,bif_not]
          rcases hkd with h | h
          ·rw [if_pos h,if_neg (show ¬ os[i].kd=2 by omega),if_neg (show ¬ os[i].kd=2 by omega)]
           by_cases h0:os[j].kd=0
           ·have hd:isDt os[j].kd=true:=by simp [isDt,h0]
            have hu:=hok os[j] (by rw [← e3]; exact List.getElem_mem hj) hd
            have r1:=szT_range hu
            have r2:=szT_range ht
            rw [if_pos h0,if_neg (show ¬ (os[j].kd≠0) by simp [h0]),if_pos h,bsize_eq _ hu,Option.bind_some,bsize_eq _ ht,Option.bind_some,w64 (by omega) (by omega)]
            by_cases h5:0≤os[i].of∧os[i].of≤szT os[j].k os[j].l - szT os[i].k os[i].l <;> simp [h5]
           ·rw [if_neg h0,if_pos h0]
          ·rw [if_neg (show ¬ os[i].kd=1 by omega),if_pos h,if_pos h,if_neg (show ¬ os[i].kd=1 by omega)]
           by_cases h3:os[j].kd=3
           ·by_cases h5:0≤os[i].of∧os[i].of≤256 <;> simp [h3,h5]
           ·rw [if_neg h3,if_pos h3]
        simp only [ht,h4,if_true,if_false,ne_eq,not_true_eq_false,and_false]
        rcases hdt with h | h | h | h
        ·simp [h,hv]
        ·rw [if_neg (by omega),if_neg (by omega),if_pos h,if_neg (by omega),if_pos (.inl h)]
         exact hb (.inl h)
        ·rw [if_neg (by omega),if_neg (by omega),if_neg (by omega),if_pos h,if_neg (by omega),if_pos (.inr h)]
         exact hb (.inr h)
        ·simp [h,hv]
      ·simp [ht]
     | false=>
      rw [cond_false]
      simp only [isDt,decide_eq_false_iff_not] at hdt
      have hd2:os[i].kd=3∨os[i].kd=5:=by omega
      rcases hd2 with h | h
      ·simp [h]
      ·rw [List.length_map,w64 (by omega) (by omega)]
       by_cases h6:0≤os[i].tg∧os[i].tg≤(is.length:Int) - 1 <;> simp [h,h6]
   ·have hk' : decide (0≤os[i].kd∧os[i].kd≤5)=false:=by rw [decide_eq_false_iff_not]; exact hk
    rw [hk',if_pos hk]
    simp
end
end Go.Proofs.YtnoldakbllfmnaaGreatDoor.Ev
namespace Go.Proofs.YtnoldakbllfmnaaGreatDoor.Ev
open Go Go.Proofs Go.Proofs.Ev
set_option linter.unusedVariables false
set_option linter.unusedSimpArgs false
theorem rep_eq (m k:Nat) (hk:k≤28):Q3b.F (m+40) [vi (-1)] ((k:Nat):Int)=some (List.replicate k (vi (-1))):=by
 have hd:k=0∨k=1∨k=2∨k=3∨k=4∨k=5∨k=6∨k=7∨k=8∨k=9∨k=10∨k=11∨k=12∨k=13∨k=14∨k=15∨k=16∨k=17∨k=18∨k=19∨k=20∨k=21∨k=22∨k=23∨k=24∨k=25∨k=26∨k=27∨k=28:=by omega
 rcases hd with rfl | rfl | rfl | rfl | rfl | rfl | rfl | rfl | rfl | rfl | rfl | rfl | rfl | rfl | rfl | rfl | rfl | rfl | rfl | rfl | rfl | rfl | rfl | rfl | rfl | rfl | rfl | rfl | rfl <;> (show _=_; kernel_rfl)
def r1:List OP→Int→List Int
 | [],_=>[]
 | o::r,a=>if o.kd=3 then a::r1 r (IntKind.i64.wrap (a+16)) else -1::r1 r a
def e1:List OP→Int→Int
 | [],a=>a
 | o::r,a=>e1 r (if o.kd=3 then IntKind.i64.wrap (a+16) else a)
def p2:List OP→Nat→List Int→Int→List Int × Int
 | [],_,row,a=>(row,a)
 | o::r,i,row,a=>if o.kd=0 then p2 r (i+1) (row.set i a) (IntKind.i64.wrap (a+szT o.k o.l)) else p2 r (i+1) row a
def p3 (os:List OP):List OP→Nat→List Int→List Int
 | [],_,row=>row
 | o::r,i,row=>if o.kd=1 then p3 os r (i+1) (row.set i (IntKind.i64.wrap (row.getD (ixs (onames os) o.ba 0).toNat 0+o.of))) else p3 os r (i+1) row
def layX (os:List OP):List Int × Int:=(p3 os os 0 (p2 os 0 (r1 os 0) (e1 os 0)).1,IntKind.i64.wrap (Int.tdiv (IntKind.i64.wrap (IntKind.i64.wrap ((p2 os 0 (r1 os 0) (e1 os 0)).2+16) - 1)) 16))
theorem r1_snoc:∀ (xs:List OP) (o:OP) (a:Int),r1 (xs++[o]) a=r1 xs a++[if o.kd=3 then e1 xs a else -1]
 | [],o,a=>by by_cases h:o.kd=3 <;> simp [r1,e1,h]
 | x::xs,o,a=>by by_cases h:x.kd=3 <;> simp [r1,e1,h,r1_snoc xs o]
theorem e1_snoc:∀ (xs:List OP) (o:OP) (a:Int),e1 (xs++[o]) a=if o.kd=3 then IntKind.i64.wrap (e1 xs a+16) else e1 xs a
 | [],o,a=>rfl
 | x::xs,o,a=>by simp [e1,e1_snoc xs o]
theorem r1_length:∀ (xs:List OP) (a:Int),(r1 xs a).length=xs.length
 | [],a=>rfl
 | x::xs,a=>by by_cases h:x.kd=3 <;> simp [r1,h,r1_length xs]
theorem p2_length:∀ (xs:List OP) (i:Nat) (row:List Int) (a:Int),(p2 xs i row a).1.length=row.length
 | [],i,row,a=>rfl
 | x::xs,i,row,a=>by by_cases h:x.kd=0 <;> simp [p2,h,p2_length xs]
theorem p3_length (os:List OP):∀ (xs:List OP) (i:Nat) (row:List Int),(p3 os xs i row).length=row.length
 | [],i,row=>rfl
 | x::xs,i,row=>by by_cases h:x.kd=1 <;> simp [p3,h,p3_length os xs]
theorem layX_length (os:List OP):(layX os).1.length=os.length:=by unfold layX; rw [p3_length,p2_length,r1_length]
def okL (os:List OP):Prop:=okT os∧∀ o∈os,o.kd=1→(onames os).contains o.ba=true
theorem set_mid {α:Type} (f:Int→α) (A B:List Int) (b x:Int) {i:Nat} (h:A.length=i):((A++b::B).map f).set i (f x)=((A++[x])++B).map f:=by
 subst h
 simp [List.set_append]
theorem map_set_i (row:List Int) (i:Nat) (x:Int):(row.map vi).set i (vi x)=(row.set i x).map vi:=by rw [List.map_set]
section
variable {n:Nat}
theorem lay4 (os:List OP) (ho:os.length≤1000) (zo:List AV) (K:Option (List AV × Int)) (hK:∀ m,2*os.length+40≤m→Q2n.l n m (.z10 zo (e1 os 0) zo ((zo.length:Nat):Int) 0 ((r1 os 0).map vi))=K):∀ (d i m:Nat),i+d=os.length→d+(2*os.length+40) < m→
  Q2n.l n m (.z4 zo (e1 (os.take i) 0) (os.map OP.av) os.length i ((r1 (os.take i) 0++List.replicate d (-1)).map vi))=K
 | _,_,0,_,h=>absurd h (by omega)
 | 0,i,m+1,h,hm=>by
  rw [Q2n.at4]
  unfold Q2n.r4
  rw [cond_f (by omega),List.take_of_length_le (by omega)]
  simp only [List.replicate_zero,List.append_nil]
  exact hK m (by omega)
 | d+1,i,m+1,h,hm=>by
  have hi:i < os.length:=by omega
  have ih:=lay4 os ho zo K hK d (i+1) m (by omega) (by omega)
  have hl:(r1 (os.take i) 0).length=i:=by rw [r1_length,List.length_take]; omega
  rw [Q2n.at4]
  unfold Q2n.r4
  simp (disch:=omega) only [Option.bind_some,Option.bind_none,cond_true,cond_false,Bool.not_true,Bool.not_false,List.length_map,Ws_length,bs_size,within_t,upto_t,wsucc,Int.toNat_natCast,at_mapN,Ws_getDN,cells_agg,cells_v,withCons_cons,withInt_mk,withStr_mk,withBool_mk,withSl_mk,cond_t,cond_f,OP.av,List.length_append,List.length_replicate,hl]
  rw [List.take_succ_eq_append_getElem hi,r1_snoc,e1_snoc] at ih
  rw [bif_eq0]
  by_cases h3:os[i].kd=3
  ·rw [if_pos h3,if_pos h3] at ih
   rw [if_pos h3,List.replicate_succ,set_mid vi _ _ _ _ hl]
   exact ih
  ·rw [if_neg h3,if_neg h3] at ih
   rw [if_neg h3,List.replicate_succ,← ih]
   simp
theorem lay10 (hn:1001≤n) (os:List OP) (ho:os.length≤1000) (hok:okT os) (zo:List AV) (G:List Int × Int→Option (List AV × Int)) (hK:∀ m row a,os.length+10≤m→row.length=os.length→Q2n.l n m (.z16 zo a zo ((zo.length:Nat):Int) 0 (row.map vi))=G (row,a)):∀ (d i m:Nat) (row:List Int) (a:Int),i+d=os.length→d+(os.length+10) < m→row.length=os.length→
  Q2n.l n m (.z10 zo a (os.map OP.av) os.length i (row.map vi))=G (p2 (os.drop i) i row a)
 | _,_,0,_,_,_,h,_=>absurd h (by omega)
 | 0,i,m+1,row,a,h,hm,hr=>by
  rw [Q2n.at10]
  unfold Q2n.r10
  rw [cond_f (by omega),List.drop_of_length_le (by omega)]
  exact hK m row a (by omega) hr
 | d+1,i,m+1,row,a,h,hm,hr=>by
  have hi:i < os.length:=by omega
  have ih:=fun row' a' hr'=>lay10 hn os ho hok zo G hK d (i+1) m row' a' (by omega) (by omega) hr'
  rw [Q2n.at10]
  unfold Q2n.r10
  simp (disch:=omega) only [Option.bind_some,Option.bind_none,cond_true,cond_false,Bool.not_true,Bool.not_false,List.length_map,Ws_length,bs_size,within_t,upto_t,wsucc,Int.toNat_natCast,at_mapN,Ws_getDN,cells_agg,cells_v,withCons_cons,withInt_mk,withStr_mk,withBool_mk,withSl_mk,cond_t,cond_f,OP.av,hr]
  rw [List.drop_eq_getElem_cons hi,bif_eq0]
  unfold p2
  by_cases h0:os[i].kd=0
  ·have hd:isDt os[i].kd=true:=by simp [isDt,h0]
   rw [if_pos h0,if_pos h0]
   unfold Q2y.F Q2y.e
   rw [sizeOf_eq hn (hok _ (List.getElem_mem hi) hd),Option.bind_some,Option.bind_some,map_set_i,ih _ _ (by simpa using hr)]
  ·rw [if_neg h0,if_neg h0,ih _ _ hr]
theorem lay16 (hn:1001≤n) (os:List OP) (ho:os.length≤1000) (hok:∀ o∈os,o.kd=1→(onames os).contains o.ba=true) (a:Int):∀ (d i m:Nat) (row:List Int),i+d=os.length→d < m→row.length=os.length→
  Q2n.l n m (.z16 (os.map OP.av) a (os.map OP.av) os.length i (row.map vi))=some ((p3 os (os.drop i) i row).map vi,IntKind.i64.wrap (Int.tdiv (IntKind.i64.wrap (IntKind.i64.wrap (a+16) - 1)) 16))
 | _,_,0,_,_,h,_=>absurd h (by omega)
 | 0,i,m+1,row,h,hm,hr=>by
  rw [Q2n.at16]
  unfold Q2n.r16
  rw [cond_f (by omega),List.drop_of_length_le (by omega)]
  rfl
 | d+1,i,m+1,row,h,hm,hr=>by
  have hi:i < os.length:=by omega
  have ih:=fun row' hr'=>lay16 hn os ho hok a d (i+1) m row' (by omega) (by omega) hr'
  rw [Q2n.at16]
  unfold Q2n.r16
  simp (disch:=omega) only [Option.bind_some,Option.bind_none,cond_true,cond_false,Bool.not_true,Bool.not_false,List.length_map,Ws_length,bs_size,within_t,upto_t,wsucc,Int.toNat_natCast,at_mapN,Ws_getDN,cells_agg,cells_v,withCons_cons,withInt_mk,withStr_mk,withBool_mk,withSl_mk,cond_t,cond_f,OP.av,hr]
  rw [List.drop_eq_getElem_cons hi,bif_eq0]
  unfold p3
  by_cases h1:os[i].kd=1
  ·obtain ⟨k,hk,e,_⟩:=ixs_in (onames os) os[i].ba 0 (hok _ (List.getElem_mem hi) h1)
   rw [onames_length] at hk
   rw [if_pos h1,if_pos h1,named_eq hn os ho,Option.bind_some,e,Nat.zero_add]
   have hkr:k < row.length:=by omega
   simp (disch:=omega) only [Option.bind_some,Option.bind_none,cond_true,cond_false,Bool.not_true,Bool.not_false,List.length_map,Ws_length,bs_size,within_t,upto_t,wsucc,Int.toNat_natCast,at_mapN,Ws_getDN,cells_agg,cells_v,withCons_cons,withInt_mk,withStr_mk,withBool_mk,withSl_mk,cond_t,cond_f,hr]
   rw [map_set_i,ih _ (by simpa using hr)]
   simp [List.getD_eq_getElem?_getD,hkr]
  ·rw [if_neg h1,if_neg h1,ih _ hr]
theorem layout_eq (hn:1001≤n) (os:List OP) (ho:os.length≤28) (hok:okL os):Q2n.F n (os.map OP.av)=some ((layX os).1.map vi,(layX os).2):=by
 obtain ⟨m,rfl⟩ : ∃ m,n=m+40:=⟨n - 40,by omega⟩
 unfold Q2n.F Q2n.e
 rw [List.length_map,rep_eq m _ ho,Option.bind_some]
 have h:=lay4 (n:=m+40) os (by omega) (os.map OP.av) (some ((layX os).1.map vi,(layX os).2)) (fun q hq=>by
  rw [List.length_map]
  have h10:=lay10 (n:=m+40) hn os (by omega) hok.1 (os.map OP.av) (fun x=>some ((p3 os os 0 x.1).map vi,IntKind.i64.wrap (Int.tdiv (IntKind.i64.wrap (IntKind.i64.wrap (x.2+16) - 1)) 16))) (fun q' row a hq' hr=>by
   rw [List.length_map]
   have h16:=lay16 (n:=m+40) hn os (by omega) hok.2 a os.length 0 q' row (by omega) (by omega) hr
   rw [List.drop_zero] at h16
   exact h16) os.length 0 q (r1 os 0) (e1 os 0) (by omega) (by omega) (r1_length os 0)
  rw [List.drop_zero] at h10
  exact h10) os.length 0 (m+40) (by omega) (by omega)
 simpa [r1,e1] using h
theorem layR4 (os:List OP) (ho:os.length≤1000) (a1 a2:List AV) (K:Option (List AV × Int)) (hK:∀ m,2*os.length+40≤m→Q15.l n m (.z11 (e1 os 0) 0 (os.map OP.av) a1 a2 ((r1 os 0).map vi))=K):∀ (d i m:Nat),i+d=os.length→d+(2*os.length+40) < m→
  Q15.l n m (.z4 (e1 (os.take i) 0) i (os.map OP.av) a1 a2 ((r1 (os.take i) 0++List.replicate d 0).map vi))=K
 | _,_,0,_,h=>absurd h (by omega)
 | 0,i,m+1,h,hm=>by
  rw [Q15.at4]
  unfold Q15.r4
  simp only [List.length_map]
  rw [cond_f (by omega),List.take_of_length_le (by omega)]
  simp only [List.replicate_zero,List.append_nil]
  exact hK m (by omega)
 | d+1,i,m+1,h,hm=>by
  have hi:i < os.length:=by omega
  have ih:=layR4 os ho a1 a2 K hK d (i+1) m (by omega) (by omega)
  have hl:(r1 (os.take i) 0).length=i:=by rw [r1_length,List.length_take]; omega
  rw [Q15.at4]
  unfold Q15.r4
  simp (disch:=omega) only [Option.bind_some,Option.bind_none,cond_true,cond_false,Bool.not_true,Bool.not_false,List.length_map,Ws_length,bs_size,within_t,upto_t,wsucc,Int.toNat_natCast,at_mapN,Ws_getDN,cells_agg,cells_v,withCons_cons,withInt_mk,withStr_mk,withBool_mk,withSl_mk,cond_t,cond_f,OP.av,List.length_append,List.length_replicate,hl,List.drop_succ_cons,List.drop_zero,List.length_set]
  rw [List.take_succ_eq_append_getElem hi,r1_snoc,e1_snoc] at ih
  rw [bif_eq0]
  by_cases h3:os[i].kd=3
  ·rw [if_pos h3,if_pos h3] at ih
   rw [if_pos h3,List.replicate_succ,List.set_set,set_mid vi _ _ _ _ hl]
   exact ih
  ·rw [if_neg h3,if_neg h3] at ih
   rw [if_neg h3,List.replicate_succ,set_mid vi _ _ _ _ hl]
   exact ih
theorem layR11 (hn:1001≤n) (os:List OP) (ho:os.length≤1000) (hok:okT os) (a1 a2:List AV) (G:List Int × Int→Option (List AV × Int)) (hK:∀ m row a,os.length+10≤m→row.length=os.length→Q15.l n m (.z18 a 0 (os.map OP.av) a1 a2 (row.map vi))=G (row,a)):∀ (d i m:Nat) (row:List Int) (a:Int),i+d=os.length→d+(os.length+10) < m→row.length=os.length→
  Q15.l n m (.z11 a i (os.map OP.av) a1 a2 (row.map vi))=G (p2 (os.drop i) i row a)
 | _,_,0,_,_,_,h,_=>absurd h (by omega)
 | 0,i,m+1,row,a,h,hm,hr=>by
  rw [Q15.at11]
  unfold Q15.r11
  simp only [List.length_map]
  rw [cond_f (by omega),List.drop_of_length_le (by omega)]
  exact hK m row a (by omega) hr
 | d+1,i,m+1,row,a,h,hm,hr=>by
  have hi:i < os.length:=by omega
  have ih:=fun row' a' hr'=>layR11 hn os ho hok a1 a2 G hK d (i+1) m row' a' (by omega) (by omega) hr'
  rw [Q15.at11]
  unfold Q15.r11
  simp (disch:=omega) only [Option.bind_some,Option.bind_none,cond_true,cond_false,Bool.not_true,Bool.not_false,List.length_map,Ws_length,bs_size,within_t,upto_t,wsucc,Int.toNat_natCast,at_mapN,Ws_getDN,cells_agg,cells_v,withCons_cons,withInt_mk,withStr_mk,withBool_mk,withSl_mk,cond_t,cond_f,OP.av,hr]
  rw [List.drop_eq_getElem_cons hi,bif_eq0]
  unfold p2
  by_cases h0:os[i].kd=0
  ·have hd:isDt os[i].kd=true:=by simp [isDt,h0]
   rw [if_pos h0,if_pos h0,bsize_eq n (hok _ (List.getElem_mem hi) hd),Option.bind_some,map_set_i,ih _ _ (by simpa using hr)]
  ·rw [if_neg h0,if_neg h0,ih _ _ hr]
theorem layR18 (hn:1001≤n) (os:List OP) (ho:os.length≤1000) (hok:∀ o∈os,o.kd=1→(onames os).contains o.ba=true) (a1 a2:List AV) (a:Int):∀ (d i m:Nat) (row:List Int),i+d=os.length→d < m→row.length=os.length→
  Q15.l n m (.z18 a i (os.map OP.av) a1 a2 (row.map vi))=some ((p3 os (os.drop i) i row).map vi,IntKind.i64.wrap (Int.tdiv (IntKind.i64.wrap (IntKind.i64.wrap (a+16) - 1)) 16))
 | _,_,0,_,_,h,_=>absurd h (by omega)
 | 0,i,m+1,row,h,hm,hr=>by
  rw [Q15.at18]
  unfold Q15.r18
  simp only [List.length_map]
  rw [cond_f (by omega),List.drop_of_length_le (by omega)]
  rfl
 | d+1,i,m+1,row,h,hm,hr=>by
  have hi:i < os.length:=by omega
  have ih:=fun row' hr'=>layR18 hn os ho hok a1 a2 a d (i+1) m row' (by omega) (by omega) hr'
  rw [Q15.at18]
  unfold Q15.r18
  simp (disch:=omega) only [Option.bind_some,Option.bind_none,cond_true,cond_false,Bool.not_true,Bool.not_false,List.length_map,Ws_length,bs_size,within_t,upto_t,wsucc,Int.toNat_natCast,at_mapN,Ws_getDN,cells_agg,cells_v,withCons_cons,withInt_mk,withStr_mk,withBool_mk,withSl_mk,cond_t,cond_f,OP.av,hr]
  rw [List.drop_eq_getElem_cons hi,bif_eq0]
  unfold p3
  by_cases h1:os[i].kd=1
  ·obtain ⟨k,hk,e,_⟩:=ixs_in (onames os) os[i].ba 0 (hok _ (List.getElem_mem hi) h1)
   rw [onames_length] at hk
   rw [if_pos h1,if_pos h1,at_eq hn os ho,Option.bind_some,e,Nat.zero_add]
   have hkr:k < row.length:=by omega
   simp (disch:=omega) only [Option.bind_some,Option.bind_none,cond_true,cond_false,Bool.not_true,Bool.not_false,List.length_map,Ws_length,bs_size,within_t,upto_t,wsucc,Int.toNat_natCast,at_mapN,Ws_getDN,cells_agg,cells_v,withCons_cons,withInt_mk,withStr_mk,withBool_mk,withSl_mk,cond_t,cond_f,hr]
   rw [map_set_i,ih _ (by simpa using hr)]
   simp [List.getD_eq_getElem?_getD,hkr]
  ·rw [if_neg h1,if_neg h1,ih _ hr]
theorem layoutR_eq (hn:1001≤n) (os:List OP) (ho:os.length≤28) (hok:okL os) (a1 a2:List AV):Q15.F n (os.map OP.av) a1 a2=some ((layX os).1.map vi,(layX os).2):=by
 unfold Q15.F Q15.e
 have hmost:(most:Int)=1000000000:=rfl
 have e1' : ((decide ((0:Int)≤((os.length:Nat):Int))&&decide ((((os.length:Nat):Int):Int)≤most))&&decide ((((os.length:Nat):Int):Int)=((os.length:Nat):Int))&&true&&true)=true:=by
  rw [decide_eq_true (by omega),decide_eq_true (by omega),decide_eq_true rfl]; rfl
 rw [List.length_map,bif_none e1']
 have h:=layR4 (n:=n) os (by omega) a1 a2 (some ((layX os).1.map vi,(layX os).2)) (fun q hq=>by
  have h10:=layR11 (n:=n) hn os (by omega) hok.1 a1 a2 (fun x=>some ((p3 os os 0 x.1).map vi,IntKind.i64.wrap (Int.tdiv (IntKind.i64.wrap (IntKind.i64.wrap (x.2+16) - 1)) 16))) (fun q' row a hq' hr=>by
   have h16:=layR18 (n:=n) hn os (by omega) hok.2 a1 a2 a os.length 0 q' row (by omega) (by omega) hr
   rw [List.drop_zero] at h16
   exact h16) os.length 0 q (r1 os 0) (e1 os 0) (by omega) (by omega) (r1_length os 0)
  rw [List.drop_zero] at h10
  exact h10) os.length 0 n (by omega) (by omega)
 simpa [r1,e1] using h
end
end Go.Proofs.YtnoldakbllfmnaaGreatDoor.Ev
namespace Go.Proofs.YtnoldakbllfmnaaGreatDoor.Ev
open Go Go.Proofs Go.Proofs.Ev
set_option linter.unusedVariables false
set_option linter.unusedSimpArgs false
def cls (op:Int):List Int:=
 if op=0 then [0,4] else if op=1 then [2,3] else if op=2∨op=3∨op=4∨op=5∨op=6 then [2,3,3] else if op=7∨op=8 then [1,4,6] else if op=9∨op=13 then [6] else if op=10 then [5,0]
 else if op=11 then [5,5] else if op=12 then [5,3] else if op=15 then [3] else if op=16 then [2] else if op=17 then [1] else []
theorem op_cases {op:Int} (h:0≤op∧op≤18):op=0∨op=1∨op=2∨op=3∨op=4∨op=5∨op=6∨op=7∨op=8∨op=9∨op=10∨op=11∨op=12∨op=13∨op=14∨op=15∨op=16∨op=17∨op=18:=by omega
theorem cls_range {op:Int} (h:0≤op∧op≤18):∀ c∈cls op,0≤c∧c≤6:=by
 rcases op_cases h with rfl | rfl | rfl | rfl | rfl | rfl | rfl | rfl | rfl | rfl | rfl | rfl | rfl | rfl | rfl | rfl | rfl | rfl | rfl <;> decide
theorem cls_len {op:Int} (h:0≤op∧op≤18):(cls op).length≤3:=by
 rcases op_cases h with rfl | rfl | rfl | rfl | rfl | rfl | rfl | rfl | rfl | rfl | rfl | rfl | rfl | rfl | rfl | rfl | rfl | rfl | rfl <;> decide
theorem cls_alike {op:Int} (h:0≤op∧op≤18) (i:Nat) (hi:(cls op)[i]?=some 4):i=1∧((cls op)[0]?=some 0∨(cls op)[0]?=some 1):=by
 have hl:=cls_len h
 have hlt:i < 3:=by have:=(List.getElem?_eq_some_iff.1 hi).1; omega
 have hi3:i=0∨i=1∨i=2:=by omega
 revert hi
 rcases op_cases h with rfl | rfl | rfl | rfl | rfl | rfl | rfl | rfl | rfl | rfl | rfl | rfl | rfl | rfl | rfl | rfl | rfl | rfl | rfl <;> rcases hi3 with rfl | rfl | rfl <;> decide
def fitX (o b:OP) (c:Int):Bool:=
 if c=5 then decide (o.kd=3) else if c=6 then decide (o.kd=5)
 else isDt o.kd&&(!(decide (c=0∨c=2)&&decide (o.kd=4))&&(!(decide (c=2∨c=3)&&decide (o.k=0))&&!(decide (c=4)&&(decide (o.k=0) != decide (b.k=0)))))
theorem fit_dt {o b:OP} {c:Int} (hc:c=0∨c=1) (h:fitX o b c=true):isDt o.kd=true:=by
 cases hd:isDt o.kd with
 | true=>rfl
 | false=>rcases hc with rfl | rfl <;> simp [fitX,hd] at h
section
variable {n:Nat}
theorem pNum_eq (n:Nat) (a0:ByteArray) (a1 a2 a3 a4 a5:Int) (a6 a7:ByteArray) (a8 a9:Int):Q2j.F n a0 a1 a2 a3 a4 a5 a6 a7 a8 a9=some (!decide (a2=0)):=rfl
theorem fits_eq (hn:1001≤n) (o b:OP) (c:Int) (hc:0≤c∧c≤6):Q2d.F n (bs o.nm) o.kd o.k o.l o.s o.vn (bs o.vx) (bs o.ba) o.of o.tg (bs b.nm) b.kd b.k b.l b.s b.vn (bs b.vx) (bs b.ba) b.of b.tg c=some (fitX o b c):=by
 obtain ⟨m,rfl⟩ : ∃ m,n=m+1:=⟨n - 1,by omega⟩
 unfold Q2d.F Q2d.e
 simp only [Q2d.at8]
 unfold Q2d.r8 fitX
 simp only [pData_eq,pNum_eq,Option.bind_some,bif_eq0]
 have hd:c=0∨c=1∨c=2∨c=3∨c=4∨c=5∨c=6:=by omega
 rcases hd with rfl | rfl | rfl | rfl | rfl | rfl | rfl <;> cases isDt o.kd <;> by_cases h4:o.kd=4 <;> by_cases h0:o.k=0 <;> by_cases hb:b.k=0 <;> simp [h4,h0,hb,beq_int]
def inE (os:List OP):List Int→List Int→OP→Int
 | c::cs,a::ar,b=>if ¬ (0≤a∧a≤(os.length:Int) - 1) then 3 else if fitX (os.getD a.toNat zOP) b c=false then 17 else inE os cs ar (os.getD a.toNat zOP)
 | _,_,_=>0
def insX (os:List OP) (x:IN):Int:=if ¬ (0≤x.op∧x.op≤18) then 4 else if x.ar.length≠(cls x.op).length then 37 else inE os (cls x.op) x.ar zOP
theorem chop_ops {op:Int} (h:0≤op∧op≤18):∃ r,chop (op.toNat*1) [.sl ⟨true,3,false⟩ 1 gr0,.sl ⟨true,3,false⟩ 1 gr1,.sl ⟨true,3,false⟩ 1 gr2,.sl ⟨true,3,false⟩ 1 gr3,.sl ⟨true,3,false⟩ 1 gr4,.sl ⟨true,3,false⟩ 1 gr5,.sl ⟨true,3,false⟩ 1 gr6,.sl ⟨true,3,false⟩ 1 gr7,.sl ⟨true,3,false⟩ 1 gr8,.sl ⟨true,3,false⟩ 1 gr9,.sl ⟨true,3,false⟩ 1 gr10,.sl ⟨true,3,false⟩ 1 gr11,.sl ⟨true,3,false⟩ 1 gr12,.sl ⟨true,3,false⟩ 1 gr13,.sl ⟨true,3,false⟩ 1 gr14,.sl ⟨true,3,false⟩ 1 gr15,.sl ⟨true,3,false⟩ 1 gr16,.sl ⟨true,3,false⟩ 1 gr17,.sl ⟨true,3,false⟩ 1 gr18]=.sl ⟨true,3,false⟩ 1 ((cls op).map vi)::r:=by
 rcases op_cases h with rfl | rfl | rfl | rfl | rfl | rfl | rfl | rfl | rfl | rfl | rfl | rfl | rfl | rfl | rfl | rfl | rfl | rfl | rfl <;> exact ⟨_,rfl⟩
theorem op19 {op:Int} (h:0≤op∧op≤18):(decide ((0:Int)≤op)&&decide (op < ((19:Nat):Int)))=true:=by
 rw [Bool.and_eq_true,decide_eq_true_eq,decide_eq_true_eq]; omega
theorem getD_av {os:List OP} {a:Int} (h:0≤a∧a≤(os.length:Int) - 1):(os.map OP.av).getD a.toNat AV.undef=(os.getD a.toNat zOP).av:=by
 have:a.toNat < os.length:=by omega
 simp [List.getD_eq_getElem?_getD,this]
theorem rng {len:Nat} {a:Int} (h:0≤a∧a≤(len:Int) - 1):(decide ((0:Int)≤a)&&decide (a < ((len:Nat):Int)))=true:=by
 rw [Bool.and_eq_true,decide_eq_true_eq,decide_eq_true_eq]; omega
theorem ins_l (hn:1001≤n) (os:List OP) (ho:os.length≤1000) (is:List AV) (ms:List AV) (op:Int) (hop:0≤op∧op≤18) (ar:List Int) (har:ar.length=(cls op).length):∀ (d i m:Nat) (b:OP),i+d=ar.length→d < m→
  Q2f.l n m (.z7 (ar.map vi) ar.length i (os.map OP.av) is ms op (ar.map vi) (bs b.nm) b.kd b.k b.l b.s b.vn (bs b.vx) (bs b.ba) b.of b.tg)=some (inE os ((cls op).drop i) (ar.drop i) b)
 | _,_,0,_,_,h=>absurd h (by omega)
 | 0,i,m+1,b,h,_=>by
  rw [Q2f.at7]
  unfold Q2f.r7
  rw [cond_f (by omega),List.drop_of_length_le (by omega),List.drop_of_length_le (by omega)]
  rfl
 | d+1,i,m+1,b,h,hm=>by
  have hi:i < ar.length:=by omega
  have hic:i < (cls op).length:=by omega
  have hl3:=cls_len hop
  have ih:=fun b=>ins_l hn os ho is ms op hop ar har d (i+1) m b (by omega) (by omega)
  obtain ⟨r,hr⟩:=chop_ops hop
  rw [Q2f.at7]
  unfold Q2f.r7
  rw [hr,List.drop_eq_getElem_cons hi,List.drop_eq_getElem_cons hic]
  unfold inE
  simp (disch:=omega) only [Option.bind_some,Option.bind_none,cond_true,cond_false,Bool.not_true,Bool.not_false,List.length_map,Ws_length,bs_size,within_t,upto_t,wsucc,Int.toNat_natCast,at_mapN,Ws_getDN,cells_agg,cells_v,withCons_cons,withInt_mk,withStr_mk,withBool_mk,withSl_mk,cond_t,cond_f,pin_eq]
  rw [w64 (by omega) (by omega)]
  by_cases hr:0≤ar[i]∧ar[i]≤(os.length:Int) - 1
  ·rw [if_neg (not_not_intro hr),decide_eq_true hr,Bool.not_true,cond_false,bif_none (rng hr),getD_av hr]
   simp only [op19 hop,rng hr,cond_true]
   simp (disch:=omega) only [Option.bind_some,Option.bind_none,cond_true,cond_false,Bool.not_true,Bool.not_false,List.length_map,Ws_length,bs_size,within_t,upto_t,wsucc,Int.toNat_natCast,at_mapN,Ws_getDN,cells_agg,cells_v,withCons_cons,withInt_mk,withStr_mk,withBool_mk,withSl_mk,cond_t,cond_f,OP.av,fits_eq hn (os.getD ar[i].toNat zOP) b _ (cls_range hop _ (List.getElem_mem hic))]
   rw [bif_not]
   cases hf:fitX (os.getD ar[i].toNat zOP) b (cls op)[i] with
   | false=>rfl
   | true=>
    rw [if_neg (by simp),if_neg (by simp)]
    exact ih _
  ·rw [if_pos hr,show decide (0≤ar[i]∧ar[i]≤(os.length:Int) - 1)=false by rw [decide_eq_false_iff_not]; exact hr]
   rfl
theorem insErr_eq (hn:1001≤n) (os:List OP) (ho:os.length≤1000) (is ms:List AV) (x:IN) (hx:x.ar.length≤1000):Q2f.F n (os.map OP.av) is ms x.op (x.ar.map vi)=some (insX os x):=by
 unfold Q2f.F Q2f.e insX
 rw [pin_eq,Option.bind_some,bif_not]
 by_cases hop:0≤x.op∧x.op≤18
 ·obtain ⟨r,hr⟩:=chop_ops hop
  rw [if_neg (by simpa using hop),if_neg (not_not_intro hop),bif_none (op19 hop),hr]
  simp (disch:=omega) only [Option.bind_some,Option.bind_none,cond_true,cond_false,Bool.not_true,Bool.not_false,List.length_map,Ws_length,bs_size,within_t,upto_t,wsucc,Int.toNat_natCast,at_mapN,Ws_getDN,cells_agg,cells_v,withCons_cons,withInt_mk,withStr_mk,withBool_mk,withSl_mk,cond_t,cond_f]
  rw [bifne]
  by_cases hl:x.ar.length=(cls x.op).length
  ·rw [if_pos (by omega),if_neg (by simpa using hl)]
   have h:=ins_l hn os ho is ms x.op hop x.ar hl x.ar.length 0 n zOP (by omega) (by have:=cls_len hop; omega)
   rw [List.drop_zero,List.drop_zero] at h
   exact h
  ·rw [if_neg (by omega),if_pos hl]
 ·rw [if_pos (by simpa using hop),if_pos hop]
def role (c:Int):Int:=if c=1 then 2 else if c=2 then 1 else c
theorem roles_eq (hn:1001≤n) {op:Int} (h:0≤op∧op≤18):Q1h.F n op=some ((cls op).map fun c=>vi (role c)):=by
 obtain ⟨m,rfl⟩ : ∃ m,n=m+1:=⟨n - 1,by omega⟩
 unfold Q1h.F Q1h.e
 simp only [Q1h.at11]
 unfold Q1h.r11
 rcases op_cases h with rfl | rfl | rfl | rfl | rfl | rfl | rfl | rfl | rfl | rfl | rfl | rfl | rfl | rfl | rfl | rfl | rfl | rfl | rfl <;> rfl
def ok4 (os:List OP):Prop:=∀ o∈os,isDt o.kd=true→chkT o.k o.l o.s=0∧o.k≠4
theorem rNum_eq (n:Nat) (o:OP) (h:isDt o.kd=true→chkT o.k o.l o.s=0∧o.k≠4) (hd:isDt o.kd=true):Q1c.F n (bs o.nm) o.kd o.k o.l o.s o.vn (bs o.vx) (bs o.ba) o.of o.tg=some (!decide (o.k=0)):=by
 unfold Q1c.F Q1c.e Q0s.F Q0s.e
 rw [Within_eq,Option.bind_some,Option.bind_some]
 have h1:=chkT_cases (h hd).1
 have h2:=(h hd).2
 congr 1
 by_cases h0:o.k=0
 ·simp [h0]
 ·have:1≤o.k∧o.k≤3:=by omega
  simp [h0,this]
theorem insR_l (hn:1001≤n) (os:List OP) (ho:os.length≤1000) (hok:ok4 os) (is:List AV) (ms:List AV) (op:Int) (hop:0≤op∧op≤18) (ar:List Int) (har:ar.length=(cls op).length):∀ (d i m:Nat) (b:OP),i+d=ar.length→3*d < m→
  (1≤i→∃ a,ar[i - 1]?=some a∧(0≤a∧a≤(os.length:Int) - 1)∧b=os.getD a.toNat zOP∧(((cls op)[i - 1]?=some 0∨(cls op)[i - 1]?=some 1)→isDt b.kd=true))→
  Q1b.l n m (.z7 i (os.map OP.av) is ms op (ar.map vi) ((cls op).map fun c=>vi (role c)))=some (inE os ((cls op).drop i) (ar.drop i) b)
 | _,_,0,_,_,h,_=>absurd h (by omega)
 | 0,i,m+1,b,h,_,_=>by
  rw [Q1b.at7]
  unfold Q1b.r7
  simp only [List.length_map]
  rw [cond_f (by omega),List.drop_of_length_le (by omega),List.drop_of_length_le (by omega)]
  rfl
 | d+1,i,m+1,b,h,hm,hb=>by
  obtain ⟨m,rfl⟩ : ∃ q,m=q+2:=⟨m - 2,by omega⟩
  have hi:i < ar.length:=by omega
  have hic:i < (cls op).length:=by omega
  have hl3:=cls_len hop
  have ih:=fun b=>insR_l hn os ho hok is ms op hop ar har d (i+1) m b (by omega) (by omega)
  rw [Q1b.at7]
  unfold Q1b.r7
  rw [List.drop_eq_getElem_cons hi,List.drop_eq_getElem_cons hic]
  unfold inE
  simp (disch:=omega) only [Option.bind_some,Option.bind_none,cond_true,cond_false,Bool.not_true,Bool.not_false,List.length_map,Ws_length,bs_size,within_t,upto_t,wsucc,Int.toNat_natCast,at_mapN,Ws_getDN,cells_agg,cells_v,withCons_cons,withInt_mk,withStr_mk,withBool_mk,withSl_mk,cond_t,cond_f,Within_eq]
  rw [w64 (by omega) (by omega)]
  by_cases hr:0≤ar[i]∧ar[i]≤(os.length:Int) - 1
  ·have hmem:os.getD ar[i].toNat zOP∈os:=by
    have:ar[i].toNat < os.length:=by omega
    rw [List.getD_eq_getElem?_getD,List.getElem?_eq_getElem this,Option.getD_some]
    exact List.getElem_mem this
   have h28:∀ z,(z=fitX (os.getD ar[i].toNat zOP) b (cls op)[i])→Q1b.l n (m+2) (.z28 i z (os.map OP.av) is ms op (ar.map vi) ((cls op).map fun c=>vi (role c)))=some (if fitX (os.getD ar[i].toNat zOP) b (cls op)[i]=false then 17 else inE os ((cls op).drop (i+1)) (ar.drop (i+1)) (os.getD ar[i].toNat zOP)):=by
    rintro z rfl
    rw [Q1b.at28]
    unfold Q1b.r28
    rw [bif_not]
    cases hf:fitX (os.getD ar[i].toNat zOP) b (cls op)[i] with
    | false=>rfl
    | true=>
     rw [if_neg (by simp),if_neg (by simp),Q1b.at8]
     unfold Q1b.r8
     rw [wsucc (by omega)]
     refine ih _ fun _=>⟨ar[i],by simp,hr,rfl,fun hc=>?_⟩
     rw [Nat.add_sub_cancel,List.getElem?_eq_getElem hic] at hc
     exact fit_dt (by rcases hc with hc | hc; exact .inl (Option.some.inj hc); exact .inr (Option.some.inj hc)) hf
   rw [if_neg (not_not_intro hr),decide_eq_true hr,Bool.not_true,cond_false,bif_none (rng hr),getD_av hr]
   have hnum:isDt (os.getD ar[i].toNat zOP).kd=true→Q1c.F n (bs (os.getD ar[i].toNat zOP).nm) (os.getD ar[i].toNat zOP).kd (os.getD ar[i].toNat zOP).k (os.getD ar[i].toNat zOP).l (os.getD ar[i].toNat zOP).s (os.getD ar[i].toNat zOP).vn (bs (os.getD ar[i].toNat zOP).vx) (bs (os.getD ar[i].toNat zOP).ba) (os.getD ar[i].toNat zOP).of (os.getD ar[i].toNat zOP).tg=some (!decide ((os.getD ar[i].toNat zOP).k=0)):=rNum_eq n _ (hok _ hmem)
   have hcr:=cls_range hop _ (List.getElem_mem hic)
   have hcd:(cls op)[i]=0∨(cls op)[i]=1∨(cls op)[i]=2∨(cls op)[i]=3∨(cls op)[i]=4∨(cls op)[i]=5∨(cls op)[i]=6:=by omega
   generalize hO:os.getD ar[i].toNat zOP=O at *
   have gl:(decide ((0:Int)≤(i:Int))&&decide ((i:Int) < (((cls op).length:Nat):Int)))=true:=within_t hic
   simp only [OP.av,cells_agg,cells_v,withCons_cons,withInt_mk,withStr_mk,gl,cond_true,Int.toNat_natCast,at_mapN (fun c=>vi (role c)) hic,bif_eq0]
   have hdt:isDt O.kd=decide (O.kd=0∨O.kd=1∨O.kd=2∨O.kd=4):=rfl
   rcases hcd with hc | hc | hc | hc | hc | hc | hc
   ·rw [show role (cls op)[i]=0 by rw [hc]; rfl,if_pos rfl,rScalar_eq,Option.bind_some]
    refine h28 _ ?_
    rw [hc]
    unfold fitX
    rw [hdt]
    by_cases h0:O.kd=0 <;> by_cases h1:O.kd=1 <;> by_cases h2:O.kd=2 <;> by_cases h4:O.kd=4 <;> simp [h0,h1,h2,h4]
   ·rw [show role (cls op)[i]=2 by rw [hc]; rfl,if_neg (by decide),if_neg (by decide),if_pos rfl,rData_eq,Option.bind_some]
    refine h28 _ ?_
    rw [hc]
    simp [fitX]
   ·rw [show role (cls op)[i]=1 by rw [hc]; rfl,if_neg (by decide),if_pos rfl,rScalar_eq,Option.bind_some]
    by_cases hs:O.kd=0∨O.kd=1∨O.kd=2
    ·have hd:isDt O.kd=true:=by rw [hdt,decide_eq_true_eq]; omega
     rw [cond_t hs,hnum hd,Option.bind_some]
     refine h28 _ ?_
     rw [hc]
     have h4:¬ O.kd=4:=by omega
     simp [fitX,hd,h4]
    ·rw [cond_f hs]
     refine h28 _ ?_
     rw [hc]
     by_cases h4:O.kd=4
     ·simp [fitX,h4]
     ·have hd:isDt O.kd=false:=by rw [hdt,decide_eq_false_iff_not]; omega
      simp [fitX,hd]
   ·rw [show role (cls op)[i]=3 by rw [hc]; rfl,if_neg (by decide),if_neg (by decide),if_neg (by decide),if_pos rfl,rData_eq,Option.bind_some]
    cases hd:isDt O.kd with
    | true=>
     rw [cond_true,hnum hd,Option.bind_some]
     refine h28 _ ?_
     rw [hc]
     simp [fitX,hd]
    | false=>
     rw [cond_false]
     refine h28 _ ?_
     rw [hc]
     simp [fitX,hd]
   ·rw [show role (cls op)[i]=4 by rw [hc]; rfl,if_neg (by decide),if_neg (by decide),if_neg (by decide),if_neg (by decide),if_pos rfl,rData_eq,Option.bind_some]
    obtain ⟨i1,hp⟩:=cls_alike hop i (by rw [List.getElem?_eq_getElem hic,hc])
    obtain ⟨a',ha1,ha2,ha3,ha4⟩:=hb (by omega)
    have hbd:=ha4 (by rw [i1]; exact hp)
    have hbm:b∈os:=by
     have:a'.toNat < os.length:=by omega
     rw [ha3,List.getD_eq_getElem?_getD,List.getElem?_eq_getElem this,Option.getD_some]
     exact List.getElem_mem this
    cases hd:isDt O.kd with
    | true=>
     have hlt0:0 < ar.length:=by omega
     have hw:IntKind.i64.wrap ((i:Int) - 1)=((0:Nat):Int):=by rw [i1,w64 (by omega) (by omega)]; rfl
     have hg:(ar.map vi).getD 0 AV.undef=vi a':=by
      rw [i1] at ha1
      rw [List.getD_eq_getElem?_getD,List.getElem?_map,show ar[0]?=some a' from ha1]
      rfl
     rw [cond_true,hnum hd,Option.bind_some,hw,within_t hlt0,cond_true,Int.toNat_natCast,hg]
     simp only [cells_v,withCons_cons,withInt_mk]
     rw [bif_none (rng ha2),getD_av ha2,← ha3]
     simp only [OP.av,cells_agg,cells_v,withCons_cons,withInt_mk,withStr_mk]
     rw [rNum_eq n b (hok b hbm) hbd,Option.bind_some]
     refine h28 _ ?_
     rw [hc]
     by_cases k1:O.k=0 <;> by_cases k2:b.k=0 <;> simp [fitX,hd,k1,k2]
    | false=>
     rw [cond_false]
     refine h28 _ ?_
     rw [hc]
     simp [fitX,hd]
   ·rw [show role (cls op)[i]=5 by rw [hc]; rfl,if_neg (by decide),if_neg (by decide),if_neg (by decide),if_neg (by decide),if_neg (by decide),if_pos rfl]
    refine h28 _ ?_
    rw [hc]
    simp [fitX,beq_int]
   ·rw [show role (cls op)[i]=6 by rw [hc]; rfl,if_neg (by decide),if_neg (by decide),if_neg (by decide),if_neg (by decide),if_neg (by decide),if_neg (by decide),if_pos rfl]
    refine h28 _ ?_
    rw [hc]
    simp [fitX,beq_int]
  ·rw [if_pos hr,show decide (0≤ar[i]∧ar[i]≤(os.length:Int) - 1)=false by rw [decide_eq_false_iff_not]; exact hr]
   rfl
theorem insErrR_eq (hn:1001≤n) (os:List OP) (ho:os.length≤1000) (hok:ok4 os) (is ms:List AV) (x:IN) (hx:x.ar.length≤1000):Q1b.F n (os.map OP.av) is ms x.op (x.ar.map vi)=some (insX os x):=by
 unfold Q1b.F Q1b.e insX
 rw [Within_eq,Option.bind_some,bif_not]
 by_cases hop:0≤x.op∧x.op≤18
 ·rw [if_neg (by simpa using hop),if_neg (not_not_intro hop),roles_eq hn hop,Option.bind_some]
  simp only [List.length_map]
  rw [bifne]
  by_cases hl:x.ar.length=(cls x.op).length
  ·rw [if_pos (by omega),if_neg (by simpa using hl)]
   have h:=insR_l hn os ho hok is ms x.op hop x.ar hl x.ar.length 0 n zOP (by omega) (by have:=cls_len hop; omega) (fun h=>by omega)
   rw [List.drop_zero,List.drop_zero] at h
   exact h
  ·rw [if_neg (by omega),if_pos hl]
 ·rw [if_pos (by simpa using hop),if_pos hop]
def monX (nI:Nat) (m:MN):Int:=if 0≤m.fr∧m.fr < m.tt∧m.tt≤(nI:Int)∧(0≤m.ex∧m.ex≤999)∧(0≤m.hd∧m.hd≤(nI:Int) - 1) then 0 else 3
theorem monErr_eq (hn:1001≤n) (os:List AV) (is:List IN) (hi' : is.length≤1000) (ms:List AV) (x:MN):Q2o.F n os (is.map IN.av) ms x.fr x.tt x.ex x.hd=some (monX is.length x):=by
 obtain ⟨m,rfl⟩ : ∃ m,n=m+1:=⟨n - 1,by omega⟩
 unfold Q2o.F Q2o.e monX
 simp only [Q2o.at3]
 unfold Q2o.r3
 simp only [pin_eq,cond_eq,Option.bind_some,List.length_map,ge_iff_le]
 rw [w64 (by omega) (by omega)]
 by_cases h1:0≤x.fr <;> by_cases h2:x.fr < x.tt <;> by_cases h3:x.tt≤(is.length:Int) <;> by_cases h4:0≤x.ex∧x.ex≤999 <;> by_cases h5:0≤x.hd∧x.hd≤(is.length:Int) - 1 <;> simp [h1,h2,h3,h4,h5]
end
end Go.Proofs.YtnoldakbllfmnaaGreatDoor.Ev
namespace Go.Proofs.YtnoldakbllfmnaaGreatDoor.Ev
open Go Go.Proofs Go.Proofs.Ev
set_option linter.unusedVariables false
set_option linter.unusedSimpArgs false
def opsE (nI:Nat):List OP→List OP→Int × Int
 | _,[]=>(0,0)
 | b,o::r=>if opE b o nI≠0 then ((b.length:Int),opE b o nI) else opsE nI (b++[o]) r
def insE (os:List OP):List IN→Nat→Int × Int
 | [],_=>(0,0)
 | x::r,i=>if insX os x≠0 then ((i:Int),insX os x) else insE os r (i+1)
def mosE (nI:Nat):List MN→Nat→Int × Int
 | [],_=>(0,0)
 | x::r,i=>if monX nI x≠0 then ((i:Int),monX nI x) else mosE nI r (i+1)
def check3 (nI:Nat) (ms:List MN):Int × Int × Int:=if (mosE nI ms 0).2≠0 then (3,(mosE nI ms 0).1,(mosE nI ms 0).2) else (0,0,0)
def check2 (os:List OP) (is:List IN) (ms:List MN):Int × Int × Int:=if (insE os is 0).2≠0 then (2,(insE os is 0).1,(insE os is 0).2) else check3 is.length ms
def checkX (os:List OP) (is:List IN) (ms:List MN):Int × Int × Int:=
 if os.length > 24∨is.length > 40∨ms.length > 6 then (0,0,2) else if is.length=0 then (0,0,1)
 else if (opsE is.length [] os).2≠0 then (1,(opsE is.length [] os).1,(opsE is.length [] os).2) else if (layX os).2 > 24 then (0,0,30) else check2 os is ms
theorem opsE_cons (nI:Nat) (b r:List OP) (o:OP):opsE nI b (o::r)=if opE b o nI≠0 then ((b.length:Int),opE b o nI) else opsE nI (b++[o]) r:=rfl
theorem insE_cons (os:List OP) (x:IN) (r:List IN) (i:Nat):insE os (x::r) i=if insX os x≠0 then ((i:Int),insX os x) else insE os r (i+1):=rfl
theorem mosE_cons (nI:Nat) (x:MN) (r:List MN) (i:Nat):mosE nI (x::r) i=if monX nI x≠0 then ((i:Int),monX nI x) else mosE nI r (i+1):=rfl
theorem opE_ok {b:List OP} {o:OP} {nI:Nat} (h:opE b o nI=0):(isDt o.kd=true→chkT o.k o.l o.s=0∧o.k≠4)∧(o.kd=1→(onames b).contains o.ba=true):=by
 unfold opE at h
 split at h
 ·cases h
 split at h
 ·cases h
 split at h
 ·cases h
 split at h
 ·cases h
 split at h
 ·rename_i h5; exact absurd h h5.2
 split at h
 ·cases h
 rename_i h5 h6
 refine ⟨fun hd=>⟨?_,fun h4=>h6 ⟨hd,h4⟩⟩,fun h1=>?_⟩
 ·by_cases hc:chkT o.k o.l o.s=0
  ·exact hc
  ·exact absurd ⟨hd,hc⟩ h5
 ·rw [if_neg (by omega),if_pos (.inl h1)] at h
  unfold baE at h
  cases hc:(onames b).contains o.ba with
  | true=>rfl
  | false=>rw [if_pos hc] at h; cases h
theorem opsE_ok {nI:Nat}:∀ (r b:List OP),(opsE nI b r).2=0→ok4 b→(∀ o∈b,o.kd=1→(onames b).contains o.ba=true)→ok4 (b++r)∧∀ o∈b++r,o.kd=1→(onames (b++r)).contains o.ba=true
 | [],b,_,h1,h2=>by rw [List.append_nil]; exact ⟨h1,h2⟩
 | o::r,b,h,h1,h2=>by
  rw [opsE_cons] at h
  by_cases h0:opE b o nI=0
  ·rw [if_neg (not_not_intro h0)] at h
   obtain ⟨k1,k2⟩:=opE_ok h0
   have:=opsE_ok r (b++[o]) h (fun x hx=>by
    rcases List.mem_append.1 hx with hx | hx
    ·exact h1 x hx
    ·rw [List.mem_singleton] at hx; subst hx; exact k1) (fun x hx hk=>by
    rw [onames,List.map_append,List.contains_eq_mem,decide_eq_true_eq,List.mem_append]
    refine .inl ?_
    rcases List.mem_append.1 hx with hx | hx
    ·have:=h2 x hx hk; rwa [List.contains_eq_mem,decide_eq_true_eq] at this
    ·rw [List.mem_singleton] at hx; subst hx
     have:=k2 hk; rwa [List.contains_eq_mem,decide_eq_true_eq] at this)
   simpa using this
  ·rw [if_pos h0] at h; exact absurd h h0
theorem ops_ok4 {nI:Nat} {os:List OP} (h:(opsE nI [] os).2=0):ok4 os:=by
 have:=(opsE_ok os [] h (fun o ho=>by cases ho) (fun o ho=>by cases ho)).1
 simpa using this
theorem ops_okL {nI:Nat} {os:List OP} (h:(opsE nI [] os).2=0):okL os:=by
 have:=opsE_ok os [] h (fun o ho=>by cases ho) (fun o ho=>by cases ho)
 rw [List.nil_append] at this
 exact ⟨fun o ho hd=>(this.1 o ho hd).1,this.2⟩
section
variable {n:Nat}
theorem take_ok4 {os:List OP} {i nI:Nat} (hi:i < os.length) (h:ok4 (os.take i)) (h0:opE (os.take i) os[i] nI=0):ok4 (os.take (i+1)):=by
 rw [List.take_succ_eq_append_getElem hi]
 intro x hx
 rcases List.mem_append.1 hx with hx | hx
 ·exact h x hx
 ·rw [List.mem_singleton] at hx; subst hx; exact (opE_ok h0).1
theorem ok4T {os:List OP} (h:ok4 os):okT os:=fun o ho hd=>(h o ho hd).1
theorem pMons (hn:1001≤n) (os:List AV) (is:List IN) (hi' : is.length≤1000) (ms:List MN) (hm' : ms.length≤1000) (z7 z8:Int):∀ (d i m:Nat),i+d=ms.length→d < m→
  Q22.l n m (.z23 (ms.map MN.av) ms.length i os (is.map IN.av) (ms.map MN.av) z7 z8)=some (if (mosE is.length (ms.drop i) i).2≠0 then (3,(mosE is.length (ms.drop i) i).1,(mosE is.length (ms.drop i) i).2) else (0,0,0))
 | _,_,0,_,h=>absurd h (by omega)
 | 0,i,m+1,h,_=>by
  rw [Q22.at23]
  unfold Q22.r23
  rw [cond_f (by omega),List.drop_of_length_le (by omega)]
  rfl
 | d+1,i,m+1,h,hm=>by
  have hi:i < ms.length:=by omega
  have ih:=pMons hn os is hi' ms hm' z7 z8 d (i+1) m (by omega) (by omega)
  rw [Q22.at23]
  unfold Q22.r23
  simp (disch:=omega) only [Option.bind_some,Option.bind_none,cond_true,cond_false,Bool.not_true,Bool.not_false,List.length_map,Ws_length,bs_size,within_t,upto_t,wsucc,Int.toNat_natCast,at_mapN,Ws_getDN,cells_agg,cells_v,withCons_cons,withInt_mk,withStr_mk,withBool_mk,withSl_mk,cond_t,cond_f,MN.av]
  rw [monErr_eq hn _ _ hi',Option.bind_some,bifne,ih,List.drop_eq_getElem_cons hi,mosE_cons]
  by_cases h0:monX is.length ms[i]=0
  ·rw [if_pos h0,if_neg (not_not_intro h0)]
  ·rw [if_neg h0,if_pos h0,if_pos h0]
theorem pIns (hn:1001≤n) (os:List OP) (ho:os.length≤1000) (is:List IN) (hi' : is.length≤1000) (hx:∀ x∈is,x.ar.length≤1000) (ms:List MN) (hm' : ms.length≤100) (z7 z8:Int):∀ (d i m:Nat),i+d=is.length→d+200 < m→
  Q22.l n m (.z16 (is.map IN.av) is.length i (os.map OP.av) (is.map IN.av) (ms.map MN.av) z7 z8)=some (if (insE os (is.drop i) i).2≠0 then (2,(insE os (is.drop i) i).1,(insE os (is.drop i) i).2) else check3 is.length ms)
 | _,_,0,_,h=>absurd h (by omega)
 | 0,i,m+1,h,_=>by
  rw [Q22.at16]
  unfold Q22.r16
  rw [cond_f (by omega),List.drop_of_length_le (by omega),List.length_map]
  have:=pMons hn (os.map OP.av) is hi' ms (by omega) z7 z8 ms.length 0 m (by omega) (by omega)
  rw [List.drop_zero] at this
  exact this
 | d+1,i,m+1,h,hm=>by
  have hi:i < is.length:=by omega
  have ih:=pIns hn os ho is hi' hx ms hm' z7 z8 d (i+1) m (by omega) (by omega)
  rw [Q22.at16]
  unfold Q22.r16
  simp (disch:=omega) only [Option.bind_some,Option.bind_none,cond_true,cond_false,Bool.not_true,Bool.not_false,List.length_map,Ws_length,bs_size,within_t,upto_t,wsucc,Int.toNat_natCast,at_mapN,Ws_getDN,cells_agg,cells_v,withCons_cons,withInt_mk,withStr_mk,withBool_mk,withSl_mk,cond_t,cond_f,IN.av]
  rw [insErr_eq hn os ho _ _ is[i] (hx _ (List.getElem_mem hi)),Option.bind_some,bifne,ih,List.drop_eq_getElem_cons hi,insE_cons]
  by_cases h0:insX os is[i]=0
  ·rw [if_pos h0,if_neg (not_not_intro h0)]
  ·rw [if_neg h0,if_pos h0,if_pos h0]
theorem pOps (hn:1001≤n) (os:List OP) (ho:os.length≤28) (is:List IN) (hi' : is.length≤100) (hx:∀ x∈is,x.ar.length≤1000) (ms:List MN) (hm' : ms.length≤100) (z7 z8:Int):∀ (d i m:Nat),i+d=os.length→d+400 < m→ok4 (os.take i)→((opsE is.length (os.take i) (os.drop i)).2=0→(opsE is.length [] os).2=0)→
  Q22.l n m (.z6 os.length i (os.map OP.av) (is.map IN.av) (ms.map MN.av) z7 z8)=some (if (opsE is.length (os.take i) (os.drop i)).2≠0 then (1,(opsE is.length (os.take i) (os.drop i)).1,(opsE is.length (os.take i) (os.drop i)).2) else if (layX os).2 > 24 then (0,0,30) else check2 os is ms)
 | _,_,0,_,h,_,_=>absurd h (by omega)
 | 0,i,m+1,h,_,hok,hz=>by
  rw [List.drop_of_length_le (by omega)] at hz ⊢
  have hL:=ops_okL (hz rfl)
  rw [Q22.at6]
  unfold Q22.r6
  rw [cond_f (by omega),layout_eq hn os ho hL,Option.bind_some,List.length_map]
  have:=pIns hn os (by omega) is (by omega) hx ms hm' z7 z8 is.length 0 m (by omega) (by omega)
  rw [List.drop_zero] at this
  rw [if_neg (by simp [opsE]),bif_ite,show ((0:Int))=((0:Nat):Int) from rfl,this]
  split <;> rfl
 | d+1,i,m+1,h,hm,hok,hz=>by
  have hi:i < os.length:=by omega
  have ih:=pOps hn os ho is hi' hx ms hm' z7 z8 d (i+1) m (by omega) (by omega)
  rw [Q22.at6]
  unfold Q22.r6
  rw [cond_t (by omega),opErr_eq hn os (by omega) is (by omega) _ i hi (ok4T hok),Option.bind_some,bifne,wsucc (by omega)]
  rw [List.drop_eq_getElem_cons hi,opsE_cons] at hz ⊢
  by_cases h0:opE (os.take i) os[i] is.length=0
  ·rw [if_neg (not_not_intro h0),← List.take_succ_eq_append_getElem hi] at hz
   rw [if_pos h0,if_neg (not_not_intro h0),← List.take_succ_eq_append_getElem hi]
   exact ih (take_ok4 hi hok h0) hz
  ·rw [if_neg h0,if_pos h0,if_pos h0,List.length_take,Nat.min_eq_left (by omega)]
theorem check_law (hn:1001≤n) (os:List OP) (ho:os.length≤28) (is:List IN) (hi' : is.length≤100) (hx:∀ x∈is,x.ar.length≤1000) (ms:List MN) (hm' : ms.length≤100):Q22.F n (os.map OP.av) (is.map IN.av) (ms.map MN.av)=some (checkX os is ms):=by
 obtain ⟨m,rfl⟩ : ∃ m,n=m+1:=⟨n - 1,by omega⟩
 unfold Q22.F Q22.e checkX
 simp only [List.length_map,Q22.at2]
 unfold Q22.r2
 simp only [cond_eq,Option.bind_some,first2 hn,bifne,List.length_map]
 have hq:=pOps hn os ho is hi' hx ms hm' 0 0 os.length 0 m (by omega) (by omega) (fun o ho=>by simp at ho) (fun h=>h)
 rw [List.drop_zero,List.take_zero] at hq
 have c1:decide (((os.length:Nat):Int) > 24)=decide (os.length > 24):=by rw [decide_eq_decide]; omega
 have c2:decide (((is.length:Nat):Int) > 40)=decide (is.length > 40):=by rw [decide_eq_decide]; omega
 have c3:decide (((ms.length:Nat):Int) > 6)=decide (ms.length > 6):=by rw [decide_eq_decide]; omega
 rw [c1,c2,c3]
 by_cases h1:os.length > 24
 ·simp [h1]
 ·by_cases h2:is.length > 40
  ·simp [h1,h2]
  ·by_cases h3:ms.length > 6
   ·simp [h1,h2,h3]
   ·by_cases h4:is.length=0
    ·simp [h1,h2,h3,h4]
    ·rw [show ((0:Int))=((0:Nat):Int) from rfl] at hq
     have h4' : ¬ ((is.length:Nat):Int)=0:=by omega
     simp only [h1,h2,h3,h4,h4',decide_false,cond_false,or_self,if_false,beq_int,Bool.false_eq_true,ne_eq,not_true_eq_false,if_true]
     exact hq
end
end Go.Proofs.YtnoldakbllfmnaaGreatDoor.Ev
namespace Go.Proofs.YtnoldakbllfmnaaGreatDoor.Ev
open Go Go.Proofs Go.Proofs.Ev
set_option linter.unusedVariables false
set_option linter.unusedSimpArgs false
section
variable {n:Nat}
theorem rMons (hn:1001≤n) (os:List AV) (is:List IN) (hi' : is.length≤1000) (ms:List MN) (hm' : ms.length≤1000) (z5 z6:Int):∀ (d i m:Nat),i+d=ms.length→d+1 < m→
  Q0z.l n m (.z21 i os (is.map IN.av) (ms.map MN.av) z5 z6)=some (if (mosE is.length (ms.drop i) i).2≠0 then (3,(mosE is.length (ms.drop i) i).1,(mosE is.length (ms.drop i) i).2) else (0,0,0))
 | _,_,0,_,h=>absurd h (by omega)
 | 0,i,m+1,h,_=>by
  rw [Q0z.at21]
  unfold Q0z.r21
  simp only [List.length_map]
  rw [cond_f (by omega),List.drop_of_length_le (by omega)]
  rfl
 | d+1,i,m+1,h,hm=>by
  have hi:i < ms.length:=by omega
  obtain ⟨q,rfl⟩ : ∃ q,m=q+1:=⟨m - 1,by omega⟩
  have ih:=rMons hn os is hi' ms hm' z5 z6 d (i+1) (q+1) (by omega) (by omega)
  have h25:Q0z.l n (q+1) (.z25 (i:Int) z5 z6)=some (3,(i:Int),3):=rfl
  rw [Q0z.at21]
  unfold Q0z.r21
  simp (disch:=omega) only [Option.bind_some,Option.bind_none,cond_true,cond_false,Bool.not_true,Bool.not_false,List.length_map,Ws_length,bs_size,within_t,upto_t,wsucc,Int.toNat_natCast,at_mapN,Ws_getDN,cells_agg,cells_v,withCons_cons,withInt_mk,withStr_mk,withBool_mk,withSl_mk,cond_t,cond_f,MN.av,h25,Within_eq]
  rw [w64 (by omega) (by omega),ih,List.drop_eq_getElem_cons hi,mosE_cons]
  unfold monX
  by_cases h1:0≤ms[i].fr
  ·rw [cond_f (by omega)]
   by_cases h2:ms[i].fr < ms[i].tt
   ·rw [cond_f (by omega)]
    by_cases h3:ms[i].tt≤(is.length:Int)
    ·rw [cond_f (by omega)]
     by_cases h4:0≤ms[i].ex∧ms[i].ex≤999
     ·by_cases h5:0≤ms[i].hd∧ms[i].hd≤(is.length:Int) - 1
      ·simp [h1,h2,h3,h4,h5]
      ·simp [h1,h2,h3,h4,h5]
     ·simp [h1,h2,h3,h4]
    ·rw [cond_t (by omega)]; simp [h1,h2,h3]
   ·rw [cond_t (by omega)]; simp [h1,h2]
  ·rw [cond_t (by omega)]; simp [h1]
theorem rIns (hn:1001≤n) (os:List OP) (ho:os.length≤1000) (hok:ok4 os) (is:List IN) (hi' : is.length≤1000) (hx:∀ x∈is,x.ar.length≤1000) (ms:List MN) (hm' : ms.length≤100) (z5 z6:Int):∀ (d i m:Nat),i+d=is.length→d+200 < m→
  Q0z.l n m (.z15 i (os.map OP.av) (is.map IN.av) (ms.map MN.av) z5 z6)=some (if (insE os (is.drop i) i).2≠0 then (2,(insE os (is.drop i) i).1,(insE os (is.drop i) i).2) else check3 is.length ms)
 | _,_,0,_,h=>absurd h (by omega)
 | 0,i,m+1,h,_=>by
  rw [Q0z.at15]
  unfold Q0z.r15
  simp only [List.length_map]
  rw [cond_f (by omega),List.drop_of_length_le (by omega)]
  have:=rMons hn (os.map OP.av) is hi' ms (by omega) z5 z6 ms.length 0 m (by omega) (by omega)
  rw [List.drop_zero] at this
  exact this
 | d+1,i,m+1,h,hm=>by
  have hi:i < is.length:=by omega
  have ih:=rIns hn os ho hok is hi' hx ms hm' z5 z6 d (i+1) m (by omega) (by omega)
  rw [Q0z.at15]
  unfold Q0z.r15
  simp (disch:=omega) only [Option.bind_some,Option.bind_none,cond_true,cond_false,Bool.not_true,Bool.not_false,List.length_map,Ws_length,bs_size,within_t,upto_t,wsucc,Int.toNat_natCast,at_mapN,Ws_getDN,cells_agg,cells_v,withCons_cons,withInt_mk,withStr_mk,withBool_mk,withSl_mk,cond_t,cond_f,IN.av]
  rw [insErrR_eq hn os ho hok _ _ is[i] (hx _ (List.getElem_mem hi)),Option.bind_some,bifne,ih,List.drop_eq_getElem_cons hi,insE_cons]
  by_cases h0:insX os is[i]=0
  ·rw [if_pos h0,if_neg (not_not_intro h0)]
  ·rw [if_neg h0,if_pos h0,if_pos h0]
theorem rOps (hn:1001≤n) (os:List OP) (ho:os.length≤28) (is:List IN) (hi' : is.length≤100) (hx:∀ x∈is,x.ar.length≤1000) (ms:List MN) (hm' : ms.length≤100) (z5 z6:Int):∀ (d i m:Nat),i+d=os.length→d+400 < m→ok4 (os.take i)→((opsE is.length (os.take i) (os.drop i)).2=0→(opsE is.length [] os).2=0)→
  Q0z.l n m (.z6 i (os.map OP.av) (is.map IN.av) (ms.map MN.av) z5 z6)=some (if (opsE is.length (os.take i) (os.drop i)).2≠0 then (1,(opsE is.length (os.take i) (os.drop i)).1,(opsE is.length (os.take i) (os.drop i)).2) else if (layX os).2 > 24 then (0,0,30) else check2 os is ms)
 | _,_,0,_,h,_,_=>absurd h (by omega)
 | 0,i,m+1,h,_,hok,hz=>by
  rw [List.drop_of_length_le (by omega)] at hz ⊢
  have hL:=ops_okL (hz rfl)
  have h4:=ops_ok4 (hz rfl)
  rw [Q0z.at6]
  unfold Q0z.r6
  simp only [List.length_map]
  rw [cond_f (by omega),layoutR_eq hn os ho hL,Option.bind_some]
  have:=rIns hn os (by omega) h4 is (by omega) hx ms hm' z5 z6 is.length 0 m (by omega) (by omega)
  rw [List.drop_zero] at this
  rw [if_neg (by simp [opsE]),bif_ite,show ((0:Int))=((0:Nat):Int) from rfl,this]
  split <;> rfl
 | d+1,i,m+1,h,hm,hok,hz=>by
  have hi:i < os.length:=by omega
  have ih:=rOps hn os ho is hi' hx ms hm' z5 z6 d (i+1) m (by omega) (by omega)
  rw [Q0z.at6]
  unfold Q0z.r6
  simp only [List.length_map]
  rw [cond_t (by omega),opErrR_eq hn os (by omega) is (by omega) _ i hi (ok4T hok),Option.bind_some,bifne,wsucc (by omega)]
  rw [List.drop_eq_getElem_cons hi,opsE_cons] at hz ⊢
  by_cases h0:opE (os.take i) os[i] is.length=0
  ·rw [if_neg (not_not_intro h0),← List.take_succ_eq_append_getElem hi] at hz
   rw [if_pos h0,if_neg (not_not_intro h0),← List.take_succ_eq_append_getElem hi]
   exact ih (take_ok4 hi hok h0) hz
  ·rw [if_neg h0,if_pos h0,if_pos h0,List.length_take,Nat.min_eq_left (by omega)]
theorem checkR_law (hn:1001≤n) (os:List OP) (ho:os.length≤28) (is:List IN) (hi' : is.length≤100) (hx:∀ x∈is,x.ar.length≤1000) (ms:List MN) (hm' : ms.length≤100):Q0z.F n (os.map OP.av) (is.map IN.av) (ms.map MN.av)=some (checkX os is ms):=by
 obtain ⟨m,rfl⟩ : ∃ m,n=m+1:=⟨n - 1,by omega⟩
 unfold Q0z.F Q0z.e checkX
 have h2' : Q0z.l (m+1) (m+1) (.z2 0 0)=some (0,0,2):=rfl
 simp only [List.length_map,h2']
 have hq:=rOps hn os ho is hi' hx ms hm' 0 0 os.length 0 (m+1) (by omega) (by omega) (fun o ho=>by simp at ho) (fun h=>h)
 rw [List.drop_zero,List.take_zero,show (((0:Nat):Int))=0 from rfl] at hq
 have c1:decide (((os.length:Nat):Int) > 24)=decide (os.length > 24):=by rw [decide_eq_decide]; omega
 have c2:decide (((is.length:Nat):Int) > 40)=decide (is.length > 40):=by rw [decide_eq_decide]; omega
 have c3:decide (((ms.length:Nat):Int) > 6)=decide (ms.length > 6):=by rw [decide_eq_decide]; omega
 rw [c1,c2,c3]
 by_cases h1:os.length > 24
 ·simp [h1]
 ·by_cases h2:is.length > 40
  ·simp [h1,h2]
  ·by_cases h3:ms.length > 6
   ·simp [h1,h2,h3]
   ·by_cases h4:is.length=0
    ·simp [h1,h2,h3,h4]
    ·have h4' : ¬ ((is.length:Nat):Int)=0:=by omega
     simp only [h1,h2,h3,h4,h4',decide_false,cond_false,or_self,if_false,beq_int,Bool.false_eq_true]
     exact hq
theorem awake_eq (n:Nat):Q0p.F n=some true:=rfl
theorem few_x {os:List OP} {is:List IN} {ms:List MN} (h:fewP os is ms=true):os.length≤28∧is.length≤100∧ms.length≤100∧∀ x∈is,x.ar.length≤1000:=by
 obtain ⟨h1,h2,h3,_,h5⟩:=fewP_spec h
 exact ⟨h1,by omega,by omega,fun x hx=>by have:=h5 x hx; omega⟩
end
end Go.Proofs.YtnoldakbllfmnaaGreatDoor.Ev
namespace Go.Proofs.YtnoldakbllfmnaaGreatDoor.Ev
open Go Go.Proofs Go.Proofs.Ev
set_option linter.unusedVariables false
set_option linter.unusedSimpArgs false
section
variable {n:Nat}
abbrev errX (os:List OP) (is:List IN) (ms:List MN):Int:=(checkX os is ms).2.2
theorem programErr_eq (hn:1001≤n) (os:List OP) (ho:os.length≤28) (is:List IN) (hi' : is.length≤100) (hx:∀ x∈is,x.ar.length≤1000) (ms:List MN) (hm' : ms.length≤100):Q2v.F n (os.map OP.av) (is.map IN.av) (ms.map MN.av)=some (errX os is ms):=by
 unfold Q2v.F Q2v.e
 rw [check_law hn os ho is hi' hx ms hm']
 rfl
theorem errR_eq (hn:1001≤n) (os:List OP) (ho:os.length≤28) (is:List IN) (hi' : is.length≤100) (hx:∀ x∈is,x.ar.length≤1000) (ms:List MN) (hm' : ms.length≤100):Q10.F n (os.map OP.av) (is.map IN.av) (ms.map MN.av)=some (errX os is ms):=by
 unfold Q10.F Q10.e
 rw [checkR_law hn os ho is hi' hx ms hm']
 rfl
end
end Go.Proofs.YtnoldakbllfmnaaGreatDoor.Ev
namespace Go.Proofs.YtnoldakbllfmnaaGreatDoor.Ev
open Go Go.Proofs Go.Proofs.Ev
set_option linter.unusedVariables false
set_option linter.unusedSimpArgs false
theorem decS {k:Nat} (h:¬ k < 10):Lib.decDigits k=Lib.decDigits (k / 10)++[UInt8.ofNat (48+k % 10)]:=by rw [Lib.decDigits,dif_neg h]
end Go.Proofs.YtnoldakbllfmnaaGreatDoor.Ev
namespace Go.Proofs.YtnoldakbllfmnaaGreatDoor.Ev
open Go Go.Proofs Go.Proofs.Ev
set_option linter.unusedVariables false
set_option linter.unusedSimpArgs false
def dgs:Nat→Nat→List Nat
 | 0,_=>[]
 | l+1,a=>dgs l (a / 10)++[a % 10]
theorem dgs_len:∀ l a,(dgs l a).length=l
 | 0,_=>rfl
 | l+1,a=>by simp [dgs,dgs_len l]
theorem dgs_lt:∀ l a,∀ d∈dgs l a,d < 10
 | 0,_,d,h=>by cases h
 | l+1,a,d,h=>by
  rcases List.mem_append.1 h with h | h
  ·exact dgs_lt l _ d h
  ·rw [List.mem_singleton] at h; omega
def vuN (l:List Nat):List AV:=l.map fun (j:Nat)=>vu ((j:Nat):Int)
def viN (l:List Nat):List AV:=l.map fun (j:Nat)=>vi ((j:Nat):Int)
theorem vuN_len (l:List Nat):(vuN l).length=l.length:=by simp [vuN]
theorem viN_len (l:List Nat):(viN l).length=l.length:=by simp [viN]
theorem vuN_at {l:List Nat} {i:Nat} (hi:i < l.length):(vuN l).getD i AV.undef=vu ((l[i]:Nat):Int):=by simp [vuN,List.getD_eq_getElem?_getD,hi]
theorem viN_at {l:List Nat} {i:Nat} (hi:i < l.length):(viN l).getD i AV.undef=vi ((l[i]:Nat):Int):=by simp [viN,List.getD_eq_getElem?_getD,hi]
theorem vuN_set (l:List Nat) (i x:Nat):(vuN l).set i (vu (x:Int))=vuN (l.set i x):=by simp [vuN,List.map_set]
theorem viN_set (l:List Nat) (i x:Nat):(viN l).set i (vi (x:Int))=viN (l.set i x):=by simp [viN,List.map_set]
theorem vuN_app (a b:List Nat):vuN a++vuN b=vuN (a++b):=by simp [vuN]
theorem viN_app (a b:List Nat):viN a++viN b=viN (a++b):=by simp [viN]
theorem vuN_rep (k:Nat):List.replicate k (vu 0)=vuN (List.replicate k 0):=by simp [vuN]
theorem viN_rep (k:Nat):List.replicate k (vi 0)=viN (List.replicate k 0):=by simp [viN]
theorem set_rep (k x:Nat) (T:List Nat):(List.replicate (k+1) 0++T).set k x=List.replicate k 0++(x::T):=by
 rw [List.replicate_succ',List.append_assoc,List.set_append_right _ _ (by simp)]
 simp
def toB (l:List Nat):List UInt8:=l.map fun (j:Nat)=>UInt8.ofNat j
theorem toB_len (l:List Nat):(toB l).length=l.length:=by simp [toB]
theorem strOf_vuN:∀ l:List Nat,strOf (vuN l)=some (toB l)
 | []=>rfl
 | x::l=>by
  have ih:=strOf_vuN l
  unfold vuN toB at ih ⊢
  simp only [List.map_cons,strOf,ih,Option.map_some]
  congr 2
theorem alloc_ok {k:Nat} (h:k≤100000):((decide ((0:Int)≤((k:Nat):Int))&&decide ((((k:Nat):Int):Int)≤most))&&decide ((((k:Nat):Int):Int)=((k:Nat):Int))&&true&&true)=true:=by
 have hmost:(most:Int)=1000000000:=rfl
 rw [decide_eq_true (by omega),decide_eq_true (by omega),decide_eq_true rfl]; rfl
theorem w8n {x:Nat} (h:x < 256):IntKind.u8.wrap ((x:Nat):Int)=((x:Nat):Int):=by rw [IntKind.wrap_u8]; omega
section
variable {n:Nat}
theorem digP:∀ (k m b:Nat) (T:List Nat),k < m→b < 10 ^ 18→k+T.length≤100000→Q1s.l n m (.z3 (b:Int) ((k:Int) - 1) (vuN (List.replicate k 0++T)))=some (vuN (dgs k b++T))
 | _,0,_,_,h,_,_=>absurd h (by omega)
 | 0,m+1,b,T,_,_,_=>by
  rw [Q1s.at3]
  unfold Q1s.r3
  rw [cond_f (by omega)]
  rfl
 | k+1,m+1,b,T,h,hb,hT=>by
  have h18:(10:Nat) ^ 18=1000000000000000000:=by decide
  have ih:=digP k m (b / 10) ((b % 10)::T) (by omega) (by omega) (by simp; omega)
  rw [Q1s.at3]
  unfold Q1s.r3
  have e0:(((k+1:Nat):Int) - 1)=((k:Nat):Int):=by omega
  rw [e0,cond_t (by omega)]
  have e1:IntKind.u8.wrap (Int.tmod ((b:Nat):Int) 10)=((b % 10:Nat):Int):=by rw [Int.tmod_eq_emod_of_nonneg (by omega),IntKind.wrap_u8]; omega
  have e2:IntKind.i64.wrap (Int.tdiv ((b:Nat):Int) 10)=((b / 10:Nat):Int):=by rw [Int.tdiv_eq_ediv_of_nonneg (by omega),w64] <;> omega
  simp only [e1,e2]
  rw [bif_none (within_t (by rw [vuN_len]; simp; omega)),Int.toNat_natCast,vuN_set,set_rep,w64 (by omega) (by omega),ih]
  simp [dgs]
theorem digR:∀ (k m b:Nat) (T:List Nat),k < m→b < 10 ^ 18→k+T.length≤100000→Q0x.l n m (.z3 (b:Int) ((k:Int) - 1) (viN (List.replicate k 0++T)))=some (viN (dgs k b++T))
 | _,0,_,_,h,_,_=>absurd h (by omega)
 | 0,m+1,b,T,_,_,_=>by
  rw [Q0x.at3]
  unfold Q0x.r3
  rw [cond_f (by omega)]
  rfl
 | k+1,m+1,b,T,h,hb,hT=>by
  have h18:(10:Nat) ^ 18=1000000000000000000:=by decide
  have ih:=digR k m (b / 10) ((b % 10)::T) (by omega) (by omega) (by simp; omega)
  rw [Q0x.at3]
  unfold Q0x.r3
  have e0:(((k+1:Nat):Int) - 1)=((k:Nat):Int):=by omega
  rw [e0,cond_t (by omega)]
  have e1:Int.tmod ((b:Nat):Int) 10=((b % 10:Nat):Int):=by rw [Int.tmod_eq_emod_of_nonneg (by omega)]; omega
  have e2:IntKind.i64.wrap (Int.tdiv ((b:Nat):Int) 10)=((b / 10:Nat):Int):=by rw [Int.tdiv_eq_ediv_of_nonneg (by omega),w64] <;> omega
  simp only [e1,e2]
  rw [bif_none (within_t (by rw [viN_len]; simp; omega)),Int.toNat_natCast,viN_set,set_rep,w64 (by omega) (by omega),ih]
  simp [dgs]
theorem digP_eq (hn:1001≤n) {b l:Nat} (hb:b < 10 ^ 18) (hl:l≤100):Q1s.F n (b:Int) (l:Int)=some (vuN (dgs l b)):=by
 unfold Q1s.F Q1s.e
 have:=digP (n:=n) l n b [] (by omega) hb (by simp; omega)
 rw [List.append_nil,List.append_nil] at this
 rw [bif_none (alloc_ok (by omega)),Int.toNat_natCast,vuN_rep,w64 (by omega) (by omega)]
 exact this
theorem digR_eq (hn:1001≤n) {b l:Nat} (hb:b < 10 ^ 18) (hl:l≤100):Q0x.F n (b:Int) (l:Int)=some (viN (dgs l b)):=by
 unfold Q0x.F Q0x.e
 have:=digR (n:=n) l n b [] (by omega) hb (by simp; omega)
 rw [List.append_nil,List.append_nil] at this
 rw [bif_none (alloc_ok (by omega)),Int.toNat_natCast,viN_rep,w64 (by omega) (by omega)]
 exact this
def zonN (D:List Nat) (v:Int):List Nat:=if v < 0 then (D.map (·+240)).set (D.length - 1) (D.getD (D.length - 1) 0+208) else D.map (·+240)
theorem zonP (D:List Nat) (hD:∀ d∈D,d < 10) (hl:1≤D.length) (hl2:D.length≤100) (v:Int) (vx:ByteArray):∀ (d i m:Nat),i+d=D.length→d < m→Q1t.l n m (.z5 (D.length:Int) (i:Int) v vx (vuN ((D.take i).map (·+240)++D.drop i)))=some (bs (toB (zonN D v)))
 | _,_,0,_,h=>absurd h (by omega)
 | 0,i,m+1,h,_=>by
  rw [Q1t.at5]
  unfold Q1t.r5
  rw [cond_f (by omega),List.take_of_length_le (by omega),List.drop_of_length_le (by omega),List.append_nil]
  have hml:(D.map (·+240)).length=D.length:=by simp
  have hlt:D.length - 1 < D.length:=by omega
  unfold zonN
  by_cases hv:v < 0
  ·have hx:=hD _ (List.getElem_mem hlt)
   rw [cond_t hv,if_pos hv]
   simp only [vuN_len,hml]
   rw [w64 (by omega) (by omega),show (((D.length:Nat):Int) - 1)=((D.length - 1:Nat):Int) by omega]
   rw [bif_none (within_t hlt),Int.toNat_natCast,vuN_at (by rw [hml]; exact hlt)]
   simp only [cells_v,withCons_cons,withInt_mk]
   rw [bif_none (within_t hlt),List.getElem_map,show (((D[D.length - 1]+240:Nat):Int) - 32)=((D[D.length - 1]+208:Nat):Int) by omega,w8n (by omega),vuN_set,strOf_vuN]
   simp [withSome,List.getD_eq_getElem?_getD,hlt]
  ·rw [cond_f hv,if_neg hv,strOf_vuN]
   rfl
 | d+1,i,m+1,h,hm=>by
  have hi:i < D.length:=by omega
  have ih:=zonP D hD hl hl2 v vx d (i+1) m (by omega) (by omega)
  have hx:=hD _ (List.getElem_mem hi)
  have hL:((D.take i).map (·+240)++D.drop i).length=D.length:=by simp; omega
  rw [Q1t.at5]
  unfold Q1t.r5
  have hg:((D.take i).map (·+240)++D.drop i)[i]'(by rw [hL]; exact hi)=D[i]:=by
   rw [List.getElem_append_right (by simp; omega)]
   simp [Nat.min_eq_left (Nat.le_of_lt hi)]
  have hs:((D.take i).map (·+240)++D.drop i).set i (D[i]+240)=(D.take (i+1)).map (·+240)++D.drop (i+1):=by
   rw [List.set_append_right _ _ (by simp; omega),take_snocL _ hi,List.drop_eq_getElem_cons hi,List.length_map,List.length_take,Nat.min_eq_left (Nat.le_of_lt hi),Nat.sub_self,List.set_cons_zero,List.append_assoc]
   rfl
  rw [cond_t (by omega),vuN_len,hL,bif_none (within_t hi),Int.toNat_natCast,vuN_at (by rw [hL]; exact hi)]
  simp only [cells_v,withCons_cons,withInt_mk]
  rw [bif_none (within_t hi),hg,show (((D[i]:Nat):Int)+240)=((D[i]+240:Nat):Int) by omega,w8n (by omega),vuN_set,hs,wsucc (by omega)]
  exact ih
theorem zonR (D:List Nat) (hD:∀ d∈D,d < 10) (hl:1≤D.length) (hl2:D.length≤100) (k s v:Int) (vx:ByteArray):∀ (d i m:Nat),i+d=D.length→d < m→Q0r.l n m (.z13 (i:Int) k (D.length:Int) s v vx (viN D) (vuN ((D.take i).map (·+240)++List.replicate d 0)))=some (bs (toB (zonN D v)))
 | _,_,0,_,h=>absurd h (by omega)
 | 0,i,m+1,h,_=>by
  rw [Q0r.at13]
  unfold Q0r.r13
  rw [cond_f (by omega),List.take_of_length_le (by omega),List.replicate_zero,List.append_nil]
  have hml:(D.map (·+240)).length=D.length:=by simp
  have hlt:D.length - 1 < D.length:=by omega
  unfold zonN
  by_cases hv:v < 0
  ·have hx:=hD _ (List.getElem_mem hlt)
   rw [cond_t hv,if_pos hv]
   rw [w64 (x:=((D.length:Nat):Int) - 1) (by omega) (by omega),show (((D.length:Nat):Int) - 1)=((D.length - 1:Nat):Int) by omega]
   rw [viN_len,bif_none (within_t hlt),Int.toNat_natCast,viN_at hlt]
   simp only [cells_v,withCons_cons,withInt_mk]
   rw [vuN_len,hml,bif_none (within_t hlt),w64 (by omega) (by omega),show ((208:Int)+((D[D.length - 1]:Nat):Int))=((D[D.length - 1]+208:Nat):Int) by omega,w8n (by omega),vuN_set,strOf_vuN]
   simp [withSome,List.getD_eq_getElem?_getD,hlt]
  ·rw [cond_f hv,if_neg hv,strOf_vuN]
   rfl
 | d+1,i,m+1,h,hm=>by
  have hi:i < D.length:=by omega
  have ih:=zonR D hD hl hl2 k s v vx d (i+1) m (by omega) (by omega)
  have hx:=hD _ (List.getElem_mem hi)
  have hL:((D.take i).map (·+240)++List.replicate (d+1) 0).length=D.length:=by simp; omega
  rw [Q0r.at13]
  unfold Q0r.r13
  have hs:((D.take i).map (·+240)++List.replicate (d+1) 0).set i (D[i]+240)=(D.take (i+1)).map (·+240)++List.replicate d 0:=by
   rw [List.set_append_right _ _ (by simp; omega),take_snocL _ hi]
   simp [Nat.min_eq_left (Nat.le_of_lt hi),List.replicate_succ]
  rw [cond_t (by omega),viN_len,bif_none (within_t hi),Int.toNat_natCast,viN_at hi]
  simp only [cells_v,withCons_cons,withInt_mk]
  rw [vuN_len,hL,bif_none (within_t hi),w64 (x:=(240:Int)+((D[i]:Nat):Int)) (by omega) (by omega),show ((240:Int)+((D[i]:Nat):Int))=((D[i]+240:Nat):Int) by omega,w8n (by omega),vuN_set,hs,wsucc (by omega)]
  exact ih
def pk:List Nat→List Nat
 | x::y::r=>(16*x+y)::pk r
 | _=>[]
theorem pk_len:∀ l:List Nat,(pk l).length=l.length / 2
 | []=>rfl
 | [x]=>by simp [pk]
 | x::y::r=>by simp [pk,pk_len r]; omega
theorem pk_at:∀ (l:List Nat) (i:Nat),2*i+1 < l.length→(pk l)[i]?=some (16*l.getD (2*i) 0+l.getD (2*i+1) 0)
 | x::y::r,0,_=>by simp [pk]
 | x::y::r,i+1,h=>by
  have:=pk_at r i (by simp at h; omega)
  rw [pk,List.getElem?_cons_succ,this,show 2*(i+1)=2*i+1+1 by omega]
  simp [List.getD_eq_getElem?_getD]
 | [x],i,h=>by simp at h
 | [],i,h=>by simp at h
theorem or_nib {x y:Nat} (hx:x < 16) (hy:y < 16):IntKind.u8.wrap ((BitVec.ofInt 8 (IntKind.u8.wrap (((x:Nat):Int)*2 ^ min (4:Int).toNat 8)) ||| BitVec.ofInt 8 ((y:Nat):Int)).toNat:Nat)=((16*x+y:Nat):Int):=by
 have:∀ (x y:Fin 16),IntKind.u8.wrap ((BitVec.ofInt 8 (IntKind.u8.wrap (((x.1:Nat):Int)*2 ^ min (4:Int).toNat 8)) ||| BitVec.ofInt 8 ((y.1:Nat):Int)).toNat:Nat)=((16*x.1+y.1:Nat):Int):=by decide +kernel
 exact this ⟨x,hx⟩ ⟨y,hy⟩
theorem pkP (N:List Nat) (hN:∀ d∈N,d < 16) (hl2:N.length≤100) (he:N.length % 2=0):∀ (d i m:Nat) (acc:List Nat),2*i+2*d=N.length→d < m→acc.length=i→Q1y.l n m (.z3 (vuN N) ((2*i:Nat):Int) (vuN acc))=some (bs (toB (acc++pk (N.drop (2*i)))))
 | _,_,0,_,_,h,_=>absurd h (by omega)
 | 0,i,m+1,acc,h,_,ha=>by
  rw [Q1y.at3]
  unfold Q1y.r3
  simp only [vuN_len]
  rw [cond_f (by omega),strOf_vuN,List.drop_of_length_le (by omega)]
  simp [withSome,pk]
 | d+1,i,m+1,acc,h,hm,ha=>by
  have hi:2*i < N.length:=by omega
  have hj:2*i+1 < N.length:=by omega
  have hmost:most=1000000000:=rfl
  have h1:=hN _ (List.getElem_mem hi)
  have h2:=hN _ (List.getElem_mem hj)
  have ih:=pkP N hN hl2 he d (i+1) m (acc++[16*N[2*i]+N[2*i+1]]) (by omega) (by omega) (by simp; omega)
  rw [Q1y.at3]
  unfold Q1y.r3
  simp only [vuN_len]
  rw [cond_t (by omega),bif_none (within_t hi),Int.toNat_natCast,vuN_at hi]
  simp only [cells_v,withCons_cons,withInt_mk]
  rw [wsucc (by omega),bif_none (within_t hj),Int.toNat_natCast,vuN_at hj]
  simp only [cells_v,withCons_cons,withInt_mk]
  rw [or_nib h1 h2,cond_t (by simp; omega),show ([vu ((16*N[2*i]+N[2*i+1]:Nat):Int)]:List AV)=vuN [16*N[2*i]+N[2*i+1]] from rfl,vuN_app,w64 (by omega) (by omega),show (((2*i:Nat):Int)+2)=((2*(i+1):Nat):Int) by omega,ih]
  rw [List.drop_eq_getElem_cons hi,List.drop_eq_getElem_cons hj,show 2*(i+1)=2*i+1+1 by omega]
  simp [pk]
theorem pkR (N:List Nat) (hN:∀ d∈N,d < 16) (hl2:N.length≤100) (he:N.length % 2=0):∀ (d i m:Nat),2*i+2*d=N.length→d < m→Q0r.l n m (.z24 (i:Int) (viN N) (vuN ((pk N).take i++List.replicate d 0)))=some (bs (toB (pk N)))
 | _,_,0,_,h=>absurd h (by omega)
 | 0,i,m+1,h,_=>by
  have hp:=pk_len N
  rw [Q0r.at24]
  unfold Q0r.r24
  rw [List.take_of_length_le (by omega),List.replicate_zero,List.append_nil]
  simp only [vuN_len]
  rw [cond_f (by omega),strOf_vuN]
  rfl
 | d+1,i,m+1,h,hm=>by
  have hp:=pk_len N
  have hi:2*i < N.length:=by omega
  have hj:2*i+1 < N.length:=by omega
  have hk:i < (pk N).length:=by omega
  have h1:=hN _ (List.getElem_mem hi)
  have h2:=hN _ (List.getElem_mem hj)
  have ih:=pkR N hN hl2 he d (i+1) m (by omega) (by omega)
  have hL:((pk N).take i++List.replicate (d+1) 0).length=i+(d+1):=by simp; omega
  have hv:(pk N)[i]=16*N[2*i]+N[2*i+1]:=by
   have:=pk_at N i hj
   rw [List.getElem?_eq_getElem hk] at this
   have:=Option.some.inj this
   rw [this,List.getD_eq_getElem?_getD,List.getD_eq_getElem?_getD,List.getElem?_eq_getElem hi,List.getElem?_eq_getElem hj]
   rfl
  have hs:((pk N).take i++List.replicate (d+1) 0).set i (16*N[2*i]+N[2*i+1])=(pk N).take (i+1)++List.replicate d 0:=by
   rw [List.set_append_right _ _ (by simp; omega),List.take_succ_eq_append_getElem hk,hv]
   simp [Nat.min_eq_left (Nat.le_of_lt hk),List.replicate_succ]
  rw [Q0r.at24]
  unfold Q0r.r24
  simp only [vuN_len,viN_len,hL]
  rw [cond_t (by omega),w64 (x:=(2:Int)*((i:Nat):Int)) (by omega) (by omega),show ((2:Int)*((i:Nat):Int))=((2*i:Nat):Int) by omega,bif_none (within_t hi),Int.toNat_natCast,viN_at hi]
  simp only [cells_v,withCons_cons,withInt_mk]
  rw [wsucc (by omega),bif_none (within_t hj),Int.toNat_natCast,viN_at hj]
  simp only [cells_v,withCons_cons,withInt_mk]
  rw [bif_none (within_t (by omega)),w64 (x:=(16:Int)*((N[2*i]:Nat):Int)) (by omega) (by omega),w64 (x:=(16:Int)*((N[2*i]:Nat):Int)+((N[2*i+1]:Nat):Int)) (by omega) (by omega),show ((16:Int)*((N[2*i]:Nat):Int)+((N[2*i+1]:Nat):Int))=((16*N[2*i]+N[2*i+1]:Nat):Int) by omega,w8n (by omega),Int.toNat_natCast,vuN_set,hs,wsucc (by omega)]
  exact ih
end
end Go.Proofs.YtnoldakbllfmnaaGreatDoor.Ev
namespace Go.Proofs.YtnoldakbllfmnaaGreatDoor.Ev
open Go Go.Proofs Go.Proofs.Ev
set_option linter.unusedVariables false
set_option linter.unusedSimpArgs false
section
variable {n:Nat}
theorem abs_eq {v:Int} (h:v.natAbs < 10 ^ 15):(if IntKind.i64.wrap (0 - v) > v then IntKind.i64.wrap (0 - v) else v)=((v.natAbs:Nat):Int):=by
 have h15:(10:Nat) ^ 15=1000000000000000:=by decide
 rw [w64 (by omega) (by omega)]
 split <;> omega
end
end Go.Proofs.YtnoldakbllfmnaaGreatDoor.Ev
namespace Go.Proofs.YtnoldakbllfmnaaGreatDoor.Ev
open Go Go.Proofs Go.Proofs.Ev
set_option linter.unusedVariables false
set_option linter.unusedSimpArgs false
theorem chkT_scale {k l s:Int} (h:chkT k l s=0) (h4:k≠4):(k=0∨k=1∨k=2∨k=3)∧1≤l∧l≤256∧(k≠0→l≤15∧0≤s∧s≤15):=by
 unfold chkT at h
 split at h
 ·split at h
  ·cases h
  ·refine ⟨by omega,by omega,by omega,fun h0=>by omega⟩
 split at h
 ·split at h
  ·cases h
  split at h
  ·cases h
  refine ⟨by omega,by omega,by omega,fun _=>by omega⟩
 split at h
 ·split at h
  ·cases h
  split at h
  ·cases h
  refine ⟨by omega,by omega,by omega,fun _=>by omega⟩
 omega
end Go.Proofs.YtnoldakbllfmnaaGreatDoor.Ev
namespace Go.Proofs.YtnoldakbllfmnaaGreatDoor.Ev
open Go Go.Proofs Go.Proofs.Ev
set_option linter.unusedVariables false
set_option linter.unusedSimpArgs false
def nibs (l:Nat) (v:Int):List Nat:=(if l % 2=0 then [0] else [])++dgs l v.natAbs++[if v < 0 then 13 else 15]
def big2 (v:Int):List Nat:=[(v / 256 % 256).toNat,(v % 256).toNat]
def big4 (v:Int):List Nat:=[(v / 16777216 % 256).toNat,(v / 65536 % 256).toNat,(v / 256 % 256).toNat,(v % 256).toNat]
def encX (k l v:Int) (vx:List UInt8):List UInt8:=
 if k=0 then vx else if k=1 then toB (pk (nibs l.toNat v)) else if k=2 then toB (zonN (dgs l.toNat v.natAbs) v) else if l=9 then toB (big4 v) else toB (big2 v)
theorem nibs_len (l:Nat) (v:Int):(nibs l v).length=(l / 2+1)*2:=by
 have:=dgs_len l v.natAbs
 unfold nibs
 rw [List.length_append,List.length_append,this]
 by_cases h:l % 2=0 <;> simp [h] <;> omega
theorem nibs_lt (l:Nat) (v:Int):∀ d∈nibs l v,d < 16:=by
 intro d hd
 unfold nibs at hd
 rcases List.mem_append.1 hd with hd | hd
 ·rcases List.mem_append.1 hd with hd | hd
  ·split at hd
   ·rw [List.mem_singleton] at hd; omega
   ·cases hd
  ·have:=dgs_lt _ _ _ hd; omega
 ·rw [List.mem_singleton] at hd
  split at hd <;> omega
theorem zonN_len (D:List Nat) (v:Int):(zonN D v).length=D.length:=by unfold zonN; split <;> simp
theorem encX_len {k l s v:Int} {vx:List UInt8} (ht:chkT k l s=0) (h4:k≠4) (hx:k=0→(vx.length:Int)=l):((encX k l v vx).length:Int)=szT k l:=by
 obtain ⟨c1,c2,c3,c4⟩:=chkT_scale ht h4
 have hc:=chkT_cases ht
 unfold encX szT
 by_cases h0:k=0
 ·rw [if_pos h0,if_neg (by omega),if_neg (by omega),if_neg h4,hx h0]
 ·rw [if_neg h0]
  by_cases h1:k=1
  ·rw [if_pos h1,if_pos h1,toB_len,pk_len,nibs_len]; omega
  ·rw [if_neg h1,if_neg h1]
   by_cases h2:k=2
   ·rw [if_pos h2,if_neg (show ¬ k=3 by omega),if_neg h4,toB_len,zonN_len,dgs_len]; omega
   ·rw [if_neg h2,if_pos (show k=3 by omega)]
    by_cases h9:l=9
    ·rw [if_pos h9,if_pos h9]; rfl
    ·rw [if_neg h9,if_neg h9]; rfl
section
variable {n:Nat}
theorem bin2P (m:Nat) (v:Int):Q1t.l n (m+3) (.z22 1 v (vuN [0,0]))=some (bs (toB (big2 v))):=by
 have e1:∀ x:Int,IntKind.u8.wrap x=((x % 256).toNat:Nat):=fun x=>by rw [IntKind.wrap_u8]; omega
 have e2:∀ x:Int,Int.fdiv x (2 ^ min (8:Int).toNat 64)=x / 256:=fun x=>by rw [show (2:Int) ^ min (8:Int).toNat 64=256 from rfl,Int.fdiv_eq_ediv_of_nonneg _ (by omega)]
 rw [Q1t.at22]
 unfold Q1t.r22
 simp only [e1,e2]
 rw [cond_t (by omega),bif_none (by rfl),show (1:Int).toNat=1 from rfl,vuN_set,show IntKind.i64.wrap ((1:Int) - 1)=0 from by rw [w64] <;> omega,Q1t.at22]
 unfold Q1t.r22
 simp only [e1,e2]
 rw [cond_t (by omega),bif_none (by rfl),show (0:Int).toNat=0 from rfl,vuN_set,show IntKind.i64.wrap ((0:Int) - 1)=-1 from by rw [w64] <;> omega,Q1t.at22]
 unfold Q1t.r22
 rw [cond_f (by omega),strOf_vuN]
 rfl
theorem bin4P (m:Nat) (v:Int):Q1t.l n (m+5) (.z22 3 v (vuN [0,0,0,0]))=some (bs (toB (big4 v))):=by
 have e1:∀ x:Int,IntKind.u8.wrap x=((x % 256).toNat:Nat):=fun x=>by rw [IntKind.wrap_u8]; omega
 have e2:∀ x:Int,Int.fdiv x (2 ^ min (8:Int).toNat 64)=x / 256:=fun x=>by rw [show (2:Int) ^ min (8:Int).toNat 64=256 from rfl,Int.fdiv_eq_ediv_of_nonneg _ (by omega)]
 rw [Q1t.at22]
 unfold Q1t.r22
 simp only [e1,e2]
 rw [cond_t (by omega),bif_none (by rfl),show (3:Int).toNat=3 from rfl,vuN_set,show IntKind.i64.wrap ((3:Int) - 1)=2 from by rw [w64] <;> omega,Q1t.at22]
 unfold Q1t.r22
 simp only [e1,e2]
 rw [cond_t (by omega),bif_none (by rfl),show (2:Int).toNat=2 from rfl,vuN_set,show IntKind.i64.wrap ((2:Int) - 1)=1 from by rw [w64] <;> omega,Q1t.at22]
 unfold Q1t.r22
 simp only [e1,e2]
 rw [cond_t (by omega),bif_none (by rfl),show (1:Int).toNat=1 from rfl,vuN_set,show IntKind.i64.wrap ((1:Int) - 1)=0 from by rw [w64] <;> omega,Q1t.at22]
 unfold Q1t.r22
 simp only [e1,e2]
 rw [cond_t (by omega),bif_none (by rfl),show (0:Int).toNat=0 from rfl,vuN_set,show IntKind.i64.wrap ((0:Int) - 1)=-1 from by rw [w64] <;> omega,Q1t.at22]
 unfold Q1t.r22
 rw [cond_f (by omega),strOf_vuN]
 have d1:v / 256 / 256=v / 65536:=by omega
 have d2:v / 65536 / 256=v / 16777216:=by omega
 rw [d1,d2]
 rfl
theorem big_step (m:Nat) (v:Int) (s j:Nat) (row:List Nat) (h0:0≤v) (hv:v < 4611686018427387904) (hj:j < s) (hs:s≤8) (hr:row.length=s):Q03.l n (m+1) (.z3 v (s:Int) (j:Int) (vuN row))=Q03.l n m (.z3 (v / 256) (s:Int) ((j+1:Nat):Int) (vuN (row.set (s - 1 - j) (v % 256).toNat))):=by
 rw [Q03.at3]
 unfold Q03.r3
 have e0:IntKind.i64.wrap (IntKind.i64.wrap (((s:Nat):Int) - 1) - ((j:Nat):Int))=((s - 1 - j:Nat):Int):=by rw [w64 (x:=((s:Nat):Int) - 1) (by omega) (by omega),w64 (by omega) (by omega)]; omega
 have e1:IntKind.u8.wrap (Int.tmod v 256)=(((v % 256).toNat:Nat):Int):=by rw [Int.tmod_eq_emod_of_nonneg h0,IntKind.wrap_u8]; omega
 have e2:IntKind.i64.wrap (Int.tdiv v 256)=v / 256:=by rw [Int.tdiv_eq_ediv_of_nonneg h0,w64] <;> omega
 simp only [e0,e1,e2]
 rw [cond_t (by omega),vuN_len,hr,bif_none (within_t (by omega)),Int.toNat_natCast,vuN_set,wsucc (by omega)]
theorem big_end (m:Nat) (v:Int) (s:Nat) (row:List Nat):Q03.l n (m+1) (.z3 v (s:Int) (s:Int) (vuN row))=some (bs (toB row)):=by
 rw [Q03.at3]
 unfold Q03.r3
 rw [cond_f (by omega),strOf_vuN]
 rfl
theorem bin2R (hn:1001≤n) (v:Int) (h0:0≤v) (hv:v < 4611686018427387904):Q03.F n v 2=some (bs (toB (big2 v))):=by
 unfold Q03.F Q03.e
 obtain ⟨m,rfl⟩ : ∃ m,n=m+3:=⟨n - 3,by omega⟩
 rw [bif_none (by rfl),show List.replicate (2:Int).toNat (vu 0)=vuN [0,0] from rfl]
 show Q03.l (m+3) (m+3) (.z3 v ((2:Nat):Int) ((0:Nat):Int) (vuN [0,0]))=_
 rw [big_step (m+2) v 2 0 _ h0 hv (by omega) (by omega) rfl,big_step (m+1) _ 2 1 _ (by omega) (by omega) (by omega) (by omega) rfl,big_end]
 rfl
theorem bin4R (hn:1001≤n) (v:Int) (h0:0≤v) (hv:v < 4611686018427387904):Q03.F n v 4=some (bs (toB (big4 v))):=by
 unfold Q03.F Q03.e
 obtain ⟨m,rfl⟩ : ∃ m,n=m+5:=⟨n - 5,by omega⟩
 rw [bif_none (by rfl),show List.replicate (4:Int).toNat (vu 0)=vuN [0,0,0,0] from rfl]
 show Q03.l (m+5) (m+5) (.z3 v ((4:Nat):Int) ((0:Nat):Int) (vuN [0,0,0,0]))=_
 rw [big_step (m+4) v 4 0 _ h0 hv (by omega) (by omega) rfl,big_step (m+3) _ 4 1 _ (by omega) (by omega) (by omega) (by omega) rfl,big_step (m+2) _ 4 2 _ (by omega) (by omega) (by omega) (by omega) rfl,big_step (m+1) _ 4 3 _ (by omega) (by omega) (by omega) (by omega) rfl,big_end]
 have d1:v / 256 / 256=v / 65536:=by omega
 have d2:v / 65536 / 256=v / 16777216:=by omega
 rw [d1,d2]
 rfl
theorem big2_mod (v:Int):big2 (v+65536)=big2 v:=by
 unfold big2
 have a3:(v+65536) / 256 % 256=v / 256 % 256:=by omega
 have a4:(v+65536) % 256=v % 256:=by omega
 rw [a3,a4]
theorem big4_mod (v:Int):big4 (v+4294967296)=big4 v:=by
 unfold big4
 have a1:(v+4294967296) / 16777216 % 256=v / 16777216 % 256:=by omega
 have a2:(v+4294967296) / 65536 % 256=v / 65536 % 256:=by omega
 have a3:(v+4294967296) / 256 % 256=v / 256 % 256:=by omega
 have a4:(v+4294967296) % 256=v % 256:=by omega
 rw [a1,a2,a3,a4]
theorem encP_eq (hn:1001≤n) {k l s v:Int} {vx:List UInt8} (ht:chkT k l s=0) (h4:k≠4) (hv:v.natAbs < 10 ^ 15):Q1t.F n k l s v (bs vx)=some (bs (encX k l v vx)):=by
 have h15:(10:Nat) ^ 15=1000000000000000:=by decide
 have h18:(10:Nat) ^ 18=1000000000000000000:=by decide
 obtain ⟨c1,c2,c3,c4⟩:=chkT_scale ht h4
 have hc:=chkT_cases ht
 obtain ⟨j,rfl⟩ : ∃ j:Nat,l=j:=⟨l.toNat,by omega⟩
 unfold Q1t.F Q1t.e encX
 simp only [abs_eq hv]
 by_cases hbig:k=0
 ·have hd:∃ r,Q1s.F n ((v.natAbs:Nat):Int) ((j:Nat):Int)=some r:=by
   have:=digP (n:=n) j n v.natAbs [] (by omega) (by omega) (by simp; omega)
   unfold Q1s.F Q1s.e
   rw [bif_none (alloc_ok (by omega)),Int.toNat_natCast,vuN_rep,w64 (by omega) (by omega)]
   rw [List.append_nil,List.append_nil] at this
   exact ⟨_,this⟩
  obtain ⟨r,hr⟩:=hd
  rw [hr,Option.bind_some,bif_eq0,if_neg (by omega),bif_eq0,if_neg (by omega),bif_eq0,if_neg (by omega),if_pos hbig]
 ·have hl:=c4 hbig
  rw [digP_eq hn (by omega) (by omega),Option.bind_some,if_neg hbig,Int.toNat_natCast]
  simp only [bif_eq0]
  have hD:=dgs_len j v.natAbs
  by_cases h1:k=1
  ·rw [if_neg (by omega),if_pos h1,if_pos h1]
   have hm2:Int.tmod (((vuN (dgs j v.natAbs)).length:Nat):Int) 2=((j % 2:Nat):Int):=by rw [vuN_len,hD,Int.tmod_eq_emod_of_nonneg (by omega)]; omega
   have hmost:most=1000000000:=rfl
   have h18' : ∀ (sg:Nat),sg < 16→∀ N:List Nat,(∀ d∈N,d < 16)→(N++[sg]).length % 2=0→N.length≤50→Q1t.l n n (.z18 (sg:Int) (vuN N))=some (bs (toB (pk (N++[sg])))):=by
    intro sg hsg N hN he hNl
    obtain ⟨q,rfl⟩ : ∃ q,n=q+1:=⟨n - 1,by omega⟩
    rw [Q1t.at18]
    unfold Q1t.r18
    rw [show ([vu (sg:Int)]:List AV)=vuN [sg] from rfl,vuN_len,vuN_len,cond_t (by simp; omega),vuN_app]
    have hp:=pkP (n:=q+1) (N++[sg]) (fun d hd=>by
     rcases List.mem_append.1 hd with hd | hd
     ·exact hN d hd
     ·rw [List.mem_singleton] at hd; omega) (by simp; omega) he ((N++[sg]).length / 2) 0 (q+1) [] (by omega) (by simp; omega) rfl
    rw [Nat.mul_zero,List.drop_zero,List.nil_append] at hp
    unfold Q1y.F Q1y.e
    rw [show ((0:Int))=((0:Nat):Int) from rfl,show ([]:List AV)=vuN [] from rfl,hp]
    rfl
   have hdl:∀ d∈dgs j v.natAbs,d < 16:=fun d hd=>by have:=dgs_lt _ _ d hd; omega
   have hdl0:∀ d∈[0]++dgs j v.natAbs,d < 16:=fun d hd=>by
    rcases List.mem_append.1 hd with hd | hd
    ·rw [List.mem_singleton] at hd; omega
    ·exact hdl d hd
   unfold nibs
   simp only [hm2]
   rw [show ([vu 0]:List AV)=vuN [0] from rfl,vuN_app]
   by_cases hneg:v < 0
   ·rw [cond_t hneg,if_pos hneg]
    by_cases he:j % 2=0
    ·rw [if_pos (by omega),if_pos he,cond_t (by rw [vuN_len,vuN_len,hD]; simp; omega)]
     exact h18' 13 (by omega) _ hdl0 (by simp [hD]; omega) (by simp [hD]; omega)
    ·rw [if_neg (by omega),if_neg he]
     exact h18' 13 (by omega) _ hdl (by simp [hD]; omega) (by simp [hD]; omega)
   ·rw [cond_f hneg,if_neg hneg]
    by_cases he:j % 2=0
    ·rw [if_pos (by omega),if_pos he,cond_t (by rw [vuN_len,vuN_len,hD]; simp; omega)]
     exact h18' 15 (by omega) _ hdl0 (by simp [hD]; omega) (by simp [hD]; omega)
    ·rw [if_neg (by omega),if_neg he]
     exact h18' 15 (by omega) _ hdl (by simp [hD]; omega) (by simp [hD]; omega)
  ·by_cases h2:k=2
   ·rw [if_pos h2,if_neg h1,if_pos h2,vuN_len]
    have:=zonP (n:=n) (dgs j v.natAbs) (dgs_lt _ _) (by omega) (by omega) v (bs vx) (dgs j v.natAbs).length 0 n (by omega) (by omega)
    rw [List.take_zero,List.map_nil,List.nil_append,List.drop_zero] at this
    exact this
   ·have h3:k=3:=by omega
    rw [if_neg h2,if_neg h1,if_pos h3,if_neg h1,if_neg h2,nsize_eq n ht,Option.bind_some]
    unfold szT
    rw [if_neg h1,if_pos h3]
    obtain ⟨q,rfl⟩ : ∃ q,n=q+5:=⟨n - 5,by omega⟩
    by_cases h9:((j:Nat):Int)=9
    ·rw [if_pos h9,if_pos h9,bif_none (by rfl)]
     exact bin4P q v
    ·rw [if_neg h9,if_neg h9,bif_none (by rfl)]
     exact bin2P (q+2) v
theorem encR_eq (hn:1001≤n) {k l s v:Int} {vx:List UInt8} (ht:chkT k l s=0) (h4:k≠4) (hv:v.natAbs < 10 ^ 15) (hb:k=3→v.natAbs < 10 ^ l.toNat):Q0r.F n k l s v (bs vx)=some (bs (encX k l v vx)):=by
 have h15:(10:Nat) ^ 15=1000000000000000:=by decide
 have h18:(10:Nat) ^ 18=1000000000000000000:=by decide
 obtain ⟨c1,c2,c3,c4⟩:=chkT_scale ht h4
 have hc:=chkT_cases ht
 obtain ⟨j,rfl⟩ : ∃ j:Nat,l=j:=⟨l.toNat,by omega⟩
 unfold Q0r.F Q0r.e encX
 rw [bif_eq0,bif_eq0]
 by_cases hbig:k=0
 ·rw [if_pos hbig,if_pos hbig]
 ·have hl:=c4 hbig
  rw [if_neg hbig,if_neg hbig]
  by_cases h3:k=3
  ·have hb:=hb h3
   rw [Int.toNat_natCast] at hb
   rw [if_pos h3,if_neg (by omega),if_neg (by omega)]
   simp only [bsize_eq n ht,Option.bind_some]
   unfold szT
   rw [if_neg (by omega),if_pos h3]
   by_cases h9:((j:Nat):Int)=9
   ·obtain rfl:j=9:=by omega
    rw [if_pos h9,if_pos h9]
    have h9' : (10:Nat) ^ 9=1000000000:=by decide
    by_cases hneg:v < 0
    ·rw [cond_t hneg]
     have e:IntKind.i64.wrap ((1:Int)*2 ^ min (IntKind.i64.wrap ((8:Int)*4):Int).toNat 64)=4294967296:=by rfl
     have e0:decide ((0:Int)≤IntKind.i64.wrap ((8:Int)*4))=true:=by rfl
     simp only [e,e0,cond_true]
     rw [w64 (by omega) (by omega),bin4R hn _ (by omega) (by omega),Option.bind_some,big4_mod]
    ·rw [cond_f hneg,bin4R hn _ (by omega) (by omega)]; rfl
   ·obtain rfl:j=4:=by omega
    rw [if_neg h9,if_neg h9]
    have h9' : (10:Nat) ^ 4=10000:=by decide
    by_cases hneg:v < 0
    ·rw [cond_t hneg]
     have e:IntKind.i64.wrap ((1:Int)*2 ^ min (IntKind.i64.wrap ((8:Int)*2):Int).toNat 64)=65536:=by rfl
     have e0:decide ((0:Int)≤IntKind.i64.wrap ((8:Int)*2))=true:=by rfl
     simp only [e,e0,cond_true]
     rw [w64 (by omega) (by omega),bin2R hn _ (by omega) (by omega),Option.bind_some,big2_mod]
    ·rw [cond_f hneg,bin2R hn _ (by omega) (by omega)]; rfl
  ·have hA:Q0q.F n v=some ((v.natAbs:Nat):Int):=by
    unfold Q0q.F Q0q.e
    simp only [abs_eq hv]
   have hD:=dgs_len j v.natAbs
   rw [if_neg h3,hA,Option.bind_some,digR_eq hn (by omega) (by omega),Option.bind_some,bif_eq0,Int.toNat_natCast]
   by_cases h2:k=2
   ·rw [if_pos h2,if_neg (by omega),if_pos h2,bif_none (alloc_ok (by omega))]
    have:=zonR (n:=n) (dgs j v.natAbs) (dgs_lt _ _) (by omega) (by omega) k s v (bs vx) (dgs j v.natAbs).length 0 n (by omega) (by omega)
    rw [List.take_zero,List.map_nil,List.nil_append,hD] at this
    rw [vuN_rep]
    exact this
   ·have h1:k=1:=by omega
    rw [if_neg h2,if_pos h1,bif_eq0]
    have hmost:most=1000000000:=rfl
    have hm2:Int.tmod ((j:Nat):Int) 2=((j % 2:Nat):Int):=by rw [Int.tmod_eq_emod_of_nonneg (by omega)]; omega
    have hsg:IntKind.i64.wrap ((15:Int) - IntKind.i64.wrap ((2:Int)*(if v < 0 then 1 else 0)))=(((if v < 0 then 13 else 15):Nat):Int):=by split <;> rfl
    have fin:∀ (N:List Nat),(∀ d∈N,d < 16)→(N.length % 2=0)→N.length≤60→(bif (decide ((0:Int)≤IntKind.i64.wrap (Int.tdiv (((viN N).length:Nat):Int) 2))&&decide ((IntKind.i64.wrap (Int.tdiv (((viN N).length:Nat):Int) 2):Int)≤most))&&decide True&&true&&true then (Q0r.l n n (.z24 0 (viN N) (List.replicate (IntKind.i64.wrap (Int.tdiv (((viN N).length:Nat):Int) 2)).toNat (vu 0)))) else none)=some (bs (toB (pk N))):=by
     intro N hN he hNl
     have e:IntKind.i64.wrap (Int.tdiv (((viN N).length:Nat):Int) 2)=((N.length / 2:Nat):Int):=by rw [viN_len,Int.tdiv_eq_ediv_of_nonneg (by omega),w64 (by omega) (by omega)]; omega
     have hmi:(most:Int)=1000000000:=rfl
     rw [e,bif_none (by rw [decide_eq_true (show (0:Int)≤((N.length / 2:Nat):Int) by omega),decide_eq_true (show ((N.length / 2:Nat):Int)≤most by omega)]; rfl),Int.toNat_natCast,vuN_rep]
     have:=pkR (n:=n) N hN (by omega) he (N.length / 2) 0 n (by omega) (by omega)
     rw [List.take_zero,List.nil_append] at this
     exact this
    have hlt:=nibs_lt j v
    have hnl:=nibs_len j v
    simp only [hm2,count_eq,Option.bind_some,decide_eq_true_eq,hsg]
    by_cases he:j % 2=0
    ·rw [if_pos (by omega),show ([vi 0]:List AV)=viN [0] from rfl,viN_app,cond_t (by rw [viN_len,viN_len,hD]; simp; omega)]
     rw [show ([vi (((if v < 0 then 13 else 15):Nat):Int)]:List AV)=viN [if v < 0 then 13 else 15] from rfl,viN_app,cond_t (by rw [viN_len,viN_len]; simp [hD]; omega)]
     have hN:nibs j v=[0]++dgs j v.natAbs++[if v < 0 then 13 else 15]:=by unfold nibs; rw [if_pos he]
     rw [← hN]
     exact fin _ hlt (by omega) (by omega)
    ·rw [if_neg (by omega)]
     rw [show ([vi (((if v < 0 then 13 else 15):Nat):Int)]:List AV)=viN [if v < 0 then 13 else 15] from rfl,viN_app,cond_t (by rw [viN_len,viN_len]; simp [hD]; omega)]
     have hN:nibs j v=dgs j v.natAbs++[if v < 0 then 13 else 15]:=by unfold nibs; rw [if_neg he]; rfl
     rw [← hN]
     exact fin _ hlt (by omega) (by omega)
end
end Go.Proofs.YtnoldakbllfmnaaGreatDoor.Ev
namespace Go.Proofs.YtnoldakbllfmnaaGreatDoor.Ev
open Go Go.Proofs Go.Proofs.Ev
set_option linter.unusedVariables false
set_option linter.unusedSimpArgs false
def patch (B:List UInt8) (a:Nat) (E:List UInt8):List UInt8:=B.take a++E++B.drop (a+E.length)
theorem patch_len {B E:List UInt8} {a:Nat} (h:a+E.length≤B.length):(patch B a E).length=B.length:=by
 unfold patch
 rw [List.length_append,List.length_append,List.length_take,List.length_drop]
 omega
def tagsF (q:Nat):List AV:=List.replicate q (vb false)
theorem tagsF_len (q:Nat):(tagsF q).length=q:=by simp [tagsF]
theorem rep0:∀ k,Lib.repeatL [0] k=List.replicate k 0
 | 0=>rfl
 | k+1=>by rw [Lib.repeatL,rep0 k]; rfl
section
variable {n:Nat}
theorem newS_eq (q:Nat) (hq:q≤64):Q3w.F n ((q:Nat):Int)=some (bs (List.replicate (16*q) 0),tagsF q,0):=by
 unfold Q3w.F Q3w.e
 have hw:Q42.F n ((q:Nat):Int) 0 64=some true:=by
  unfold Q42.F Q42.e
  rw [cond_t (by omega),decide_eq_true (by omega)]
 have hr:Q3k.F n (⟨#[0]⟩ : ByteArray) (IntKind.i64.wrap (((q:Nat):Int)*16))=some (bs (List.replicate (16*q) 0)):=by
  rw [w64 (by omega) (by omega),show ((q:Nat):Int)*16=((16*q:Nat):Int) by omega]
  unfold Q3k.F
  have hg:(decide ((0:Int)≤((16*q:Nat):Int))&&decide ((((⟨#[0]⟩ : ByteArray).size:Nat):Int)*((16*q:Nat):Int)≤140737488355328)&&decide (((16*q:Nat):Int)≤9223372036854775807))=true:=by
   rw [show (((⟨#[0]⟩ : ByteArray).size:Nat):Int)=1 from rfl,Bool.and_eq_true,Bool.and_eq_true,decide_eq_true_eq,decide_eq_true_eq,decide_eq_true_eq]
   omega
  rw [hg,cond_true,Int.toNat_natCast]
  show some (bs (Lib.repeatL [0] (16*q)))=_
  rw [rep0]
 rw [hw,Option.bind_some,Bool.not_true,cond_false,hr,Option.bind_some,bif_none (alloc_ok (by omega)),Int.toNat_natCast]
 rfl
theorem checkS_l (B:ByteArray) (q:Nat) (hq:q≤64):∀ (d i m:Nat),i+d=q→d < m→Q3v.l n m (.z9 (tagsF q) (q:Int) (i:Int) B (tagsF q))=some ((q:Int),0)
 | _,_,0,_,h=>absurd h (by omega)
 | 0,i,m+1,h,_=>by
  rw [Q3v.at9]
  unfold Q3v.r9
  rw [cond_f (by omega),tagsF_len]
 | d+1,i,m+1,h,hm=>by
  have hi:i < q:=by omega
  have ih:=checkS_l B q hq d (i+1) m (by omega) (by omega)
  have hg:(tagsF q).getD i AV.undef=vb false:=by simp [tagsF,List.getD_eq_getElem?_getD,hi]
  rw [Q3v.at9]
  unfold Q3v.r9
  rw [cond_t (by omega),tagsF_len,bif_none (within_t hi),Int.toNat_natCast,hg]
  simp only [cells_v,withCons_cons,withBool_mk,Bool.not_false,cond_true]
  rw [wsucc (by omega),ih]
theorem checkS_eq (hn:1001≤n) {B:List UInt8} {q:Nat} (hq:q≤64) (hB:B.length=16*q):Q3v.F n (bs B) (tagsF q)=some ((q:Int),0):=by
 unfold Q3v.F Q3v.e
 have:=checkS_l (n:=n) (bs B) q hq q 0 n (by omega) (by omega)
 simp only [bs_size,hB,tagsF_len]
 rw [cond_f (by omega),bifne,if_pos (by rw [Int.tmod_eq_emod_of_nonneg (by omega)]; omega),bifne,if_pos (by rw [Int.tdiv_eq_ediv_of_nonneg (by omega),w64 (by omega) (by omega)]; omega)]
 exact this
theorem patched_eq {B E:List UInt8} {a:Nat} (h:a+E.length≤B.length) (hB:B.length≤100000):Q0d.F n (bs B) ((a:Nat):Int) (bs E)=some (bs (patch B a E)):=by
 unfold Q0d.F Q0d.e patch
 rw [bs_size,bif_none (upto_t (by omega)),Int.toNat_natCast,bs_take,bs_size,bs_size,List.length_take,chk_t (by omega),bs_append]
 simp only
 have e:IntKind.i64.wrap (((a:Nat):Int)+((E.length:Nat):Int))=((a+E.length:Nat):Int):=by rw [w64 (by omega) (by omega)]; omega
 rw [e,bif_none (upto_t (by omega)),Int.toNat_natCast,show (bs B).extract (a+E.length) B.length=bs (B.drop (a+E.length)) from bs_drop B _,bs_size,bs_size,chk_t (by rw [List.length_append,List.length_take,List.length_drop]; omega),bs_append]
theorem tags_put {q a b:Nat} (h1:a≤b) (h2:b≤q):(tagsF q).take a++List.replicate (b - a) (vb false)++(tagsF q).drop (b - a+a)=tagsF q:=by
 unfold tagsF
 rw [List.take_replicate,List.drop_replicate,List.replicate_append_replicate,List.replicate_append_replicate]
 congr 1
 omega
theorem put_eq {B E:List UInt8} {q a:Nat} (hq:q≤64) (hB:B.length=16*q) (h:a+E.length≤16*q):Q41.F n (bs B) (tagsF q) ((a:Nat):Int) (bs E)=some (bs (patch B a E),tagsF q):=by
 have hmost:most=1000000000:=rfl
 unfold Q41.F Q41.e patch
 rw [bs_size,hB,bif_none (upto_t (by omega)),Int.toNat_natCast,bs_take,bs_size,bs_size,List.length_take,chk_t (by omega),bs_append]
 have e:IntKind.i64.wrap (((a:Nat):Int)+((E.length:Nat):Int))=((a+E.length:Nat):Int):=by rw [w64 (by omega) (by omega)]; omega
 have hdr:(bs B).extract (a+E.length) (16*q)=bs (B.drop (a+E.length)):=by
  have:=bs_drop B (a+E.length)
  rw [bs_size,hB] at this
  exact this
 have hcl:Q33.F n (tagsF q)=some (tagsF q):=by
  unfold Q33.F
  rw [tagsF_len,cond_t (by omega)]
 simp only [e,hcl]
 rw [bif_none (upto_t (by omega)),Int.toNat_natCast,hdr,bs_size,bs_size,chk_t (by rw [List.length_append,List.length_take,List.length_drop]; omega),Option.bind_some,bs_append,empty_eq,bif_not]
 by_cases h0:E=[]
 ·rw [if_neg (by simp [h0])]
 ·have hpos:0 < E.length:=List.length_pos_iff.2 h0
  rw [if_pos (by simp [h0])]
  have e6:IntKind.i64.wrap (Int.tdiv ((a:Nat):Int) 16)=((a / 16:Nat):Int):=by rw [Int.tdiv_eq_ediv_of_nonneg (by omega),w64 (by omega) (by omega)]; omega
  have e8:IntKind.i64.wrap (IntKind.i64.wrap (Int.tdiv (IntKind.i64.wrap (((a+E.length:Nat):Int) - 1)) 16)+1)=(((a+E.length - 1) / 16+1:Nat):Int):=by
   rw [w64 (x:=((a+E.length:Nat):Int) - 1) (by omega) (by omega),Int.tdiv_eq_ediv_of_nonneg (by omega),w64 (x:=(((a+E.length:Nat):Int) - 1) / 16) (by omega) (by omega),w64 (by omega) (by omega)]
   omega
  simp only [e6,e8,tagsF_len]
  rw [bif_none (upto_t (by omega)),bif_none (by rw [Bool.and_eq_true,decide_eq_true_eq,decide_eq_true_eq]; omega),Int.toNat_natCast,show ((((a+E.length - 1) / 16+1:Nat):Int) - ((a / 16:Nat):Int)).toNat=(a+E.length - 1) / 16+1 - a / 16 by omega,tags_put (by omega) (by omega)]
theorem write_eq (hn:1001≤n) {B E:List UInt8} {q a:Nat} (hq:q≤64) (hB:B.length=16*q) (h:a+E.length≤16*q):Q3y.F n (bs B) (tagsF q) ((a:Nat):Int) (bs E)=some (bs (patch B a E),tagsF q,0):=by
 unfold Q3y.F Q3y.e
 have hi:Q3z.F n (bs B) (tagsF q) ((a:Nat):Int) (((bs E).size:Nat):Int)=some 0:=by
  unfold Q3z.F Q3z.e
  rw [checkS_eq hn hq hB,Option.bind_some,bifne,if_pos rfl]
  simp only [bs_size,hB]
  rw [cond_f (by omega),cond_f (by omega),cond_f (by omega),w64 (by omega) (by omega),cond_f (by omega)]
 rw [hi,Option.bind_some,bifne,if_pos rfl,put_eq hq hB h]
 rfl
theorem repR_l (k:Nat) (hk:k≤100000):∀ (d i m:Nat),i+d=k→d < m→Q0f.l n m (.z3 0 (k:Int) (i:Int) (vuN (List.replicate i 0)))=some (bs (List.replicate k 0))
 | _,_,0,_,h=>absurd h (by omega)
 | 0,i,m+1,h,_=>by
  rw [Q0f.at3]
  unfold Q0f.r3
  rw [cond_f (by omega),strOf_vuN,show i=k by omega]
  simp [withSome,toB]
 | d+1,i,m+1,h,hm=>by
  have hmost:most=1000000000:=rfl
  have ih:=repR_l k hk d (i+1) m (by omega) (by omega)
  rw [Q0f.at3]
  unfold Q0f.r3
  rw [cond_t (by omega),show ([vu 0]:List AV)=vuN [0] from rfl,vuN_len,vuN_len,cond_t (by simp; omega),vuN_app,wsucc (by omega),show List.replicate i 0++[0]=List.replicate (i+1) 0 from List.replicate_succ'.symm,ih]
theorem repR_eq (k:Nat) (hk:k≤100000) (hn:100001≤n):Q0f.F n 0 ((k:Nat):Int)=some (bs (List.replicate k 0)):=by
 unfold Q0f.F Q0f.e
 exact repR_l k hk k 0 n (by omega) (by omega)
end
theorem e1_range:∀ (xs:List OP) (a:Int),0≤a→a+16*xs.length≤100000→a≤e1 xs a∧e1 xs a≤a+16*xs.length
 | [],a,_,_=>by simp [e1]
 | x::xs,a,h,h2=>by
  simp only [List.length_cons] at h2 ⊢
  unfold e1
  split
  ·rw [w64 (by omega) (by omega)]
   have:=e1_range xs (a+16) (by omega) (by omega)
   omega
  ·have:=e1_range xs a h (by omega)
   omega
theorem p2_spec:∀ (r:List OP) (i:Nat) (row:List Int) (a:Int),okT r→row.length=i+r.length→0≤a→a+256*r.length≤100000→
  a≤(p2 r i row a).2∧(p2 r i row a).2≤a+256*r.length∧(∀ j,j < i→(p2 r i row a).1[j]?=row[j]?)∧
  ∀ j o,r[j]?=some o→o.kd=0→∃ x,(p2 r i row a).1[i+j]?=some x∧a≤x∧x+szT o.k o.l≤(p2 r i row a).2
 | [],i,row,a,_,_,_,_=>⟨by simp [p2],by simp [p2],fun _ _=>rfl,fun j o h=>by simp at h⟩
 | o::r,i,row,a,hok,hr,h0,h1=>by
  simp only [List.length_cons] at hr h1 ⊢
  have hok' : okT r:=fun x hx=>hok x (List.mem_cons_of_mem _ hx)
  unfold p2
  by_cases hk:o.kd=0
  ·have hs:=szT_range (hok o (by simp) (by simp [isDt,hk]))
   rw [if_pos hk,w64 (by omega) (by omega)]
   obtain ⟨g1,g2,g3,g4⟩:=p2_spec r (i+1) (row.set i a) (a+szT o.k o.l) hok' (by rw [List.length_set]; omega) (by omega) (by omega)
   refine ⟨by omega,by omega,fun j hj=>?_,fun j o' hj hk'=>?_⟩
   ·rw [g3 j (by omega),List.getElem?_set_ne (by omega)]
   ·cases j with
    | zero=>
     simp at hj; subst hj
     exact ⟨a,(g3 i (by omega)).trans (List.getElem?_set_self (by omega)),Int.le_refl _,by omega⟩
    | succ j=>
     obtain ⟨x,x1,x2,x3⟩:=g4 j o' (by simpa using hj) hk'
     exact ⟨x,by rw [show i+(j+1)=i+1+j by omega]; exact x1,by omega,x3⟩
  ·rw [if_neg hk]
   obtain ⟨g1,g2,g3,g4⟩:=p2_spec r (i+1) row a hok' (by omega) h0 (by omega)
   refine ⟨g1,by omega,fun j hj=>g3 j (by omega),fun j o' hj hk'=>?_⟩
   cases j with
   | zero=>simp at hj; subst hj; exact absurd hk' hk
   | succ j=>
    obtain ⟨x,x1,x2,x3⟩:=g4 j o' (by simpa using hj) hk'
    exact ⟨x,by rw [show i+(j+1)=i+1+j by omega]; exact x1,x2,x3⟩
theorem p3_keep (os:List OP):∀ (r:List OP) (i:Nat) (row:List Int) (j:Nat),(∀ o,i≤j→r[j - i]?=some o→o.kd≠1)→(p3 os r i row)[j]?=row[j]?
 | [],i,row,j,_=>rfl
 | o::r,i,row,j,h=>by
  unfold p3
  have h' : ∀ o',i+1≤j→r[j - (i+1)]?=some o'→o'.kd≠1:=fun o' hj ho=>h o' (by omega) (by rw [show j - i=(j - (i+1))+1 by omega]; simpa using ho)
  split
  ·rename_i hk
   rw [p3_keep os r (i+1) _ j h']
   by_cases e:i=j
   ·subst e
    exact absurd hk (h o (Nat.le_refl _) (by simp))
   ·rw [List.getElem?_set_ne e]
  ·exact p3_keep os r (i+1) row j h'
theorem lay_in {os:List OP} (hl:os.length≤28) (hok:okT os) {q:Nat} (hq:(layX os).2=(q:Int)) {i:Nat} (hi:i < os.length) (hk:os[i].kd=0):∃ x:Nat,(layX os).1[i]?=some (x:Int)∧(x:Int)+szT os[i].k os[i].l≤16*(q:Int):=by
 have g:=e1_range os 0 (Int.le_refl _) (by omega)
 obtain ⟨s1,s2,_,s4⟩:=p2_spec os 0 (r1 os 0) (e1 os 0) hok (by rw [r1_length,Nat.zero_add]) (by omega) (by omega)
 obtain ⟨x,x1,x2,x3⟩:=s4 i os[i] (List.getElem?_eq_getElem hi) hk
 rw [Nat.zero_add] at x1
 unfold layX at hq ⊢
 simp only at hq ⊢
 rw [w64 (x:=(p2 os 0 (r1 os 0) (e1 os 0)).2+16) (by omega) (by omega),w64 (x:=(p2 os 0 (r1 os 0) (e1 os 0)).2+16 - 1) (by omega) (by omega),Int.tdiv_eq_ediv_of_nonneg (by omega),w64 (by omega) (by omega)] at hq
 refine ⟨x.toNat,?_,by omega⟩
 rw [p3_keep os os 0 _ i (fun o _ ho=>by rw [Nat.sub_zero,List.getElem?_eq_getElem hi] at ho; cases ho; omega),x1,show ((x.toNat:Nat):Int)=x by omega]
theorem lay_q {os:List OP} (hl:os.length≤28) (hok:okT os):∃ q:Nat,(layX os).2=(q:Int):=by
 have g:=e1_range os 0 (Int.le_refl _) (by omega)
 obtain ⟨s1,s2,_,_⟩:=p2_spec os 0 (r1 os 0) (e1 os 0) hok (by rw [r1_length,Nat.zero_add]) (by omega) (by omega)
 unfold layX
 simp only
 rw [w64 (x:=(p2 os 0 (r1 os 0) (e1 os 0)).2+16) (by omega) (by omega),w64 (x:=(p2 os 0 (r1 os 0) (e1 os 0)).2+16 - 1) (by omega) (by omega),Int.tdiv_eq_ediv_of_nonneg (by omega),w64 (by omega) (by omega)]
 exact ⟨(((p2 os 0 (r1 os 0) (e1 os 0)).2+16 - 1) / 16).toNat,by omega⟩
end Go.Proofs.YtnoldakbllfmnaaGreatDoor.Ev
namespace Go.Proofs.YtnoldakbllfmnaaGreatDoor.Ev
open Go Go.Proofs Go.Proofs.Ev
set_option linter.unusedVariables false
set_option linter.unusedSimpArgs false
def flat:List (List UInt8)→List UInt8
 | []=>[]
 | w::r=>w++[59,10]++flat r
section
variable {n:Nat}
theorem insE_ok {os:List OP}:∀ {is:List IN} {i:Nat},(insE os is i).2=0→∀ x∈is,insX os x=0
 | [],_,_=>fun _ h=>by cases h
 | x::r,i,h=>by
  rw [insE_cons] at h
  by_cases h0:insX os x=0
  ·rw [if_neg (not_not_intro h0)] at h
   intro y hy
   rcases List.mem_cons.1 hy with rfl | hy
   ·exact h0
   ·exact insE_ok h y hy
  ·rw [if_pos h0] at h; exact absurd h h0
theorem mosE_ok {nI:Nat}:∀ {ms:List MN} {i:Nat},(mosE nI ms i).2=0→∀ x∈ms,monX nI x=0
 | [],_,_=>fun _ h=>by cases h
 | x::r,i,h=>by
  rw [mosE_cons] at h
  by_cases h0:monX nI x=0
  ·rw [if_neg (not_not_intro h0)] at h
   intro y hy
   rcases List.mem_cons.1 hy with rfl | hy
   ·exact h0
   ·exact mosE_ok h y hy
  ·rw [if_pos h0] at h; exact absurd h h0
structure OkP (os:List OP) (is:List IN) (ms:List MN):Prop where
 lens:os.length≤24∧1≤is.length∧is.length≤40∧ms.length≤6
 ops:(opsE is.length [] os).2=0
 quads:(layX os).2≤24
 ins:∀ x∈is,insX os x=0
 mos:∀ m∈ms,monX is.length m=0
theorem errX_ok {os:List OP} {is:List IN} {ms:List MN} (h:errX os is ms=0):OkP os is ms:=by
 unfold errX checkX at h
 split at h
 ·cases h
 rename_i h1
 split at h
 ·cases h
 rename_i h2
 split at h
 ·rename_i h3; exact absurd h h3
 rename_i h3
 split at h
 ·cases h
 rename_i h4
 unfold check2 at h
 split at h
 ·rename_i h5; exact absurd h h5
 rename_i h5
 unfold check3 at h
 split at h
 ·rename_i h6; exact absurd h h6
 rename_i h6
 exact ⟨by omega,Classical.not_not.1 h3,by omega,insE_ok (Classical.not_not.1 h5),mosE_ok (Classical.not_not.1 h6)⟩
end
end Go.Proofs.YtnoldakbllfmnaaGreatDoor.Ev
namespace Go.Proofs.YtnoldakbllfmnaaGreatDoor.Ev
open Go Go.Proofs Go.Proofs.Ev
set_option linter.unusedVariables false
set_option linter.unusedSimpArgs false
def ini:List OP→Nat→List Int→List UInt8→List UInt8
 | [],_,_,B=>B
 | o::r,i,row,B=>if o.kd=0 then ini r (i+1) row (patch B (row.getD i 0).toNat (encX o.k o.l o.vn o.vx)) else ini r (i+1) row B
theorem ini_cons (o:OP) (r:List OP) (i:Nat) (row:List Int) (B:List UInt8):ini (o::r) i row B=if o.kd=0 then ini r (i+1) row (patch B (row.getD i 0).toNat (encX o.k o.l o.vn o.vx)) else ini r (i+1) row B:=rfl
def okV (o:OP):Prop:=o.kd=0→(chkT o.k o.l o.s=0∧o.k≠4)∧valE o.k o.l o.vn o.vx=0
theorem opE_val {b:List OP} {o:OP} {nI:Nat} (h:opE b o nI=0):okV o:=by
 intro hk
 have hty:=(opE_ok h).1 (by simp [isDt,hk])
 refine ⟨hty,?_⟩
 unfold opE at h
 split at h
 ·cases h
 split at h
 ·cases h
 split at h
 ·cases h
 split at h
 ·cases h
 split at h
 ·rename_i h5; exact absurd h h5.2
 split at h
 ·cases h
 rw [if_pos (.inl hk)] at h
 exact h
theorem opsE_val {nI:Nat}:∀ (r b:List OP),(opsE nI b r).2=0→∀ o∈r,okV o
 | [],_,_=>fun _ ho=>by cases ho
 | o::r,b,h=>by
  rw [opsE_cons] at h
  by_cases h0:opE b o nI=0
  ·rw [if_neg (not_not_intro h0)] at h
   intro x hx
   rcases List.mem_cons.1 hx with rfl | hx
   ·exact opE_val h0
   ·exact opsE_val r (b++[o]) h x hx
  ·rw [if_pos h0] at h; exact absurd h h0
theorem valE_in {k l s v:Int} {vx:List UInt8} (ht:chkT k l s=0) (h4:k≠4) (h:valE k l v vx=0):v.natAbs < 10 ^ 15∧(k=0→(vx.length:Int)=l)∧(k=3→v.natAbs < 10 ^ l.toNat):=by
 have h15:(10:Nat) ^ 15=1000000000000000:=by decide
 obtain ⟨c1,c2,c3,c4⟩:=chkT_scale ht h4
 unfold valE at h
 by_cases h0:k=0
 ·rw [if_pos h0] at h
  split at h
  ·cases h
  rename_i h1
  split at h
  ·cases h
  rename_i h2
  exact ⟨by omega,fun _=>Classical.not_not.1 h2,fun h3=>by omega⟩
 ·rw [if_neg h0] at h
  split at h
  ·cases h
  split at h
  ·cases h
  rename_i h7
  have h7:=Classical.not_not.1 h7
  have hp:10 ^ l.toNat≤10 ^ 15:=Nat.pow_le_pow_right (by omega) (by have:=c4 h0; omega)
  unfold mostT at h7
  exact ⟨by omega,fun h=>absurd h h0,fun _=>by omega⟩
section
variable {n:Nat}
theorem step_in {os:List OP} (hl:os.length≤28) (hok:okT os) {q:Nat} (hq:(layX os).2=(q:Int)) {i:Nat} (hi:i < os.length) (hk:os[i].kd=0) (hv:okV os[i]):∃ x:Nat,(layX os).1[i]?=some (x:Int)∧x+(encX os[i].k os[i].l os[i].vn os[i].vx).length≤16*q:=by
 obtain ⟨x,x1,x2⟩:=lay_in hl hok hq hi hk
 obtain ⟨⟨ht,h4⟩,hv⟩:=hv hk
 have:=encX_len (v:=os[i].vn) ht h4 (valE_in ht h4 hv).2.1
 exact ⟨x,x1,by omega⟩
theorem iniP (hn:1001≤n) (os:List OP) (ho:os.length≤28) (hok:okT os) (hv:∀ o∈os,okV o) {q:Nat} (hq:(layX os).2=(q:Int)) (hq2:q≤64) (z5:ByteArray):∀ (d i m:Nat) (B:List UInt8),i+d=os.length→2*d < m→B.length=16*q→
  Q24.l n m (.z7 0 (os.map OP.av) os.length i z5 ((layX os).1.map vi) (bs B) (tagsF q))=some (bs (ini (os.drop i) i (layX os).1 B),tagsF q,0)
 | _,_,0,_,_,h,_=>absurd h (by omega)
 | 0,i,m+1,B,h,_,hB=>by
  rw [Q24.at7]
  unfold Q24.r7
  rw [cond_f (by omega),List.drop_of_length_le (by omega)]
  rfl
 | d+1,i,m+1,B,h,hm,hB=>by
  have hi:i < os.length:=by omega
  obtain ⟨m,rfl⟩ : ∃ q,m=q+1:=⟨m - 1,by omega⟩
  have ih:=fun B' hB'=>iniP hn os ho hok hv hq hq2 z5 d (i+1) m B' (by omega) (by omega) hB'
  have h14:∀ B',B'.length=16*q→Q24.l n (m+1) (.z14 0 (os.map OP.av) os.length i z5 ((layX os).1.map vi) (bs B') (tagsF q))=some (bs (ini (os.drop (i+1)) (i+1) (layX os).1 B'),tagsF q,0):=by
   intro B' hB'
   rw [Q24.at14]
   unfold Q24.r14
   rw [wsucc (by omega),ih B' hB']
  have hll:=layX_length os
  rw [Q24.at7]
  unfold Q24.r7
  simp (disch:=omega) only [Option.bind_some,Option.bind_none,cond_true,cond_false,Bool.not_true,Bool.not_false,List.length_map,Ws_length,bs_size,within_t,upto_t,wsucc,Int.toNat_natCast,at_mapN,Ws_getDN,cells_agg,cells_v,withCons_cons,withInt_mk,withStr_mk,withBool_mk,withSl_mk,cond_t,cond_f,OP.av]
  rw [bifne,List.drop_eq_getElem_cons hi,ini_cons]
  by_cases hk:os[i].kd=0
  ·rw [if_pos hk,if_pos hk,bifne,if_pos rfl]
   obtain ⟨x,x1,x2⟩:=step_in ho hok hq hi hk (hv _ (List.getElem_mem hi))
   obtain ⟨⟨ht,h4⟩,hve⟩:=hv _ (List.getElem_mem hi) hk
   have hvi:=valE_in ht h4 hve
   have hE:Q1n.F n os[i].k os[i].l os[i].s os[i].vn (bs os[i].vx)=some (bs (encX os[i].k os[i].l os[i].vn os[i].vx),0):=by
    unfold Q1n.F Q1n.e
    rw [checkValue_eq hn ht h4,Option.bind_some,bifne,if_pos hve,encP_eq hn ht h4 hvi.1]
    rfl
   have hlt:i < (layX os).1.length:=by omega
   have hg:(layX os).1[i]=(x:Int):=by rw [List.getElem?_eq_getElem hlt] at x1; exact Option.some.inj x1
   rw [hE,Option.bind_some,bifne,if_pos rfl]
   simp only [hg]
   rw [write_eq hn hq2 hB x2,Option.bind_some,h14 _ (by rw [patch_len (by omega),hB]),List.getD_eq_getElem?_getD,x1,Option.getD_some,Int.toNat_natCast]
  ·rw [if_neg hk,if_neg hk,h14 _ hB]
theorem iniR (hn:1001≤n) (os:List OP) (ho:os.length≤28) (hok:okT os) (hv:∀ o∈os,okV o) {q:Nat} (hq:(layX os).2=(q:Int)) (hq2:q≤64) (a1 a2:List AV) (z5:ByteArray) (z8:List AV):∀ (d i m:Nat) (B:List UInt8),i+d=os.length→d < m→B.length=16*q→
  Q12.l n m (.z4 i (os.map OP.av) a1 a2 z5 ((layX os).1.map vi) (bs B) z8)=some (bs (ini (os.drop i) i (layX os).1 B),z8)
 | _,_,0,_,_,h,_=>absurd h (by omega)
 | 0,i,m+1,B,h,_,hB=>by
  rw [Q12.at4]
  unfold Q12.r4
  simp only [List.length_map]
  rw [cond_f (by omega),List.drop_of_length_le (by omega)]
  rfl
 | d+1,i,m+1,B,h,hm,hB=>by
  have hi:i < os.length:=by omega
  have ih:=fun B' hB'=>iniR hn os ho hok hv hq hq2 a1 a2 z5 z8 d (i+1) m B' (by omega) (by omega) hB'
  have hll:=layX_length os
  rw [Q12.at4]
  unfold Q12.r4
  simp (disch:=omega) only [Option.bind_some,Option.bind_none,cond_true,cond_false,Bool.not_true,Bool.not_false,List.length_map,Ws_length,bs_size,within_t,upto_t,wsucc,Int.toNat_natCast,at_mapN,Ws_getDN,cells_agg,cells_v,withCons_cons,withInt_mk,withStr_mk,withBool_mk,withSl_mk,cond_t,cond_f,OP.av]
  rw [bif_eq0,List.drop_eq_getElem_cons hi,ini_cons]
  by_cases hk:os[i].kd=0
  ·rw [if_pos hk,if_pos hk]
   obtain ⟨x,x1,x2⟩:=step_in ho hok hq hi hk (hv _ (List.getElem_mem hi))
   obtain ⟨⟨ht,h4⟩,hve⟩:=hv _ (List.getElem_mem hi) hk
   have hvi:=valE_in ht h4 hve
   have hlt:i < (layX os).1.length:=by omega
   have hg:(layX os).1[i]=(x:Int):=by rw [List.getElem?_eq_getElem hlt] at x1; exact Option.some.inj x1
   simp only [hg]
   rw [encR_eq hn ht h4 hvi.1 hvi.2.2,Option.bind_some,patched_eq (by omega) (by omega),Option.bind_some,ih _ (by rw [patch_len (by omega),hB]),List.getD_eq_getElem?_getD,x1,Option.getD_some,Int.toNat_natCast]
  ·rw [if_neg hk,if_neg hk,ih _ hB]
theorem layoutF_eq (hn:1000002≤n) {os:List OP} {is:List IN} {ms:List MN} (h:fewP os is ms=true):Q25.F n (os.map OP.av) (is.map IN.av) (ms.map MN.av)=some (if errX os is ms≠0 then ([],0,errX os is ms) else ((layX os).1.map vi,(layX os).2,0)):=by
 obtain ⟨h1,h2,h3,h4⟩:=few_x h
 unfold Q25.F Q25.e
 rw [programErr_eq (by omega) os h1 is h2 h4 ms h3,Option.bind_some,bifne]
 by_cases he:errX os is ms=0
 ·rw [if_pos he,if_neg (not_not_intro he),layout_eq (by omega) os h1 (ops_okL (errX_ok he).ops)]
  rfl
 ·rw [if_neg he,if_pos he]
theorem storeP_eq (hn:1000002≤n) {os:List OP} {is:List IN} {ms:List MN} (h:fewP os is ms=true) (he:errX os is ms=0):∃ q:Nat,q≤24∧(layX os).2=(q:Int)∧Q24.F n (os.map OP.av) (is.map IN.av) (ms.map MN.av)=some (bs (ini os 0 (layX os).1 (List.replicate (16*q) 0)),tagsF q,0)∧
  Q12.F n (os.map OP.av) (is.map IN.av) (ms.map MN.av)=some (bs (ini os 0 (layX os).1 (List.replicate (16*q) 0)),tagsF q):=by
 obtain ⟨h1,h2,h3,h4⟩:=few_x h
 have ok:=errX_ok he
 have hL:=ops_okL ok.ops
 have hV:=opsE_val os [] ok.ops
 obtain ⟨q,hq⟩:=lay_q h1 hL.1
 have hqq:=ok.quads
 refine ⟨q,by omega,hq,?_,?_⟩
 ·unfold Q24.F Q24.e
  rw [programErr_eq (by omega) os h1 is h2 h4 ms h3,Option.bind_some,bifne,if_pos he,layout_eq (by omega) os h1 hL,Option.bind_some]
  simp only [hq]
  rw [newS_eq q (by omega),Option.bind_some,List.length_map]
  have:=iniP (n:=n) (by omega) os h1 hL.1 hV hq (by omega) (⟨#[]⟩ : ByteArray) os.length 0 n (List.replicate (16*q) 0) (by omega) (by omega) (by simp)
  rw [List.drop_zero] at this
  exact this
 ·unfold Q12.F Q12.e
  rw [layoutR_eq (by omega) os h1 hL,Option.bind_some]
  simp only [hq]
  rw [w64 (by omega) (by omega),show ((q:Nat):Int)*16=((16*q:Nat):Int) by omega,repR_eq _ (by omega) (by omega),Option.bind_some,bif_none (by rw [decide_eq_true (show (0:Int)≤(q:Int) by omega),decide_eq_true (show (q:Int)≤most by have hm:(most:Int)=1000000000:=rfl; omega)]; rfl),Int.toNat_natCast]
  have:=iniR (n:=n) (by omega) os h1 hL.1 hV hq (by omega) (is.map IN.av) (ms.map MN.av) (⟨#[]⟩ : ByteArray) (tagsF q) os.length 0 n (List.replicate (16*q) 0) (by omega) (by omega) (by simp)
  rw [List.drop_zero] at this
  exact this
end
end Go.Proofs.YtnoldakbllfmnaaGreatDoor.Ev
namespace Go.Proofs.YtnoldakbllfmnaaGreatDoor.Ev
open Go Go.Proofs Go.Proofs.Ev
set_option linter.unusedVariables false
set_option linter.unusedSimpArgs false
theorem r1_spec:∀ (xs:List OP) (a:Int),0≤a→a+16*xs.length≤100000→∀ (i:Nat) (o:OP),xs[i]?=some o→(o.kd=3→∃ y,(r1 xs a)[i]?=some y∧a≤y∧(y - a) % 16=0∧y+16≤e1 xs a)∧(o.kd≠3→(r1 xs a)[i]?=some (-1))
 | [],a,_,_,i,o,h=>by simp at h
 | x::xs,a,h0,h1,i,o,h=>by
  simp only [List.length_cons] at h1
  unfold r1 e1
  by_cases hx:x.kd=3
  ·rw [if_pos hx,if_pos hx,w64 (by omega) (by omega)]
   cases i with
   | zero=>
    simp at h; subst h
    have g:=e1_range xs (a+16) (by omega) (by omega)
    exact ⟨fun _=>⟨a,by simp,Int.le_refl _,by simp,by omega⟩,fun hn=>absurd hx hn⟩
   | succ i=>
    obtain ⟨g1,g2⟩:=r1_spec xs (a+16) (by omega) (by omega) i o (by simpa using h)
    refine ⟨fun hk=>?_,fun hk=>by simpa using g2 hk⟩
    obtain ⟨y,y1,y2,y3,y4⟩:=g1 hk
    exact ⟨y,by simpa using y1,by omega,by omega,y4⟩
  ·rw [if_neg hx,if_neg hx]
   cases i with
   | zero=>simp at h; subst h; exact ⟨fun hn=>absurd hn hx,fun _=>by simp⟩
   | succ i=>
    obtain ⟨g1,g2⟩:=r1_spec xs a h0 (by omega) i o (by simpa using h)
    refine ⟨fun hk=>?_,fun hk=>by simpa using g2 hk⟩
    obtain ⟨y,y1,y2,y3,y4⟩:=g1 hk
    exact ⟨y,by simpa using y1,y2,y3,y4⟩
theorem r1_pair:∀ (xs:List OP) (a:Int),0≤a→a+16*xs.length≤100000→∀ (i j:Nat) (oi oj:OP) (yi yj:Int),i < j→xs[i]?=some oi→xs[j]?=some oj→oi.kd=3→oj.kd=3→(r1 xs a)[i]?=some yi→(r1 xs a)[j]?=some yj→yi+16≤yj
 | [],a,_,_,i,j,oi,oj,yi,yj,_,h,_,_,_,_,_=>by simp at h
 | x::xs,a,h0,h1,i,j,oi,oj,yi,yj,hij,hi,hj,ki,kj,ei,ej=>by
  simp only [List.length_cons] at h1
  obtain ⟨j,rfl⟩ : ∃ q,j=q+1:=⟨j - 1,by omega⟩
  have hj' : xs[j]?=some oj:=by simpa using hj
  unfold r1 at ei ej
  by_cases hx:x.kd=3
  ·rw [if_pos hx,w64 (by omega) (by omega)] at ei ej
   have ej' : (r1 xs (a+16))[j]?=some yj:=by simpa using ej
   cases i with
   | zero=>
    have:a=yi:=by simpa using ei
    obtain ⟨g1,_⟩:=r1_spec xs (a+16) (by omega) (by omega) j oj hj'
    obtain ⟨y,y1,y2,_,_⟩:=g1 kj
    rw [y1] at ej'
    have:=Option.some.inj ej'
    omega
   | succ i=>exact r1_pair xs (a+16) (by omega) (by omega) i j oi oj yi yj (by omega) (by simpa using hi) hj' ki kj (by simpa using ei) ej'
  ·rw [if_neg hx] at ei ej
   cases i with
   | zero=>
    have:x=oi:=by simpa using hi
    subst this
    exact absurd ki hx
   | succ i=>exact r1_pair xs a h0 (by omega) i j oi oj yi yj (by omega) (by simpa using hi) hj' ki kj (by simpa using ei) (by simpa using ej)
theorem p2_keep:∀ (r:List OP) (i:Nat) (row:List Int) (a:Int) (j:Nat),(∀ o,i≤j→r[j - i]?=some o→o.kd≠0)→(p2 r i row a).1[j]?=row[j]?
 | [],i,row,a,j,_=>rfl
 | o::r,i,row,a,j,h=>by
  unfold p2
  have h' : ∀ o',i+1≤j→r[j - (i+1)]?=some o'→o'.kd≠0:=fun o' hj ho=>h o' (by omega) (by rw [show j - i=(j - (i+1))+1 by omega]; simpa using ho)
  split
  ·rename_i hk
   rw [p2_keep r (i+1) _ _ j h']
   by_cases e:i=j
   ·subst e
    exact absurd hk (h o (Nat.le_refl _) (by simp))
   ·rw [List.getElem?_set_ne e]
  ·exact p2_keep r (i+1) row a j h'
theorem p2_pair:∀ (r:List OP) (i:Nat) (row:List Int) (a:Int),okT r→row.length=i+r.length→0≤a→a+256*r.length≤100000→∀ (j k:Nat) (oj ok:OP) (x y:Int),j < k→r[j]?=some oj→r[k]?=some ok→oj.kd=0→ok.kd=0→(p2 r i row a).1[i+j]?=some x→(p2 r i row a).1[i+k]?=some y→x+szT oj.k oj.l≤y
 | [],i,row,a,_,_,_,_,j,k,oj,ok,x,y,_,h,_,_,_,_,_=>by simp at h
 | o::r,i,row,a,hok,hr,h0,h1,j,k,oj,ok,x,y,hjk,hj,hk,kj,kk,ex,ey=>by
  simp only [List.length_cons] at hr h1
  have hok' : okT r:=fun x hx=>hok x (List.mem_cons_of_mem _ hx)
  obtain ⟨k,rfl⟩ : ∃ q,k=q+1:=⟨k - 1,by omega⟩
  have hk' : r[k]?=some ok:=by simpa using hk
  unfold p2 at ex ey
  by_cases hx:o.kd=0
  ·have hs:=szT_range (hok o (by simp) (by simp [isDt,hx]))
   rw [if_pos hx,w64 (by omega) (by omega)] at ex ey
   rw [show i+(k+1)=i+1+k by omega] at ey
   obtain ⟨_,_,g3,g4⟩:=p2_spec r (i+1) (row.set i a) (a+szT o.k o.l) hok' (by rw [List.length_set]; omega) (by omega) (by omega)
   cases j with
   | zero=>
    have:o=oj:=by simpa using hj
    subst this
    have e:=(g3 i (by omega)).trans (List.getElem?_set_self (show i < row.length by omega))
    have hxa:x=a:=by
     have:some a=some x:=e.symm.trans ex
     exact (Option.some.inj this).symm
    obtain ⟨y',y1,y2,_⟩:=g4 k ok hk' kk
    rw [y1] at ey
    have:=Option.some.inj ey
    omega
   | succ j=>
    rw [show i+(j+1)=i+1+j by omega] at ex
    exact p2_pair r (i+1) (row.set i a) (a+szT o.k o.l) hok' (by rw [List.length_set]; omega) (by omega) (by omega) j k oj ok x y (by omega) (by simpa using hj) hk' kj kk ex ey
  ·rw [if_neg hx] at ex ey
   rw [show i+(k+1)=i+1+k by omega] at ey
   cases j with
   | zero=>
    have:o=oj:=by simpa using hj
    subst this
    exact absurd kj hx
   | succ j=>
    rw [show i+(j+1)=i+1+j by omega] at ex
    exact p2_pair r (i+1) row a hok' (by omega) h0 (by omega) j k oj ok x y (by omega) (by simpa using hj) hk' kj kk ex ey
theorem p3_at (os:List OP):∀ (r:List OP) (i:Nat) (row:List Int),row.length=i+r.length→∀ (j:Nat) (o:OP) (b:Nat),r[j]?=some o→o.kd=1→ixs (onames os) o.ba 0=(b:Int)→(∀ o',i≤b→r[b - i]?=some o'→o'.kd≠1)→(p3 os r i row)[i+j]?=some (IntKind.i64.wrap (row.getD b 0+o.of))
 | [],i,row,_,j,o,b,h,_,_,_=>by simp at h
 | x::r,i,row,hr,j,o,b,h,hk,hb,hnb=>by
  simp only [List.length_cons] at hr
  have hnb' : ∀ o',i+1≤b→r[b - (i+1)]?=some o'→o'.kd≠1:=fun o' hj ho=>hnb o' (by omega) (by rw [show b - i=(b - (i+1))+1 by omega]; simpa using ho)
  unfold p3
  by_cases hx:x.kd=1
  ·rw [if_pos hx]
   have hbi:b≠i:=fun e=>hnb x (by omega) (by rw [e]; simp) hx
   cases j with
   | zero=>
    have:x=o:=by simpa using h
    subst this
    refine (p3_keep os r (i+1) _ i (fun o' hj _=>by omega)).trans ?_
    rw [List.getElem?_set_self (by omega),hb,Int.toNat_natCast]
   | succ j=>
    rw [show i+(j+1)=i+1+j by omega,p3_at os r (i+1) _ (by rw [List.length_set]; omega) j o b (by simpa using h) hk hb hnb']
    rw [List.getD_eq_getElem?_getD,List.getElem?_set_ne (fun e=>hbi e.symm),← List.getD_eq_getElem?_getD]
  ·rw [if_neg hx]
   cases j with
   | zero=>
    have:x=o:=by simpa using h
    subst this
    exact absurd hk hx
   | succ j=>
    rw [show i+(j+1)=i+1+j by omega,p3_at os r (i+1) row (by omega) j o b (by simpa using h) hk hb hnb']
theorem opsE_each {nI:Nat}:∀ (r b:List OP),(opsE nI b r).2=0→∀ i o,r[i]?=some o→opE (b++r.take i) o nI=0
 | [],_,_,i,o,h=>by simp at h
 | x::r,b,h,i,o,hi=>by
  rw [opsE_cons] at h
  by_cases h0:opE b x nI=0
  ·rw [if_neg (not_not_intro h0)] at h
   cases i with
   | zero=>
    have:x=o:=by simpa using hi
    subst this
    simpa using h0
   | succ i=>
    have:=opsE_each r (b++[x]) h i o (by simpa using hi)
    rw [List.take_succ_cons]
    simpa using this
  ·rw [if_pos h0] at h; exact absurd h h0
theorem view_base {nI:Nat} {os:List OP} (h:(opsE nI [] os).2=0) {i:Nat} (hi:i < os.length) (hk:os[i].kd=1):∃ b,∃ hb:b < os.length,ixs (onames os) os[i].ba 0=(b:Int)∧os[b].kd=0:=by
 have he:=opsE_each os [] h i os[i] (List.getElem?_eq_getElem hi)
 rw [List.nil_append] at he
 have hc:=(opE_ok he).2 hk
 obtain ⟨j,hj,e1',e2⟩:=under_in hc
 have hj' : j < i:=by rw [List.length_take] at hj; omega
 refine ⟨j,by omega,by rw [ixs_split hi,if_pos hc,e1'],?_⟩
 unfold opE at he
 split at he
 ·cases he
 split at he
 ·cases he
 split at he
 ·cases he
 split at he
 ·cases he
 split at he
 ·rename_i h5; exact absurd he h5.2
 split at he
 ·cases he
 rw [if_neg (by omega),if_pos (.inl hk)] at he
 unfold baE at he
 rw [if_neg (by rw [hc]; simp),if_neg (by omega),e2] at he
 split at he
 ·cases he
 rename_i h8
 have h8:=Classical.not_not.1 h8
 rw [← h8]
 simp
def szO (o:OP):Int:=if o.kd=3 then 16 else szT o.k o.l
def occ (o:OP):Prop:=o.kd=0∨o.kd=3
theorem layX1 (os:List OP):(layX os).1=p3 os os 0 (p2 os 0 (r1 os 0) (e1 os 0)).1:=rfl
theorem lay_raw {os:List OP} {i:Nat} (hi:i < os.length) (h1:os[i].kd≠1):(layX os).1[i]?=(p2 os 0 (r1 os 0) (e1 os 0)).1[i]?:=by
 rw [layX1,p3_keep os os 0 _ i (fun o _ ho=>by rw [Nat.sub_zero,List.getElem?_eq_getElem hi] at ho; cases ho; exact h1)]
theorem lay_raw2 {os:List OP} {i:Nat} (hi:i < os.length) (h1:os[i].kd≠1) (h0:os[i].kd≠0):(layX os).1[i]?=(r1 os 0)[i]?:=by
 rw [lay_raw hi h1,p2_keep os 0 _ _ i (fun o _ ho=>by rw [Nat.sub_zero,List.getElem?_eq_getElem hi] at ho; cases ho; exact h0)]
theorem lay_occ {os:List OP} (hl:os.length≤28) (hok:okT os) {q:Nat} (hq:(layX os).2=(q:Int)) {i:Nat} (hi:i < os.length) (hk:occ os[i]):∃ x:Nat,(layX os).1[i]?=some (x:Int)∧(x:Int)+szO os[i]≤16*(q:Int)∧(os[i].kd=3→x % 16=0):=by
 rcases hk with hk | hk
 ·obtain ⟨x,x1,x2⟩:=lay_in hl hok hq hi hk
  exact ⟨x,x1,by unfold szO; rw [if_neg (by omega)]; exact x2,fun h=>by omega⟩
 ·have g:=e1_range os 0 (Int.le_refl _) (by omega)
  obtain ⟨s1,s2,_,_⟩:=p2_spec os 0 (r1 os 0) (e1 os 0) hok (by rw [r1_length,Nat.zero_add]) (by omega) (by omega)
  obtain ⟨y,y1,y2,y3,y4⟩:=(r1_spec os 0 (Int.le_refl _) (by omega) i os[i] (List.getElem?_eq_getElem hi)).1 hk
  unfold layX at hq
  simp only at hq
  rw [w64 (x:=(p2 os 0 (r1 os 0) (e1 os 0)).2+16) (by omega) (by omega),w64 (x:=(p2 os 0 (r1 os 0) (e1 os 0)).2+16 - 1) (by omega) (by omega),Int.tdiv_eq_ediv_of_nonneg (by omega),w64 (by omega) (by omega)] at hq
  refine ⟨y.toNat,by rw [lay_raw2 hi (by omega) (by omega),y1,show ((y.toNat:Nat):Int)=y by omega],?_,fun _=>by omega⟩
  unfold szO
  rw [if_pos hk]
  omega
theorem lay_none {os:List OP} (hl:os.length≤28) {i:Nat} (hi:i < os.length) (h0:os[i].kd≠0) (h1:os[i].kd≠1) (h3:os[i].kd≠3):(layX os).1[i]?=some (-1):=by
 rw [lay_raw2 hi h1 h0]
 exact (r1_spec os 0 (Int.le_refl _) (by omega) i os[i] (List.getElem?_eq_getElem hi)).2 h3
theorem lay_view {nI:Nat} {os:List OP} (h:(opsE nI [] os).2=0) {i:Nat} (hi:i < os.length) (hk:os[i].kd=1):∃ b,∃ hb:b < os.length,ixs (onames os) os[i].ba 0=(b:Int)∧(layX os).1[i]?=some (IntKind.i64.wrap ((layX os).1.getD b 0+os[i].of)):=by
 obtain ⟨b,hb,e,k0⟩:=view_base h hi hk
 refine ⟨b,hb,e,?_⟩
 have:=p3_at os os 0 (p2 os 0 (r1 os 0) (e1 os 0)).1 (by rw [p2_length,r1_length,Nat.zero_add]) i os[i] b (List.getElem?_eq_getElem hi) hk e (fun o' _ ho=>by rw [Nat.sub_zero,List.getElem?_eq_getElem hb] at ho; cases ho; omega)
 rw [Nat.zero_add] at this
 rw [List.getD_eq_getElem?_getD,lay_raw hb (by omega),← List.getD_eq_getElem?_getD,layX1]
 exact this
theorem lay_lt {os:List OP} (hl:os.length≤28) (hok:okT os) {i j:Nat} (hij:i < j) (hj:j < os.length) (ki:occ os[i]) (kj:occ os[j]) {x y:Int} (ex:(layX os).1[i]?=some x) (ey:(layX os).1[j]?=some y):x+szO os[i]≤y∨y+szO os[j]≤x:=by
 have hi:i < os.length:=by omega
 have g:=e1_range os 0 (Int.le_refl _) (by omega)
 have hrl:(r1 os 0).length=0+os.length:=by rw [r1_length,Nat.zero_add]
 obtain ⟨s1,s2,_,s4⟩:=p2_spec os 0 (r1 os 0) (e1 os 0) hok hrl (by omega) (by omega)
 unfold szO
 rcases ki with ki | ki <;> rcases kj with kj | kj
 ·rw [if_neg (by omega),if_neg (by omega)]
  left
  rw [lay_raw hi (by omega)] at ex
  rw [lay_raw hj (by omega)] at ey
  exact p2_pair os 0 (r1 os 0) (e1 os 0) hok hrl (by omega) (by omega) i j os[i] os[j] x y hij (List.getElem?_eq_getElem hi) (List.getElem?_eq_getElem hj) ki kj (by rw [Nat.zero_add]; exact ex) (by rw [Nat.zero_add]; exact ey)
 ·rw [if_neg (by omega),if_pos kj]
  right
  rw [lay_raw hi (by omega)] at ex
  rw [lay_raw2 hj (by omega) (by omega)] at ey
  obtain ⟨x',a1,a2,_⟩:=s4 i os[i] (List.getElem?_eq_getElem hi) ki
  rw [Nat.zero_add,ex] at a1
  obtain ⟨y',b1,b2,b3,b4⟩:=(r1_spec os 0 (Int.le_refl _) (by omega) j os[j] (List.getElem?_eq_getElem hj)).1 kj
  rw [ey] at b1
  have:=Option.some.inj a1
  have:=Option.some.inj b1
  omega
 ·rw [if_pos ki,if_neg (by omega)]
  left
  rw [lay_raw2 hi (by omega) (by omega)] at ex
  rw [lay_raw hj (by omega)] at ey
  obtain ⟨y',a1,a2,_⟩:=s4 j os[j] (List.getElem?_eq_getElem hj) kj
  rw [Nat.zero_add,ey] at a1
  obtain ⟨x',b1,b2,b3,b4⟩:=(r1_spec os 0 (Int.le_refl _) (by omega) i os[i] (List.getElem?_eq_getElem hi)).1 ki
  rw [ex] at b1
  have:=Option.some.inj a1
  have:=Option.some.inj b1
  omega
 ·rw [if_pos ki,if_pos kj]
  left
  rw [lay_raw2 hi (by omega) (by omega)] at ex
  rw [lay_raw2 hj (by omega) (by omega)] at ey
  exact r1_pair os 0 (Int.le_refl _) (by omega) i j os[i] os[j] x y hij (List.getElem?_eq_getElem hi) (List.getElem?_eq_getElem hj) ki kj ex ey
end Go.Proofs.YtnoldakbllfmnaaGreatDoor.Ev
namespace Go.Proofs.YtnoldakbllfmnaaGreatDoor.Ev
open Go Go.Proofs Go.Proofs.Ev
set_option linter.unusedVariables false
set_option linter.unusedSimpArgs false
def tb (ts:List Bool):List AV:=ts.map vb
theorem tb_len (ts:List Bool):(tb ts).length=ts.length:=by simp [tb]
theorem tb_at {ts:List Bool} {i:Nat} (hi:i < ts.length):(tb ts).getD i AV.undef=vb ts[i]:=by simp [tb,List.getD_eq_getElem?_getD,hi]
theorem tb_set (ts:List Bool) (i:Nat) (b:Bool):(tb ts).set i (vb b)=tb (ts.set i b):=by simp [tb,List.map_set]
def Used (os:List OP) (q i:Nat) (more:Nat→Prop) (U:List Bool):Prop:=
 U.length=16*q∧∀ t,U[t]?=some true→(∃ (j:Nat) (hj:j < os.length) (y:Nat),j < i∧occ os[j]∧(layX os).1[j]?=some (y:Int)∧y≤t∧(t:Int) < y+szO os[j])∨more t
theorem szO_range {os:List OP} (hok:okT os) {o:OP} (ho:o∈os) (hk:occ o):0≤szO o∧szO o≤256:=by
 unfold szO
 split
 ·omega
 ·rename_i h
  have hk:=hk.resolve_right h
  exact szT_range (hok o ho (by simp [isDt,hk]))
section
variable {n:Nat}
theorem apartI (hn:1001≤n) (os:List OP) (ho:os.length≤28) (hok:okT os) {q:Nat} (hq2:q≤24) (is ms:List AV) {i x:Nat} (hi:i < os.length) (hk:occ os[i]) (hx:(layX os).1[i]?=some (x:Int)) (hin:(x:Int)+szO os[i]≤16*(q:Int)) (M:Nat)
  (hK:∀ m U,M≤m→Used os q (i+1) (fun _=>False) U→Q0k.l n m (.z12 (i:Int) (os.map OP.av) is ms ((layX os).1.map vi) (tb U))=some true):∀ (d k m:Nat) (U:List Bool),(k:Int)+d=x+szO os[i]→d+M < m→x≤k→Used os q i (fun t=>x≤t∧t < k) U→
  Q0k.l n m (.z30 (i:Int) (szO os[i]) (k:Int) (os.map OP.av) is ms ((layX os).1.map vi) (tb U))=some true
 | _,_,0,_,_,h,_,_=>absurd h (by omega)
 | d,k,m+1,U,h,hm,hxk,hU=>by
  have hr:=szO_range hok (List.getElem_mem hi) hk
  have hll:=layX_length os
  have hlt:i < (layX os).1.length:=by omega
  have hg:(layX os).1[i]=(x:Int):=by rw [List.getElem?_eq_getElem hlt] at hx; exact Option.some.inj hx
  rw [Q0k.at30]
  unfold Q0k.r30
  rw [List.length_map,bif_none (within_t hlt),Int.toNat_natCast,at_mapN vi hlt,hg]
  simp only [cells_v,withCons_cons,withInt_mk]
  rw [w64 (by omega) (by omega)]
  cases d with
  | zero=>
   rw [cond_f (by omega)]
   refine hK m U (by omega) ⟨hU.1,fun t ht=>.inl ?_⟩
   rcases hU.2 t ht with ⟨j,hj,y,a1,a2,a3,a4,a5⟩ | ⟨a1,a2⟩
   ·exact ⟨j,hj,y,by omega,a2,a3,a4,a5⟩
   ·exact ⟨i,hi,x,by omega,hk,hx,a1,by omega⟩
  | succ d=>
   have hku:k < U.length:=by rw [hU.1]; omega
   rw [cond_t (by omega),tb_len,bif_none (within_t hku),Int.toNat_natCast,tb_at hku]
   simp only [cells_v,withCons_cons,withBool_mk]
   have hf:U[k]=false:=by
    cases hb:U[k] with
    | false=>rfl
    | true=>
     exfalso
     rcases hU.2 k (by rw [List.getElem?_eq_getElem hku,hb]) with ⟨j,hj,y,a1,a2,a3,a4,a5⟩ | ⟨a1,a2⟩
     ·rcases lay_lt ho hok a1 hi a2 hk a3 hx with h5 | h5 <;> omega
     ·omega
   rw [hf,cond_false,bif_none (within_t hku),tb_set,wsucc (by omega)]
   refine apartI hn os ho hok hq2 is ms hi hk hx hin M hK d (k+1) m (U.set k true) (by omega) (by omega) (by omega) ⟨by rw [List.length_set]; exact hU.1,fun t ht=>?_⟩
   by_cases e:k=t
   ·subst e; exact .inr ⟨hxk,by omega⟩
   ·rw [List.getElem?_set_ne e] at ht
    rcases hU.2 t ht with h5 | ⟨h5,h6⟩
    ·exact .inl h5
    ·exact .inr ⟨h5,by omega⟩
theorem apartL (hn:1001≤n) (os:List OP) (ho:os.length≤28) {nI:Nat} (hop:(opsE nI [] os).2=0) {q:Nat} (hq:(layX os).2=(q:Int)) (hq2:q≤24) (is ms:List AV):∀ (d i m:Nat) (U:List Bool),i+d=os.length→400*d < m→Used os q i (fun _=>False) U→
  Q0k.l n m (.z11 (i:Int) (os.map OP.av) is ms ((layX os).1.map vi) (tb U))=some true
 | _,_,0,_,_,h,_=>absurd h (by omega)
 | 0,i,m+1,U,h,_,_=>by
  rw [Q0k.at11]
  unfold Q0k.r11
  simp only [List.length_map,layX_length]
  rw [cond_f (by omega)]
 | d+1,i,m+1,U,h,hm,hU=>by
  have hi:i < os.length:=by omega
  obtain ⟨m,rfl⟩ : ∃ q,m=q+1:=⟨m - 1,by omega⟩
  have hL:=ops_okL hop
  have hok:=hL.1
  have hll:=layX_length os
  have hlt:i < (layX os).1.length:=by omega
  have h12:∀ m U,400*d+2≤m→Used os q (i+1) (fun _=>False) U→Q0k.l n m (.z12 (i:Int) (os.map OP.av) is ms ((layX os).1.map vi) (tb U))=some true:=by
   intro m U hm hU
   obtain ⟨m,rfl⟩ : ∃ q,m=q+1:=⟨m - 1,by omega⟩
   rw [Q0k.at12]
   unfold Q0k.r12
   rw [wsucc (by omega)]
   exact apartL hn os ho hop hq hq2 is ms d (i+1) m U (by omega) (by omega) hU
  have keep:¬ occ os[i]→Used os q (i+1) (fun _=>False) U:=fun hno=>⟨hU.1,fun t ht=>by
   rcases hU.2 t ht with ⟨j,hj,y,a1,a2,a3,a4,a5⟩ | h5
   ·exact .inl ⟨j,hj,y,by omega,a2,a3,a4,a5⟩
   ·exact h5.elim⟩
  have h30:∀ x:Nat,(hk:occ os[i])→(layX os).1[i]?=some (x:Int)→(x:Int)+szO os[i]≤16*(q:Int)→Q0k.l n (m+1) (.z30 (i:Int) (szO os[i]) (x:Int) (os.map OP.av) is ms ((layX os).1.map vi) (tb U))=some true:=by
   intro x hk hx hin
   have hr:=szO_range hok (List.getElem_mem hi) hk
   refine apartI hn os ho hok hq2 is ms hi hk hx hin (400*d+2) h12 (szO os[i]).toNat x (m+1) U (by omega) (by omega) (Nat.le_refl _) ⟨hU.1,fun t ht=>?_⟩
   rcases hU.2 t ht with h5 | h5
   ·exact .inl h5
   ·exact h5.elim
  rw [Q0k.at11]
  unfold Q0k.r11
  simp only [List.length_map,hll,tb_len,hU.1]
  rw [cond_t (by omega),bif_none (within_t hi),Int.toNat_natCast,at_mapN OP.av hi]
  simp only [OP.av,cells_agg,cells_v,withCons_cons,withInt_mk,withStr_mk]
  have hw:(decide ((0:Int)≤(i:Int))&&decide ((i:Int) < ((os.length:Nat):Int)))=true:=within_t hi
  simp only [hw,cond_true,at_mapN vi hlt,cells_v,withCons_cons,withInt_mk,bif_eq0]
  by_cases h0:os[i].kd=0
  ·have hk:occ os[i]:=.inl h0
   obtain ⟨x,x1,x2,_⟩:=lay_occ ho hok hq hi hk
   have hg:(layX os).1[i]=(x:Int):=by rw [List.getElem?_eq_getElem hlt] at x1; exact Option.some.inj x1
   have hr:=szO_range hok (List.getElem_mem hi) hk
   have hs:szT os[i].k os[i].l=szO os[i]:=by unfold szO; rw [if_neg (by omega)]
   rw [if_pos h0,bsize_eq n (hok _ (List.getElem_mem hi) (by simp [isDt,h0])),Option.bind_some,hs,hg]
   rw [w64 (by omega) (by omega),Within_eq,Option.bind_some,bif_not,if_neg (by rw [decide_eq_true (by omega)]; simp)]
   exact h30 x hk x1 x2
  ·rw [if_neg h0]
   by_cases h3:os[i].kd=3
   ·have hk:occ os[i]:=.inr h3
    obtain ⟨x,x1,x2,x3⟩:=lay_occ ho hok hq hi hk
    have hg:(layX os).1[i]=(x:Int):=by rw [List.getElem?_eq_getElem hlt] at x1; exact Option.some.inj x1
    have hs:szO os[i]=16:=by unfold szO; rw [if_pos h3]
    have hx3:=x3 h3
    have hz:=h30 x hk x1 x2
    rw [hs] at x2 hz
    rw [if_pos h3,hg,bifne,if_pos (by rw [Int.tmod_eq_emod_of_nonneg (by omega)]; omega),w64 (by omega) (by omega),Within_eq,Option.bind_some,bif_not,if_neg (by rw [decide_eq_true (by omega)]; simp)]
    exact hz
   ·rw [if_neg h3]
    have hno:¬ occ os[i]:=fun h=>by rcases h with h | h <;> omega
    by_cases h1:os[i].kd=1
    ·obtain ⟨b,hb,e1,e2⟩:=lay_view hop hi h1
     have hbl:b < (layX os).1.length:=by omega
     have hg:(layX os).1[i]=IntKind.i64.wrap ((layX os).1.getD b 0+os[i].of):=by rw [List.getElem?_eq_getElem hlt] at e2; exact Option.some.inj e2
     have hgb:(layX os).1.getD b 0=(layX os).1[b]:=by rw [List.getD_eq_getElem?_getD,List.getElem?_eq_getElem hbl]; rfl
     rw [if_pos h1,at_eq hn os (by omega),Option.bind_some,e1,bif_none (within_t hb),Int.toNat_natCast,at_mapN vi hbl]
     simp only [cells_v,withCons_cons,withInt_mk]
     rw [hg,hgb,bifne,if_pos rfl]
     exact h12 (m+1) U (by omega) (keep hno)
    ·have e:=lay_none ho hi h0 h1 h3
     have hg:(layX os).1[i]=-1:=by rw [List.getElem?_eq_getElem hlt] at e; exact Option.some.inj e
     rw [if_neg h1,hg,bifne,if_pos rfl]
     exact h12 (m+1) U (by omega) (keep hno)
theorem apart_law (hn:1000002≤n) (os:List OP) (is:List IN) (ms:List MN):Q0k.F n (os.map OP.av) (is.map IN.av) (ms.map MN.av)=some true:=by
 unfold Q0k.F Q0k.e
 rw [awake_eq,Option.bind_some,few_eq (by omega),Option.bind_some,bif_not,if_neg (by simp),bif_not]
 cases h:fewP os is ms with
 | false=>rfl
 | true=>
  obtain ⟨h1,h2,h3,h4⟩:=few_x h
  rw [if_neg (by simp),errR_eq (by omega) os h1 is h2 h4 ms h3,Option.bind_some,bifne]
  by_cases he:errX os is ms=0
  ·have ok:=errX_ok he
   have hL:=ops_okL ok.ops
   obtain ⟨q,q1,q2,e1',e2'⟩:=storeP_eq hn h he
   have hB:(ini os 0 (layX os).1 (List.replicate (16*q) 0)).length=16*q:=by
    have gen:∀ (d i:Nat) (B:List UInt8),i+d=os.length→B.length=16*q→(ini (os.drop i) i (layX os).1 B).length=16*q:=by
     intro d
     induction d with
     | zero=>intro i B hi hB; rw [List.drop_of_length_le (by omega)]; exact hB
     | succ d ih=>
      intro i B hi hB
      have hi' : i < os.length:=by omega
      rw [List.drop_eq_getElem_cons hi',ini_cons]
      split
      ·rename_i hk
       obtain ⟨x,x1,x2⟩:=step_in h1 hL.1 q2 hi' hk (opsE_val os [] ok.ops _ (List.getElem_mem hi'))
       refine ih (i+1) _ (by omega) ?_
       rw [patch_len,hB]
       rw [List.getD_eq_getElem?_getD,x1,Option.getD_some,Int.toNat_natCast,hB]
       exact x2
      ·exact ih (i+1) B (by omega) hB
    have:=gen os.length 0 (List.replicate (16*q) 0) (by omega) (by simp)
    rwa [List.drop_zero] at this
   rw [if_pos he,own_eq (by omega) os (by omega) is (by omega) h4 ms (by omega),Option.bind_some]
   simp only [Option.bind_some,layoutF_eq hn h,e1']
   rw [if_neg (not_not_intro he)]
   simp only [bifne,if_true,List.length_map,layX_length,q2,Within_eq,Option.bind_some,tagsF_len,bs_size,hB]
   rw [bif_not,if_neg (by rw [decide_eq_true (by omega)]; simp),w64 (by omega) (by omega),if_pos (by omega),show ((q:Nat):Int)*16=((16*q:Nat):Int) by omega]
   rw [bif_none (by rw [decide_eq_true (show (0:Int)≤((16*q:Nat):Int) by omega),decide_eq_true (show ((16*q:Nat):Int)≤most by have hm:(most:Int)=1000000000:=rfl; omega)]; rfl),Int.toNat_natCast]
   have:=apartL (n:=n) (by omega) os h1 ok.ops q2 q1 (is.map IN.av) (ms.map MN.av) os.length 0 n (List.replicate (16*q) false) (by omega) (by omega) ⟨by simp,fun t ht=>by
    rw [List.getElem?_replicate] at ht
    split at ht <;> cases ht⟩
   rw [show List.replicate (16*q) (vb false)=tb (List.replicate (16*q) false) by simp [tb]]
   exact this
  ·rw [if_neg he]
end
end Go.Proofs.YtnoldakbllfmnaaGreatDoor.Ev
end
