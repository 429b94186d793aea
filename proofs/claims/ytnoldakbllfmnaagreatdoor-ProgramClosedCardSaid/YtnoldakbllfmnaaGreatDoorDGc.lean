import Derived.Test.YtnoldakbllfmnaaGreatDoorDGb
import Derived.Lib.Replace
import Derived.Test.YtnoldakbllfmnaaGreatDoorDGa
import Derived.Test.YtnoldakbllfmnaaGreatDoorDGVc
import Derived.Lib.SlicesCompact
noncomputable section
namespace Go.Proofs.YtnoldakbllfmnaaGreatDoor.Ev
open Go Go.Proofs Go.Proofs.Ev
set_option linter.unusedVariables false
set_option linter.unusedSimpArgs false
def opsE (nI:Nat):List OP→List OP→Int × Int
 | _,[]=>(0,0)
 | b,o::r=>if opE b o nI≠0 then ((b.length:Int),opE b o nI) else opsE nI (b++[o]) r
def insE (os:List OP):List IN→Nat→Int × Int
 | [],_=>(0,0)
 | x::r,i=>if insX os x≠0 then ((i:Int),insX os x) else insE os r (i+1)
def mosE (nI:Nat):List MN→Nat→Int × Int
 | [],_=>(0,0)
 | x::r,i=>if monX nI x≠0 then ((i:Int),monX nI x) else mosE nI r (i+1)
def check3 (nI:Nat) (ms:List MN):Int × Int × Int:=if (mosE nI ms 0).2≠0 then (3,(mosE nI ms 0).1,(mosE nI ms 0).2) else (0,0,0)
def check2 (os:List OP) (is:List IN) (ms:List MN):Int × Int × Int:=if (insE os is 0).2≠0 then (2,(insE os is 0).1,(insE os is 0).2) else check3 is.length ms
def checkX (os:List OP) (is:List IN) (ms:List MN):Int × Int × Int:=
 if os.length > 24∨is.length > 40∨ms.length > 6 then (0,0,2) else if is.length=0 then (0,0,1)
 else if (opsE is.length [] os).2≠0 then (1,(opsE is.length [] os).1,(opsE is.length [] os).2) else if (layX os).2 > 24 then (0,0,30) else check2 os is ms
theorem opsE_cons (nI:Nat) (b r:List OP) (o:OP):opsE nI b (o::r)=if opE b o nI≠0 then ((b.length:Int),opE b o nI) else opsE nI (b++[o]) r:=rfl
theorem insE_cons (os:List OP) (x:IN) (r:List IN) (i:Nat):insE os (x::r) i=if insX os x≠0 then ((i:Int),insX os x) else insE os r (i+1):=rfl
theorem mosE_cons (nI:Nat) (x:MN) (r:List MN) (i:Nat):mosE nI (x::r) i=if monX nI x≠0 then ((i:Int),monX nI x) else mosE nI r (i+1):=rfl
theorem opE_ok {b:List OP} {o:OP} {nI:Nat} (h:opE b o nI=0):(isDt o.kd=true→chkT o.k o.l o.s=0∧o.k≠4)∧(o.kd=1→(onames b).contains o.ba=true):=by
 unfold opE at h
 split at h
 ·cases h
 split at h
 ·cases h
 split at h
 ·cases h
 split at h
 ·cases h
 split at h
 ·rename_i h5; exact absurd h h5.2
 split at h
 ·cases h
 rename_i h5 h6
 refine ⟨fun hd=>⟨?_,fun h4=>h6 ⟨hd,h4⟩⟩,fun h1=>?_⟩
 ·by_cases hc:chkT o.k o.l o.s=0
  ·exact hc
  ·exact absurd ⟨hd,hc⟩ h5
 ·rw [if_neg (by omega),if_pos (.inl h1)] at h
  unfold baE at h
  cases hc:(onames b).contains o.ba with
  | true=>rfl
  | false=>rw [if_pos hc] at h; cases h
theorem opsE_ok {nI:Nat}:∀ (r b:List OP),(opsE nI b r).2=0→ok4 b→(∀ o∈b,o.kd=1→(onames b).contains o.ba=true)→ok4 (b++r)∧∀ o∈b++r,o.kd=1→(onames (b++r)).contains o.ba=true
 | [],b,_,h1,h2=>by rw [List.append_nil]; exact ⟨h1,h2⟩
 | o::r,b,h,h1,h2=>by
  rw [opsE_cons] at h
  by_cases h0:opE b o nI=0
  ·rw [if_neg (not_not_intro h0)] at h
   obtain ⟨k1,k2⟩:=opE_ok h0
   have:=opsE_ok r (b++[o]) h (fun x hx=>by
    rcases List.mem_append.1 hx with hx | hx
    ·exact h1 x hx
    ·rw [List.mem_singleton] at hx; subst hx; exact k1) (fun x hx hk=>by
    rw [onames,List.map_append,List.contains_eq_mem,decide_eq_true_eq,List.mem_append]
    refine .inl ?_
    rcases List.mem_append.1 hx with hx | hx
    ·have:=h2 x hx hk; rwa [List.contains_eq_mem,decide_eq_true_eq] at this
    ·rw [List.mem_singleton] at hx; subst hx
     have:=k2 hk; rwa [List.contains_eq_mem,decide_eq_true_eq] at this)
   simpa using this
  ·rw [if_pos h0] at h; exact absurd h h0
theorem ops_ok4 {nI:Nat} {os:List OP} (h:(opsE nI [] os).2=0):ok4 os:=by
 have:=(opsE_ok os [] h (fun o ho=>by cases ho) (fun o ho=>by cases ho)).1
 simpa using this
theorem ops_okL {nI:Nat} {os:List OP} (h:(opsE nI [] os).2=0):okL os:=by
 have:=opsE_ok os [] h (fun o ho=>by cases ho) (fun o ho=>by cases ho)
 rw [List.nil_append] at this
 exact ⟨fun o ho hd=>(this.1 o ho hd).1,this.2⟩
section
variable {n:Nat}
theorem take_ok4 {os:List OP} {i nI:Nat} (hi:i < os.length) (h:ok4 (os.take i)) (h0:opE (os.take i) os[i] nI=0):ok4 (os.take (i+1)):=by
 rw [List.take_succ_eq_append_getElem hi]
 intro x hx
 rcases List.mem_append.1 hx with hx | hx
 ·exact h x hx
 ·rw [List.mem_singleton] at hx; subst hx; exact (opE_ok h0).1
theorem ok4T {os:List OP} (h:ok4 os):okT os:=fun o ho hd=>(h o ho hd).1
theorem pMons (hn:1001≤n) (os:List AV) (is:List IN) (hi' : is.length≤1000) (ms:List MN) (hm' : ms.length≤1000) (z7 z8:Int):∀ (d i m:Nat),i+d=ms.length→d < m→
  Q26.l n m (.z23 (ms.map MN.av) ms.length i os (is.map IN.av) (ms.map MN.av) z7 z8)=some (if (mosE is.length (ms.drop i) i).2≠0 then (3,(mosE is.length (ms.drop i) i).1,(mosE is.length (ms.drop i) i).2) else (0,0,0))
 | _,_,0,_,h=>absurd h (by omega)
 | 0,i,m+1,h,_=>by
  rw [Q26.at23]
  unfold Q26.r23
  rw [cond_f (by omega),List.drop_of_length_le (by omega)]
  rfl
 | d+1,i,m+1,h,hm=>by
  have hi:i < ms.length:=by omega
  have ih:=pMons hn os is hi' ms hm' z7 z8 d (i+1) m (by omega) (by omega)
  rw [Q26.at23]
  unfold Q26.r23
  simp (disch:=omega) only [Option.bind_some,Option.bind_none,cond_true,cond_false,Bool.not_true,Bool.not_false,List.length_map,Ws_length,bs_size,within_t,upto_t,wsucc,Int.toNat_natCast,at_mapN,Ws_getDN,cells_agg,cells_v,withCons_cons,withInt_mk,withStr_mk,withBool_mk,withSl_mk,cond_t,cond_f,MN.av]
  rw [monErr_eq hn _ _ hi',Option.bind_some,bifne,ih,List.drop_eq_getElem_cons hi,mosE_cons]
  by_cases h0:monX is.length ms[i]=0
  ·rw [if_pos h0,if_neg (not_not_intro h0)]
  ·rw [if_neg h0,if_pos h0,if_pos h0]
theorem pIns (hn:1001≤n) (os:List OP) (ho:os.length≤1000) (is:List IN) (hi' : is.length≤1000) (hx:∀ x∈is,x.ar.length≤1000) (ms:List MN) (hm' : ms.length≤100) (z7 z8:Int):∀ (d i m:Nat),i+d=is.length→d+200 < m→
  Q26.l n m (.z16 (is.map IN.av) is.length i (os.map OP.av) (is.map IN.av) (ms.map MN.av) z7 z8)=some (if (insE os (is.drop i) i).2≠0 then (2,(insE os (is.drop i) i).1,(insE os (is.drop i) i).2) else check3 is.length ms)
 | _,_,0,_,h=>absurd h (by omega)
 | 0,i,m+1,h,_=>by
  rw [Q26.at16]
  unfold Q26.r16
  rw [cond_f (by omega),List.drop_of_length_le (by omega),List.length_map]
  have:=pMons hn (os.map OP.av) is hi' ms (by omega) z7 z8 ms.length 0 m (by omega) (by omega)
  rw [List.drop_zero] at this
  exact this
 | d+1,i,m+1,h,hm=>by
  have hi:i < is.length:=by omega
  have ih:=pIns hn os ho is hi' hx ms hm' z7 z8 d (i+1) m (by omega) (by omega)
  rw [Q26.at16]
  unfold Q26.r16
  simp (disch:=omega) only [Option.bind_some,Option.bind_none,cond_true,cond_false,Bool.not_true,Bool.not_false,List.length_map,Ws_length,bs_size,within_t,upto_t,wsucc,Int.toNat_natCast,at_mapN,Ws_getDN,cells_agg,cells_v,withCons_cons,withInt_mk,withStr_mk,withBool_mk,withSl_mk,cond_t,cond_f,IN.av]
  rw [insErr_eq hn os ho _ _ is[i] (hx _ (List.getElem_mem hi)),Option.bind_some,bifne,ih,List.drop_eq_getElem_cons hi,insE_cons]
  by_cases h0:insX os is[i]=0
  ·rw [if_pos h0,if_neg (not_not_intro h0)]
  ·rw [if_neg h0,if_pos h0,if_pos h0]
theorem pOps (hn:1001≤n) (os:List OP) (ho:os.length≤28) (is:List IN) (hi' : is.length≤100) (hx:∀ x∈is,x.ar.length≤1000) (ms:List MN) (hm' : ms.length≤100) (z7 z8:Int):∀ (d i m:Nat),i+d=os.length→d+400 < m→ok4 (os.take i)→((opsE is.length (os.take i) (os.drop i)).2=0→(opsE is.length [] os).2=0)→
  Q26.l n m (.z6 os.length i (os.map OP.av) (is.map IN.av) (ms.map MN.av) z7 z8)=some (if (opsE is.length (os.take i) (os.drop i)).2≠0 then (1,(opsE is.length (os.take i) (os.drop i)).1,(opsE is.length (os.take i) (os.drop i)).2) else if (layX os).2 > 24 then (0,0,30) else check2 os is ms)
 | _,_,0,_,h,_,_=>absurd h (by omega)
 | 0,i,m+1,h,_,hok,hz=>by
  rw [List.drop_of_length_le (by omega)] at hz ⊢
  have hL:=ops_okL (hz rfl)
  rw [Q26.at6]
  unfold Q26.r6
  rw [cond_f (by omega),layout_eq hn os ho hL,Option.bind_some,List.length_map]
  have:=pIns hn os (by omega) is (by omega) hx ms hm' z7 z8 is.length 0 m (by omega) (by omega)
  rw [List.drop_zero] at this
  rw [if_neg (by simp [opsE]),bif_ite,show ((0:Int))=((0:Nat):Int) from rfl,this]
  split <;> rfl
 | d+1,i,m+1,h,hm,hok,hz=>by
  have hi:i < os.length:=by omega
  have ih:=pOps hn os ho is hi' hx ms hm' z7 z8 d (i+1) m (by omega) (by omega)
  rw [Q26.at6]
  unfold Q26.r6
  rw [cond_t (by omega),opErr_eq hn os (by omega) is (by omega) _ i hi (ok4T hok),Option.bind_some,bifne,wsucc (by omega)]
  rw [List.drop_eq_getElem_cons hi,opsE_cons] at hz ⊢
  by_cases h0:opE (os.take i) os[i] is.length=0
  ·rw [if_neg (not_not_intro h0),← List.take_succ_eq_append_getElem hi] at hz
   rw [if_pos h0,if_neg (not_not_intro h0),← List.take_succ_eq_append_getElem hi]
   exact ih (take_ok4 hi hok h0) hz
  ·rw [if_neg h0,if_pos h0,if_pos h0,List.length_take,Nat.min_eq_left (by omega)]
theorem check_law (hn:1001≤n) (os:List OP) (ho:os.length≤28) (is:List IN) (hi' : is.length≤100) (hx:∀ x∈is,x.ar.length≤1000) (ms:List MN) (hm' : ms.length≤100):Q26.F n (os.map OP.av) (is.map IN.av) (ms.map MN.av)=some (checkX os is ms):=by
 obtain ⟨m,rfl⟩ : ∃ m,n=m+1:=⟨n - 1,by omega⟩
 unfold Q26.F Q26.e checkX
 simp only [List.length_map,Q26.at2]
 unfold Q26.r2
 simp only [cond_eq,Option.bind_some,first2 hn,bifne,List.length_map]
 have hq:=pOps hn os ho is hi' hx ms hm' 0 0 os.length 0 m (by omega) (by omega) (fun o ho=>by simp at ho) (fun h=>h)
 rw [List.drop_zero,List.take_zero] at hq
 have c1:decide (((os.length:Nat):Int) > 24)=decide (os.length > 24):=by rw [decide_eq_decide]; omega
 have c2:decide (((is.length:Nat):Int) > 40)=decide (is.length > 40):=by rw [decide_eq_decide]; omega
 have c3:decide (((ms.length:Nat):Int) > 6)=decide (ms.length > 6):=by rw [decide_eq_decide]; omega
 rw [c1,c2,c3]
 by_cases h1:os.length > 24
 ·simp [h1]
 ·by_cases h2:is.length > 40
  ·simp [h1,h2]
  ·by_cases h3:ms.length > 6
   ·simp [h1,h2,h3]
   ·by_cases h4:is.length=0
    ·simp [h1,h2,h3,h4]
    ·rw [show ((0:Int))=((0:Nat):Int) from rfl] at hq
     have h4' : ¬ ((is.length:Nat):Int)=0:=by omega
     simp only [h1,h2,h3,h4,h4',decide_false,cond_false,or_self,if_false,beq_int,Bool.false_eq_true,ne_eq,not_true_eq_false,if_true]
     exact hq
end
end Go.Proofs.YtnoldakbllfmnaaGreatDoor.Ev
namespace Go.Proofs.YtnoldakbllfmnaaGreatDoor.Ev
open Go Go.Proofs Go.Proofs.Ev
set_option linter.unusedVariables false
set_option linter.unusedSimpArgs false
section
variable {n:Nat}
theorem rMons (hn:1001≤n) (os:List AV) (is:List IN) (hi' : is.length≤1000) (ms:List MN) (hm' : ms.length≤1000) (z5 z6:Int):∀ (d i m:Nat),i+d=ms.length→d+1 < m→
  Q11.l n m (.z21 i os (is.map IN.av) (ms.map MN.av) z5 z6)=some (if (mosE is.length (ms.drop i) i).2≠0 then (3,(mosE is.length (ms.drop i) i).1,(mosE is.length (ms.drop i) i).2) else (0,0,0))
 | _,_,0,_,h=>absurd h (by omega)
 | 0,i,m+1,h,_=>by
  rw [Q11.at21]
  unfold Q11.r21
  simp only [List.length_map]
  rw [cond_f (by omega),List.drop_of_length_le (by omega)]
  rfl
 | d+1,i,m+1,h,hm=>by
  have hi:i < ms.length:=by omega
  obtain ⟨q,rfl⟩ : ∃ q,m=q+1:=⟨m - 1,by omega⟩
  have ih:=rMons hn os is hi' ms hm' z5 z6 d (i+1) (q+1) (by omega) (by omega)
  have h25:Q11.l n (q+1) (.z25 (i:Int) z5 z6)=some (3,(i:Int),3):=rfl
  rw [Q11.at21]
  unfold Q11.r21
  simp (disch:=omega) only [Option.bind_some,Option.bind_none,cond_true,cond_false,Bool.not_true,Bool.not_false,List.length_map,Ws_length,bs_size,within_t,upto_t,wsucc,Int.toNat_natCast,at_mapN,Ws_getDN,cells_agg,cells_v,withCons_cons,withInt_mk,withStr_mk,withBool_mk,withSl_mk,cond_t,cond_f,MN.av,h25,Within_eq]
  rw [w64 (by omega) (by omega),ih,List.drop_eq_getElem_cons hi,mosE_cons]
  unfold monX
  by_cases h1:0≤ms[i].fr
  ·rw [cond_f (by omega)]
   by_cases h2:ms[i].fr < ms[i].tt
   ·rw [cond_f (by omega)]
    by_cases h3:ms[i].tt≤(is.length:Int)
    ·rw [cond_f (by omega)]
     by_cases h4:0≤ms[i].ex∧ms[i].ex≤999
     ·by_cases h5:0≤ms[i].hd∧ms[i].hd≤(is.length:Int) - 1
      ·simp [h1,h2,h3,h4,h5]
      ·simp [h1,h2,h3,h4,h5]
     ·simp [h1,h2,h3,h4]
    ·rw [cond_t (by omega)]; simp [h1,h2,h3]
   ·rw [cond_t (by omega)]; simp [h1,h2]
  ·rw [cond_t (by omega)]; simp [h1]
theorem rIns (hn:1001≤n) (os:List OP) (ho:os.length≤1000) (hok:ok4 os) (is:List IN) (hi' : is.length≤1000) (hx:∀ x∈is,x.ar.length≤1000) (ms:List MN) (hm' : ms.length≤100) (z5 z6:Int):∀ (d i m:Nat),i+d=is.length→d+200 < m→
  Q11.l n m (.z15 i (os.map OP.av) (is.map IN.av) (ms.map MN.av) z5 z6)=some (if (insE os (is.drop i) i).2≠0 then (2,(insE os (is.drop i) i).1,(insE os (is.drop i) i).2) else check3 is.length ms)
 | _,_,0,_,h=>absurd h (by omega)
 | 0,i,m+1,h,_=>by
  rw [Q11.at15]
  unfold Q11.r15
  simp only [List.length_map]
  rw [cond_f (by omega),List.drop_of_length_le (by omega)]
  have:=rMons hn (os.map OP.av) is hi' ms (by omega) z5 z6 ms.length 0 m (by omega) (by omega)
  rw [List.drop_zero] at this
  exact this
 | d+1,i,m+1,h,hm=>by
  have hi:i < is.length:=by omega
  have ih:=rIns hn os ho hok is hi' hx ms hm' z5 z6 d (i+1) m (by omega) (by omega)
  rw [Q11.at15]
  unfold Q11.r15
  simp (disch:=omega) only [Option.bind_some,Option.bind_none,cond_true,cond_false,Bool.not_true,Bool.not_false,List.length_map,Ws_length,bs_size,within_t,upto_t,wsucc,Int.toNat_natCast,at_mapN,Ws_getDN,cells_agg,cells_v,withCons_cons,withInt_mk,withStr_mk,withBool_mk,withSl_mk,cond_t,cond_f,IN.av]
  rw [insErrR_eq hn os ho hok _ _ is[i] (hx _ (List.getElem_mem hi)),Option.bind_some,bifne,ih,List.drop_eq_getElem_cons hi,insE_cons]
  by_cases h0:insX os is[i]=0
  ·rw [if_pos h0,if_neg (not_not_intro h0)]
  ·rw [if_neg h0,if_pos h0,if_pos h0]
theorem rOps (hn:1001≤n) (os:List OP) (ho:os.length≤28) (is:List IN) (hi' : is.length≤100) (hx:∀ x∈is,x.ar.length≤1000) (ms:List MN) (hm' : ms.length≤100) (z5 z6:Int):∀ (d i m:Nat),i+d=os.length→d+400 < m→ok4 (os.take i)→((opsE is.length (os.take i) (os.drop i)).2=0→(opsE is.length [] os).2=0)→
  Q11.l n m (.z6 i (os.map OP.av) (is.map IN.av) (ms.map MN.av) z5 z6)=some (if (opsE is.length (os.take i) (os.drop i)).2≠0 then (1,(opsE is.length (os.take i) (os.drop i)).1,(opsE is.length (os.take i) (os.drop i)).2) else if (layX os).2 > 24 then (0,0,30) else check2 os is ms)
 | _,_,0,_,h,_,_=>absurd h (by omega)
 | 0,i,m+1,h,_,hok,hz=>by
  rw [List.drop_of_length_le (by omega)] at hz ⊢
  have hL:=ops_okL (hz rfl)
  have h4:=ops_ok4 (hz rfl)
  rw [Q11.at6]
  unfold Q11.r6
  simp only [List.length_map]
  rw [cond_f (by omega),layoutR_eq hn os ho hL,Option.bind_some]
  have:=rIns hn os (by omega) h4 is (by omega) hx ms hm' z5 z6 is.length 0 m (by omega) (by omega)
  rw [List.drop_zero] at this
  rw [if_neg (by simp [opsE]),bif_ite,show ((0:Int))=((0:Nat):Int) from rfl,this]
  split <;> rfl
 | d+1,i,m+1,h,hm,hok,hz=>by
  have hi:i < os.length:=by omega
  have ih:=rOps hn os ho is hi' hx ms hm' z5 z6 d (i+1) m (by omega) (by omega)
  rw [Q11.at6]
  unfold Q11.r6
  simp only [List.length_map]
  rw [cond_t (by omega),opErrR_eq hn os (by omega) is (by omega) _ i hi (ok4T hok),Option.bind_some,bifne,wsucc (by omega)]
  rw [List.drop_eq_getElem_cons hi,opsE_cons] at hz ⊢
  by_cases h0:opE (os.take i) os[i] is.length=0
  ·rw [if_neg (not_not_intro h0),← List.take_succ_eq_append_getElem hi] at hz
   rw [if_pos h0,if_neg (not_not_intro h0),← List.take_succ_eq_append_getElem hi]
   exact ih (take_ok4 hi hok h0) hz
  ·rw [if_neg h0,if_pos h0,if_pos h0,List.length_take,Nat.min_eq_left (by omega)]
theorem checkR_law (hn:1001≤n) (os:List OP) (ho:os.length≤28) (is:List IN) (hi' : is.length≤100) (hx:∀ x∈is,x.ar.length≤1000) (ms:List MN) (hm' : ms.length≤100):Q11.F n (os.map OP.av) (is.map IN.av) (ms.map MN.av)=some (checkX os is ms):=by
 obtain ⟨m,rfl⟩ : ∃ m,n=m+1:=⟨n - 1,by omega⟩
 unfold Q11.F Q11.e checkX
 have h2' : Q11.l (m+1) (m+1) (.z2 0 0)=some (0,0,2):=rfl
 simp only [List.length_map,h2']
 have hq:=rOps hn os ho is hi' hx ms hm' 0 0 os.length 0 (m+1) (by omega) (by omega) (fun o ho=>by simp at ho) (fun h=>h)
 rw [List.drop_zero,List.take_zero,show (((0:Nat):Int))=0 from rfl] at hq
 have c1:decide (((os.length:Nat):Int) > 24)=decide (os.length > 24):=by rw [decide_eq_decide]; omega
 have c2:decide (((is.length:Nat):Int) > 40)=decide (is.length > 40):=by rw [decide_eq_decide]; omega
 have c3:decide (((ms.length:Nat):Int) > 6)=decide (ms.length > 6):=by rw [decide_eq_decide]; omega
 rw [c1,c2,c3]
 by_cases h1:os.length > 24
 ·simp [h1]
 ·by_cases h2:is.length > 40
  ·simp [h1,h2]
  ·by_cases h3:ms.length > 6
   ·simp [h1,h2,h3]
   ·by_cases h4:is.length=0
    ·simp [h1,h2,h3,h4]
    ·have h4' : ¬ ((is.length:Nat):Int)=0:=by omega
     simp only [h1,h2,h3,h4,h4',decide_false,cond_false,or_self,if_false,beq_int,Bool.false_eq_true]
     exact hq
theorem awake_eq (n:Nat):Q0r.F n=some true:=rfl
theorem few_x {os:List OP} {is:List IN} {ms:List MN} (h:fewP os is ms=true):os.length≤28∧is.length≤100∧ms.length≤100∧∀ x∈is,x.ar.length≤1000:=by
 obtain ⟨h1,h2,h3,_,h5⟩:=fewP_spec h
 exact ⟨h1,by omega,by omega,fun x hx=>by have:=h5 x hx; omega⟩
end
end Go.Proofs.YtnoldakbllfmnaaGreatDoor.Ev
namespace Go.Proofs.YtnoldakbllfmnaaGreatDoor.Ev
open Go Go.Proofs Go.Proofs.Ev
set_option linter.unusedVariables false
set_option linter.unusedSimpArgs false
section
variable {n:Nat}
abbrev errX (os:List OP) (is:List IN) (ms:List MN):Int:=(checkX os is ms).2.2
theorem programErr_eq (hn:1001≤n) (os:List OP) (ho:os.length≤28) (is:List IN) (hi' : is.length≤100) (hx:∀ x∈is,x.ar.length≤1000) (ms:List MN) (hm' : ms.length≤100):Q31.F n (os.map OP.av) (is.map IN.av) (ms.map MN.av)=some (errX os is ms):=by
 unfold Q31.F Q31.e
 rw [check_law hn os ho is hi' hx ms hm']
 rfl
theorem errR_eq (hn:1001≤n) (os:List OP) (ho:os.length≤28) (is:List IN) (hi' : is.length≤100) (hx:∀ x∈is,x.ar.length≤1000) (ms:List MN) (hm' : ms.length≤100):Q12.F n (os.map OP.av) (is.map IN.av) (ms.map MN.av)=some (errX os is ms):=by
 unfold Q12.F Q12.e
 rw [checkR_law hn os ho is hi' hx ms hm']
 rfl
end
end Go.Proofs.YtnoldakbllfmnaaGreatDoor.Ev
namespace Go.Proofs.YtnoldakbllfmnaaGreatDoor.Ev
open Go Go.Proofs Go.Proofs.Ev
set_option linter.unusedVariables false
set_option linter.unusedSimpArgs false
theorem decS {k:Nat} (h:¬ k < 10):Lib.decDigits k=Lib.decDigits (k / 10)++[UInt8.ofNat (48+k % 10)]:=by rw [Lib.decDigits,dif_neg h]
end Go.Proofs.YtnoldakbllfmnaaGreatDoor.Ev
namespace Go.Proofs.YtnoldakbllfmnaaGreatDoor.Ev
open Go Go.Proofs Go.Proofs.Ev
set_option linter.unusedVariables false
set_option linter.unusedSimpArgs false
structure OkOp (nI:Nat) (o:OP):Prop where
 kd:0≤o.kd∧o.kd≤5
 ty:isDt o.kd=true→chkT o.k o.l o.s=0∧o.k≠4
 val:o.kd=0∨o.kd=4→o.k=0∨o.vn.natAbs < 10 ^ 15
 of:o.kd=1∨o.kd=2→0≤o.of∧o.of≤256
 tg:o.kd=5→0≤o.tg∧o.tg≤(nI:Int) - 1
theorem chkT_scale {k l s:Int} (h:chkT k l s=0) (h4:k≠4):(k=0∨k=1∨k=2∨k=3)∧1≤l∧l≤256∧(k≠0→l≤15∧0≤s∧s≤15):=by
 unfold chkT at h
 split at h
 ·split at h
  ·cases h
  ·refine ⟨by omega,by omega,by omega,fun h0=>by omega⟩
 split at h
 ·split at h
  ·cases h
  split at h
  ·cases h
  refine ⟨by omega,by omega,by omega,fun _=>by omega⟩
 split at h
 ·split at h
  ·cases h
  split at h
  ·cases h
  refine ⟨by omega,by omega,by omega,fun _=>by omega⟩
 omega
theorem opE_right {b:List OP} {o:OP} {nI:Nat} (hb:okT b) (h:opE b o nI=0):OkOp nI o:=by
 have hty:=(opE_ok h).1
 unfold opE at h
 split at h
 ·cases h
 split at h
 ·cases h
 split at h
 ·cases h
 rename_i h3
 split at h
 ·cases h
 split at h
 ·rename_i h5; exact absurd h h5.2
 split at h
 ·cases h
 refine ⟨Classical.not_not.1 h3,hty,fun hk=>?_,fun hk=>?_,fun hk=>?_⟩
 ·rw [if_pos hk] at h
  have hd:isDt o.kd=true:=by rcases hk with h | h <;> simp [isDt,h]
  have hc:=chkT_scale (hty hd).1 (hty hd).2
  unfold valE at h
  by_cases h0:o.k=0
  ·exact .inl h0
  ·rw [if_neg h0] at h
   split at h
   ·cases h
   split at h
   ·cases h
   rename_i h7
   have h7:=Classical.not_not.1 h7
   have hl:=hc.2.2.2 h0
   have hp:10 ^ o.l.toNat≤10 ^ 15:=Nat.pow_le_pow_right (by omega) (by omega)
   unfold mostT at h7
   right
   omega
 ·rw [if_neg (by omega),if_pos hk] at h
  have hd:isDt o.kd=true:=by rcases hk with h | h <;> simp [isDt,h]
  unfold baE at h
  split at h
  ·cases h
  rename_i hc
  rw [Bool.not_eq_false] at hc
  obtain ⟨j,hj,_,e2⟩:=under_in hc
  rw [e2] at h
  split at h
  ·split at h
   ·cases h
   split at h
   ·cases h
   rename_i h8; exact Classical.not_not.1 h8
  ·split at h
   ·cases h
   rename_i h8
   have h8:=Classical.not_not.1 h8
   split at h
   ·cases h
   rename_i h9
   have h9:=Classical.not_not.1 h9
   have r1:=szT_range (hb _ (List.getElem_mem hj) (by simp [isDt,h8]))
   have r2:=szT_range (hty hd).1
   omega
 ·rw [if_neg (by omega),if_neg (by omega),if_pos hk] at h
  split at h
  ·assumption
  ·cases h
theorem opsE_right {nI:Nat}:∀ (r b:List OP),(opsE nI b r).2=0→ok4 b→∀ o∈r,OkOp nI o
 | [],_,_,_=>fun _ ho=>by cases ho
 | o::r,b,h,h1=>by
  rw [opsE_cons] at h
  by_cases h0:opE b o nI=0
  ·rw [if_neg (not_not_intro h0)] at h
   have hb' : ok4 (b++[o]):=fun x hx=>by
    rcases List.mem_append.1 hx with hx | hx
    ·exact h1 x hx
    ·rw [List.mem_singleton] at hx; subst hx; exact (opE_ok h0).1
   intro x hx
   rcases List.mem_cons.1 hx with rfl | hx
   ·exact opE_right (ok4T h1) h0
   ·exact opsE_right r (b++[o]) h hb' x hx
  ·rw [if_pos h0] at h; exact absurd h h0
end Go.Proofs.YtnoldakbllfmnaaGreatDoor.Ev
namespace Go.Proofs.YtnoldakbllfmnaaGreatDoor.Ev
open Go Go.Proofs Go.Proofs.Ev
set_option linter.unusedVariables false
set_option linter.unusedSimpArgs false
def flat:List (List UInt8)→List UInt8
 | []=>[]
 | w::r=>w++[59,10]++flat r
section
variable {n:Nat}
theorem inE_range (os:List OP):∀ (cs ar:List Int) (b:OP),cs.length=ar.length→inE os cs ar b=0→∀ a∈ar,0≤a∧a≤(os.length:Int) - 1
 | _,[],_,_,_=>fun _ h=>by cases h
 | [],a::ar,_,h,_=>by simp at h
 | c::cs,a::ar,b,hl,h=>by
  unfold inE at h
  split at h
  ·cases h
  rename_i h1
  split at h
  ·cases h
  have ih:=inE_range os cs ar _ (by simpa using hl) h
  intro x hx
  rcases List.mem_cons.1 hx with rfl | hx
  ·exact Classical.not_not.1 h1
  ·exact ih x hx
theorem insX_ok {os:List OP} {x:IN} (h:insX os x=0):(0≤x.op∧x.op≤18)∧x.ar.length≤3∧∀ a∈x.ar,0≤a∧a≤(os.length:Int) - 1:=by
 unfold insX at h
 split at h
 ·cases h
 rename_i h1
 have h1:=Classical.not_not.1 h1
 split at h
 ·cases h
 rename_i h2
 have h2:=Classical.not_not.1 h2
 exact ⟨h1,by have:=cls_len h1; omega,inE_range os _ _ _ h2.symm h⟩
theorem insE_ok {os:List OP}:∀ {is:List IN} {i:Nat},(insE os is i).2=0→∀ x∈is,insX os x=0
 | [],_,_=>fun _ h=>by cases h
 | x::r,i,h=>by
  rw [insE_cons] at h
  by_cases h0:insX os x=0
  ·rw [if_neg (not_not_intro h0)] at h
   intro y hy
   rcases List.mem_cons.1 hy with rfl | hy
   ·exact h0
   ·exact insE_ok h y hy
  ·rw [if_pos h0] at h; exact absurd h h0
theorem mosE_ok {nI:Nat}:∀ {ms:List MN} {i:Nat},(mosE nI ms i).2=0→∀ x∈ms,monX nI x=0
 | [],_,_=>fun _ h=>by cases h
 | x::r,i,h=>by
  rw [mosE_cons] at h
  by_cases h0:monX nI x=0
  ·rw [if_neg (not_not_intro h0)] at h
   intro y hy
   rcases List.mem_cons.1 hy with rfl | hy
   ·exact h0
   ·exact mosE_ok h y hy
  ·rw [if_pos h0] at h; exact absurd h h0
structure OkP (os:List OP) (is:List IN) (ms:List MN):Prop where
 lens:os.length≤24∧1≤is.length∧is.length≤40∧ms.length≤6
 ops:(opsE is.length [] os).2=0
 quads:(layX os).2≤24
 ins:∀ x∈is,insX os x=0
 mos:∀ m∈ms,monX is.length m=0
theorem errX_ok {os:List OP} {is:List IN} {ms:List MN} (h:errX os is ms=0):OkP os is ms:=by
 unfold errX checkX at h
 split at h
 ·cases h
 rename_i h1
 split at h
 ·cases h
 rename_i h2
 split at h
 ·rename_i h3; exact absurd h h3
 rename_i h3
 split at h
 ·cases h
 rename_i h4
 unfold check2 at h
 split at h
 ·rename_i h5; exact absurd h h5
 rename_i h5
 unfold check3 at h
 split at h
 ·rename_i h6; exact absurd h h6
 rename_i h6
 exact ⟨by omega,Classical.not_not.1 h3,by omega,insE_ok (Classical.not_not.1 h5),mosE_ok (Classical.not_not.1 h6)⟩
theorem monX_ok {nI:Nat} {m:MN} (h:monX nI m=0):0≤m.fr∧m.fr < m.tt∧m.tt≤(nI:Int)∧(0≤m.ex∧m.ex≤999)∧(0≤m.hd∧m.hd≤(nI:Int) - 1):=by
 unfold monX at h
 split at h
 ·assumption
 ·cases h
end
end Go.Proofs.YtnoldakbllfmnaaGreatDoor.Ev
namespace Go.Proofs.YtnoldakbllfmnaaGreatDoor.Ev
open Go Go.Proofs Go.Proofs.Ev
set_option linter.unusedVariables false
set_option maxRecDepth 100000
def Q3k.F (n:Nat) (xs:List AV):Option (List AV):=sortA xs
theorem Q3k.hands (n:Nat) (xs:List AV) {p:List AV} (h:Q3k.F n xs=some p):HandsEIn Tryz.prog 129 [.own 0 0 none] [.fr ⟨true,3,false⟩ 1 xs] (.tup []) (.fr ⟨true,3,false⟩ 1 p):=sort_hands (enters_of Tryz.lays189.f189 (by kernel_rfl) rfl) (fun a c w=>Tryz.slices_Sort_int_none a c w) (fun b o c zs w h1 h2 h3=>calls_of_every_depth fun D=>AnyS.slices_Sort_int_alone Tryz.lays189 D b o c zs w h1 h2 h3) h
def Q3k.via {R:Type} (n:Nat) (ys:List AV):(AV→Option R)→Option R:=match ys with | [.own 0 0 none,.tup [.fr ⟨true,3,false⟩ 1 xs]]=>fun K=>(Q3k.F n xs).bind fun p=>K (.tup [.tup [],.fr ⟨true,3,false⟩ 1 p]) | _=>fun _=>none
theorem Q3k.tells1 {R:Type} (n:Nat) (ys:List AV):Tells1 (R:=R) Tryz.prog 129 ys (Q3k.via n ys):=by
 unfold Q3k.via
 split
 ·exact Tells1.of (fun p hp=>(Q3k.hands n _ hp).hands (sortA_len hp))
 ·exact Tells1.none
end Go.Proofs.YtnoldakbllfmnaaGreatDoor.Ev
namespace Go.Proofs.YtnoldakbllfmnaaGreatDoor.Ev
open Go Go.Proofs Go.Proofs.Ev
set_option linter.unusedVariables false
set_option maxRecDepth 100000
def Q3b.F (n:Nat) (xs:List AV):Option (List AV × Nat):=compactA xs
theorem Q3b.hands (n:Nat) (xs:List AV) {p:List AV × Nat} (h:Q3b.F n xs=some p):HandsEIn Tryz.prog 130 [.own 0 0 none] [.fr ⟨true,3,false⟩ 1 xs] (.own 0 0 (some p.2)) (.fr ⟨true,3,false⟩ 1 p.1):=compact_hands (enters_of Tryz.laysNm220.f20 (by kernel_rfl) rfl) (fun a c w=>Tryz.slices_Compact_int_empty a c w) (fun b o c zs w h1 h2 h3=>Tryz.slices_Compact_int b o c zs w h1 h2 h3) compact_le h
def Q3b.via {R:Type} (n:Nat) (ys:List AV):(AV→Option R)→Option R:=match ys with | [.own 0 0 none,.tup [.fr ⟨true,3,false⟩ 1 xs]]=>fun K=>(Q3b.F n xs).bind fun p=>K (.tup [.own 0 0 (some p.2),.fr ⟨true,3,false⟩ 1 p.1]) | _=>fun _=>none
theorem Q3b.tells1 {R:Type} (n:Nat) (ys:List AV):Tells1 (R:=R) Tryz.prog 130 ys (Q3b.via n ys):=by
 unfold Q3b.via
 split
 ·exact Tells1.of (fun p hp=>(Q3b.hands n _ hp).hands (compactA_len hp))
 ·exact Tells1.none
end Go.Proofs.YtnoldakbllfmnaaGreatDoor.Ev
namespace Go.Proofs.YtnoldakbllfmnaaGreatDoor.Ev
open Go Go.Proofs Go.Proofs.Ev
set_option linter.unusedVariables false
set_option maxRecDepth 100000
abbrev Q35.A:=List AV × List AV × List AV × Int
abbrev Q35.T:=List AV
def Q35.i:Q35.A→List AV:=fun (a0,a1,a2,a3)=>[AV.agg [.sl ⟨true,74,false⟩ 10 a0,.sl ⟨false,86,false⟩ 2 a1,.sl ⟨true,82,false⟩ 4 a2],vi a3]
def Q35.o (xs:List AV):Option Q35.A:=match xs with | [.agg [.sl ⟨true,74,false⟩ 10 a0,.sl ⟨false,86,false⟩ 2 a1,.sl ⟨true,82,false⟩ 4 a2],.v (.int .i64 a3)]=>some (a0,a1,a2,a3) | _=>none
theorem Q35.oi:∀ xs a,Q35.o xs=some a→xs=Q35.i a:=by
 intro xs a h
 unfold Q35.o at h
 split at h
 ·cases h; rfl
 ·cases h
def Q35.p (p:Q35.T):AV:=.fr ⟨true,3,false⟩ 1 p
def Q35.q (x:AV):Option Q35.T:=match x with | .fr ⟨true,3,false⟩ 1 p0=>some p0 | _=>none
theorem Q35.qi:∀ x p,Q35.q x=some p→x=Q35.p p:=by
 intro x p h
 unfold Q35.q at h
 split at h
 ·cases h; rfl
 ·cases h
inductive Q35.Z where
 | z5 (z1 z2 z3:List AV) (z4:Int) (z5 z6:List AV)
 | z6 (z1:List AV) (z2 z3:Int) (z4 z5 z6 z7:List AV)
def Q35.C {R:Type} (n:Nat) (f:FuncId) (xs:List AV):(AV→Option R)→Option R:=
 bif Nat.beq f 129 then Q3k.via n xs else bif Nat.beq f 130 then Q3b.via n xs else fun _=>none
theorem Q35.tells {R:Type} (n:Nat):Tells (R:=R) Tryz.prog (Q35.C n):=fun _ xs=>tells_at (Q3k.tells1 n xs) (tells_at (Q3b.tells1 n xs) (Tells1.none))
def Q35.cut (r:Nat):Option Keep:=match r with | 5=>some ⟨[2,5,6],[(6,none,⟨true,3,false⟩,1)]⟩ | 6=>some ⟨[2,6,47,48,49],[(6,none,⟨true,3,false⟩,1)]⟩ | _=>none
def Q35.t (z:Q35.Z):List Item:=(todoOf (match z with | .z5 _ _ _ _ _ _=>5 | .z6 _ _ _ _ _ _ _=>6) 1000 [.code (Tryz.f77.body.getD .skip)]).getD []
def Q35.s:Q35.Z→St
 | .z5 z1 z2 z3 z4 z5 z6=>⟨spr 71 0 [(2,.ptr 0 0),(5,.ptr 1 0),(6,.own 2 0 none)],Mem.ofList [.box 26 [.sl ⟨true,74,false⟩ 10 z1,.sl ⟨false,86,false⟩ 2 z2,.sl ⟨true,82,false⟩ 4 z3],.box 86 [vi z4,.sl ⟨true,3,false⟩ 1 z5],.row ⟨true,3,false⟩ 1 z6],3⟩
 | .z6 z1 z2 z3 z4 z5 z6 z7=>⟨spr 71 0 [(2,.ptr 0 0),(6,.own 1 0 none),(47,.sl ⟨true,3,false⟩ 1 z1),(48,vi z2),(49,vi z3)],Mem.ofList [.box 26 [.sl ⟨true,74,false⟩ 10 z4,.sl ⟨false,86,false⟩ 2 z5,.sl ⟨true,82,false⟩ 4 z6],.row ⟨true,3,false⟩ 1 z7],2⟩
def Q35.r5 (n:Nat) (c:Q35.Z→Option (List AV)) (z1 z2 z3:List AV) (z4:Int) (z5 z6:List AV):Option (List AV):=
 c (.z6 z5 ((z5.length:Nat):Int) 0 z1 z2 z3 z6)
def Q35.r6 (n:Nat) (c:Q35.Z→Option (List AV)) (z1:List AV) (z2 z3:Int) (z4 z5 z6 z7:List AV):Option (List AV):=
 bif decide (z3 < z2) then (bif decide ((0:Int)≤z3)&&decide (z3 < ((z1.length:Nat):Int)) then (withCons ((z1.getD ((z3).toNat) .undef).cells) fun h9 r10=>
 withInt .i64 h9 fun x11=>
 bif decide ((0:Int)≤x11)&&decide (x11 < ((z4.length:Nat):Int)) then (withCons ((z4.getD ((x11).toNat) .undef).cells) fun h12 r13=>
 withStr h12 fun s14=>
 withCons r13 fun h15 r16=>
 withInt .i64 h15 fun x17=>
 withCons r16 fun h18 r19=>
 withInt .i64 h18 fun x20=>
 withCons r19 fun h21 r22=>
 withInt .i64 h21 fun x23=>
 withCons r22 fun h24 r25=>
 withInt .i64 h24 fun x26=>
 withCons r25 fun h27 r28=>
 withInt .i64 h27 fun x29=>
 withCons r28 fun h30 r31=>
 withStr h30 fun s32=>
 withCons r31 fun h33 r34=>
 withStr h33 fun s35=>
 withCons r34 fun h36 r37=>
 withInt .i64 h36 fun x38=>
 withCons r37 fun h39 r40=>
 withInt .i64 h39 fun x41=>
 bif x17==5 then (bif decide (z7.length+[vi x41].length≤most) then (c (.z6 z1 z2 (IntKind.i64.wrap (z3+1)) z4 z5 z6 (z7++[vi x41]))) else none) else (c (.z6 z1 z2 (IntKind.i64.wrap (z3+1)) z4 z5 z6 z7))) else none) else none) else ((Q3k.F n z7).bind fun p42=>
 (Q3b.F n p42).bind fun p43=>
 some ((p43.1.drop 0).take p43.2))
def Q35.r (n:Nat) (c:Q35.Z→Option (List AV)):Q35.Z→Option (List AV)
 | .z5 z1 z2 z3 z4 z5 z6=>Q35.r5 n c z1 z2 z3 z4 z5 z6
 | .z6 z1 z2 z3 z4 z5 z6 z7=>Q35.r6 n c z1 z2 z3 z4 z5 z6 z7
def Q35.e (n:Nat) (c:Q35.Z→Option (List AV)) (a0 a1 a2:List AV) (a3:Int):Option (List AV):=
 bif decide ((0:Int)≤a3)&&decide (a3 < ((a1.length:Nat):Int)) then (withCons ((a1.getD ((a3).toNat) .undef).cells) fun h1 r2=>
 withInt .i64 h1 fun x3=>
 withCons r2 fun h4 r5=>
 withSl ⟨true,3,false⟩ 1 h4 fun xs6=>
 let y7:Bool:=decide ((IntKind.i64.wrap (a3+1)) < ((a1.length:Nat):Int))
 bif y7 then (bif x3 != 9 then (bif x3 != 14 then (bif x3 != 18 then (bif x3 != 15 then (let y8:List AV:=[vi (IntKind.i64.wrap (a3+1))]
 bif decide (y8.length≤most) then (c (.z5 a0 a1 a2 x3 xs6 y8)) else none) else (c (.z5 a0 a1 a2 x3 xs6 []))) else (c (.z5 a0 a1 a2 x3 xs6 []))) else (c (.z5 a0 a1 a2 x3 xs6 []))) else (c (.z5 a0 a1 a2 x3 xs6 []))) else (c (.z5 a0 a1 a2 x3 xs6 []))) else none
def Q35.E (n:Nat) (c:Q35.Z→Option (List AV)):Q35.A→Option Q35.T:=fun (a0,a1,a2,a3)=>Q35.e n c a0 a1 a2 a3
def Q35.l (n:Nat):Nat→Q35.Z→Option (List AV):=loopL (Q35.r n)
def Q35.F (n:Nat) (a0 a1 a2:List AV) (a3:Int):Option (List AV):=Q35.e n (Q35.l n n) a0 a1 a2 a3
def Q35.FA (n:Nat):Q35.A→Option Q35.T:=Q35.E n (Q35.l n n)
theorem Q35.hands (n:Nat):∀ a p,Q35.FA n a=some p→HandsIn Tryz.prog 77 (Q35.i a) (Q35.p p):=
 pf_hands (C:=Q35.C n) (cut:=Q35.cut) (t:=Q35.t) (s:=Q35.s) (e:=Q35.E n) (r:=Q35.r n) (n:=n) cfg mixed globs rfl Q35.qi (Q35.tells n) Tryz.func77 (by kernel_rfl) (by kernel_rfl) (fun rec a=>by kernel_rfl) (fun rec z=>by cases z <;> kernel_rfl)
def Q35.via {R:Type} (n:Nat):List AV→(AV→Option R)→Option R:=viaK (Q35.FA n) Q35.o Q35.p
theorem Q35.tells1 {R:Type} (n:Nat) (xs:List AV):Tells1 (R:=R) Tryz.prog 77 xs (Q35.via n xs):=tells_via Q35.oi (fun a=>by kernel_rfl) (Q35.hands n) xs
end Go.Proofs.YtnoldakbllfmnaaGreatDoor.Ev
namespace Go.Proofs.YtnoldakbllfmnaaGreatDoor.Ev
open Go Go.Proofs Go.Proofs.Ev
set_option linter.unusedVariables false
set_option maxRecDepth 100000
abbrev Q2c.A:=List AV × List AV × List AV × Int
abbrev Q2c.T:=List AV × Int
def Q2c.i:Q2c.A→List AV:=fun (a0,a1,a2,a3)=>[AV.agg [.sl ⟨true,74,false⟩ 10 a0,.sl ⟨false,86,false⟩ 2 a1,.sl ⟨true,82,false⟩ 4 a2],vi a3]
def Q2c.o (xs:List AV):Option Q2c.A:=match xs with | [.agg [.sl ⟨true,74,false⟩ 10 a0,.sl ⟨false,86,false⟩ 2 a1,.sl ⟨true,82,false⟩ 4 a2],.v (.int .i64 a3)]=>some (a0,a1,a2,a3) | _=>none
theorem Q2c.oi:∀ xs a,Q2c.o xs=some a→xs=Q2c.i a:=by
 intro xs a h
 unfold Q2c.o at h
 split at h
 ·cases h; rfl
 ·cases h
def Q2c.p (p:Q2c.T):AV:=.tup [.fr ⟨true,3,false⟩ 1 p.1,vi p.2]
def Q2c.q (x:AV):Option Q2c.T:=match x with | .tup [.fr ⟨true,3,false⟩ 1 p0,.v (.int .i64 p1)]=>some (p0,p1) | _=>none
theorem Q2c.qi:∀ x p,Q2c.q x=some p→x=Q2c.p p:=by
 intro x p h
 unfold Q2c.q at h
 split at h
 ·cases h; rfl
 ·cases h
def Q2c.C {R:Type} (n:Nat) (f:FuncId) (xs:List AV):(AV→Option R)→Option R:=
 bif Nat.beq f 43 then Q2i.via n xs else bif Nat.beq f 44 then Q2g.via n xs else bif Nat.beq f 52 then Q31.via n xs else bif Nat.beq f 67 then Q2k.via n xs else bif Nat.beq f 77 then Q35.via n xs else fun _=>none
theorem Q2c.tells {R:Type} (n:Nat):Tells (R:=R) Tryz.prog (Q2c.C n):=fun _ xs=>tells_at (Q2i.tells1 n xs) (tells_at (Q2g.tells1 n xs) (tells_at (Q31.tells1 n xs) (tells_at (Q2k.tells1 n xs) (tells_at (Q35.tells1 n xs) (Tells1.none)))))
def Q2c.cut (r:Nat):Option Keep:=match r with  | _=>none
def Q2c.e (n:Nat) (a0 a1 a2:List AV) (a3:Int):Option (List AV × Int):=
 (Q31.F n a0 a1 a2).bind fun p1=>
 let y2:Int:=IntKind.i64.wrap (((a1.length:Nat):Int) - 1)
 (Q2k.F n a3 0 y2).bind fun p3=>
 (Q2g.F n (!p3) 3).bind fun p4=>
 (Q2i.F n [vi p1,vi p4]).bind fun p5=>
 bif p5 != 0 then (some ([],p5)) else ((Q35.F n a0 a1 a2 a3).bind fun p6=>
 some (p6,0))
def Q2c.E (n:Nat):Q2c.A→Option Q2c.T:=fun (a0,a1,a2,a3)=>Q2c.e n a0 a1 a2 a3
def Q2c.F (n:Nat) (a0 a1 a2:List AV) (a3:Int):Option (List AV × Int):=Q2c.e n a0 a1 a2 a3
def Q2c.FA (n:Nat):Q2c.A→Option Q2c.T:=Q2c.E n
theorem Q2c.hands (n:Nat):∀ a p,Q2c.FA n a=some p→HandsIn Tryz.prog 36 (Q2c.i a) (Q2c.p p):=
 pf_hands (C:=Q2c.C n) (cut:=Q2c.cut) (Z:=Empty) (t:=nofun) (s:=nofun) (e:=fun _=>Q2c.E n) (r:=fun _ z=>nomatch z) (n:=n) cfg mixed globs rfl Q2c.qi (Q2c.tells n) Tryz.func36 (by kernel_rfl) (by kernel_rfl) (fun rec a=>by kernel_rfl) (fun rec z=>nomatch z)
def Q2c.via {R:Type} (n:Nat):List AV→(AV→Option R)→Option R:=viaK (Q2c.FA n) Q2c.o Q2c.p
theorem Q2c.tells1 {R:Type} (n:Nat) (xs:List AV):Tells1 (R:=R) Tryz.prog 36 xs (Q2c.via n xs):=tells_via Q2c.oi (fun a=>by kernel_rfl) (Q2c.hands n) xs
end Go.Proofs.YtnoldakbllfmnaaGreatDoor.Ev
namespace Go.Proofs.YtnoldakbllfmnaaGreatDoor.Ev
open Go Go.Proofs Go.Proofs.Ev
set_option linter.unusedVariables false
set_option maxRecDepth 100000
abbrev Q2b.A:=List AV × List AV × List AV
abbrev Q2b.T:=List AV × Int
def Q2b.i:Q2b.A→List AV:=fun (a0,a1,a2)=>[AV.agg [.sl ⟨true,74,false⟩ 10 a0,.sl ⟨false,86,false⟩ 2 a1,.sl ⟨true,82,false⟩ 4 a2]]
def Q2b.o (xs:List AV):Option Q2b.A:=match xs with | [.agg [.sl ⟨true,74,false⟩ 10 a0,.sl ⟨false,86,false⟩ 2 a1,.sl ⟨true,82,false⟩ 4 a2]]=>some (a0,a1,a2) | _=>none
theorem Q2b.oi:∀ xs a,Q2b.o xs=some a→xs=Q2b.i a:=by
 intro xs a h
 unfold Q2b.o at h
 split at h
 ·cases h; rfl
 ·cases h
def Q2b.p (p:Q2b.T):AV:=.tup [.fr ⟨true,4,false⟩ 1 p.1,vi p.2]
def Q2b.q (x:AV):Option Q2b.T:=match x with | .tup [.fr ⟨true,4,false⟩ 1 p0,.v (.int .i64 p1)]=>some (p0,p1) | _=>none
theorem Q2b.qi:∀ x p,Q2b.q x=some p→x=Q2b.p p:=by
 intro x p h
 unfold Q2b.q at h
 split at h
 ·cases h; rfl
 ·cases h
inductive Q2b.Z where
 | z6 (z1 z2 z3 z4 z5:List AV)
 | z6x1 (z1 z2 z3 z4 z5:List AV)
 | z6x2 (z1:Nat) (z2 z3 z4 z5 z6:List AV)
 | z7 (z1 z2 z3 z4 z5:List AV)
 | z7x1 (z1 z2 z3 z4 z5:List AV)
 | z7x2 (z1:Nat) (z2 z3 z4 z5 z6:List AV)
 | z8 (z1:Int) (z2 z3 z4 z5 z6:List AV)
 | z8x1 (z1:Int) (z2 z3 z4 z5 z6:List AV)
 | z8x2 (z1:Nat) (z2:Int) (z3 z4 z5 z6 z7:List AV)
 | z9 (z1:Int) (z2 z3 z4 z5 z6:List AV)
 | z9x1 (z1:Nat) (z2:Int) (z3 z4 z5 z6 z7:List AV)
 | z13 (z1:Int) (z2:List AV) (z3 z4:Int) (z5 z6 z7 z8 z9:List AV)
 | z18 (z1:List AV)
def Q2b.C {R:Type} (n:Nat) (f:FuncId) (xs:List AV):(AV→Option R)→Option R:=
 bif Nat.beq f 52 then Q31.via n xs else bif Nat.beq f 67 then Q2k.via n xs else bif Nat.beq f 77 then Q35.via n xs else fun _=>none
theorem Q2b.tells {R:Type} (n:Nat):Tells (R:=R) Tryz.prog (Q2b.C n):=fun _ xs=>tells_at (Q31.tells1 n xs) (tells_at (Q2k.tells1 n xs) (tells_at (Q35.tells1 n xs) (Tells1.none)))
def Q2b.cut (r:Nat):Option Keep:=match r with | 6=>some ⟨[1,5,6],[]⟩ | 7=>some ⟨[1,5,6],[]⟩ | 8=>some ⟨[1,5,6,7],[]⟩ | 9=>some ⟨[1,5,6,7],[]⟩ | 13=>some ⟨[1,5,6,7,41,42,43],[]⟩ | 18=>some ⟨[5],[]⟩ | _=>none
def Q2b.t (z:Q2b.Z):List Item:=(todoOf (match z with | .z6 _ _ _ _ _=>6 | .z6x1 _ _ _ _ _=>6 | .z6x2 _ _ _ _ _ _=>6 | .z7 _ _ _ _ _=>7 | .z7x1 _ _ _ _ _=>7 | .z7x2 _ _ _ _ _ _=>7 | .z8 _ _ _ _ _ _=>8 | .z8x1 _ _ _ _ _ _=>8 | .z8x2 _ _ _ _ _ _ _=>8 | .z9 _ _ _ _ _ _=>9 | .z9x1 _ _ _ _ _ _ _=>9 | .z13 _ _ _ _ _ _ _ _ _=>13 | .z18 _=>18) 1000 [.code (Tryz.f37.body.getD .skip)]).getD []
def Q2b.s:Q2b.Z→St
 | .z6 z1 z2 z3 z4 z5=>⟨spr 61 0 [(1,.ptr 0 0),(5,.own 1 0 none),(6,.own 2 0 none)],Mem.ofList [.box 26 [.sl ⟨true,74,false⟩ 10 z1,.sl ⟨false,86,false⟩ 2 z2,.sl ⟨true,82,false⟩ 4 z3],.row ⟨true,4,false⟩ 1 z4,.row ⟨true,3,false⟩ 1 z5],3⟩
 | .z6x1 z1 z2 z3 z4 z5=>⟨spr 61 0 [(1,.ptr 0 0),(5,.own 1 0 none),(6,.own 2 1 none)],Mem.ofList [.box 26 [.sl ⟨true,74,false⟩ 10 z1,.sl ⟨false,86,false⟩ 2 z2,.sl ⟨true,82,false⟩ 4 z3],.row ⟨true,4,false⟩ 1 z4,.row ⟨true,3,false⟩ 1 z5],3⟩
 | .z6x2 z1 z2 z3 z4 z5 z6=>⟨spr 61 0 [(1,.ptr 0 0),(5,.own 1 0 none),(6,.own 2 z1 none)],Mem.ofList [.box 26 [.sl ⟨true,74,false⟩ 10 z2,.sl ⟨false,86,false⟩ 2 z3,.sl ⟨true,82,false⟩ 4 z4],.row ⟨true,4,false⟩ 1 z5,.row ⟨true,3,false⟩ 1 z6],3⟩
 | .z7 z1 z2 z3 z4 z5=>⟨spr 61 0 [(1,.ptr 0 0),(5,.own 1 0 none),(6,.own 2 0 none)],Mem.ofList [.box 26 [.sl ⟨true,74,false⟩ 10 z1,.sl ⟨false,86,false⟩ 2 z2,.sl ⟨true,82,false⟩ 4 z3],.row ⟨true,4,false⟩ 1 z4,.row ⟨true,3,false⟩ 1 z5],3⟩
 | .z7x1 z1 z2 z3 z4 z5=>⟨spr 61 0 [(1,.ptr 0 0),(5,.own 1 0 none),(6,.own 2 1 none)],Mem.ofList [.box 26 [.sl ⟨true,74,false⟩ 10 z1,.sl ⟨false,86,false⟩ 2 z2,.sl ⟨true,82,false⟩ 4 z3],.row ⟨true,4,false⟩ 1 z4,.row ⟨true,3,false⟩ 1 z5],3⟩
 | .z7x2 z1 z2 z3 z4 z5 z6=>⟨spr 61 0 [(1,.ptr 0 0),(5,.own 1 0 none),(6,.own 2 z1 none)],Mem.ofList [.box 26 [.sl ⟨true,74,false⟩ 10 z2,.sl ⟨false,86,false⟩ 2 z3,.sl ⟨true,82,false⟩ 4 z4],.row ⟨true,4,false⟩ 1 z5,.row ⟨true,3,false⟩ 1 z6],3⟩
 | .z8 z1 z2 z3 z4 z5 z6=>⟨spr 61 0 [(1,.ptr 0 0),(5,.own 1 0 none),(6,.own 2 0 none),(7,vi z1)],Mem.ofList [.box 26 [.sl ⟨true,74,false⟩ 10 z2,.sl ⟨false,86,false⟩ 2 z3,.sl ⟨true,82,false⟩ 4 z4],.row ⟨true,4,false⟩ 1 z5,.row ⟨true,3,false⟩ 1 z6],3⟩
 | .z8x1 z1 z2 z3 z4 z5 z6=>⟨spr 61 0 [(1,.ptr 0 0),(5,.own 1 0 none),(6,.own 2 1 none),(7,vi z1)],Mem.ofList [.box 26 [.sl ⟨true,74,false⟩ 10 z2,.sl ⟨false,86,false⟩ 2 z3,.sl ⟨true,82,false⟩ 4 z4],.row ⟨true,4,false⟩ 1 z5,.row ⟨true,3,false⟩ 1 z6],3⟩
 | .z8x2 z1 z2 z3 z4 z5 z6 z7=>⟨spr 61 0 [(1,.ptr 0 0),(5,.own 1 0 none),(6,.own 2 z1 none),(7,vi z2)],Mem.ofList [.box 26 [.sl ⟨true,74,false⟩ 10 z3,.sl ⟨false,86,false⟩ 2 z4,.sl ⟨true,82,false⟩ 4 z5],.row ⟨true,4,false⟩ 1 z6,.row ⟨true,3,false⟩ 1 z7],3⟩
 | .z9 z1 z2 z3 z4 z5 z6=>⟨spr 61 0 [(1,.ptr 0 0),(5,.own 1 0 none),(6,.own 2 1 none),(7,vi z1)],Mem.ofList [.box 26 [.sl ⟨true,74,false⟩ 10 z2,.sl ⟨false,86,false⟩ 2 z3,.sl ⟨true,82,false⟩ 4 z4],.row ⟨true,4,false⟩ 1 z5,.row ⟨true,3,false⟩ 1 z6],3⟩
 | .z9x1 z1 z2 z3 z4 z5 z6 z7=>⟨spr 61 0 [(1,.ptr 0 0),(5,.own 1 0 none),(6,.own 2 z1 none),(7,vi z2)],Mem.ofList [.box 26 [.sl ⟨true,74,false⟩ 10 z3,.sl ⟨false,86,false⟩ 2 z4,.sl ⟨true,82,false⟩ 4 z5],.row ⟨true,4,false⟩ 1 z6,.row ⟨true,3,false⟩ 1 z7],3⟩
 | .z13 z1 z2 z3 z4 z5 z6 z7 z8 z9=>⟨spr 61 0 [(1,.ptr 0 0),(5,.own 1 0 none),(6,.own 2 0 none),(7,vi z1),(41,.sl ⟨true,82,false⟩ 4 z2),(42,vi z3),(43,vi z4)],Mem.ofList [.box 26 [.sl ⟨true,74,false⟩ 10 z5,.sl ⟨false,86,false⟩ 2 z6,.sl ⟨true,82,false⟩ 4 z7],.row ⟨true,4,false⟩ 1 z8,.row ⟨true,3,false⟩ 1 z9],3⟩
 | .z18 z1=>⟨spr 61 0 [(5,.own 0 0 none)],Mem.ofList [.row ⟨true,4,false⟩ 1 z1],1⟩
def Q2b.r6 (n:Nat) (c:Q2b.Z→Option (List AV × Int)) (z1 z2 z3 z4 z5:List AV):Option (List AV × Int):=
 let y3:Bool:=decide (((z5.length:Nat):Int) > 0)
 bif y3 then (c (.z7 z1 z2 z3 z4 z5)) else (c (.z18 z4))
def Q2b.r6x1 (n:Nat) (c:Q2b.Z→Option (List AV × Int)) (z1 z2 z3 z4 z5:List AV):Option (List AV × Int):=
 let y12:Bool:=decide ((((z5.length - 1):Nat):Int) > 0)
 bif y12 then (c (.z7x1 z1 z2 z3 z4 z5)) else (c (.z18 z4))
def Q2b.r6x2 (n:Nat) (c:Q2b.Z→Option (List AV × Int)) (z1:Nat) (z2 z3 z4 z5 z6:List AV):Option (List AV × Int):=
 let y34:Bool:=decide ((((z6.length - z1):Nat):Int) > 0)
 bif y34 then (c (.z7x2 z1 z2 z3 z4 z5 z6)) else (c (.z18 z5))
def Q2b.r7 (n:Nat) (c:Q2b.Z→Option (List AV × Int)) (z1 z2 z3 z4 z5:List AV):Option (List AV × Int):=
 bif decide ((0:Int) < (z5.length:Nat)) then (withCons ((z5.getD 0 .undef).cells) fun h4 r5=>
 withInt .i64 h4 fun x6=>
 c (.z8 x6 z1 z2 z3 z4 z5)) else none
def Q2b.r7x1 (n:Nat) (c:Q2b.Z→Option (List AV × Int)) (z1 z2 z3 z4 z5:List AV):Option (List AV × Int):=
 bif decide ((0:Int) < ((z5.length - 1):Nat)) then (withCons ((z5.getD (0+1) .undef).cells) fun h26 r27=>
 withInt .i64 h26 fun x28=>
 c (.z8x1 x28 z1 z2 z3 z4 z5)) else none
def Q2b.r7x2 (n:Nat) (c:Q2b.Z→Option (List AV × Int)) (z1:Nat) (z2 z3 z4 z5 z6:List AV):Option (List AV × Int):=
 bif decide ((0:Int) < ((z6.length - z1):Nat)) then (withCons ((z6.getD (0+z1) .undef).cells) fun h35 r36=>
 withInt .i64 h35 fun x37=>
 c (.z8x2 z1 x37 z2 z3 z4 z5 z6)) else none
def Q2b.r8 (n:Nat) (c:Q2b.Z→Option (List AV × Int)) (z1:Int) (z2 z3 z4 z5 z6:List AV):Option (List AV × Int):=
 bif decide ((0:Int)≤1)&&decide ((1:Int)≤((z6.length:Nat):Int)) then (c (.z9 z1 z2 z3 z4 z5 z6)) else none
def Q2b.r8x1 (n:Nat) (c:Q2b.Z→Option (List AV × Int)) (z1:Int) (z2 z3 z4 z5 z6:List AV):Option (List AV × Int):=
 bif decide ((0:Int)≤1)&&decide ((1:Int)≤(((z6.length - 1):Nat):Int)) then (c (.z9x1 (1+1) z1 z2 z3 z4 z5 z6)) else none
def Q2b.r8x2 (n:Nat) (c:Q2b.Z→Option (List AV × Int)) (z1:Nat) (z2:Int) (z3 z4 z5 z6 z7:List AV):Option (List AV × Int):=
 bif decide ((0:Int)≤1)&&decide ((1:Int)≤(((z7.length - z1):Nat):Int)) then (c (.z9x1 (1+z1) z2 z3 z4 z5 z6 z7)) else none
def Q2b.r9 (n:Nat) (c:Q2b.Z→Option (List AV × Int)) (z1:Int) (z2 z3 z4 z5 z6:List AV):Option (List AV × Int):=
 bif decide ((0:Int)≤z1)&&decide (z1 < ((z5.length:Nat):Int)) then (withCons ((z5.getD ((z1).toNat) .undef).cells) fun h7 r8=>
 withBool h7 fun b9=>
 bif b9 then (c (.z6x1 z2 z3 z4 z5 z6)) else (bif decide ((0:Int)≤z1)&&decide (z1 < ((z5.length:Nat):Int)) then (let y10:List AV:=z5.set ((z1).toNat) (vb true)
 (Q35.F n z2 z3 z4 z1).bind fun p11=>
 bif decide ((z6.drop 1).length+p11.length≤most) then (c (.z13 z1 z4 ((z4.length:Nat):Int) 0 z2 z3 z4 y10 ((z6.drop 1)++p11))) else none) else none)) else none
def Q2b.r9x1 (n:Nat) (c:Q2b.Z→Option (List AV × Int)) (z1:Nat) (z2:Int) (z3 z4 z5 z6 z7:List AV):Option (List AV × Int):=
 bif decide ((0:Int)≤z2)&&decide (z2 < ((z6.length:Nat):Int)) then (withCons ((z6.getD ((z2).toNat) .undef).cells) fun h29 r30=>
 withBool h29 fun b31=>
 bif b31 then (c (.z6x2 z1 z3 z4 z5 z6 z7)) else (bif decide ((0:Int)≤z2)&&decide (z2 < ((z6.length:Nat):Int)) then (let y32:List AV:=z6.set ((z2).toNat) (vb true)
 (Q35.F n z3 z4 z5 z2).bind fun p33=>
 bif decide ((chop z1 z7).length+p33.length≤most) then (c (.z13 z2 z5 ((z5.length:Nat):Int) 0 z3 z4 z5 y32 ((chop z1 z7)++p33))) else none) else none)) else none
def Q2b.r13 (n:Nat) (c:Q2b.Z→Option (List AV × Int)) (z1:Int) (z2:List AV) (z3 z4:Int) (z5 z6 z7 z8 z9:List AV):Option (List AV × Int):=
 bif decide (z4 < z3) then (bif decide ((0:Int)≤z4)&&decide (z4 < ((z2.length:Nat):Int)) then (withCons ((z2.getD ((z4).toNat) .undef).cells) fun h13 r14=>
 withInt .i64 h13 fun x15=>
 withCons r14 fun h16 r17=>
 withInt .i64 h16 fun x18=>
 withCons r17 fun h19 r20=>
 withInt .i64 h19 fun x21=>
 withCons r20 fun h22 r23=>
 withInt .i64 h22 fun x24=>
 (Q2k.F n z1 x15 (IntKind.i64.wrap (x18 - 1))).bind fun p25=>
 bif p25 then (bif decide (z9.length+[vi x24].length≤most) then (c (.z13 z1 z2 z3 (IntKind.i64.wrap (z4+1)) z5 z6 z7 z8 (z9++[vi x24]))) else none) else (c (.z13 z1 z2 z3 (IntKind.i64.wrap (z4+1)) z5 z6 z7 z8 z9))) else none) else (c (.z6 z5 z6 z7 z8 z9))
def Q2b.r18 (n:Nat) (c:Q2b.Z→Option (List AV × Int)) (z1:List AV):Option (List AV × Int):=
 some (z1,0)
def Q2b.r (n:Nat) (c:Q2b.Z→Option (List AV × Int)):Q2b.Z→Option (List AV × Int)
 | .z6 z1 z2 z3 z4 z5=>Q2b.r6 n c z1 z2 z3 z4 z5
 | .z6x1 z1 z2 z3 z4 z5=>Q2b.r6x1 n c z1 z2 z3 z4 z5
 | .z6x2 z1 z2 z3 z4 z5 z6=>Q2b.r6x2 n c z1 z2 z3 z4 z5 z6
 | .z7 z1 z2 z3 z4 z5=>Q2b.r7 n c z1 z2 z3 z4 z5
 | .z7x1 z1 z2 z3 z4 z5=>Q2b.r7x1 n c z1 z2 z3 z4 z5
 | .z7x2 z1 z2 z3 z4 z5 z6=>Q2b.r7x2 n c z1 z2 z3 z4 z5 z6
 | .z8 z1 z2 z3 z4 z5 z6=>Q2b.r8 n c z1 z2 z3 z4 z5 z6
 | .z8x1 z1 z2 z3 z4 z5 z6=>Q2b.r8x1 n c z1 z2 z3 z4 z5 z6
 | .z8x2 z1 z2 z3 z4 z5 z6 z7=>Q2b.r8x2 n c z1 z2 z3 z4 z5 z6 z7
 | .z9 z1 z2 z3 z4 z5 z6=>Q2b.r9 n c z1 z2 z3 z4 z5 z6
 | .z9x1 z1 z2 z3 z4 z5 z6 z7=>Q2b.r9x1 n c z1 z2 z3 z4 z5 z6 z7
 | .z13 z1 z2 z3 z4 z5 z6 z7 z8 z9=>Q2b.r13 n c z1 z2 z3 z4 z5 z6 z7 z8 z9
 | .z18 z1=>Q2b.r18 n c z1
def Q2b.e (n:Nat) (c:Q2b.Z→Option (List AV × Int)) (a0 a1 a2:List AV):Option (List AV × Int):=
 (Q31.F n a0 a1 a2).bind fun p1=>
 bif p1 != 0 then (some ([],p1)) else (bif (decide ((0:Int)≤((a1.length:Nat):Int))&&decide ((((a1.length:Nat):Int):Int)≤most))&&decide ((((a1.length:Nat):Int):Int)=((a1.length:Nat):Int))&&true&&true then (let y2:List AV:=List.replicate (((a1.length:Nat):Int)).toNat (vb false)
 c (.z6 a0 a1 a2 y2 [vi 0])) else none)
def Q2b.E (n:Nat) (c:Q2b.Z→Option (List AV × Int)):Q2b.A→Option Q2b.T:=fun (a0,a1,a2)=>Q2b.e n c a0 a1 a2
def Q2b.l (n:Nat):Nat→Q2b.Z→Option (List AV × Int):=loopL (Q2b.r n)
def Q2b.F (n:Nat) (a0 a1 a2:List AV):Option (List AV × Int):=Q2b.e n (Q2b.l n n) a0 a1 a2
def Q2b.FA (n:Nat):Q2b.A→Option Q2b.T:=Q2b.E n (Q2b.l n n)
theorem Q2b.hands (n:Nat):∀ a p,Q2b.FA n a=some p→HandsIn Tryz.prog 37 (Q2b.i a) (Q2b.p p):=
 pf_hands (C:=Q2b.C n) (cut:=Q2b.cut) (t:=Q2b.t) (s:=Q2b.s) (e:=Q2b.E n) (r:=Q2b.r n) (n:=n) cfg mixed globs rfl Q2b.qi (Q2b.tells n) Tryz.func37 (by kernel_rfl) (by kernel_rfl) (fun rec a=>by kernel_rfl) (fun rec z=>by cases z <;> kernel_rfl)
def Q2b.via {R:Type} (n:Nat):List AV→(AV→Option R)→Option R:=viaK (Q2b.FA n) Q2b.o Q2b.p
theorem Q2b.tells1 {R:Type} (n:Nat) (xs:List AV):Tells1 (R:=R) Tryz.prog 37 xs (Q2b.via n xs):=tells_via Q2b.oi (fun a=>by kernel_rfl) (Q2b.hands n) xs
end Go.Proofs.YtnoldakbllfmnaaGreatDoor.Ev
namespace Go.Proofs.YtnoldakbllfmnaaGreatDoor.Ev
open Go Go.Proofs Go.Proofs.Ev
set_option linter.unusedVariables false
set_option maxRecDepth 100000
abbrev Q0m.A:=List AV × List AV × List AV
abbrev Q0m.T:=Bool
def Q0m.i:Q0m.A→List AV:=fun (a0,a1,a2)=>[AV.agg [.sl ⟨true,74,false⟩ 10 a0,.sl ⟨false,86,false⟩ 2 a1,.sl ⟨true,82,false⟩ 4 a2]]
def Q0m.p (p:Q0m.T):AV:=vb p
def Q0m.q (x:AV):Option Q0m.T:=match x with | .v (.bool p0)=>some p0 | _=>none
theorem Q0m.qi:∀ x p,Q0m.q x=some p→x=Q0m.p p:=by
 intro x p h
 unfold Q0m.q at h
 split at h
 ·cases h; rfl
 ·cases h
inductive Q0m.Z where
 | z7
 | z11 (z1:Int) (z2 z3 z4 z5 z6:List AV)
 | z17 (z1 z2:Int) (z3 z4 z5 z6 z7 z8:List AV)
 | z18 (z1 z2:Int) (z3 z4 z5 z6 z7 z8:List AV)
 | z23 (z1 z2:Int) (z3 z4 z5 z6 z7:List AV)
 | z24 (z1 z2:Int) (z3 z4 z5 z6 z7:List AV)
 | z31 (z1:Int) (z2 z3:List AV)
def Q0m.C {R:Type} (n:Nat) (f:FuncId) (xs:List AV):(AV→Option R)→Option R:=
 bif Nat.beq f 12 then Q0r.via n xs else bif Nat.beq f 13 then Q0j.via n xs else bif Nat.beq f 15 then Q18.via n xs else bif Nat.beq f 18 then Q12.via n xs else bif Nat.beq f 27 then Q0i.via n xs else bif Nat.beq f 36 then Q2c.via n xs else bif Nat.beq f 37 then Q2b.via n xs else fun _=>none
theorem Q0m.tells {R:Type} (n:Nat):Tells (R:=R) Tryz.prog (Q0m.C n):=fun _ xs=>tells_at (Q0r.tells1 n xs) (tells_at (Q0j.tells1 n xs) (tells_at (Q18.tells1 n xs) (tells_at (Q12.tells1 n xs) (tells_at (Q0i.tells1 n xs) (tells_at (Q2c.tells1 n xs) (tells_at (Q2b.tells1 n xs) (Tells1.none)))))))
def Q0m.cut (r:Nat):Option Keep:=match r with | 7=>some ⟨[],[]⟩ | 11=>some ⟨[1,3,5,6],[]⟩ | 17=>some ⟨[1,3,5,6,7,9],[]⟩ | 18=>some ⟨[1,3,5,6,7,9],[]⟩ | 23=>some ⟨[1,3,5,6,10],[]⟩ | 24=>some ⟨[1,3,5,6,10],[]⟩ | 31=>some ⟨[3,5,12],[]⟩ | _=>none
def Q0m.t (z:Q0m.Z):List Item:=(todoOf (match z with | .z7=>7 | .z11 _ _ _ _ _ _=>11 | .z17 _ _ _ _ _ _ _ _=>17 | .z18 _ _ _ _ _ _ _ _=>18 | .z23 _ _ _ _ _ _ _=>23 | .z24 _ _ _ _ _ _ _=>24 | .z31 _ _ _=>31) 1000 [.code (Tryz.f11.body.getD .skip)]).getD []
def Q0m.s:Q0m.Z→St
 | .z7=>⟨spr 177 0 [],Mem.ofList [],0⟩
 | .z11 z1 z2 z3 z4 z5 z6=>⟨spr 177 0 [(1,.ptr 0 0),(3,.own 1 0 none),(5,.own 2 0 none),(6,vi z1)],Mem.ofList [.box 26 [.sl ⟨true,74,false⟩ 10 z2,.sl ⟨false,86,false⟩ 2 z3,.sl ⟨true,82,false⟩ 4 z4],.row ⟨true,4,false⟩ 1 z5,.row ⟨true,4,false⟩ 1 z6],3⟩
 | .z17 z1 z2 z3 z4 z5 z6 z7 z8=>⟨spr 177 0 [(1,.ptr 0 0),(3,.own 1 0 none),(5,.own 2 0 none),(6,vi z1),(7,.own 3 0 none),(9,vi z2)],Mem.ofList [.box 26 [.sl ⟨true,74,false⟩ 10 z3,.sl ⟨false,86,false⟩ 2 z4,.sl ⟨true,82,false⟩ 4 z5],.row ⟨true,4,false⟩ 1 z6,.row ⟨true,4,false⟩ 1 z7,.row ⟨true,3,false⟩ 1 z8],4⟩
 | .z18 z1 z2 z3 z4 z5 z6 z7 z8=>⟨spr 177 0 [(1,.ptr 0 0),(3,.own 1 0 none),(5,.own 2 0 none),(6,vi z1),(7,.own 3 0 none),(9,vi z2)],Mem.ofList [.box 26 [.sl ⟨true,74,false⟩ 10 z3,.sl ⟨false,86,false⟩ 2 z4,.sl ⟨true,82,false⟩ 4 z5],.row ⟨true,4,false⟩ 1 z6,.row ⟨true,4,false⟩ 1 z7,.row ⟨true,3,false⟩ 1 z8],4⟩
 | .z23 z1 z2 z3 z4 z5 z6 z7=>⟨spr 177 0 [(1,.ptr 0 0),(3,.own 1 0 none),(5,.own 2 0 none),(6,vi z1),(10,vi z2)],Mem.ofList [.box 26 [.sl ⟨true,74,false⟩ 10 z3,.sl ⟨false,86,false⟩ 2 z4,.sl ⟨true,82,false⟩ 4 z5],.row ⟨true,4,false⟩ 1 z6,.row ⟨true,4,false⟩ 1 z7],3⟩
 | .z24 z1 z2 z3 z4 z5 z6 z7=>⟨spr 177 0 [(1,.ptr 0 0),(3,.own 1 0 none),(5,.own 2 0 none),(6,vi z1),(10,vi z2)],Mem.ofList [.box 26 [.sl ⟨true,74,false⟩ 10 z3,.sl ⟨false,86,false⟩ 2 z4,.sl ⟨true,82,false⟩ 4 z5],.row ⟨true,4,false⟩ 1 z6,.row ⟨true,4,false⟩ 1 z7],3⟩
 | .z31 z1 z2 z3=>⟨spr 177 0 [(3,.own 0 0 none),(5,.own 1 0 none),(12,vi z1)],Mem.ofList [.row ⟨true,4,false⟩ 1 z2,.row ⟨true,4,false⟩ 1 z3],2⟩
def Q0m.r7 (n:Nat) (c:Q0m.Z→Option Bool)  : Option Bool:=
 some false
def Q0m.r11 (n:Nat) (c:Q0m.Z→Option Bool) (z1:Int) (z2 z3 z4 z5 z6:List AV):Option Bool:=
 let y11:Bool:=decide (z1 < ((z5.length:Nat):Int))
 bif y11 then ((Q18.F n z2 z3 z4).bind fun p12=>
 (Q2c.F n p12.1 p12.2.1 p12.2.2 z1).bind fun p13=>
 bif p13.2 != 0 then (some false) else (let y14:Bool:=decide (((p13.1.length:Nat):Int) > ((z5.length:Nat):Int))
 bif y14 then (some false) else (c (.z17 z1 0 z2 z3 z4 z5 z6 p13.1)))) else (c (.z31 0 z5 z6))
def Q0m.r17 (n:Nat) (c:Q0m.Z→Option Bool) (z1 z2:Int) (z3 z4 z5 z6 z7 z8:List AV):Option Bool:=
 let y15:Bool:=decide (z2 < ((z8.length:Nat):Int))
 bif y15 then (bif decide ((0:Int)≤z2)&&decide (z2 < ((z8.length:Nat):Int)) then (withCons ((z8.getD ((z2).toNat) .undef).cells) fun h16 r17=>
 withInt .i64 h16 fun x18=>
 let y19:Int:=IntKind.i64.wrap (((z6.length:Nat):Int) - 1)
 (Q0i.F n x18 0 y19).bind fun p20=>
 bif !p20 then (some false) else (bif decide ((0:Int)≤z1)&&decide (z1 < ((z6.length:Nat):Int)) then (withCons ((z6.getD ((z1).toNat) .undef).cells) fun h21 r22=>
 withBool h21 fun b23=>
 bif b23 then (bif decide ((0:Int)≤z2)&&decide (z2 < ((z8.length:Nat):Int)) then (withCons ((z8.getD ((z2).toNat) .undef).cells) fun h24 r25=>
 withInt .i64 h24 fun x26=>
 bif decide ((0:Int)≤x26)&&decide (x26 < ((z6.length:Nat):Int)) then (withCons ((z6.getD ((x26).toNat) .undef).cells) fun h27 r28=>
 withBool h27 fun b29=>
 bif !b29 then (some false) else (bif decide ((0:Int)≤z2)&&decide (z2 < ((z8.length:Nat):Int)) then (withCons ((z8.getD ((z2).toNat) .undef).cells) fun h30 r31=>
 withInt .i64 h30 fun x32=>
 bif decide ((0:Int)≤z2)&&decide (z2 < ((z8.length:Nat):Int)) then (withCons ((z8.getD ((z2).toNat) .undef).cells) fun h33 r34=>
 withInt .i64 h33 fun x35=>
 bif decide ((0:Int)≤x35)&&decide (x35 < ((z7.length:Nat):Int)) then (withCons ((z7.getD ((x35).toNat) .undef).cells) fun h36 r37=>
 withBool h36 fun b38=>
 bif b38 then (bif decide ((0:Int)≤x32)&&decide (x32 < ((z7.length:Nat):Int)) then (let y39:List AV:=z7.set ((x32).toNat) (vb true)
 c (.z18 z1 z2 z3 z4 z5 z6 y39 z8)) else none) else (bif decide ((0:Int)≤z1)&&decide (z1 < ((z6.length:Nat):Int)) then (withCons ((z6.getD ((z1).toNat) .undef).cells) fun h40 r41=>
 withBool h40 fun b42=>
 bif decide ((0:Int)≤x32)&&decide (x32 < ((z7.length:Nat):Int)) then (let y43:List AV:=z7.set ((x32).toNat) (vb b42)
 c (.z18 z1 z2 z3 z4 z5 z6 y43 z8)) else none) else none)) else none) else none) else none)) else none) else none) else (bif decide ((0:Int)≤z2)&&decide (z2 < ((z8.length:Nat):Int)) then (withCons ((z8.getD ((z2).toNat) .undef).cells) fun h44 r45=>
 withInt .i64 h44 fun x46=>
 bif decide ((0:Int)≤z2)&&decide (z2 < ((z8.length:Nat):Int)) then (withCons ((z8.getD ((z2).toNat) .undef).cells) fun h47 r48=>
 withInt .i64 h47 fun x49=>
 bif decide ((0:Int)≤x49)&&decide (x49 < ((z7.length:Nat):Int)) then (withCons ((z7.getD ((x49).toNat) .undef).cells) fun h50 r51=>
 withBool h50 fun b52=>
 bif b52 then (bif decide ((0:Int)≤x46)&&decide (x46 < ((z7.length:Nat):Int)) then (let y53:List AV:=z7.set ((x46).toNat) (vb true)
 c (.z18 z1 z2 z3 z4 z5 z6 y53 z8)) else none) else (bif decide ((0:Int)≤z1)&&decide (z1 < ((z6.length:Nat):Int)) then (withCons ((z6.getD ((z1).toNat) .undef).cells) fun h54 r55=>
 withBool h54 fun b56=>
 bif decide ((0:Int)≤x46)&&decide (x46 < ((z7.length:Nat):Int)) then (let y57:List AV:=z7.set ((x46).toNat) (vb b56)
 c (.z18 z1 z2 z3 z4 z5 z6 y57 z8)) else none) else none)) else none) else none) else none)) else none)) else none) else (c (.z23 z1 0 z3 z4 z5 z6 z7))
def Q0m.r18 (n:Nat) (c:Q0m.Z→Option Bool) (z1 z2:Int) (z3 z4 z5 z6 z7 z8:List AV):Option Bool:=
 c (.z17 z1 (IntKind.i64.wrap (z2+1)) z3 z4 z5 z6 z7 z8)
def Q0m.r23 (n:Nat) (c:Q0m.Z→Option Bool) (z1 z2:Int) (z3 z4 z5 z6 z7:List AV):Option Bool:=
 let y65:Bool:=decide (z2 < ((z5.length:Nat):Int))
 bif y65 then (bif decide ((0:Int)≤z2)&&decide (z2 < ((z5.length:Nat):Int)) then (withCons ((z5.getD ((z2).toNat) .undef).cells) fun h66 r67=>
 withInt .i64 h66 fun x68=>
 withCons r67 fun h69 r70=>
 withInt .i64 h69 fun x71=>
 withCons r70 fun h72 r73=>
 withInt .i64 h72 fun x74=>
 withCons r73 fun h75 r76=>
 withInt .i64 h75 fun x77=>
 bif decide (x68≤z1) then (bif decide (z1 < x71) then (bif decide ((0:Int)≤z1)&&decide (z1 < ((z6.length:Nat):Int)) then (withCons ((z6.getD ((z1).toNat) .undef).cells) fun h78 r79=>
 withBool h78 fun b80=>
 bif b80 then (bif decide ((0:Int)≤x77)&&decide (x77 < ((z6.length:Nat):Int)) then (withCons ((z6.getD ((x77).toNat) .undef).cells) fun h81 r82=>
 withBool h81 fun b83=>
 bif !b83 then (some false) else (bif decide ((0:Int)≤x77)&&decide (x77 < ((z7.length:Nat):Int)) then (let y84:List AV:=z7.set ((x77).toNat) (vb true)
 c (.z24 z1 z2 z3 z4 z5 z6 y84)) else none)) else none) else (c (.z24 z1 z2 z3 z4 z5 z6 z7))) else none) else (c (.z24 z1 z2 z3 z4 z5 z6 z7))) else (c (.z24 z1 z2 z3 z4 z5 z6 z7))) else none) else (c (.z11 (IntKind.i64.wrap (z1+1)) z3 z4 z5 z6 z7))
def Q0m.r24 (n:Nat) (c:Q0m.Z→Option Bool) (z1 z2:Int) (z3 z4 z5 z6 z7:List AV):Option Bool:=
 c (.z23 z1 (IntKind.i64.wrap (z2+1)) z3 z4 z5 z6 z7)
def Q0m.r31 (n:Nat) (c:Q0m.Z→Option Bool) (z1:Int) (z2 z3:List AV):Option Bool:=
 let y58:Bool:=decide (z1 < ((z2.length:Nat):Int))
 bif y58 then (bif decide ((0:Int)≤z1)&&decide (z1 < ((z2.length:Nat):Int)) then (withCons ((z2.getD ((z1).toNat) .undef).cells) fun h59 r60=>
 withBool h59 fun b61=>
 bif b61 then (bif decide ((0:Int)≤z1)&&decide (z1 < ((z3.length:Nat):Int)) then (withCons ((z3.getD ((z1).toNat) .undef).cells) fun h62 r63=>
 withBool h62 fun b64=>
 bif !b64 then (some false) else (c (.z31 (IntKind.i64.wrap (z1+1)) z2 z3))) else none) else (c (.z31 (IntKind.i64.wrap (z1+1)) z2 z3))) else none) else (some true)
def Q0m.r (n:Nat) (c:Q0m.Z→Option Bool):Q0m.Z→Option Bool
 | .z7=>Q0m.r7 n c
 | .z11 z1 z2 z3 z4 z5 z6=>Q0m.r11 n c z1 z2 z3 z4 z5 z6
 | .z17 z1 z2 z3 z4 z5 z6 z7 z8=>Q0m.r17 n c z1 z2 z3 z4 z5 z6 z7 z8
 | .z18 z1 z2 z3 z4 z5 z6 z7 z8=>Q0m.r18 n c z1 z2 z3 z4 z5 z6 z7 z8
 | .z23 z1 z2 z3 z4 z5 z6 z7=>Q0m.r23 n c z1 z2 z3 z4 z5 z6 z7
 | .z24 z1 z2 z3 z4 z5 z6 z7=>Q0m.r24 n c z1 z2 z3 z4 z5 z6 z7
 | .z31 z1 z2 z3=>Q0m.r31 n c z1 z2 z3
def Q0m.e (n:Nat) (c:Q0m.Z→Option Bool) (a0 a1 a2:List AV):Option Bool:=
 (Q0r.F n ).bind fun p1=>
 bif !p1 then (some false) else ((Q0j.F n a0 a1 a2).bind fun p2=>
 bif !p2 then (some true) else ((Q12.F n a0 a1 a2).bind fun p3=>
 bif p3 != 0 then (some true) else ((Q18.F n a0 a1 a2).bind fun p4=>
 (Q2b.F n p4.1 p4.2.1 p4.2.2).bind fun p5=>
 bif p5.2 != 0 then (c .z7) else (let y6:Bool:=((p5.1.length:Nat):Int) != ((a1.length:Nat):Int)
 bif y6 then (c .z7) else (bif decide ((0:Int) < (p5.1.length:Nat)) then (withCons ((p5.1.getD 0 .undef).cells) fun h7 r8=>
 withBool h7 fun b9=>
 bif !b9 then (c .z7) else (bif (decide ((0:Int)≤((p5.1.length:Nat):Int))&&decide ((((p5.1.length:Nat):Int):Int)≤most))&&decide ((((p5.1.length:Nat):Int):Int)=((p5.1.length:Nat):Int))&&true&&true then (let y10:List AV:=List.replicate (((p5.1.length:Nat):Int)).toNat (vb false)
 bif decide ((0:Int) < (y10.length:Nat)) then (c (.z11 0 a0 a1 a2 p5.1 (y10.set 0 (vb true)))) else none) else none)) else none)))))
def Q0m.E (n:Nat) (c:Q0m.Z→Option Bool):Q0m.A→Option Q0m.T:=fun (a0,a1,a2)=>Q0m.e n c a0 a1 a2
def Q0m.l (n:Nat):Nat→Q0m.Z→Option Bool:=loopL (Q0m.r n)
def Q0m.F (n:Nat) (a0 a1 a2:List AV):Option Bool:=Q0m.e n (Q0m.l n n) a0 a1 a2
def Q0m.FA (n:Nat):Q0m.A→Option Q0m.T:=Q0m.E n (Q0m.l n n)
theorem Q0m.hands (n:Nat):∀ a p,Q0m.FA n a=some p→HandsIn Tryz.prog 11 (Q0m.i a) (Q0m.p p):=
 pf_hands (C:=Q0m.C n) (cut:=Q0m.cut) (t:=Q0m.t) (s:=Q0m.s) (e:=Q0m.E n) (r:=Q0m.r n) (n:=n) cfg mixed globs rfl Q0m.qi (Q0m.tells n) Tryz.func11 (by kernel_rfl) (by kernel_rfl) (fun rec a=>by kernel_rfl) (fun rec z=>by cases z <;> kernel_rfl)
end Go.Proofs.YtnoldakbllfmnaaGreatDoor.Ev
namespace Go.Proofs.YtnoldakbllfmnaaGreatDoor.Ev
open Go Go.Proofs Go.Proofs.Ev
theorem Q35.at5 (n m z1 z2 z3 z4 z5 z6):Q35.l n (m+1) (.z5 z1 z2 z3 z4 z5 z6)=Q35.r5 n (Q35.l n m) z1 z2 z3 z4 z5 z6:=rfl
theorem Q35.at6 (n m z1 z2 z3 z4 z5 z6 z7):Q35.l n (m+1) (.z6 z1 z2 z3 z4 z5 z6 z7)=Q35.r6 n (Q35.l n m) z1 z2 z3 z4 z5 z6 z7:=rfl
theorem Q2b.at6 (n m z1 z2 z3 z4 z5):Q2b.l n (m+1) (.z6 z1 z2 z3 z4 z5)=Q2b.r6 n (Q2b.l n m) z1 z2 z3 z4 z5:=rfl
theorem Q2b.at6x1 (n m z1 z2 z3 z4 z5):Q2b.l n (m+1) (.z6x1 z1 z2 z3 z4 z5)=Q2b.r6x1 n (Q2b.l n m) z1 z2 z3 z4 z5:=rfl
theorem Q2b.at6x2 (n m z1 z2 z3 z4 z5 z6):Q2b.l n (m+1) (.z6x2 z1 z2 z3 z4 z5 z6)=Q2b.r6x2 n (Q2b.l n m) z1 z2 z3 z4 z5 z6:=rfl
theorem Q2b.at7 (n m z1 z2 z3 z4 z5):Q2b.l n (m+1) (.z7 z1 z2 z3 z4 z5)=Q2b.r7 n (Q2b.l n m) z1 z2 z3 z4 z5:=rfl
theorem Q2b.at7x1 (n m z1 z2 z3 z4 z5):Q2b.l n (m+1) (.z7x1 z1 z2 z3 z4 z5)=Q2b.r7x1 n (Q2b.l n m) z1 z2 z3 z4 z5:=rfl
theorem Q2b.at7x2 (n m z1 z2 z3 z4 z5 z6):Q2b.l n (m+1) (.z7x2 z1 z2 z3 z4 z5 z6)=Q2b.r7x2 n (Q2b.l n m) z1 z2 z3 z4 z5 z6:=rfl
theorem Q2b.at8 (n m z1 z2 z3 z4 z5 z6):Q2b.l n (m+1) (.z8 z1 z2 z3 z4 z5 z6)=Q2b.r8 n (Q2b.l n m) z1 z2 z3 z4 z5 z6:=rfl
theorem Q2b.at8x1 (n m z1 z2 z3 z4 z5 z6):Q2b.l n (m+1) (.z8x1 z1 z2 z3 z4 z5 z6)=Q2b.r8x1 n (Q2b.l n m) z1 z2 z3 z4 z5 z6:=rfl
theorem Q2b.at8x2 (n m z1 z2 z3 z4 z5 z6 z7):Q2b.l n (m+1) (.z8x2 z1 z2 z3 z4 z5 z6 z7)=Q2b.r8x2 n (Q2b.l n m) z1 z2 z3 z4 z5 z6 z7:=rfl
theorem Q2b.at9 (n m z1 z2 z3 z4 z5 z6):Q2b.l n (m+1) (.z9 z1 z2 z3 z4 z5 z6)=Q2b.r9 n (Q2b.l n m) z1 z2 z3 z4 z5 z6:=rfl
theorem Q2b.at9x1 (n m z1 z2 z3 z4 z5 z6 z7):Q2b.l n (m+1) (.z9x1 z1 z2 z3 z4 z5 z6 z7)=Q2b.r9x1 n (Q2b.l n m) z1 z2 z3 z4 z5 z6 z7:=rfl
theorem Q2b.at13 (n m z1 z2 z3 z4 z5 z6 z7 z8 z9):Q2b.l n (m+1) (.z13 z1 z2 z3 z4 z5 z6 z7 z8 z9)=Q2b.r13 n (Q2b.l n m) z1 z2 z3 z4 z5 z6 z7 z8 z9:=rfl
theorem Q2b.at18 (n m z1):Q2b.l n (m+1) (.z18 z1)=Q2b.r18 n (Q2b.l n m) z1:=rfl
theorem Q0m.at11 (n m z1 z2 z3 z4 z5 z6):Q0m.l n (m+1) (.z11 z1 z2 z3 z4 z5 z6)=Q0m.r11 n (Q0m.l n m) z1 z2 z3 z4 z5 z6:=rfl
theorem Q0m.at17 (n m z1 z2 z3 z4 z5 z6 z7 z8):Q0m.l n (m+1) (.z17 z1 z2 z3 z4 z5 z6 z7 z8)=Q0m.r17 n (Q0m.l n m) z1 z2 z3 z4 z5 z6 z7 z8:=rfl
theorem Q0m.at18 (n m z1 z2 z3 z4 z5 z6 z7 z8):Q0m.l n (m+1) (.z18 z1 z2 z3 z4 z5 z6 z7 z8)=Q0m.r18 n (Q0m.l n m) z1 z2 z3 z4 z5 z6 z7 z8:=rfl
theorem Q0m.at23 (n m z1 z2 z3 z4 z5 z6 z7):Q0m.l n (m+1) (.z23 z1 z2 z3 z4 z5 z6 z7)=Q0m.r23 n (Q0m.l n m) z1 z2 z3 z4 z5 z6 z7:=rfl
theorem Q0m.at24 (n m z1 z2 z3 z4 z5 z6 z7):Q0m.l n (m+1) (.z24 z1 z2 z3 z4 z5 z6 z7)=Q0m.r24 n (Q0m.l n m) z1 z2 z3 z4 z5 z6 z7:=rfl
theorem Q0m.at31 (n m z1 z2 z3):Q0m.l n (m+1) (.z31 z1 z2 z3)=Q0m.r31 n (Q0m.l n m) z1 z2 z3:=rfl
end Go.Proofs.YtnoldakbllfmnaaGreatDoor.Ev
namespace Go.Proofs.YtnoldakbllfmnaaGreatDoor.Ev
open Go
set_option linter.unusedVariables false
set_option linter.unusedSimpArgs false
inductive Rch (E:Nat→List Nat):Nat→Prop
 | zero:Rch E 0
 | step {i j:Nat} (hi:Rch E i) (hj:j∈E i):Rch E j
open Classical in
def reachL (E:Nat→List Nat) (n:Nat):List Bool:=(List.range n).map fun i=>decide (Rch E i)
theorem reachL_length (E:Nat→List Nat) (n:Nat):(reachL E n).length=n:=by simp [reachL]
theorem reachL_at (E:Nat→List Nat) {n i:Nat} (hi:i < n):(reachL E n).getD i false=true↔Rch E i:=by
 simp [reachL,hi]
def fls:List Bool→Nat
 | []=>0
 | b::r=>(if b then 0 else 1)+fls r
theorem fls_le:∀ d:List Bool,fls d≤d.length
 | []=>Nat.le_refl _
 | b::r=>by have:=fls_le r; cases b <;> simp [fls] <;> omega
theorem fls_set:∀ (d:List Bool) (i:Nat),i < d.length→d.getD i false=false→fls (d.set i true)+1=fls d
 | [],i,h,_=>by simp at h
 | b::r,0,h,hb=>by
  have:b=false:=by simpa using hb
  subst this
  simp [fls]; omega
 | b::r,i+1,h,hb=>by
  have:=fls_set r i (by simpa using h) (by simpa using hb)
  simp [fls]; omega
theorem getD_set (d:List Bool) (i j:Nat) (hi:i < d.length):(d.set i true).getD j false=true↔(j=i∨d.getD j false=true):=by
 simp only [List.getD_eq_getElem?_getD,List.getElem?_set]
 by_cases e:i=j
 ·subst e; simp [hi]
 ·rw [if_neg e]
  constructor
  ·intro h; exact .inr h
  ·rintro (h | h)
   ·exact absurd h.symm e
   ·exact h
theorem eq_of_marks {d e:List Bool} (hl:d.length=e.length) (h:∀ i,i < d.length→(d.getD i false=true↔e.getD i false=true)):d=e:=by
 apply List.ext_getElem hl
 intro i h1 h2
 have:=h i h1
 simp [h1,h2] at this
 cases hd:d[i] <;> cases he:e[i] <;> simp_all
structure BInv (E:Nat→List Nat) (n:Nat) (d:List Bool) (op:List Nat):Prop where
 len:d.length=n
 sound:∀ i,d.getD i false=true→Rch E i
 open_:∀ i∈op,i < n∧Rch E i
 zero:0∈op∨d.getD 0 false=true
 closed:∀ i,i < n→d.getD i false=true→∀ j∈E i,d.getD j false=true∨j∈op
variable {E:Nat→List Nat} {n:Nat}
theorem BInv.done (hn:0 < n) (hE:∀ i,i < n→∀ j∈E i,j < n) {d:List Bool} (h:BInv E n d []):d=reachL E n:=by
 have hz:d.getD 0 false=true:=by
  rcases h.zero with hz | hz
  ·simp at hz
  ·exact hz
 have all:∀ i,Rch E i→i < n∧d.getD i false=true:=by
  intro i hi
  induction hi with
  | zero=>exact ⟨hn,hz⟩
  | step _ hj ih=>
   obtain ⟨h1,h2⟩:=ih
   refine ⟨hE _ h1 _ hj,?_⟩
   rcases h.closed _ h1 h2 _ hj with h3 | h3
   ·exact h3
   ·simp at h3
 refine eq_of_marks (by rw [h.len,reachL_length]) fun i hi=>?_
 rw [reachL_at E (by rw [← h.len]; exact hi)]
 exact ⟨h.sound i,fun hr=>(all i hr).2⟩
theorem BInv.skip {d:List Bool} {i:Nat} {r:List Nat} (h:BInv E n d (i::r)) (hi:d.getD i false=true):BInv E n d r where
 len:=h.len
 sound:=h.sound
 open_:=fun j hj=>h.open_ j (List.mem_cons_of_mem _ hj)
 zero:=by
  rcases h.zero with hz | hz
  ·rcases List.mem_cons.1 hz with rfl | hz
   ·exact .inr hi
   ·exact .inl hz
  ·exact .inr hz
 closed:=fun k hk hd j hj=>by
  rcases h.closed k hk hd j hj with h1 | h1
  ·exact .inl h1
  ·rcases List.mem_cons.1 h1 with rfl | h1
   ·exact .inl hi
   ·exact .inr h1
theorem BInv.take (hE:∀ i,i < n→∀ j∈E i,j < n) {d:List Bool} {i:Nat} {r:List Nat} (h:BInv E n d (i::r)):BInv E n (d.set i true) (r++E i):=by
 obtain ⟨hin,hr⟩:=h.open_ i (List.mem_cons_self ..)
 have hil:i < d.length:=by rw [h.len]; exact hin
 refine ⟨by rw [List.length_set,h.len],fun j hj=>?_,fun j hj=>?_,?_,fun k hk hd j hj=>?_⟩
 ·rcases (getD_set d i j hil).1 hj with rfl | h1
  ·exact hr
  ·exact h.sound j h1
 ·rcases List.mem_append.1 hj with h1 | h1
  ·exact h.open_ j (List.mem_cons_of_mem _ h1)
  ·exact ⟨hE i hin j h1,.step hr h1⟩
 ·rcases h.zero with hz | hz
  ·rcases List.mem_cons.1 hz with hz | hz
   ·exact .inr ((getD_set d i 0 hil).2 (.inl hz))
   ·exact .inl (List.mem_append.2 (.inl hz))
  ·exact .inr ((getD_set d i 0 hil).2 (.inr hz))
 ·rcases (getD_set d i k hil).1 hd with rfl | h1
  ·exact .inr (List.mem_append.2 (.inr hj))
  ·rcases h.closed k hk h1 j hj with h2 | h2
   ·exact .inl ((getD_set d i j hil).2 (.inr h2))
   ·rcases List.mem_cons.1 h2 with rfl | h2
    ·exact .inl ((getD_set d j j hil).2 (.inl rfl))
    ·exact .inr (List.mem_append.2 (.inl h2))
theorem BInv.start (hn:0 < n):BInv E n (List.replicate n false) [0] where
 len:=by simp
 sound:=fun i hi=>by
  simp only [List.getD_eq_getElem?_getD,List.getElem?_replicate] at hi
  split at hi <;> simp at hi
 open_:=fun i hi=>by simp at hi; subst hi; exact ⟨hn,.zero⟩
 zero:=.inl (by simp)
 closed:=fun i _ hi=>by
  simp only [List.getD_eq_getElem?_getD,List.getElem?_replicate] at hi
  split at hi <;> simp at hi
def news:List Bool→Bool→List Nat→Bool
 | _,m,[]=>m
 | d,m,k::r=>news (d.set k true) (m||!d.getD k false) r
end Go.Proofs.YtnoldakbllfmnaaGreatDoor.Ev
namespace Go.Proofs.YtnoldakbllfmnaaGreatDoor.Ev
open Go Go.Proofs Go.Proofs.Ev
set_option linter.unusedVariables false
set_option linter.unusedSimpArgs false
theorem sortI_mem (l:List Int) (x:Int):x∈sortI l↔x∈l:=List.mem_mergeSort
theorem sortI_sorted (l:List Int):(sortI l).Pairwise (·≤·):=by
 have:=List.pairwise_mergeSort (le:=fun x y:Int=>decide (x≤y)) (fun a b c h1 h2=>by simp at *; omega) (fun a b=>by simp; omega) l
 exact this.imp (fun h=>by simpa using h)
theorem compactUpTo_asc (l:List Int) (hs:l.Pairwise (·≤·)):∀ m,m≤l.length→(Lib.compactUpTo l.toArray m).Pairwise (· < ·)∧∀ x,x∈Lib.compactUpTo l.toArray m↔∃ j,j < m∧l.toArray[j]! = x
 | 0,_=>by simp [Lib.compactUpTo]
 | m+1,hm=>by
  obtain ⟨h1,h2⟩:=compactUpTo_asc l hs m (by omega)
  have hle:∀ i j,i≤j→j < l.length→l.toArray[i]! ≤ l.toArray[j]! := by
   intro i j hij hj
   have e1:l.toArray[i]! = l[i]:=by simp [show i < l.length by omega]
   have e2:l.toArray[j]! = l[j]:=by simp [hj]
   rw [e1,e2]
   rcases Nat.lt_or_eq_of_le hij with h | rfl
   ·exact List.pairwise_iff_getElem.1 hs i j (by omega) hj h
   ·exact Int.le_refl _
  rw [Lib.compactUpTo_succ]
  cases hk:Lib.keeps l.toArray m with
  | true=>
   rw [if_pos rfl]
   refine ⟨?_,fun x=>?_⟩
   ·rw [List.pairwise_append]
    refine ⟨h1,by simp,fun a ha b hb=>?_⟩
    simp only [List.mem_singleton] at hb
    subst hb
    obtain ⟨j,hj,rfl⟩:=(h2 a).1 ha
    have hk' : m=0∨l.toArray[m]! ≠ l.toArray[m - 1]! := by simpa [Lib.keeps] using hk
    rcases hk' with h0 | h0
    ·omega
    ·have g1:=hle j (m - 1) (by omega) (by omega)
     have g2:=hle (m - 1) m (by omega) (by omega)
     omega
   ·simp only [List.mem_append,List.mem_singleton,h2]
    constructor
    ·rintro (⟨j,hj,h⟩ | h)
     ·exact ⟨j,by omega,h⟩
     ·exact ⟨m,by omega,h.symm⟩
    ·rintro ⟨j,hj,h⟩
     by_cases e:j=m
     ·subst e; exact .inr h.symm
     ·exact .inl ⟨j,by omega,h⟩
  | false=>
   rw [if_neg (by simp),List.append_nil]
   refine ⟨h1,fun x=>?_⟩
   rw [h2]
   have hk' : ¬ (m=0∨l.toArray[m]! ≠ l.toArray[m - 1]!):=by
    intro h
    have:Lib.keeps l.toArray m=true:=by unfold Lib.keeps; exact decide_eq_true h
    rw [hk] at this
    cases this
   have hm0:m≠0:=fun e=>hk' (.inl e)
   have he:l.toArray[m]! = l.toArray[m - 1]! := Classical.byContradiction fun e=>hk' (.inr e)
   constructor
   ·rintro ⟨j,hj,h⟩; exact ⟨j,by omega,h⟩
   ·rintro ⟨j,hj,h⟩
    by_cases e:j=m
    ·subst e; exact ⟨j - 1,by omega,by rw [← he]; exact h⟩
    ·exact ⟨j,by omega,h⟩
theorem compact_asc (l:List Int) (hs:l.Pairwise (·≤·)):(Lib.compact l).Pairwise (· < ·)∧∀ x,x∈Lib.compact l↔x∈l:=by
 obtain ⟨h1,h2⟩:=compactUpTo_asc l hs l.length (Nat.le_refl _)
 refine ⟨h1,fun x=>?_⟩
 unfold Lib.compact
 rw [h2,List.mem_iff_getElem]
 constructor
 ·rintro ⟨j,hj,h⟩; exact ⟨j,hj,by simpa [hj] using h⟩
 ·rintro ⟨j,hj,h⟩; exact ⟨j,hj,by simpa [hj] using h⟩
theorem asc_unique:∀ (a b:List Int),a.Pairwise (· < ·)→b.Pairwise (· < ·)→(∀ x,x∈a↔x∈b)→a=b
 | [],[],_,_,_=>rfl
 | [],y::b,_,_,h=>absurd ((h y).2 (by simp)) (by simp)
 | x::a,[],_,_,h=>absurd ((h x).1 (by simp)) (by simp)
 | x::a,y::b,ha,hb,h=>by
  obtain ⟨ha1,ha2⟩:=List.pairwise_cons.1 ha
  obtain ⟨hb1,hb2⟩:=List.pairwise_cons.1 hb
  have e:x=y:=by
   have h1:=(h x).1 (by simp)
   have h2:=(h y).2 (by simp)
   rcases List.mem_cons.1 h1 with h1 | h1
   ·exact h1
   ·rcases List.mem_cons.1 h2 with h2 | h2
    ·exact h2.symm
    ·have:=hb1 x h1
     have:=ha1 y h2
     omega
  subst e
  congr 1
  refine asc_unique a b ha2 hb2 fun z=>?_
  constructor
  ·intro hz
   rcases List.mem_cons.1 ((h z).1 (List.mem_cons_of_mem _ hz)) with rfl | h1
   ·exact absurd (ha1 z hz) (by omega)
   ·exact h1
  ·intro hz
   rcases List.mem_cons.1 ((h z).2 (List.mem_cons_of_mem _ hz)) with rfl | h1
   ·exact absurd (hb1 z hz) (by omega)
   ·exact h1
def ascL (n:Nat) (l:List Int):List Int:=((List.range n).map fun k:Nat=>(k:Int)).filter fun x=>decide (x∈l)
theorem compact_sort (n:Nat) (l:List Int) (h:∀ x∈l,0≤x∧x < n):Lib.compact (sortI l)=ascL n l:=by
 obtain ⟨h1,h2⟩:=compact_asc _ (sortI_sorted l)
 refine asc_unique _ _ h1 ?_ fun x=>?_
 ·refine List.Pairwise.filter _ ?_
  rw [List.pairwise_map]
  exact List.pairwise_lt_range.imp (fun h=>by omega)
 ·rw [h2,sortI_mem]
  unfold ascL
  simp only [List.mem_filter,List.mem_map,List.mem_range,decide_eq_true_eq]
  constructor
  ·intro hx
   obtain ⟨a,b⟩:=h x hx
   exact ⟨⟨x.toNat,by omega,by omega⟩,hx⟩
  ·rintro ⟨_,hx⟩; exact hx
end Go.Proofs.YtnoldakbllfmnaaGreatDoor.Ev
namespace Go.Proofs.YtnoldakbllfmnaaGreatDoor.Ev
open Go Go.Proofs Go.Proofs.Ev
set_option linter.unusedVariables false
set_option linter.unusedSimpArgs false
def labT (os:List OP):List Int→List Int
 | []=>[]
 | a::r=>if (os.getD a.toNat zOP).kd=5 then (os.getD a.toNat zOP).tg::labT os r else labT os r
def nxtT (nI:Nat) (x:IN) (i:Nat):List Int:=if i+1 < nI∧x.op≠9∧x.op≠14∧x.op≠18∧x.op≠15 then [((i+1:Nat):Int)] else []
def sucL (os:List OP) (nI:Nat) (x:IN) (i:Nat):List Int:=ascL nI (nxtT nI x i++labT os x.ar)
theorem ascL_length (n:Nat) (l:List Int):(ascL n l).length≤n:=by
 unfold ascL
 exact Nat.le_trans (List.length_filter_le _ _) (by simp)
theorem ascL_mem {n:Nat} {l:List Int} {x:Int} (h:x∈ascL n l):0≤x∧x < n∧x∈l:=by
 unfold ascL at h
 simp only [List.mem_filter,List.mem_map,List.mem_range,decide_eq_true_eq] at h
 obtain ⟨⟨k,h1,rfl⟩,h2⟩:=h
 exact ⟨by omega,by omega,h2⟩
theorem labT_cons (os:List OP) (a:Int) (r:List Int):labT os (a::r)=if (os.getD a.toNat zOP).kd=5 then (os.getD a.toNat zOP).tg::labT os r else labT os r:=rfl
section
variable {n:Nat} {a1 a2:List AV}
theorem sort_eq (l:List Int) (hl:l.length≤1000000):Q3k.F n (l.map vi)=some ((sortI l).map vi):=by
 have hmost:most=1000000000:=rfl
 unfold Q3k.F sortA
 rw [cond_t (by simp; omega)]
 show (intsA (l.map fun n=>vi n)).map _=_
 rw [intsA_map]
 rfl
theorem compact_eq (l:List Int) (hl:l.length≤1000000):Q3b.F n (l.map vi)=some ((compactI l).map vi,(Lib.compact l).length):=by
 have hmost:most=1000000000:=rfl
 unfold Q3b.F compactA
 rw [cond_t (by simp; omega)]
 show (intsA (l.map fun n=>vi n)).map _=_
 rw [intsA_map]
 rfl
theorem take_compact (l:List Int):(((compactI l).map vi).drop 0).take (Lib.compact l).length=(Lib.compact l).map vi:=by
 rw [List.drop_zero,← List.map_take]
 unfold compactI
 rw [List.take_left']
 rfl
theorem sucP_l (os:List OP) (nI:Nat) (hl:∀ o∈os,o.kd=5→0≤o.tg∧o.tg≤(nI:Int) - 1) (ar:List Int) (har:ar.length≤1000) (ha:∀ a∈ar,0≤a∧a≤(os.length:Int) - 1) :
  ∀ (d i m:Nat) (acc:List Int),i+d=ar.length→d < m→acc.length+d≤2000→(∀ t∈acc,0≤t∧t < (nI:Int))→
   Q35.l n m (.z6 (ar.map vi) ar.length i (os.map OP.av) a1 a2 (acc.map vi))=some ((ascL nI (acc++labT os (ar.drop i))).map vi)
 | _,_,0,_,_,h,_,_=>absurd h (by omega)
 | 0,i,m+1,acc,h,_,hac,hin=>by
  have hs:(sortI acc).length=acc.length:=List.length_mergeSort _
  rw [Q35.at6]
  unfold Q35.r6
  rw [cond_f (by omega),List.drop_of_length_le (by omega),sort_eq acc (by omega),Option.bind_some,compact_eq _ (by omega),Option.bind_some]
  simp only
  rw [take_compact,compact_sort nI acc hin]
  simp [labT]
 | d+1,i,m+1,acc,h,hm,hac,hin=>by
  have hi:i < ar.length:=by omega
  have hmost:most=1000000000:=rfl
  have h0:=ha _ (List.getElem_mem hi)
  obtain ⟨k,hk⟩ : ∃ k:Nat,ar[i]=(k:Int):=⟨ar[i].toNat,by omega⟩
  rw [hk] at h0
  have hkl:k < os.length:=by omega
  have ih:=fun acc' h1 h2=>sucP_l os nI hl ar har ha d (i+1) m acc' (by omega) (by omega) h1 h2
  rw [Q35.at6]
  unfold Q35.r6
  simp (disch:=omega) only [Option.bind_some,Option.bind_none,cond_true,cond_false,Bool.not_true,Bool.not_false,List.length_map,Ws_length,bs_size,within_t,upto_t,wsucc,Int.toNat_natCast,at_mapN,Ws_getDN,cells_agg,cells_v,withCons_cons,withInt_mk,withStr_mk,withBool_mk,withSl_mk,cond_t,cond_f,hk,OP.av]
  rw [List.drop_eq_getElem_cons hi,hk,labT_cons,Int.toNat_natCast,List.getD_eq_getElem?_getD,List.getElem?_eq_getElem hkl,Option.getD_some,bif_eq0]
  by_cases h5:os[k].kd=5
  ·have ht:=hl _ (List.getElem_mem hkl) h5
   rw [if_pos h5,if_pos h5,cond_t (by simp; omega),show acc.map vi++[vi os[k].tg]=(acc++[os[k].tg]).map vi by simp,ih _ (by simp; omega) (fun t ht'=>by
    rcases List.mem_append.1 ht' with h1 | h1
    ·exact hin t h1
    ·simp at h1; omega)]
   simp
  ·rw [if_neg h5,if_neg h5,ih _ (by omega) hin]
theorem sucP_eq (hn:3000≤n) (os:List OP) (is:List IN) (hl:∀ o∈os,o.kd=5→0≤o.tg∧o.tg≤(is.length:Int) - 1) (hil:is.length≤1000) (i:Nat) (hi:i < is.length) (har:is[i].ar.length≤1000) (ha:∀ a∈is[i].ar,0≤a∧a≤(os.length:Int) - 1) :
  Q35.F n (os.map OP.av) (is.map IN.av) a2 i=some ((sucL os is.length is[i] i).map vi):=by
 obtain ⟨m,rfl⟩ : ∃ m,n=m+1:=⟨n - 1,by omega⟩
 have hmost:most=1000000000:=rfl
 have key:∀ acc:List Int,acc.length≤1→(∀ t∈acc,0≤t∧t < (is.length:Int))→Q35.l (m+1) (m+1) (.z5 (os.map OP.av) (is.map IN.av) a2 is[i].op (is[i].ar.map vi) (acc.map vi))=some ((ascL is.length (acc++labT os is[i].ar)).map vi):=by
  intro acc h1 h2
  rw [Q35.at5]
  unfold Q35.r5
  have:=sucP_l (n:=m+1) (a1:=is.map IN.av) (a2:=a2) os is.length hl is[i].ar har ha is[i].ar.length 0 m acc (by omega) (by omega) (by omega) h2
  rw [List.drop_zero] at this
  rw [List.length_map]
  exact this
 unfold Q35.F Q35.e
 simp (disch:=omega) only [Option.bind_some,Option.bind_none,cond_true,cond_false,Bool.not_true,Bool.not_false,List.length_map,Ws_length,bs_size,within_t,upto_t,wsucc,Int.toNat_natCast,at_mapN,Ws_getDN,cells_agg,cells_v,withCons_cons,withInt_mk,withStr_mk,withBool_mk,withSl_mk,cond_t,cond_f,IN.av]
 have e0:=key [] (by simp) (by simp)
 unfold sucL nxtT
 by_cases h1:i+1 < is.length
 ·have e1:=key [((i+1:Nat):Int)] (by simp) (by intro t ht; simp at ht; omega)
  rw [cond_t (by omega)]
  simp only [bifne]
  by_cases h9:is[i].op=9
  ·rw [if_pos h9,if_neg (by simp [h9])]; exact e0
  rw [if_neg h9]
  by_cases h14:is[i].op=14
  ·rw [if_pos h14,if_neg (by simp [h14])]; exact e0
  rw [if_neg h14]
  by_cases h18:is[i].op=18
  ·rw [if_pos h18,if_neg (by simp [h18])]; exact e0
  rw [if_neg h18]
  by_cases h15:is[i].op=15
  ·rw [if_pos h15,if_neg (by simp [h15])]; exact e0
  rw [if_neg h15,cond_t (by simp; omega),if_pos ⟨h1,h9,h14,h18,h15⟩]
  exact e1
 ·rw [cond_f (by omega),if_neg (by omega)]
  exact e0
def Bs (d:List Bool):List AV:=d.map fun b=>vb b
theorem Bs_length (d:List Bool):(Bs d).length=d.length:=by simp [Bs]
theorem Bs_set (d:List Bool) (i:Nat) (b:Bool):(Bs d).set i (vb b)=Bs (d.set i b):=by simp [Bs,List.map_set]
theorem Bs_at {d:List Bool} {i:Nat} (hi:i < d.length):(Bs d).getD i AV.undef=vb d[i]:=at_mapN (fun b=>vb b) hi
end
end Go.Proofs.YtnoldakbllfmnaaGreatDoor.Ev
namespace Go.Proofs.YtnoldakbllfmnaaGreatDoor.Ev
open Go Go.Proofs Go.Proofs.Ev
set_option linter.unusedVariables false
set_option linter.unusedSimpArgs false
def hdl:List MN→Int→List Int
 | [],_=>[]
 | m::r,i=>if m.fr≤i∧i < m.tt then m.hd::hdl r i else hdl r i
theorem hdl_cons (m:MN) (r:List MN) (i:Int):hdl (m::r) i=if m.fr≤i∧i < m.tt then m.hd::hdl r i else hdl r i:=rfl
theorem hdl_len:∀ (ms:List MN) (i:Int),(hdl ms i).length≤ms.length
 | [],i=>Nat.le_refl _
 | m::r,i=>by
  have:=hdl_len r i
  rw [hdl_cons]
  split <;> simp <;> omega
theorem hdl_mem {nI:Nat}:∀ (ms:List MN) (i:Int),(∀ m∈ms,monX nI m=0)→∀ t∈hdl ms i,0≤t∧t < (nI:Int)
 | [],i,_,t,h=>by cases h
 | m::r,i,hm,t,h=>by
  have ih:=hdl_mem r i (fun q hq=>hm q (by simp [hq]))
  rw [hdl_cons] at h
  split at h
  ·rcases List.mem_cons.1 h with rfl | h
   ·have:=monX_ok (hm m (by simp)); omega
   ·exact ih t h
  ·exact ih t h
def edI (os:List OP) (is:List IN) (ms:List MN) (i:Nat):List Int:=(match is[i]? with | some x=>sucL os is.length x i | none=>[])++hdl ms i
def edN (os:List OP) (is:List IN) (ms:List MN) (i:Nat):List Nat:=(edI os is ms i).map Int.toNat
def NI (l:List Nat):List AV:=l.map fun k=>vi ((k:Nat):Int)
theorem NI_length (l:List Nat):(NI l).length=l.length:=by simp [NI]
theorem NI_app (a b:List Nat):NI a++NI b=NI (a++b):=by simp [NI]
theorem NI_of:∀ l:List Int,(∀ x∈l,0≤x)→l.map vi=NI (l.map Int.toNat)
 | [],_=>rfl
 | x::r,h=>by
  have ih:=NI_of r (fun y hy=>h y (by simp [hy]))
  have hx:=h x (by simp)
  have e:((x.toNat:Nat):Int)=x:=by omega
  show vi x::r.map vi=vi ((x.toNat:Nat):Int)::NI (r.map Int.toNat)
  rw [ih,e]
structure OkF (os:List OP) (is:List IN) (ms:List MN):Prop where
 os_:os.length≤28
 is_:1≤is.length∧is.length≤40
 ms_:ms.length≤6
 lab:∀ o∈os,o.kd=5→0≤o.tg∧o.tg≤(is.length:Int) - 1
 ar:∀ x∈is,x.ar.length≤3∧∀ a∈x.ar,0≤a∧a≤(os.length:Int) - 1
 mon:∀ m∈ms,monX is.length m=0
theorem OkF.of {os:List OP} {is:List IN} {ms:List MN} (h:errX os is ms=0):OkF os is ms:=by
 have H:=errX_ok h
 refine ⟨by have:=H.lens; omega,by have:=H.lens; omega,by have:=H.lens; omega,fun o ho hk=>?_,fun x hx=>?_,H.mos⟩
 ·exact (opsE_right os [] H.ops (fun _ h=>by cases h) o ho).tg hk
 ·have:=insX_ok (H.ins x hx)
  exact ⟨this.2.1,this.2.2⟩
variable {os:List OP} {is:List IN} {ms:List MN}
theorem edI_mem (H:OkF os is ms) (i:Nat):∀ t∈edI os is ms i,0≤t∧t < (is.length:Int):=by
 intro t ht
 unfold edI at ht
 rcases List.mem_append.1 ht with h | h
 ·split at h
  ·have:=ascL_mem h; omega
  ·cases h
 ·exact hdl_mem ms i H.mon t h
theorem edN_mem (H:OkF os is ms):∀ i,i < is.length→∀ j∈edN os is ms i,j < is.length:=by
 intro i _ j hj
 obtain ⟨t,ht,rfl⟩:=List.mem_map.1 hj
 have:=edI_mem H i t ht
 omega
theorem edI_len (H:OkF os is ms) (i:Nat):(edI os is ms i).length≤46:=by
 have h1:=hdl_len ms i
 have h2:=H.ms_
 have h3:=H.is_
 unfold edI
 rw [List.length_append]
 have:(match is[i]? with | some x=>sucL os is.length x i | none=>[]).length≤40:=by
  split
  ·have:=ascL_length is.length (nxtT is.length (by assumption) i++labT os (IN.ar (by assumption)))
   exact Nat.le_trans (ascL_length _ _) (by omega)
  ·simp
 omega
theorem edI_at (i:Nat) (hi:i < is.length):edI os is ms i=sucL os is.length is[i] i++hdl ms i:=by
 unfold edI
 rw [List.getElem?_eq_getElem hi]
section
variable {n:Nat}
theorem hdP_l (hm:∀ m∈ms,monX is.length m=0) (hil:is.length≤1000) (hml:ms.length≤1000) (i:Nat) (A B C D:List AV):∀ (e k m:Nat) (acc:List AV),k+e=ms.length→acc.length+e≤1000000→
  Q2b.l n (m+(e+1)) (.z13 i (ms.map MN.av) ms.length k A B C D acc)=Q2b.l n m (.z6 A B C D (acc++(hdl (ms.drop k) i).map vi))
 | 0,k,m,acc,h,_=>by
  rw [show m+(0+1)=m+1 from rfl,Q2b.at13]
  unfold Q2b.r13
  rw [cond_f (by omega),List.drop_of_length_le (by omega)]
  simp [hdl]
 | e+1,k,m,acc,h,hac=>by
  have hk:k < ms.length:=by omega
  have hmost:most=1000000000:=rfl
  have hx:=monX_ok (hm _ (List.getElem_mem hk))
  have ih:=fun acc' h'=>hdP_l hm hil hml i A B C D e (k+1) m acc' (by omega) h'
  rw [show m+(e+1+1)=(m+(e+1))+1 by omega,Q2b.at13]
  unfold Q2b.r13
  simp (disch:=omega) only [Option.bind_some,Option.bind_none,cond_true,cond_false,Bool.not_true,Bool.not_false,List.length_map,Ws_length,bs_size,within_t,upto_t,wsucc,Int.toNat_natCast,at_mapN,Ws_getDN,cells_agg,cells_v,withCons_cons,withInt_mk,withStr_mk,withBool_mk,withSl_mk,cond_t,cond_f,MN.av]
  rw [pin_eq,Option.bind_some,bif_ite,w64 (by omega) (by omega),List.drop_eq_getElem_cons hk,hdl_cons]
  by_cases h1:ms[k].fr≤(i:Int)∧(i:Int) < ms[k].tt
  ·rw [if_pos (by omega),if_pos h1,cond_t (by simp; omega),ih _ (by simp; omega)]
   simp
  ·rw [if_neg (by omega),if_neg h1,ih _ (by omega)]
theorem chop_eq (k:Nat) (xs:List AV):chop k xs=xs.drop k:=by cases k <;> rfl
theorem takeP (H:OkF os is ms) (hn:3000≤n) {d:List Bool} (hd:d.length=is.length) {i:Nat} (hi:i < is.length) (row:List AV) (hrow:row.length≤100000) (m:Nat) (hdi:d.getD i false=false) :
  (Q35.F n (os.map OP.av) (is.map IN.av) (ms.map MN.av) ((i:Nat):Int)).bind (fun p=>bif decide (row.length+p.length≤most) then (Q2b.l n (m+(ms.length+1)) (.z13 i (ms.map MN.av) (((ms.map MN.av).length:Nat):Int) 0 (os.map OP.av) (is.map IN.av) (ms.map MN.av) (Bs (d.set i true)) (row++p))) else none)
   = Q2b.l n m (.z6 (os.map OP.av) (is.map IN.av) (ms.map MN.av) (Bs (d.set i true)) (row++NI (edN os is ms i))):=by
 have hx:=H.ar _ (List.getElem_mem hi)
 have hmost:most=1000000000:=rfl
 have h40:=H.is_
 have h6:=H.ms_
 have hsl:(sucL os is.length is[i] i).length≤is.length:=ascL_length _ _
 rw [sucP_eq hn os is H.lab (by omega) i hi (by omega) hx.2,Option.bind_some,cond_t (by simp; omega),List.length_map]
 have:=hdP_l (n:=n) (is:=is) H.mon (by omega) (by omega) i (os.map OP.av) (is.map IN.av) (ms.map MN.av) (Bs (d.set i true)) ms.length 0 m (row++(sucL os is.length is[i] i).map vi) (by omega) (by simp; omega)
 rw [show (0:Int)=((0:Nat):Int) from rfl,this,List.drop_zero]
 unfold edN
 rw [← NI_of _ (fun x hx=>(edI_mem H i x hx).1),edI_at i hi]
 simp
theorem stepP {d:List Bool} (hd:d.length=is.length) {i:Nat} (hi:i < is.length) {r:List Nat} (m:Nat) (A B C:List AV) :
  Q2b.l n (m+4) (.z6 A B C (Bs d) (NI (i::r)))=if d.getD i false=true then Q2b.l n m (.z6x1 A B C (Bs d) (NI (i::r)))
   else (Q35.F n A B C ((i:Nat):Int)).bind (fun p=>bif decide ((NI r).length+p.length≤most) then (Q2b.l n m (.z13 i C ((C.length:Nat):Int) 0 A B C (Bs (d.set i true)) (NI r++p))) else none):=by
 have hid:i < d.length:=by omega
 rw [show m+4=(m+3)+1 from rfl,Q2b.at6]
 unfold Q2b.r6
 simp only [NI_length,List.length_cons]
 rw [cond_t (by omega),show m+3=(m+2)+1 from rfl,Q2b.at7]
 unfold Q2b.r7
 simp only [NI_length,List.length_cons]
 rw [cond_t (by omega),show (NI (i::r)).getD 0 AV.undef=vi (i:Int) from rfl]
 simp (disch:=omega) only [Option.bind_some,Option.bind_none,cond_true,cond_false,Bool.not_true,Bool.not_false,List.length_map,Ws_length,bs_size,within_t,upto_t,wsucc,Int.toNat_natCast,at_mapN,Ws_getDN,cells_agg,cells_v,withCons_cons,withInt_mk,withStr_mk,withBool_mk,withSl_mk,cond_t,cond_f]
 rw [show m+2=(m+1)+1 from rfl,Q2b.at8]
 unfold Q2b.r8
 simp only [NI_length,List.length_cons]
 rw [show (decide ((0:Int)≤1)&&decide ((1:Int)≤((r.length+1:Nat):Int)))=true by rw [Bool.and_eq_true,decide_eq_true_eq,decide_eq_true_eq]; omega,cond_true,Q2b.at9]
 unfold Q2b.r9
 rw [Bs_length]
 simp (disch:=omega) only [Option.bind_some,Option.bind_none,cond_true,cond_false,Bool.not_true,Bool.not_false,List.length_map,Ws_length,bs_size,within_t,upto_t,wsucc,Int.toNat_natCast,at_mapN,Ws_getDN,cells_agg,cells_v,withCons_cons,withInt_mk,withStr_mk,withBool_mk,withSl_mk,cond_t,cond_f,Bs_at]
 rw [List.getD_eq_getElem?_getD,List.getElem?_eq_getElem hid,Option.getD_some]
 cases hb:d[i] with
 | true=>rw [cond_true,if_pos rfl]
 | false=>
  rw [cond_false,if_neg (by simp),Bs_set]
  simp only [show (NI (i::r)).drop 1=NI r from rfl,NI_length]
theorem stepP1 {d:List Bool} (hd:d.length=is.length) {i:Nat} (hi:i < is.length) {r:List Nat} (m:Nat) (A B C row:List AV) (hr:row.drop 1=NI (i::r)) :
  Q2b.l n (m+4) (.z6x1 A B C (Bs d) row)=if d.getD i false=true then Q2b.l n m (.z6x2 (1+1) A B C (Bs d) row)
   else (Q35.F n A B C ((i:Nat):Int)).bind (fun p=>bif decide ((NI r).length+p.length≤most) then (Q2b.l n m (.z13 i C ((C.length:Nat):Int) 0 A B C (Bs (d.set i true)) (NI r++p))) else none):=by
 have hid:i < d.length:=by omega
 have hl:row.length - 1=r.length+1:=by have:=congrArg List.length hr; simpa [NI] using this
 have h0:row.getD (0+1) AV.undef=vi (i:Int):=by
  have:=congrArg (fun l=>l.getD 0 AV.undef) hr
  simpa [NI,List.getD_eq_getElem?_getD] using this
 have h2:row.drop (1+1)=NI r:=by rw [← List.drop_drop,hr]; rfl
 rw [show m+4=(m+3)+1 from rfl,Q2b.at6x1]
 unfold Q2b.r6x1
 simp only [hl]
 rw [cond_t (by omega),show m+3=(m+2)+1 from rfl,Q2b.at7x1]
 unfold Q2b.r7x1
 simp only [hl]
 rw [cond_t (by omega),h0]
 simp (disch:=omega) only [Option.bind_some,Option.bind_none,cond_true,cond_false,Bool.not_true,Bool.not_false,List.length_map,Ws_length,bs_size,within_t,upto_t,wsucc,Int.toNat_natCast,at_mapN,Ws_getDN,cells_agg,cells_v,withCons_cons,withInt_mk,withStr_mk,withBool_mk,withSl_mk,cond_t,cond_f]
 rw [show m+2=(m+1)+1 from rfl,Q2b.at8x1]
 unfold Q2b.r8x1
 simp only [hl]
 rw [show (decide ((0:Int)≤1)&&decide ((1:Int)≤((r.length+1:Nat):Int)))=true by rw [Bool.and_eq_true,decide_eq_true_eq,decide_eq_true_eq]; omega,cond_true,Q2b.at9x1]
 unfold Q2b.r9x1
 rw [Bs_length,chop_eq,h2]
 simp (disch:=omega) only [Option.bind_some,Option.bind_none,cond_true,cond_false,Bool.not_true,Bool.not_false,List.length_map,Ws_length,bs_size,within_t,upto_t,wsucc,Int.toNat_natCast,at_mapN,Ws_getDN,cells_agg,cells_v,withCons_cons,withInt_mk,withStr_mk,withBool_mk,withSl_mk,cond_t,cond_f,Bs_at]
 rw [List.getD_eq_getElem?_getD,List.getElem?_eq_getElem hid,Option.getD_some]
 cases hb:d[i] with
 | true=>rw [cond_true,if_pos rfl]
 | false=>
  rw [cond_false,if_neg (by simp),Bs_set]
theorem stepP2 {d:List Bool} (hd:d.length=is.length) {i:Nat} (hi:i < is.length) {r:List Nat} (m k:Nat) (A B C row:List AV) (hr:row.drop k=NI (i::r)) :
  Q2b.l n (m+4) (.z6x2 k A B C (Bs d) row)=if d.getD i false=true then Q2b.l n m (.z6x2 (1+k) A B C (Bs d) row)
   else (Q35.F n A B C ((i:Nat):Int)).bind (fun p=>bif decide ((NI r).length+p.length≤most) then (Q2b.l n m (.z13 i C ((C.length:Nat):Int) 0 A B C (Bs (d.set i true)) (NI r++p))) else none):=by
 have hid:i < d.length:=by omega
 have hl:row.length - k=r.length+1:=by have:=congrArg List.length hr; simpa [NI] using this
 have h0:row.getD (0+k) AV.undef=vi (i:Int):=by
  have:=congrArg (fun l=>l.getD 0 AV.undef) hr
  simpa [NI,List.getD_eq_getElem?_getD] using this
 have h2:row.drop (1+k)=NI r:=by rw [Nat.add_comm,← List.drop_drop,hr]; rfl
 rw [show m+4=(m+3)+1 from rfl,Q2b.at6x2]
 unfold Q2b.r6x2
 simp only [hl]
 rw [cond_t (by omega),show m+3=(m+2)+1 from rfl,Q2b.at7x2]
 unfold Q2b.r7x2
 simp only [hl]
 rw [cond_t (by omega),h0]
 simp (disch:=omega) only [Option.bind_some,Option.bind_none,cond_true,cond_false,Bool.not_true,Bool.not_false,List.length_map,Ws_length,bs_size,within_t,upto_t,wsucc,Int.toNat_natCast,at_mapN,Ws_getDN,cells_agg,cells_v,withCons_cons,withInt_mk,withStr_mk,withBool_mk,withSl_mk,cond_t,cond_f]
 rw [show m+2=(m+1)+1 from rfl,Q2b.at8x2]
 unfold Q2b.r8x2
 simp only [hl]
 rw [show (decide ((0:Int)≤1)&&decide ((1:Int)≤((r.length+1:Nat):Int)))=true by rw [Bool.and_eq_true,decide_eq_true_eq,decide_eq_true_eq]; omega,cond_true,Q2b.at9x1]
 unfold Q2b.r9x1
 rw [Bs_length,chop_eq,h2]
 simp (disch:=omega) only [Option.bind_some,Option.bind_none,cond_true,cond_false,Bool.not_true,Bool.not_false,List.length_map,Ws_length,bs_size,within_t,upto_t,wsucc,Int.toNat_natCast,at_mapN,Ws_getDN,cells_agg,cells_v,withCons_cons,withInt_mk,withStr_mk,withBool_mk,withSl_mk,cond_t,cond_f,Bs_at]
 rw [List.getD_eq_getElem?_getD,List.getElem?_eq_getElem hid,Option.getD_some]
 cases hb:d[i] with
 | true=>rw [cond_true,if_pos rfl]
 | false=>
  rw [cond_false,if_neg (by simp),Bs_set]
theorem endP (A B C D:List AV) (m:Nat):Q2b.l n (m+2) (.z6 A B C D (NI []))=some (D,0)∧(∀ row:List AV,row.drop 1=NI []→Q2b.l n (m+2) (.z6x1 A B C D row)=some (D,0))∧
  ∀ (k:Nat) (row:List AV),row.drop k=NI []→Q2b.l n (m+2) (.z6x2 k A B C D row)=some (D,0):=by
 have h18:Q2b.l n (m+1) (.z18 D)=some (D,0):=by
  rw [Q2b.at18]
  rfl
 refine ⟨?_,fun row hr=>?_,fun k row hr=>?_⟩
 ·rw [show m+2=(m+1)+1 from rfl,Q2b.at6]
  unfold Q2b.r6
  simp only [NI_length,List.length_nil]
  rw [cond_f (by omega),h18]
 ·have hl:row.length - 1=0:=by have:=congrArg List.length hr; simpa [NI] using this
  rw [show m+2=(m+1)+1 from rfl,Q2b.at6x1]
  unfold Q2b.r6x1
  simp only [hl]
  rw [cond_f (by omega),h18]
 ·have hl:row.length - k=0:=by have:=congrArg List.length hr; simpa [NI] using this
  rw [show m+2=(m+1)+1 from rfl,Q2b.at6x2]
  unfold Q2b.r6x2
  simp only [hl]
  rw [cond_f (by omega),h18]
theorem bfsP (H:OkF os is ms) (hn:3000≤n):∀ (M:Nat) (d:List Bool) (op:List Nat),BInv (edN os is ms) is.length d op→fls d*47+op.length≤M→M≤10000→
  ∀ m,M*11+2≤m→Q2b.l n m (.z6 (os.map OP.av) (is.map IN.av) (ms.map MN.av) (Bs d) (NI op))=some (Bs (reachL (edN os is ms) is.length),0)∧
   (∀ row:List AV,row.drop 1=NI op→Q2b.l n m (.z6x1 (os.map OP.av) (is.map IN.av) (ms.map MN.av) (Bs d) row)=some (Bs (reachL (edN os is ms) is.length),0))∧
   ∀ (k:Nat) (row:List AV),row.drop k=NI op→Q2b.l n m (.z6x2 k (os.map OP.av) (is.map IN.av) (ms.map MN.av) (Bs d) row)=some (Bs (reachL (edN os is ms) is.length),0):=by
 intro M
 induction M with
 | zero=>
  intro d op hI hM _ m hm
  have h0:op=[]:=List.length_eq_zero_iff.1 (by omega)
  subst h0
  obtain ⟨q,rfl⟩ : ∃ q,m=q+2:=⟨m - 2,by omega⟩
  rw [← hI.done (by have:=H.is_; omega) (edN_mem H)]
  exact endP _ _ _ _ q
 | succ M ih=>
  intro d op hI hM h10 m hm
  cases op with
  | nil=>
   obtain ⟨q,rfl⟩ : ∃ q,m=q+2:=⟨m - 2,by omega⟩
   rw [← hI.done (by have:=H.is_; omega) (edN_mem H)]
   exact endP _ _ _ _ q
  | cons i r=>
   have h6:=H.ms_
   have h40:=H.is_
   obtain ⟨hin,_⟩:=hI.open_ i (by simp)
   simp only [List.length_cons] at hM
   obtain ⟨q,rfl⟩ : ∃ q,m=q+4:=⟨m - 4,by omega⟩
   have hr100:r.length≤100000:=by omega
   by_cases hd:d.getD i false=true
   ·have hs:=hI.skip hd
    have h9:=ih d r hs (by omega) (by omega) q (by omega)
    refine ⟨?_,fun row hrow=>?_,fun k row hrow=>?_⟩
    ·rw [stepP hI.len hin,if_pos hd]
     exact h9.2.1 _ rfl
    ·rw [stepP1 hI.len hin q _ _ _ row hrow,if_pos hd]
     exact h9.2.2 _ _ (by rw [← List.drop_drop,hrow]; rfl)
    ·rw [stepP2 hI.len hin q k _ _ _ row hrow,if_pos hd]
     exact h9.2.2 _ _ (by rw [Nat.add_comm,← List.drop_drop,hrow]; rfl)
   ·have hdf:d.getD i false=false:=by simpa using hd
    have ht:=hI.take (edN_mem H)
    have hf:=fls_set d i (by rw [hI.len]; exact hin) hdf
    have hle:(edN os is ms i).length≤46:=by unfold edN; rw [List.length_map]; exact edI_len H i
    obtain ⟨s,rfl⟩ : ∃ s,q=s+(ms.length+1):=⟨q - (ms.length+1),by omega⟩
    have h9:=(ih (d.set i true) (r++edN os is ms i) ht (by rw [List.length_append]; omega) (by omega) s (by omega)).1
    have key:=takeP (n:=n) H hn hI.len hin (NI r) (by rw [NI_length]; exact hr100) s hdf
    rw [NI_app,h9] at key
    refine ⟨?_,fun row hrow=>?_,fun k row hrow=>?_⟩
    ·rw [stepP hI.len hin,if_neg hd]; exact key
    ·rw [stepP1 hI.len hin _ _ _ _ row hrow,if_neg hd]; exact key
    ·rw [stepP2 hI.len hin _ k _ _ _ row hrow,if_neg hd]; exact key
end
end Go.Proofs.YtnoldakbllfmnaaGreatDoor.Ev
namespace Go.Proofs.YtnoldakbllfmnaaGreatDoor.Ev
open Go Go.Proofs Go.Proofs.Ev
set_option linter.unusedVariables false
set_option linter.unusedSimpArgs false
section
variable {n:Nat} {os:List OP} {is:List IN} {ms:List MN}
theorem mk_ok {k:Nat} (h:k≤1000):(decide ((0:Int)≤((k:Nat):Int))&&decide (((k:Nat):Int)≤((most:Nat):Int)))=true:=by
 have hmost:most=1000000000:=rfl
 rw [Bool.and_eq_true,decide_eq_true_eq,decide_eq_true_eq]
 omega
theorem reachedP (H:OkF os is ms) (he:errX os is ms=0) (hn:1000002≤n):Q2b.F n (os.map OP.av) (is.map IN.av) (ms.map MN.av)=some (Bs (reachL (edN os is ms) is.length),0):=by
 have h40:=H.is_
 have h6:=H.ms_
 have h28:=H.os_
 unfold Q2b.F Q2b.e
 rw [programErr_eq (by omega) os h28 is (by omega) (fun x hx=>by have:=(H.ar x hx).1; omega) ms (by omega),Option.bind_some,he]
 simp only [List.length_map,bifne,if_true,decide_true,Bool.and_true]
 rw [mk_ok (by omega),cond_true,Int.toNat_natCast]
 have hrep:(List.replicate is.length (vb false):List AV)=Bs (List.replicate is.length false):=by simp [Bs]
 rw [hrep]
 have hf:=fls_le (List.replicate is.length false)
 rw [List.length_replicate] at hf
 exact (bfsP H (by omega) 1881 (List.replicate is.length false) [0] (BInv.start (by omega)) (by simp only [List.length_cons,List.length_nil]; omega) (by omega) n (by omega)).1
end
end Go.Proofs.YtnoldakbllfmnaaGreatDoor.Ev
namespace Go.Proofs.YtnoldakbllfmnaaGreatDoor.Ev
open Go Go.Proofs Go.Proofs.Ev
set_option linter.unusedVariables false
set_option linter.unusedSimpArgs false
theorem Rch.why {E:Nat→List Nat} {i:Nat} (h:Rch E i):i=0∨∃ j,Rch E j∧i∈E j:=by
 cases h with
 | zero=>exact .inl rfl
 | step hi hj=>exact .inr ⟨_,hi,hj⟩
def geM (d d' : List Bool):Prop:=d'.length=d.length∧∀ x,d.getD x false=true→d'.getD x false=true
theorem geM.refl (d:List Bool):geM d d:=⟨rfl,fun _ h=>h⟩
theorem geM.trans {a b c:List Bool} (h:geM a b) (g:geM b c):geM a c:=⟨g.1.trans h.1,fun x hx=>g.2 x (h.2 x hx)⟩
theorem geM_set (d:List Bool) (x:Nat):geM d (d.set x true):=by
 refine ⟨by simp,fun y hy=>?_⟩
 by_cases h:x < d.length
 ·exact (getD_set d x y h).2 (.inr hy)
 ·rw [List.set_eq_of_length_le (by omega)]; exact hy
theorem geM_keep {d:List Bool} {x:Nat} (hx:d.getD x false=false):geM d (d.set x false):=by
 refine ⟨by simp,fun y hy=>?_⟩
 by_cases e:x=y
 ·subst e; rw [hx] at hy; cases hy
 ·rw [List.getD_eq_getElem?_getD,List.getElem?_set,if_neg e,← List.getD_eq_getElem?_getD]; exact hy
section
variable {n:Nat} {os:List OP} {is:List IN} {ms:List MN} {R:List Bool}
theorem sucC_l (hR:R.length=is.length) (hil:is.length≤1000) (i:Nat) (hi:i < is.length) (A B C:List AV) (ks:List Nat) (hkl:ks.length≤100000) (hks:∀ k∈ks,k < is.length∧(R[i]'(by omega)=true→R.getD k false=true)) :
  ∀ (e k m:Nat) (d:List Bool),k+e=ks.length→d.length=is.length→∃ d',geM d d'∧(R[i]'(by omega)=true→∀ x∈ks.drop k,d'.getD x false=true)∧
   Q0m.l n (m+(2*e+1)) (.z17 i k A B C (Bs R) (Bs d) (NI ks))=Q0m.l n m (.z23 i 0 A B C (Bs R) (Bs d'))
 | 0,k,m,d,h,hd=>by
  refine ⟨d,.refl d,fun _ x hx=>?_,?_⟩
  ·rw [List.drop_of_length_le (by omega)] at hx; cases hx
  ·rw [show m+(2*0+1)=m+1 from rfl,Q0m.at17]
   unfold Q0m.r17
   rw [NI_length]
   simp only
   rw [cond_f (by omega)]
 | e+1,k,m,d,h,hd=>by
  have hk:k < ks.length:=by omega
  have hiR:i < R.length:=by omega
  obtain ⟨g1,g2⟩:=hks _ (List.getElem_mem hk)
  have hkR:ks[k] < R.length:=by omega
  have hkd:ks[k] < d.length:=by omega
  have hat:(NI ks).getD k AV.undef=vi ((ks[k]:Nat):Int):=at_mapN (fun k:Nat=>vi ((k:Nat):Int)) hk
  have hgR:R.getD ks[k] false=R[ks[k]]:=by rw [List.getD_eq_getElem?_getD,List.getElem?_eq_getElem hkR,Option.getD_some]
  have hgd:d.getD ks[k] false=d[ks[k]]:=by rw [List.getD_eq_getElem?_getD,List.getElem?_eq_getElem hkd,Option.getD_some]
  obtain ⟨d1,hd1,hin,heq⟩ : ∃ d1,geM d d1∧(R[i]=true→d1.getD ks[k] false=true)∧Q0m.l n (m+(2*(e+1)+1)) (.z17 i k A B C (Bs R) (Bs d) (NI ks))=Q0m.l n (m+(2*e+1)+1) (.z18 i k A B C (Bs R) (Bs d1) (NI ks)):=by
   rw [show m+(2*(e+1)+1)=(m+(2*e+1)+1)+1 by omega,Q0m.at17]
   unfold Q0m.r17
   rw [NI_length,Bs_length,Bs_length]
   simp only
   rw [cond_t (by omega),within_t hk,cond_true,Int.toNat_natCast,hat]
   simp (disch:=omega) only [Option.bind_some,Option.bind_none,cond_true,cond_false,Bool.not_true,Bool.not_false,List.length_map,Ws_length,bs_size,within_t,upto_t,wsucc,Int.toNat_natCast,at_mapN,Ws_getDN,cells_agg,cells_v,withCons_cons,withInt_mk,withStr_mk,withBool_mk,withSl_mk,cond_t,cond_f]
   rw [w64 (by omega) (by omega),Within_eq,Option.bind_some,decide_eq_true (by omega),Bool.not_true,cond_false]
   simp (disch:=omega) only [Option.bind_some,Option.bind_none,cond_true,cond_false,Bool.not_true,Bool.not_false,List.length_map,Ws_length,bs_size,within_t,upto_t,wsucc,Int.toNat_natCast,at_mapN,Ws_getDN,cells_agg,cells_v,withCons_cons,withInt_mk,withStr_mk,withBool_mk,withSl_mk,cond_t,cond_f,Bs_at]
   cases hb:R[i] with
   | true=>
    have hRk:R[ks[k]]=true:=by rw [← hgR]; exact g2 hb
    rw [cond_true,hRk,Bool.not_true,cond_false]
    cases hc:d[ks[k]] with
    | true=>exact ⟨d.set ks[k] true,geM_set d _,fun _=>(getD_set d _ _ hkd).2 (.inl rfl),by rw [cond_true,Bs_set]⟩
    | false=>exact ⟨d.set ks[k] true,geM_set d _,fun _=>(getD_set d _ _ hkd).2 (.inl rfl),by rw [cond_false,Bs_set]⟩
   | false=>
    rw [cond_false]
    cases hc:d[ks[k]] with
    | true=>exact ⟨d.set ks[k] true,geM_set d _,fun h=>(by cases h),by rw [cond_true,Bs_set]⟩
    | false=>exact ⟨d.set ks[k] false,geM_keep (by rw [hgd,hc]),fun h=>(by cases h),by rw [cond_false,Bs_set]⟩
  obtain ⟨d',k1,k2,k3⟩:=sucC_l hR hil i hi A B C ks hkl hks e (k+1) m d1 (by omega) (by rw [hd1.1,hd])
  refine ⟨d',hd1.trans k1,fun hb x hx=>?_,?_⟩
  ·rw [List.drop_eq_getElem_cons hk] at hx
   rcases List.mem_cons.1 hx with rfl | hx
   ·exact k1.2 _ (hin hb)
   ·exact k2 hb x hx
  ·rw [heq,Q0m.at18]
   unfold Q0m.r18
   rw [wsucc (by omega),k3]
theorem monC_l (hR:R.length=is.length) (hil:is.length≤1000) (hml:ms.length≤1000) (hm:∀ m∈ms,monX is.length m=0) (i:Nat) (hi:i < is.length) (A B:List AV) (hcl:R[i]'(by omega)=true→∀ t∈hdl ms i,R.getD t.toNat false=true) :
  ∀ (e k m:Nat) (d:List Bool),k+e=ms.length→d.length=is.length→∃ d',geM d d'∧(R[i]'(by omega)=true→∀ t∈hdl (ms.drop k) i,d'.getD t.toNat false=true)∧
   Q0m.l n (m+(2*e+1)) (.z23 i k A B (ms.map MN.av) (Bs R) (Bs d))=Q0m.l n m (.z11 ((i+1:Nat):Int) A B (ms.map MN.av) (Bs R) (Bs d'))
 | 0,k,m,d,h,hd=>by
  refine ⟨d,.refl d,fun _ x hx=>?_,?_⟩
  ·rw [List.drop_of_length_le (by omega)] at hx; cases hx
  ·rw [show m+(2*0+1)=m+1 from rfl,Q0m.at23]
   unfold Q0m.r23
   simp only [List.length_map]
   rw [cond_f (by omega),wsucc (by omega)]
 | e+1,k,m,d,h,hd=>by
  have hk:k < ms.length:=by omega
  have hiR:i < R.length:=by omega
  have hx:=monX_ok (hm _ (List.getElem_mem hk))
  obtain ⟨t,ht⟩ : ∃ t:Nat,ms[k].hd=(t:Int):=⟨ms[k].hd.toNat,by omega⟩
  have htI:t < is.length:=by omega
  have htR:t < R.length:=by omega
  have htd:t < d.length:=by omega
  have hgR:R.getD t false=R[t]:=by rw [List.getD_eq_getElem?_getD,List.getElem?_eq_getElem htR,Option.getD_some]
  have hmem:ms[k].fr≤(i:Int)∧(i:Int) < ms[k].tt→(t:Int)∈hdl ms i:=by
   intro hin
   have:∀ (l:List MN) (k:Nat) (hk:k < l.length),l[k].fr≤(i:Int)∧(i:Int) < l[k].tt→l[k].hd∈hdl l i:=by
    intro l
    induction l with
    | nil=>intro k hk; simp at hk
    | cons y r ih=>
     intro k hk hin
     rw [hdl_cons]
     cases k with
     | zero=>rw [if_pos (by simpa using hin)]; simp
     | succ k=>
      have:=ih k (by simpa using hk) (by simpa using hin)
      split
      ·exact List.mem_cons_of_mem _ (by simpa using this)
      ·simpa using this
   have:=this ms k hk hin
   rwa [ht] at this
  obtain ⟨d1,hd1,hin,heq⟩ : ∃ d1,geM d d1∧(R[i]=true→ms[k].fr≤(i:Int)∧(i:Int) < ms[k].tt→d1.getD t false=true)∧Q0m.l n (m+(2*(e+1)+1)) (.z23 i k A B (ms.map MN.av) (Bs R) (Bs d))=Q0m.l n (m+(2*e+1)+1) (.z24 i k A B (ms.map MN.av) (Bs R) (Bs d1)):=by
   rw [show m+(2*(e+1)+1)=(m+(2*e+1)+1)+1 by omega,Q0m.at23]
   unfold Q0m.r23
   simp (disch:=omega) only [Option.bind_some,Option.bind_none,cond_true,cond_false,Bool.not_true,Bool.not_false,List.length_map,Ws_length,bs_size,within_t,upto_t,wsucc,Int.toNat_natCast,at_mapN,Ws_getDN,cells_agg,cells_v,withCons_cons,withInt_mk,withStr_mk,withBool_mk,withSl_mk,cond_t,cond_f,MN.av]
   rw [ht,Bs_length,Bs_length]
   simp only [bif_ite]
   by_cases h1:ms[k].fr≤(i:Int)
   ·rw [if_pos h1]
    by_cases h2:(i:Int) < ms[k].tt
    ·rw [if_pos h2]
     simp (disch:=omega) only [Option.bind_some,Option.bind_none,cond_true,cond_false,Bool.not_true,Bool.not_false,List.length_map,Ws_length,bs_size,within_t,upto_t,wsucc,Int.toNat_natCast,at_mapN,Ws_getDN,cells_agg,cells_v,withCons_cons,withInt_mk,withStr_mk,withBool_mk,withSl_mk,cond_t,cond_f,Bs_at]
     cases hb:R[i] with
     | true=>
      have hRt:R[t]=true:=by rw [← hgR]; exact hcl hb _ (hmem ⟨h1,h2⟩)
      rw [cond_true,hRt,Bool.not_true,cond_false]
      exact ⟨d.set t true,geM_set d t,fun _ _=>(getD_set d _ _ htd).2 (.inl rfl),by rw [Bs_set]⟩
     | false=>exact ⟨d,.refl d,fun h=>(by cases h),by rw [cond_false]⟩
    ·rw [if_neg h2]; exact ⟨d,.refl d,fun _ h=>absurd h.2 h2,rfl⟩
   ·rw [if_neg h1]; exact ⟨d,.refl d,fun _ h=>absurd h.1 h1,rfl⟩
  obtain ⟨d',k1,k2,k3⟩:=monC_l hR hil hml hm i hi A B hcl e (k+1) m d1 (by omega) (by rw [hd1.1,hd])
  refine ⟨d',hd1.trans k1,fun hb x hx=>?_,?_⟩
  ·rw [List.drop_eq_getElem_cons hk,hdl_cons] at hx
   split at hx
   ·rename_i hin'
    rcases List.mem_cons.1 hx with rfl | hx
    ·rw [ht]; exact k1.2 _ (hin hb hin')
    ·exact k2 hb x hx
   ·exact k2 hb x hx
  ·rw [heq,Q0m.at24]
   unfold Q0m.r24
   rw [wsucc (by omega),k3]
theorem whyC_l (n:Nat) (hil:is.length≤1000) (hR:R.length=is.length) (d:List Bool) (hd:d.length=is.length) (h:∀ i,i < is.length→R.getD i false=true→d.getD i false=true):∀ (e i m:Nat),i+e=is.length→e < m→Q0m.l n m (.z31 i (Bs R) (Bs d))=some true
 | _,_,0,_,h=>absurd h (by omega)
 | 0,i,m+1,h',_=>by
  rw [Q0m.at31]
  unfold Q0m.r31
  rw [Bs_length]
  simp only
  rw [cond_f (by omega)]
 | e+1,i,m+1,h',hm=>by
  have hi:i < is.length:=by omega
  have hiR:i < R.length:=by omega
  have hid:i < d.length:=by omega
  have ih:=whyC_l n hil hR d hd h e (i+1) m (by omega) (by omega)
  have h1:=h i hi
  rw [List.getD_eq_getElem?_getD,List.getElem?_eq_getElem hiR,Option.getD_some,List.getD_eq_getElem?_getD,List.getElem?_eq_getElem hid,Option.getD_some] at h1
  rw [Q0m.at31]
  unfold Q0m.r31
  rw [Bs_length,Bs_length]
  simp (disch:=omega) only [Option.bind_some,Option.bind_none,cond_true,cond_false,Bool.not_true,Bool.not_false,List.length_map,Ws_length,bs_size,within_t,upto_t,wsucc,Int.toNat_natCast,at_mapN,Ws_getDN,cells_agg,cells_v,withCons_cons,withInt_mk,withStr_mk,withBool_mk,withSl_mk,cond_t,cond_f,Bs_at]
  cases hb:R[i] with
  | true=>rw [cond_true,h1 hb,Bool.not_true,cond_false,ih]
  | false=>rw [cond_false,ih]
theorem allC_l (H:OkF os is ms) (he:errX os is ms=0) (hn:1000002≤n):∀ (e i m:Nat) (d:List Bool),i+e=is.length→d.length=is.length→e*200+200≤m→d.getD 0 false=true→
  (∀ j,j < i→(reachL (edN os is ms) is.length).getD j false=true→∀ x∈edN os is ms j,d.getD x false=true)→
  Q0m.l n m (.z11 i (os.map OP.av) (is.map IN.av) (ms.map MN.av) (Bs (reachL (edN os is ms) is.length)) (Bs d))=some true
 | 0,i,m,d,h,hd,hm,h0,hw=>by
  have h40:=H.is_
  obtain ⟨p,rfl⟩ : ∃ p,m=p+1:=⟨m - 1,by omega⟩
  rw [Q0m.at11]
  unfold Q0m.r11
  rw [Bs_length,reachL_length]
  simp only
  rw [cond_f (by omega)]
  refine whyC_l n (by omega) (reachL_length _ _) d hd (fun x hx hr=>?_) is.length 0 p (by omega) (by omega)
  rcases ((reachL_at (edN os is ms) hx).1 hr).why with rfl | ⟨j,hj,hxj⟩
  ·exact h0
  ·by_cases hjl:j < is.length
   ·exact hw j (by omega) ((reachL_at _ hjl).2 hj) x hxj
   ·exfalso
    rcases hj.why with rfl | ⟨q,hq,hjq⟩
    ·omega
    ·have:=edN_mem H q
     by_cases hql:q < is.length
     ·exact hjl (this hql j hjq)
     ·obtain ⟨t,ht,rfl⟩:=List.mem_map.1 hjq
      have:=edI_mem H q t ht
      omega
 | e+1,i,m,d,h,hd,hm,h0,hw=>by
  have h40:=H.is_
  have h6:=H.ms_
  have h28:=H.os_
  have hi:i < is.length:=by omega
  have hx:=H.ar _ (List.getElem_mem hi)
  have hRl:=reachL_length (edN os is ms) is.length
  have hiR:i < (reachL (edN os is ms) is.length).length:=by omega
  have hgR:(reachL (edN os is ms) is.length).getD i false=(reachL (edN os is ms) is.length)[i]:=by rw [List.getD_eq_getElem?_getD,List.getElem?_eq_getElem hiR,Option.getD_some]
  have hcl:(reachL (edN os is ms) is.length)[i]=true→∀ t∈edI os is ms i,(reachL (edN os is ms) is.length).getD t.toNat false=true:=by
   intro hb t ht
   have:=edI_mem H i t ht
   exact (reachL_at _ (by omega)).2 (.step ((reachL_at _ hi).1 (by rw [hgR]; exact hb)) (List.mem_map.2 ⟨t,ht,rfl⟩))
  have hsl:(sucL os is.length is[i] i).length≤is.length:=ascL_length _ _
  have hsN:∀ x∈sucL os is.length is[i] i,0≤x∧x < (is.length:Int):=fun x hx=>by have:=ascL_mem hx; omega
  obtain ⟨s,rfl⟩ : ∃ s,m=s+(2*ms.length+1)+(2*((sucL os is.length is[i] i).map Int.toNat).length+1)+1:=⟨m - (2*ms.length+1) - (2*((sucL os is.length is[i] i).map Int.toNat).length+1) - 1,by rw [List.length_map]; omega⟩
  rw [Q0m.at11]
  unfold Q0m.r11
  rw [Bs_length,hRl]
  simp only
  rw [cond_t (by omega),own_eq (by omega) os (by omega) is (by omega) (fun x hx=>by have:=(H.ar x hx).1; omega) ms (by omega),Option.bind_some]
  have hS:Q2c.F n (os.map OP.av) (is.map IN.av) (ms.map MN.av) ((i:Nat):Int)=some ((sucL os is.length is[i] i).map vi,0):=by
   unfold Q2c.F Q2c.e
   simp only [programErr_eq (show 1001≤n by omega) os h28 is (by omega) (fun x hx=>by have:=(H.ar x hx).1; omega) ms (by omega),Option.bind_some,pin_eq,cond_eq,first2 (show 1001≤n by omega),List.length_map,w64 (show -9223372036854775808≤((is.length:Nat):Int) - 1 by omega) (show ((is.length:Nat):Int) - 1≤9223372036854775807 by omega),he]
   rw [decide_eq_true (by omega)]
   simp only [ne_eq,not_true_eq_false,if_false,Bool.not_true,Bool.false_eq_true,bifne,if_true,sucP_eq (show 3000≤n by omega) os is H.lab (by omega) i hi (by omega) hx.2,Option.bind_some]
  simp only [hS,Option.bind_some,bifne,if_true,List.length_map]
  rw [cond_f (by omega),NI_of _ (fun x hx=>(hsN x hx).1)]
  obtain ⟨d1,k1,k2,k3⟩:=sucC_l (n:=n) (is:=is) hRl (by omega) i hi (os.map OP.av) (is.map IN.av) (ms.map MN.av) ((sucL os is.length is[i] i).map Int.toNat) (by rw [List.length_map]; omega) (fun k hk=>by
   obtain ⟨t,ht,rfl⟩:=List.mem_map.1 hk
   refine ⟨by have:=hsN t ht; omega,fun hb=>hcl hb t (by rw [edI_at i hi]; exact List.mem_append.2 (.inl ht))⟩) ((sucL os is.length is[i] i).map Int.toNat).length 0 (s+(2*ms.length+1)) d (by omega) hd
  rw [List.length_map] at k3
  rw [show (0:Int)=((0:Nat):Int) from rfl,k3]
  obtain ⟨d2,g1,g2,g3⟩:=monC_l (n:=n) (is:=is) (ms:=ms) hRl (by omega) (by omega) H.mon i hi (os.map OP.av) (is.map IN.av) (fun hb t ht=>hcl hb t (by rw [edI_at i hi]; exact List.mem_append.2 (.inr ht))) ms.length 0 s d1 (by omega) (by rw [k1.1,hd])
  rw [show (0:Int)=((0:Nat):Int) from rfl,g3]
  have hge:=k1.trans g1
  refine allC_l H he hn e (i+1) s d2 (by omega) (by rw [hge.1,hd]) (by rw [List.length_map] at hm; omega) (hge.2 0 h0) (fun j hj hRj x hxj=>?_)
  by_cases hji:j=i
  ·subst hji
   have hb:(reachL (edN os is ms) is.length)[j]=true:=by rw [← hgR]; exact hRj
   obtain ⟨t,ht,rfl⟩:=List.mem_map.1 hxj
   rw [edI_at j hi] at ht
   rcases List.mem_append.1 ht with ht | ht
   ·exact g1.2 _ (k2 hb _ (by rw [List.drop_zero]; exact List.mem_map.2 ⟨t,ht,rfl⟩))
   ·exact g2 hb t (by rw [List.drop_zero]; exact ht)
  ·exact hge.2 x (hw j (by omega) hRj x hxj)
theorem closed_law (hn' : 1000002≤n) (os:List OP) (is:List IN) (ms:List MN):Q0m.F n (os.map OP.av) (is.map IN.av) (ms.map MN.av)=some true:=by
 have hn:1001≤n:=by omega
 unfold Q0m.F Q0m.e
 rw [awake_eq,Option.bind_some,few_eq hn,Option.bind_some,bif_not,if_neg (by simp),bif_not]
 cases h:fewP os is ms with
 | false=>rfl
 | true=>
  obtain ⟨h1,h2,h3,h4⟩:=few_x h
  rw [if_neg (by simp),errR_eq hn os h1 is h2 h4 ms h3,Option.bind_some]
  simp only [bifne]
  by_cases he:errX os is ms=0
  ·have H:=OkF.of he
   have h40:=H.is_
   have hRl:=reachL_length (edN os is ms) is.length
   have h0R:(reachL (edN os is ms) is.length)[0]'(by omega)=true:=by
    have:=(reachL_at (edN os is ms) (show 0 < is.length by omega)).2 .zero
    rwa [List.getD_eq_getElem?_getD,List.getElem?_eq_getElem (by omega),Option.getD_some] at this
   rw [if_pos he,own_eq hn os (by omega) is (by omega) h4 ms (by omega),Option.bind_some,reachedP H he hn',Option.bind_some]
   simp only [if_true,Bs_length,hRl,List.length_map]
   have hat:(Bs (reachL (edN os is ms) is.length)).getD 0 AV.undef=vb ((reachL (edN os is ms) is.length)[0]'(by omega)):=Bs_at (by omega)
   rw [cond_t (by omega),hat,h0R]
   simp (disch:=omega) only [Option.bind_some,Option.bind_none,cond_true,cond_false,Bool.not_true,Bool.not_false,List.length_map,Ws_length,bs_size,within_t,upto_t,wsucc,Int.toNat_natCast,at_mapN,Ws_getDN,cells_agg,cells_v,withCons_cons,withInt_mk,withStr_mk,withBool_mk,withSl_mk,cond_t,cond_f]
   simp only [decide_true,Bool.and_true]
   rw [mk_ok (by omega),cond_true]
   simp only [Int.toNat_natCast,List.length_replicate]
   rw [cond_t (by omega)]
   have hrep:(List.replicate is.length (vb false):List AV)=Bs (List.replicate is.length false):=by simp [Bs]
   rw [hrep,Bs_set]
   exact allC_l H he hn' is.length 0 n _ (by omega) (by simp) (by omega) ((getD_set _ _ _ (by simp; omega)).2 (.inl rfl)) (fun j hj=>by omega)
  ·rw [if_neg he]
end
end Go.Proofs.YtnoldakbllfmnaaGreatDoor.Ev
end
