import Derived.Test.YtnoldakbllfmnaaGreatDoorDCb
noncomputable section
namespace Go.Proofs.YtnoldakbllfmnaaGreatDoor.Ev
open Go Go.Proofs Go.Proofs.Ev
set_option linter.unusedVariables false
set_option linter.unusedSimpArgs false
section
variable {n:Nat}
theorem rMons (hn:1001≤n) (os:List AV) (is:List IN) (hi' : is.length≤1000) (ms:List MN) (hm' : ms.length≤1000) (z5 z6:Int):∀ (d i m:Nat),i+d=ms.length→d+1 < m→
  Q0z.l n m (.z21 i os (is.map IN.av) (ms.map MN.av) z5 z6)=some (if (mosE is.length (ms.drop i) i).2≠0 then (3,(mosE is.length (ms.drop i) i).1,(mosE is.length (ms.drop i) i).2) else (0,0,0))
 | _,_,0,_,h=>absurd h (by omega)
 | 0,i,m+1,h,_=>by
  rw [Q0z.at21]
  unfold Q0z.r21
  simp only [List.length_map]
  rw [cond_f (by omega),List.drop_of_length_le (by omega)]
  rfl
 | d+1,i,m+1,h,hm=>by
  have hi:i < ms.length:=by omega
  obtain ⟨q,rfl⟩ : ∃ q,m=q+1:=⟨m - 1,by omega⟩
  have ih:=rMons hn os is hi' ms hm' z5 z6 d (i+1) (q+1) (by omega) (by omega)
  have h25:Q0z.l n (q+1) (.z25 (i:Int) z5 z6)=some (3,(i:Int),3):=rfl
  rw [Q0z.at21]
  unfold Q0z.r21
  simp (disch:=omega) only [Option.bind_some,Option.bind_none,cond_true,cond_false,Bool.not_true,Bool.not_false,List.length_map,Ws_length,bs_size,within_t,upto_t,wsucc,Int.toNat_natCast,at_mapN,Ws_getDN,cells_agg,cells_v,withCons_cons,withInt_mk,withStr_mk,withBool_mk,withSl_mk,cond_t,cond_f,MN.av,h25,Within_eq]
  rw [w64 (by omega) (by omega),ih,List.drop_eq_getElem_cons hi,mosE_cons]
  unfold monX
  by_cases h1:0≤ms[i].fr
  ·rw [cond_f (by omega)]
   by_cases h2:ms[i].fr < ms[i].tt
   ·rw [cond_f (by omega)]
    by_cases h3:ms[i].tt≤(is.length:Int)
    ·rw [cond_f (by omega)]
     by_cases h4:0≤ms[i].ex∧ms[i].ex≤999
     ·by_cases h5:0≤ms[i].hd∧ms[i].hd≤(is.length:Int) - 1
      ·simp [h1,h2,h3,h4,h5]
      ·simp [h1,h2,h3,h4,h5]
     ·simp [h1,h2,h3,h4]
    ·rw [cond_t (by omega)]; simp [h1,h2,h3]
   ·rw [cond_t (by omega)]; simp [h1,h2]
  ·rw [cond_t (by omega)]; simp [h1]
theorem rIns (hn:1001≤n) (os:List OP) (ho:os.length≤1000) (hok:ok4 os) (is:List IN) (hi' : is.length≤1000) (hx:∀ x∈is,x.ar.length≤1000) (ms:List MN) (hm' : ms.length≤100) (z5 z6:Int):∀ (d i m:Nat),i+d=is.length→d+200 < m→
  Q0z.l n m (.z15 i (os.map OP.av) (is.map IN.av) (ms.map MN.av) z5 z6)=some (if (insE os (is.drop i) i).2≠0 then (2,(insE os (is.drop i) i).1,(insE os (is.drop i) i).2) else check3 is.length ms)
 | _,_,0,_,h=>absurd h (by omega)
 | 0,i,m+1,h,_=>by
  rw [Q0z.at15]
  unfold Q0z.r15
  simp only [List.length_map]
  rw [cond_f (by omega),List.drop_of_length_le (by omega)]
  have:=rMons hn (os.map OP.av) is hi' ms (by omega) z5 z6 ms.length 0 m (by omega) (by omega)
  rw [List.drop_zero] at this
  exact this
 | d+1,i,m+1,h,hm=>by
  have hi:i < is.length:=by omega
  have ih:=rIns hn os ho hok is hi' hx ms hm' z5 z6 d (i+1) m (by omega) (by omega)
  rw [Q0z.at15]
  unfold Q0z.r15
  simp (disch:=omega) only [Option.bind_some,Option.bind_none,cond_true,cond_false,Bool.not_true,Bool.not_false,List.length_map,Ws_length,bs_size,within_t,upto_t,wsucc,Int.toNat_natCast,at_mapN,Ws_getDN,cells_agg,cells_v,withCons_cons,withInt_mk,withStr_mk,withBool_mk,withSl_mk,cond_t,cond_f,IN.av]
  rw [insErrR_eq hn os ho hok _ _ is[i] (hx _ (List.getElem_mem hi)),Option.bind_some,bifne,ih,List.drop_eq_getElem_cons hi,insE_cons]
  by_cases h0:insX os is[i]=0
  ·rw [if_pos h0,if_neg (not_not_intro h0)]
  ·rw [if_neg h0,if_pos h0,if_pos h0]
theorem rOps (hn:1001≤n) (os:List OP) (ho:os.length≤28) (is:List IN) (hi' : is.length≤100) (hx:∀ x∈is,x.ar.length≤1000) (ms:List MN) (hm' : ms.length≤100) (z5 z6:Int):∀ (d i m:Nat),i+d=os.length→d+400 < m→ok4 (os.take i)→((opsE is.length (os.take i) (os.drop i)).2=0→(opsE is.length [] os).2=0)→
  Q0z.l n m (.z6 i (os.map OP.av) (is.map IN.av) (ms.map MN.av) z5 z6)=some (if (opsE is.length (os.take i) (os.drop i)).2≠0 then (1,(opsE is.length (os.take i) (os.drop i)).1,(opsE is.length (os.take i) (os.drop i)).2) else if (layX os).2 > 24 then (0,0,30) else check2 os is ms)
 | _,_,0,_,h,_,_=>absurd h (by omega)
 | 0,i,m+1,h,_,hok,hz=>by
  rw [List.drop_of_length_le (by omega)] at hz ⊢
  have hL:=ops_okL (hz rfl)
  have h4:=ops_ok4 (hz rfl)
  rw [Q0z.at6]
  unfold Q0z.r6
  simp only [List.length_map]
  rw [cond_f (by omega),layoutR_eq hn os ho hL,Option.bind_some]
  have:=rIns hn os (by omega) h4 is (by omega) hx ms hm' z5 z6 is.length 0 m (by omega) (by omega)
  rw [List.drop_zero] at this
  rw [if_neg (by simp [opsE]),bif_ite,show ((0:Int))=((0:Nat):Int) from rfl,this]
  split <;> rfl
 | d+1,i,m+1,h,hm,hok,hz=>by
  have hi:i < os.length:=by omega
  have ih:=rOps hn os ho is hi' hx ms hm' z5 z6 d (i+1) m (by omega) (by omega)
  rw [Q0z.at6]
  unfold Q0z.r6
  simp only [List.length_map]
  rw [cond_t (by omega),opErrR_eq hn os (by omega) is (by omega) _ i hi (ok4T hok),Option.bind_some,bifne,wsucc (by omega)]
  rw [List.drop_eq_getElem_cons hi,opsE_cons] at hz ⊢
  by_cases h0:opE (os.take i) os[i] is.length=0
  ·rw [if_neg (not_not_intro h0),← List.take_succ_eq_append_getElem hi] at hz
   rw [if_pos h0,if_neg (not_not_intro h0),← List.take_succ_eq_append_getElem hi]
   exact ih (take_ok4 hi hok h0) hz
  ·rw [if_neg h0,if_pos h0,if_pos h0,List.length_take,Nat.min_eq_left (by omega)]
theorem checkR_law (hn:1001≤n) (os:List OP) (ho:os.length≤28) (is:List IN) (hi' : is.length≤100) (hx:∀ x∈is,x.ar.length≤1000) (ms:List MN) (hm' : ms.length≤100):Q0z.F n (os.map OP.av) (is.map IN.av) (ms.map MN.av)=some (checkX os is ms):=by
 obtain ⟨m,rfl⟩ : ∃ m,n=m+1:=⟨n - 1,by omega⟩
 unfold Q0z.F Q0z.e checkX
 have h2' : Q0z.l (m+1) (m+1) (.z2 0 0)=some (0,0,2):=rfl
 simp only [List.length_map,h2']
 have hq:=rOps hn os ho is hi' hx ms hm' 0 0 os.length 0 (m+1) (by omega) (by omega) (fun o ho=>by simp at ho) (fun h=>h)
 rw [List.drop_zero,List.take_zero,show (((0:Nat):Int))=0 from rfl] at hq
 have c1:decide (((os.length:Nat):Int) > 24)=decide (os.length > 24):=by rw [decide_eq_decide]; omega
 have c2:decide (((is.length:Nat):Int) > 40)=decide (is.length > 40):=by rw [decide_eq_decide]; omega
 have c3:decide (((ms.length:Nat):Int) > 6)=decide (ms.length > 6):=by rw [decide_eq_decide]; omega
 rw [c1,c2,c3]
 by_cases h1:os.length > 24
 ·simp [h1]
 ·by_cases h2:is.length > 40
  ·simp [h1,h2]
  ·by_cases h3:ms.length > 6
   ·simp [h1,h2,h3]
   ·by_cases h4:is.length=0
    ·simp [h1,h2,h3,h4]
    ·have h4' : ¬ ((is.length:Nat):Int)=0:=by omega
     simp only [h1,h2,h3,h4,h4',decide_false,cond_false,or_self,if_false,beq_int,Bool.false_eq_true]
     exact hq
theorem awake_eq (n:Nat):Q0p.F n=some true:=rfl
theorem few_x {os:List OP} {is:List IN} {ms:List MN} (h:fewP os is ms=true):os.length≤28∧is.length≤100∧ms.length≤100∧∀ x∈is,x.ar.length≤1000:=by
 obtain ⟨h1,h2,h3,_,h5⟩:=fewP_spec h
 exact ⟨h1,by omega,by omega,fun x hx=>by have:=h5 x hx; omega⟩
theorem checks_law (hn' : 1000002≤n) (os:List OP) (is:List IN) (ms:List MN):Q0l.F n (os.map OP.av) (is.map IN.av) (ms.map MN.av)=some true:=by
 have hn:1001≤n:=by omega
 unfold Q0l.F Q0l.e
 rw [awake_eq,Option.bind_some,few_eq hn,Option.bind_some,bif_not,if_neg (by simp),bif_not]
 cases h:fewP os is ms with
 | false=>rfl
 | true=>
  obtain ⟨h1,h2,h3,h4⟩:=few_x h
  rw [if_neg (by simp),own_eq hn os (by omega) is (by omega) h4 ms (by omega),Option.bind_some]
  simp only
  rw [check_law hn os h1 is h2 h4 ms h3,Option.bind_some,checkR_law hn os h1 is h2 h4 ms h3,Option.bind_some]
  simp
end
end Go.Proofs.YtnoldakbllfmnaaGreatDoor.Ev
end
