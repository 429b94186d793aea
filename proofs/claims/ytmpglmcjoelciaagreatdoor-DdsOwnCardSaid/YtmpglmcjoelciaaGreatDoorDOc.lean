import Derived.Test.YtmpglmcjoelciaaGreatDoorDOb
import Derived.Test.YtmpglmcjoelciaaGreatDoorDOa
import Derived.Lib.Replace
noncomputable section
namespace Go.Proofs.YtmpglmcjoelciaaGreatDoor.Ev
open Go Go.Proofs Go.Proofs.Ev
set_option linter.unusedVariables false
set_option linter.unusedSimpArgs false
structure FD where
 nm:List UInt8
 k:Int
 l:Int
 s:Int
def FD.av (x:FD):AV:=.agg [vs (bs x.nm),vi x.k,vi x.l,vi x.s]
def dnames (ds:List FD):List (List UInt8):=ds.map FD.nm
theorem dnames_length (ds:List FD):(dnames ds).length=ds.length:=by simp [dnames]
theorem dnames_get {ds:List FD} {i:Nat} (hi:i < ds.length):(dnames ds)[i]'(by rw [dnames_length]; exact hi)=ds[i].nm:=by simp [dnames]
def szT (k l:Int):Int:=if k=1 then l / 2+1 else if k=3 then (if l=9 then 4 else 2) else if k=4 then 16 else l
theorem chkT_cases {k l s:Int} (h:chkT k l s=0):(k=0∧1≤l∧l≤256)∨((k=1∨k=2)∧1≤l∧l≤15)∨(k=3∧(l=4∨l=9))∨(k=4∧l=0):=by
 unfold chkT at h
 by_cases h0:k=0
 ·rw [if_pos h0] at h
  by_cases h1:1≤l∧l≤256
  ·exact .inl ⟨h0,h1⟩
  ·rw [if_pos h1] at h; cases h
 ·rw [if_neg h0] at h
  by_cases h1:k=1∨k=2
  ·rw [if_pos h1] at h
   by_cases h2:1≤l∧l≤15
   ·exact .inr (.inl ⟨h1,h2⟩)
   ·rw [if_pos h2] at h; cases h
  ·rw [if_neg h1] at h
   by_cases h3:k=3
   ·rw [if_pos h3] at h
    by_cases h2:l=4∨l=9
    ·exact .inr (.inr (.inl ⟨h3,h2⟩))
    ·rw [if_pos h2] at h; cases h
   ·rw [if_neg h3] at h
    by_cases h4:k=4
    ·rw [if_pos h4] at h
     by_cases h2:l=0
     ·exact .inr (.inr (.inr ⟨h4,h2⟩))
     ·rw [if_pos h2] at h; cases h
    ·rw [if_neg h4] at h; cases h
theorem szT_range {k l s:Int} (h:chkT k l s=0):0≤szT k l∧szT k l≤256:=by
 unfold szT
 rcases chkT_cases h with ⟨h1,h2⟩ | ⟨h1,h2⟩ | ⟨h1,h2⟩ | ⟨h1,h2⟩ <;> (repeat' split) <;> omega
theorem nsize_eq (n:Nat) {k l s:Int} (h:chkT k l s=0):Q44.F n k l s=some (szT k l):=by
 unfold Q44.F Q44.e szT
 have hc:=chkT_cases h
 have h0:0≤l∧l≤256:=by omega
 simp only [bif_eq0]
 rw [Int.tdiv_eq_ediv_of_nonneg h0.1,Int.tdiv_eq_ediv_of_nonneg h0.1]
 by_cases h1:k=1
 ·rw [if_pos h1,if_pos h1,w64 (x:=l / 2) (by omega) (by omega),w64 (by omega) (by omega)]
 ·rw [if_neg h1,if_neg h1]
  by_cases h3:k=3
  ·rw [if_pos h3,if_pos h3]
   have:l=4∨l=9:=by omega
   rcases this with rfl | rfl <;> rfl
  ·rw [if_neg h3,if_neg h3]
   split <;> rfl
theorem bsize_eq (n:Nat) {k l s:Int} (h:chkT k l s=0):Q1x.F n k l s=some (szT k l):=by
 unfold Q1x.F Q1x.e szT
 have hc:=chkT_cases h
 have h0:0≤l∧l≤256:=by omega
 simp only [bif_eq0]
 rw [Int.tdiv_eq_ediv_of_nonneg h0.1]
 by_cases h1:k=1
 ·rw [if_pos h1,if_pos h1,w64 (x:=l / 2) (by omega) (by omega),w64 (by omega) (by omega)]
 ·rw [if_neg h1,if_neg h1]
  by_cases h3:k=3
  ·rw [if_pos h3,if_pos h3,count_eq]
   have:l=4∨l=9:=by omega
   rcases this with rfl | rfl <;> rfl
  ·rw [if_neg h3,if_neg h3]
   split <;> rfl
theorem sizeOf_eq {n:Nat} (hn:1001≤n) {k l s:Int} (h:chkT k l s=0):Q3w.F n k l s=some (szT k l,0):=by
 unfold Q3w.F Q3w.e
 rw [check_eq hn,Option.bind_some,h]
 show ((Q44.F n k l s).bind fun p=>some (p,0))=_
 rw [nsize_eq n h]
 rfl
def szs:List FD→Int
 | []=>0
 | f::r=>szT f.k f.l+szs r
def okD (ds:List FD):Prop:=∀ f∈ds,chkT f.k f.l f.s=0
section
variable {n:Nat} {nm fm:ByteArray}
theorem dsize_l (hn:1001≤n) (ds:List FD) (hd:ds.length≤1000) (ho:okD ds) (B:Int) (hB:B≤10000000):∀ (d i m:Nat) (a:Int),i+d=ds.length→d < m→0≤a→a+256*d≤B→Q17.l n m (.z3 a (ds.map FD.av) ds.length i)=some (a+szs (ds.drop i))
 | _,_,0,_,_,h,_,_=>absurd h (by omega)
 | 0,i,m+1,a,h,_,h1,h2=>by
  rw [Q17.at3]
  unfold Q17.r3
  rw [cond_f (by omega),List.drop_of_length_le (by omega)]
  simp [szs]
 | d+1,i,m+1,a,h,hm,h1,h2=>by
  have hi:i < ds.length:=by omega
  have hok:=ho ds[i] (List.getElem_mem hi)
  have hr:=szT_range hok
  have ih:=dsize_l hn ds hd ho B hB d (i+1) m (a+szT ds[i].k ds[i].l) (by omega) (by omega) (by omega) (by omega)
  rw [Q17.at3]
  unfold Q17.r3
  simp (disch:=omega) only [Option.bind_some,Option.bind_none,cond_true,cond_false,Bool.not_true,Bool.not_false,List.length_map,Ws_length,bs_size,within_t,upto_t,wsucc,Int.toNat_natCast,at_mapN,Ws_getDN,cells_agg,cells_v,withCons_cons,withInt_mk,withStr_mk,withBool_mk,withSl_mk,cond_t,cond_f,FD.av]
  rw [sizeOf_eq hn hok]
  simp (disch:=omega) only [Option.bind_some,Option.bind_none,cond_true,cond_false,Bool.not_true,Bool.not_false,List.length_map,Ws_length,bs_size,within_t,upto_t,wsucc,Int.toNat_natCast,at_mapN,Ws_getDN,cells_agg,cells_v,withCons_cons,withInt_mk,withStr_mk,withBool_mk,withSl_mk,cond_t,cond_f]
  rw [w64 (x:=a+szT ds[i].k ds[i].l) (by omega) (by omega),ih,List.drop_eq_getElem_cons hi]
  simp only [szs,Int.add_assoc]
theorem dsize_eq (hn:1001≤n) (ds:List FD) (hd:ds.length≤1000) (ho:okD ds):Q17.F n (ds.map FD.av)=some (szs ds):=by
 unfold Q17.F Q17.e
 have:=dsize_l hn ds hd ho 1000000 (by omega) ds.length 0 n 0 (by omega) (by omega) (by omega) (by omega)
 rw [List.drop_zero,Int.zero_add] at this
 rw [List.length_map]
 exact this
theorem fsize_l (hn:1001≤n) (ds:List FD) (hd:ds.length≤1000) (ho:okD ds) (B:Int) (hB:B≤10000000):∀ (d i m:Nat) (a:Int),i+d=ds.length→d < m→0≤a→a+256*d≤B→Q27.l n m (.z3 a i nm (ds.map FD.av))=some (a+szs (ds.drop i))
 | _,_,0,_,_,h,_,_=>absurd h (by omega)
 | 0,i,m+1,a,h,_,h1,h2=>by
  rw [Q27.at3]
  unfold Q27.r3
  simp only [List.length_map]
  rw [cond_f (by omega),List.drop_of_length_le (by omega)]
  simp [szs]
 | d+1,i,m+1,a,h,hm,h1,h2=>by
  have hi:i < ds.length:=by omega
  have hok:=ho ds[i] (List.getElem_mem hi)
  have hr:=szT_range hok
  have ih:=fsize_l hn ds hd ho B hB d (i+1) m (a+szT ds[i].k ds[i].l) (by omega) (by omega) (by omega) (by omega)
  rw [Q27.at3]
  unfold Q27.r3
  simp (disch:=omega) only [Option.bind_some,Option.bind_none,cond_true,cond_false,Bool.not_true,Bool.not_false,List.length_map,Ws_length,bs_size,within_t,upto_t,wsucc,Int.toNat_natCast,at_mapN,Ws_getDN,cells_agg,cells_v,withCons_cons,withInt_mk,withStr_mk,withBool_mk,withSl_mk,cond_t,cond_f,FD.av,List.drop_succ_cons,List.drop_zero]
  rw [bsize_eq n hok]
  simp (disch:=omega) only [Option.bind_some,Option.bind_none,cond_true,cond_false,Bool.not_true,Bool.not_false,List.length_map,Ws_length,bs_size,within_t,upto_t,wsucc,Int.toNat_natCast,at_mapN,Ws_getDN,cells_agg,cells_v,withCons_cons,withInt_mk,withStr_mk,withBool_mk,withSl_mk,cond_t,cond_f]
  rw [w64 (x:=a+szT ds[i].k ds[i].l) (by omega) (by omega),ih,List.drop_eq_getElem_cons hi]
  simp only [szs,Int.add_assoc]
theorem fsize_eq (hn:1001≤n) (ds:List FD) (hd:ds.length≤1000) (ho:okD ds):Q27.F n nm (ds.map FD.av)=some (szs ds):=by
 unfold Q27.F Q27.e
 have:=fsize_l (nm:=nm) hn ds hd ho 1000000 (by omega) ds.length 0 n 0 (by omega) (by omega) (by omega) (by omega)
 rw [List.drop_zero,Int.zero_add] at this
 exact this
def de (before:List (List UInt8)) (f:FD):Int:=if ne before f.nm≠0 then ne before f.nm else if chkT f.k f.l f.s≠0 then chkT f.k f.l f.s else if f.k=4 then 17 else 0
def dErr (ns:List (List UInt8)):List FD→Nat→Int × Int
 | [],_=>(0,0)
 | f::r,i=>if de (ns.take i) f≠0 then ((i:Int),de (ns.take i) f) else dErr ns r (i+1)
theorem dErr_cons (ns:List (List UInt8)) (f:FD) (r:List FD) (i:Nat):dErr ns (f::r) i=if de (ns.take i) f≠0 then ((i:Int),de (ns.take i) f) else dErr ns r (i+1):=rfl
theorem dErr_ok {ns:List (List UInt8)}:∀ {ds:List FD} {i:Nat},(dErr ns ds i).2=0→okD ds∧∀ f∈ds,f.k≠4
 | [],_,_=>⟨fun _ h=>by simp at h,fun _ h=>by simp at h⟩
 | f::r,i,h=>by
  rw [dErr_cons] at h
  by_cases h0:de (ns.take i) f=0
  ·rw [if_neg (by simp [h0])] at h
   obtain ⟨h1,h2⟩:=dErr_ok h
   unfold de at h0
   by_cases ha:ne (ns.take i) f.nm=0
   ·rw [if_neg (by simp [ha])] at h0
    by_cases hb:chkT f.k f.l f.s=0
    ·rw [if_neg (by simp [hb])] at h0
     by_cases hc:f.k=4
     ·rw [if_pos hc] at h0; cases h0
     ·refine ⟨fun g hg=>?_,fun g hg=>?_⟩
      ·rcases List.mem_cons.1 hg with rfl | hg
       ·exact hb
       ·exact h1 g hg
      ·rcases List.mem_cons.1 hg with rfl | hg
       ·exact hc
       ·exact h2 g hg
    ·rw [if_pos hb] at h0; exact absurd h0 hb
   ·rw [if_pos ha] at h0; exact absurd h0 ha
  ·rw [if_pos h0] at h; exact absurd h h0
def fileT (ds:List FD) (ks:List KF):Int:=
 if (dErr (dnames ds) ds 0).2≠0 then (dErr (dnames ds) ds 0).2 else if szs ds > 200 then 18 else (kErrT (dnames ds) ks).2
def fileE (nm fm:List UInt8) (ds:List FD) (ks:List KF):Int:=
 if isNm nm=false then 7 else if isNm fm=false then 7 else if ds.length=0 then 1 else if ds.length > 20 then 2 else fileT ds ks
theorem fErr_l (hn:1001≤n) (ds:List FD) (hd:ds.length≤1000) (ks:List KF) (hk:ks.length≤1000) (uq:Bool) (hok:(dErr (dnames ds) ds 0).2=0→okD ds):∀ (d i m:Nat),i+d=ds.length→d < m→((dErr (dnames ds) (ds.drop i) i).2=0→(dErr (dnames ds) ds 0).2=0)→
  Q0j.l n m (.z7 (ds.map FD.av) (ds.map FD.av) ds.length i nm fm (ds.map FD.av) (ks.map KF.av) uq (Ws ((dnames ds).take i))) =
   some (if (dErr (dnames ds) (ds.drop i) i).2≠0 then (dErr (dnames ds) (ds.drop i) i).2 else if szs ds > 200 then 18 else (kErrT (dnames ds) ks).2)
 | _,_,0,_,h,_=>absurd h (by omega)
 | 0,i,m+1,h,_,hz=>by
  have hl:=dnames_length ds
  rw [List.drop_of_length_le (by omega)] at hz ⊢
  have ho:=hok (hz rfl)
  rw [Q0j.at7]
  unfold Q0j.r7
  rw [cond_f (by omega),dsize_eq hn ds hd ho,Option.bind_some,List.take_of_length_le (by omega),keysErr_eq hn _ (by omega) ks hk,Option.bind_some,bif_ite,some_ite]
  rfl
 | d+1,i,m+1,h,hm,hz=>by
  have hi:i < ds.length:=by omega
  have hl:=dnames_length ds
  have hl' : i < (dnames ds).length:=by omega
  have hmost:most=1000000000:=rfl
  have ih:=fErr_l hn ds hd ks hk uq hok d (i+1) m (by omega) (by omega)
  rw [List.drop_eq_getElem_cons hi,dErr_cons] at hz ⊢
  rw [Q0j.at7]
  unfold Q0j.r7
  simp (disch:=omega) only [Option.bind_some,Option.bind_none,cond_true,cond_false,Bool.not_true,Bool.not_false,List.length_map,Ws_length,bs_size,within_t,upto_t,wsucc,Int.toNat_natCast,at_mapN,Ws_getDN,cells_agg,cells_v,withCons_cons,withInt_mk,withStr_mk,withBool_mk,withSl_mk,cond_t,cond_f,FD.av]
  rw [nameErr_eq hn _ (by rw [List.length_take]; omega),Option.bind_some,check_eq hn,Option.bind_some,cond_eq,Option.bind_some]
  have hfz:=first_eq (n:=n) [ne ((dnames ds).take i) ds[i].nm,chkT ds[i].k ds[i].l ds[i].s,(if (ds[i].k==4)=true then 17 else 0)] (by simp) hn
  have e:fz [ne ((dnames ds).take i) ds[i].nm,chkT ds[i].k ds[i].l ds[i].s,(if (ds[i].k==4)=true then 17 else 0)]=de ((dnames ds).take i) ds[i]:=by
   unfold de
   by_cases h1:ne ((dnames ds).take i) ds[i].nm=0
   ·by_cases h2:chkT ds[i].k ds[i].l ds[i].s=0
    ·by_cases h3:ds[i].k=4 <;> simp [fz,h1,h2,h3]
    ·simp [fz,h1,h2]
   ·simp [fz,h1]
  rw [e] at hfz
  show ((Q0m.F n ([ne ((dnames ds).take i) ds[i].nm,chkT ds[i].k ds[i].l ds[i].s,(if (ds[i].k==4)=true then 17 else 0)].map vi)).bind _)=_
  rw [hfz,Option.bind_some,bif_ne]
  by_cases h0:de ((dnames ds).take i) ds[i]=0
  ·simp only [h0,ne_eq,not_true_eq_false,if_false] at hz ih ⊢
   rw [cond_t (by rw [List.length_take,List.length_singleton]; omega),Ws_snoc,← dnames_get hi,← List.take_succ_eq_append_getElem hl']
   exact ih hz
  ·simp only [h0,ne_eq,not_false_eq_true,if_true]
theorem fileErr_eq (hn:1001≤n) (nm fm:List UInt8) (ds:List FD) (hd:ds.length≤1000) (ks:List KF) (hk:ks.length≤1000) (uq:Bool) :
  Q0j.F n (bs nm) (bs fm) (ds.map FD.av) (ks.map KF.av) uq=some (fileE nm fm ds ks):=by
 unfold Q0j.F Q0j.e
 rw [isName_eq hn,Option.bind_some,cond_eq,Option.bind_some,isName_eq hn,Option.bind_some,cond_eq,Option.bind_some]
 simp only [cond_eq,Option.bind_some,List.length_map]
 have hfz:=first_eq (n:=n) [(if (!isNm nm)=true then 7 else 0),(if (!isNm fm)=true then 7 else 0),(if ((((ds.length:Nat):Int))==0)=true then 1 else 0),(if decide (((ds.length:Nat):Int) > 20)=true then 2 else 0)] (by simp) hn
 show ((Q0m.F n ([(if (!isNm nm)=true then 7 else 0),(if (!isNm fm)=true then 7 else 0),(if ((((ds.length:Nat):Int))==0)=true then 1 else 0),(if decide (((ds.length:Nat):Int) > 20)=true then 2 else 0)].map vi)).bind _)=_
 rw [hfz,Option.bind_some,bif_ne]
 unfold fileE
 cases h1:isNm nm
 ·simp [fz]
 ·cases h2:isNm fm
  ·simp [fz]
  ·by_cases h3:ds.length=0
   ·simp [fz,h3]
   ·have h3' : ¬ ((ds.length:Nat):Int)=0:=by omega
    by_cases h4:ds.length > 20
    ·have h4' : ((ds.length:Nat):Int) > 20:=by omega
     have:decide (((ds.length:Nat):Int) > 20)=true:=by simpa using h4'
     simp only [fz,h3,h3',h4,beq_int,this]; simp
    ·have:decide (((ds.length:Nat):Int) > 20)=false:=by rw [decide_eq_false_iff_not]; omega
     have e:fz [(if (!true)=true then 7 else 0),(if (!true)=true then 7 else 0),(if ((((ds.length:Nat):Int))==0)=true then 1 else 0),(if decide (((ds.length:Nat):Int) > 20)=true then 2 else 0)]=0:=by
      rw [this]; simp [fz,h3]
     rw [e,if_neg (by simp)]
     simp only [Bool.true_eq_false,if_false,h3,h4]
     have:=fErr_l (nm:=bs nm) (fm:=bs fm) hn ds hd ks hk uq (fun h=>(dErr_ok h).1) ds.length 0 n (by omega) (by omega) (fun h=>h)
     exact this
end
end Go.Proofs.YtmpglmcjoelciaaGreatDoor.Ev
namespace Go.Proofs.YtmpglmcjoelciaaGreatDoor.Ev
open Go Go.Proofs Go.Proofs.Ev
set_option linter.unusedVariables false
set_option linter.unusedSimpArgs false
section
variable {n:Nat} {nm fm:ByteArray}
theorem fieldAt_l (ds:List FD) (hd:ds.length≤1000) (s:List UInt8):∀ (d i m:Nat),i+d=ds.length→d < m→Q21.l n m (.z2 (bs s) i nm (ds.map FD.av))=some (ixs ((dnames ds).drop i) s i)
 | _,_,0,_,h=>absurd h (by omega)
 | 0,i,m+1,h,_=>by
  have hl:=dnames_length ds
  rw [Q21.at2]
  unfold Q21.r2
  simp (disch:=omega) only [Option.bind_some,Option.bind_none,cond_true,cond_false,Bool.not_true,Bool.not_false,List.length_map,Ws_length,bs_size,within_t,upto_t,wsucc,Int.toNat_natCast,at_mapN,Ws_getDN,cells_agg,cells_v,withCons_cons,withInt_mk,withStr_mk,withBool_mk,withSl_mk,cond_t,cond_f]
  rw [List.drop_of_length_le (by omega)]
  rfl
 | d+1,i,m+1,h,hm=>by
  have hi:i < ds.length:=by omega
  have hl:=dnames_length ds
  have ih:=fieldAt_l ds hd s d (i+1) m (by omega) (by omega)
  rw [Q21.at2]
  unfold Q21.r2
  simp (disch:=omega) only [Option.bind_some,Option.bind_none,cond_true,cond_false,Bool.not_true,Bool.not_false,List.length_map,Ws_length,bs_size,within_t,upto_t,wsucc,Int.toNat_natCast,at_mapN,Ws_getDN,cells_agg,cells_v,withCons_cons,withInt_mk,withStr_mk,withBool_mk,withSl_mk,cond_t,cond_f,FD.av,str_eq,ih]
  rw [List.drop_eq_getElem_cons (by omega:i < (dnames ds).length),ixs_cons,dnames_get hi,bif_ite,some_ite]
theorem fieldAt_eq (hn:1001≤n) (ds:List FD) (hd:ds.length≤1000) (s:List UInt8):Q21.F n nm (ds.map FD.av) (bs s)=some (ixs (dnames ds) s 0):=by
 unfold Q21.F Q21.e
 have:=fieldAt_l (n:=n) (nm:=nm) ds hd s ds.length 0 n (by omega) (by omega)
 rw [List.drop_zero] at this
 exact this
theorem fieldsR_l (hn:1001≤n) (ds:List FD) (hd:ds.length≤1000) (hok:(dErr (dnames ds) ds 0).2=0→okD ds):∀ (d i m:Nat),i+d=ds.length→d < m→((dErr (dnames ds) (ds.drop i) i).2=0→(dErr (dnames ds) ds 0).2=0)→
  Q22.l n m (.z6 i nm (ds.map FD.av))=some (if (dErr (dnames ds) (ds.drop i) i).2≠0 then dErr (dnames ds) (ds.drop i) i else (0,if szs ds > 200 then 18 else 0))
 | _,_,0,_,h,_=>absurd h (by omega)
 | 0,i,m+1,h,_,hz=>by
  rw [List.drop_of_length_le (by omega)] at hz ⊢
  have ho:=hok (hz rfl)
  rw [Q22.at6]
  unfold Q22.r6
  simp (disch:=omega) only [Option.bind_some,Option.bind_none,cond_true,cond_false,Bool.not_true,Bool.not_false,List.length_map,Ws_length,bs_size,within_t,upto_t,wsucc,Int.toNat_natCast,at_mapN,Ws_getDN,cells_agg,cells_v,withCons_cons,withInt_mk,withStr_mk,withBool_mk,withSl_mk,cond_t,cond_f]
  rw [fsize_eq hn ds hd ho]
  simp (disch:=omega) only [Option.bind_some,Option.bind_none,cond_true,cond_false,Bool.not_true,Bool.not_false,List.length_map,Ws_length,bs_size,within_t,upto_t,wsucc,Int.toNat_natCast,at_mapN,Ws_getDN,cells_agg,cells_v,withCons_cons,withInt_mk,withStr_mk,withBool_mk,withSl_mk,cond_t,cond_f,count_eq]
  by_cases h2:szs ds > 200
  ·simp only [h2,decide_true,if_true,dErr]; rfl
  ·simp only [h2,decide_false,if_false,dErr]; rfl
 | d+1,i,m+1,h,hm,hz=>by
  have hi:i < ds.length:=by omega
  have hl:=dnames_length ds
  have hl' : i < (dnames ds).length:=by omega
  have ih:=fieldsR_l hn ds hd hok d (i+1) m (by omega) (by omega)
  have hlt:=ixs_lt (dnames ds) ds[i].nm 0 i hl' (by rw [List.getElem?_eq_getElem hl',dnames_get hi])
  rw [Nat.zero_add] at hlt
  rw [List.drop_eq_getElem_cons hi,dErr_cons] at hz ⊢
  rw [Q22.at6]
  unfold Q22.r6
  simp (disch:=omega) only [Option.bind_some,Option.bind_none,cond_true,cond_false,Bool.not_true,Bool.not_false,List.length_map,Ws_length,bs_size,within_t,upto_t,wsucc,Int.toNat_natCast,at_mapN,Ws_getDN,cells_agg,cells_v,withCons_cons,withInt_mk,withStr_mk,withBool_mk,withSl_mk,cond_t,cond_f,FD.av,isNameR_eq,fieldAt_eq,hlt,typeErr_eq,List.drop_succ_cons,List.drop_zero]
  rw [bif_ne]
  unfold de ne at hz ⊢
  cases h1:isNm ds[i].nm
  ·simp
  ·cases h2:((dnames ds).take i).contains ds[i].nm
   ·by_cases h3:chkT ds[i].k ds[i].l ds[i].s=0
    ·by_cases h4:ds[i].k=4
     ·have h3' : chkT 4 ds[i].l ds[i].s=0:=by rw [← h4]; exact h3
      simp [h3',h4]
     ·simp only [h1,h2,h3,h4,Bool.not_true,cond_false,Bool.true_eq_false,Bool.false_eq_true,if_false,ne_eq,not_true_eq_false,bif_eq0] at hz ih ⊢
      exact ih hz
    ·simp [h3]
   ·simp
theorem fieldsErrR_eq (hn:1001≤n) (ds:List FD) (hd:ds.length≤1000):∃ i,Q22.F n nm (ds.map FD.av)=some (i,if ds.length=0 then 1 else if ds.length > 20 then 2 else if (dErr (dnames ds) ds 0).2≠0 then (dErr (dnames ds) ds 0).2 else if szs ds > 200 then 18 else 0):=by
 unfold Q22.F Q22.e
 by_cases h0:ds.length=0
 ·refine ⟨0,?_⟩
  have:(((ds.map FD.av).length:Nat):Int)=0:=by rw [List.length_map,h0]; rfl
  simp only [this,h0,if_true]; rfl
 ·by_cases h1:ds.length > 20
  ·refine ⟨0,?_⟩
   simp (disch:=omega) only [Option.bind_some,Option.bind_none,cond_true,cond_false,Bool.not_true,Bool.not_false,List.length_map,Ws_length,bs_size,within_t,upto_t,wsucc,Int.toNat_natCast,at_mapN,Ws_getDN,cells_agg,cells_v,withCons_cons,withInt_mk,withStr_mk,withBool_mk,withSl_mk,cond_t,cond_f,beq_int]
   simp only [h0,h1,if_false,if_true]
  ·have:=fieldsR_l (nm:=nm) hn ds hd (fun h=>(dErr_ok h).1) ds.length 0 n (by omega) (by omega) (fun h=>h)
   rw [List.drop_zero] at this
   simp (disch:=omega) only [Option.bind_some,Option.bind_none,cond_true,cond_false,Bool.not_true,Bool.not_false,List.length_map,Ws_length,bs_size,within_t,upto_t,wsucc,Int.toNat_natCast,at_mapN,Ws_getDN,cells_agg,cells_v,withCons_cons,withInt_mk,withStr_mk,withBool_mk,withSl_mk,cond_t,cond_f,beq_int]
   refine ⟨if (dErr (dnames ds) ds 0).2≠0 then (dErr (dnames ds) ds 0).1 else 0,Eq.trans this ?_⟩
   ·simp only [h0,h1,if_false]
    by_cases h2:(dErr (dnames ds) ds 0).2=0
    ·simp only [h2,ne_eq,not_true_eq_false,if_false]
    ·simp only [h2,ne_eq,not_false_eq_true,if_true]
theorem keysR_l (hn:1001≤n) (ds:List FD) (hd:ds.length≤1000) (ks:List KF) (hk:ks.length≤4) (uq:Bool):∀ (d i m:Nat),i+d=ks.length→10*d+1≤m→
  Q25.l n m (.z4 i nm fm (ds.map FD.av) (ks.map KF.av) uq)=some (kErr (dnames ds) (knames ks) (ks.drop i) i)
 | 0,i,m,h,hm=>by
  obtain ⟨m,rfl⟩ : ∃ q,m=q+1:=⟨m - 1,by omega⟩
  rw [Q25.at4]
  unfold Q25.r4
  simp (disch:=omega) only [Option.bind_some,Option.bind_none,cond_true,cond_false,Bool.not_true,Bool.not_false,List.length_map,Ws_length,bs_size,within_t,upto_t,wsucc,Int.toNat_natCast,at_mapN,Ws_getDN,cells_agg,cells_v,withCons_cons,withInt_mk,withStr_mk,withBool_mk,withSl_mk,cond_t,cond_f]
  rw [List.drop_of_length_le (by omega)]
  rfl
 | d+1,i,m,h,hm=>by
  obtain ⟨m,rfl⟩ : ∃ q,m=q+1:=⟨m - 1,by omega⟩
  have hi:i < ks.length:=by omega
  have hkl:(knames ks).length=ks.length:=by simp [knames]
  have inner:∀ (e j q:Nat),j+e=i→10*d+2+e≤q→Q25.l n q (.z9 i j nm fm (ds.map FD.av) (ks.map KF.av) uq) =
    some (if (((knames ks).take i).drop j).contains ks[i].nm then ((i:Int),13) else kErr (dnames ds) (knames ks) (ks.drop (i+1)) (i+1)):=by
   intro e
   induction e with
   | zero=>
    intro j q hj hq
    obtain ⟨q,rfl⟩ : ∃ r,q=r+1:=⟨q - 1,by omega⟩
    rw [Q25.at9]
    unfold Q25.r9
    simp (disch:=omega) only [Option.bind_some,Option.bind_none,cond_true,cond_false,Bool.not_true,Bool.not_false,List.length_map,Ws_length,bs_size,within_t,upto_t,wsucc,Int.toNat_natCast,at_mapN,Ws_getDN,cells_agg,cells_v,withCons_cons,withInt_mk,withStr_mk,withBool_mk,withSl_mk,cond_t,cond_f]
    rw [keysR_l hn ds hd ks hk uq d (i+1) q (by omega) (by omega),List.drop_of_length_le (show ((knames ks).take i).length≤j by rw [List.length_take]; omega)]
    simp
   | succ e ih=>
    intro j q hj hq
    obtain ⟨q,rfl⟩ : ∃ r,q=r+1:=⟨q - 1,by omega⟩
    have ih':=ih (j+1) q (by omega) (by omega)
    have hjl:j < ks.length:=by omega
    have hjt:j < ((knames ks).take i).length:=by rw [List.length_take]; omega
    have e2:((knames ks).take i)[j]=ks[j].nm:=by simp [knames]
    rw [Q25.at9]
    unfold Q25.r9
    simp (disch:=omega) only [Option.bind_some,Option.bind_none,cond_true,cond_false,Bool.not_true,Bool.not_false,List.length_map,Ws_length,bs_size,within_t,upto_t,wsucc,Int.toNat_natCast,at_mapN,Ws_getDN,cells_agg,cells_v,withCons_cons,withInt_mk,withStr_mk,withBool_mk,withSl_mk,cond_t,cond_f,KF.av,str_eq,ih']
    rw [List.drop_eq_getElem_cons hjt,List.contains_cons,e2]
    by_cases h:ks[j].nm=ks[i].nm
    ·rw [cond_t h]; simp [h]
    ·have:(ks[i].nm==ks[j].nm)=false:=by simpa using fun e=>h e.symm
     rw [cond_f h,this,Bool.false_or]
  have hin:=inner i 0 m (by omega) (by omega)
  rw [List.drop_zero] at hin
  rw [Q25.at4]
  unfold Q25.r4
  have h0:((0:Nat):Int)=0:=rfl
  rw [h0] at hin
  simp (disch:=omega) only [Option.bind_some,Option.bind_none,cond_true,cond_false,Bool.not_true,Bool.not_false,List.length_map,Ws_length,bs_size,within_t,upto_t,wsucc,Int.toNat_natCast,at_mapN,Ws_getDN,cells_agg,cells_v,withCons_cons,withInt_mk,withStr_mk,withBool_mk,withSl_mk,cond_t,cond_f,KF.av,fieldAt_eq,hin,ixs_none]
  rw [List.drop_eq_getElem_cons hi,kErr_cons]
  unfold ke
  cases h1:(dnames ds).contains ks[i].nm
  ·simp
  ·cases h2:((knames ks).take i).contains ks[i].nm
   ·simp
   ·simp
theorem keysErrR_eq (hn:1001≤n) (ds:List FD) (hd:ds.length≤1000) (ks:List KF) (hk:ks.length≤1000) (uq:Bool):Q25.F n nm fm (ds.map FD.av) (ks.map KF.av) uq=some (kErrT (dnames ds) ks):=by
 unfold Q25.F Q25.e kErrT
 by_cases h:ks.length > 4
 ·simp (disch:=omega) only [Option.bind_some,Option.bind_none,cond_true,cond_false,Bool.not_true,Bool.not_false,List.length_map,Ws_length,bs_size,within_t,upto_t,wsucc,Int.toNat_natCast,at_mapN,Ws_getDN,cells_agg,cells_v,withCons_cons,withInt_mk,withStr_mk,withBool_mk,withSl_mk,cond_t,cond_f]
  rw [if_pos h]
 ·simp (disch:=omega) only [Option.bind_some,Option.bind_none,cond_true,cond_false,Bool.not_true,Bool.not_false,List.length_map,Ws_length,bs_size,within_t,upto_t,wsucc,Int.toNat_natCast,at_mapN,Ws_getDN,cells_agg,cells_v,withCons_cons,withInt_mk,withStr_mk,withBool_mk,withSl_mk,cond_t,cond_f]
  rw [if_neg h]
  have:=keysR_l (n:=n) (nm:=nm) (fm:=fm) hn ds hd ks (by omega) uq ks.length 0 n (by omega) (by omega)
  rw [List.drop_zero] at this
  exact this
theorem errR_eq (hn:1001≤n) (nm fm:List UInt8) (ds:List FD) (hd:ds.length≤1000) (ks:List KF) (hk:ks.length≤1000) (uq:Bool):Q20.F n (bs nm) (bs fm) (ds.map FD.av) (ks.map KF.av) uq=some (fileE nm fm ds ks):=by
 unfold Q20.F Q20.e Q23.F Q23.e Q24.F Q24.e fileE fileT
 obtain ⟨i,hi⟩:=fieldsErrR_eq (nm:=bs fm) hn ds hd
 rw [isNameR_eq hn,Option.bind_some,isNameR_eq hn,Option.bind_some,hi,Option.bind_some,keysErrR_eq hn ds hd ks hk]
 cases isNm nm
 ·rfl
 ·cases isNm fm
  ·rfl
  ·by_cases h0:ds.length=0
   ·simp [h0]
   ·by_cases h1:ds.length > 20
    ·simp [h0,h1]
    ·by_cases h2:(dErr (dnames ds) ds 0).2=0
     ·by_cases h3:szs ds > 200
      ·simp [h0,h1,h2,h3]
      ·simp [h0,h1,h2,h3]
     ·have h2' : ((dErr (dnames ds) ds 0).2 != 0)=true:=by simp [h2]
      simp [h0,h1,h2,h2']
end
end Go.Proofs.YtmpglmcjoelciaaGreatDoor.Ev
namespace Go.Proofs.YtmpglmcjoelciaaGreatDoor.Ev
open Go Go.Proofs Go.Proofs.Ev
set_option linter.unusedVariables false
set_option linter.unusedSimpArgs false
theorem lit1 (a:UInt8):(⟨#[a]⟩ : ByteArray)=bs [a]:=rfl
theorem lit2 (a b:UInt8):(⟨#[a,b]⟩ : ByteArray)=bs [a,b]:=rfl
theorem lit3 (a b c:UInt8):(⟨#[a,b,c]⟩ : ByteArray)=bs [a,b,c]:=rfl
theorem lit7 (a b c d e f g:UInt8):(⟨#[a,b,c,d,e,f,g]⟩ : ByteArray)=bs [a,b,c,d,e,f,g]:=rfl
end Go.Proofs.YtmpglmcjoelciaaGreatDoor.Ev
namespace Go.Proofs.YtmpglmcjoelciaaGreatDoor.Ev
open Go Go.Proofs Go.Proofs.Ev
set_option linter.unusedVariables false
set_option linter.unusedSimpArgs false
def zok (d:List UInt8):Bool:=!(decide (1 < d.length)&&d.getD 0 0==48)
def numD (d:List UInt8):Bool:=(decide (1≤d.length)&&decide (d.length≤15))&&(d.all isD&&zok d)
theorem zok_iff (d:List UInt8):zok d=true↔¬ (1 < d.length∧d.getD 0 0=48):=by
 unfold zok
 rw [Bool.not_eq_true',← Bool.not_eq_true,Bool.and_eq_true,decide_eq_true_eq,beq_iff_eq]
theorem numD_iff (d:List UInt8):numD d=true↔1≤d.length∧d.length≤15∧d.all isD=true∧¬ (1 < d.length∧d.getD 0 0=48):=by
 unfold numD
 rw [Bool.and_eq_true,Bool.and_eq_true,Bool.and_eq_true,decide_eq_true_eq,decide_eq_true_eq,zok_iff]
 constructor
 ·rintro ⟨⟨a,b⟩,c,d⟩; exact ⟨a,b,c,d⟩
 ·rintro ⟨a,b,c,d⟩; exact ⟨⟨a,b⟩,c,d⟩
def sgn (s:List UInt8):Bool:=s.getD 0 0==45
def bod (s:List UInt8):List UInt8:=if sgn s then s.drop 1 else s
def numP (s:List UInt8):Option Int:=if numD (bod s) then some (if sgn s then -(valA 0 (bod s):Int) else (valA 0 (bod s):Int)) else none
section
variable {n:Nat}
theorem sgn_byte {s:List UInt8} (h:0 < s.length):((((s[0].toNat:Nat):Int))==45)=sgn s:=by
 have e0:s.getD 0 0=s[0]:=by simp [List.getD_eq_getElem?_getD,h]
 unfold sgn
 rw [e0,beq_int]
 by_cases h1:s[0]=45
 ·rw [h1]; rfl
 ·have:(s[0]==45)=false:=by simpa using h1
  rw [this,decide_eq_false_iff_not]
  intro e
  have e2:s[0].toNat=45:=by omega
  exact h1 (UInt8.toNat_inj.1 (by rw [e2]; rfl))
end
end Go.Proofs.YtmpglmcjoelciaaGreatDoor.Ev
namespace Go.Proofs.YtmpglmcjoelciaaGreatDoor.Ev
open Go Go.Proofs Go.Proofs.Ev
set_option linter.unusedVariables false
set_option linter.unusedSimpArgs false
section
variable {n:Nat}
theorem digitAt_eq (s:List UInt8) (i:Nat):Q40.F n (bs s) i=some (decide (i < s.length)&&isD (s.getD i 0)):=by
 unfold Q40.F Q40.e isD
 rw [bs_size]
 by_cases h:i < s.length
 ·rw [cond_t (by omega),within_t h,cond_true]
  have e0:s.getD i 0=s[i]:=by simp [List.getD_eq_getElem?_getD,h]
  simp only [Int.toNat_natCast,getD_at h,e0,h,decide_true,Bool.true_and,cond_true]
  by_cases h2:48≤s[i].toNat
  ·rw [cond_t (by omega)]
   simp [h2]
   omega
  ·rw [cond_f (by omega)]
   simp [h2]
 ·rw [cond_f (by omega)]
  simp [h]
theorem lead_cons (c:UInt8) (r:List UInt8):lead (c::r)=if isD c then lead r+1 else 0:=by
 unfold lead
 rw [List.takeWhile_cons]
 split <;> simp
theorem run_l (s:List UInt8) (hs:s.length≤100000):∀ (d i m:Nat),i+d=s.length→d < m→Q43.l n m (.z5 (bs s) i)=some (((i+lead (s.drop i):Nat):Int),0)
 | _,_,0,_,h=>absurd h (by omega)
 | 0,i,m+1,h,_=>by
  rw [Q43.at5]
  unfold Q43.r5
  rw [digitAt_eq,Option.bind_some,List.drop_of_length_le (by omega)]
  simp only [show ¬ i < s.length by omega,decide_false,Bool.false_and,cond_false]
  rfl
 | d+1,i,m+1,h,hm=>by
  have hi:i < s.length:=by omega
  have ih:=run_l s hs d (i+1) m (by omega) (by omega)
  have e0:s.getD i 0=s[i]:=by simp [List.getD_eq_getElem?_getD,hi]
  rw [Q43.at5]
  unfold Q43.r5
  rw [digitAt_eq,Option.bind_some,List.drop_eq_getElem_cons hi,lead_cons,e0,wsucc (by omega),ih]
  simp only [hi,decide_true,Bool.true_and]
  cases isD s[i]
  ·rfl
  ·simp only [cond_true,if_true]
   rw [show i+1+lead (s.drop (i+1))=i+(lead (s.drop (i+1))+1) by omega]
theorem run_eq (hn:100002≤n) (s:List UInt8) (hs:s.length≤100000) (i:Nat) (hi:i≤s.length):Q43.F n (bs s) i=some (if lead (s.drop i)=0 then ((i:Int),if i < s.length then 8 else 9) else (((i+lead (s.drop i):Nat):Int),0)):=by
 unfold Q43.F Q43.e
 rw [digitAt_eq,Option.bind_some,run_l s hs (s.length - i) i n (by omega) (by omega),bs_size]
 by_cases h:i < s.length
 ·have e0:s.getD i 0=s[i]:=by simp [List.getD_eq_getElem?_getD,h]
  rw [List.drop_eq_getElem_cons h,lead_cons,e0]
  simp only [h,decide_true,Bool.true_and]
  cases isD s[i]
  ·rw [Bool.not_false,cond_true,cond_t (by omega)]
   rfl
  ·simp only [Bool.not_true,cond_false,if_true]
   rw [if_neg (by omega)]
 ·rw [List.drop_of_length_le (by omega)]
  simp only [h,decide_false,Bool.false_and,Bool.not_false,cond_true]
  rw [cond_f (by omega)]
  rfl
def frm (s:List UInt8):Nat:=if sgn s then 1 else 0
theorem drop_frm (s:List UInt8):s.drop (frm s)=bod s:=by
 unfold frm bod
 split <;> rfl
theorem lead_eq {d:List UInt8} (h:lead d=d.length):d.all isD=true:=by
 have:=lead_all d
 rw [h,List.take_length] at this
 exact this
theorem layout_tail (hn:100002≤n) (s:List UInt8) (hs:s.length≤40) (f k:Nat) (hf:f+k≤s.length):∀ m,5≤m→∃ a b e:Int,Q41.l n m (.z8 (bs s) f ((f+k:Nat):Int))=some (a,b,e)∧
  (f+k=s.length→a=f∧e=0)∧(e=0→a=f)∧(e=0→f+k < s.length→s.contains 46=true):=by
 intro m hm
 obtain ⟨m,rfl⟩ : ∃ q,m=q+2:=⟨m - 2,by omega⟩
 rw [Q41.at8]
 unfold Q41.r8
 rw [bs_size]
 by_cases h:f+k=s.length
 ·have:((((f+k:Nat):Int))==((s.length:Nat):Int))=true:=by rw [h]; simp
  simp only [this,cond_true]
  exact ⟨_,_,_,rfl,fun _=>⟨rfl,rfl⟩,fun _=>rfl,fun _ hl=>absurd hl (by omega)⟩
 ·have:((((f+k:Nat):Int))==((s.length:Nat):Int))=false:=by rw [beq_eq_false_iff_ne]; omega
  have hi:f+k < s.length:=by omega
  simp only [this,cond_false,within_t hi,cond_true,Int.toNat_natCast,getD_at hi]
  by_cases h46:s[f+k]=46
  ·have hb:(((s[f+k].toNat:Nat):Int) != 46)=false:=by rw [h46]; rfl
   have hc:s.contains 46=true:=by rw [List.contains_iff_mem,← h46]; exact List.getElem_mem hi
   rw [hb,cond_false,wsucc (by omega),run_eq hn s (by omega) (f+k+1) (by omega),Option.bind_some]
   have e15:∀ a b c d,Q41.l n (m+1) (.z15 a b c d)=bif c != 0 then some (0,d,c) else some (a,b,0):=fun a b c d=>rfl
   simp only [e15]
   by_cases hl:lead (s.drop (f+k+1))=0
   ·simp only [hl,if_true]
    by_cases hl2:f+k+1 < s.length
    ·simp only [hl2,if_true]
     exact ⟨_,_,8,rfl,fun h'=>absurd h' h,nofun,nofun⟩
    ·simp only [hl2,if_false]
     exact ⟨_,_,9,rfl,fun h'=>absurd h' h,nofun,nofun⟩
   ·simp only [hl,if_false,beq_self_eq_true,cond_true]
    by_cases hl2:(((f+k+1+lead (s.drop (f+k+1)):Nat):Int)) < ((s.length:Nat):Int)
    ·rw [cond_t hl2]
     exact ⟨_,_,8,rfl,fun h'=>absurd h' h,nofun,nofun⟩
    ·rw [cond_f hl2]
     exact ⟨_,_,0,rfl,fun h'=>absurd h' h,fun _=>rfl,fun _ _=>hc⟩
  ·have hb:(((s[f+k].toNat:Nat):Int) != 46)=true:=by
    rw [bne_iff_ne]
    intro e
    have e2:s[f+k].toNat=46:=by omega
    exact h46 (UInt8.toNat_inj.1 (by rw [e2]; rfl))
   rw [hb,cond_true]
   exact ⟨_,_,8,rfl,fun h'=>absurd h' h,nofun,nofun⟩
theorem layout_eq (hn:100002≤n) (s:List UInt8) (hs:s.length≤40) (h0:s≠[]):∃ a b e:Int,Q41.F n (bs s)=some (a,b,e)∧
  ((bod s).all isD=true∧1≤(bod s).length∧zok (bod s)=true→a=frm s∧e=0)∧(e=0→a=frm s∧((bod s).all isD=true∧1≤(bod s).length∧zok (bod s)=true∨s.contains 46=true)):=by
 have hpos:0 < s.length:=List.length_pos_iff.2 h0
 have fin:∀ f:Nat,f=frm s→f≤s.length→∃ a b e:Int,((Q43.F n (bs s) f).bind fun p2=>bif p2.2 != 0 then some (0,p2.1,p2.2) else (bif decide ((f:Int) < ((s.length:Nat):Int)) then (bif ((((bs s).data.getD f 0).toNat:Nat):Int)==48 then (bif decide (p2.1 > ((f+1:Nat):Int)) then some (0,((f+1:Nat):Int),8) else Q41.l n n (.z8 (bs s) f p2.1)) else Q41.l n n (.z8 (bs s) f p2.1)) else none))=some (a,b,e)∧
   ((bod s).all isD=true∧1≤(bod s).length∧zok (bod s)=true→a=frm s∧e=0)∧(e=0→a=frm s∧((bod s).all isD=true∧1≤(bod s).length∧zok (bod s)=true∨s.contains 46=true)):=by
  intro f hf hfl
  have hd:s.drop f=bod s:=by rw [hf,drop_frm]
  have hdl:(bod s).length=s.length - f:=by rw [← hd,List.length_drop]
  have hle:=lead_le (bod s)
  rw [run_eq hn s (by omega) f hfl,Option.bind_some,hd]
  by_cases hl:lead (bod s)=0
  ·simp only [hl,if_true]
   have nope:¬ ((bod s).all isD=true∧1≤(bod s).length∧zok (bod s)=true):=by
    rintro ⟨x,y,_⟩
    have:=lead_full _ x
    omega
   by_cases hl2:f < s.length
   ·simp only [hl2,if_true]
    exact ⟨_,_,8,rfl,fun h=>absurd h nope,nofun⟩
   ·simp only [hl2,if_false]
    exact ⟨_,_,9,rfl,fun h=>absurd h nope,nofun⟩
  ·have hfl2:f < s.length:=by omega
   have eb:s[f]=(bod s).getD 0 0:=by
    rw [← hd]
    simp [List.getD_eq_getElem?_getD,hfl2]
   simp only [hl,if_false,getD_at hfl2,bne_self_eq_false,cond_false]
   rw [cond_t (show (f:Int) < ((s.length:Nat):Int) by omega)]
   have tail:=layout_tail hn s hs f (lead (bod s)) (by omega) n (by omega)
   obtain ⟨a,b,e,t1,t2,t3,t4⟩:=tail
   have use:zok (bod s)=true→∃ a b e:Int,Q41.l n n (.z8 (bs s) f ((f+lead (bod s):Nat):Int))=some (a,b,e)∧
     ((bod s).all isD=true∧1≤(bod s).length∧zok (bod s)=true→a=frm s∧e=0)∧(e=0→a=frm s∧((bod s).all isD=true∧1≤(bod s).length∧zok (bod s)=true∨s.contains 46=true)):=by
    intro hz
    refine ⟨a,b,e,t1,?_,?_⟩
    ·rintro ⟨x,y,_⟩
     have:=lead_full _ x
     rw [← hf]
     exact t2 (by omega)
    ·intro he
     refine ⟨by rw [← hf]; exact t3 he,?_⟩
     by_cases hq:f+lead (bod s) < s.length
     ·exact .inr (t4 he hq)
     ·exact .inl ⟨lead_eq (by omega),by omega,hz⟩
   by_cases h48:s[f]=48
   ·have hb:(((s[f].toNat:Nat):Int)==48)=true:=by rw [h48]; rfl
    rw [hb,cond_true]
    by_cases h1:lead (bod s) > 1
    ·rw [cond_t (by omega)]
     refine ⟨_,_,8,rfl,?_,nofun⟩
     rintro ⟨_,_,hz⟩
     exact absurd ⟨by omega,by rw [← eb]; exact h48⟩ ((zok_iff _).1 hz)
    ·rw [cond_f (by omega)]
     by_cases hz:zok (bod s)=true
     ·exact use hz
     ·refine ⟨a,b,e,t1,fun h=>absurd h.2.2 hz,?_⟩
      intro he
      refine ⟨by rw [← hf]; exact t3 he,?_⟩
      have:f+lead (bod s) < s.length:=by
       have hx:1 < (bod s).length:=by
        refine Classical.byContradiction fun h=>hz ((zok_iff _).2 fun ⟨x,_⟩=>h x)
       omega
      exact .inr (t4 he this)
   ·have hb:(((s[f].toNat:Nat):Int)==48)=false:=by
     rw [beq_eq_false_iff_ne]
     intro e
     have e2:s[f].toNat=48:=by omega
     exact h48 (UInt8.toNat_inj.1 (by rw [e2]; rfl))
    rw [hb,cond_false]
    exact use ((zok_iff _).2 fun ⟨_,x⟩=>h48 (by rw [eb]; exact x))
 unfold Q41.F Q41.e
 rw [bs_size,cond_t (by omega)]
 simp only [getD_at hpos,sgn_byte hpos]
 cases hsg:sgn s
 ·rw [cond_false]
  have:=fin 0 (by unfold frm; rw [hsg]; rfl) (by omega)
  have w1:IntKind.i64.wrap ((0:Int)+1)=((0+1:Nat):Int):=rfl
  rw [w1]
  simp only [getD_at hpos] at this
  exact this
 ·rw [cond_true]
  have:=fin 1 (by unfold frm; rw [hsg]; rfl) (by omega)
  have w1:IntKind.i64.wrap ((1:Int)+1)=((1+1:Nat):Int):=rfl
  rw [w1]
  exact this
end
end Go.Proofs.YtmpglmcjoelciaaGreatDoor.Ev
namespace Go.Proofs.YtmpglmcjoelciaaGreatDoor.Ev
open Go Go.Proofs Go.Proofs.Ev
set_option linter.unusedVariables false
set_option linter.unusedSimpArgs false
section
variable {n:Nat}
theorem contains46 (l:List UInt8) (hl:l.length≤100000):Q4f.F n (bs l) (⟨#[46]⟩ : ByteArray)=some (l.contains 46):=by
 unfold Q4f.F Q4f.e Q4h.F
 rw [cond_t (by rw [bs_size]; omega),Option.bind_some]
 show some (decide (Lib.index l [46]≥0))=_
 rw [Lib.index_one,← has_eq]
theorem cut_len (s sep:List UInt8):(Lib.cut s sep).1.length≤s.length∧(Lib.cut s sep).2.1.length≤s.length:=by
 unfold Lib.cut
 split
 ·exact ⟨by simp; omega,by simp⟩
 ·exact ⟨Nat.le_refl _,by simp⟩
theorem cut_miss {s:List UInt8} (h:s.contains 46=false):Lib.cut s [46]=(s,[],false):=by
 unfold Lib.cut
 rw [if_neg]
 rw [Lib.index_one]
 have:=has_eq 46 s
 rw [h] at this
 simpa using this
theorem pn_any (s r:ByteArray) (f:Int) (a7 a8:Int) (l:List UInt8) (hl:l.length≤100000):∀ (d i m:Nat) (v:Int),i+d=l.length→d < m→∃ x,Q3v.l n m (.z13 s f r v l.length i a7 a8 (l.map fun b=>vu b.toNat))=some (x,((r.size:Nat):Int),((s.size:Nat):Int),0)
 | _,_,0,_,_,h=>absurd h (by omega)
 | 0,i,m+1,v,h,_=>by
  rw [Q3v.at13]
  unfold Q3v.r13
  simp (disch:=omega) only [Option.bind_some,Option.bind_none,cond_true,cond_false,Bool.not_true,Bool.not_false,List.length_map,Ws_length,bs_size,within_t,upto_t,wsucc,Int.toNat_natCast,at_mapN,Ws_getDN,cells_agg,cells_v,withCons_cons,withInt_mk,withStr_mk,withBool_mk,withSl_mk,cond_t,cond_f]
  cases f==1
  ·exact ⟨_,rfl⟩
  ·exact ⟨_,rfl⟩
 | d+1,i,m+1,v,h,hm=>by
  have hi:i < l.length:=by omega
  rw [Q3v.at13]
  unfold Q3v.r13
  have e:(l.map fun b=>vu b.toNat).getD i AV.undef=vu l[i].toNat:=by simp [List.getD_eq_getElem?_getD,hi]
  simp (disch:=omega) only [Option.bind_some,Option.bind_none,cond_true,cond_false,Bool.not_true,Bool.not_false,List.length_map,Ws_length,bs_size,within_t,upto_t,wsucc,Int.toNat_natCast,at_mapN,Ws_getDN,cells_agg,cells_v,withCons_cons,withInt_mk,withStr_mk,withBool_mk,withSl_mk,cond_t,cond_f,e]
  exact pn_any s r f a7 a8 l hl d (i+1) m _ (by omega) (by omega)
theorem pn_val (s r:ByteArray) (f:Int) (a7 a8:Int) (l:List UInt8) (hl:l.length≤15) (hd:l.all isD=true):∀ (d i m v:Nat),i+d=l.length→d < m→v < 10 ^ i→
  Q3v.l n m (.z13 s f r (v:Int) l.length i a7 a8 (l.map fun b=>vu b.toNat))=some ((if f=1 then -(valA v (l.drop i):Int) else (valA v (l.drop i):Int)),((r.size:Nat):Int),((s.size:Nat):Int),0)
 | _,_,0,_,_,h,_=>absurd h (by omega)
 | 0,i,m+1,v,h,_,hv=>by
  have hp:10 ^ i≤10 ^ 15:=Nat.pow_le_pow_right (by omega) (by omega)
  rw [Q3v.at13]
  unfold Q3v.r13
  simp (disch:=omega) only [Option.bind_some,Option.bind_none,cond_true,cond_false,Bool.not_true,Bool.not_false,List.length_map,Ws_length,bs_size,within_t,upto_t,wsucc,Int.toNat_natCast,at_mapN,Ws_getDN,cells_agg,cells_v,withCons_cons,withInt_mk,withStr_mk,withBool_mk,withSl_mk,cond_t,cond_f]
  rw [List.drop_of_length_le (by omega),w64 (by omega) (by omega),beq_int,bif_ite,Int.zero_sub]
  show (if f=1 then some (-(valA v []:Int),_) else some ((valA v []:Int),_))=_
  split <;> rfl
 | d+1,i,m+1,v,h,hm,hv=>by
  have hi:i < l.length:=by omega
  have hp:10 ^ i≤10 ^ 14:=Nat.pow_le_pow_right (by omega) (by omega)
  have hdi:=(isD_iff _).1 (List.all_eq_true.1 hd l[i] (List.getElem_mem hi))
  have ih:=pn_val s r f a7 a8 l hl hd d (i+1) m (v*10+(l[i].toNat - 48)) (by omega) (by omega) (by rw [Nat.pow_succ]; omega)
  rw [Q3v.at13]
  unfold Q3v.r13
  have e:(l.map fun b=>vu b.toNat).getD i AV.undef=vu l[i].toNat:=by simp [List.getD_eq_getElem?_getD,hi]
  have e1:IntKind.i64.wrap (IntKind.i64.wrap ((v:Int)*10)+IntKind.i64.wrap (IntKind.u8.wrap (((l[i].toNat:Nat):Int) - 48)))=((v*10+(l[i].toNat - 48):Nat):Int):=by
   rw [w8]
   have:(((l[i].toNat:Nat):Int) - 48) % 256=((l[i].toNat - 48:Nat):Int):=by omega
   rw [this,w64 (x:=(v:Int)*10) (by omega) (by omega),w64 (x:=((l[i].toNat - 48:Nat):Int)) (by omega) (by omega),w64 (by omega) (by omega)]
   omega
  simp (disch:=omega) only [Option.bind_some,Option.bind_none,cond_true,cond_false,Bool.not_true,Bool.not_false,List.length_map,Ws_length,bs_size,within_t,upto_t,wsucc,Int.toNat_natCast,at_mapN,Ws_getDN,cells_agg,cells_v,withCons_cons,withInt_mk,withStr_mk,withBool_mk,withSl_mk,cond_t,cond_f,e,e1]
  rw [ih,List.drop_eq_getElem_cons hi,valA_cons]
theorem trim_eq (l:List UInt8):Q4k.F n (bs l) (⟨#[48]⟩ : ByteArray)=some (bs (l.dropWhile (·==48))):=by
 unfold Q4k.F
 rfl
theorem bod_no46 {s:List UInt8} (h:s.contains 46=true):(bod s).all isD=false:=by
 rw [← Bool.not_eq_true]
 intro h2
 have hm:(46:UInt8)∈bod s:=by
  have h1:(46:UInt8)∈s:=List.contains_iff_mem.1 h
  unfold bod
  cases hs:sgn s
  ·simpa using h1
  ·simp only [if_true]
   match s,h1,hs with
   | c::r,h1,hs=>
    have hc:c=45:=by simpa [sgn] using hs
    rcases List.mem_cons.1 h1 with e | e
    ·rw [hc] at e; cases e
    ·exact e
 have:=List.all_eq_true.1 h2 46 hm
 cases this
theorem whole_eq (hn:100002≤n) (s:List UInt8) (h0:s≠[]) (hs:s.length≤100000):∃ v,Q1m.F n (bs s)=some (v,(numP s).isSome)∧∀ k,numP s=some k→v=k:=by
 have hpos:0 < s.length:=List.length_pos_iff.2 h0
 have hbl:(bod s).length≤s.length∧s.length≤(bod s).length+1:=by
  unfold bod
  split
  ·rw [List.length_drop]; omega
  ·omega
 unfold Q1m.F Q1m.e Q3v.F Q3v.e
 simp only [bs_size,ncond_eq,Option.bind_some]
 rw [nfirst2 (by omega),Option.bind_some,empty_eq,contains46 s hs]
 simp only [h0,decide_false,Bool.false_eq_true,if_false,decide_eq_true_eq]
 by_cases h40:((s.length:Nat):Int) > 40
 ·have hnp:numP s=none:=by
   unfold numP
   rw [if_neg]
   rw [numD_iff]
   rintro ⟨_,h,_⟩
   omega
  rw [hnp]
  simp only [h40,if_true]
  exact ⟨0,rfl,nofun⟩
 ·simp only [h40,if_false]
  obtain ⟨a,b,e,l1,l2,l3⟩:=layout_eq hn s (by omega) h0
  rw [show ((if (0:Int)≠0 then (0:Int) else 0) != 0)=false from rfl,cond_false,l1,Option.bind_some]
  dsimp only
  rw [bif_ne]
  by_cases he:e=0
  ·rw [if_neg (by simp [he])]
   obtain ⟨ha,hor⟩:=l3 he
   have hfr:frm s≤s.length:=by unfold frm; split <;> omega
   have hex:(bs s).extract (frm s) s.length=bs (bod s):=by
    rw [bs_extract,drop_frm,List.take_of_length_le]
    unfold bod frm
    split <;> simp
   rw [ha,show (decide ((0:Int)≤((frm s:Nat):Int))&&decide (((frm s:Nat):Int)≤((s.length:Nat):Int)))=true by simp; omega,cond_true,Int.toNat_natCast]
   simp only [hex]
   unfold Q4g.F
   rw [cond_t (by rw [bs_size]; omega),Option.bind_some]
   dsimp only
   obtain ⟨c1,c2⟩:=cut_len (bod s) [46]
   rw [show (⟨(Lib.cut (bs (bod s)).data.toList (⟨#[46]⟩ : ByteArray).data.toList).1.toArray⟩ : ByteArray)=bs (Lib.cut (bod s) [46]).1 from rfl,show (⟨(Lib.cut (bs (bod s)).data.toList (⟨#[46]⟩ : ByteArray).data.toList).2.1.toArray⟩ : ByteArray)=bs (Lib.cut (bod s) [46]).2.1 from rfl,trim_eq,Option.bind_some]
   have tl:∀ l:List UInt8,(l.dropWhile (·==48)).length≤l.length:=fun l=>(List.dropWhile_sublist _).length_le
   have t1:=tl (Lib.cut (bod s) [46]).1
   rw [bs_size,bs_size,chk_t (by omega),bs_append,bs_size,bs_toList,List.length_map]
   by_cases h46:s.contains 46=true
   ·have hnp:numP s=none:=by
     unfold numP
     rw [if_neg]
     rw [numD_iff]
     rintro ⟨_,_,h,_⟩
     rw [bod_no46 h46] at h
     cases h
    rw [hnp,h46]
    by_cases h15:(((((Lib.cut (bod s) [46]).1.dropWhile (·==48))++(Lib.cut (bod s) [46]).2.1).length:Nat):Int) > 15
    ·rw [cond_t h15]
     exact ⟨0,rfl,nofun⟩
    ·rw [cond_f h15]
     obtain ⟨x,hx⟩:=pn_any (n:=n) (bs s) (bs (Lib.cut (bod s) [46]).2.1) ((frm s:Nat):Int) 0 0 (((Lib.cut (bod s) [46]).1.dropWhile (·==48))++(Lib.cut (bod s) [46]).2.1) (by rw [List.length_append]; omega) _ 0 n 0 (Nat.zero_add _) (by rw [List.length_append]; omega)
     have e0:((0:Nat):Int)=0:=rfl
     rw [e0] at hx
     rw [hx]
     exact ⟨x,rfl,nofun⟩
   ·have h46' : s.contains 46=false:=by simpa using h46
    obtain ⟨d1,d2,d3⟩ : (bod s).all isD=true∧1≤(bod s).length∧zok (bod s)=true:=by
     rcases hor with h | h
     ·exact h
     ·exact absurd h h46
    have hb46:(bod s).contains 46=false:=by
     rw [← Bool.not_eq_true]
     intro h
     have:=List.all_eq_true.1 d1 46 (List.contains_iff_mem.1 h)
     cases this
    rw [cut_miss hb46,h46']
    simp only [List.append_nil]
    have hfe:(((frm s:Nat):Int)=1)↔sgn s=true:=by
     unfold frm
     cases sgn s <;> simp
    -- the digits behind zeros
    by_cases hz:bod s=[48]
    ·have hnp:numP s=some 0:=by
      unfold numP
      rw [hz,if_pos (by decide)]
      cases sgn s <;> rfl
     rw [hnp,hz]
     refine ⟨0,?_,fun k hk=>by cases hk; rfl⟩
     have e1:([48]:List UInt8).dropWhile (·==48)=[]:=rfl
     rw [e1]
     have hv:=pn_val (n:=n) (bs s) (bs []) ((frm s:Nat):Int) 0 0 [] (by simp) rfl 0 0 n 0 rfl (by omega) (by simp)
     have e0:((0:Nat):Int)=0:=rfl
     have e2:(([]:List UInt8).length:Int)=0:=rfl
     rw [e0,e2] at hv
     rw [e2,show decide ((0:Int) > 15)=false from rfl,cond_false,hv]
     simp [valA]
    ·have hdw:(bod s).dropWhile (·==48)=bod s:=by
      have h1:¬ (1 < (bod s).length∧(bod s).getD 0 0=48):=(zok_iff _).1 d3
      match hb:bod s,d2,hz,h1 with
      | c::r,_,hz,h1=>
       have:(c==48)=false:=by
        rw [beq_eq_false_iff_ne]
        intro e
        refine h1 ⟨?_,e⟩
        match r,hz with
        | [],hz=>exact absurd (by rw [e]) hz
        | _::_,_=>simp
       rw [List.dropWhile_cons,this]
       rfl
     rw [hdw]
     by_cases h15:(((bod s).length:Nat):Int) > 15
     ·have hnp:numP s=none:=by
       unfold numP
       rw [if_neg]
       rw [numD_iff]
       rintro ⟨_,h,_⟩
       omega
      rw [hnp,cond_t h15]
      exact ⟨0,rfl,nofun⟩
     ·have hnd:numD (bod s)=true:=by rw [numD_iff]; exact ⟨d2,by omega,d1,(zok_iff _).1 d3⟩
      rw [cond_f h15]
      have hv:=pn_val (n:=n) (bs s) (bs []) ((frm s:Nat):Int) 0 0 (bod s) (by omega) d1 (bod s).length 0 n 0 (Nat.zero_add _) (by omega) (by simp)
      have e0:((0:Nat):Int)=0:=rfl
      rw [e0,List.drop_zero] at hv
      rw [hv]
      unfold numP
      rw [if_pos hnd]
      simp only [hfe]
      exact ⟨_,rfl,fun k hk=>by cases hk; rfl⟩
  ·rw [if_pos he]
   have hnp:numP s=none:=by
    unfold numP
    rw [if_neg]
    intro h
    rw [numD_iff] at h
    obtain ⟨x,_,y,z⟩:=h
    exact he (l2 ⟨y,x,(zok_iff _).2 z⟩).2
   rw [hnp]
   have:(e==0)=false:=by simpa using he
   simp only [Option.bind_some,this,cond_false]
   exact ⟨0,rfl,nofun⟩
end
end Go.Proofs.YtmpglmcjoelciaaGreatDoor.Ev
namespace Go.Proofs.YtmpglmcjoelciaaGreatDoor.Ev
open Go Go.Proofs Go.Proofs.Ev
set_option linter.unusedVariables false
set_option linter.unusedSimpArgs false
def prd:List UInt8→Bool
 | []=>true
 | [c]=>!(c==39)
 | c::d::r=>if c=39 then (d==39)&&prd r else prd (d::r)
def unq:List UInt8→List UInt8
 | []=>[]
 | [c]=>[c]
 | c::d::r=>if c=39 then 39::unq r else c::unq (d::r)
theorem prd_cons {c:UInt8} (h:c≠39) (r:List UInt8):prd (c::r)=prd r:=by
 cases r with
 | nil=>simp [prd,h]
 | cons d r=>rw [prd,if_neg h]
theorem unq_cons {c:UInt8} (h:c≠39) (r:List UInt8):unq (c::r)=c::unq r:=by
 cases r with
 | nil=>rfl
 | cons d r=>rw [unq,if_neg h]
structure Good (w:List UInt8):Prop where
 pos:w≠[]
 len:w.length≤1000
 str:w.getD 0 0=39→∃ q,prd q=true∧w=39::(q++[39])
 bare:w.getD 0 0≠39→w.contains 39=false
theorem qt_good:∀ (k:Nat) (r:List UInt8) (i e:Nat),r.length≤k→qt r i=some e→∃ q,prd q=true∧e=i+q.length+1∧r.take (q.length+1)=q++[39]
 | _,[],_,_,_,h=>by cases h
 | 0,_::_,_,_,hk,_=>absurd hk (by simp)
 | k+1,c::r,i,e,hk,h=>by
  unfold qt at h
  by_cases hc:c=39
  ·rw [if_neg (by simp [hc])] at h
   cases r with
   | nil=>cases h; exact ⟨[],rfl,rfl,by rw [hc]; rfl⟩
   | cons d r'=>
    dsimp only at h
    by_cases hd:d=39
    ·rw [if_pos hd] at h
     obtain ⟨q,q1,q2,q3⟩:=qt_good k r' (i+2) e (by simp at hk; omega) h
     refine ⟨39::39::q,?_,by simp; omega,?_⟩
     ·rw [prd,if_pos rfl,q1]; rfl
     ·rw [hc,hd]
      simp only [List.length_cons,List.take_succ_cons,q3]
      rfl
    ·rw [if_neg hd] at h
     cases h
     exact ⟨[],rfl,rfl,by rw [hc]; rfl⟩
  ·rw [if_pos hc] at h
   obtain ⟨q,q1,q2,q3⟩:=qt_good k r (i+1) e (by simp at hk; omega) h
   refine ⟨c::q,by rw [prd_cons hc]; exact q1,by simp; omega,?_⟩
   simp only [List.length_cons,List.take_succ_cons,q3]
   rfl
theorem wrd_good {l:List UInt8} (h:wrd l≠0) (hl:l.length≤1000):Good (l.take (wrd l)):=by
 have hle:=wrd_le l
 match l,h,hl,hle with
 | [],h,_,_=>exact absurd rfl h
 | c::r,h,hl,hle=>
  have h1:(c::r).take (wrd (c::r))≠[]:=by
   intro e
   have:=congrArg List.length e
   rw [List.length_take,List.length_nil] at this
   simp only [List.length_cons] at this hle
   omega
  have hd:((c::r).take (wrd (c::r))).getD 0 0=c:=by
   obtain ⟨k,hk⟩ : ∃ k,wrd (c::r)=k+1:=⟨wrd (c::r) - 1,by omega⟩
   rw [hk]
   rfl
  refine ⟨h1,by rw [List.length_take]; omega,?_,?_⟩
  ·intro h39
   rw [hd] at h39
   rw [wrd_cons,if_pos h39] at h ⊢
   cases hq:qt r 1 with
   | none=>rw [hq] at h; exact absurd rfl h
   | some e=>
    rw [hq] at h
    dsimp only at h ⊢
    by_cases hx:e < (c::r).length∧(c::r).getD e 0≠32
    ·rw [if_pos hx] at h; exact absurd rfl h
    ·rw [if_neg hx]
     obtain ⟨q,q1,q2,q3⟩:=qt_good r.length r 1 e (Nat.le_refl _) hq
     refine ⟨q,q1,?_⟩
     rw [q2,show 1+q.length+1=(q.length+1)+1 by omega,List.take_succ_cons,q3,h39]
  ·intro h39
   rw [hd] at h39
   rw [wrd_cons,if_neg h39] at h ⊢
   by_cases hx:((c::r).take (ib (c::r) 32)).contains 39=true
   ·rw [if_pos hx] at h; exact absurd rfl h
   ·rw [if_neg hx]
    simpa using hx
theorem wordsP_good:∀ (g:Nat) (l:List UInt8) (ws:List (List UInt8)),l.length≤1000→wordsP g l=some ws→∀ w∈ws,Good w
 | 0,_,_,_,h=>by cases h
 | g+1,l,ws,hl,h=>by
  unfold wordsP at h
  by_cases h0:wrd l=0
  ·rw [if_pos h0] at h; cases h
  ·rw [if_neg h0] at h
   have hg:=wrd_good h0 hl
   by_cases h1:wrd l=l.length
   ·rw [if_pos h1] at h
    cases h
    intro w hw
    rw [List.mem_singleton] at hw
    subst hw
    rw [h1,List.take_length] at hg
    exact hg
   ·rw [if_neg h1] at h
    cases hr:wordsP g (l.drop (wrd l+1)) with
    | none=>rw [hr] at h; cases h
    | some r=>
     rw [hr] at h
     cases h
     intro w hw
     rcases List.mem_cons.1 hw with rfl | hw
     ·exact hg
     ·exact wordsP_good g _ r (by rw [List.length_drop]; omega) hr w hw
theorem Good.has {w:List UInt8} (h:Good w):w.contains 39=(w.getD 0 0==39):=by
 by_cases h0:w.getD 0 0=39
 ·obtain ⟨q,_,e⟩:=h.str h0
  rw [h0,e]
  simp
 ·rw [h.bare h0]
  simpa using h0
def isB (w:List UInt8):Bool:=!(w.getD 0 0==39)
section
variable {n:Nat}
theorem bares_l (ws:List (List UInt8)) (hw:ws.length≤1000) (hg:∀ w∈ws,Good w):∀ (d i m:Nat),i+d=ws.length→d < m→∃ x,Q4a.l n m (.z2 (Ws ws) ws.length i)=some x∧decide (x≥0)=!(ws.drop i).all isB
 | _,_,0,_,h=>absurd h (by omega)
 | 0,i,m+1,h,_=>by
  rw [Q4a.at2]
  unfold Q4a.r2
  simp (disch:=omega) only [Option.bind_some,Option.bind_none,cond_true,cond_false,Bool.not_true,Bool.not_false,List.length_map,Ws_length,bs_size,within_t,upto_t,wsucc,Int.toNat_natCast,at_mapN,Ws_getDN,cells_agg,cells_v,withCons_cons,withInt_mk,withStr_mk,withBool_mk,withSl_mk,cond_t,cond_f]
  rw [List.drop_of_length_le (by omega)]
  exact ⟨-1,rfl,rfl⟩
 | d+1,i,m+1,h,hm=>by
  have hi:i < ws.length:=by omega
  obtain ⟨x,h1,h2⟩:=bares_l ws hw hg d (i+1) m (by omega) (by omega)
  have hgi:=hg ws[i] (List.getElem_mem hi)
  have hc:=contains_eq (n:=n) ws[i] (by have:=hgi.len; omega)
  rw [Q4a.at2]
  unfold Q4a.r2
  simp (disch:=omega) only [Option.bind_some,Option.bind_none,cond_true,cond_false,Bool.not_true,Bool.not_false,List.length_map,Ws_length,bs_size,within_t,upto_t,wsucc,Int.toNat_natCast,at_mapN,Ws_getDN,cells_agg,cells_v,withCons_cons,withInt_mk,withStr_mk,withBool_mk,withSl_mk,cond_t,cond_f,Q0q.F,Q0q.e,hc,h1]
  rw [List.drop_eq_getElem_cons hi,List.all_cons,hgi.has]
  unfold isB at h2 ⊢
  by_cases h39:ws[i].getD 0 0=39
  ·refine ⟨i,by rw [h39]; rfl,?_⟩
   rw [h39]
   simp
  ·have:(ws[i].getD 0 0==39)=false:=by simpa using h39
   refine ⟨x,by rw [this]; rfl,?_⟩
   rw [h2,this]
   simp
theorem isBare_eq (hn:1001≤n) (ws:List (List UInt8)) (hw:ws.length≤1000) (hg:∀ w∈ws,Good w):Q0p.F n (Ws ws)=some (ws.all isB):=by
 unfold Q0p.F Q0p.e Q45.F Q45.e Q4a.F Q4a.e
 obtain ⟨x,h1,h2⟩:=bares_l (n:=n) ws hw hg ws.length 0 n (by omega) (by omega)
 rw [List.drop_zero] at h2
 have e0:((0:Nat):Int)=0:=rfl
 rw [e0] at h1
 rw [Ws_length,h1,Option.bind_some,Option.bind_some,h2,Bool.not_not]
theorem replU:∀ (j:Nat) (s:List UInt8) (k:Nat),s.length≤j→prd s=true→Lib.count s [39,39]≤k→Lib.replaceK [39,39] [39] k s=unq s
 | _,[],0,_,_,_=>rfl
 | _,[],k+1,_,_,_=>rfl
 | 0,_::_,_,hj,_,_=>absurd hj (by simp)
 | j+1,c::s,k,hj,hp,h=>by
  by_cases hc:c=39
  ·subst hc
   match s,hj,hp,h with
   | [],_,hp,_=>cases hp
   | d::r,hj,hp,h=>
    rw [prd,if_pos rfl,Bool.and_eq_true,beq_iff_eq] at hp
    obtain ⟨rfl,hp⟩:=hp
    have hi:Lib.index (39::39::r) [39,39]=((0:Nat):Int):=by simp [Lib.index]
    have hct:=Lib.count_hit (by simp) hi
    simp only [List.length_cons,List.length_nil,Nat.zero_add,List.drop_succ_cons,List.drop_zero] at hct
    obtain ⟨k,rfl⟩ : ∃ q,k=q+1:=⟨k - 1,by omega⟩
    rw [Lib.replaceK_hit [39,39] [39] k (39::39::r) 0 hi,unq,if_pos rfl]
    simp only [List.take_zero,List.nil_append,List.length_cons,List.length_nil,Nat.zero_add,List.drop_succ_cons,List.drop_zero]
    rw [replU j r k (by simp at hj; omega) hp (by omega)]
    rfl
  ·rw [prd_cons hc] at hp
   rw [unq_cons hc]
   have hcn:([39,39]:List UInt8).isPrefixOf (c::s)=false:=by
    simp [List.isPrefixOf]
    intro e; exact absurd e.symm hc
   have hix:Lib.index (c::s) [39,39]=if Lib.index s [39,39]==-1 then -1 else Lib.index s [39,39]+1:=by
    rw [Lib.index,hcn]; rfl
   have hge:=Lib.index_ge s [39,39]
   by_cases hm:Lib.index s [39,39]=-1
   ·have hm' : Lib.index (c::s) [39,39]=-1:=by rw [hix,hm]; rfl
    have ih:=replU j s 0 (by simp at hj; omega) hp (by rw [Lib.count_miss hm]; omega)
    rw [Lib.replaceK] at ih
    rw [← ih]
    cases k with
    | zero=>rfl
    | succ k=>rw [Lib.replaceK,if_pos (by rw [hm']; rfl)]
   ·obtain ⟨i,hi⟩ : ∃ i:Nat,Lib.index s [39,39]=i:=⟨(Lib.index s [39,39]).toNat,by omega⟩
    have hi' : Lib.index (c::s) [39,39]=((i+1:Nat):Int):=by
     rw [hix,if_neg (by rw [beq_iff_eq]; exact hm),hi]; rfl
    have c1:=Lib.count_hit (by simp) hi
    have c2:=Lib.count_hit (by simp) hi'
    have hlen:i+1+([39,39]:List UInt8).length=(i+([39,39]:List UInt8).length)+1:=by simp
    rw [hlen,List.drop_succ_cons,← c1] at c2
    rw [c2] at h
    obtain ⟨k,rfl⟩ : ∃ q,k=q+1:=⟨k - 1,by omega⟩
    have ih:=replU j s (k+1) (by simp at hj; omega) hp h
    rw [Lib.replaceK_hit _ _ k s i hi] at ih
    rw [Lib.replaceK_hit _ _ k (c::s) (i+1) hi',hlen,List.drop_succ_cons,List.take_succ_cons,← ih]
    simp
theorem replaceU_eq (s:List UInt8) (hs:s.length≤100000) (hp:prd s=true):Q4j.F n (bs s) (bs [39,39]) (bs [39])=some (bs (unq s)):=by
 unfold Q4j.F
 have hc:Lib.countB (bs s) (bs [39,39])≤s.length:=Lib.countB_le (bs [39,39]) (by decide) s.length (bs s) (by rw [bs_size]; omega)
 have hg:((decide ((bs s).size < 4294967281)&&decide (1≤(bs [39,39]).size))&&decide ((bs s).size+Lib.countB (bs s) (bs [39,39])*(bs [39]).size≤140737488355328))=true:=by
  rw [Bool.and_eq_true,Bool.and_eq_true,decide_eq_true_eq,decide_eq_true_eq,decide_eq_true_eq,bs_size,bs_size,bs_size]
  simp only [List.length_cons,List.length_nil]
  omega
 rw [hg,cond_true]
 have:Lib.replaceAll (bs s).data.toList (bs [39,39]).data.toList (bs [39]).data.toList=unq s:=by
  show Lib.replaceAll s [39,39] [39]=unq s
  unfold Lib.replaceAll Lib.replace Lib.replaceNum
  rw [if_neg (by decide),if_pos (by left; decide),replU s.length s _ (Nat.le_refl _) hp (Nat.le_refl _)]
 rw [this]
end
end Go.Proofs.YtmpglmcjoelciaaGreatDoor.Ev
namespace Go.Proofs.YtmpglmcjoelciaaGreatDoor.Ev
open Go Go.Proofs Go.Proofs.Ev
set_option linter.unusedVariables false
set_option linter.unusedSimpArgs false
def valP (w:List UInt8):Option (Int × List UInt8):=if w.getD 0 0=39 then some (0,unq (w.drop 1).dropLast) else (numP w).map fun v=>(v,[])
section
variable {n:Nat}
theorem inner_eq (q:List UInt8):((39::(q++[39])).drop 1).dropLast=q:=by simp
theorem byte0 {w:List UInt8} (h:0 < w.length):((((w[0].toNat:Nat):Int))==39)=(w.getD 0 0==39):=by
 have e0:w.getD 0 0=w[0]:=by simp [List.getD_eq_getElem?_getD,h]
 rw [e0,beq_int]
 by_cases h1:w[0]=39
 ·rw [h1]; rfl
 ·have h2:(w[0]==39)=false:=by simpa using h1
  rw [h2,decide_eq_false_iff_not]
  intro e
  have e2:w[0].toNat=39:=by omega
  exact h1 (UInt8.toNat_inj.1 (by rw [e2]; rfl))
theorem valueOf_eq (hn:100002≤n) {w:List UInt8} (h:Good w):∃ a b,Q1l.F n (bs w)=some (a,b,(valP w).isSome)∧∀ k,valP w=some k→a=k.1∧b=bs k.2:=by
 have hpos:0 < w.length:=List.length_pos_iff.2 h.pos
 have hlen:=h.len
 unfold Q1l.F Q1l.e valP
 rw [bs_size,cond_t (by omega)]
 simp only [getD_at hpos,byte0 hpos]
 by_cases h39:w.getD 0 0=39
 ·obtain ⟨q,q1,rfl⟩:=h.str h39
  have hql:(39::(q++[39])).length=q.length+2:=by simp
  rw [if_pos h39,h39,inner_eq]
  have w1:IntKind.i64.wrap ((((39::(q++[39])).length:Nat):Int) - 1)=((q.length+1:Nat):Int):=by
   rw [hql,w64 (by omega) (by omega)]; omega
  have u1:(decide ((0:Int)≤((q.length+1:Nat):Int))&&decide (((q.length+1:Nat):Int)≤(((39::(q++[39])).length:Nat):Int)))=true:=by
   rw [hql,Bool.and_eq_true,decide_eq_true_eq,decide_eq_true_eq]; omega
  have u2:(decide ((0:Int)≤1)&&decide ((1:Int)≤((q.length+1:Nat):Int)))=true:=by
   rw [Bool.and_eq_true,decide_eq_true_eq,decide_eq_true_eq]; omega
  have ex:(bs (39::(q++[39]))).extract 1 (q.length+1)=bs q:=by
   rw [bs_extract]
   congr 1
   simp
  simp only [beq_self_eq_true,cond_true,w1,u1,u2,Int.toNat_natCast]
  rw [ex,lit2,lit1,replaceU_eq q (by rw [hql] at hlen; omega) q1]
  exact ⟨0,bs (unq q),rfl,fun k hk=>by cases hk; exact ⟨rfl,rfl⟩⟩
 ·have hb:(w.getD 0 0==39)=false:=by simpa using h39
  rw [if_neg h39,hb,cond_false]
  obtain ⟨v,v1,v2⟩:=whole_eq hn w h.pos (by omega)
  rw [v1,Option.bind_some]
  refine ⟨v,⟨#[]⟩,by rw [Option.isSome_map],?_⟩
  intro k hk
  cases hp:numP w with
  | none=>rw [hp] at hk; cases hk
  | some x=>rw [hp] at hk; cases hk; exact ⟨v2 x hp,rfl⟩
end
end Go.Proofs.YtmpglmcjoelciaaGreatDoor.Ev
namespace Go.Proofs.YtmpglmcjoelciaaGreatDoor.Ev
open Go Go.Proofs Go.Proofs.Ev
set_option linter.unusedVariables false
section
variable {n:Nat} {nm fm:ByteArray} {ws:List (List UInt8)} {fs:List LF} {js:List JP} {ks:List KF} {uq:Bool} {rs:List RL}
theorem own_l (rs:List RL) (hr:rs.length≤1000) (hc:∀ r∈rs,r.cs.length≤1000) (p1 a3 a4 a5:List AV) (x y:ByteArray) (b:Bool):∀ (d i m:Nat),i+d=rs.length→d < m→
  Q30.l n m (.z7 i nm fm uq (rs.map RL.av) p1 a3 a4 a5 x y b ((rs.take i).map RL.av))=some (nm,fm,p1,a3,a4,a5,uq,rs.map RL.av)
 | _,_,0,_,h=>absurd h (by omega)
 | 0,i,m+1,h,_=>by
  rw [Q30.at7]
  unfold Q30.r7
  simp only [List.length_map]
  rw [cond_f (by omega),List.take_of_length_le (by omega)]
 | d+1,i,m+1,h,hm=>by
  have hi:i < rs.length:=by omega
  have hci:=hc _ (List.getElem_mem hi)
  have hmost:most=1000000000:=rfl
  have ih:=own_l rs hr hc p1 a3 a4 a5 x y b d (i+1) m (by omega) (by omega)
  rw [Q30.at7]
  unfold Q30.r7
  simp only [List.length_map]
  rw [cond_t (by omega),within_t hi,cond_true,at_map RL.av hi]
  show (bif true then (bif decide ((rs[i].cs.map CN.av).length≤most) then (bif decide ((rs.take i).length+1≤most) then
   (Q30.l n m (.z7 (IntKind.i64.wrap ((i:Int)+1)) nm fm uq (rs.map RL.av) p1 a3 a4 a5 x y b ((rs.take i).map RL.av++[RL.av rs[i]]))) else none) else none) else none)=_
  rw [cond_true,cond_t (by rw [List.length_map]; omega),cond_t (by rw [List.length_take]; omega),wsucc (by omega)]
  have e:(rs.take i).map RL.av++[RL.av rs[i]]=(rs.take (i+1)).map RL.av:=by rw [List.take_succ_eq_append_getElem hi,List.map_append]; rfl
  rw [e]
  exact ih
theorem own_eq (hn:1001≤n) (hw:ws.length≤1000) (hf:fs.length≤1000) (hj:js.length≤1000) (hk:ks.length≤1000) (hr:rs.length≤1000) (hc:∀ r∈rs,r.cs.length≤1000) :
  Q30.F n nm fm (Ws ws) (fs.map LF.av) (js.map JP.av) (ks.map KF.av) uq (rs.map RL.av)=some (nm,fm,Ws ws,fs.map LF.av,js.map JP.av,ks.map KF.av,uq,rs.map RL.av):=by
 have hmost:most=1000000000:=rfl
 unfold Q30.F Q30.e Q1o.F Q1o.e
 rw [cond_t (by rw [Ws_length]; omega),Option.bind_some,cond_t (by rw [List.length_map]; omega),cond_t (by rw [List.length_map]; omega),cond_t (by rw [List.length_map]; omega)]
 exact own_l rs hr hc _ _ _ _ _ _ _ rs.length 0 n (by omega) (by omega)
end
end Go.Proofs.YtmpglmcjoelciaaGreatDoor.Ev
namespace Go.Proofs.YtmpglmcjoelciaaGreatDoor.Ev
open Go Go.Proofs Go.Proofs.Ev
set_option linter.unusedVariables false
set_option linter.unusedSimpArgs false
theorem ixs_find {α:Type} (f:α→List UInt8) (s:List UInt8):∀ (l:List α) (i:Nat),(l.find? (fun x=>f x==s)=none∧ixs (l.map f) s i=-1)∨∃ j,∃ h:j < l.length,l.find? (fun x=>f x==s)=some l[j]∧ixs (l.map f) s i=((i+j:Nat):Int)
 | [],i=>.inl ⟨rfl,rfl⟩
 | x::l,i=>by
  rw [List.map_cons,ixs_cons,List.find?_cons]
  by_cases h:f x=s
  ·refine .inr ⟨0,by simp,?_⟩
   have:(f x==s)=true:=by simpa using h
   rw [this,if_pos h]
   simp
  ·have:(f x==s)=false:=by simpa using h
   rw [this,if_neg h]
   rcases ixs_find f s l (i+1) with ⟨h1,h2⟩ | ⟨j,hj,h1,h2⟩
   ·exact .inl ⟨h1,h2⟩
   ·refine .inr ⟨j+1,by simpa using hj,h1,?_⟩
    rw [h2]
    congr 1
    omega
theorem nm_of_ne {b:List (List UInt8)} {s:List UInt8} (h:ne b s=0):isNm s=true∧b.contains s=false:=by
 unfold ne at h
 cases h1:isNm s
 ·rw [h1] at h; cases h
 ·rw [h1,if_neg (by simp)] at h
  cases h2:b.contains s
  ·exact ⟨rfl,rfl⟩
  ·rw [h2,if_pos rfl] at h; cases h
theorem bErr_ok {ws:List (List UInt8)}:∀ {l:List (List UInt8)} {i:Nat},(bErr ws l i).2=0→∀ w∈l,isNm w=true
 | [],_,_=>by simp
 | w::l,i,h=>by
  rw [bErr_cons] at h
  by_cases h0:ne (ws.take i) w=0
  ·rw [if_neg (by simp [h0])] at h
   intro v hv
   rcases List.mem_cons.1 hv with rfl | hv
   ·exact (nm_of_ne h0).1
   ·exact bErr_ok h v hv
  ·rw [if_pos h0] at h; exact absurd h h0
structure FOk (nb:Int) (f:LF):Prop where
 nm:isNm f.nm=true
 b0:0≤f.b
 b1:f.b≤nb
 fd:isNm f.fd=true
theorem fe_ok {nb:Int} {b:List (List UInt8)} {f:LF} (h:fe nb b f=0):FOk nb f:=by
 unfold fe at h
 by_cases h1:ne b f.nm=0
 ·rw [if_neg (by simp [h1])] at h
  by_cases h2:0≤f.b∧f.b≤nb
  ·rw [if_neg (by simp [h2])] at h
   cases h3:isNm f.fd
   ·rw [h3] at h; cases h
   ·exact ⟨(nm_of_ne h1).1,h2.1,h2.2,h3⟩
  ·rw [if_pos h2] at h; cases h
 ·rw [if_pos h1] at h; exact absurd h h1
theorem fErr_ok {nb:Int} {ns:List (List UInt8)}:∀ {l:List LF} {i:Nat},(fErr nb ns l i).2=0→∀ f∈l,FOk nb f
 | [],_,_=>by simp
 | f::l,i,h=>by
  rw [fErr_cons] at h
  by_cases h0:fe nb (ns.take i) f=0
  ·rw [if_neg (by simp [h0])] at h
   intro v hv
   rcases List.mem_cons.1 hv with rfl | hv
   ·exact fe_ok h0
   ·exact fErr_ok h v hv
  ·rw [if_pos h0] at h; exact absurd h h0
structure JOk (nb:Int) (j:JP):Prop where
 b0:1≤j.b
 b1:j.b≤nb
 f0:0≤j.fr
 f1:j.fr≤j.b - 1
 lf:isNm j.lf=true
 rt:isNm j.rt=true
theorem je_ok {nb last:Int} {j:JP} (h:je nb last j=0):JOk nb j:=by
 unfold je at h
 by_cases h1:1≤j.b∧j.b≤nb
 ·rw [if_neg (by simp [h1])] at h
  by_cases h2:0≤j.fr∧j.fr≤j.b - 1
  ·rw [if_neg (by simp [h2])] at h
   cases h3:isNm j.lf
   ·rw [h3] at h; cases h
   ·cases h4:isNm j.rt
    ·rw [h3,h4] at h; cases h
    ·exact ⟨h1.1,h1.2,h2.1,h2.2,h3,h4⟩
  ·rw [if_pos h2] at h; cases h
 ·rw [if_pos h1] at h; cases h
theorem jErr_ok {nb:Int}:∀ {l:List JP} {i:Nat} {last:Int} {ts:List Bool},(jErr nb l i last ts).2=0→∀ j∈l,JOk nb j
 | [],_,_,_,_=>by simp
 | j::l,i,last,ts,h=>by
  rw [jErr_cons] at h
  by_cases h0:je nb last j=0
  ·rw [if_neg (by simp [h0])] at h
   intro v hv
   rcases List.mem_cons.1 hv with rfl | hv
   ·exact je_ok h0
   ·exact jErr_ok h v hv
  ·rw [if_pos h0] at h; exact absurd h h0
theorem kErr_ok {ns kn:List (List UInt8)}:∀ {l:List KF} {i:Nat},(kErr ns kn l i).2=0→∀ k∈l,ns.contains k.nm=true
 | [],_,_=>by simp
 | k::l,i,h=>by
  rw [kErr_cons] at h
  by_cases h0:ke ns (kn.take i) k=0
  ·rw [if_neg (by simp [h0])] at h
   intro v hv
   rcases List.mem_cons.1 hv with rfl | hv
   ·unfold ke at h0
    cases h1:ns.contains v.nm
    ·rw [h1] at h0; cases h0
    ·rfl
   ·exact kErr_ok h v hv
  ·rw [if_pos h0] at h; exact absurd h h0
structure COk (ns:List (List UInt8)) (c:CN):Prop where
 fd:ns.contains c.fd=true
 o0:0≤c.op
 o1:c.op≤5
 n0 : -999999999999999≤c.n
 n1:c.n≤999999999999999
 sl:c.s.length≤256
 one:c.n=0∨c.s=[]
theorem ce_ok {ns:List (List UInt8)} {c:CN} (h:ce ns c=0):COk ns c:=by
 unfold ce at h
 cases h1:ns.contains c.fd
 ·rw [h1] at h; cases h
 ·rw [h1,if_neg (by simp)] at h
  by_cases h2:0≤c.op∧c.op≤5
  ·rw [if_neg (by simp [h2])] at h
   by_cases h3 : -999999999999999≤c.n∧c.n≤999999999999999
   ·rw [if_neg (by simp [h3])] at h
    by_cases h4:c.s.length > 256
    ·rw [if_pos h4] at h; cases h
    ·rw [if_neg h4] at h
     by_cases h5:c.n≠0∧c.s≠[]
     ·rw [if_pos h5] at h; cases h
     ·refine ⟨h1,h2.1,h2.2,h3.1,h3.2,by omega,?_⟩
      by_cases h6:c.n=0
      ·exact .inl h6
      ·exact .inr (Classical.byContradiction fun h7=>h5 ⟨h6,h7⟩)
   ·rw [if_pos h3] at h; cases h
  ·rw [if_pos h2] at h; cases h
theorem cErr_ok {ns:List (List UInt8)}:∀ {l:List CN},cErr ns l=0→∀ c∈l,COk ns c
 | [],_=>by simp
 | c::l,h=>by
  rw [cErr_cons] at h
  by_cases h0:ce ns c=0
  ·rw [if_neg (by simp [h0])] at h
   intro v hv
   rcases List.mem_cons.1 hv with rfl | hv
   ·exact ce_ok h0
   ·exact cErr_ok h v hv
  ·rw [if_pos h0] at h; exact absurd h h0
structure ROk (ns:List (List UInt8)) (r:RL):Prop where
 len:r.cs.length≤4
 cs:∀ c∈r.cs,COk ns c
theorem rErr_ok {ns:List (List UInt8)}:∀ {l:List RL} {i:Nat},(rErr ns l i).2=0→∀ r∈l,ROk ns r
 | [],_,_=>by simp
 | r::l,i,h=>by
  rw [rErr_cons] at h
  by_cases h0:re ns r=0
  ·rw [if_neg (by simp [h0])] at h
   intro v hv
   rcases List.mem_cons.1 hv with rfl | hv
   ·unfold re at h0
    by_cases h1:v.cs.length > 4
    ·rw [if_pos h1] at h0; cases h0
    ·rw [if_neg h1] at h0
     exact ⟨by omega,cErr_ok h0⟩
   ·exact rErr_ok h v hv
  ·rw [if_pos h0] at h; exact absurd h h0
structure LOk (nm fm:List UInt8) (ws:List (List UInt8)) (fs:List LF) (js:List JP) (ks:List KF) (uq:Bool) (rs:List RL):Prop where
 nm:isNm nm=true
 fm:isNm fm=true
 w0:1≤ws.length
 w1:ws.length≤3
 wsn:∀ w∈ws,isNm w=true
 f0:1≤fs.length
 f1:fs.length≤20
 fso:∀ f∈fs,FOk ((ws.length:Int) - 1) f
 j1:js.length≤20
 jso:∀ j∈js,JOk ((ws.length:Int) - 1) j
 k1:ks.length≤4
 kso:∀ k∈ks,(names fs).contains k.nm=true
 ke:(kErrT (names fs) ks).2=0
 r1:rs.length≤8
 rso:∀ r∈rs,ROk (names fs) r
theorem chkL_ok {nm fm:List UInt8} {ws:List (List UInt8)} {fs:List LF} {js:List JP} {ks:List KF} {uq:Bool} {rs:List RL} (h:(chkL nm fm ws fs js ks uq rs).2=0):LOk nm fm ws fs js ks uq rs:=by
 unfold chkL at h
 cases h1:isNm nm
 ·rw [h1] at h; cases h
 cases h2:isNm fm
 ·rw [h1,h2] at h; cases h
 rw [h1,h2,if_neg (by simp),if_neg (by simp)] at h
 by_cases h3:(bErrT ws).2=0
 case neg=>rw [if_pos h3] at h; exact absurd h h3
 rw [if_neg (by simp [h3])] at h
 by_cases h4:(fErrT ws fs).2=0
 case neg=>rw [if_pos h4] at h; exact absurd h h4
 rw [if_neg (by simp [h4])] at h
 by_cases h5:(jErrT ws js).2=0
 case neg=>rw [if_pos h5] at h; exact absurd h h5
 rw [if_neg (by simp [h5])] at h
 by_cases h6:(kErrT (names fs) ks).2=0
 case neg=>rw [if_pos h6] at h; exact absurd h h6
 rw [if_neg (by simp [h6])] at h
 by_cases h7:(rErrT (names fs) rs).2=0
 case neg=>rw [if_pos h7] at h; exact absurd h h7
 clear h
 have h6':=h6
 unfold bErrT at h3
 unfold fErrT at h4
 unfold jErrT at h5
 unfold kErrT at h6
 unfold rErrT at h7
 by_cases a1:ws.length=0
 ·rw [if_pos a1] at h3; cases h3
 by_cases a2:ws.length > 3
 ·rw [if_neg a1,if_pos a2] at h3; cases h3
 rw [if_neg a1,if_neg a2] at h3
 by_cases a3:fs.length=0
 ·rw [if_pos a3] at h4; cases h4
 by_cases a4:fs.length > 20
 ·rw [if_neg a3,if_pos a4] at h4; cases h4
 rw [if_neg a3,if_neg a4] at h4
 by_cases a5:js.length > 20
 ·rw [if_pos a5] at h5; cases h5
 rw [if_neg a5] at h5
 by_cases a6:ks.length > 4
 ·rw [if_pos a6] at h6; cases h6
 rw [if_neg a6] at h6
 by_cases a7:rs.length > 8
 ·rw [if_pos a7] at h7; cases h7
 rw [if_neg a7] at h7
 exact ⟨h1,h2,by omega,by omega,bErr_ok h3,by omega,by omega,fErr_ok h4,by omega,jErr_ok h5,by omega,kErr_ok h6,h6',by omega,rErr_ok h7⟩
end Go.Proofs.YtmpglmcjoelciaaGreatDoor.Ev
namespace Go.Proofs.YtmpglmcjoelciaaGreatDoor.Ev
open Go Go.Proofs Go.Proofs.Ev
set_option linter.unusedVariables false
set_option linter.unusedSimpArgs false
structure FL where
 nm:List UInt8
 fm:List UInt8
 ds:List FD
 ks:List KF
 uq:Bool
 deriving Inhabited
def FL.av (x:FL):AV:=.agg [vs (bs x.nm),vs (bs x.fm),.sl ⟨true,125⟩ 4 (x.ds.map FD.av),.sl ⟨true,111⟩ 2 (x.ks.map KF.av),vb x.uq]
def fnames (gs:List FL):List (List UInt8):=gs.map FL.nm
theorem fnames_length (gs:List FL):(fnames gs).length=gs.length:=by simp [fnames]
def FL.few (g:FL):Prop:=g.ds.length≤1000∧g.ks.length≤1000
def tyIn (ds:List FD) (s:List UInt8):Int × Int × Int × Bool:=match ds.find? (fun f=>f.nm==s) with
 | some f=>(f.k,f.l,f.s,true)
 | none=>(0,0,0,false)
def flE (ns:List (List UInt8)):List FL→Nat→Int
 | [],_=>0
 | g::r,i=>if fileE g.nm g.fm g.ds g.ks≠0 then fileE g.nm g.fm g.ds g.ks else if (ns.take i).contains g.nm then 13 else flE ns r (i+1)
theorem flE_cons (ns:List (List UInt8)) (g:FL) (r:List FL) (i:Nat):flE ns (g::r) i=if fileE g.nm g.fm g.ds g.ks≠0 then fileE g.nm g.fm g.ds g.ks else if (ns.take i).contains g.nm then 13 else flE ns r (i+1):=rfl
def filesE (gs:List FL):Int:=if gs.length > 8 then 2 else flE (fnames gs) gs 0
section
variable {n:Nat} {nm fm:ByteArray}
theorem fieldIx_l (ds:List FD) (hd:ds.length≤1000) (s:List UInt8):∀ (d i m:Nat),i+d=ds.length→d < m→Q00.l n m (.z2 (ds.map FD.av) ds.length i (bs s))=some (ixs ((dnames ds).drop i) s i,bs s)
 | _,_,0,_,h=>absurd h (by omega)
 | 0,i,m+1,h,_=>by
  have hl:=dnames_length ds
  rw [Q00.at2]
  unfold Q00.r2
  simp (disch:=omega) only [Option.bind_some,Option.bind_none,cond_true,cond_false,Bool.not_true,Bool.not_false,List.length_map,Ws_length,bs_size,within_t,upto_t,wsucc,Int.toNat_natCast,at_mapN,Ws_getDN,cells_agg,cells_v,withCons_cons,withInt_mk,withStr_mk,withBool_mk,withSl_mk,cond_t,cond_f]
  rw [List.drop_of_length_le (by omega)]
  rfl
 | d+1,i,m+1,h,hm=>by
  have hi:i < ds.length:=by omega
  have hl:=dnames_length ds
  have ih:=fieldIx_l ds hd s d (i+1) m (by omega) (by omega)
  rw [Q00.at2]
  unfold Q00.r2
  simp (disch:=omega) only [Option.bind_some,Option.bind_none,cond_true,cond_false,Bool.not_true,Bool.not_false,List.length_map,Ws_length,bs_size,within_t,upto_t,wsucc,Int.toNat_natCast,at_mapN,Ws_getDN,cells_agg,cells_v,withCons_cons,withInt_mk,withStr_mk,withBool_mk,withSl_mk,cond_t,cond_f,FD.av,Q1h.F,Q1h.e,str_eq,ih]
  rw [List.drop_eq_getElem_cons (by omega:i < (dnames ds).length),ixs_cons,dnames_get hi,bif_ite,some_ite]
  by_cases h0:ds[i].nm=s <;> simp [h0]
theorem typeIn_eq (hn:1001≤n) (ds:List FD) (hd:ds.length≤1000) (s:List UInt8) (a3:List AV) (a4:Bool):Q1g.F n nm fm (ds.map FD.av) a3 a4 (bs s)=some (tyIn ds s):=by
 unfold Q1g.F Q1g.e Q00.F Q00.e tyIn
 have:=fieldIx_l (n:=n) ds hd s ds.length 0 n (by omega) (by omega)
 rw [List.drop_zero] at this
 have e0:((0:Nat):Int)=0:=rfl
 rw [e0] at this
 simp (disch:=omega) only [Option.bind_some,Option.bind_none,cond_true,cond_false,Bool.not_true,Bool.not_false,List.length_map,Ws_length,bs_size,within_t,upto_t,wsucc,Int.toNat_natCast,at_mapN,Ws_getDN,cells_agg,cells_v,withCons_cons,withInt_mk,withStr_mk,withBool_mk,withSl_mk,cond_t,cond_f,this]
 rcases ixs_find FD.nm s ds 0 with ⟨h1,h2⟩ | ⟨j,hj,h1,h2⟩
 ·rw [h1,show ixs (dnames ds) s 0=-1 from h2]
  rfl
 ·rw [h1,show ixs (dnames ds) s 0=((0+j:Nat):Int) from h2,Nat.zero_add]
  simp (disch:=omega) only [Option.bind_some,Option.bind_none,cond_true,cond_false,Bool.not_true,Bool.not_false,List.length_map,Ws_length,bs_size,within_t,upto_t,wsucc,Int.toNat_natCast,at_mapN,Ws_getDN,cells_agg,cells_v,withCons_cons,withInt_mk,withStr_mk,withBool_mk,withSl_mk,cond_t,cond_f,FD.av,List.drop_succ_cons,List.drop_zero]
theorem fileIx_l (gs:List FL) (hg:gs.length≤1000) (s:List UInt8):∀ (d i m:Nat),i+d=gs.length→d < m→Q03.l n m (.z2 (gs.map FL.av) gs.length i (bs s))=some (ixs ((fnames gs).drop i) s i,bs s)
 | _,_,0,_,h=>absurd h (by omega)
 | 0,i,m+1,h,_=>by
  have hl:=fnames_length gs
  rw [Q03.at2]
  unfold Q03.r2
  simp (disch:=omega) only [Option.bind_some,Option.bind_none,cond_true,cond_false,Bool.not_true,Bool.not_false,List.length_map,Ws_length,bs_size,within_t,upto_t,wsucc,Int.toNat_natCast,at_mapN,Ws_getDN,cells_agg,cells_v,withCons_cons,withInt_mk,withStr_mk,withBool_mk,withSl_mk,cond_t,cond_f]
  rw [List.drop_of_length_le (by omega)]
  rfl
 | d+1,i,m+1,h,hm=>by
  have hi:i < gs.length:=by omega
  have hl:=fnames_length gs
  have ih:=fileIx_l gs hg s d (i+1) m (by omega) (by omega)
  rw [Q03.at2]
  unfold Q03.r2
  simp (disch:=omega) only [Option.bind_some,Option.bind_none,cond_true,cond_false,Bool.not_true,Bool.not_false,List.length_map,Ws_length,bs_size,within_t,upto_t,wsucc,Int.toNat_natCast,at_mapN,Ws_getDN,cells_agg,cells_v,withCons_cons,withInt_mk,withStr_mk,withBool_mk,withSl_mk,cond_t,cond_f,FL.av,Q12.F,Q12.e,str_eq,ih]
  rw [List.drop_eq_getElem_cons (by omega:i < (fnames gs).length),ixs_cons,show (fnames gs)[i]=gs[i].nm by simp [fnames],bif_ite,some_ite]
  by_cases h0:gs[i].nm=s <;> simp [h0]
theorem fileIx_eq (hn:1001≤n) (gs:List FL) (hg:gs.length≤1000) (s:List UInt8):Q03.F n (gs.map FL.av) (bs s)=some (ixs (fnames gs) s 0,bs s):=by
 unfold Q03.F Q03.e
 have:=fileIx_l (n:=n) gs hg s gs.length 0 n (by omega) (by omega)
 rw [List.drop_zero] at this
 rw [List.length_map]
 exact this
theorem fileIy_l (gs:List FL) (hg:gs.length≤1000) (s:List UInt8) (y:ByteArray) (a3 a4:List AV) (b:Bool):∀ (d i m:Nat),i+d=gs.length→d < m→Q02.l n m (.z2 (gs.map FL.av) gs.length i (bs s) y a3 a4 b)=some (ixs ((fnames gs).drop i) s i,bs s,y,a3,a4,b)
 | _,_,0,_,h=>absurd h (by omega)
 | 0,i,m+1,h,_=>by
  have hl:=fnames_length gs
  rw [Q02.at2]
  unfold Q02.r2
  simp (disch:=omega) only [Option.bind_some,Option.bind_none,cond_true,cond_false,Bool.not_true,Bool.not_false,List.length_map,Ws_length,bs_size,within_t,upto_t,wsucc,Int.toNat_natCast,at_mapN,Ws_getDN,cells_agg,cells_v,withCons_cons,withInt_mk,withStr_mk,withBool_mk,withSl_mk,cond_t,cond_f]
  rw [List.drop_of_length_le (by omega)]
  rfl
 | d+1,i,m+1,h,hm=>by
  have hi:i < gs.length:=by omega
  have hl:=fnames_length gs
  have ih:=fileIy_l gs hg s y a3 a4 b d (i+1) m (by omega) (by omega)
  rw [Q02.at2]
  unfold Q02.r2
  simp (disch:=omega) only [Option.bind_some,Option.bind_none,cond_true,cond_false,Bool.not_true,Bool.not_false,List.length_map,Ws_length,bs_size,within_t,upto_t,wsucc,Int.toNat_natCast,at_mapN,Ws_getDN,cells_agg,cells_v,withCons_cons,withInt_mk,withStr_mk,withBool_mk,withSl_mk,cond_t,cond_f,FL.av,Q0l.F,Q0l.e,str_eq,ih]
  rw [List.drop_eq_getElem_cons (by omega:i < (fnames gs).length),ixs_cons,show (fnames gs)[i]=gs[i].nm by simp [fnames],bif_ite,some_ite]
  by_cases h0:gs[i].nm=s <;> simp [h0]
theorem fileIy_eq (hn:1001≤n) (gs:List FL) (hg:gs.length≤1000) (s:List UInt8) (y:ByteArray) (a3 a4:List AV) (b:Bool):Q01.F n (gs.map FL.av) (bs s) y a3 a4 b=some ((fnames gs).contains s,bs s,y,a3,a4,b):=by
 unfold Q01.F Q01.e Q02.F Q02.e
 have:=fileIy_l (n:=n) gs hg s y a3 a4 b gs.length 0 n (by omega) (by omega)
 rw [List.drop_zero] at this
 have e0:((0:Nat):Int)=0:=rfl
 rw [e0] at this
 simp (disch:=omega) only [Option.bind_some,Option.bind_none,cond_true,cond_false,Bool.not_true,Bool.not_false,List.length_map,Ws_length,bs_size,within_t,upto_t,wsucc,Int.toNat_natCast,at_mapN,Ws_getDN,cells_agg,cells_v,withCons_cons,withInt_mk,withStr_mk,withBool_mk,withSl_mk,cond_t,cond_f,this]
 rw [ixs_has]
theorem filesErr_l (hn:1001≤n) (gs:List FL) (hg:gs.length≤1000) (hf:∀ g∈gs,g.few):∀ (d i m:Nat),i+d=gs.length→d < m→Q0k.l n m (.z4 (gs.map FL.av) (gs.map FL.av) gs.length i)=some (flE (fnames gs) (gs.drop i) i)
 | _,_,0,_,h=>absurd h (by omega)
 | 0,i,m+1,h,_=>by
  rw [Q0k.at4]
  unfold Q0k.r4
  simp (disch:=omega) only [Option.bind_some,Option.bind_none,cond_true,cond_false,Bool.not_true,Bool.not_false,List.length_map,Ws_length,bs_size,within_t,upto_t,wsucc,Int.toNat_natCast,at_mapN,Ws_getDN,cells_agg,cells_v,withCons_cons,withInt_mk,withStr_mk,withBool_mk,withSl_mk,cond_t,cond_f]
  rw [List.drop_of_length_le (by omega)]
  rfl
 | d+1,i,m+1,h,hm=>by
  have hi:i < gs.length:=by omega
  have hfe:=hf gs[i] (List.getElem_mem hi)
  have ih:=filesErr_l hn gs hg hf d (i+1) m (by omega) (by omega)
  rw [Q0k.at4]
  unfold Q0k.r4
  have et:(((gs.map FL.av).take i).drop 0)=(gs.take i).map FL.av:=by simp [List.map_take]
  simp (disch:=omega) only [Option.bind_some,Option.bind_none,cond_true,cond_false,Bool.not_true,Bool.not_false,List.length_map,Ws_length,bs_size,within_t,upto_t,wsucc,Int.toNat_natCast,at_mapN,Ws_getDN,cells_agg,cells_v,withCons_cons,withInt_mk,withStr_mk,withBool_mk,withSl_mk,cond_t,cond_f,FL.av,et]
  rw [fileIy_eq hn _ (by rw [List.length_take]; omega)]
  simp (disch:=omega) only [Option.bind_some,Option.bind_none,cond_true,cond_false,Bool.not_true,Bool.not_false,List.length_map,Ws_length,bs_size,within_t,upto_t,wsucc,Int.toNat_natCast,at_mapN,Ws_getDN,cells_agg,cells_v,withCons_cons,withInt_mk,withStr_mk,withBool_mk,withSl_mk,cond_t,cond_f]
  rw [fileErr_eq hn _ _ _ hfe.1 _ hfe.2]
  simp (disch:=omega) only [Option.bind_some,Option.bind_none,cond_true,cond_false,Bool.not_true,Bool.not_false,List.length_map,Ws_length,bs_size,within_t,upto_t,wsucc,Int.toNat_natCast,at_mapN,Ws_getDN,cells_agg,cells_v,withCons_cons,withInt_mk,withStr_mk,withBool_mk,withSl_mk,cond_t,cond_f,cond_eq]
  rw [first2 hn,ih]
  simp (disch:=omega) only [Option.bind_some,Option.bind_none,cond_true,cond_false,Bool.not_true,Bool.not_false,List.length_map,Ws_length,bs_size,within_t,upto_t,wsucc,Int.toNat_natCast,at_mapN,Ws_getDN,cells_agg,cells_v,withCons_cons,withInt_mk,withStr_mk,withBool_mk,withSl_mk,cond_t,cond_f]
  rw [bif_ne,List.drop_eq_getElem_cons hi,flE_cons,show fnames (gs.take i)=(fnames gs).take i by simp [fnames,List.map_take]]
  by_cases h1:fileE gs[i].nm gs[i].fm gs[i].ds gs[i].ks=0
  ·cases h2:((fnames gs).take i).contains gs[i].nm <;> simp [h1,h2]
  ·simp [h1]
theorem filesErr_eq (hn:1001≤n) (gs:List FL) (hg:gs.length≤1000) (hf:∀ g∈gs,g.few):Q0k.F n (gs.map FL.av)=some (filesE gs):=by
 unfold Q0k.F Q0k.e filesE
 by_cases h:gs.length > 8
 ·simp (disch:=omega) only [Option.bind_some,Option.bind_none,cond_true,cond_false,Bool.not_true,Bool.not_false,List.length_map,Ws_length,bs_size,within_t,upto_t,wsucc,Int.toNat_natCast,at_mapN,Ws_getDN,cells_agg,cells_v,withCons_cons,withInt_mk,withStr_mk,withBool_mk,withSl_mk,cond_t,cond_f]
  rw [if_pos h]
 ·simp (disch:=omega) only [Option.bind_some,Option.bind_none,cond_true,cond_false,Bool.not_true,Bool.not_false,List.length_map,Ws_length,bs_size,within_t,upto_t,wsucc,Int.toNat_natCast,at_mapN,Ws_getDN,cells_agg,cells_v,withCons_cons,withInt_mk,withStr_mk,withBool_mk,withSl_mk,cond_t,cond_f]
  rw [if_neg h]
  have:=filesErr_l hn gs hg hf gs.length 0 n (by omega) (by omega)
  rw [List.drop_zero] at this
  exact this
theorem npower_l (k:Nat) (hk:k≤18):∀ (d i m:Nat),i+d=k→d < m→Q42.l n m (.z3 (((10 ^ i:Nat):Int)) k i)=some (((10 ^ k:Nat):Int))
 | _,_,0,_,h=>absurd h (by omega)
 | 0,i,m+1,h,_=>by
  rw [Q42.at3]
  unfold Q42.r3
  simp (disch:=omega) only [Option.bind_some,Option.bind_none,cond_true,cond_false,Bool.not_true,Bool.not_false,List.length_map,Ws_length,bs_size,within_t,upto_t,wsucc,Int.toNat_natCast,at_mapN,Ws_getDN,cells_agg,cells_v,withCons_cons,withInt_mk,withStr_mk,withBool_mk,withSl_mk,cond_t,cond_f]
  rw [show i=k by omega]
 | d+1,i,m+1,h,hm=>by
  have ih:=npower_l k hk d (i+1) m (by omega) (by omega)
  have hp:10 ^ (i+1)≤10 ^ 18:=Nat.pow_le_pow_right (by omega) (by omega)
  have h18:(10:Nat) ^ 18=1000000000000000000:=rfl
  have hs:10 ^ (i+1)=10 ^ i*10:=Nat.pow_succ ..
  have e1:((10 ^ i:Nat):Int)*10=((10 ^ (i+1):Nat):Int):=by rw [hs]; omega
  rw [Q42.at3]
  unfold Q42.r3
  rw [cond_t (by omega),wsucc (by omega),e1,w64 (by omega) (by omega)]
  exact ih
theorem npower_eq (hn:1001≤n) (k:Nat) (hk:k≤18):Q42.F n k=some (((10 ^ k:Nat):Int)):=by
 unfold Q42.F Q42.e
 have:=npower_l (n:=n) k hk k 0 n (by omega) (by omega)
 rw [show (if (18:Int) < (k:Int) then 18 else (k:Int))=(k:Int) by rw [if_neg (by omega)]]
 exact this
def vE (k l:Int) (N:Int) (s:List UInt8):Int:=
 if k=0 then (if N≠0 then 17 else if (s.length:Int) > l then 18 else 0)
 else if s≠[] then 17 else if ¬ (-(10 ^ l.toNat - 1)≤N∧N≤10 ^ l.toNat - 1) then 19 else 0
theorem numT {k l s:Int} (h:chkT k l s=0) (h4:k≠4) (h0:k≠0):∃ j:Nat,l=j∧j≤15:=by
 have:=chkT_cases h
 exact ⟨l.toNat,by omega,by omega⟩
theorem pow15 {j:Nat} (h:j≤15):(10:Int) ^ j=((10 ^ j:Nat):Int)∧10 ^ j≤1000000000000000∧1≤10 ^ j:=
 ⟨by simp,Nat.le_trans (Nat.pow_le_pow_right (by omega) h) (by decide),Nat.pos_of_ne_zero (by simp)⟩
theorem valueErr_eq (hn:1001≤n) {k l t:Int} (N:Int) (s:List UInt8) (h:chkT k l t=0) (h4:k≠4):Q1k.F n N (bs s) k l t=some (vE k l N s):=by
 unfold Q1k.F Q1k.e vE
 by_cases h0:k=0
 ·simp (disch:=omega) only [Option.bind_some,Option.bind_none,cond_true,cond_false,Bool.not_true,Bool.not_false,List.length_map,Ws_length,bs_size,within_t,upto_t,wsucc,Int.toNat_natCast,at_mapN,Ws_getDN,cells_agg,cells_v,withCons_cons,withInt_mk,withStr_mk,withBool_mk,withSl_mk,cond_t,cond_f,beq_int,cond_eq]
  rw [first2 hn,if_pos h0]
  simp (disch:=omega) only [Option.bind_some,Option.bind_none,cond_true,cond_false,Bool.not_true,Bool.not_false,List.length_map,Ws_length,bs_size,within_t,upto_t,wsucc,Int.toNat_natCast,at_mapN,Ws_getDN,cells_agg,cells_v,withCons_cons,withInt_mk,withStr_mk,withBool_mk,withSl_mk,cond_t,cond_f]
  by_cases h1:N=0
  ·simp [h1]
  ·have:(N != 0)=true:=by simp [h1]
   simp [h1,this]
 ·obtain ⟨j,rfl,hj⟩:=numT h h4 h0
  obtain ⟨p1,p2,p3⟩:=pow15 hj
  simp (disch:=omega) only [Option.bind_some,Option.bind_none,cond_true,cond_false,Bool.not_true,Bool.not_false,List.length_map,Ws_length,bs_size,within_t,upto_t,wsucc,Int.toNat_natCast,at_mapN,Ws_getDN,cells_agg,cells_v,withCons_cons,withInt_mk,withStr_mk,withBool_mk,withSl_mk,cond_t,cond_f,beq_int,cond_eq]
  rw [if_neg h0,empty_eq]
  unfold Q3u.F Q3u.e
  rw [check_eq hn,Option.bind_some,ncond_eq,Option.bind_some,h,nfirst2 hn,Option.bind_some,bif_ne]
  have e4:(k==4)=false:=by rw [beq_int]; simpa using h4
  rw [e4,if_neg (by simp),beq_int,cond_f h0,npower_eq hn j (by omega)]
  simp (disch:=omega) only [Option.bind_some,Option.bind_none,cond_true,cond_false,Bool.not_true,Bool.not_false,List.length_map,Ws_length,bs_size,within_t,upto_t,wsucc,Int.toNat_natCast,at_mapN,Ws_getDN,cells_agg,cells_v,withCons_cons,withInt_mk,withStr_mk,withBool_mk,withSl_mk,cond_t,cond_f,ncond_eq]
  rw [w64 (x:=((10 ^ j:Nat):Int) - 1) (by omega) (by omega),w64 (x:=0 - (((10 ^ j:Nat):Int) - 1)) (by omega) (by omega),in_eq]
  simp (disch:=omega) only [Option.bind_some,Option.bind_none,cond_true,cond_false,Bool.not_true,Bool.not_false,List.length_map,Ws_length,bs_size,within_t,upto_t,wsucc,Int.toNat_natCast,at_mapN,Ws_getDN,cells_agg,cells_v,withCons_cons,withInt_mk,withStr_mk,withBool_mk,withSl_mk,cond_t,cond_f,ncond_eq]
  rw [nfirst2 hn,Option.bind_some,Option.bind_some,first2 hn,Option.bind_some]
  simp only [Int.toNat_natCast,p1,empty_eq]
  by_cases h1:s=[]
  ·simp only [h1,decide_true,Bool.not_true,Bool.false_eq_true,if_false,ne_eq,not_true_eq_false]
   have:(0 - (((10 ^ j:Nat):Int) - 1)≤N∧N≤((10 ^ j:Nat):Int) - 1)↔(-(((10 ^ j:Nat):Int) - 1)≤N∧N≤((10 ^ j:Nat):Int) - 1):=by omega
   rw [show decide (0 - (((10 ^ j:Nat):Int) - 1)≤N∧N≤((10 ^ j:Nat):Int) - 1)=decide (-(((10 ^ j:Nat):Int) - 1)≤N∧N≤((10 ^ j:Nat):Int) - 1) from decide_eq_decide.2 this]
   by_cases h2 : -(((10 ^ j:Nat):Int) - 1)≤N∧N≤((10 ^ j:Nat):Int) - 1
   ·simp only [h2,and_self,decide_true,Bool.not_true,Bool.false_eq_true,if_false,not_true_eq_false]
   ·simp only [h2,decide_false,Bool.not_false,if_true,not_false_eq_true]
  ·simp [h1]
end
end Go.Proofs.YtmpglmcjoelciaaGreatDoor.Ev
namespace Go.Proofs.YtmpglmcjoelciaaGreatDoor.Ev
open Go Go.Proofs Go.Proofs.Ev
set_option linter.unusedVariables false
set_option linter.unusedSimpArgs false
def baseOf (gs:List FL) (w:List UInt8):FL:=(gs.find? (fun g=>g.nm==w)).getD default
def bAt (B:List FL) (i:Int):FL:=B.getD i.toNat default
def mkF (B:List FL) (f:LF):FD:=⟨f.nm,(tyIn (bAt B f.b).ds f.fd).1,(tyIn (bAt B f.b).ds f.fd).2.1,(tyIn (bAt B f.b).ds f.fd).2.2.1⟩
def ovC (F:List FD):List CN→Int
 | []=>0
 | c::r=>if vE (tyIn F c.fd).1 (tyIn F c.fd).2.1 c.n c.s≠0 then vE (tyIn F c.fd).1 (tyIn F c.fd).2.1 c.n c.s else ovC F r
def ovR (F:List FD):List RL→Nat→Int × Int
 | [],_=>(0,if szs F > 200 then 18 else 0)
 | r::rs,i=>if ovC F r.cs≠0 then ((i:Int),ovC F r.cs) else ovR F rs (i+1)
def pE (B:List FL) (j:JP):Int:=
 if (tyIn (bAt B j.fr).ds j.lf).2.2.2=false then 11 else if (tyIn (bAt B j.b).ds j.rt).2.2.2=false then 11 else if tyIn (bAt B j.fr).ds j.lf≠tyIn (bAt B j.b).ds j.rt then 17 else 0
def ovJ (B:List FL) (F:List FD) (rs:List RL):List JP→Nat→Int × Int
 | [],_=>ovR F rs 0
 | j::r,i=>if pE B j≠0 then ((i:Int),pE B j) else ovJ B F rs r (i+1)
def ovF (B:List FL) (F:List FD) (js:List JP) (rs:List RL):List LF→Nat→Int × Int
 | [],_=>ovJ B F rs js 0
 | f::r,i=>if (tyIn (bAt B f.b).ds f.fd).2.2.2=false then ((i:Int),11) else ovF B F js rs r (i+1)
def ovB (gs:List FL) (B:List FL) (F:List FD) (fs:List LF) (js:List JP) (rs:List RL):List (List UInt8)→Nat→Int × Int
 | [],_=>ovF B F js rs fs 0
 | w::r,i=>if gs.find? (fun g=>g.nm==w)=none then ((i:Int),11) else ovB gs B F fs js rs r (i+1)
def overT (gs:List FL) (ws:List (List UInt8)) (fs:List LF) (js:List JP) (rs:List RL):Int × Int:=
 if filesE gs≠0 then (0,filesE gs) else ovB gs (ws.map (baseOf gs)) (fs.map (mkF (ws.map (baseOf gs)))) fs js rs ws 0
theorem ovC_cons (F:List FD) (c:CN) (r:List CN):ovC F (c::r)=if vE (tyIn F c.fd).1 (tyIn F c.fd).2.1 c.n c.s≠0 then vE (tyIn F c.fd).1 (tyIn F c.fd).2.1 c.n c.s else ovC F r:=rfl
theorem ovR_cons (F:List FD) (r:RL) (rs:List RL) (i:Nat):ovR F (r::rs) i=if ovC F r.cs≠0 then ((i:Int),ovC F r.cs) else ovR F rs (i+1):=rfl
theorem ovJ_cons (B:List FL) (F:List FD) (rs:List RL) (j:JP) (r:List JP) (i:Nat):ovJ B F rs (j::r) i=if pE B j≠0 then ((i:Int),pE B j) else ovJ B F rs r (i+1):=rfl
theorem ovF_cons (B:List FL) (F:List FD) (js:List JP) (rs:List RL) (f:LF) (r:List LF) (i:Nat):ovF B F js rs (f::r) i=if (tyIn (bAt B f.b).ds f.fd).2.2.2=false then ((i:Int),11) else ovF B F js rs r (i+1):=rfl
theorem ovB_cons (gs:List FL) (B:List FL) (F:List FD) (fs:List LF) (js:List JP) (rs:List RL) (w:List UInt8) (r:List (List UInt8)) (i:Nat):ovB gs B F fs js rs (w::r) i=if gs.find? (fun g=>g.nm==w)=none then ((i:Int),11) else ovB gs B F fs js rs r (i+1):=rfl
def Ov (fm:ByteArray) (F:List FD) (p:Int × Int) (x:Option (ByteArray × List AV × Int × Int)):Prop:=∃ a b,x=some (a,b,p.1,p.2)∧(p.2=0→a=fm∧b=F.map FD.av)
theorem Ov.bad {fm:ByteArray} {F:List FD} {i e:Int} (h:e≠0):Ov fm F (i,e) (some (⟨#[]⟩,[],i,e)):=⟨_,_,rfl,fun h'=>absurd h' h⟩
section
variable {n:Nat} {nm fm:ByteArray}
structure OkF (F:List FD) (rs:List RL):Prop where
 len:F.length≤1000
 ok:okD F
 cs:∀ r∈rs,r.cs.length≤1000∧∀ c∈r.cs,chkT (tyIn F c.fd).1 (tyIn F c.fd).2.1 (tyIn F c.fd).2.2.1=0∧(tyIn F c.fd).1≠4
theorem over30 (hn:1001≤n) (F:List FD) (rs:List RL) (hr:rs.length≤1000) (hF:OkF F rs) (x:ByteArray):∀ (d i m:Nat),i+d=rs.length→1010*d+1≤m→
  Ov fm F (ovR F (rs.drop i) i) (Q11.l n m (.z30 (rs.map RL.av) rs.length i x fm (F.map FD.av)))
 | 0,i,m,h,hm=>by
  obtain ⟨m,rfl⟩ : ∃ q,m=q+1:=⟨m - 1,by omega⟩
  rw [Q11.at30]
  unfold Q11.r30
  simp (disch:=omega) only [Option.bind_some,Option.bind_none,cond_true,cond_false,Bool.not_true,Bool.not_false,List.length_map,Ws_length,bs_size,within_t,upto_t,wsucc,Int.toNat_natCast,at_mapN,Ws_getDN,cells_agg,cells_v,withCons_cons,withInt_mk,withStr_mk,withBool_mk,withSl_mk,cond_t,cond_f]
  rw [List.drop_of_length_le (show rs.length≤i by omega),dsize_eq hn F hF.len hF.ok]
  simp (disch:=omega) only [Option.bind_some,Option.bind_none,cond_true,cond_false,Bool.not_true,Bool.not_false,List.length_map,Ws_length,bs_size,within_t,upto_t,wsucc,Int.toNat_natCast,at_mapN,Ws_getDN,cells_agg,cells_v,withCons_cons,withInt_mk,withStr_mk,withBool_mk,withSl_mk,cond_t,cond_f,cond_eq]
  refine ⟨_,_,?_,fun _=>⟨rfl,rfl⟩⟩
  simp only [ovR,decide_eq_true_eq]
 | d+1,i,m,h,hm=>by
  obtain ⟨m,rfl⟩ : ∃ q,m=q+1:=⟨m - 1,by omega⟩
  have hi:i < rs.length:=by omega
  obtain ⟨hcl,hc⟩:=hF.cs rs[i] (List.getElem_mem hi)
  have inner:∀ (e j q:Nat),j+e=rs[i].cs.length→1010*d+2+e≤q→
    Ov fm F (if ovC F (rs[i].cs.drop j)≠0 then ((i:Int),ovC F (rs[i].cs.drop j)) else ovR F (rs.drop (i+1)) (i+1)) (Q11.l n q (.z33 i (rs.map RL.av) rs.length i (rs[i].cs.map CN.av) rs[i].cs.length j x fm (F.map FD.av))):=by
   intro e
   induction e with
   | zero=>
    intro j q hj hq
    obtain ⟨q,rfl⟩ : ∃ r,q=r+1:=⟨q - 1,by omega⟩
    rw [Q11.at33]
    unfold Q11.r33
    simp (disch:=omega) only [Option.bind_some,Option.bind_none,cond_true,cond_false,Bool.not_true,Bool.not_false,List.length_map,Ws_length,bs_size,within_t,upto_t,wsucc,Int.toNat_natCast,at_mapN,Ws_getDN,cells_agg,cells_v,withCons_cons,withInt_mk,withStr_mk,withBool_mk,withSl_mk,cond_t,cond_f]
    rw [List.drop_of_length_le (show rs[i].cs.length≤j by omega),if_neg (by simp [ovC])]
    exact over30 hn F rs hr hF x d (i+1) q (by omega) (by omega)
   | succ e ih=>
    intro j q hj hq
    obtain ⟨q,rfl⟩ : ∃ r,q=r+1:=⟨q - 1,by omega⟩
    have hjl:j < rs[i].cs.length:=by omega
    obtain ⟨h1,h2⟩:=hc rs[i].cs[j] (List.getElem_mem hjl)
    have ih':=ih (j+1) q (by omega) (by omega)
    rw [Q11.at33]
    unfold Q11.r33
    simp (disch:=omega) only [Option.bind_some,Option.bind_none,cond_true,cond_false,Bool.not_true,Bool.not_false,List.length_map,Ws_length,bs_size,within_t,upto_t,wsucc,Int.toNat_natCast,at_mapN,Ws_getDN,cells_agg,cells_v,withCons_cons,withInt_mk,withStr_mk,withBool_mk,withSl_mk,cond_t,cond_f,CN.av]
    rw [typeIn_eq hn F hF.len]
    simp (disch:=omega) only [Option.bind_some,Option.bind_none,cond_true,cond_false,Bool.not_true,Bool.not_false,List.length_map,Ws_length,bs_size,within_t,upto_t,wsucc,Int.toNat_natCast,at_mapN,Ws_getDN,cells_agg,cells_v,withCons_cons,withInt_mk,withStr_mk,withBool_mk,withSl_mk,cond_t,cond_f]
    rw [valueErr_eq hn _ _ h1 h2]
    simp (disch:=omega) only [Option.bind_some,Option.bind_none,cond_true,cond_false,Bool.not_true,Bool.not_false,List.length_map,Ws_length,bs_size,within_t,upto_t,wsucc,Int.toNat_natCast,at_mapN,Ws_getDN,cells_agg,cells_v,withCons_cons,withInt_mk,withStr_mk,withBool_mk,withSl_mk,cond_t,cond_f]
    rw [bif_ne,List.drop_eq_getElem_cons hjl,ovC_cons]
    by_cases h0:vE (tyIn F rs[i].cs[j].fd).1 (tyIn F rs[i].cs[j].fd).2.1 rs[i].cs[j].n rs[i].cs[j].s=0
    ·simp only [h0,ne_eq,not_true_eq_false,if_false]
     exact ih'
    ·simp only [h0,ne_eq,not_false_eq_true,if_true]
     exact Ov.bad h0
  have hin:=inner rs[i].cs.length 0 m (by omega) (by omega)
  rw [List.drop_zero] at hin
  rw [Q11.at30]
  unfold Q11.r30
  simp (disch:=omega) only [Option.bind_some,Option.bind_none,cond_true,cond_false,Bool.not_true,Bool.not_false,List.length_map,Ws_length,bs_size,within_t,upto_t,wsucc,Int.toNat_natCast,at_mapN,Ws_getDN,cells_agg,cells_v,withCons_cons,withInt_mk,withStr_mk,withBool_mk,withSl_mk,cond_t,cond_f,RL.av]
  rw [List.drop_eq_getElem_cons hi,ovR_cons]
  exact hin
theorem bAt_get {B:List FL} {b:Int} (h0:0≤b) (h1:b < B.length):∃ j:Nat,∃ h:j < B.length,b=j∧bAt B b=B[j]:=by
 refine ⟨b.toNat,by omega,by omega,?_⟩
 unfold bAt
 rw [List.getD_eq_getElem?_getD,List.getElem?_eq_getElem (by omega)]
 rfl
theorem pairErr_eq (hn:1001≤n) (B:List FL) (hB:∀ g∈B,g.few) (j:JP) (h0:0≤j.fr∧j.fr < B.length) (h1:0≤j.b∧j.b < B.length):Q13.F n j.fr (bs j.lf) j.b (bs j.rt) (B.map FL.av)=some (pE B j):=by
 obtain ⟨x,hx,e1,e2⟩:=bAt_get h0.1 h0.2
 obtain ⟨y,hy,e3,e4⟩:=bAt_get h1.1 h1.2
 have f1:=hB _ (List.getElem_mem hx)
 have f2:=hB _ (List.getElem_mem hy)
 unfold Q13.F Q13.e pE
 rw [e1,e3] at *
 rw [e2,e4]
 simp (disch:=omega) only [Option.bind_some,Option.bind_none,cond_true,cond_false,Bool.not_true,Bool.not_false,List.length_map,Ws_length,bs_size,within_t,upto_t,wsucc,Int.toNat_natCast,at_mapN,Ws_getDN,cells_agg,cells_v,withCons_cons,withInt_mk,withStr_mk,withBool_mk,withSl_mk,cond_t,cond_f,FL.av]
 rw [typeIn_eq hn _ f1.1]
 simp (disch:=omega) only [Option.bind_some,Option.bind_none,cond_true,cond_false,Bool.not_true,Bool.not_false,List.length_map,Ws_length,bs_size,within_t,upto_t,wsucc,Int.toNat_natCast,at_mapN,Ws_getDN,cells_agg,cells_v,withCons_cons,withInt_mk,withStr_mk,withBool_mk,withSl_mk,cond_t,cond_f,FL.av]
 rw [typeIn_eq hn _ f2.1]
 simp (disch:=omega) only [Option.bind_some,Option.bind_none,cond_true,cond_false,Bool.not_true,Bool.not_false,List.length_map,Ws_length,bs_size,within_t,upto_t,wsucc,Int.toNat_natCast,at_mapN,Ws_getDN,cells_agg,cells_v,withCons_cons,withInt_mk,withStr_mk,withBool_mk,withSl_mk,cond_t,cond_f,cond_eq]
 obtain ⟨a1,a2,a3,a4⟩:=tyIn B[x].ds j.lf
 obtain ⟨b1,b2,b3,b4⟩:=tyIn B[y].ds j.rt
 have hfz:=first_eq (n:=n) [(if (!a4)=true then 11 else 0),(if (!b4)=true then 11 else 0),(if (!((a1==b1)&&((a2==b2)&&((a3==b3)&&true))))=true then 17 else 0)] (by simp) hn
 show (Q0m.F n ([(if (!a4)=true then 11 else 0),(if (!b4)=true then 11 else 0),(if (!((a1==b1)&&((a2==b2)&&((a3==b3)&&true))))=true then 17 else 0)].map vi)).bind _=_
 rw [hfz,Option.bind_some]
 cases a4
 ·simp [fz]
 ·cases b4
  ·simp [fz]
  ·by_cases c1:a1=b1 <;> by_cases c2:a2=b2 <;> by_cases c3:a3=b3 <;> simp [fz,c1,c2,c3]
variable {ws:List (List UInt8)} {fs:List LF} {js:List JP} {ks:List KF} {uq:Bool} {rs:List RL}
theorem over23 (hn:1001≤n) (B:List FL) (hB:∀ g∈B,g.few) (F:List FD) (hr:rs.length≤100) (hF:OkF F rs) (hj:js.length≤1000) (hjs:∀ j∈js,(0≤j.fr∧j.fr < B.length)∧(0≤j.b∧j.b < B.length)) (x:ByteArray) (a5:List AV):∀ (d i m:Nat),i+d=js.length→d+101002≤m→
  Ov fm F (ovJ B F rs (js.drop i) i) (Q11.l n m (.z23 (js.map JP.av) js.length i nm fm a5 (fs.map LF.av) (js.map JP.av) (ks.map KF.av) uq (rs.map RL.av) x (B.map FL.av) fm (F.map FD.av)))
 | 0,i,m,h,hm=>by
  obtain ⟨m,rfl⟩ : ∃ q,m=q+1:=⟨m - 1,by omega⟩
  rw [Q11.at23]
  unfold Q11.r23
  simp (disch:=omega) only [Option.bind_some,Option.bind_none,cond_true,cond_false,Bool.not_true,Bool.not_false,List.length_map,Ws_length,bs_size,within_t,upto_t,wsucc,Int.toNat_natCast,at_mapN,Ws_getDN,cells_agg,cells_v,withCons_cons,withInt_mk,withStr_mk,withBool_mk,withSl_mk,cond_t,cond_f]
  rw [List.drop_of_length_le (show js.length≤i by omega)]
  have:=over30 (fm:=fm) hn F rs (by omega) hF x rs.length 0 m (by omega) (by omega)
  rw [List.drop_zero] at this
  exact this
 | d+1,i,m,h,hm=>by
  obtain ⟨m,rfl⟩ : ∃ q,m=q+1:=⟨m - 1,by omega⟩
  have hi:i < js.length:=by omega
  have ih:=over23 hn B hB F hr hF hj hjs x a5 d (i+1) m (by omega) (by omega)
  obtain ⟨k1,k2⟩:=hjs js[i] (List.getElem_mem hi)
  rw [Q11.at23]
  unfold Q11.r23
  simp (disch:=omega) only [Option.bind_some,Option.bind_none,cond_true,cond_false,Bool.not_true,Bool.not_false,List.length_map,Ws_length,bs_size,within_t,upto_t,wsucc,Int.toNat_natCast,at_mapN,Ws_getDN,cells_agg,cells_v,withCons_cons,withInt_mk,withStr_mk,withBool_mk,withSl_mk,cond_t,cond_f,JP.av]
  rw [pairErr_eq hn B hB js[i] k1 k2]
  simp (disch:=omega) only [Option.bind_some,Option.bind_none,cond_true,cond_false,Bool.not_true,Bool.not_false,List.length_map,Ws_length,bs_size,within_t,upto_t,wsucc,Int.toNat_natCast,at_mapN,Ws_getDN,cells_agg,cells_v,withCons_cons,withInt_mk,withStr_mk,withBool_mk,withSl_mk,cond_t,cond_f]
  rw [bif_ne,List.drop_eq_getElem_cons hi,ovJ_cons]
  by_cases h0:pE B js[i]=0
  ·simp only [h0,ne_eq,not_true_eq_false,if_false]
   exact ih
  ·simp only [h0,ne_eq,not_false_eq_true,if_true]
   exact Ov.bad h0
theorem over15 (hn:1001≤n) (B:List FL) (hB:∀ g∈B,g.few) (hr:rs.length≤100) (hj:js.length≤1000) (hjs:∀ j∈js,(0≤j.fr∧j.fr < B.length)∧(0≤j.b∧j.b < B.length)) (hf:fs.length≤1000) (hfs:∀ f∈fs,0≤f.b∧f.b < B.length)
  (hF:(∀ f∈fs,(tyIn (bAt B f.b).ds f.fd).2.2.2=true)→OkF (fs.map (mkF B)) rs) (x:ByteArray) (a5:List AV):∀ (d i m:Nat),i+d=fs.length→d+103004≤m→(∀ f∈fs.take i,(tyIn (bAt B f.b).ds f.fd).2.2.2=true)→
  Ov fm (fs.map (mkF B)) (ovF B (fs.map (mkF B)) js rs (fs.drop i) i) (Q11.l n m (.z15 (fs.map LF.av) fs.length i nm fm a5 (fs.map LF.av) (js.map JP.av) (ks.map KF.av) uq (rs.map RL.av) x (B.map FL.av) fm (((fs.map (mkF B)).take i).map FD.av)))
 | 0,i,m,h,hm,hp=>by
  obtain ⟨m,rfl⟩ : ∃ q,m=q+1:=⟨m - 1,by omega⟩
  rw [List.take_of_length_le (by omega)] at hp
  rw [Q11.at15]
  unfold Q11.r15
  simp (disch:=omega) only [Option.bind_some,Option.bind_none,cond_true,cond_false,Bool.not_true,Bool.not_false,List.length_map,Ws_length,bs_size,within_t,upto_t,wsucc,Int.toNat_natCast,at_mapN,Ws_getDN,cells_agg,cells_v,withCons_cons,withInt_mk,withStr_mk,withBool_mk,withSl_mk,cond_t,cond_f]
  rw [List.drop_of_length_le (show fs.length≤i by omega),List.take_of_length_le (by simp; omega)]
  have:=over23 (n:=n) (nm:=nm) (fm:=fm) (fs:=fs) (ks:=ks) (uq:=uq) hn B hB (fs.map (mkF B)) hr (hF hp) hj hjs x a5 js.length 0 m (by omega) (by omega)
  rw [List.drop_zero] at this
  exact this
 | d+1,i,m,h,hm,hp=>by
  obtain ⟨m,rfl⟩ : ∃ q,m=q+1:=⟨m - 1,by omega⟩
  have hi:i < fs.length:=by omega
  have hmost:most=1000000000:=rfl
  obtain ⟨k1,k2⟩:=hfs fs[i] (List.getElem_mem hi)
  have hb:fs[i].b.toNat < B.length:=by omega
  have e2:bAt B fs[i].b=B[fs[i].b.toNat]:=by
   unfold bAt
   rw [List.getD_eq_getElem?_getD,List.getElem?_eq_getElem hb]
   rfl
  have f1:=hB _ (List.getElem_mem hb)
  have hd:(decide (0≤fs[i].b)&&decide (fs[i].b < (B.length:Int)))=true:=by simp [k1,k2]
  rw [Q11.at15]
  unfold Q11.r15
  simp (disch:=omega) only [Option.bind_some,Option.bind_none,cond_true,cond_false,Bool.not_true,Bool.not_false,List.length_map,Ws_length,bs_size,within_t,upto_t,wsucc,Int.toNat_natCast,at_mapN,Ws_getDN,cells_agg,cells_v,withCons_cons,withInt_mk,withStr_mk,withBool_mk,withSl_mk,cond_t,cond_f,LF.av]
  rw [hd,cond_true]
  simp (disch:=omega) only [Option.bind_some,Option.bind_none,cond_true,cond_false,Bool.not_true,Bool.not_false,List.length_map,Ws_length,bs_size,within_t,upto_t,wsucc,Int.toNat_natCast,at_mapN,Ws_getDN,cells_agg,cells_v,withCons_cons,withInt_mk,withStr_mk,withBool_mk,withSl_mk,cond_t,cond_f,FL.av]
  rw [typeIn_eq hn _ f1.1]
  simp (disch:=omega) only [Option.bind_some,Option.bind_none,cond_true,cond_false,Bool.not_true,Bool.not_false,List.length_map,Ws_length,bs_size,within_t,upto_t,wsucc,Int.toNat_natCast,at_mapN,Ws_getDN,cells_agg,cells_v,withCons_cons,withInt_mk,withStr_mk,withBool_mk,withSl_mk,cond_t,cond_f,List.length_take,List.length_singleton]
  rw [List.drop_eq_getElem_cons hi,ovF_cons,e2]
  cases h0:(tyIn B[fs[i].b.toNat].ds fs[i].fd).2.2.2
  ·rw [Bool.not_false,cond_true,if_pos rfl]
   exact Ov.bad (by decide)
  ·rw [Bool.not_true,cond_false,if_neg (by simp)]
   have e:((fs.map (mkF B)).take i).map FD.av++[AV.agg [vs (bs fs[i].nm),vi (tyIn B[fs[i].b.toNat].ds fs[i].fd).1,vi (tyIn B[fs[i].b.toNat].ds fs[i].fd).2.1,vi (tyIn B[fs[i].b.toNat].ds fs[i].fd).2.2.1]]=((fs.map (mkF B)).take (i+1)).map FD.av:=by
    rw [List.take_succ_eq_append_getElem (by simpa using hi),List.map_append,List.getElem_map]
    simp only [mkF,FD.av,e2,List.map_cons,List.map_nil]
   rw [e]
   refine over15 hn B hB hr hj hjs hf hfs hF x a5 d (i+1) m (by omega) (by omega) ?_
   intro f hfm
   rw [List.take_succ_eq_append_getElem hi,List.mem_append,List.mem_singleton] at hfm
   rcases hfm with hfm | rfl
   ·exact hp f hfm
   ·rw [e2]; exact h0
end
end Go.Proofs.YtmpglmcjoelciaaGreatDoor.Ev
namespace Go.Proofs.YtmpglmcjoelciaaGreatDoor.Ev
open Go Go.Proofs Go.Proofs.Ev
set_option linter.unusedVariables false
set_option linter.unusedSimpArgs false
theorem tyIn_found {ds:List FD} {s:List UInt8} (h:(tyIn ds s).2.2.2=true):∃ f∈ds,f.nm=s∧tyIn ds s=(f.k,f.l,f.s,true):=by
 unfold tyIn at h ⊢
 cases h1:ds.find? (fun f=>f.nm==s) with
 | none=>rw [h1] at h; cases h
 | some f=>exact ⟨f,List.mem_of_find?_eq_some h1,by simpa using List.find?_some h1,rfl⟩
theorem tyIn_of {ds:List FD} {s:List UInt8} (h:(dnames ds).contains s=true):(tyIn ds s).2.2.2=true:=by
 have hm:s∈dnames ds:=by simpa using h
 obtain ⟨f,h1,h2⟩:=List.mem_map.1 hm
 unfold tyIn
 cases h3:ds.find? (fun f=>f.nm==s) with
 | none=>exact absurd (List.find?_eq_none.1 h3 f h1) (by simp [h2])
 | some f=>rfl
theorem file_ok {nm fm:List UInt8} {ds:List FD} {ks:List KF} (h:fileE nm fm ds ks=0):ds.length≤20∧okD ds∧∀ f∈ds,f.k≠4:=by
 unfold fileE at h
 cases h1:isNm nm
 ·rw [h1] at h; cases h
 cases h2:isNm fm
 ·rw [h1,h2] at h; cases h
 rw [h1,h2,if_neg (by simp),if_neg (by simp)] at h
 by_cases h3:ds.length=0
 ·rw [if_pos h3] at h; cases h
 by_cases h4:ds.length > 20
 ·rw [if_neg h3,if_pos h4] at h; cases h
 rw [if_neg h3,if_neg h4] at h
 unfold fileT at h
 by_cases h5:(dErr (dnames ds) ds 0).2=0
 ·exact ⟨by omega,dErr_ok h5⟩
 ·rw [if_pos h5] at h; exact absurd h h5
theorem flE_ok {ns:List (List UInt8)}:∀ {l:List FL} {i:Nat},flE ns l i=0→∀ g∈l,fileE g.nm g.fm g.ds g.ks=0
 | [],_,_=>by simp
 | g::l,i,h=>by
  rw [flE_cons] at h
  by_cases h0:fileE g.nm g.fm g.ds g.ks=0
  ·rw [if_neg (by simp [h0])] at h
   cases h1:(ns.take i).contains g.nm
   ·rw [h1,if_neg (by simp)] at h
    intro v hv
    rcases List.mem_cons.1 hv with rfl | hv
    ·exact h0
    ·exact flE_ok h v hv
   ·rw [h1,if_pos rfl] at h; cases h
  ·rw [if_pos h0] at h; exact absurd h h0
theorem filesE_ok {gs:List FL} (h:filesE gs=0):gs.length≤8∧∀ g∈gs,fileE g.nm g.fm g.ds g.ks=0:=by
 unfold filesE at h
 by_cases h1:gs.length > 8
 ·rw [if_pos h1] at h; cases h
 ·rw [if_neg h1] at h; exact ⟨by omega,flE_ok h⟩
def fnd (gs:List FL) (w:List UInt8):Prop:=gs.find? (fun g=>g.nm==w)≠none
theorem baseOf_mem {gs:List FL} {w:List UInt8} (h:fnd gs w):baseOf gs w∈gs:=by
 unfold baseOf
 unfold fnd at h
 cases h1:gs.find? (fun g=>g.nm==w) with
 | none=>exact absurd h1 h
 | some g=>exact List.mem_of_find?_eq_some h1
theorem bases_in {gs:List FL} {ws:List (List UInt8)} (h:∀ w∈ws,fnd gs w):∀ g∈ws.map (baseOf gs),g∈gs:=by
 intro g hg
 obtain ⟨w,h1,rfl⟩:=List.mem_map.1 hg
 exact baseOf_mem (h w h1)
theorem bAt_in {B:List FL} {b:Int} (h0:0≤b) (h1:b < B.length):bAt B b∈B:=by
 obtain ⟨j,hj,e1,e2⟩:=bAt_get h0 h1
 rw [e2]
 exact List.getElem_mem hj
theorem mkF_names (B:List FL) (fs:List LF):dnames (fs.map (mkF B))=names fs:=by
 simp [dnames,names,mkF,Function.comp_def]
theorem okF_of {B:List FL} {fs:List LF} {rs:List RL} (hB:∀ g∈B,fileE g.nm g.fm g.ds g.ks=0) (hf:fs.length≤1000) (hfs:∀ f∈fs,0≤f.b∧f.b < B.length) (hr:∀ r∈rs,ROk (names fs) r)
  (ht:∀ f∈fs,(tyIn (bAt B f.b).ds f.fd).2.2.2=true):OkF (fs.map (mkF B)) rs:=by
 have hF:∀ f∈fs.map (mkF B),chkT f.k f.l f.s=0∧f.k≠4:=by
  intro f hm
  obtain ⟨g,h1,rfl⟩:=List.mem_map.1 hm
  obtain ⟨x,h2,_,h3⟩:=tyIn_found (ht g h1)
  have:=hB _ (bAt_in (hfs g h1).1 (hfs g h1).2)
  obtain ⟨_,h4,h5⟩:=file_ok this
  unfold mkF
  rw [h3]
  exact ⟨h4 x h2,h5 x h2⟩
 refine ⟨by simpa using hf,fun f hm=>(hF f hm).1,?_⟩
 intro r hm
 have hro:=hr r hm
 refine ⟨by have:=hro.len; omega,?_⟩
 intro c hc
 have hco:=hro.cs c hc
 obtain ⟨x,h1,_,h2⟩:=tyIn_found (tyIn_of (ds:=fs.map (mkF B)) (s:=c.fd) (by rw [mkF_names]; exact hco.fd))
 rw [h2]
 exact hF x h1
section
variable {n:Nat} {nm fm:ByteArray} {ws:List (List UInt8)} {fs:List LF} {js:List JP} {ks:List KF} {uq:Bool} {rs:List RL} {F:List FD}
theorem over6 (hn:1001≤n) (gs:List FL) (hg:gs.length≤1000) (hw:ws.length≤1000)
  (K:(∀ w∈ws,fnd gs w)→∀ m,104004≤m→Ov fm F (ovF (ws.map (baseOf gs)) F js rs fs 0) (Q11.l n m (.z15 (fs.map LF.av) fs.length 0 nm fm (Ws ws) (fs.map LF.av) (js.map JP.av) (ks.map KF.av) uq (rs.map RL.av) ⟨#[]⟩ ((ws.map (baseOf gs)).map FL.av) fm []))):∀ (d i m:Nat),i+d=ws.length→d+104005≤m→(∀ w∈ws.take i,fnd gs w)→
  Ov fm F (ovB gs (ws.map (baseOf gs)) F fs js rs (ws.drop i) i) (Q11.l n m (.z6 (gs.map FL.av) (Ws ws) ws.length i nm fm (Ws ws) (fs.map LF.av) (js.map JP.av) (ks.map KF.av) uq (rs.map RL.av) ⟨#[]⟩ (((ws.map (baseOf gs)).take i).map FL.av)))
 | 0,i,m,h,hm,hp=>by
  obtain ⟨m,rfl⟩ : ∃ q,m=q+1:=⟨m - 1,by omega⟩
  rw [List.take_of_length_le (by omega)] at hp
  rw [Q11.at6]
  unfold Q11.r6
  simp (disch:=omega) only [Option.bind_some,Option.bind_none,cond_true,cond_false,Bool.not_true,Bool.not_false,List.length_map,Ws_length,bs_size,within_t,upto_t,wsucc,Int.toNat_natCast,at_mapN,Ws_getDN,cells_agg,cells_v,withCons_cons,withInt_mk,withStr_mk,withBool_mk,withSl_mk,cond_t,cond_f]
  rw [List.drop_of_length_le (show ws.length≤i by omega),List.take_of_length_le (by simp; omega)]
  exact K hp m (by omega)
 | d+1,i,m,h,hm,hp=>by
  obtain ⟨m,rfl⟩ : ∃ q,m=q+1:=⟨m - 1,by omega⟩
  have hi:i < ws.length:=by omega
  have hmost:most=1000000000:=rfl
  rw [Q11.at6]
  unfold Q11.r6
  simp (disch:=omega) only [Option.bind_some,Option.bind_none,cond_true,cond_false,Bool.not_true,Bool.not_false,List.length_map,Ws_length,bs_size,within_t,upto_t,wsucc,Int.toNat_natCast,at_mapN,Ws_getDN,cells_agg,cells_v,withCons_cons,withInt_mk,withStr_mk,withBool_mk,withSl_mk,cond_t,cond_f]
  rw [fileIx_eq hn gs hg,List.drop_eq_getElem_cons hi,ovB_cons]
  rcases ixs_find FL.nm ws[i] gs 0 with ⟨h1,h2⟩ | ⟨j,hj,h1,h2⟩
  ·rw [show ixs (fnames gs) ws[i] 0=-1 from h2,if_pos h1]
   exact Ov.bad (by decide)
  ·rw [show ixs (fnames gs) ws[i] 0=((0+j:Nat):Int) from h2,Nat.zero_add,if_neg (by rw [h1]; simp)]
   have hl:((ws.map (baseOf gs)).take i).length≤1000:=by rw [List.length_take,List.length_map]; omega
   simp (disch:=omega) only [Option.bind_some,Option.bind_none,cond_true,cond_false,Bool.not_true,Bool.not_false,List.length_map,Ws_length,bs_size,within_t,upto_t,wsucc,Int.toNat_natCast,at_mapN,Ws_getDN,cells_agg,cells_v,withCons_cons,withInt_mk,withStr_mk,withBool_mk,withSl_mk,cond_t,cond_f,FL.av,List.length_singleton]
   have hb:baseOf gs ws[i]=gs[j]:=by unfold baseOf; rw [h1]; rfl
   have e:((ws.map (baseOf gs)).take i).map FL.av++[AV.agg [vs (bs gs[j].nm),vs (bs gs[j].fm),.sl ⟨true,125⟩ 4 (gs[j].ds.map FD.av),.sl ⟨true,111⟩ 2 (gs[j].ks.map KF.av),vb gs[j].uq]]=((ws.map (baseOf gs)).take (i+1)).map FL.av:=by
    rw [List.take_succ_eq_append_getElem (by simpa using hi),List.map_append,List.getElem_map,hb]
    rfl
   rw [e]
   refine over6 hn gs hg hw K d (i+1) m (by omega) (by omega) ?_
   intro w hw
   rw [List.take_succ_eq_append_getElem hi,List.mem_append,List.mem_singleton] at hw
   rcases hw with hw | rfl
   ·exact hp w hw
   ·unfold fnd; rw [h1]; simp
end
section
variable {n:Nat} {nm fm:List UInt8} {ws:List (List UInt8)} {fs:List LF} {js:List JP} {ks:List KF} {uq:Bool} {rs:List RL}
def ovFs (gs:List FL) (ws:List (List UInt8)) (fs:List LF):List FD:=fs.map (mkF (ws.map (baseOf gs)))
theorem over_eq (hn:200000≤n) (gs:List FL) (hg:gs.length≤1000) (hgf:∀ g∈gs,g.few) (hL:LOk nm fm ws fs js ks uq rs) :
  Ov (bs fm) (ovFs gs ws fs) (overT gs ws fs js rs) (Q11.F n (bs nm) (bs fm) (Ws ws) (fs.map LF.av) (js.map JP.av) (ks.map KF.av) uq (rs.map RL.av) (gs.map FL.av)):=by
 obtain ⟨l1,l2,w0,w1,wsn,f0,f1,fso,j1,jso,k1,kso,ke,r1,rso⟩:=hL
 unfold Q11.F Q11.e overT
 rw [filesErr_eq (by omega) gs hg hgf]
 simp (disch:=omega) only [Option.bind_some,Option.bind_none,cond_true,cond_false,Bool.not_true,Bool.not_false,List.length_map,Ws_length,bs_size,within_t,upto_t,wsucc,Int.toNat_natCast,at_mapN,Ws_getDN,cells_agg,cells_v,withCons_cons,withInt_mk,withStr_mk,withBool_mk,withSl_mk,cond_t,cond_f]
 rw [bif_ne]
 by_cases h0:filesE gs=0
 ·rw [if_neg (by simp [h0]),if_neg (by simp [h0])]
  obtain ⟨hg8,hgo⟩:=filesE_ok h0
  have hbl:(ws.map (baseOf gs)).length=ws.length:=by simp
  have:=over6 (n:=n) (nm:=bs nm) (fm:=bs fm) (ws:=ws) (fs:=fs) (js:=js) (ks:=ks) (uq:=uq) (rs:=rs) (F:=ovFs gs ws fs) (by omega) gs hg (by omega) (fun hw m hm=>?_) ws.length 0 n (by omega) (by omega) (by simp)
  ·exact this
  ·have hB:=bases_in hw
   have hBf:∀ g∈ws.map (baseOf gs),g.few:=fun g h=>hgf g (hB g h)
   have hfb:∀ f∈fs,0≤f.b∧f.b < ((ws.map (baseOf gs)).length:Int):=by
    intro f h
    have:=fso f h
    have h1:=this.b0
    have h2:=this.b1
    rw [hbl]
    omega
   have hjb:∀ j∈js,(0≤j.fr∧j.fr < ((ws.map (baseOf gs)).length:Int))∧(0≤j.b∧j.b < ((ws.map (baseOf gs)).length:Int)):=by
    intro j h
    have:=jso j h
    have h1:=this.b0
    have h2:=this.b1
    have h3:=this.f0
    have h4:=this.f1
    rw [hbl]
    omega
   have:=over15 (n:=n) (nm:=bs nm) (fm:=bs fm) (fs:=fs) (js:=js) (ks:=ks) (uq:=uq) (rs:=rs) (by omega) (ws.map (baseOf gs)) hBf (by omega) (by omega) hjb (by omega) hfb
    (okF_of (fun g h=>hgo g (hB g h)) (by omega) hfb rso) ⟨#[]⟩ (Ws ws) fs.length 0 m (by omega) (by omega) (by simp)
   exact this
 ·rw [if_pos h0,if_pos h0]
  exact Ov.bad h0
def overX (gs:List FL) (nm fm:List UInt8) (ws:List (List UInt8)) (fs:List LF) (js:List JP) (ks:List KF) (uq:Bool) (rs:List RL):Int × Int:=
 if (chkL nm fm ws fs js ks uq rs).2≠0 then chkL nm fm ws fs js ks uq rs else overT gs ws fs js rs
theorem checkOver_eq (hn:200000≤n) (gs:List FL) (hg:gs.length≤1000) (hgf:∀ g∈gs,g.few) (hw:ws.length≤1000) (hf:fs.length≤1000) (hj:js.length≤1000) (hk:ks.length≤1000) (hr:rs.length≤1000) :
  Q06.F n (bs nm) (bs fm) (Ws ws) (fs.map LF.av) (js.map JP.av) (ks.map KF.av) uq (rs.map RL.av) (gs.map FL.av)=some (overX gs nm fm ws fs js ks uq rs):=by
 unfold Q06.F Q06.e overX
 rw [checkLogical_eq (by omega) nm fm ws hw fs hf js hj ks hk uq rs hr,Option.bind_some,bif_ne]
 by_cases h:(chkL nm fm ws fs js ks uq rs).2=0
 ·obtain ⟨a,b,h1,_⟩:=over_eq hn gs hg hgf (chkL_ok h)
  rw [if_neg (by simp [h]),if_neg (by simp [h]),h1]
  rfl
 ·rw [if_pos h,if_pos h]
theorem formatOf_eq (hn:200000≤n) (gs:List FL) (hg:gs.length≤1000) (hgf:∀ g∈gs,g.few) (hw:ws.length≤1000) (hf:fs.length≤1000) (hj:js.length≤1000) (hk:ks.length≤1000) (hr:rs.length≤1000) :
  Q08.F n (bs nm) (bs fm) (Ws ws) (fs.map LF.av) (js.map JP.av) (ks.map KF.av) uq (rs.map RL.av) (gs.map FL.av)=some (if (overX gs nm fm ws fs js ks uq rs).2≠0 then (⟨#[]⟩,[],(overX gs nm fm ws fs js ks uq rs).2) else (bs fm,(ovFs gs ws fs).map FD.av,0)):=by
 unfold Q08.F Q08.e overX
 rw [checkLogical_eq (by omega) nm fm ws hw fs hf js hj ks hk uq rs hr,Option.bind_some,bif_ne]
 by_cases h:(chkL nm fm ws fs js ks uq rs).2=0
 ·obtain ⟨a,b,h1,h2⟩:=over_eq hn gs hg hgf (chkL_ok h)
  simp only [h,ne_eq,not_true_eq_false,if_false]
  rw [h1,Option.bind_some]
  dsimp only
  rw [bif_ne]
  by_cases h3:(overT gs ws fs js rs).2=0
  ·obtain ⟨rfl,rfl⟩:=h2 h3
   simp [h3]
  ·simp [h3]
 ·rw [if_pos h,if_pos h,if_pos h]
end
end Go.Proofs.YtmpglmcjoelciaaGreatDoor.Ev
namespace Go.Proofs.YtmpglmcjoelciaaGreatDoor.Ev
open Go Go.Proofs Go.Proofs.Ev
set_option linter.unusedVariables false
set_option linter.unusedSimpArgs false
structure LG where
 nm:List UInt8
 fm:List UInt8
 ws:List (List UInt8)
 fs:List LF
 js:List JP
 ks:List KF
 uq:Bool
 rs:List RL
def chkG (l:LG):Int × Int:=chkL l.nm l.fm l.ws l.fs l.js l.ks l.uq l.rs
def srcE (lg:Bool) (g:FL) (l:LG):Int:=if lg then (chkG l).2 else fileE g.nm g.fm g.ds g.ks
structure Few (g:FL) (l:LG):Prop where
 ds:g.ds.length≤1000
 ks:g.ks.length≤1000
 lw:l.ws.length≤1000
 lf:l.fs.length≤1000
 lj:l.js.length≤1000
 lk:l.ks.length≤1000
 lr:l.rs.length≤1000
 lc:∀ r∈l.rs,r.cs.length≤1000
section
variable {n:Nat} {lg:Bool} {g:FL} {l:LG}
theorem srcErr_eq (hn:20010≤n) (hf:Few g l):Q0h.F n lg (bs g.nm) (bs g.fm) (g.ds.map FD.av) (g.ks.map KF.av) g.uq (bs l.nm) (bs l.fm) (Ws l.ws) (l.fs.map LF.av) (l.js.map JP.av) (l.ks.map KF.av) l.uq (l.rs.map RL.av)=some (srcE lg g l):=by
 unfold Q0h.F Q0h.e Q0x.F Q0x.e srcE chkG
 rw [checkLogical_eq (by omega) l.nm l.fm l.ws hf.lw l.fs hf.lf l.js hf.lj l.ks hf.lk l.uq l.rs hf.lr,fileErr_eq (by omega) g.nm g.fm g.ds hf.ds g.ks hf.ks]
 cases lg <;> rfl
end
end Go.Proofs.YtmpglmcjoelciaaGreatDoor.Ev
namespace Go.Proofs.YtmpglmcjoelciaaGreatDoor.Ev
open Go Go.Proofs Go.Proofs.Ev
set_option linter.unusedVariables false
set_option linter.unusedSimpArgs false
structure SR where
 lg:Bool
 g:FL
 l:LG
def stT (b:Bool) (s:SR) (pl:Int):Bool × Bool × ByteArray × ByteArray × Bool × ByteArray × ByteArray × Bool × Int × List AV × List AV × List AV × List AV × List AV × List AV × List AV:=
 (b,s.lg,bs s.g.nm,bs s.g.fm,s.g.uq,bs s.l.nm,bs s.l.fm,s.l.uq,pl,s.g.ds.map FD.av,s.g.ks.map KF.av,Ws s.l.ws,s.l.fs.map LF.av,s.l.js.map JP.av,s.l.ks.map KF.av,s.l.rs.map RL.av)
structure Sz (s:SR) (k:Nat):Prop where
 ds:s.g.ds.length≤k
 ks:s.g.ks.length≤k
 ws:s.l.ws.length≤k
 fs:s.l.fs.length≤k
 js:s.l.js.length≤k
 lk:s.l.ks.length≤k
 rs:s.l.rs.length≤k
def Rs (o:Option SR) (pl:Int) (x:Option (Bool × Bool × ByteArray × ByteArray × Bool × ByteArray × ByteArray × Bool × Int × List AV × List AV × List AV × List AV × List AV × List AV × List AV)):Prop:=
 ∃ t,x=some t∧t.1=o.isSome∧∀ s,o=some s→t=stT true s pl
theorem Rs.no {pl:Int} {t:Bool × ByteArray × ByteArray × Bool × ByteArray × ByteArray × Bool × Int × List AV × List AV × List AV × List AV × List AV × List AV × List AV}:Rs none pl (some (false,t)):=⟨_,rfl,rfl,nofun⟩
theorem Rs.yes {pl:Int} {s:SR} {x} (h:x=some (stT true s pl)):Rs (some s) pl x:=⟨_,h,rfl,fun _ e=>by cases e; rfl⟩
def stFmt (s:SR):List (List UInt8)→Option SR
 | [_,b]=>if isB b then some (if s.lg then { s with l:={ s.l with fm:=b } } else { s with g:={ s.g with fm:=b } }) else none
 | _=>none
def stBase (s:SR):List (List UInt8)→Option SR
 | [_,b]=>if s.lg&&isB b then some { s with l:={ s.l with ws:=s.l.ws++[b] } } else none
 | _=>none
def stJoin (s:SR):List (List UInt8)→Option SR
 | [_,a,b,c,d]=>if s.lg&&(isB b&&isB d) then (numP a).bind fun x=>(numP c).map fun y=>{ s with l:={ s.l with js:=s.l.js++[⟨x,b,y,d⟩] } } else none
 | _=>none
def stField (s:SR):List (List UInt8)→Option SR
 | [_,a,b,c]=>if s.lg&&(isB a&&isB c) then (numP b).map fun v=>{ s with l:={ s.l with fs:=s.l.fs++[⟨a,v,c⟩] } } else none
 | [_,a,b]=>if !s.lg&&isB a then (typeP b).map fun t=>{ s with g:={ s.g with ds:=s.g.ds++[⟨a,t.1,t.2.1,t.2.2⟩] } } else none
 | _=>none
def addKey (s:SR) (k:KF):SR:=if s.lg then { s with l:={ s.l with ks:=s.l.ks++[k] } } else { s with g:={ s.g with ks:=s.g.ks++[k] } }
def stKey (s:SR):List (List UInt8)→Option SR
 | [_,a]=>if isB a then some (addKey s ⟨a,false⟩) else none
 | [_,a,d]=>if isB a&&decide (d=[68,69,83,67,69,78,68]) then some (addKey s ⟨a,true⟩) else none
 | _=>none
section
theorem g0 (a:List UInt8) (r:List (List UInt8)):(Ws (a::r)).getD 0 AV.undef=vs (bs a):=rfl
theorem g1 (a b:List UInt8) (r:List (List UInt8)):(Ws (a::b::r)).getD 1 AV.undef=vs (bs b):=rfl
theorem g2 (a b c:List UInt8) (r:List (List UInt8)):(Ws (a::b::c::r)).getD 2 AV.undef=vs (bs c):=rfl
theorem g3 (a b c d:List UInt8) (r:List (List UInt8)):(Ws (a::b::c::d::r)).getD 3 AV.undef=vs (bs d):=rfl
theorem g4 (a b c d e:List UInt8) (r:List (List UInt8)):(Ws (a::b::c::d::e::r)).getD 4 AV.undef=vs (bs e):=rfl
theorem bneI_t {a b:Int} (h:a≠b):(a != b)=true:=by simpa using h
theorem bneI_f {a b:Int} (h:a=b):(a != b)=false:=by simp [h]
theorem beqI_t {a b:Int} (h:a=b):(a==b)=true:=by simp [h]
theorem beqI_f {a b:Int} (h:a≠b):(a==b)=false:=by simpa using h
variable {n:Nat}
theorem bare1 (hn:1001≤n) {a:List UInt8} (h:Good a):Q0p.F n [vs (bs a)]=some (isB a):=by
 have:=isBare_eq (n:=n) hn [a] (by simp) (by simpa using h)
 rw [List.all_cons,List.all_nil,Bool.and_true] at this
 exact this
theorem bare2 (hn:1001≤n) {a b:List UInt8} (h:Good a) (h' : Good b):Q0p.F n [vs (bs a),vs (bs b)]=some (isB a&&isB b):=by
 have:=isBare_eq (n:=n) hn [a,b] (by simp) (by simp [h,h'])
 rw [List.all_cons,List.all_cons,List.all_nil,Bool.and_true] at this
 exact this
theorem format_eq (hn:1001≤n) (s:SR) (pl:Int):∀ w:List (List UInt8),w.length≤1000→(∀ x∈w,Good x)→Rs (stFmt s w) pl (Q1a.F n (Ws w) s.lg (bs s.g.nm) (bs s.g.fm) s.g.uq (bs s.l.nm) (bs s.l.fm) s.l.uq pl (s.g.ds.map FD.av) (s.g.ks.map KF.av) (Ws s.l.ws) (s.l.fs.map LF.av) (s.l.js.map JP.av) (s.l.ks.map KF.av) (s.l.rs.map RL.av))
 | [],_,_=>by
  unfold Q1a.F Q1a.e
  exact Rs.no
 | [_],_,_=>by
  unfold Q1a.F Q1a.e
  exact Rs.no
 | [a,b],_,hg=>by
  have hb:=bare1 hn (hg b (by simp))
  unfold Q1a.F Q1a.e stFmt
  simp (disch:=omega) only [Option.bind_some,Option.bind_none,cond_true,cond_false,Bool.not_true,Bool.not_false,List.length_map,Ws_length,bs_size,within_t,upto_t,wsucc,Int.toNat_natCast,at_mapN,Ws_getDN,cells_agg,cells_v,withCons_cons,withInt_mk,withStr_mk,withBool_mk,withSl_mk,cond_t,cond_f,List.length_cons,List.length_nil,bneI_t,bneI_f,beqI_t,beqI_f,g0,g1,hb]
  cases isB b
  ·exact Rs.no
  ·cases hl:s.lg
   ·refine Rs.yes ?_
    simp [stT,hl]
   ·refine Rs.yes ?_
    simp [stT,hl]
 | a::b::c::r,_,_=>by
  unfold Q1a.F Q1a.e
  simp (disch:=omega) only [Option.bind_some,Option.bind_none,cond_true,cond_false,Bool.not_true,Bool.not_false,List.length_map,Ws_length,bs_size,within_t,upto_t,wsucc,Int.toNat_natCast,at_mapN,Ws_getDN,cells_agg,cells_v,withCons_cons,withInt_mk,withStr_mk,withBool_mk,withSl_mk,cond_t,cond_f,List.length_cons,List.length_nil,bneI_t,bneI_f,beqI_t,beqI_f]
  exact Rs.no
theorem base_eq (hn:1001≤n) (s:SR) (pl:Int) {k:Nat} (hk:k≤1000) (hz:Sz s k):∀ w:List (List UInt8),w.length≤1000→(∀ x∈w,Good x)→Rs (stBase s w) pl (Q18.F n (Ws w) s.lg (bs s.g.nm) (bs s.g.fm) s.g.uq (bs s.l.nm) (bs s.l.fm) s.l.uq pl (s.g.ds.map FD.av) (s.g.ks.map KF.av) (Ws s.l.ws) (s.l.fs.map LF.av) (s.l.js.map JP.av) (s.l.ks.map KF.av) (s.l.rs.map RL.av)):=by
 intro w hw hg
 have hmost:most=1000000000:=rfl
 have hws:=hz.ws
 obtain ⟨m,rfl⟩ : ∃ m,n=m+1:=⟨n - 1,by omega⟩
 have e2:∀ z1 z2 z3 z4 z5 z6 z7 z8 z9 z10 z11 z12 z13 z14 z15,Q18.l (m+1) (m+1) (.z2 z1 z2 z3 z4 z5 z6 z7 z8 z9 z10 z11 z12 z13 z14 z15)=some (false,z1,z2,z3,z4,z5,z6,z7,z8,z9,z10,z11,z12,z13,z14,z15):=fun _ _ _ _ _ _ _ _ _ _ _ _ _ _ _=>rfl
 unfold Q18.F Q18.e
 simp only [e2]
 cases hl:s.lg
 ·have:stBase s w=none:=by
   unfold stBase
   split
   ·rw [hl]; rfl
   ·rfl
  rw [this]
  exact Rs.no
 ·match w,hw,hg with
  | [],_,_=>exact Rs.no
  | [_],_,_=>exact Rs.no
  | [a,b],_,hg=>
   have hb:=bare1 (n:=m+1) hn (hg b (by simp))
   unfold stBase
   simp (disch:=omega) only [Option.bind_some,Option.bind_none,cond_true,cond_false,Bool.not_true,Bool.not_false,List.length_map,Ws_length,bs_size,within_t,upto_t,wsucc,Int.toNat_natCast,at_mapN,Ws_getDN,cells_agg,cells_v,withCons_cons,withInt_mk,withStr_mk,withBool_mk,withSl_mk,cond_t,cond_f,List.length_cons,List.length_nil,bneI_t,bneI_f,beqI_t,beqI_f,g0,g1,hb,Ws_snoc,hl,Bool.true_and]
   cases isB b
   ·exact Rs.no
   ·refine Rs.yes ?_
    simp [stT,hl]
  | a::b::c::r,_,_=>
   simp (disch:=omega) only [Option.bind_some,Option.bind_none,cond_true,cond_false,Bool.not_true,Bool.not_false,List.length_map,Ws_length,bs_size,within_t,upto_t,wsucc,Int.toNat_natCast,at_mapN,Ws_getDN,cells_agg,cells_v,withCons_cons,withInt_mk,withStr_mk,withBool_mk,withSl_mk,cond_t,cond_f,List.length_cons,List.length_nil,bneI_t,bneI_f,beqI_t,beqI_f]
   exact Rs.no
theorem join_eq (hn:100002≤n) (s:SR) (pl:Int) {k:Nat} (hk:k≤1000) (hz:Sz s k):∀ w:List (List UInt8),w.length≤1000→(∀ x∈w,Good x)→Rs (stJoin s w) pl (Q1c.F n (Ws w) s.lg (bs s.g.nm) (bs s.g.fm) s.g.uq (bs s.l.nm) (bs s.l.fm) s.l.uq pl (s.g.ds.map FD.av) (s.g.ks.map KF.av) (Ws s.l.ws) (s.l.fs.map LF.av) (s.l.js.map JP.av) (s.l.ks.map KF.av) (s.l.rs.map RL.av)):=by
 intro w hw hg
 have hmost:most=1000000000:=rfl
 have hjs:=hz.js
 obtain ⟨m,rfl⟩ : ∃ m,n=m+1:=⟨n - 1,by omega⟩
 have e2:∀ z1 z2 z3 z4 z5 z6 z7 z8 z9 z10 z11 z12 z13 z14 z15,Q1c.l (m+1) (m+1) (.z2 z1 z2 z3 z4 z5 z6 z7 z8 z9 z10 z11 z12 z13 z14 z15)=some (false,z1,z2,z3,z4,z5,z6,z7,z8,z9,z10,z11,z12,z13,z14,z15):=fun _ _ _ _ _ _ _ _ _ _ _ _ _ _ _=>rfl
 unfold Q1c.F Q1c.e
 simp only [e2]
 cases hl:s.lg
 ·have:stJoin s w=none:=by
   unfold stJoin
   split
   ·rw [hl]; rfl
   ·rfl
  rw [this]
  exact Rs.no
 ·match w,hw,hg with
  | [],_,_=>exact Rs.no
  | [_],_,_=>exact Rs.no
  | [_,_],_,_=>exact Rs.no
  | [_,_,_],_,_=>exact Rs.no
  | [_,_,_,_],_,_=>exact Rs.no
  | [k0,a,b,c,d],_,hg=>
   have hb:=bare2 (n:=m+1) (by omega) (hg b (by simp)) (hg d (by simp))
   have ga:=hg a (by simp)
   have gc:=hg c (by simp)
   obtain ⟨x,x1,x2⟩:=whole_eq (n:=m+1) hn a ga.pos (by have:=ga.len; omega)
   obtain ⟨y,y1,y2⟩:=whole_eq (n:=m+1) hn c gc.pos (by have:=gc.len; omega)
   unfold stJoin
   simp (disch:=omega) only [Option.bind_some,Option.bind_none,cond_true,cond_false,Bool.not_true,Bool.not_false,List.length_map,Ws_length,bs_size,within_t,upto_t,wsucc,Int.toNat_natCast,at_mapN,Ws_getDN,cells_agg,cells_v,withCons_cons,withInt_mk,withStr_mk,withBool_mk,withSl_mk,cond_t,cond_f,List.length_cons,List.length_nil,bneI_t,bneI_f,beqI_t,beqI_f,g0,g1,g2,g3,g4,hb,hl,Bool.true_and,x1,y1]
   cases isB b&&isB d
   ·exact Rs.no
   ·simp only [Bool.not_true,cond_false,if_true]
    cases ha:numP a with
    | none=>exact Rs.no
    | some x'=>
     cases hc:numP c with
     | none=>exact Rs.no
     | some y'=>
      have e1:=x2 x' ha
      have e2:=y2 y' hc
      subst e1
      subst e2
      refine Rs.yes ?_
      simp [stT,hl,JP.av]
  | a::b::c::d::e::f::r,_,_=>
   simp (disch:=omega) only [Option.bind_some,Option.bind_none,cond_true,cond_false,Bool.not_true,Bool.not_false,List.length_map,Ws_length,bs_size,within_t,upto_t,wsucc,Int.toNat_natCast,at_mapN,Ws_getDN,cells_agg,cells_v,withCons_cons,withInt_mk,withStr_mk,withBool_mk,withSl_mk,cond_t,cond_f,List.length_cons,List.length_nil,bneI_t,bneI_f,beqI_t,beqI_f]
   exact Rs.no
end
end Go.Proofs.YtmpglmcjoelciaaGreatDoor.Ev
namespace Go.Proofs.YtmpglmcjoelciaaGreatDoor.Ev
open Go Go.Proofs Go.Proofs.Ev
set_option linter.unusedVariables false
set_option linter.unusedSimpArgs false
section
variable {n:Nat}
theorem field_eq (hn:200000≤n) (s:SR) (pl:Int) {k:Nat} (hk:k≤1000) (hz:Sz s k):∀ w:List (List UInt8),w.length≤1000→(∀ x∈w,Good x)→Rs (stField s w) pl (Q19.F n (Ws w) s.lg (bs s.g.nm) (bs s.g.fm) s.g.uq (bs s.l.nm) (bs s.l.fm) s.l.uq pl (s.g.ds.map FD.av) (s.g.ks.map KF.av) (Ws s.l.ws) (s.l.fs.map LF.av) (s.l.js.map JP.av) (s.l.ks.map KF.av) (s.l.rs.map RL.av)):=by
 intro w hw hg
 have hmost:most=1000000000:=rfl
 have hds:=hz.ds
 have hfs:=hz.fs
 obtain ⟨m,rfl⟩ : ∃ m,n=m+1:=⟨n - 1,by omega⟩
 have e6:∀ z1 z2 z3 z4 z5 z6 z7 z8 z9 z10 z11 z12 z13 z14 z15,Q19.l (m+1) (m+1) (.z6 z1 z2 z3 z4 z5 z6 z7 z8 z9 z10 z11 z12 z13 z14 z15)=some (false,z1,z2,z3,z4,z5,z6,z7,z8,z9,z10,z11,z12,z13,z14,z15):=fun _ _ _ _ _ _ _ _ _ _ _ _ _ _ _=>rfl
 unfold Q19.F Q19.e
 simp only [e6]
 match w,hw,hg with
 | [],_,_=>exact Rs.no
 | [_],_,_=>exact Rs.no
 | [_,_],_,_=>exact Rs.no
 | [k0,a,b],_,hg=>
  have hb:=bare1 (n:=m+1) (by omega) (hg a (by simp))
  have gb:=hg b (by simp)
  obtain ⟨x,x1,x2⟩:=whole_eq (n:=m+1) (by omega) b gb.pos (by have:=gb.len; omega)
  obtain ⟨t,t1,t2,t3⟩:=typeOf_eq (n:=m+1) (by omega) b (by have:=gb.len; omega)
  unfold stField
  simp (disch:=omega) only [Option.bind_some,Option.bind_none,cond_true,cond_false,Bool.not_true,Bool.not_false,List.length_map,Ws_length,bs_size,within_t,upto_t,wsucc,Int.toNat_natCast,at_mapN,Ws_getDN,cells_agg,cells_v,withCons_cons,withInt_mk,withStr_mk,withBool_mk,withSl_mk,cond_t,cond_f,List.length_cons,List.length_nil,bneI_t,bneI_f,beqI_t,beqI_f,g0,g1,g2,hb,x1,t1]
  cases isB a
  ·simp only [Bool.not_false,cond_true,Bool.and_false,Bool.false_eq_true,if_false]
   exact Rs.no
  ·cases hl:s.lg
   ·simp only [Bool.not_true,Bool.not_false,cond_false,Bool.and_true,if_true]
    cases ht:typeP b with
    | none=>
     rw [ht] at t2
     rw [show t.2.2.2=false from t2]
     exact Rs.no
    | some u=>
     have:=t3 u ht
     subst this
     refine Rs.yes ?_
     simp [stT,hl,FD.av]
   ·simp only [Bool.not_true,cond_false,cond_true,Bool.false_and,Bool.false_eq_true,if_false]
    cases (numP b).isSome <;> exact Rs.no
 | [k0,a,b,c],_,hg=>
  have hb:=bare1 (n:=m+1) (by omega) (hg a (by simp))
  have hc:=bare1 (n:=m+1) (by omega) (hg c (by simp))
  have gb:=hg b (by simp)
  obtain ⟨x,x1,x2⟩:=whole_eq (n:=m+1) (by omega) b gb.pos (by have:=gb.len; omega)
  obtain ⟨t,t1,t2,t3⟩:=typeOf_eq (n:=m+1) (by omega) b (by have:=gb.len; omega)
  unfold stField
  simp (disch:=omega) only [Option.bind_some,Option.bind_none,cond_true,cond_false,Bool.not_true,Bool.not_false,List.length_map,Ws_length,bs_size,within_t,upto_t,wsucc,Int.toNat_natCast,at_mapN,Ws_getDN,cells_agg,cells_v,withCons_cons,withInt_mk,withStr_mk,withBool_mk,withSl_mk,cond_t,cond_f,List.length_cons,List.length_nil,bneI_t,bneI_f,beqI_t,beqI_f,g0,g1,g2,g3,hb,hc,x1,t1]
  cases isB a
  ·simp only [Bool.not_false,cond_true,Bool.and_false,Bool.false_and,Bool.false_eq_true,if_false]
   exact Rs.no
  ·cases hl:s.lg
   ·simp only [Bool.not_true,cond_false,Bool.false_and,Bool.false_eq_true,if_false]
    cases t.2.2.2 <;> exact Rs.no
   ·simp only [Bool.not_true,cond_false,cond_true,Bool.true_and]
    cases hx:numP b with
    | none=>
     simp only [Option.isSome_none,Bool.not_false,cond_true,Option.map_none,ite_self]
     exact Rs.no
    | some v=>
     have:=x2 v hx
     subst this
     simp only [Option.isSome_some,Bool.not_true,cond_false]
     cases isB c
     ·exact Rs.no
     ·refine Rs.yes ?_
      simp [stT,hl,LF.av]
 | k0::a::b::c::d::r,_,hg=>
  have hb:=bare1 (n:=m+1) (by omega) (hg a (by simp))
  have gb:=hg b (by simp)
  obtain ⟨x,x1,x2⟩:=whole_eq (n:=m+1) (by omega) b gb.pos (by have:=gb.len; omega)
  obtain ⟨t,t1,t2,t3⟩:=typeOf_eq (n:=m+1) (by omega) b (by have:=gb.len; omega)
  have:stField s (k0::a::b::c::d::r)=none:=rfl
  rw [this]
  simp (disch:=omega) only [Option.bind_some,Option.bind_none,cond_true,cond_false,Bool.not_true,Bool.not_false,List.length_map,Ws_length,bs_size,within_t,upto_t,wsucc,Int.toNat_natCast,at_mapN,Ws_getDN,cells_agg,cells_v,withCons_cons,withInt_mk,withStr_mk,withBool_mk,withSl_mk,cond_t,cond_f,List.length_cons,List.length_nil,bneI_t,bneI_f,beqI_t,beqI_f,g0,g1,g2,g3,hb,x1,t1]
  cases isB a
  ·exact Rs.no
  ·cases hl:s.lg
   ·simp only [Bool.not_true,cond_false]
    cases t.2.2.2 <;> exact Rs.no
   ·simp only [Bool.not_true,cond_false,cond_true]
    cases (numP b).isSome <;> exact Rs.no
theorem key_eq (hn:1001≤n) (s:SR) (pl:Int) {k:Nat} (hk:k≤1000) (hz:Sz s k):∀ w:List (List UInt8),w.length≤1000→(∀ x∈w,Good x)→Rs (stKey s w) pl (Q1d.F n (Ws w) s.lg (bs s.g.nm) (bs s.g.fm) s.g.uq (bs s.l.nm) (bs s.l.fm) s.l.uq pl (s.g.ds.map FD.av) (s.g.ks.map KF.av) (Ws s.l.ws) (s.l.fs.map LF.av) (s.l.js.map JP.av) (s.l.ks.map KF.av) (s.l.rs.map RL.av)):=by
 intro w hw hg
 have hmost:most=1000000000:=rfl
 have h1:=hz.ks
 have h2:=hz.lk
 obtain ⟨m,rfl⟩ : ∃ m,n=m+1:=⟨n - 1,by omega⟩
 have e3:∀ z1 z2 z3 z4 z5 z6 z7 z8 z9 z10 z11 z12 z13 z14 z15,Q1d.l (m+1) (m+1) (.z3 z1 z2 z3 z4 z5 z6 z7 z8 z9 z10 z11 z12 z13 z14 z15)=some (false,z1,z2,z3,z4,z5,z6,z7,z8,z9,z10,z11,z12,z13,z14,z15):=fun _ _ _ _ _ _ _ _ _ _ _ _ _ _ _=>rfl
 have add:∀ (u:Bool) (a b:List UInt8) (r:List (List UInt8)),Rs (some (addKey s ⟨b,u⟩)) pl (Q1d.l (m+1) (m+1) (.z4 (Ws (a::b::r)) u s.lg (bs s.g.nm) (bs s.g.fm) s.g.uq (bs s.l.nm) (bs s.l.fm) s.l.uq pl (s.g.ds.map FD.av) (s.g.ks.map KF.av) (Ws s.l.ws) (s.l.fs.map LF.av) (s.l.js.map JP.av) (s.l.ks.map KF.av) (s.l.rs.map RL.av))):=by
  intro u a b r
  rw [Q1d.at4]
  unfold Q1d.r4
  simp (disch:=omega) only [Option.bind_some,Option.bind_none,cond_true,cond_false,Bool.not_true,Bool.not_false,List.length_map,Ws_length,bs_size,within_t,upto_t,wsucc,Int.toNat_natCast,at_mapN,Ws_getDN,cells_agg,cells_v,withCons_cons,withInt_mk,withStr_mk,withBool_mk,withSl_mk,cond_t,cond_f,List.length_cons,List.length_nil,g1]
  refine Rs.yes ?_
  unfold addKey
  cases hl:s.lg
  ·simp [stT,hl,KF.av]
  ·simp [stT,hl,KF.av]
 unfold Q1d.F Q1d.e
 simp only [e3]
 match w,hw,hg with
 | [],_,_=>exact Rs.no
 | [_],_,_=>exact Rs.no
 | [k0,a],_,hg=>
  have hb:=bare1 (n:=m+1) hn (hg a (by simp))
  unfold stKey
  simp (disch:=omega) only [Option.bind_some,Option.bind_none,cond_true,cond_false,Bool.not_true,Bool.not_false,List.length_map,Ws_length,bs_size,within_t,upto_t,wsucc,Int.toNat_natCast,at_mapN,Ws_getDN,cells_agg,cells_v,withCons_cons,withInt_mk,withStr_mk,withBool_mk,withSl_mk,cond_t,cond_f,List.length_cons,List.length_nil,bneI_t,bneI_f,beqI_t,beqI_f,g0,g1,hb]
  cases isB a
  ·exact Rs.no
  ·exact add false k0 a []
 | [k0,a,d],_,hg=>
  have hb:=bare1 (n:=m+1) hn (hg a (by simp))
  unfold stKey
  simp (disch:=omega) only [Option.bind_some,Option.bind_none,cond_true,cond_false,Bool.not_true,Bool.not_false,List.length_map,Ws_length,bs_size,within_t,upto_t,wsucc,Int.toNat_natCast,at_mapN,Ws_getDN,cells_agg,cells_v,withCons_cons,withInt_mk,withStr_mk,withBool_mk,withSl_mk,cond_t,cond_f,List.length_cons,List.length_nil,bneI_t,bneI_f,beqI_t,beqI_f,g0,g1,g2,hb,lit7,str_eq]
  by_cases hd:d=[68,69,83,67,69,78,68]
  ·simp only [hd,decide_true,Bool.not_true,cond_false,Bool.and_true]
   cases isB a
   ·exact Rs.no
   ·exact add true k0 a [[68,69,83,67,69,78,68]]
  ·simp only [hd,decide_false,Bool.not_false,cond_true,Bool.and_false,Bool.false_eq_true,if_false]
   exact Rs.no
 | a::b::c::d::r,_,_=>
  simp (disch:=omega) only [Option.bind_some,Option.bind_none,cond_true,cond_false,Bool.not_true,Bool.not_false,List.length_map,Ws_length,bs_size,within_t,upto_t,wsucc,Int.toNat_natCast,at_mapN,Ws_getDN,cells_agg,cells_v,withCons_cons,withInt_mk,withStr_mk,withBool_mk,withSl_mk,cond_t,cond_f,List.length_cons,List.length_nil,bneI_t,bneI_f,beqI_t,beqI_f]
  exact Rs.no
end
end Go.Proofs.YtmpglmcjoelciaaGreatDoor.Ev
namespace Go.Proofs.YtmpglmcjoelciaaGreatDoor.Ev
open Go Go.Proofs Go.Proofs.Ev
set_option linter.unusedVariables false
set_option linter.unusedSimpArgs false
def opsL:List (List UInt8):=[[69,81],[78,69],[76,84],[76,69],[71,84],[71,69]]
theorem gr0_eq:gr0=Ws opsL:=rfl
def opP (o:List UInt8):Option Int:=if opsL.contains o then some (ixs opsL o 0) else none
def cnd1 (a o v:List UInt8):Option CN:=if isB a then (opP o).bind fun x=>(valP v).map fun y=>⟨a,x,y.1,y.2⟩ else none
def cndP:List (List UInt8)→Option (List CN)
 | []=>some []
 | [a,o,v]=>(cnd1 a o v).map fun c=>[c]
 | a::o::v::d::b::r=>if d=[65,78,68] then (cnd1 a o v).bind fun c=>(cndP (b::r)).map fun cs=>c::cs else none
 | _=>none
def addR (s:SR) (r:RL):SR:={ s with l:={ s.l with rs:=s.l.rs++[r] } }
def stRule (s:SR):List (List UInt8)→Option SR
 | []=>none
 | k::r=>if s.lg then (cndP r).map fun cs=>addR s ⟨decide (k=[79]),cs⟩ else none
def hd1 (s:SR) (k a:List UInt8) (u:Bool):Option SR:=
 if k=[80,70] then some { s with lg:=false,g:={ s.g with nm:=a,uq:=u } } else if k=[76,70] then some { s with lg:=true,l:={ s.l with nm:=a,uq:=u } } else none
def stHead (s:SR):List (List UInt8)→Option SR
 | [k,a]=>if isB a then hd1 s k a false else none
 | [k,a,u]=>if isB a&&decide (u=[85,78,73,81,85,69]) then hd1 s k a true else none
 | _=>none
section
variable {n:Nat}
theorem index_ops (hn:1001≤n) (s:List UInt8):Q4c.F n (Ws opsL) (bs s)=some (ixs opsL s 0):=by
 unfold Q4c.F Q4c.e
 have:=index_l n opsL (by decide) s opsL.length 0 n (by omega) (by have:opsL.length=6:=rfl; omega)
 rw [List.drop_zero] at this
 rw [Ws_length]
 exact this
theorem d3 (a b c:List UInt8) (r:List (List UInt8)):(Ws (a::b::c::r)).drop 3=Ws r:=rfl
theorem d1 (a:List UInt8) (r:List (List UInt8)):(Ws (a::r)).drop 1=Ws r:=rfl
theorem three {k:Nat}:(decide ((0:Int)≤3)&&decide ((3:Int)≤((k+3:Nat):Int)))=true:=by
 rw [Bool.and_eq_true,decide_eq_true_eq,decide_eq_true_eq]; omega
theorem one1 {k:Nat}:(decide ((0:Int)≤1)&&decide ((1:Int)≤((k+1:Nat):Int)))=true:=by
 rw [Bool.and_eq_true,decide_eq_true_eq,decide_eq_true_eq]; omega
theorem rule_lp (hn:100002≤n) (s:SR) (pl:Int) (om:Bool) {kk:Nat} (hkk:kk≤1000) (hz:Sz s kk):∀ (k:Nat) (l:List (List UInt8)) (acc:List CN) (m:Nat),l.length≤k→k+2≤m→l.length+acc.length≤2000→(∀ x∈l,Good x)→
  Rs ((cndP l).map fun cs=>addR s ⟨om,acc++cs⟩) pl (Q1f.l n m (.z5 (Ws l) s.lg (bs s.g.nm) (bs s.g.fm) s.g.uq (bs s.l.nm) (bs s.l.fm) s.l.uq pl om (acc.map CN.av) (s.g.ds.map FD.av) (s.g.ks.map KF.av) (Ws s.l.ws) (s.l.fs.map LF.av) (s.l.js.map JP.av) (s.l.ks.map KF.av) (s.l.rs.map RL.av))):=by
 intro k
 induction k with
 | zero=>
  intro l acc m hl hm ha hg
  have:l=[]:=List.eq_nil_of_length_eq_zero (by omega)
  subst this
  obtain ⟨m,rfl⟩ : ∃ q,m=q+1:=⟨m - 1,by omega⟩
  have hmost:most=1000000000:=rfl
  have hrs:=hz.rs
  rw [Q1f.at5]
  unfold Q1f.r5
  simp (disch:=omega) only [Option.bind_some,Option.bind_none,cond_true,cond_false,Bool.not_true,Bool.not_false,List.length_map,Ws_length,bs_size,within_t,upto_t,wsucc,Int.toNat_natCast,at_mapN,Ws_getDN,cells_agg,cells_v,withCons_cons,withInt_mk,withStr_mk,withBool_mk,withSl_mk,cond_t,cond_f,List.length_nil,List.length_cons]
  refine Rs.yes ?_
  simp [stT,addR,RL.av,Ws]
 | succ k ih=>
  intro l acc m hl hm ha hg
  obtain ⟨m,rfl⟩ : ∃ q,m=q+2:=⟨m - 2,by omega⟩
  have hmost:most=1000000000:=rfl
  have hrs:=hz.rs
  have e7:∀ z1 z2 z3 z4 z5 z6 z7 z8 z9 z10 z11 z12 z13 z14 z15,Q1f.l n (m+1) (.z7 z1 z2 z3 z4 z5 z6 z7 z8 z9 z10 z11 z12 z13 z14 z15)=some (false,z1,z2,z3,z4,z5,z6,z7,z8,z9,z10,z11,z12,z13,z14,z15):=fun _ _ _ _ _ _ _ _ _ _ _ _ _ _ _=>rfl
  rw [Q1f.at5]
  unfold Q1f.r5
  simp only [e7]
  match l,hl,ha,hg with
  | [],_,_,_=>
   simp (disch:=omega) only [Option.bind_some,Option.bind_none,cond_true,cond_false,Bool.not_true,Bool.not_false,List.length_map,Ws_length,bs_size,within_t,upto_t,wsucc,Int.toNat_natCast,at_mapN,Ws_getDN,cells_agg,cells_v,withCons_cons,withInt_mk,withStr_mk,withBool_mk,withSl_mk,cond_t,cond_f,List.length_nil,List.length_cons]
   refine Rs.yes ?_
   simp [stT,addR,RL.av,Ws]
  | [_],_,_,_=>exact Rs.no
  | [_,_],_,_,_=>exact Rs.no
  | [a,o,v],_,ha,hg=>
   have hb:=bare1 (n:=n) (by omega) (hg a (by simp))
   have hc:=contains_str (n:=n) (by omega) opsL (by decide) o
   have hi:=index_ops (n:=n) (by omega) o
   obtain ⟨x,y,v1,v2⟩:=valueOf_eq (n:=n) hn (hg v (by simp))
   have lw:(Ws [a,o,v]).length=0+3:=rfl
   unfold cndP cnd1 opP
   simp only [List.length_cons,List.length_nil] at ha
   simp (disch:=omega) only [Option.bind_some,Option.bind_none,cond_true,cond_false,Bool.not_true,Bool.not_false,List.length_map,Ws_length,bs_size,within_t,upto_t,wsucc,Int.toNat_natCast,at_mapN,Ws_getDN,cells_agg,cells_v,withCons_cons,withInt_mk,withStr_mk,withBool_mk,withSl_mk,cond_t,cond_f,lw,three,List.length_cons,List.length_nil,g0,g1,g2,hb,gr0_eq,hc,hi,v1,d3,beqI_t,beqI_f]
   cases isB a
   ·exact Rs.no
   ·cases opsL.contains o
    ·exact Rs.no
    ·simp only [Bool.not_true,cond_false,if_true,Option.bind_some]
     cases hv:valP v with
     | none=>exact Rs.no
     | some q=>
      obtain ⟨rfl,rfl⟩:=v2 q hv
      have z0:(((Ws ([]:List (List UInt8))).length:Int)==0)=true:=rfl
      simp only [Option.isSome_some,Bool.not_true,cond_false]
      refine Rs.yes ?_
      simp [stT,addR,RL.av,CN.av,Ws]
  | [a,o,v,d],_,ha,hg=>
   have hb:=bare1 (n:=n) (by omega) (hg a (by simp))
   have hc:=contains_str (n:=n) (by omega) opsL (by decide) o
   have hi:=index_ops (n:=n) (by omega) o
   obtain ⟨x,y,v1,v2⟩:=valueOf_eq (n:=n) hn (hg v (by simp))
   have lw:(Ws [a,o,v,d]).length=1+3:=rfl
   unfold cndP
   simp only [List.length_cons,List.length_nil] at ha
   simp (disch:=omega) only [Option.bind_some,Option.bind_none,cond_true,cond_false,Bool.not_true,Bool.not_false,List.length_map,Ws_length,bs_size,within_t,upto_t,wsucc,Int.toNat_natCast,at_mapN,Ws_getDN,cells_agg,cells_v,withCons_cons,withInt_mk,withStr_mk,withBool_mk,withSl_mk,cond_t,cond_f,lw,three,List.length_cons,List.length_nil,g0,g1,g2,hb,gr0_eq,hc,hi,v1,d3,beqI_t,beqI_f,lit3,str_eq]
   cases isB a
   ·exact Rs.no
   ·cases opsL.contains o
    ·exact Rs.no
    ·cases (valP v).isSome
     ·exact Rs.no
     ·simp only [Bool.not_true,cond_false]
      cases decide (d=[65,78,68]) <;> exact Rs.no
  | a::o::v::d::b::r,hl,ha,hg=>
   have hb:=bare1 (n:=n) (by omega) (hg a (by simp))
   have hc:=contains_str (n:=n) (by omega) opsL (by decide) o
   have hi:=index_ops (n:=n) (by omega) o
   obtain ⟨x,y,v1,v2⟩:=valueOf_eq (n:=n) hn (hg v (by simp))
   have lw:(Ws (a::o::v::d::b::r)).length=(r.length+2)+3:=by rw [Ws_length]; rfl
   have lw2:(Ws (d::b::r)).length=(r.length+1)+1:=by rw [Ws_length]; rfl
   simp only [List.length_cons] at ha hl
   unfold cndP cnd1 opP
   simp (disch:=omega) only [Option.bind_some,Option.bind_none,cond_true,cond_false,Bool.not_true,Bool.not_false,List.length_map,Ws_length,bs_size,within_t,upto_t,wsucc,Int.toNat_natCast,at_mapN,Ws_getDN,cells_agg,cells_v,withCons_cons,withInt_mk,withStr_mk,withBool_mk,withSl_mk,cond_t,cond_f,lw,lw2,three,one1,List.length_cons,List.length_nil,g0,g1,g2,hb,gr0_eq,hc,hi,v1,d3,d1,beqI_t,beqI_f,lit3,str_eq]
   by_cases hd:d=[65,78,68]
   ·simp only [hd,decide_true,Bool.not_true,cond_false,if_true]
    cases isB a
    ·exact Rs.no
    ·cases opsL.contains o
     ·exact Rs.no
     ·simp only [Bool.not_true,cond_false,if_true,Option.bind_some]
      cases hv:valP v with
      | none=>exact Rs.no
      | some q=>
       obtain ⟨rfl,rfl⟩:=v2 q hv
       have:=ih (b::r) (acc++[⟨a,ixs opsL o 0,q.1,q.2⟩]) (m+1) (by simp; omega) (by omega) (by simp; omega) (fun z hz=>hg z (by simp at hz ⊢; rcases hz with h | h <;> simp [h]))
       simp only [Option.isSome_some,Bool.not_true,cond_false,Option.map_some,Option.bind_some]
       rw [List.map_append] at this
       have e1:((cndP (b::r)).map fun cs=>(⟨a,ixs opsL o 0,q.1,q.2⟩ : CN)::cs).map (fun cs=>addR s ⟨om,acc++cs⟩)=(cndP (b::r)).map fun cs=>addR s ⟨om,acc++[⟨a,ixs opsL o 0,q.1,q.2⟩]++cs⟩:=by
        rw [Option.map_map]
        congr 1
        funext cs
        simp
       rw [e1]
       exact this
   ·simp only [hd,decide_false,Bool.not_false,cond_true,if_false]
    cases isB a
    ·exact Rs.no
    ·cases opsL.contains o
     ·exact Rs.no
     ·cases (valP v).isSome <;> exact Rs.no
theorem rule_eq (hn:100002≤n) (s:SR) (pl:Int) {k:Nat} (hk:k≤1000) (hz:Sz s k):∀ w:List (List UInt8),w≠[]→w.length≤1000→(∀ x∈w,Good x)→Rs (stRule s w) pl (Q1f.F n (Ws w) s.lg (bs s.g.nm) (bs s.g.fm) s.g.uq (bs s.l.nm) (bs s.l.fm) s.l.uq pl (s.g.ds.map FD.av) (s.g.ks.map KF.av) (Ws s.l.ws) (s.l.fs.map LF.av) (s.l.js.map JP.av) (s.l.ks.map KF.av) (s.l.rs.map RL.av)):=by
 intro w h0 hw hg
 unfold Q1f.F Q1f.e
 cases hl:s.lg
 ·have:stRule s w=none:=by
   unfold stRule
   split
   ·rfl
   ·rw [hl]; rfl
  rw [this]
  exact Rs.no
 ·match w,h0,hw,hg with
  | [],h0,_,_=>exact absurd rfl h0
  | a::r,_,hw,hg=>
   simp only [List.length_cons] at hw
   have lw:(Ws (a::r)).length=r.length+1:=by rw [Ws_length]; rfl
   have:=rule_lp (n:=n) hn s pl (decide (a=[79])) hk hz r.length r [] n (Nat.le_refl _) (by omega) (by simp; omega) (fun z hz=>hg z (by simp [hz]))
   rw [hl] at this
   unfold stRule
   simp (disch:=omega) only [Option.bind_some,Option.bind_none,cond_true,cond_false,Bool.not_true,Bool.not_false,List.length_map,Ws_length,bs_size,within_t,upto_t,wsucc,Int.toNat_natCast,at_mapN,Ws_getDN,cells_agg,cells_v,withCons_cons,withInt_mk,withStr_mk,withBool_mk,withSl_mk,cond_t,cond_f,lw,one1,g0,lit1,str_eq,d1,hl]
   exact this
end
end Go.Proofs.YtmpglmcjoelciaaGreatDoor.Ev
namespace Go.Proofs.YtmpglmcjoelciaaGreatDoor.Ev
open Go Go.Proofs Go.Proofs.Ev
set_option linter.unusedVariables false
set_option linter.unusedSimpArgs false
def plc (k:List UInt8):Int:=if k=[79] then 5 else if k.length≠1 then -1 else Lib.index [82,66,74,70,75,83] k
theorem index_byte (c:UInt8):Lib.index [82,66,74,70,75,83] [c]=if c=82 then 0 else if c=66 then 1 else if c=74 then 2 else if c=70 then 3 else if c=75 then 4 else if c=83 then 5 else -1:=by
 have:∀ k:Fin 256,Lib.index [82,66,74,70,75,83] [UInt8.ofNat k.1]=if UInt8.ofNat k.1=82 then 0 else if UInt8.ofNat k.1=66 then 1 else if UInt8.ofNat k.1=74 then 2 else if UInt8.ofNat k.1=70 then 3 else if UInt8.ofNat k.1=75 then 4 else if UInt8.ofNat k.1=83 then 5 else -1:=by decide +kernel
 have h:=this ⟨c.toNat,c.toNat_lt⟩
 have e:UInt8.ofNat c.toNat=c:=by simp
 rw [e] at h
 exact h
theorem plc_range (k:List UInt8) : -1≤plc k∧plc k≤5:=by
 unfold plc
 by_cases h:k=[79]
 ·rw [if_pos h]; omega
 ·rw [if_neg h]
  by_cases h1:k.length≠1
  ·rw [if_pos h1]; omega
  ·rw [if_neg h1]
   match k,h1 with
   | [c],_=>
    rw [index_byte]
    (repeat' split) <;> omega
   | [],h1=>exact absurd (by simp) h1
   | _::_::_,h1=>exact absurd (by simp) h1
def disp (s:SR) (p:Int) (w:List (List UInt8)):Option SR:=
 if p=5 then stRule s w else if p=4 then stKey s w else if p=3 then stField s w else if p=2 then stJoin s w else if p=1 then stBase s w else stFmt s w
def nxt (p:Int):Int:=if 1 > p then 1 else p
def stLine (s:SR) (pl:Int):List (List UInt8)→Option SR
 | []=>none
 | k::r=>if plc k < pl then none else if pl=0∧plc k > 0 then none else disp s (plc k) (k::r)
theorem stLine_cons (s:SR) (pl:Int) (k:List UInt8) (r:List (List UInt8)):stLine s pl (k::r)=if plc k < pl then none else if pl=0∧plc k > 0 then none else disp s (plc k) (k::r):=rfl
def nextP (w:List (List UInt8)):Int:=match w with
 | []=>0
 | k::_=>nxt (plc k)
section
variable {n:Nat}
theorem Rs.eta {o:Option SR} {pl:Int} {x} (h:Rs o pl x):Rs o pl (x.bind fun p=>some (p.1,p.2.1,p.2.2.1,p.2.2.2.1,p.2.2.2.2.1,p.2.2.2.2.2.1,p.2.2.2.2.2.2.1,p.2.2.2.2.2.2.2.1,p.2.2.2.2.2.2.2.2.1,p.2.2.2.2.2.2.2.2.2.1,p.2.2.2.2.2.2.2.2.2.2.1,p.2.2.2.2.2.2.2.2.2.2.2.1,p.2.2.2.2.2.2.2.2.2.2.2.2.1,p.2.2.2.2.2.2.2.2.2.2.2.2.2.1,p.2.2.2.2.2.2.2.2.2.2.2.2.2.2.1,p.2.2.2.2.2.2.2.2.2.2.2.2.2.2.2)):=by
 obtain ⟨t,rfl,h2,h3⟩:=h
 exact ⟨t,rfl,h2,h3⟩
theorem line9 (hn:200000≤n) (s:SR) (p pl0:Int) (hp0:0≤p) (hp5:p≤5) {k:Nat} (hk:k≤1000) (hz:Sz s k) (w:List (List UInt8)) (h0:w≠[]) (hw:w.length≤1000) (hg:∀ x∈w,Good x) (m:Nat) :
  Rs (disp s p w) (nxt p) (Q1e.l n (m+1) (.z9 (Ws w) p s.lg (bs s.g.nm) (bs s.g.fm) s.g.uq (bs s.l.nm) (bs s.l.fm) s.l.uq pl0 (s.g.ds.map FD.av) (s.g.ks.map KF.av) (Ws s.l.ws) (s.l.fs.map LF.av) (s.l.js.map JP.av) (s.l.ks.map KF.av) (s.l.rs.map RL.av))):=by
 rw [Q1e.at9]
 unfold Q1e.r9 disp
 have c5:((5:Nat):Int)=5:=rfl
 have c4:((4:Nat):Int)=4:=rfl
 have c3:((3:Nat):Int)=3:=rfl
 have c2:((2:Nat):Int)=2:=rfl
 have c1:((1:Nat):Int)=1:=rfl
 have c0:((0:Nat):Int)=0:=rfl
 rw [c5,c4,c3,c2,c1,c0]
 by_cases h5:p=5
 ·rw [cond_t h5,if_pos h5]
  exact (rule_eq (by omega) s (nxt p) hk hz w h0 hw hg).eta
 rw [cond_f h5,if_neg h5]
 by_cases h4:p=4
 ·rw [cond_t h4,if_pos h4]
  exact (key_eq (by omega) s (nxt p) hk hz w hw hg).eta
 rw [cond_f h4,if_neg h4]
 by_cases h3:p=3
 ·rw [cond_t h3,if_pos h3]
  exact (field_eq (by omega) s (nxt p) hk hz w hw hg).eta
 rw [cond_f h3,if_neg h3]
 by_cases h2:p=2
 ·rw [cond_t h2,if_pos h2]
  exact (join_eq (by omega) s (nxt p) hk hz w hw hg).eta
 rw [cond_f h2,if_neg h2]
 by_cases h1:p=1
 ·rw [cond_t h1,if_pos h1]
  exact (base_eq (by omega) s (nxt p) hk hz w hw hg).eta
 rw [cond_f h1,if_neg h1]
 have h00:p=0:=by omega
 rw [cond_t h00]
 exact (format_eq (by omega) s (nxt p) w hw hg).eta
theorem line_eq (hn:200000≤n) (s:SR) (pl:Int) (hp:0≤pl) {k:Nat} (hk:k≤1000) (hz:Sz s k) (w:List (List UInt8)) (hw:w.length≤1000) (hg:∀ x∈w,Good x) :
  Rs (stLine s pl w) (nextP w) (Q1e.F n (Ws w) s.lg (bs s.g.nm) (bs s.g.fm) s.g.uq (bs s.l.nm) (bs s.l.fm) s.l.uq pl (s.g.ds.map FD.av) (s.g.ks.map KF.av) (Ws s.l.ws) (s.l.fs.map LF.av) (s.l.js.map JP.av) (s.l.ks.map KF.av) (s.l.rs.map RL.av)):=by
 obtain ⟨m,rfl⟩ : ∃ m,n=m+1:=⟨n - 1,by omega⟩
 have e8:∀ z1 z2 z3 z4 z5 z6 z7 z8 z9 z10 z11 z12 z13 z14 z15,Q1e.l (m+1) (m+1) (.z8 z1 z2 z3 z4 z5 z6 z7 z8 z9 z10 z11 z12 z13 z14 z15)=some (false,z1,z2,z3,z4,z5,z6,z7,z8,z9,z10,z11,z12,z13,z14,z15):=fun _ _ _ _ _ _ _ _ _ _ _ _ _ _ _=>rfl
 unfold Q1e.F Q1e.e
 simp only [e8]
 match w,hw,hg with
 | [],_,_=>exact Rs.no
 | k0::r,hw,hg=>
  have hlen:=(hg k0 (by simp)).len
  obtain ⟨r1,r2⟩:=plc_range k0
  have fin:∀ p:Int,p=plc k0→Rs (stLine s pl (k0::r)) (nextP (k0::r)) (bif decide (p < pl) then some (false,s.lg,bs s.g.nm,bs s.g.fm,s.g.uq,bs s.l.nm,bs s.l.fm,s.l.uq,pl,s.g.ds.map FD.av,s.g.ks.map KF.av,Ws s.l.ws,s.l.fs.map LF.av,s.l.js.map JP.av,s.l.ks.map KF.av,s.l.rs.map RL.av) else (bif pl==0 then (bif decide (p > 0) then some (false,s.lg,bs s.g.nm,bs s.g.fm,s.g.uq,bs s.l.nm,bs s.l.fm,s.l.uq,pl,s.g.ds.map FD.av,s.g.ks.map KF.av,Ws s.l.ws,s.l.fs.map LF.av,s.l.js.map JP.av,s.l.ks.map KF.av,s.l.rs.map RL.av) else Q1e.l (m+1) (m+1) (.z9 (Ws (k0::r)) p s.lg (bs s.g.nm) (bs s.g.fm) s.g.uq (bs s.l.nm) (bs s.l.fm) s.l.uq pl (s.g.ds.map FD.av) (s.g.ks.map KF.av) (Ws s.l.ws) (s.l.fs.map LF.av) (s.l.js.map JP.av) (s.l.ks.map KF.av) (s.l.rs.map RL.av)))
    else Q1e.l (m+1) (m+1) (.z9 (Ws (k0::r)) p s.lg (bs s.g.nm) (bs s.g.fm) s.g.uq (bs s.l.nm) (bs s.l.fm) s.l.uq pl (s.g.ds.map FD.av) (s.g.ks.map KF.av) (Ws s.l.ws) (s.l.fs.map LF.av) (s.l.js.map JP.av) (s.l.ks.map KF.av) (s.l.rs.map RL.av)))):=by
   intro p e
   subst e
   rw [stLine_cons]
   by_cases a1:plc k0 < pl
   ·rw [cond_t a1,if_pos a1]
    exact Rs.no
   ·have h9:=line9 (n:=m+1) hn s (plc k0) pl (by omega) r2 hk hz (k0::r) (by simp) hw hg m
    rw [cond_f a1,if_neg a1,beq_int]
    by_cases a2:pl=0
    ·rw [cond_t a2]
     by_cases a3:plc k0 > 0
     ·rw [cond_t a3,if_pos ⟨a2,a3⟩]
      exact Rs.no
     ·rw [cond_f a3,if_neg (fun h=>a3 h.2)]
      exact h9
    ·rw [cond_f a2,if_neg (fun h=>a2 h.1)]
     exact h9
  simp (disch:=omega) only [Option.bind_some,Option.bind_none,cond_true,cond_false,Bool.not_true,Bool.not_false,List.length_map,Ws_length,bs_size,within_t,upto_t,wsucc,Int.toNat_natCast,at_mapN,Ws_getDN,cells_agg,cells_v,withCons_cons,withInt_mk,withStr_mk,withBool_mk,withSl_mk,cond_t,cond_f,List.length_cons,beqI_f,g0,lit1,str_eq]
  unfold Q4h.F
  by_cases h79:k0=[79]
  ·rw [cond_t h79,cond_t (by decide),Option.bind_some]
   exact fin 5 (by unfold plc; rw [if_pos h79])
  ·rw [cond_f h79,cond_t (by show 6 < _; decide),Option.bind_some]
   by_cases h1:k0.length=1
   ·have hp:Lib.index (⟨#[82,66,74,70,75,83]⟩ : ByteArray).data.toList (bs k0).data.toList=plc k0:=by
     unfold plc
     rw [if_neg h79,if_neg (by simp [h1])]
    rw [hp,bneI_f (by omega),cond_false]
    exact fin (plc k0) rfl
   ·have hp:plc k0=-1:=by
     unfold plc
     rw [if_neg h79,if_pos h1]
    rw [bneI_t (by omega),cond_true]
    have:stLine s pl (k0::r)=none:=by
     rw [stLine_cons,hp,if_pos (by omega)]
    rw [this]
    exact Rs.no
theorem head_eq (hn:1001≤n) (s:SR) (pl:Int) (w:List (List UInt8)) (hw:w.length≤1000) (hg:∀ x∈w,Good x) :
  Rs (stHead s w) pl (Q1b.F n (Ws w) s.lg (bs s.g.nm) (bs s.g.fm) s.g.uq (bs s.l.nm) (bs s.l.fm) s.l.uq pl (s.g.ds.map FD.av) (s.g.ks.map KF.av) (Ws s.l.ws) (s.l.fs.map LF.av) (s.l.js.map JP.av) (s.l.ks.map KF.av) (s.l.rs.map RL.av)):=by
 obtain ⟨m,rfl⟩ : ∃ m,n=m+1:=⟨n - 1,by omega⟩
 have e3:∀ z1 z2 z3 z4 z5 z6 z7 z8 z9 z10 z11 z12 z13 z14 z15,Q1b.l (m+1) (m+1) (.z3 z1 z2 z3 z4 z5 z6 z7 z8 z9 z10 z11 z12 z13 z14 z15)=some (false,z1,z2,z3,z4,z5,z6,z7,z8,z9,z10,z11,z12,z13,z14,z15):=fun _ _ _ _ _ _ _ _ _ _ _ _ _ _ _=>rfl
 have add:∀ (u:Bool) (a b:List UInt8) (r:List (List UInt8)),(a=[80,70]∨a=[76,70])→Rs (hd1 s a b u) pl (Q1b.l (m+1) (m+1) (.z4 (Ws (a::b::r)) u s.lg (bs s.g.nm) (bs s.g.fm) s.g.uq (bs s.l.nm) (bs s.l.fm) s.l.uq pl (s.g.ds.map FD.av) (s.g.ks.map KF.av) (Ws s.l.ws) (s.l.fs.map LF.av) (s.l.js.map JP.av) (s.l.ks.map KF.av) (s.l.rs.map RL.av))):=by
  intro u a b r hab
  rw [Q1b.at4]
  unfold Q1b.r4 hd1
  simp (disch:=omega) only [Option.bind_some,Option.bind_none,cond_true,cond_false,Bool.not_true,Bool.not_false,List.length_map,Ws_length,bs_size,within_t,upto_t,wsucc,Int.toNat_natCast,at_mapN,Ws_getDN,cells_agg,cells_v,withCons_cons,withInt_mk,withStr_mk,withBool_mk,withSl_mk,cond_t,cond_f,List.length_cons,List.length_nil,g0,g1,lit2,str_eq]
  rcases hab with rfl | rfl
  ·exact Rs.yes rfl
  ·exact Rs.yes rfl
 unfold Q1b.F Q1b.e
 simp only [e3]
 match w,hw,hg with
 | [],_,_=>exact Rs.no
 | [_],_,_=>exact Rs.no
 | [k0,a],_,hg=>
  have hb:=bare1 (n:=m+1) hn (hg a (by simp))
  unfold stHead
  simp (disch:=omega) only [Option.bind_some,Option.bind_none,cond_true,cond_false,Bool.not_true,Bool.not_false,List.length_map,Ws_length,bs_size,within_t,upto_t,wsucc,Int.toNat_natCast,at_mapN,Ws_getDN,cells_agg,cells_v,withCons_cons,withInt_mk,withStr_mk,withBool_mk,withSl_mk,cond_t,cond_f,List.length_cons,List.length_nil,bneI_t,bneI_f,beqI_t,beqI_f,g0,g1,hb,lit2,str_eq]
  by_cases h1:k0=[80,70]
  ·simp only [h1,decide_true,Bool.not_true,cond_false]
   cases isB a
   ·exact Rs.no
   ·exact add false [80,70] a [] (.inl rfl)
  ·simp only [h1,decide_false,Bool.not_false,cond_true]
   by_cases h2:k0=[76,70]
   ·simp only [h2,decide_true,Bool.not_true,cond_false]
    cases isB a
    ·exact Rs.no
    ·exact add false [76,70] a [] (.inr rfl)
   ·simp only [h2,decide_false,Bool.not_false,cond_true]
    have:(if isB a=true then hd1 s k0 a false else none)=none:=by
     unfold hd1
     rw [if_neg h1,if_neg h2,ite_self]
    rw [this]
    exact Rs.no
 | [k0,a,u],_,hg=>
  have hb:=bare1 (n:=m+1) hn (hg a (by simp))
  have l6:(⟨#[85,78,73,81,85,69]⟩ : ByteArray)=bs [85,78,73,81,85,69]:=rfl
  unfold stHead
  simp (disch:=omega) only [Option.bind_some,Option.bind_none,cond_true,cond_false,Bool.not_true,Bool.not_false,List.length_map,Ws_length,bs_size,within_t,upto_t,wsucc,Int.toNat_natCast,at_mapN,Ws_getDN,cells_agg,cells_v,withCons_cons,withInt_mk,withStr_mk,withBool_mk,withSl_mk,cond_t,cond_f,List.length_cons,List.length_nil,bneI_t,bneI_f,beqI_t,beqI_f,g0,g1,g2,hb,lit2,l6,str_eq]
  by_cases hu:u=[85,78,73,81,85,69]
  ·simp only [hu,decide_true,Bool.not_true,cond_false,Bool.and_true]
   by_cases h1:k0=[80,70]
   ·simp only [h1,decide_true,Bool.not_true,cond_false]
    cases isB a
    ·exact Rs.no
    ·exact add true [80,70] a [[85,78,73,81,85,69]] (.inl rfl)
   ·simp only [h1,decide_false,Bool.not_false,cond_true]
    by_cases h2:k0=[76,70]
    ·simp only [h2,decide_true,Bool.not_true,cond_false]
     cases isB a
     ·exact Rs.no
     ·exact add true [76,70] a [[85,78,73,81,85,69]] (.inr rfl)
    ·simp only [h2,decide_false,Bool.not_false,cond_true]
     have:(if isB a=true then hd1 s k0 a true else none)=none:=by
      unfold hd1
      rw [if_neg h1,if_neg h2,ite_self]
     rw [this]
     exact Rs.no
  ·simp only [hu,decide_false,Bool.not_false,cond_true,Bool.and_false,Bool.false_eq_true,if_false]
   exact Rs.no
 | a::b::c::d::r,_,_=>
  simp (disch:=omega) only [Option.bind_some,Option.bind_none,cond_true,cond_false,Bool.not_true,Bool.not_false,List.length_map,Ws_length,bs_size,within_t,upto_t,wsucc,Int.toNat_natCast,at_mapN,Ws_getDN,cells_agg,cells_v,withCons_cons,withInt_mk,withStr_mk,withBool_mk,withSl_mk,cond_t,cond_f,List.length_cons,List.length_nil,bneI_t,bneI_f,beqI_t,beqI_f]
  exact Rs.no
end
end Go.Proofs.YtmpglmcjoelciaaGreatDoor.Ev
namespace Go.Proofs.YtmpglmcjoelciaaGreatDoor.Ev
open Go Go.Proofs Go.Proofs.Ev
set_option linter.unusedVariables false
set_option linter.unusedSimpArgs false
def zG:FL:=⟨[],[],[],[],false⟩
def zL:LG:=⟨[],[],[],[],[],[],false,[]⟩
def zS:SR:=⟨false,zG,zL⟩
end Go.Proofs.YtmpglmcjoelciaaGreatDoor.Ev
namespace Go.Proofs.YtmpglmcjoelciaaGreatDoor.Ev
open Go Go.Proofs Go.Proofs.Ev
set_option linter.unusedVariables false
set_option linter.unusedSimpArgs false
def lineW (l:List UInt8):List (List UInt8):=if l.length > 240∨l.all okc=false∨l=[] then [] else (wordsP (l.length+1) l).getD []
def lineE (l:List UInt8):Int:=if l.length > 240 then 2 else if l.all okc=false then 8 else if l=[] then 0 else if (wordsP (l.length+1) l).isNone then 8 else 0
theorem wordsR_line (l:List UInt8):wordsR l=(Ws (lineW l),lineE l):=by
 unfold wordsR lineW lineE
 by_cases h1:l.length > 240
 ·simp [h1,Ws]
 ·by_cases h2:l.all okc=false
  ·simp only [h1,h2,if_false,if_true,true_or,or_true]
   rfl
  ·by_cases h3:l=[]
   ·simp only [h1,h2,h3,if_false,if_true,or_true]
    rfl
   ·simp only [h1,h2,h3,if_false,or_self]
    cases wordsP (l.length+1) l with
    | none=>rfl
    | some ws=>rfl
theorem lineW_good {l:List UInt8} (hl:l.length≤1000):(lineW l).length≤1000∧∀ w∈lineW l,Good w:=by
 unfold lineW
 by_cases h:l.length > 240∨l.all okc=false∨l=[]
 ·rw [if_pos h]; exact ⟨by simp,by simp⟩
 ·rw [if_neg h]
  cases hp:wordsP (l.length+1) l with
  | none=>exact ⟨by simp,by simp⟩
  | some ws=>
   have:=wordsP_len _ _ _ hp
   exact ⟨by simp only [Option.getD_some]; omega,wordsP_good _ _ _ hl hp⟩
def parseL (L:Nat):List (List UInt8)→SR→Int→Int→SR × Int × Int
 | [],s,p,_=>if p=1 then (zS,L,9) else if srcE s.lg s.g s.l≠0 then (zS,0,srcE s.lg s.g s.l) else (s,0,0)
 | x::r,s,p,i=>if lineE x≠0 then (zS,i,lineE x) else match (if p=0 then stHead s (lineW x) else stLine s (p - 1) (lineW x)) with
  | none=>(zS,i,8)
  | some s'=>parseL L r s' (if p=0 then 1 else nextP (lineW x)+1) (i+1)
def parseX (ls:List (List UInt8)):SR × Int × Int:=if ls.length=0 then (zS,0,1) else if ls.length > 100 then (zS,0,2) else parseL ls.length ls zS 0 0
def resT (x:SR × Int × Int):Bool × ByteArray × ByteArray × List AV × List AV × Bool × ByteArray × ByteArray × List AV × List AV × List AV × List AV × Bool × List AV × Int × Int:=
 (x.1.lg,bs x.1.g.nm,bs x.1.g.fm,x.1.g.ds.map FD.av,x.1.g.ks.map KF.av,x.1.g.uq,bs x.1.l.nm,bs x.1.l.fm,Ws x.1.l.ws,x.1.l.fs.map LF.av,x.1.l.js.map JP.av,x.1.l.ks.map KF.av,x.1.l.uq,x.1.l.rs.map RL.av,x.2.1,x.2.2)
structure Inv (s:SR) (k:Nat):Prop where
 sz:Sz s k
 cs:∀ r∈s.l.rs,r.cs.length≤1000
theorem cndP_len:∀ (k:Nat) (l:List (List UInt8)) (cs:List CN),l.length≤k→cndP l=some cs→cs.length≤l.length
 | _,[],cs,_,h=>by cases h; simp
 | _,[_],cs,_,h=>by cases h
 | _,[_,_],cs,_,h=>by cases h
 | _,[a,o,v],cs,_,h=>by
  unfold cndP at h
  cases hc:cnd1 a o v with
  | none=>rw [hc] at h; cases h
  | some c=>rw [hc] at h; cases h; simp
 | _,[_,_,_,_],cs,_,h=>by cases h
 | 0,_::_::_::_::_::_,_,hk,_=>absurd hk (by simp)
 | k+1,a::o::v::d::b::r,cs,hk,h=>by
  unfold cndP at h
  by_cases hd:d=[65,78,68]
  ·rw [if_pos hd] at h
   cases hc:cnd1 a o v with
   | none=>rw [hc] at h; cases h
   | some c=>
    rw [hc,Option.bind_some] at h
    cases hr:cndP (b::r) with
    | none=>rw [hr] at h; cases h
    | some q=>
     rw [hr] at h
     cases h
     have:=cndP_len k (b::r) q (by simp at hk ⊢; omega) hr
     simp only [List.length_cons] at this ⊢
     omega
  ·rw [if_neg hd] at h; cases h
theorem Inv.mono {s:SR} {k:Nat} (h:Inv s k):Inv s (k+1):=by
 obtain ⟨⟨a,b,c,d,e,f,g⟩,i⟩:=h
 exact ⟨⟨by omega,by omega,by omega,by omega,by omega,by omega,by omega⟩,i⟩
theorem inv_head {s s' : SR} {k:Nat} {w:List (List UInt8)} (h:Inv s k) (hs:stHead s w=some s'):Inv s' k:=by
 obtain ⟨⟨a,b,c,d,e,f,g⟩,i⟩:=h
 unfold stHead hd1 at hs
 (repeat' split at hs) <;> cases hs <;> exact ⟨⟨a,b,c,d,e,f,g⟩,i⟩
theorem inv_disp {s s' : SR} {k:Nat} {p:Int} {w:List (List UInt8)} (hw:w.length≤1000) (h:Inv s k) (hs:disp s p w=some s'):Inv s' (k+1):=by
 have hm:=h.mono
 obtain ⟨⟨a,b,c,d,e,f,g⟩,i⟩:=h
 obtain ⟨⟨a',b',c',d',e',f',g'⟩,_⟩:=hm
 unfold disp at hs
 split at hs
 ·unfold stRule addR at hs
  split at hs
  ·cases hs
  ·split at hs
   ·rename_i k0 r hl
    cases hc:cndP r with
    | none=>rw [hc] at hs; cases hs
    | some cs=>
     rw [hc] at hs
     cases hs
     have hcl:=cndP_len r.length r cs (Nat.le_refl _) hc
     simp only [List.length_cons] at hw
     refine ⟨⟨a',b',c',d',e',f',by simp; omega⟩,?_⟩
     intro x hx
     rcases List.mem_append.1 hx with hx | hx
     ·exact i x hx
     ·rw [List.mem_singleton] at hx
      subst hx
      show cs.length≤1000
      omega
   ·cases hs
 split at hs
 ·unfold stKey addKey at hs
  (repeat' split at hs) <;> cases hs <;> refine ⟨⟨?_,?_,?_,?_,?_,?_,?_⟩,i⟩ <;> first | assumption | (simp; omega)
 split at hs
 ·unfold stField at hs
  split at hs
  ·split at hs
   ·obtain ⟨v,_,rfl⟩:=Option.map_eq_some_iff.1 hs
    exact ⟨⟨a',b',c',by simp; omega,e',f',g'⟩,i⟩
   ·cases hs
  ·split at hs
   ·obtain ⟨v,_,rfl⟩:=Option.map_eq_some_iff.1 hs
    exact ⟨⟨by simp; omega,b',c',d',e',f',g'⟩,i⟩
   ·cases hs
  ·cases hs
 split at hs
 ·unfold stJoin at hs
  split at hs
  ·split at hs
   ·obtain ⟨v,_,hs⟩:=Option.bind_eq_some_iff.1 hs
    obtain ⟨u,_,rfl⟩:=Option.map_eq_some_iff.1 hs
    exact ⟨⟨a',b',c',d',by simp; omega,f',g'⟩,i⟩
   ·cases hs
  ·cases hs
 split at hs
 ·unfold stBase at hs
  split at hs
  ·split at hs
   ·cases hs
    exact ⟨⟨a',b',by simp; omega,d',e',f',g'⟩,i⟩
   ·cases hs
  ·cases hs
 ·unfold stFmt at hs
  (repeat' split at hs) <;> cases hs <;> exact ⟨⟨a',b',c',d',e',f',g'⟩,i⟩
theorem inv_line {s s' : SR} {k:Nat} {p:Int} {w:List (List UInt8)} (hw:w.length≤1000) (h:Inv s k) (hs:stLine s p w=some s'):Inv s' (k+1):=by
 match w,hw,hs with
 | [],_,hs=>cases hs
 | k0::r,hw,hs=>
  rw [stLine_cons] at hs
  split at hs
  ·cases hs
  ·split at hs
   ·cases hs
   ·exact inv_disp hw h hs
theorem head_zero {w:List (List UInt8)} {s' : SR} (hs:stHead zS w=some s'):if s'.lg then s'.g=zG else s'.l=zL:=by
 unfold stHead hd1 at hs
 (repeat' split at hs) <;> cases hs <;> rfl
theorem nextP_range (w:List (List UInt8)) (h:w≠[]):1≤nextP w∧nextP w≤5:=by
 match w,h with
 | [],h=>exact absurd rfl h
 | k::r,_=>
  obtain ⟨a,b⟩:=plc_range k
  unfold nextP nxt
  simp only
  split <;> omega
structure At (s:SR) (p:Int) (i:Nat):Prop where
 z:i=0→p=0∧s=zS
 o:i=1→p=1
 m:2≤i→2≤p
 r:0≤p∧p≤6
 h:p=1→if s.lg then s.g=zG else s.l=zL
 c:p=1→i=1
theorem at_next {s s' : SR} {p:Int} {i:Nat} {w:List (List UInt8)} (ha:At s p i) (hw:w≠[]) (hs:(if p=0 then stHead s w else stLine s (p - 1) w)=some s'):At s' (if p=0 then 1 else nextP w+1) (i+1):=by
 obtain ⟨n1,n2⟩:=nextP_range w hw
 by_cases hp:p=0
 ·have hi:i=0:=by
   refine Classical.byContradiction fun h=>?_
   by_cases h1:i=1
   ·have:=ha.o h1; omega
   ·have:=ha.m (by omega); omega
  obtain ⟨_,rfl⟩:=ha.z hi
  rw [if_pos hp] at hs ⊢
  exact ⟨fun h=>absurd h (by omega),fun _=>rfl,fun h=>absurd h (by omega),by omega,fun _=>head_zero hs,fun _=>by omega⟩
 ·have hi:i≠0:=fun h=>hp (ha.z h).1
  rw [if_neg hp]
  exact ⟨fun h=>absurd h (by omega),fun h=>absurd h (by omega),fun _=>by omega,by omega,fun h=>absurd h (by omega),fun h=>absurd h (by omega)⟩
section
variable {n:Nat}
theorem few_of {s:SR} {k:Nat} (hk:k≤1000) (h:Inv s k):Few s.g s.l:=by
 obtain ⟨⟨a,b,c,d,e,f,g⟩,i⟩:=h
 exact ⟨by omega,by omega,by omega,by omega,by omega,by omega,by omega,i⟩
theorem parsed_l (hn:300000≤n) (ls:List (List UInt8)) (hL:ls.length≤100) (h300:∀ x∈ls,x.length≤300) {b5 b8 b11:Bool} {b6 b7 b9 b10:ByteArray}:∀ (d i m:Nat) (s:SR) (p:Int),i+d=ls.length→d < m→Inv s i→At s p i→
  Q0c.l n m (.z6 (Ws ls) (Ws ls) ls.length i b5 b6 b7 b8 b9 b10 b11 s.lg (bs s.g.nm) (bs s.g.fm) s.g.uq (bs s.l.nm) (bs s.l.fm) s.l.uq (if p=0 then 0 else p - 1) (s.g.ds.map FD.av) (s.g.ks.map KF.av) (Ws s.l.ws) (s.l.fs.map LF.av) (s.l.js.map JP.av) (s.l.ks.map KF.av) (s.l.rs.map RL.av))=some (resT (parseL ls.length (ls.drop i) s p i))
 | _,_,0,_,_,_,h,_,_=>absurd h (by omega)
 | 0,i,m+1,s,p,h,hm,hi,ha=>by
  rw [Q0c.at6]
  unfold Q0c.r6
  have hse:=srcErr_eq (n:=n) (lg:=s.lg) (g:=s.g) (l:=s.l) (by omega) (few_of (by omega) hi)
  simp (disch:=omega) only [Option.bind_some,Option.bind_none,cond_true,cond_false,Bool.not_true,Bool.not_false,List.length_map,Ws_length,bs_size,within_t,upto_t,wsucc,Int.toNat_natCast,at_mapN,Ws_getDN,cells_agg,cells_v,withCons_cons,withInt_mk,withStr_mk,withBool_mk,withSl_mk,cond_t,cond_f,hse]
  rw [List.drop_of_length_le (show ls.length≤i by omega)]
  unfold parseL
  by_cases hp:p=1
  ·have:=ha.c hp
   rw [if_pos hp,beqI_t (by omega),cond_true,show (ls.length:Int)=1 by omega]
   rfl
  ·have h1:ls.length≠1:=fun e=>hp (ha.o (by omega))
   rw [if_neg hp,beqI_f (by omega),cond_false,bif_ne]
   by_cases he:srcE s.lg s.g s.l=0
   ·rw [if_neg (by simp [he]),if_neg (by simp [he])]; rfl
   ·rw [if_pos he,if_pos he]; rfl
 | d+1,i,m+1,s,p,h,hm,hi,ha=>by
  have hil:i < ls.length:=by omega
  have h3:=h300 ls[i] (List.getElem_mem hil)
  obtain ⟨wl,wg⟩:=lineW_good (l:=ls[i]) (by omega)
  have hwo:=wordsOf_eq (n:=n) (by omega) ls[i] (by omega)
  rw [wordsR_line] at hwo
  rw [Q0c.at6]
  unfold Q0c.r6
  simp (disch:=omega) only [Option.bind_some,Option.bind_none,cond_true,cond_false,Bool.not_true,Bool.not_false,List.length_map,Ws_length,bs_size,within_t,upto_t,wsucc,Int.toNat_natCast,at_mapN,Ws_getDN,cells_agg,cells_v,withCons_cons,withInt_mk,withStr_mk,withBool_mk,withSl_mk,cond_t,cond_f,hwo]
  rw [List.drop_eq_getElem_cons hil,bif_ne]
  unfold parseL
  by_cases he:lineE ls[i]=0
  case neg=>rw [if_pos he,if_pos he]; rfl
  rw [if_neg (show ¬ (lineE ls[i]≠0) from fun h=>h he),if_neg (show ¬ (lineE ls[i]≠0) from fun h=>h he)]
  have go:∀ (o:Option SR) (pl:Int) (x:Option (Bool × Bool × ByteArray × ByteArray × Bool × ByteArray × ByteArray × Bool × Int × List AV × List AV × List AV × List AV × List AV × List AV × List AV)),Rs o pl x→(∀ s',o=some s'→Q0c.l n m (.z6 (Ws ls) (Ws ls) ls.length ((i+1:Nat):Int) b5 b6 b7 b8 b9 b10 b11 s'.lg (bs s'.g.nm) (bs s'.g.fm) s'.g.uq (bs s'.l.nm) (bs s'.l.fm) s'.l.uq pl (s'.g.ds.map FD.av) (s'.g.ks.map KF.av) (Ws s'.l.ws) (s'.l.fs.map LF.av) (s'.l.js.map JP.av) (s'.l.ks.map KF.av) (s'.l.rs.map RL.av))=some (resT (parseL ls.length (ls.drop (i+1)) s' (if p=0 then 1 else nextP (lineW ls[i])+1) (i+1))))→
    (x.bind fun p10=>bif !p10.1 then some (false,(⟨#[]⟩ : ByteArray),(⟨#[]⟩ : ByteArray),([]:List AV),([]:List AV),false,(⟨#[]⟩ : ByteArray),(⟨#[]⟩ : ByteArray),([]:List AV),([]:List AV),([]:List AV),([]:List AV),false,([]:List AV),(i:Int),(8:Int)) else Q0c.l n m (.z6 (Ws ls) (Ws ls) ls.length ((i+1:Nat):Int) b5 b6 b7 b8 b9 b10 b11 p10.2.1 p10.2.2.1 p10.2.2.2.1 p10.2.2.2.2.1 p10.2.2.2.2.2.1 p10.2.2.2.2.2.2.1 p10.2.2.2.2.2.2.2.1 p10.2.2.2.2.2.2.2.2.1 p10.2.2.2.2.2.2.2.2.2.1 p10.2.2.2.2.2.2.2.2.2.2.1 p10.2.2.2.2.2.2.2.2.2.2.2.1 p10.2.2.2.2.2.2.2.2.2.2.2.2.1 p10.2.2.2.2.2.2.2.2.2.2.2.2.2.1 p10.2.2.2.2.2.2.2.2.2.2.2.2.2.2.1 p10.2.2.2.2.2.2.2.2.2.2.2.2.2.2.2)) =
    some (resT (match o with | none=>(zS,(i:Int),8) | some s'=>parseL ls.length (ls.drop (i+1)) s' (if p=0 then 1 else nextP (lineW ls[i])+1) (i+1))):=by
   intro o pl x hx hs
   obtain ⟨t,rfl,t1,t2⟩:=hx
   rw [Option.bind_some]
   cases o with
   | none=>rw [show t.1=false from t1]; rfl
   | some s'=>
    have:=t2 s' rfl
    subst this
    exact hs s' rfl
  by_cases hp:p=0
  ·have hi0:i=0:=by
    refine Classical.byContradiction fun h=>?_
    by_cases h1:i=1
    ·have:=ha.o h1; omega
    ·have:=ha.m (by omega); omega
   rw [beqI_t (show (i:Int)=0 by omega),cond_true]
   simp only [hp,if_true]
   have hh:=head_eq (n:=n) (by omega) s 0 (lineW ls[i]) wl wg
   have:=go (stHead s (lineW ls[i])) 0 _ hh (fun s' hs=>by
    have hne:lineW ls[i]≠[]:=by intro e; rw [e] at hs; cases hs
    have hat:=at_next (w:=lineW ls[i]) ha hne (s':=s') (by rw [if_pos hp]; exact hs)
    have:=parsed_l hn ls hL h300 (b5:=b5) (b6:=b6) (b7:=b7) (b8:=b8) (b9:=b9) (b10:=b10) (b11:=b11) d (i+1) m s' _ (by omega) (by omega) (inv_head hi hs).mono hat
    rw [if_pos hp] at this
    rw [if_pos hp]
    exact this)
   rw [if_pos hp] at this
   exact this
  ·have hi0:i≠0:=fun h=>hp (ha.z h).1
   rw [beqI_f (show (i:Int)≠0 by omega),cond_false,if_neg hp,if_neg hp]
   obtain ⟨r0,r1⟩:=ha.r
   have hh:=line_eq (n:=n) (by omega) s (p - 1) (by omega) (k:=i) (by omega) hi.sz (lineW ls[i]) wl wg
   have:=go (stLine s (p - 1) (lineW ls[i])) _ _ hh (fun s' hs=>by
    have hne:lineW ls[i]≠[]:=by intro e; rw [e] at hs; cases hs
    obtain ⟨n1,n2⟩:=nextP_range _ hne
    have hat:=at_next (w:=lineW ls[i]) ha hne (s':=s') (by rw [if_neg hp]; exact hs)
    have:=parsed_l hn ls hL h300 (b5:=b5) (b6:=b6) (b7:=b7) (b8:=b8) (b9:=b9) (b10:=b10) (b11:=b11) d (i+1) m s' _ (by omega) (by omega) (inv_line wl hi hs) hat
    rw [if_neg hp] at this
    rw [if_neg hp]
    rw [if_neg (by omega),show nextP (lineW ls[i])+1 - 1=nextP (lineW ls[i]) by omega] at this
    exact this)
   exact this
end
end Go.Proofs.YtmpglmcjoelciaaGreatDoor.Ev
namespace Go.Proofs.YtmpglmcjoelciaaGreatDoor.Ev
open Go Go.Proofs Go.Proofs.Ev
set_option linter.unusedVariables false
set_option linter.unusedSimpArgs false
section
variable {n:Nat} {nm fm:List UInt8} {ws:List (List UInt8)} {fs:List LF} {js:List JP} {ks:List KF} {uq:Bool} {rs:List RL} {gs:List FL}
theorem over_found (h:(overT gs ws fs js rs).2=0):∀ w∈ws,fnd gs w:=by
 unfold overT at h
 by_cases h0:filesE gs=0
 ·rw [if_neg (by simp [h0])] at h
  have:∀ (l:List (List UInt8)) (i:Nat),(ovB gs (ws.map (baseOf gs)) (fs.map (mkF (ws.map (baseOf gs)))) fs js rs l i).2=0→∀ w∈l,fnd gs w:=by
   intro l
   induction l with
   | nil=>simp
   | cons x l ih=>
    intro i h
    rw [ovB_cons] at h
    by_cases h1:gs.find? (fun g=>g.nm==x)=none
    ·rw [if_pos h1] at h; cases h
    ·rw [if_neg h1] at h
     intro w hw
     rcases List.mem_cons.1 hw with rfl | hw
     ·exact h1
     ·exact ih (i+1) h w hw
  exact this ws 0 h
 ·rw [if_pos h0] at h; exact absurd h h0
end
end Go.Proofs.YtmpglmcjoelciaaGreatDoor.Ev
namespace Go.Proofs.YtmpglmcjoelciaaGreatDoor.Ev
open Go Go.Proofs Go.Proofs.Ev
set_option linter.unusedVariables false
section
variable {n:Nat} {nm fm:ByteArray} {ws:List (List UInt8)} {fs:List LF} {js:List JP} {ks:List KF} {uq:Bool} {rs:List RL}
theorem fewKeys_l (hk:ks.length≤1000):∀ (d i m:Nat),i+d=ks.length→d < m→∃ b,Q2k.l n m (.z2 (ks.map KF.av) i)=some b
 | _,_,0,_,h=>absurd h (by omega)
 | 0,i,m+1,h,_=>by
  rw [Q2k.at2]
  unfold Q2k.r2
  simp only [List.length_map]
  exact ⟨true,by rw [cond_f (by omega)]⟩
 | d+1,i,m+1,h,hm=>by
  have hi:i < ks.length:=by omega
  obtain ⟨b,ih⟩:=fewKeys_l hk d (i+1) m (by omega) (by omega)
  rw [Q2k.at2]
  unfold Q2k.r2
  simp only [List.length_map]
  rw [cond_t (by omega),within_t hi,cond_true,at_map KF.av hi]
  show ∃ b,(bif decide ((((bs ks[i].nm).size:Nat):Int) > 100) then some false else Q2k.l n m (.z2 (ks.map KF.av) (IntKind.i64.wrap ((i:Int)+1))))=some b
  rw [wsucc (by omega),ih]
  cases decide ((((bs ks[i].nm).size:Nat):Int) > 100)
  ·exact ⟨b,rfl⟩
  ·exact ⟨false,rfl⟩
def fewC (rs:List RL) (i:Nat):Prop:=∀ k (h:k < rs.length),i≤k→rs[k].cs.length≤8
theorem few19 (hr:rs.length≤1000):∀ (d i m:Nat),i+d=rs.length→20*d < m→∃ b,Q2i.l n m (.z19 i nm fm (Ws ws) (fs.map LF.av) (js.map JP.av) (ks.map KF.av) uq (rs.map RL.av))=some b∧(b=true→fewC rs i)
 | 0,i,m,h,hm=>by
  obtain ⟨m,rfl⟩ : ∃ q,m=q+1:=⟨m - 1,by omega⟩
  rw [Q2i.at19]
  unfold Q2i.r19
  simp only [List.length_map]
  exact ⟨true,by rw [cond_f (by omega)],fun _ k hk hik=>absurd hk (by omega)⟩
 | d+1,i,m,h,hm=>by
  obtain ⟨m,rfl⟩ : ∃ q,m=q+1:=⟨m - 1,by omega⟩
  have hi:i < rs.length:=by omega
  have inner:∀ (e j q:Nat),rs[i].cs.length≤8→j+e=rs[i].cs.length→20*d+2+e≤q→∃ b,Q2i.l n q (.z24 i j nm fm (Ws ws) (fs.map LF.av) (js.map JP.av) (ks.map KF.av) uq (rs.map RL.av))=some b∧(b=true→fewC rs (i+1)):=by
   intro e
   induction e with
   | zero=>
    intro j q h8 hj hq
    obtain ⟨q,rfl⟩ : ∃ r,q=r+1:=⟨q - 1,by omega⟩
    obtain ⟨b,h1,h2⟩:=few19 hr d (i+1) q (by omega) (by omega)
    refine ⟨b,?_,h2⟩
    rw [Q2i.at24]
    unfold Q2i.r24
    simp only [List.length_map]
    rw [within_t hi,cond_true,at_map RL.av hi]
    show (bif decide ((j:Int) < (((rs[i].cs.map CN.av).length:Nat):Int)) then _ else _)=_
    rw [List.length_map,cond_f (by omega),wsucc (by omega)]
    exact h1
   | succ e ih=>
    intro j q h8 hj hq
    obtain ⟨q,rfl⟩ : ∃ r,q=r+1:=⟨q - 1,by omega⟩
    have hjl:j < rs[i].cs.length:=by omega
    obtain ⟨b,h1,h2⟩:=ih (j+1) q h8 (by omega) (by omega)
    rw [Q2i.at24]
    unfold Q2i.r24
    simp only [List.length_map]
    rw [within_t hi,cond_true,at_map RL.av hi]
    show ∃ b,(bif decide ((j:Int) < (((rs[i].cs.map CN.av).length:Nat):Int)) then (bif true then (bif decide ((0:Int)≤(j:Int))&&decide ((j:Int) < (((rs[i].cs.map CN.av).length:Nat):Int)) then
     (withCons (((rs[i].cs.map CN.av).getD (((j:Nat):Int)).toNat .undef).cells) fun h44 r45=>withStr h44 fun s46=>withCons r45 fun h47 r48=>withInt .i64 h47 fun x49=>withCons r48 fun h50 r51=>withInt .i64 h50 fun x52=>withCons r51 fun h53 r54=>withStr h53 fun s55=>
      bif decide (((s46.size:Nat):Int) > 100) then some false else (bif decide (((s55.size:Nat):Int) > 400) then some false else Q2i.l n q (.z24 i (IntKind.i64.wrap ((j:Int)+1)) nm fm (Ws ws) (fs.map LF.av) (js.map JP.av) (ks.map KF.av) uq (rs.map RL.av)))) else none) else none) else _)=some b∧_
    rw [List.length_map,cond_t (by omega),cond_true,within_t hjl,cond_true,at_map CN.av hjl]
    show ∃ b,(bif decide ((((bs rs[i].cs[j].fd).size:Nat):Int) > 100) then some false else (bif decide ((((bs rs[i].cs[j].s).size:Nat):Int) > 400) then some false else Q2i.l n q (.z24 i (IntKind.i64.wrap ((j:Int)+1)) nm fm (Ws ws) (fs.map LF.av) (js.map JP.av) (ks.map KF.av) uq (rs.map RL.av))))=some b∧_
    rw [wsucc (by omega),h1]
    cases decide ((((bs rs[i].cs[j].fd).size:Nat):Int) > 100)
    ·cases decide ((((bs rs[i].cs[j].s).size:Nat):Int) > 400)
     ·exact ⟨b,rfl,h2⟩
     ·exact ⟨false,rfl,nofun⟩
    ·exact ⟨false,rfl,nofun⟩
  rw [Q2i.at19]
  unfold Q2i.r19
  simp only [List.length_map]
  rw [cond_t (by omega),within_t hi,cond_true,at_map RL.av hi]
  show ∃ b,(bif decide ((((rs[i].cs.map CN.av).length:Nat):Int) > 8) then some false else Q2i.l n m (.z24 i 0 nm fm (Ws ws) (fs.map LF.av) (js.map JP.av) (ks.map KF.av) uq (rs.map RL.av)))=some b∧_
  rw [List.length_map]
  by_cases h8:rs[i].cs.length > 8
  ·exact ⟨false,by rw [cond_t (by omega)],nofun⟩
  ·obtain ⟨b,h1,h2⟩:=inner rs[i].cs.length 0 m (by omega) (by omega) (by omega)
   refine ⟨b,by rw [cond_f (by omega)]; exact h1,fun hb k hk hik=>?_⟩
   by_cases hki:k=i
   ·subst hki; omega
   ·exact h2 hb k hk (by omega)
theorem few14 (hj:js.length≤1000) (hr:rs.length≤1000):∀ (d i m:Nat),i+d=js.length→d+20002 < m→∃ b,Q2i.l n m (.z14 i nm fm (Ws ws) (fs.map LF.av) (js.map JP.av) (ks.map KF.av) uq (rs.map RL.av))=some b∧(b=true→fewC rs 0)
 | _,_,0,_,h=>absurd h (by omega)
 | 0,i,m+1,h,hm=>by
  rw [Q2i.at14]
  unfold Q2i.r14
  simp only [List.length_map]
  rw [cond_f (by omega)]
  exact few19 hr rs.length 0 m (by omega) (by omega)
 | d+1,i,m+1,h,hm=>by
  have hi:i < js.length:=by omega
  obtain ⟨b,h1,h2⟩:=few14 hj hr d (i+1) m (by omega) (by omega)
  rw [Q2i.at14]
  unfold Q2i.r14
  simp only [List.length_map]
  rw [cond_t (by omega),within_t hi,cond_true,at_map JP.av hi]
  show ∃ b,(bif decide ((((bs js[i].lf).size:Nat):Int) > 100) then some false else (bif true then (bif decide ((((bs js[i].rt).size:Nat):Int) > 100) then some false else Q2i.l n m (.z14 (IntKind.i64.wrap ((i:Int)+1)) nm fm (Ws ws) (fs.map LF.av) (js.map JP.av) (ks.map KF.av) uq (rs.map RL.av))) else none))=some b∧_
  rw [wsucc (by omega),h1,cond_true]
  cases decide ((((bs js[i].lf).size:Nat):Int) > 100)
  ·cases decide ((((bs js[i].rt).size:Nat):Int) > 100)
   ·exact ⟨b,rfl,h2⟩
   ·exact ⟨false,rfl,nofun⟩
  ·exact ⟨false,rfl,nofun⟩
theorem few9 (hf:fs.length≤1000) (hj:js.length≤1000) (hr:rs.length≤1000):∀ (d i m:Nat),i+d=fs.length→d+21004 < m→∃ b,Q2i.l n m (.z9 i nm fm (Ws ws) (fs.map LF.av) (js.map JP.av) (ks.map KF.av) uq (rs.map RL.av))=some b∧(b=true→fewC rs 0)
 | _,_,0,_,h=>absurd h (by omega)
 | 0,i,m+1,h,hm=>by
  rw [Q2i.at9]
  unfold Q2i.r9
  simp only [List.length_map]
  rw [cond_f (by omega)]
  exact few14 hj hr js.length 0 m (by omega) (by omega)
 | d+1,i,m+1,h,hm=>by
  have hi:i < fs.length:=by omega
  obtain ⟨b,h1,h2⟩:=few9 hf hj hr d (i+1) m (by omega) (by omega)
  rw [Q2i.at9]
  unfold Q2i.r9
  simp only [List.length_map]
  rw [cond_t (by omega),within_t hi,cond_true,at_map LF.av hi]
  show ∃ b,(bif decide ((((bs fs[i].nm).size:Nat):Int) > 100) then some false else (bif true then (bif decide ((((bs fs[i].fd).size:Nat):Int) > 100) then some false else Q2i.l n m (.z9 (IntKind.i64.wrap ((i:Int)+1)) nm fm (Ws ws) (fs.map LF.av) (js.map JP.av) (ks.map KF.av) uq (rs.map RL.av))) else none))=some b∧_
  rw [wsucc (by omega),h1,cond_true]
  cases decide ((((bs fs[i].nm).size:Nat):Int) > 100)
  ·cases decide ((((bs fs[i].fd).size:Nat):Int) > 100)
   ·exact ⟨b,rfl,h2⟩
   ·exact ⟨false,rfl,nofun⟩
  ·exact ⟨false,rfl,nofun⟩
theorem few4 (hw:ws.length≤1000) (hf:fs.length≤1000) (hj:js.length≤1000) (hr:rs.length≤1000):∀ (d i m:Nat),i+d=ws.length→d+22006 < m→∃ b,Q2i.l n m (.z4 i nm fm (Ws ws) (fs.map LF.av) (js.map JP.av) (ks.map KF.av) uq (rs.map RL.av))=some b∧(b=true→fewC rs 0)
 | _,_,0,_,h=>absurd h (by omega)
 | 0,i,m+1,h,hm=>by
  rw [Q2i.at4]
  unfold Q2i.r4
  simp only [Ws_length]
  rw [cond_f (by omega)]
  exact few9 hf hj hr fs.length 0 m (by omega) (by omega)
 | d+1,i,m+1,h,hm=>by
  have hi:i < ws.length:=by omega
  obtain ⟨b,h1,h2⟩:=few4 hw hf hj hr d (i+1) m (by omega) (by omega)
  rw [Q2i.at4]
  unfold Q2i.r4
  simp only [Ws_length]
  rw [cond_t (by omega),within_t hi,cond_true,Ws_getD hi]
  show ∃ b,(bif decide ((((bs ws[i]).size:Nat):Int) > 100) then some false else Q2i.l n m (.z4 (IntKind.i64.wrap ((i:Int)+1)) nm fm (Ws ws) (fs.map LF.av) (js.map JP.av) (ks.map KF.av) uq (rs.map RL.av)))=some b∧_
  rw [wsucc (by omega),h1]
  cases decide ((((bs ws[i]).size:Nat):Int) > 100)
  ·exact ⟨b,rfl,h2⟩
  ·exact ⟨false,rfl,nofun⟩
theorem few_eq (hn:30000≤n):∃ b,Q2i.F n nm fm (Ws ws) (fs.map LF.av) (js.map JP.av) (ks.map KF.av) uq (rs.map RL.av)=some b∧
  (b=true→ws.length≤8∧fs.length≤40∧js.length≤40∧ks.length≤40∧rs.length≤12∧fewC rs 0):=by
 obtain ⟨m,rfl⟩ : ∃ m,n=m+1:=⟨n - 1,by omega⟩
 have c2:Q2i.l (m+1) (m+1) .z2=some false:=rfl
 unfold Q2i.F Q2i.e
 simp only [c2,Ws_length,List.length_map]
 cases decide (((nm.size:Nat):Int) > 100)
 case true=>exact ⟨false,rfl,nofun⟩
 cases decide (((fm.size:Nat):Int) > 100)
 case true=>exact ⟨false,rfl,nofun⟩
 simp only [cond_false]
 by_cases h1:ws.length > 8
 ·exact ⟨false,by rw [cond_t (by omega)],nofun⟩
 by_cases h2:fs.length > 40
 ·exact ⟨false,by rw [cond_f (by omega),cond_t (by omega)],nofun⟩
 by_cases h3:js.length > 40
 ·exact ⟨false,by rw [cond_f (by omega),cond_f (by omega),cond_t (by omega)],nofun⟩
 by_cases h4:ks.length > 40
 ·exact ⟨false,by rw [cond_f (by omega),cond_f (by omega),cond_f (by omega),cond_t (by omega)],nofun⟩
 by_cases h5:rs.length > 12
 ·exact ⟨false,by rw [cond_f (by omega),cond_f (by omega),cond_f (by omega),cond_f (by omega),cond_t (by omega)],nofun⟩
 rw [cond_f (by omega),cond_f (by omega),cond_f (by omega),cond_f (by omega),cond_f (by omega)]
 obtain ⟨b,hb⟩ : ∃ b,Q2k.F (m+1) (ks.map KF.av)=some b:=by
  unfold Q2k.F Q2k.e
  exact fewKeys_l (by omega) ks.length 0 (m+1) (by omega) (by omega)
 rw [hb,Option.bind_some]
 cases b with
 | false=>exact ⟨false,rfl,nofun⟩
 | true=>
  obtain ⟨b,e1,e2⟩:=few4 (n:=m+1) (nm:=nm) (fm:=fm) (ws:=ws) (fs:=fs) (js:=js) (ks:=ks) (uq:=uq) (rs:=rs) (by omega) (by omega) (by omega) (by omega) ws.length 0 (m+1) (by omega) (by omega)
  exact ⟨b,e1,fun hb=>⟨by omega,by omega,by omega,by omega,by omega,e2 hb⟩⟩
end
theorem map_of {α:Type} (f:α→AV) (P:AV→Prop) (h:∀ y,P y→∃ a,y=f a):∀ xs:List AV,(∀ y∈xs,P y)→∃ l:List α,xs=l.map f
 | [],_=>⟨[],rfl⟩
 | x::xs,hx=>by
  obtain ⟨a,rfl⟩:=h x (hx x (by simp))
  obtain ⟨l,rfl⟩:=map_of f P h xs (fun y hy=>hx y (by simp [hy]))
  exact ⟨a::l,rfl⟩
theorem map_of' {α:Type} {f:α→AV} {P:AV→Prop} {xs:List AV} (hx:∀ y∈xs,P y) (h:∀ y,P y→∃ a,y=f a):∃ l:List α,xs=l.map f:=map_of f P h xs hx
end Go.Proofs.YtmpglmcjoelciaaGreatDoor.Ev
namespace Go.Proofs.YtmpglmcjoelciaaGreatDoor.Ev
open Go Go.Proofs Go.Proofs.Ev
set_option linter.unusedVariables false
set_option linter.unusedSimpArgs false
section
variable {n:Nat} {nm fm:ByteArray}
theorem fewFile_l (ds:List FD) (hd:ds.length≤1000) (ks:List KF) (hk:ks.length≤1000) (hn:1001≤n) (uq:Bool):∀ (d i m:Nat),i+d=ds.length→d < m→∃ b,Q2g.l n m (.z4 i nm fm (ds.map FD.av) (ks.map KF.av) uq)=some b
 | _,_,0,_,h=>absurd h (by omega)
 | 0,i,m+1,h,_=>by
  rw [Q2g.at4]
  unfold Q2g.r4
  obtain ⟨b,hb⟩ : ∃ b,Q2k.F n (ks.map KF.av)=some b:=by
   unfold Q2k.F Q2k.e
   exact fewKeys_l (by omega) ks.length 0 n (by omega) (by omega)
  simp (disch:=omega) only [Option.bind_some,Option.bind_none,cond_true,cond_false,Bool.not_true,Bool.not_false,List.length_map,Ws_length,bs_size,within_t,upto_t,wsucc,Int.toNat_natCast,at_mapN,Ws_getDN,cells_agg,cells_v,withCons_cons,withInt_mk,withStr_mk,withBool_mk,withSl_mk,cond_t,cond_f,hb]
  exact ⟨b,rfl⟩
 | d+1,i,m+1,h,hm=>by
  have hi:i < ds.length:=by omega
  obtain ⟨b,ih⟩:=fewFile_l ds hd ks hk hn uq d (i+1) m (by omega) (by omega)
  rw [Q2g.at4]
  unfold Q2g.r4
  simp (disch:=omega) only [Option.bind_some,Option.bind_none,cond_true,cond_false,Bool.not_true,Bool.not_false,List.length_map,Ws_length,bs_size,within_t,upto_t,wsucc,Int.toNat_natCast,at_mapN,Ws_getDN,cells_agg,cells_v,withCons_cons,withInt_mk,withStr_mk,withBool_mk,withSl_mk,cond_t,cond_f,FD.av,ih]
  cases decide ((ds[i].nm.length:Int) > 100)
  ·exact ⟨b,rfl⟩
  ·exact ⟨false,rfl⟩
theorem fewFile_eq (hn:1002≤n) (g:FL):∃ b,Q2g.F n (bs g.nm) (bs g.fm) (g.ds.map FD.av) (g.ks.map KF.av) g.uq=some b∧(b=true→g.few):=by
 obtain ⟨m,rfl⟩ : ∃ m,n=m+1:=⟨n - 1,by omega⟩
 have c2:Q2g.l (m+1) (m+1) .z2=some false:=rfl
 unfold Q2g.F Q2g.e
 simp only [c2,List.length_map]
 cases decide ((((bs g.nm).size:Nat):Int) > 100)
 case true=>exact ⟨false,rfl,nofun⟩
 cases decide ((((bs g.fm).size:Nat):Int) > 100)
 case true=>exact ⟨false,rfl,nofun⟩
 simp only [cond_false]
 by_cases h1:g.ds.length > 40
 ·exact ⟨false,by rw [cond_t (by omega)],nofun⟩
 by_cases h2:g.ks.length > 40
 ·exact ⟨false,by rw [cond_f (by omega),cond_t (by omega)],nofun⟩
 rw [cond_f (by omega),cond_f (by omega)]
 obtain ⟨b,hb⟩:=fewFile_l (n:=m+1) (nm:=bs g.nm) (fm:=bs g.fm) g.ds (by omega) g.ks (by omega) (by omega) g.uq g.ds.length 0 (m+1) (by omega) (by omega)
 exact ⟨b,hb,fun _=>⟨by omega,by omega⟩⟩
theorem fewFiles_l (hn:1002≤n) (gs:List FL) (hg:gs.length≤1000):∀ (d i m:Nat),i+d=gs.length→d < m→∃ b,Q2h.l n m (.z4 (gs.map FL.av) i)=some b∧(b=true→∀ g∈gs.drop i,g.few)
 | _,_,0,_,h=>absurd h (by omega)
 | 0,i,m+1,h,_=>by
  rw [Q2h.at4]
  unfold Q2h.r4
  simp (disch:=omega) only [Option.bind_some,Option.bind_none,cond_true,cond_false,Bool.not_true,Bool.not_false,List.length_map,Ws_length,bs_size,within_t,upto_t,wsucc,Int.toNat_natCast,at_mapN,Ws_getDN,cells_agg,cells_v,withCons_cons,withInt_mk,withStr_mk,withBool_mk,withSl_mk,cond_t,cond_f]
  rw [List.drop_of_length_le (by omega)]
  exact ⟨true,rfl,fun _=>by simp⟩
 | d+1,i,m+1,h,hm=>by
  have hi:i < gs.length:=by omega
  obtain ⟨b,ih,ih2⟩:=fewFiles_l hn gs hg d (i+1) m (by omega) (by omega)
  obtain ⟨b',h1,h2⟩:=fewFile_eq hn gs[i]
  rw [Q2h.at4]
  unfold Q2h.r4
  simp (disch:=omega) only [Option.bind_some,Option.bind_none,cond_true,cond_false,Bool.not_true,Bool.not_false,List.length_map,Ws_length,bs_size,within_t,upto_t,wsucc,Int.toNat_natCast,at_mapN,Ws_getDN,cells_agg,cells_v,withCons_cons,withInt_mk,withStr_mk,withBool_mk,withSl_mk,cond_t,cond_f,FL.av,h1,ih]
  rw [List.drop_eq_getElem_cons hi]
  cases b'
  ·exact ⟨false,rfl,nofun⟩
  ·refine ⟨b,rfl,fun hb g hm=>?_⟩
   rcases List.mem_cons.1 hm with rfl | hm
   ·exact h2 rfl
   ·exact ih2 hb g hm
theorem fewFiles_eq (hn:1002≤n) (gs:List FL):∃ b,Q2h.F n (gs.map FL.av)=some b∧(b=true→gs.length≤20∧∀ g∈gs,g.few):=by
 unfold Q2h.F Q2h.e
 simp only [List.length_map]
 by_cases h1:gs.length > 20
 ·exact ⟨false,by rw [cond_t (by omega)],nofun⟩
 rw [cond_f (by omega)]
 obtain ⟨b,h2,h3⟩:=fewFiles_l hn gs (by omega) gs.length 0 n (by omega) (by omega)
 exact ⟨b,h2,fun hb=>⟨by omega,h3 hb⟩⟩
theorem ownFiles_l (hn:1002≤n) (gs:List FL) (hg:gs.length≤1000) (hgf:∀ g∈gs,g.few):∀ (d i m:Nat),i+d=gs.length→d < m→Q2z.l n m (.z3 (gs.map FL.av) i ((gs.take i).map FL.av))=some (gs.map FL.av)
 | _,_,0,_,h=>absurd h (by omega)
 | 0,i,m+1,h,_=>by
  rw [Q2z.at3]
  unfold Q2z.r3
  simp (disch:=omega) only [Option.bind_some,Option.bind_none,cond_true,cond_false,Bool.not_true,Bool.not_false,List.length_map,Ws_length,bs_size,within_t,upto_t,wsucc,Int.toNat_natCast,at_mapN,Ws_getDN,cells_agg,cells_v,withCons_cons,withInt_mk,withStr_mk,withBool_mk,withSl_mk,cond_t,cond_f]
  rw [List.take_of_length_le (by omega)]
 | d+1,i,m+1,h,hm=>by
  have hi:i < gs.length:=by omega
  have hmost:most=1000000000:=rfl
  obtain ⟨g1,g2⟩:=hgf gs[i] (List.getElem_mem hi)
  have ih:=ownFiles_l hn gs hg hgf d (i+1) m (by omega) (by omega)
  rw [Q2z.at3]
  unfold Q2z.r3
  have eo:Q2y.F n (bs gs[i].nm) (bs gs[i].fm) (gs[i].ds.map FD.av) (gs[i].ks.map KF.av) gs[i].uq=some (bs gs[i].nm,bs gs[i].fm,gs[i].ds.map FD.av,gs[i].ks.map KF.av,gs[i].uq):=by
   unfold Q2y.F Q2y.e
   simp (disch:=omega) only [Option.bind_some,Option.bind_none,cond_true,cond_false,Bool.not_true,Bool.not_false,List.length_map,Ws_length,bs_size,within_t,upto_t,wsucc,Int.toNat_natCast,at_mapN,Ws_getDN,cells_agg,cells_v,withCons_cons,withInt_mk,withStr_mk,withBool_mk,withSl_mk,cond_t,cond_f]
  have hl:(gs.take i).length≤1000:=by rw [List.length_take]; omega
  simp (disch:=omega) only [Option.bind_some,Option.bind_none,cond_true,cond_false,Bool.not_true,Bool.not_false,List.length_map,Ws_length,bs_size,within_t,upto_t,wsucc,Int.toNat_natCast,at_mapN,Ws_getDN,cells_agg,cells_v,withCons_cons,withInt_mk,withStr_mk,withBool_mk,withSl_mk,cond_t,cond_f,FL.av,eo,List.length_singleton]
  have e:(gs.take i).map FL.av++[AV.agg [vs (bs gs[i].nm),vs (bs gs[i].fm),.sl ⟨true,125⟩ 4 (gs[i].ds.map FD.av),.sl ⟨true,111⟩ 2 (gs[i].ks.map KF.av),vb gs[i].uq]]=(gs.take (i+1)).map FL.av:=by
   rw [List.take_succ_eq_append_getElem hi,List.map_append]
   rfl
  rw [e]
  exact ih
theorem ownFiles_eq (hn:1002≤n) (gs:List FL) (hg:gs.length≤1000) (hgf:∀ g∈gs,g.few):Q2z.F n (gs.map FL.av)=some (gs.map FL.av):=by
 unfold Q2z.F Q2z.e
 exact ownFiles_l hn gs hg hgf gs.length 0 n (by omega) (by omega)
end
end Go.Proofs.YtmpglmcjoelciaaGreatDoor.Ev
namespace Go.Proofs.YtmpglmcjoelciaaGreatDoor.Ev
open Go Go.Proofs Go.Proofs.Ev
set_option linter.unusedVariables false
set_option linter.unusedSimpArgs false
section
variable {n:Nat}
theorem parseL_inv (L:Nat):∀ (ls:List (List UInt8)) (s:SR) (p i:Int) (k:Nat),(∀ x∈ls,x.length≤300)→Inv s k→Inv (parseL L ls s p i).1 (k+ls.length)
 | [],s,p,i,k,_,h=>by
  have hz:Inv zS (k+0):=⟨⟨by simp [zS,zG],by simp [zS,zG],by simp [zS,zL],by simp [zS,zL],by simp [zS,zL],by simp [zS,zL],by simp [zS,zL]⟩,by simp [zS,zL]⟩
  unfold parseL
  split
  ·exact hz
  ·split
   ·exact hz
   ·exact h
 | x::r,s,p,i,k,h3,h=>by
  have hz:Inv zS (k+(r.length+1)):=⟨⟨by simp [zS,zG],by simp [zS,zG],by simp [zS,zL],by simp [zS,zL],by simp [zS,zL],by simp [zS,zL],by simp [zS,zL]⟩,by simp [zS,zL]⟩
  obtain ⟨wl,_⟩:=lineW_good (l:=x) (by have:=h3 x (by simp); omega)
  unfold parseL
  split
  ·exact hz
  ·cases ho:(if p=0 then stHead s (lineW x) else stLine s (p - 1) (lineW x)) with
   | none=>exact hz
   | some s'=>
    have hi:Inv s' (k+1):=by
     by_cases hp:p=0
     ·rw [if_pos hp] at ho; exact (inv_head h ho).mono
     ·rw [if_neg hp] at ho; exact inv_line wl h ho
    have:=parseL_inv L r s' (if p=0 then 1 else nextP (lineW x)+1) (i+1) (k+1) (fun y hy=>h3 y (by simp [hy])) hi
    rw [show k+(x::r).length=k+1+r.length by simp; omega]
    exact this
theorem zInv:Inv zS 0:=⟨⟨by simp [zS,zG],by simp [zS,zG],by simp [zS,zL],by simp [zS,zL],by simp [zS,zL],by simp [zS,zL],by simp [zS,zL]⟩,by simp [zS,zL]⟩
theorem zAt:At zS 0 0:=⟨fun _=>⟨rfl,rfl⟩,fun h=>absurd h (by omega),fun h=>absurd h (by omega),by omega,fun h=>absurd h (by omega),fun h=>absurd h (by omega)⟩
theorem parseX_inv (ls:List (List UInt8)) (h3:∀ x∈ls,x.length≤300):Inv (parseX ls).1 100:=by
 have hz:Inv zS 100:=⟨⟨by simp [zS,zG],by simp [zS,zG],by simp [zS,zL],by simp [zS,zL],by simp [zS,zL],by simp [zS,zL],by simp [zS,zL]⟩,by simp [zS,zL]⟩
 unfold parseX
 split
 ·exact hz
 ·split
  ·exact hz
  ·have:=parseL_inv ls.length ls zS 0 0 0 h3 zInv
   obtain ⟨⟨a,b,c,d,e,f,g⟩,i⟩:=this
   exact ⟨⟨by omega,by omega,by omega,by omega,by omega,by omega,by omega⟩,i⟩
theorem parsed_eq (hn:300000≤n) (ls:List (List UInt8)) (hw:ls.length≤100000) (h3:∀ x∈ls,x.length≤300):Q0c.F n (Ws ls)=some (resT (parseX ls)):=by
 unfold Q0c.F Q0c.e parseX
 simp only [Ws_length,cond_eq,Option.bind_some]
 rw [first2 (by omega),Option.bind_some]
 by_cases h0:ls.length=0
 ·rw [beqI_t (by omega),if_pos h0]
  rfl
 ·rw [beqI_f (by omega),if_neg h0]
  by_cases h1:ls.length > 100
  ·have:decide ((ls.length:Int) > 100)=true:=decide_eq_true (by omega)
   rw [this,if_pos h1]
   rfl
  ·have:decide ((ls.length:Int) > 100)=false:=decide_eq_false (by omega)
   rw [this,if_neg h1]
   have:=parsed_l (n:=n) hn ls (by omega) h3 (b5:=false) (b6:=⟨#[]⟩) (b7:=⟨#[]⟩) (b8:=false) (b9:=⟨#[]⟩) (b10:=⟨#[]⟩) (b11:=false) ls.length 0 n zS 0 (by omega) (by omega) zInv zAt
   exact this
theorem fewLines_l (ls:List (List UInt8)) (hl:ls.length≤1000):∀ (d i m:Nat),i+d=ls.length→d < m→∃ b,Q2l.l n m (.z4 (Ws ls) i)=some b∧(b=true→∀ x∈ls.drop i,x.length≤300)
 | _,_,0,_,h=>absurd h (by omega)
 | 0,i,m+1,h,_=>by
  rw [Q2l.at4]
  unfold Q2l.r4
  simp (disch:=omega) only [Option.bind_some,Option.bind_none,cond_true,cond_false,Bool.not_true,Bool.not_false,List.length_map,Ws_length,bs_size,within_t,upto_t,wsucc,Int.toNat_natCast,at_mapN,Ws_getDN,cells_agg,cells_v,withCons_cons,withInt_mk,withStr_mk,withBool_mk,withSl_mk,cond_t,cond_f]
  rw [List.drop_of_length_le (by omega)]
  exact ⟨true,rfl,fun _=>by simp⟩
 | d+1,i,m+1,h,hm=>by
  have hi:i < ls.length:=by omega
  obtain ⟨b,ih,ih2⟩:=fewLines_l ls hl d (i+1) m (by omega) (by omega)
  rw [Q2l.at4]
  unfold Q2l.r4
  simp (disch:=omega) only [Option.bind_some,Option.bind_none,cond_true,cond_false,Bool.not_true,Bool.not_false,List.length_map,Ws_length,bs_size,within_t,upto_t,wsucc,Int.toNat_natCast,at_mapN,Ws_getDN,cells_agg,cells_v,withCons_cons,withInt_mk,withStr_mk,withBool_mk,withSl_mk,cond_t,cond_f,ih]
  rw [List.drop_eq_getElem_cons hi]
  by_cases h3:(ls[i].length:Int) > 300
  ·exact ⟨false,by rw [cond_t h3],nofun⟩
  ·refine ⟨b,by rw [cond_f h3],fun hb x hx=>?_⟩
   rcases List.mem_cons.1 hx with rfl | hx
   ·omega
   ·exact ih2 hb x hx
theorem fewLines_eq (hn:1002≤n) (ls:List (List UInt8)):∃ b,Q2l.F n (Ws ls)=some b∧(b=true→ls.length≤103∧∀ x∈ls,x.length≤300):=by
 unfold Q2l.F Q2l.e
 simp only [Ws_length]
 by_cases h1:ls.length > 103
 ·exact ⟨false,by rw [cond_t (by omega)],nofun⟩
 ·rw [cond_f (by omega)]
  obtain ⟨b,h2,h3⟩:=fewLines_l (n:=n) ls (by omega) ls.length 0 n (by omega) (by omega)
  exact ⟨b,h2,fun hb=>⟨by omega,h3 hb⟩⟩
end
end Go.Proofs.YtmpglmcjoelciaaGreatDoor.Ev
namespace Go.Proofs.YtmpglmcjoelciaaGreatDoor.Ev
open Go Go.Proofs Go.Proofs.Ev
set_option linter.unusedVariables false
set_option linter.unusedSimpArgs false
theorem ovR_end {F:List FD}:∀ {rs:List RL} {i:Nat},(ovR F rs i).2=0→szs F≤200
 | [],i,h=>by
  unfold ovR at h
  by_cases h1:szs F > 200
  ·simp [h1] at h
  ·omega
 | r::rs,i,h=>by
  rw [ovR_cons] at h
  by_cases h1:ovC F r.cs=0
  ·rw [if_neg (by simp [h1])] at h; exact ovR_end h
  ·rw [if_pos h1] at h; exact absurd h h1
theorem ovJ_end {B:List FL} {F:List FD} {rs:List RL}:∀ {js:List JP} {i:Nat},(ovJ B F rs js i).2=0→szs F≤200
 | [],i,h=>ovR_end h
 | j::js,i,h=>by
  rw [ovJ_cons] at h
  by_cases h1:pE B j=0
  ·rw [if_neg (by simp [h1])] at h; exact ovJ_end h
  ·rw [if_pos h1] at h; exact absurd h h1
theorem ovF_end {B:List FL} {F:List FD} {js:List JP} {rs:List RL}:∀ {fs:List LF} {i:Nat},(ovF B F js rs fs i).2=0→szs F≤200∧∀ f∈fs,(tyIn (bAt B f.b).ds f.fd).2.2.2=true
 | [],i,h=>⟨ovJ_end h,by simp⟩
 | f::fs,i,h=>by
  rw [ovF_cons] at h
  cases h1:(tyIn (bAt B f.b).ds f.fd).2.2.2
  ·rw [if_pos h1] at h; cases h
  ·rw [if_neg (by simp [h1])] at h
   obtain ⟨a,b⟩:=ovF_end h
   refine ⟨a,fun g hg=>?_⟩
   rcases List.mem_cons.1 hg with rfl | hg
   ·exact h1
   ·exact b g hg
theorem ovB_end {gs B:List FL} {F:List FD} {fs:List LF} {js:List JP} {rs:List RL}:∀ {ws:List (List UInt8)} {i:Nat},(ovB gs B F fs js rs ws i).2=0→szs F≤200∧∀ f∈fs,(tyIn (bAt B f.b).ds f.fd).2.2.2=true
 | [],i,h=>ovF_end h
 | w::ws,i,h=>by
  rw [ovB_cons] at h
  by_cases h1:gs.find? (fun g=>g.nm==w)=none
  ·rw [if_pos h1] at h; cases h
  ·rw [if_neg h1] at h; exact ovB_end h
theorem dErr_of {B:List FL} {nb:Int} {ns:List (List UInt8)}:∀ {l:List LF} {i:Nat},(fErr nb ns l i).2=0→(∀ f∈l,chkT (mkF B f).k (mkF B f).l (mkF B f).s=0∧(mkF B f).k≠4)→(dErr ns (l.map (mkF B)) i).2=0
 | [],_,_,_=>rfl
 | f::l,i,h,hc=>by
  rw [fErr_cons] at h
  by_cases h0:fe nb (ns.take i) f=0
  ·rw [if_neg (by simp [h0])] at h
   obtain ⟨c1,c2⟩:=hc f (by simp)
   have hne:ne (ns.take i) f.nm=0:=by
    unfold fe at h0
    by_cases h1:ne (ns.take i) f.nm=0
    ·exact h1
    ·rw [if_pos h1] at h0; exact absurd h0 h1
   have hd:de (ns.take i) (mkF B f)=0:=by
    unfold de
    rw [show (mkF B f).nm=f.nm from rfl,hne,c1]
    simp [c2]
   rw [List.map_cons,dErr_cons,hd,if_neg (by simp)]
   exact dErr_of h (fun g hg=>hc g (by simp [hg]))
  ·rw [if_pos h0] at h; exact absurd h h0
theorem chkL_f {nm fm:List UInt8} {ws:List (List UInt8)} {fs:List LF} {js:List JP} {ks:List KF} {uq:Bool} {rs:List RL} (h:(chkL nm fm ws fs js ks uq rs).2=0):(fErr ((ws.length:Int) - 1) (names fs) fs 0).2=0:=by
 have hL:=chkL_ok h
 unfold chkL at h
 rw [hL.nm,hL.fm,if_neg (by simp),if_neg (by simp)] at h
 by_cases h3:(bErrT ws).2=0
 case neg=>rw [if_pos h3] at h; exact absurd h h3
 rw [if_neg (by simp [h3])] at h
 by_cases h4:(fErrT ws fs).2=0
 case neg=>rw [if_pos h4] at h; exact absurd h h4
 unfold fErrT at h4
 rw [if_neg (by have:=hL.f0; omega),if_neg (by have:=hL.f1; omega)] at h4
 exact h4
theorem own_fmt {gs:List FL} {nm fm:List UInt8} {ws:List (List UInt8)} {fs:List LF} {js:List JP} {ks:List KF} {uq:Bool} {rs:List RL} (h:(overX gs nm fm ws fs js ks uq rs).2=0):fileE nm fm (ovFs gs ws fs) ks=0:=by
 unfold overX at h
 by_cases hc:(chkL nm fm ws fs js ks uq rs).2=0
 case neg=>rw [if_pos hc] at h; exact absurd h hc
 rw [if_neg (by simp [hc])] at h
 have hL:=chkL_ok hc
 have hfound:=over_found h
 unfold overT at h
 by_cases h0:filesE gs=0
 case neg=>rw [if_pos h0] at h; exact absurd h h0
 rw [if_neg (by simp [h0])] at h
 obtain ⟨_,hgo⟩:=filesE_ok h0
 obtain ⟨s1,s2⟩:=ovB_end h
 have hbl:(ws.map (baseOf gs)).length=ws.length:=by simp
 have hB:∀ g∈ws.map (baseOf gs),fileE g.nm g.fm g.ds g.ks=0:=fun g hg=>hgo g (bases_in hfound g hg)
 have hF:∀ f∈fs,chkT (mkF (ws.map (baseOf gs)) f).k (mkF (ws.map (baseOf gs)) f).l (mkF (ws.map (baseOf gs)) f).s=0∧(mkF (ws.map (baseOf gs)) f).k≠4:=by
  intro f hf
  obtain ⟨x,h2,_,h3⟩:=tyIn_found (s2 f hf)
  have hfo:=hL.fso f hf
  have b0:=hfo.b0
  have b1:=hfo.b1
  obtain ⟨_,h4,h5⟩:=file_ok (hB _ (bAt_in b0 (by rw [hbl]; omega)))
  unfold mkF
  rw [h3]
  exact ⟨h4 x h2,h5 x h2⟩
 have hd:=dErr_of (B:=ws.map (baseOf gs)) (chkL_f hc) hF
 have hdn:dnames (ovFs gs ws fs)=names fs:=mkF_names _ _
 have hfl:(ovFs gs ws fs).length=fs.length:=by simp [ovFs]
 unfold fileE fileT
 rw [hL.nm,hL.fm,hdn,hfl,if_neg (by simp),if_neg (by simp),if_neg (by have:=hL.f0; omega),if_neg (by have:=hL.f1; omega)]
 rw [show ovFs gs ws fs=fs.map (mkF (ws.map (baseOf gs))) from rfl,hd,if_neg (by simp),if_neg (by omega),hL.ke]
theorem parseL_ok (L:Nat):∀ (ls:List (List UInt8)) (s:SR) (p i:Int),(parseL L ls s p i).2.2=0→srcE (parseL L ls s p i).1.lg (parseL L ls s p i).1.g (parseL L ls s p i).1.l=0
 | [],s,p,i,h=>by
  unfold parseL at h ⊢
  by_cases h1:p=1
  ·rw [if_pos h1] at h; cases h
  ·rw [if_neg h1] at h ⊢
   by_cases h2:srcE s.lg s.g s.l=0
   ·rw [if_neg (by simp [h2])]; exact h2
   ·rw [if_pos h2] at h; exact absurd h h2
 | x::r,s,p,i,h=>by
  unfold parseL at h ⊢
  by_cases h1:lineE x=0
  ·rw [if_neg (by simp [h1])] at h ⊢
   cases ho:(if p=0 then stHead s (lineW x) else stLine s (p - 1) (lineW x)) with
   | none=>rw [ho] at h; cases h
   | some s'=>rw [ho] at h; exact parseL_ok L r s' _ _ h
  ·rw [if_pos h1] at h; exact absurd h h1
theorem parseX_ok (ls:List (List UInt8)) (h:(parseX ls).2.2=0):srcE (parseX ls).1.lg (parseX ls).1.g (parseX ls).1.l=0:=by
 unfold parseX at h ⊢
 by_cases h0:ls.length=0
 ·rw [if_pos h0] at h; cases h
 ·rw [if_neg h0] at h ⊢
  by_cases h1:ls.length > 100
  ·rw [if_pos h1] at h; cases h
  ·rw [if_neg h1] at h ⊢
   exact parseL_ok _ _ _ _ _ h
end Go.Proofs.YtmpglmcjoelciaaGreatDoor.Ev
namespace Go.Proofs.YtmpglmcjoelciaaGreatDoor.Ev
open Go Go.Proofs Go.Proofs.Ev
set_option linter.unusedVariables false
set_option linter.unusedSimpArgs false
section
variable {n:Nat}
theorem own_law (hn:1000002≤n) (nm fm:ByteArray) (ws:List (List UInt8)) (fs:List LF) (js:List JP) (ks:List KF) (uq:Bool) (rs:List RL) (gs:List FL) (ls:List (List UInt8)) :
  Q2c.F n nm fm (Ws ws) (fs.map LF.av) (js.map JP.av) (ks.map KF.av) uq (rs.map RL.av) (gs.map FL.av) (Ws ls)=some true:=by
 obtain ⟨a,rfl⟩ : ∃ l,nm=bs l:=⟨nm.data.toList,rfl⟩
 obtain ⟨b,rfl⟩ : ∃ l,fm=bs l:=⟨fm.data.toList,rfl⟩
 obtain ⟨m,rfl⟩ : ∃ m,n=m+1:=⟨n - 1,by omega⟩
 have c4:Q2c.l (m+1) (m+1) .z4=some true:=rfl
 have hmost:most=1000000000:=rfl
 unfold Q2c.F Q2c.e
 rw [awake_eq,Option.bind_some]
 show (bif false then _ else _)=_
 rw [cond_false]
 simp only [c4]
 obtain ⟨x,h1,h2⟩:=few_eq (n:=m+1) (nm:=bs a) (fm:=bs b) (ws:=ws) (fs:=fs) (js:=js) (ks:=ks) (uq:=uq) (rs:=rs) (by omega)
 rw [h1,Option.bind_some]
 cases x with
 | false=>rfl
 | true=>
  obtain ⟨y,h3,h4⟩:=fewFiles_eq (n:=m+1) (by omega) gs
  rw [Bool.not_true,cond_false,h3,Option.bind_some]
  cases y with
  | false=>rfl
  | true=>
   obtain ⟨z,h5,h6⟩:=fewLines_eq (n:=m+1) (by omega) ls
   rw [Bool.not_true,cond_false,h5,Option.bind_some]
   cases z with
   | false=>rfl
   | true=>
    obtain ⟨b1,b2,b3,b4,b5,b6⟩:=h2 rfl
    obtain ⟨g1,g2⟩:=h4 rfl
    obtain ⟨l1,l2⟩:=h6 rfl
    have hc:∀ r∈rs,r.cs.length≤1000:=by
     intro r hr
     obtain ⟨k,hk,rfl⟩:=List.getElem_of_mem hr
     have:=b6 k hk (by omega)
     omega
    have rest:(Q1o.F (m+1) (Ws ls)).bind (fun p9=>(Q0c.F (m+1) p9).bind fun p10=>bif p10.2.2.2.2.2.2.2.2.2.2.2.2.2.2.2 != 0 then some true else (bif p10.1 then some true else ((Q20.F (m+1) p10.2.1 p10.2.2.1 p10.2.2.2.1 p10.2.2.2.2.1 p10.2.2.2.2.2.1).bind fun p12=>some (p12==0))))=some true:=by
     unfold Q1o.F Q1o.e
     rw [cond_t (by rw [Ws_length]; omega),Option.bind_some,parsed_eq (by omega) ls (by omega) l2,Option.bind_some]
     unfold resT
     dsimp only
     rw [bif_ne]
     by_cases he:(parseX ls).2.2=0
     ·rw [if_neg (by simp [he])]
      have hs:=parseX_ok ls he
      have hi:=few_of (by omega) (parseX_inv ls l2)
      cases hlg:(parseX ls).1.lg
      ·rw [hlg] at hs
       have hf:fileE (parseX ls).1.g.nm (parseX ls).1.g.fm (parseX ls).1.g.ds (parseX ls).1.g.ks=0:=hs
       rw [cond_false,errR_eq (by omega) _ _ _ hi.ds _ hi.ks,hf]
       rfl
      ·rfl
     ·rw [if_pos he]
    rw [Bool.not_true,cond_false,own_eq (by omega) (by omega) (by omega) (by omega) (by omega) (by omega) hc,Option.bind_some,ownFiles_eq (by omega) gs (by omega) g2,Option.bind_some]
    dsimp only
    rw [formatOf_eq (by omega) gs (by omega) g2 (by omega) (by omega) (by omega) (by omega) (by omega),Option.bind_some]
    by_cases h0:(overX gs a b ws fs js ks uq rs).2=0
    ·simp only [h0,ne_eq,not_true_eq_false,if_false,beq_self_eq_true,cond_true]
     have hfl:(ovFs gs ws fs).length≤1000:=by simp [ovFs]; omega
     rw [errR_eq (by omega) a b (ovFs gs ws fs) hfl ks (by omega),own_fmt h0,Option.bind_some]
     exact rest
    ·have hb:((overX gs a b ws fs js ks uq rs).2==0)=false:=by simpa using h0
     simp only [h0,ne_eq,not_false_eq_true,if_true,hb,cond_false]
     exact rest
end
end Go.Proofs.YtmpglmcjoelciaaGreatDoor.Ev
end
