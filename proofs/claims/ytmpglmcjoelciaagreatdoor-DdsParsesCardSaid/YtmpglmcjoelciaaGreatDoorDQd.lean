import Derived.Test.YtmpglmcjoelciaaGreatDoorDQc
noncomputable section
namespace Go.Proofs.YtmpglmcjoelciaaGreatDoor.Ev
open Go Go.Proofs Go.Proofs.Ev
set_option linter.unusedVariables false
set_option linter.unusedSimpArgs false
section
variable {n:Nat} {nm fm:ByteArray}
theorem fewFile_l (ds:List FD) (hd:ds.length≤1000) (ks:List KF) (hk:ks.length≤1000) (hn:1001≤n) (uq:Bool):∀ (d i m:Nat),i+d=ds.length→d < m→∃ b,Q2g.l n m (.z4 i nm fm (ds.map FD.av) (ks.map KF.av) uq)=some b
 | _,_,0,_,h=>absurd h (by omega)
 | 0,i,m+1,h,_=>by
  rw [Q2g.at4]
  unfold Q2g.r4
  obtain ⟨b,hb⟩ : ∃ b,Q2k.F n (ks.map KF.av)=some b:=by
   unfold Q2k.F Q2k.e
   exact fewKeys_l (by omega) ks.length 0 n (by omega) (by omega)
  simp (disch:=omega) only [Option.bind_some,Option.bind_none,cond_true,cond_false,Bool.not_true,Bool.not_false,List.length_map,Ws_length,bs_size,within_t,upto_t,wsucc,Int.toNat_natCast,at_mapN,Ws_getDN,cells_agg,cells_v,withCons_cons,withInt_mk,withStr_mk,withBool_mk,withSl_mk,cond_t,cond_f,hb]
  exact ⟨b,rfl⟩
 | d+1,i,m+1,h,hm=>by
  have hi:i < ds.length:=by omega
  obtain ⟨b,ih⟩:=fewFile_l ds hd ks hk hn uq d (i+1) m (by omega) (by omega)
  rw [Q2g.at4]
  unfold Q2g.r4
  simp (disch:=omega) only [Option.bind_some,Option.bind_none,cond_true,cond_false,Bool.not_true,Bool.not_false,List.length_map,Ws_length,bs_size,within_t,upto_t,wsucc,Int.toNat_natCast,at_mapN,Ws_getDN,cells_agg,cells_v,withCons_cons,withInt_mk,withStr_mk,withBool_mk,withSl_mk,cond_t,cond_f,FD.av,ih]
  cases decide ((ds[i].nm.length:Int) > 100)
  ·exact ⟨b,rfl⟩
  ·exact ⟨false,rfl⟩
theorem ba_refl (x:ByteArray):(x==x)=true:=by
 cases x with
 | mk a=>exact beq_self_eq_true a
theorem sameFormat_l (ds:List FD) (hd:ds.length≤1000):∀ (d i m:Nat),i+d=ds.length→d < m→Q34.l n m (.z4 i nm (ds.map FD.av) fm (ds.map FD.av))=some true
 | _,_,0,_,h=>absurd h (by omega)
 | 0,i,m+1,h,_=>by
  rw [Q34.at4]
  unfold Q34.r4
  simp (disch:=omega) only [Option.bind_some,Option.bind_none,cond_true,cond_false,Bool.not_true,Bool.not_false,List.length_map,Ws_length,bs_size,within_t,upto_t,wsucc,Int.toNat_natCast,at_mapN,Ws_getDN,cells_agg,cells_v,withCons_cons,withInt_mk,withStr_mk,withBool_mk,withSl_mk,cond_t,cond_f]
 | d+1,i,m+1,h,hm=>by
  have hi:i < ds.length:=by omega
  have ih:=sameFormat_l ds hd d (i+1) m (by omega) (by omega)
  rw [Q34.at4]
  unfold Q34.r4
  simp (disch:=omega) only [Option.bind_some,Option.bind_none,cond_true,cond_false,Bool.not_true,Bool.not_false,List.length_map,Ws_length,bs_size,within_t,upto_t,wsucc,Int.toNat_natCast,at_mapN,Ws_getDN,cells_agg,cells_v,withCons_cons,withInt_mk,withStr_mk,withBool_mk,withSl_mk,cond_t,cond_f,FD.av,ba_refl,beq_self_eq_true,Bool.and_self,ih]
theorem sameFormat_eq (hn:1001≤n) (x:ByteArray) (ds:List FD) (hd:ds.length≤1000):Q34.F n x (ds.map FD.av) x (ds.map FD.av)=some true:=by
 unfold Q34.F Q34.e
 have hb:((((ds.map FD.av).length:Nat):Int) != (((ds.map FD.av).length:Nat):Int))=false:=by simp
 simp (disch:=omega) only [Option.bind_some,Option.bind_none,cond_true,cond_false,Bool.not_true,Bool.not_false,List.length_map,Ws_length,bs_size,within_t,upto_t,wsucc,Int.toNat_natCast,at_mapN,Ws_getDN,cells_agg,cells_v,withCons_cons,withInt_mk,withStr_mk,withBool_mk,withSl_mk,cond_t,cond_f,beq_self_eq_true,hb]
 have hb:(((ds.length:Nat):Int) != ((ds.length:Nat):Int))=false:=by simp
 simp (disch:=omega) only [Option.bind_some,Option.bind_none,cond_true,cond_false,Bool.not_true,Bool.not_false,List.length_map,Ws_length,bs_size,within_t,upto_t,wsucc,Int.toNat_natCast,at_mapN,Ws_getDN,cells_agg,cells_v,withCons_cons,withInt_mk,withStr_mk,withBool_mk,withSl_mk,cond_t,cond_f,hb]
 exact sameFormat_l ds hd ds.length 0 n (by omega) (by omega)
end
end Go.Proofs.YtmpglmcjoelciaaGreatDoor.Ev
namespace Go.Proofs.YtmpglmcjoelciaaGreatDoor.Ev
open Go Go.Proofs Go.Proofs.Ev
set_option linter.unusedVariables false
set_option linter.unusedSimpArgs false
section
variable {n:Nat} {lg:Bool} {g:FL} {l:LG}
theorem strs_l (ws:List (List UInt8)) (hw:ws.length≤100000):∀ (d i m:Nat),i+d=ws.length→d < m→Q1y.l n m (.z4 (Ws ws) (Ws ws) i)=some true
 | _,_,0,_,h=>absurd h (by omega)
 | 0,i,m+1,h,_=>by
  rw [Q1y.at4]
  unfold Q1y.r4
  simp (disch:=omega) only [Option.bind_some,Option.bind_none,cond_true,cond_false,Bool.not_true,Bool.not_false,List.length_map,Ws_length,bs_size,within_t,upto_t,wsucc,Int.toNat_natCast,at_mapN,Ws_getDN,cells_agg,cells_v,withCons_cons,withInt_mk,withStr_mk,withBool_mk,withSl_mk,cond_t,cond_f]
 | d+1,i,m+1,h,hm=>by
  have hi:i < ws.length:=by omega
  have ih:=strs_l ws hw d (i+1) m (by omega) (by omega)
  rw [Q1y.at4]
  unfold Q1y.r4
  simp (disch:=omega) only [Option.bind_some,Option.bind_none,cond_true,cond_false,Bool.not_true,Bool.not_false,List.length_map,Ws_length,bs_size,within_t,upto_t,wsucc,Int.toNat_natCast,at_mapN,Ws_getDN,cells_agg,cells_v,withCons_cons,withInt_mk,withStr_mk,withBool_mk,withSl_mk,cond_t,cond_f,beq_self_eq_true]
  exact ih
theorem strs_eq (hn:100002≤n) (ws:List (List UInt8)) (hw:ws.length≤100000):Q1y.F n (Ws ws) (Ws ws)=some true:=by
 unfold Q1y.F Q1y.e
 simp only [bne_self_eq_false,cond_false]
 exact strs_l ws hw ws.length 0 n (by omega) (by omega)
end
end Go.Proofs.YtmpglmcjoelciaaGreatDoor.Ev
namespace Go.Proofs.YtmpglmcjoelciaaGreatDoor.Ev
open Go Go.Proofs Go.Proofs.Ev
set_option linter.unusedVariables false
set_option linter.unusedSimpArgs false
theorem next1 {s s' : SR}:∀ {w:List (List UInt8)},stLine s 0 w=some s'→nextP w+1=2
 | [],h=>by cases h
 | k::r,hs=>by
  rw [stLine_cons] at hs
  have:plc k≤0:=by
   refine Classical.byContradiction fun h=>?_
   by_cases h2:plc k < 0
   ·omega
   ·rw [if_neg h2,if_pos ⟨rfl,by omega⟩] at hs; cases hs
  unfold nextP nxt
  simp only
  rw [if_pos (by omega)]
  rfl
section
variable {n:Nat}
theorem parse_l (hn:300000≤n) (ls:List (List UInt8)) (hL:ls.length≤100) (h300:∀ x∈ls,x.length≤300) {b4 b7 b10:Bool} {b5 b6 b8 b9:ByteArray}:∀ (d i m:Nat) (s:SR) (p:Int),i+d=ls.length→d < m→Inv s i→At s p i→
  Q32.l n m (.z7 (Ws ls) p i b4 b5 b6 b7 b8 b9 b10 s.lg (bs s.g.nm) (bs s.g.fm) s.g.uq (bs s.l.nm) (bs s.l.fm) s.l.uq (s.g.ds.map FD.av) (s.g.ks.map KF.av) (Ws s.l.ws) (s.l.fs.map LF.av) (s.l.js.map JP.av) (s.l.ks.map KF.av) (s.l.rs.map RL.av))=some (resT (parseL ls.length (ls.drop i) s p i))
 | _,_,0,_,_,_,h,_,_=>absurd h (by omega)
 | 0,i,m+1,s,p,h,hm,hi,ha=>by
  rw [Q32.at7]
  unfold Q32.r7
  have hf:=few_of (by omega) hi
  have hse:Q3o.F n s.lg (bs s.g.nm) (bs s.g.fm) (s.g.ds.map FD.av) (s.g.ks.map KF.av) s.g.uq (bs s.l.nm) (bs s.l.fm) (Ws s.l.ws) (s.l.fs.map LF.av) (s.l.js.map JP.av) (s.l.ks.map KF.av) s.l.uq (s.l.rs.map RL.av)=some (srcE s.lg s.g s.l):=by
   unfold Q3o.F Q3o.e srcE chkG
   rw [checkRef_eq (by omega) s.l.nm s.l.fm hf.lw hf.lf hf.lj hf.lk hf.lr hf.lc,plainErr_eq (by omega) s.g.nm s.g.fm s.g.ds hf.ds s.g.ks hf.ks]
   cases s.lg <;> rfl
  simp (disch:=omega) only [Option.bind_some,Option.bind_none,cond_true,cond_false,Bool.not_true,Bool.not_false,List.length_map,Ws_length,bs_size,within_t,upto_t,wsucc,Int.toNat_natCast,at_mapN,Ws_getDN,cells_agg,cells_v,withCons_cons,withInt_mk,withStr_mk,withBool_mk,withSl_mk,cond_t,cond_f,hse]
  rw [List.drop_of_length_le (show ls.length≤i by omega)]
  unfold parseL
  by_cases hp:p=1
  ·rw [if_pos hp,beqI_t hp,cond_true]
   rfl
  ·rw [if_neg hp,beqI_f hp,cond_false,bif_ne]
   by_cases he:srcE s.lg s.g s.l=0
   ·rw [if_neg (by simp [he]),if_neg (by simp [he])]; rfl
   ·rw [if_pos he,if_pos he]; rfl
 | d+1,i,m+1,s,p,h,hm,hi,ha=>by
  have hil:i < ls.length:=by omega
  have h3:=h300 ls[i] (List.getElem_mem hil)
  obtain ⟨wl,wg⟩:=lineW_good (l:=ls[i]) (by omega)
  have hwo:=wordsRef_eq (n:=n) (L:=ls[i]) (by omega) (by omega)
  rw [wordsR_line] at hwo
  rw [Q32.at7]
  unfold Q32.r7
  simp (disch:=omega) only [Option.bind_some,Option.bind_none,cond_true,cond_false,Bool.not_true,Bool.not_false,List.length_map,Ws_length,bs_size,within_t,upto_t,wsucc,Int.toNat_natCast,at_mapN,Ws_getDN,cells_agg,cells_v,withCons_cons,withInt_mk,withStr_mk,withBool_mk,withSl_mk,cond_t,cond_f,hwo]
  rw [List.drop_eq_getElem_cons hil,bif_ne]
  unfold parseL
  by_cases he:lineE ls[i]=0
  case neg=>rw [if_pos he,if_pos he]; rfl
  rw [if_neg (show ¬ (lineE ls[i]≠0) from fun h=>h he),if_neg (show ¬ (lineE ls[i]≠0) from fun h=>h he)]
  by_cases hne:lineW ls[i]=[]
  ·rw [hne]
   have e1:(if p=0 then stHead s [] else stLine s (p - 1) [])=none:=by split <;> rfl
   rw [e1]
   rfl
  have hpos:0 < (lineW ls[i]).length:=List.length_pos_iff.2 hne
  simp (disch:=omega) only [Option.bind_some,Option.bind_none,cond_true,cond_false,Bool.not_true,Bool.not_false,List.length_map,Ws_length,bs_size,within_t,upto_t,wsucc,Int.toNat_natCast,at_mapN,Ws_getDN,cells_agg,cells_v,withCons_cons,withInt_mk,withStr_mk,withBool_mk,withSl_mk,cond_t,cond_f]
  have go:∀ (o:Option SR) (q:Int) (x:Option (Int × Bool × Bool × ByteArray × ByteArray × Bool × ByteArray × ByteArray × Bool × List AV × List AV × List AV × List AV × List AV × List AV × List AV)),Ra o q x→(∀ s',o=some s'→Q32.l n m (.z7 (Ws ls) q ((i+1:Nat):Int) b4 b5 b6 b7 b8 b9 b10 s'.lg (bs s'.g.nm) (bs s'.g.fm) s'.g.uq (bs s'.l.nm) (bs s'.l.fm) s'.l.uq (s'.g.ds.map FD.av) (s'.g.ks.map KF.av) (Ws s'.l.ws) (s'.l.fs.map LF.av) (s'.l.js.map JP.av) (s'.l.ks.map KF.av) (s'.l.rs.map RL.av))=some (resT (parseL ls.length (ls.drop (i+1)) s' (if p=0 then 1 else nextP (lineW ls[i])+1) (i+1))))→
    (x.bind fun p9=>bif !p9.2.1 then some (false,(⟨#[]⟩ : ByteArray),(⟨#[]⟩ : ByteArray),([]:List AV),([]:List AV),false,(⟨#[]⟩ : ByteArray),(⟨#[]⟩ : ByteArray),([]:List AV),([]:List AV),([]:List AV),([]:List AV),false,([]:List AV),(i:Int),(8:Int)) else Q32.l n m (.z7 (Ws ls) p9.1 ((i+1:Nat):Int) b4 b5 b6 b7 b8 b9 b10 p9.2.2.1 p9.2.2.2.1 p9.2.2.2.2.1 p9.2.2.2.2.2.1 p9.2.2.2.2.2.2.1 p9.2.2.2.2.2.2.2.1 p9.2.2.2.2.2.2.2.2.1 p9.2.2.2.2.2.2.2.2.2.1 p9.2.2.2.2.2.2.2.2.2.2.1 p9.2.2.2.2.2.2.2.2.2.2.2.1 p9.2.2.2.2.2.2.2.2.2.2.2.2.1 p9.2.2.2.2.2.2.2.2.2.2.2.2.2.1 p9.2.2.2.2.2.2.2.2.2.2.2.2.2.2.1 p9.2.2.2.2.2.2.2.2.2.2.2.2.2.2.2)) =
    some (resT (match o with | none=>(zS,(i:Int),8) | some s'=>parseL ls.length (ls.drop (i+1)) s' (if p=0 then 1 else nextP (lineW ls[i])+1) (i+1))):=by
   intro o q x hx hs
   obtain ⟨t,rfl,t1,t2⟩:=hx
   rw [Option.bind_some]
   cases o with
   | none=>rw [show t.2.1=false from t1]; rfl
   | some s'=>
    have:=t2 s' rfl
    subst this
    exact hs s' rfl
  by_cases hp:p=0
  ·have hi0:i=0:=by
    refine Classical.byContradiction fun h=>?_
    by_cases h1:i=1
    ·have:=ha.o h1; omega
    ·have:=ha.m (by omega); omega
   obtain ⟨_,hzs⟩:=ha.z hi0
   have hh:=add0 (n:=n) (by omega) (lineW ls[i]) hne wl wg
   have:=go (stHead s (lineW ls[i])) 1 _ (by rw [hzs]; exact hh) (fun s' hs=>by
    have hat:=at_next (w:=lineW ls[i]) ha hne (s':=s') (by rw [if_pos hp]; exact hs)
    have:=parse_l hn ls hL h300 (b4:=b4) (b5:=b5) (b6:=b6) (b7:=b7) (b8:=b8) (b9:=b9) (b10:=b10) d (i+1) m s' _ (by omega) (by omega) (inv_head hi hs).mono hat
    rw [if_pos hp] at this
    rw [if_pos hp]
    exact this)
   have e1:(if p=0 then stHead s (lineW ls[i]) else stLine s (p - 1) (lineW ls[i]))=stHead s (lineW ls[i]):=if_pos hp
   rw [e1]
   refine Eq.trans ?_ this
   rw [hp,hzs]
   rfl
  ·have hi0:i≠0:=fun h=>hp (ha.z h).1
   obtain ⟨r0,r1⟩:=ha.r
   have e1:(if p=0 then stHead s (lineW ls[i]) else stLine s (p - 1) (lineW ls[i]))=stLine s (p - 1) (lineW ls[i]):=if_neg hp
   rw [e1]
   obtain ⟨n1,n2⟩:=nextP_range _ hne
   by_cases hp1:p=1
   ·have i1:=ha.c hp1
    have hh:=add1 (n:=n) (by omega) s (ha.h hp1) (lineW ls[i]) hne wl wg
    have hq:∀ s',stLine s 0 (lineW ls[i])=some s'→nextP (lineW ls[i])+1=2:=fun s' hs=>next1 hs
    have:=go (stLine s (p - 1) (lineW ls[i])) 2 _ (by rw [hp1]; exact hh) (fun s' hs=>by
     have hat:=at_next (w:=lineW ls[i]) ha hne (s':=s') (by rw [if_neg hp]; exact hs)
     have h2:=hq s' (by rw [hp1] at hs; exact hs)
     have:=parse_l hn ls hL h300 (b4:=b4) (b5:=b5) (b6:=b6) (b7:=b7) (b8:=b8) (b9:=b9) (b10:=b10) d (i+1) m s' _ (by omega) (by omega) (inv_line wl hi hs) hat
     rw [if_neg hp,h2] at this
     rw [if_neg hp,h2]
     exact this)
    rw [hp1] at this ⊢
    exact this
   ·have hh:=addN (n:=n) (by omega) s (p - 1) (by omega) (by omega) (k:=i) (by omega) hi.sz (lineW ls[i]) hne wl wg
    rw [show p - 1+1=p by omega] at hh
    have:=go (stLine s (p - 1) (lineW ls[i])) _ _ hh (fun s' hs=>by
     have hat:=at_next (w:=lineW ls[i]) ha hne (s':=s') (by rw [if_neg hp]; exact hs)
     have:=parse_l hn ls hL h300 (b4:=b4) (b5:=b5) (b6:=b6) (b7:=b7) (b8:=b8) (b9:=b9) (b10:=b10) d (i+1) m s' _ (by omega) (by omega) (inv_line wl hi hs) hat
     rw [if_neg hp] at this
     rw [if_neg hp]
     exact this)
    exact this
end
end Go.Proofs.YtmpglmcjoelciaaGreatDoor.Ev
namespace Go.Proofs.YtmpglmcjoelciaaGreatDoor.Ev
open Go Go.Proofs Go.Proofs.Ev
set_option linter.unusedVariables false
set_option linter.unusedSimpArgs false
section
variable {n:Nat}
theorem sameK_l (ks:List KF) (hk:ks.length≤1000):∀ (d i m:Nat),i+d=ks.length→d < m→Q3m.l n m (.z4 (ks.map KF.av) (ks.map KF.av) i)=some true
 | _,_,0,_,h=>absurd h (by omega)
 | 0,i,m+1,h,_=>by
  rw [Q3m.at4]
  unfold Q3m.r4
  simp (disch:=omega) only [Option.bind_some,Option.bind_none,cond_true,cond_false,Bool.not_true,Bool.not_false,List.length_map,Ws_length,bs_size,within_t,upto_t,wsucc,Int.toNat_natCast,at_mapN,Ws_getDN,cells_agg,cells_v,withCons_cons,withInt_mk,withStr_mk,withBool_mk,withSl_mk,cond_t,cond_f]
 | d+1,i,m+1,h,hm=>by
  have hi:i < ks.length:=by omega
  have ih:=sameK_l ks hk d (i+1) m (by omega) (by omega)
  rw [Q3m.at4]
  unfold Q3m.r4
  simp (disch:=omega) only [Option.bind_some,Option.bind_none,cond_true,cond_false,Bool.not_true,Bool.not_false,List.length_map,Ws_length,bs_size,within_t,upto_t,wsucc,Int.toNat_natCast,at_mapN,Ws_getDN,cells_agg,cells_v,withCons_cons,withInt_mk,withStr_mk,withBool_mk,withSl_mk,cond_t,cond_f,KF.av,ba_refl,beq_self_eq_true,Bool.and_self,ih]
theorem sameK_eq (hn:1001≤n) (ks:List KF) (hk:ks.length≤1000):Q3m.F n (ks.map KF.av) (ks.map KF.av)=some true:=by
 unfold Q3m.F Q3m.e
 simp only [bne_self_eq_false,cond_false]
 exact sameK_l ks hk ks.length 0 n (by omega) (by omega)
theorem sameFile_eq (hn:1001≤n) (g:FL) (h1:g.ds.length≤1000) (h2:g.ks.length≤1000):Q33.F n (bs g.nm) (bs g.fm) (g.ds.map FD.av) (g.ks.map KF.av) g.uq (bs g.nm) (bs g.fm) (g.ds.map FD.av) (g.ks.map KF.av) g.uq=some true:=by
 unfold Q33.F Q33.e
 rw [beq_self_eq_true,sameFormat_eq hn _ _ h1,sameK_eq hn _ h2,beq_self_eq_true]
 rfl
theorem sl14 (rs:List RL) (hr:rs.length≤1000) (hc:∀ r∈rs,r.cs.length≤1000) {x1 x2 x9 x10:ByteArray} {x3 x4 x5 x6 x11 x12 x13 x14:List AV} {x7 x15:Bool}:∀ (d i m:Nat),i+d=rs.length→1010*d+1≤m→
  Q35.l n m (.z14 i x1 x2 x3 x4 x5 x6 x7 (rs.map RL.av) x9 x10 x11 x12 x13 x14 x15 (rs.map RL.av))=some true
 | 0,i,m,h,hm=>by
  obtain ⟨m,rfl⟩ : ∃ q,m=q+1:=⟨m - 1,by omega⟩
  rw [Q35.at14]
  unfold Q35.r14
  simp (disch:=omega) only [Option.bind_some,Option.bind_none,cond_true,cond_false,Bool.not_true,Bool.not_false,List.length_map,Ws_length,bs_size,within_t,upto_t,wsucc,Int.toNat_natCast,at_mapN,Ws_getDN,cells_agg,cells_v,withCons_cons,withInt_mk,withStr_mk,withBool_mk,withSl_mk,cond_t,cond_f]
 | d+1,i,m,h,hm=>by
  obtain ⟨m,rfl⟩ : ∃ q,m=q+1:=⟨m - 1,by omega⟩
  have hi:i < rs.length:=by omega
  have hcl:=hc rs[i] (List.getElem_mem hi)
  have inner:∀ (e j q:Nat),j+e=rs[i].cs.length→1010*d+2+e≤q→
    Q35.l n q (.z20 i j x1 x2 x3 x4 x5 x6 x7 (rs.map RL.av) x9 x10 x11 x12 x13 x14 x15 (rs.map RL.av) rs[i].om (rs[i].cs.map CN.av) rs[i].om (rs[i].cs.map CN.av))=some true:=by
   intro e
   induction e with
   | zero=>
    intro j q hj hq
    obtain ⟨q,rfl⟩ : ∃ r,q=r+1:=⟨q - 1,by omega⟩
    rw [Q35.at20]
    unfold Q35.r20
    simp (disch:=omega) only [Option.bind_some,Option.bind_none,cond_true,cond_false,Bool.not_true,Bool.not_false,List.length_map,Ws_length,bs_size,within_t,upto_t,wsucc,Int.toNat_natCast,at_mapN,Ws_getDN,cells_agg,cells_v,withCons_cons,withInt_mk,withStr_mk,withBool_mk,withSl_mk,cond_t,cond_f]
    exact sl14 rs hr hc d (i+1) q (by omega) (by omega)
   | succ e ih=>
    intro j q hj hq
    obtain ⟨q,rfl⟩ : ∃ r,q=r+1:=⟨q - 1,by omega⟩
    have hjl:j < rs[i].cs.length:=by omega
    have ih':=ih (j+1) q (by omega) (by omega)
    rw [Q35.at20]
    unfold Q35.r20
    simp (disch:=omega) only [Option.bind_some,Option.bind_none,cond_true,cond_false,Bool.not_true,Bool.not_false,List.length_map,Ws_length,bs_size,within_t,upto_t,wsucc,Int.toNat_natCast,at_mapN,Ws_getDN,cells_agg,cells_v,withCons_cons,withInt_mk,withStr_mk,withBool_mk,withSl_mk,cond_t,cond_f,CN.av,ba_refl,beq_self_eq_true,Bool.and_self,ih']
  have hin:=inner rs[i].cs.length 0 m (by omega) (by omega)
  rw [Q35.at14]
  unfold Q35.r14
  simp (disch:=omega) only [Option.bind_some,Option.bind_none,cond_true,cond_false,Bool.not_true,Bool.not_false,List.length_map,Ws_length,bs_size,within_t,upto_t,wsucc,Int.toNat_natCast,at_mapN,Ws_getDN,cells_agg,cells_v,withCons_cons,withInt_mk,withStr_mk,withBool_mk,withSl_mk,cond_t,cond_f,RL.av,beq_self_eq_true,bneI_f]
  exact hin
theorem sl9 (js:List JP) (hj:js.length≤1000) (rs:List RL) (hr:rs.length≤100) (hc:∀ r∈rs,r.cs.length≤1000) {x1 x2 x9 x10:ByteArray} {x3 x4 x6 x11 x12 x14:List AV} {x7 x15:Bool}:∀ (d i m:Nat),i+d=js.length→d+101002≤m→
  Q35.l n m (.z9 i x1 x2 x3 x4 (js.map JP.av) x6 x7 (rs.map RL.av) x9 x10 x11 x12 (js.map JP.av) x14 x15 (rs.map RL.av))=some true
 | 0,i,m,h,hm=>by
  obtain ⟨m,rfl⟩ : ∃ q,m=q+1:=⟨m - 1,by omega⟩
  rw [Q35.at9]
  unfold Q35.r9
  simp (disch:=omega) only [Option.bind_some,Option.bind_none,cond_true,cond_false,Bool.not_true,Bool.not_false,List.length_map,Ws_length,bs_size,within_t,upto_t,wsucc,Int.toNat_natCast,at_mapN,Ws_getDN,cells_agg,cells_v,withCons_cons,withInt_mk,withStr_mk,withBool_mk,withSl_mk,cond_t,cond_f]
  exact sl14 rs (by omega) hc rs.length 0 m (by omega) (by omega)
 | d+1,i,m,h,hm=>by
  obtain ⟨m,rfl⟩ : ∃ q,m=q+1:=⟨m - 1,by omega⟩
  have hi:i < js.length:=by omega
  have ih:=sl9 js hj rs hr hc (x1:=x1) (x2:=x2) (x3:=x3) (x4:=x4) (x6:=x6) (x7:=x7) (x9:=x9) (x10:=x10) (x11:=x11) (x12:=x12) (x14:=x14) (x15:=x15) d (i+1) m (by omega) (by omega)
  rw [Q35.at9]
  unfold Q35.r9
  simp (disch:=omega) only [Option.bind_some,Option.bind_none,cond_true,cond_false,Bool.not_true,Bool.not_false,List.length_map,Ws_length,bs_size,within_t,upto_t,wsucc,Int.toNat_natCast,at_mapN,Ws_getDN,cells_agg,cells_v,withCons_cons,withInt_mk,withStr_mk,withBool_mk,withSl_mk,cond_t,cond_f,JP.av,ba_refl,beq_self_eq_true,Bool.and_self,ih]
theorem sl4 (fs:List LF) (hf:fs.length≤1000) (js:List JP) (hj:js.length≤1000) (rs:List RL) (hr:rs.length≤100) (hc:∀ r∈rs,r.cs.length≤1000) {x1 x2 x9 x10:ByteArray} {x3 x6 x11 x14:List AV} {x7 x15:Bool}:∀ (d i m:Nat),i+d=fs.length→d+103000≤m→
  Q35.l n m (.z4 i x1 x2 x3 (fs.map LF.av) (js.map JP.av) x6 x7 (rs.map RL.av) x9 x10 x11 (fs.map LF.av) (js.map JP.av) x14 x15 (rs.map RL.av))=some true
 | 0,i,m,h,hm=>by
  obtain ⟨m,rfl⟩ : ∃ q,m=q+1:=⟨m - 1,by omega⟩
  rw [Q35.at4]
  unfold Q35.r4
  simp (disch:=omega) only [Option.bind_some,Option.bind_none,cond_true,cond_false,Bool.not_true,Bool.not_false,List.length_map,Ws_length,bs_size,within_t,upto_t,wsucc,Int.toNat_natCast,at_mapN,Ws_getDN,cells_agg,cells_v,withCons_cons,withInt_mk,withStr_mk,withBool_mk,withSl_mk,cond_t,cond_f]
  exact sl9 js hj rs hr hc js.length 0 m (by omega) (by omega)
 | d+1,i,m,h,hm=>by
  obtain ⟨m,rfl⟩ : ∃ q,m=q+1:=⟨m - 1,by omega⟩
  have hi:i < fs.length:=by omega
  have ih:=sl4 fs hf js hj rs hr hc (x1:=x1) (x2:=x2) (x3:=x3) (x6:=x6) (x7:=x7) (x9:=x9) (x10:=x10) (x11:=x11) (x14:=x14) (x15:=x15) d (i+1) m (by omega) (by omega)
  rw [Q35.at4]
  unfold Q35.r4
  simp (disch:=omega) only [Option.bind_some,Option.bind_none,cond_true,cond_false,Bool.not_true,Bool.not_false,List.length_map,Ws_length,bs_size,within_t,upto_t,wsucc,Int.toNat_natCast,at_mapN,Ws_getDN,cells_agg,cells_v,withCons_cons,withInt_mk,withStr_mk,withBool_mk,withSl_mk,cond_t,cond_f,LF.av,ba_refl,beq_self_eq_true,Bool.and_self,ih]
theorem sameLog_eq (hn:200000≤n) (l:LG) (h1:l.ws.length≤1000) (h2:l.fs.length≤1000) (h3:l.js.length≤1000) (h4:l.ks.length≤1000) (h5:l.rs.length≤100) (hc:∀ r∈l.rs,r.cs.length≤1000) :
  Q35.F n (bs l.nm) (bs l.fm) (Ws l.ws) (l.fs.map LF.av) (l.js.map JP.av) (l.ks.map KF.av) l.uq (l.rs.map RL.av) (bs l.nm) (bs l.fm) (Ws l.ws) (l.fs.map LF.av) (l.js.map JP.av) (l.ks.map KF.av) l.uq (l.rs.map RL.av)=some true:=by
 unfold Q35.F Q35.e
 simp only [beq_self_eq_true,Bool.not_true,cond_false,bne_self_eq_false]
 rw [strs_eq (by omega) _ (by omega),sameK_eq (by omega) _ h4]
 exact sl4 l.fs h2 l.js h3 l.rs h5 hc l.fs.length 0 n (by omega) (by omega)
theorem parseL_inv (L:Nat):∀ (ls:List (List UInt8)) (s:SR) (p i:Int) (k:Nat),(∀ x∈ls,x.length≤300)→Inv s k→Inv (parseL L ls s p i).1 (k+ls.length)
 | [],s,p,i,k,_,h=>by
  have hz:Inv zS (k+0):=⟨⟨by simp [zS,zG],by simp [zS,zG],by simp [zS,zL],by simp [zS,zL],by simp [zS,zL],by simp [zS,zL],by simp [zS,zL]⟩,by simp [zS,zL]⟩
  unfold parseL
  split
  ·exact hz
  ·split
   ·exact hz
   ·exact h
 | x::r,s,p,i,k,h3,h=>by
  have hz:Inv zS (k+(r.length+1)):=⟨⟨by simp [zS,zG],by simp [zS,zG],by simp [zS,zL],by simp [zS,zL],by simp [zS,zL],by simp [zS,zL],by simp [zS,zL]⟩,by simp [zS,zL]⟩
  obtain ⟨wl,_⟩:=lineW_good (l:=x) (by have:=h3 x (by simp); omega)
  unfold parseL
  split
  ·exact hz
  ·cases ho:(if p=0 then stHead s (lineW x) else stLine s (p - 1) (lineW x)) with
   | none=>exact hz
   | some s'=>
    have hi:Inv s' (k+1):=by
     by_cases hp:p=0
     ·rw [if_pos hp] at ho; exact (inv_head h ho).mono
     ·rw [if_neg hp] at ho; exact inv_line wl h ho
    have:=parseL_inv L r s' (if p=0 then 1 else nextP (lineW x)+1) (i+1) (k+1) (fun y hy=>h3 y (by simp [hy])) hi
    rw [show k+(x::r).length=k+1+r.length by simp; omega]
    exact this
theorem zInv:Inv zS 0:=⟨⟨by simp [zS,zG],by simp [zS,zG],by simp [zS,zL],by simp [zS,zL],by simp [zS,zL],by simp [zS,zL],by simp [zS,zL]⟩,by simp [zS,zL]⟩
theorem zAt:At zS 0 0:=⟨fun _=>⟨rfl,rfl⟩,fun h=>absurd h (by omega),fun h=>absurd h (by omega),by omega,fun h=>absurd h (by omega),fun h=>absurd h (by omega)⟩
theorem parseX_inv (ls:List (List UInt8)) (h3:∀ x∈ls,x.length≤300):Inv (parseX ls).1 100:=by
 have hz:Inv zS 100:=⟨⟨by simp [zS,zG],by simp [zS,zG],by simp [zS,zL],by simp [zS,zL],by simp [zS,zL],by simp [zS,zL],by simp [zS,zL]⟩,by simp [zS,zL]⟩
 unfold parseX
 split
 ·exact hz
 ·split
  ·exact hz
  ·have:=parseL_inv ls.length ls zS 0 0 0 h3 zInv
   obtain ⟨⟨a,b,c,d,e,f,g⟩,i⟩:=this
   exact ⟨⟨by omega,by omega,by omega,by omega,by omega,by omega,by omega⟩,i⟩
theorem parsed_eq (hn:300000≤n) (ls:List (List UInt8)) (hw:ls.length≤100000) (h3:∀ x∈ls,x.length≤300):Q0c.F n (Ws ls)=some (resT (parseX ls)):=by
 unfold Q0c.F Q0c.e parseX
 simp only [Ws_length,cond_eq,Option.bind_some]
 rw [first2 (by omega),Option.bind_some]
 by_cases h0:ls.length=0
 ·rw [beqI_t (by omega),if_pos h0]
  rfl
 ·rw [beqI_f (by omega),if_neg h0]
  by_cases h1:ls.length > 100
  ·have:decide ((ls.length:Int) > 100)=true:=decide_eq_true (by omega)
   rw [this,if_pos h1]
   rfl
  ·have:decide ((ls.length:Int) > 100)=false:=decide_eq_false (by omega)
   rw [this,if_neg h1]
   have:=parsed_l (n:=n) hn ls (by omega) h3 (b5:=false) (b6:=⟨#[]⟩) (b7:=⟨#[]⟩) (b8:=false) (b9:=⟨#[]⟩) (b10:=⟨#[]⟩) (b11:=false) ls.length 0 n zS 0 (by omega) (by omega) zInv zAt
   exact this
theorem parseR_eq (hn:300000≤n) (ls:List (List UInt8)) (hw:ls.length≤100000) (h3:∀ x∈ls,x.length≤300):Q32.F n (Ws ls)=some (resT (parseX ls)):=by
 unfold Q32.F Q32.e parseX
 simp only [Ws_length]
 by_cases h0:ls.length=0
 ·rw [beqI_t (by omega),if_pos h0]
  rfl
 ·rw [beqI_f (by omega),if_neg h0,cond_false]
  by_cases h1:ls.length > 100
  ·rw [cond_t (by omega),if_pos h1]
   rfl
  ·rw [cond_f (by omega),if_neg h1]
   have:=parse_l (n:=n) hn ls (by omega) h3 (b4:=false) (b5:=⟨#[]⟩) (b6:=⟨#[]⟩) (b7:=false) (b8:=⟨#[]⟩) (b9:=⟨#[]⟩) (b10:=false) ls.length 0 n zS 0 (by omega) (by omega) zInv zAt
   exact this
theorem sameSrc_eq (hn:200000≤n) (s:SR) (h:Inv s 100):Q36.F n s.lg (bs s.g.nm) (bs s.g.fm) (s.g.ds.map FD.av) (s.g.ks.map KF.av) s.g.uq (bs s.l.nm) (bs s.l.fm) (Ws s.l.ws) (s.l.fs.map LF.av) (s.l.js.map JP.av) (s.l.ks.map KF.av) s.l.uq (s.l.rs.map RL.av) s.lg (bs s.g.nm) (bs s.g.fm) (s.g.ds.map FD.av) (s.g.ks.map KF.av) s.g.uq (bs s.l.nm) (bs s.l.fm) (Ws s.l.ws) (s.l.fs.map LF.av) (s.l.js.map JP.av) (s.l.ks.map KF.av) s.l.uq (s.l.rs.map RL.av)=some true:=by
 obtain ⟨⟨a,b,c,d,e,f,g⟩,i⟩:=h
 unfold Q36.F Q36.e
 rw [beq_self_eq_true,sameFile_eq (by omega) s.g (by omega) (by omega),sameLog_eq hn s.l (by omega) (by omega) (by omega) (by omega) g i]
 rfl
theorem fewLines_l (ls:List (List UInt8)) (hl:ls.length≤1000):∀ (d i m:Nat),i+d=ls.length→d < m→∃ b,Q2l.l n m (.z4 (Ws ls) i)=some b∧(b=true→∀ x∈ls.drop i,x.length≤300)
 | _,_,0,_,h=>absurd h (by omega)
 | 0,i,m+1,h,_=>by
  rw [Q2l.at4]
  unfold Q2l.r4
  simp (disch:=omega) only [Option.bind_some,Option.bind_none,cond_true,cond_false,Bool.not_true,Bool.not_false,List.length_map,Ws_length,bs_size,within_t,upto_t,wsucc,Int.toNat_natCast,at_mapN,Ws_getDN,cells_agg,cells_v,withCons_cons,withInt_mk,withStr_mk,withBool_mk,withSl_mk,cond_t,cond_f]
  rw [List.drop_of_length_le (by omega)]
  exact ⟨true,rfl,fun _=>by simp⟩
 | d+1,i,m+1,h,hm=>by
  have hi:i < ls.length:=by omega
  obtain ⟨b,ih,ih2⟩:=fewLines_l ls hl d (i+1) m (by omega) (by omega)
  rw [Q2l.at4]
  unfold Q2l.r4
  simp (disch:=omega) only [Option.bind_some,Option.bind_none,cond_true,cond_false,Bool.not_true,Bool.not_false,List.length_map,Ws_length,bs_size,within_t,upto_t,wsucc,Int.toNat_natCast,at_mapN,Ws_getDN,cells_agg,cells_v,withCons_cons,withInt_mk,withStr_mk,withBool_mk,withSl_mk,cond_t,cond_f,ih]
  rw [List.drop_eq_getElem_cons hi]
  by_cases h3:(ls[i].length:Int) > 300
  ·exact ⟨false,by rw [cond_t h3],nofun⟩
  ·refine ⟨b,by rw [cond_f h3],fun hb x hx=>?_⟩
   rcases List.mem_cons.1 hx with rfl | hx
   ·omega
   ·exact ih2 hb x hx
theorem fewLines_eq (hn:1002≤n) (ls:List (List UInt8)):∃ b,Q2l.F n (Ws ls)=some b∧(b=true→ls.length≤103∧∀ x∈ls,x.length≤300):=by
 unfold Q2l.F Q2l.e
 simp only [Ws_length]
 by_cases h1:ls.length > 103
 ·exact ⟨false,by rw [cond_t (by omega)],nofun⟩
 ·rw [cond_f (by omega)]
  obtain ⟨b,h2,h3⟩:=fewLines_l (n:=n) ls (by omega) ls.length 0 n (by omega) (by omega)
  exact ⟨b,h2,fun hb=>⟨by omega,h3 hb⟩⟩
theorem parses_law (hn:1000002≤n) (ls:List (List UInt8)):Q2d.F n (Ws ls)=some true:=by
 have hmost:most=1000000000:=rfl
 obtain ⟨b,e1,e2⟩:=fewLines_eq (n:=n) (by omega) ls
 unfold Q2d.F Q2d.e
 rw [awake_eq,Option.bind_some]
 show (bif false then _ else _)=_
 rw [cond_false,e1,Option.bind_some]
 cases b with
 | false=>rfl
 | true=>
  obtain ⟨h1,h2⟩:=e2 rfl
  unfold Q1o.F Q1o.e
  rw [Bool.not_true,cond_false,cond_t (by rw [Ws_length]; omega),Option.bind_some,parsed_eq (by omega) ls (by omega) h2,Option.bind_some,parseR_eq (by omega) ls (by omega) h2,Option.bind_some]
  have:=sameSrc_eq (n:=n) (by omega) (parseX ls).1 (parseX_inv ls h2)
  unfold resT
  simp only [beq_self_eq_true,cond_true]
  rw [this]
  rfl
end
end Go.Proofs.YtmpglmcjoelciaaGreatDoor.Ev
end
