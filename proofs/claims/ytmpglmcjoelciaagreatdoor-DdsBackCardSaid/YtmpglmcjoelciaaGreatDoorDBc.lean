import Derived.Test.YtmpglmcjoelciaaGreatDoorDBb
import Derived.Test.YtmpglmcjoelciaaGreatDoorDBa
noncomputable section
namespace Go.Proofs.YtmpglmcjoelciaaGreatDoor.Ev
open Go Go.Proofs Go.Proofs.Ev
set_option linter.unusedVariables false
set_option linter.unusedSimpArgs false
section
variable {n:Nat}
theorem contains46 (l:List UInt8) (hl:l.length≤100000):Q4f.F n (bs l) (⟨#[46]⟩ : ByteArray)=some (l.contains 46):=by
 unfold Q4f.F Q4f.e Q4h.F
 rw [cond_t (by rw [bs_size]; omega),Option.bind_some]
 show some (decide (Lib.index l [46]≥0))=_
 rw [Lib.index_one,← has_eq]
theorem cut_len (s sep:List UInt8):(Lib.cut s sep).1.length≤s.length∧(Lib.cut s sep).2.1.length≤s.length:=by
 unfold Lib.cut
 split
 ·exact ⟨by simp; omega,by simp⟩
 ·exact ⟨Nat.le_refl _,by simp⟩
theorem cut_miss {s:List UInt8} (h:s.contains 46=false):Lib.cut s [46]=(s,[],false):=by
 unfold Lib.cut
 rw [if_neg]
 rw [Lib.index_one]
 have:=has_eq 46 s
 rw [h] at this
 simpa using this
theorem pn_any (s r:ByteArray) (f:Int) (a7 a8:Int) (l:List UInt8) (hl:l.length≤100000):∀ (d i m:Nat) (v:Int),i+d=l.length→d < m→∃ x,Q3v.l n m (.z13 s f r v l.length i a7 a8 (l.map fun b=>vu b.toNat))=some (x,((r.size:Nat):Int),((s.size:Nat):Int),0)
 | _,_,0,_,_,h=>absurd h (by omega)
 | 0,i,m+1,v,h,_=>by
  rw [Q3v.at13]
  unfold Q3v.r13
  simp (disch:=omega) only [Option.bind_some,Option.bind_none,cond_true,cond_false,Bool.not_true,Bool.not_false,List.length_map,Ws_length,bs_size,within_t,upto_t,wsucc,Int.toNat_natCast,at_mapN,Ws_getDN,cells_agg,cells_v,withCons_cons,withInt_mk,withStr_mk,withBool_mk,withSl_mk,cond_t,cond_f]
  cases f==1
  ·exact ⟨_,rfl⟩
  ·exact ⟨_,rfl⟩
 | d+1,i,m+1,v,h,hm=>by
  have hi:i < l.length:=by omega
  rw [Q3v.at13]
  unfold Q3v.r13
  have e:(l.map fun b=>vu b.toNat).getD i AV.undef=vu l[i].toNat:=by simp [List.getD_eq_getElem?_getD,hi]
  simp (disch:=omega) only [Option.bind_some,Option.bind_none,cond_true,cond_false,Bool.not_true,Bool.not_false,List.length_map,Ws_length,bs_size,within_t,upto_t,wsucc,Int.toNat_natCast,at_mapN,Ws_getDN,cells_agg,cells_v,withCons_cons,withInt_mk,withStr_mk,withBool_mk,withSl_mk,cond_t,cond_f,e]
  exact pn_any s r f a7 a8 l hl d (i+1) m _ (by omega) (by omega)
theorem pn_val (s r:ByteArray) (f:Int) (a7 a8:Int) (l:List UInt8) (hl:l.length≤15) (hd:l.all isD=true):∀ (d i m v:Nat),i+d=l.length→d < m→v < 10 ^ i→
  Q3v.l n m (.z13 s f r (v:Int) l.length i a7 a8 (l.map fun b=>vu b.toNat))=some ((if f=1 then -(valA v (l.drop i):Int) else (valA v (l.drop i):Int)),((r.size:Nat):Int),((s.size:Nat):Int),0)
 | _,_,0,_,_,h,_=>absurd h (by omega)
 | 0,i,m+1,v,h,_,hv=>by
  have hp:10 ^ i≤10 ^ 15:=Nat.pow_le_pow_right (by omega) (by omega)
  rw [Q3v.at13]
  unfold Q3v.r13
  simp (disch:=omega) only [Option.bind_some,Option.bind_none,cond_true,cond_false,Bool.not_true,Bool.not_false,List.length_map,Ws_length,bs_size,within_t,upto_t,wsucc,Int.toNat_natCast,at_mapN,Ws_getDN,cells_agg,cells_v,withCons_cons,withInt_mk,withStr_mk,withBool_mk,withSl_mk,cond_t,cond_f]
  rw [List.drop_of_length_le (by omega),w64 (by omega) (by omega),beq_int,bif_ite,Int.zero_sub]
  show (if f=1 then some (-(valA v []:Int),_) else some ((valA v []:Int),_))=_
  split <;> rfl
 | d+1,i,m+1,v,h,hm,hv=>by
  have hi:i < l.length:=by omega
  have hp:10 ^ i≤10 ^ 14:=Nat.pow_le_pow_right (by omega) (by omega)
  have hdi:=(isD_iff _).1 (List.all_eq_true.1 hd l[i] (List.getElem_mem hi))
  have ih:=pn_val s r f a7 a8 l hl hd d (i+1) m (v*10+(l[i].toNat - 48)) (by omega) (by omega) (by rw [Nat.pow_succ]; omega)
  rw [Q3v.at13]
  unfold Q3v.r13
  have e:(l.map fun b=>vu b.toNat).getD i AV.undef=vu l[i].toNat:=by simp [List.getD_eq_getElem?_getD,hi]
  have e1:IntKind.i64.wrap (IntKind.i64.wrap ((v:Int)*10)+IntKind.i64.wrap (IntKind.u8.wrap (((l[i].toNat:Nat):Int) - 48)))=((v*10+(l[i].toNat - 48):Nat):Int):=by
   rw [w8]
   have:(((l[i].toNat:Nat):Int) - 48) % 256=((l[i].toNat - 48:Nat):Int):=by omega
   rw [this,w64 (x:=(v:Int)*10) (by omega) (by omega),w64 (x:=((l[i].toNat - 48:Nat):Int)) (by omega) (by omega),w64 (by omega) (by omega)]
   omega
  simp (disch:=omega) only [Option.bind_some,Option.bind_none,cond_true,cond_false,Bool.not_true,Bool.not_false,List.length_map,Ws_length,bs_size,within_t,upto_t,wsucc,Int.toNat_natCast,at_mapN,Ws_getDN,cells_agg,cells_v,withCons_cons,withInt_mk,withStr_mk,withBool_mk,withSl_mk,cond_t,cond_f,e,e1]
  rw [ih,List.drop_eq_getElem_cons hi,valA_cons]
theorem trim_eq (l:List UInt8):Q4k.F n (bs l) (⟨#[48]⟩ : ByteArray)=some (bs (l.dropWhile (·==48))):=by
 unfold Q4k.F
 rfl
theorem bod_no46 {s:List UInt8} (h:s.contains 46=true):(bod s).all isD=false:=by
 rw [← Bool.not_eq_true]
 intro h2
 have hm:(46:UInt8)∈bod s:=by
  have h1:(46:UInt8)∈s:=List.contains_iff_mem.1 h
  unfold bod
  cases hs:sgn s
  ·simpa using h1
  ·simp only [if_true]
   match s,h1,hs with
   | c::r,h1,hs=>
    have hc:c=45:=by simpa [sgn] using hs
    rcases List.mem_cons.1 h1 with e | e
    ·rw [hc] at e; cases e
    ·exact e
 have:=List.all_eq_true.1 h2 46 hm
 cases this
theorem whole_eq (hn:100002≤n) (s:List UInt8) (h0:s≠[]) (hs:s.length≤100000):∃ v,Q1m.F n (bs s)=some (v,(numP s).isSome)∧∀ k,numP s=some k→v=k:=by
 have hpos:0 < s.length:=List.length_pos_iff.2 h0
 have hbl:(bod s).length≤s.length∧s.length≤(bod s).length+1:=by
  unfold bod
  split
  ·rw [List.length_drop]; omega
  ·omega
 unfold Q1m.F Q1m.e Q3v.F Q3v.e
 simp only [bs_size,ncond_eq,Option.bind_some]
 rw [nfirst2 (by omega),Option.bind_some,empty_eq,contains46 s hs]
 simp only [h0,decide_false,Bool.false_eq_true,if_false,decide_eq_true_eq]
 by_cases h40:((s.length:Nat):Int) > 40
 ·have hnp:numP s=none:=by
   unfold numP
   rw [if_neg]
   rw [numD_iff]
   rintro ⟨_,h,_⟩
   omega
  rw [hnp]
  simp only [h40,if_true]
  exact ⟨0,rfl,nofun⟩
 ·simp only [h40,if_false]
  obtain ⟨a,b,e,l1,l2,l3⟩:=layout_eq hn s (by omega) h0
  rw [show ((if (0:Int)≠0 then (0:Int) else 0) != 0)=false from rfl,cond_false,l1,Option.bind_some]
  dsimp only
  rw [bif_ne]
  by_cases he:e=0
  ·rw [if_neg (by simp [he])]
   obtain ⟨ha,hor⟩:=l3 he
   have hfr:frm s≤s.length:=by unfold frm; split <;> omega
   have hex:(bs s).extract (frm s) s.length=bs (bod s):=by
    rw [bs_extract,drop_frm,List.take_of_length_le]
    unfold bod frm
    split <;> simp
   rw [ha,show (decide ((0:Int)≤((frm s:Nat):Int))&&decide (((frm s:Nat):Int)≤((s.length:Nat):Int)))=true by simp; omega,cond_true,Int.toNat_natCast]
   simp only [hex]
   unfold Q4g.F
   rw [cond_t (by rw [bs_size]; omega),Option.bind_some]
   dsimp only
   obtain ⟨c1,c2⟩:=cut_len (bod s) [46]
   rw [show (⟨(Lib.cut (bs (bod s)).data.toList (⟨#[46]⟩ : ByteArray).data.toList).1.toArray⟩ : ByteArray)=bs (Lib.cut (bod s) [46]).1 from rfl,show (⟨(Lib.cut (bs (bod s)).data.toList (⟨#[46]⟩ : ByteArray).data.toList).2.1.toArray⟩ : ByteArray)=bs (Lib.cut (bod s) [46]).2.1 from rfl,trim_eq,Option.bind_some]
   have tl:∀ l:List UInt8,(l.dropWhile (·==48)).length≤l.length:=fun l=>(List.dropWhile_sublist _).length_le
   have t1:=tl (Lib.cut (bod s) [46]).1
   rw [bs_size,bs_size,chk_t (by omega),bs_append,bs_size,bs_toList,List.length_map]
   by_cases h46:s.contains 46=true
   ·have hnp:numP s=none:=by
     unfold numP
     rw [if_neg]
     rw [numD_iff]
     rintro ⟨_,_,h,_⟩
     rw [bod_no46 h46] at h
     cases h
    rw [hnp,h46]
    by_cases h15:(((((Lib.cut (bod s) [46]).1.dropWhile (·==48))++(Lib.cut (bod s) [46]).2.1).length:Nat):Int) > 15
    ·rw [cond_t h15]
     exact ⟨0,rfl,nofun⟩
    ·rw [cond_f h15]
     obtain ⟨x,hx⟩:=pn_any (n:=n) (bs s) (bs (Lib.cut (bod s) [46]).2.1) ((frm s:Nat):Int) 0 0 (((Lib.cut (bod s) [46]).1.dropWhile (·==48))++(Lib.cut (bod s) [46]).2.1) (by rw [List.length_append]; omega) _ 0 n 0 (Nat.zero_add _) (by rw [List.length_append]; omega)
     have e0:((0:Nat):Int)=0:=rfl
     rw [e0] at hx
     rw [hx]
     exact ⟨x,rfl,nofun⟩
   ·have h46' : s.contains 46=false:=by simpa using h46
    obtain ⟨d1,d2,d3⟩ : (bod s).all isD=true∧1≤(bod s).length∧zok (bod s)=true:=by
     rcases hor with h | h
     ·exact h
     ·exact absurd h h46
    have hb46:(bod s).contains 46=false:=by
     rw [← Bool.not_eq_true]
     intro h
     have:=List.all_eq_true.1 d1 46 (List.contains_iff_mem.1 h)
     cases this
    rw [cut_miss hb46,h46']
    simp only [List.append_nil]
    have hfe:(((frm s:Nat):Int)=1)↔sgn s=true:=by
     unfold frm
     cases sgn s <;> simp
    -- the digits behind zeros
    by_cases hz:bod s=[48]
    ·have hnp:numP s=some 0:=by
      unfold numP
      rw [hz,if_pos (by decide)]
      cases sgn s <;> rfl
     rw [hnp,hz]
     refine ⟨0,?_,fun k hk=>by cases hk; rfl⟩
     have e1:([48]:List UInt8).dropWhile (·==48)=[]:=rfl
     rw [e1]
     have hv:=pn_val (n:=n) (bs s) (bs []) ((frm s:Nat):Int) 0 0 [] (by simp) rfl 0 0 n 0 rfl (by omega) (by simp)
     have e0:((0:Nat):Int)=0:=rfl
     have e2:(([]:List UInt8).length:Int)=0:=rfl
     rw [e0,e2] at hv
     rw [e2,show decide ((0:Int) > 15)=false from rfl,cond_false,hv]
     simp [valA]
    ·have hdw:(bod s).dropWhile (·==48)=bod s:=by
      have h1:¬ (1 < (bod s).length∧(bod s).getD 0 0=48):=(zok_iff _).1 d3
      match hb:bod s,d2,hz,h1 with
      | c::r,_,hz,h1=>
       have:(c==48)=false:=by
        rw [beq_eq_false_iff_ne]
        intro e
        refine h1 ⟨?_,e⟩
        match r,hz with
        | [],hz=>exact absurd (by rw [e]) hz
        | _::_,_=>simp
       rw [List.dropWhile_cons,this]
       rfl
     rw [hdw]
     by_cases h15:(((bod s).length:Nat):Int) > 15
     ·have hnp:numP s=none:=by
       unfold numP
       rw [if_neg]
       rw [numD_iff]
       rintro ⟨_,h,_⟩
       omega
      rw [hnp,cond_t h15]
      exact ⟨0,rfl,nofun⟩
     ·have hnd:numD (bod s)=true:=by rw [numD_iff]; exact ⟨d2,by omega,d1,(zok_iff _).1 d3⟩
      rw [cond_f h15]
      have hv:=pn_val (n:=n) (bs s) (bs []) ((frm s:Nat):Int) 0 0 (bod s) (by omega) d1 (bod s).length 0 n 0 (Nat.zero_add _) (by omega) (by simp)
      have e0:((0:Nat):Int)=0:=rfl
      rw [e0,List.drop_zero] at hv
      rw [hv]
      unfold numP
      rw [if_pos hnd]
      simp only [hfe]
      exact ⟨_,rfl,fun k hk=>by cases hk; rfl⟩
  ·rw [if_pos he]
   have hnp:numP s=none:=by
    unfold numP
    rw [if_neg]
    intro h
    rw [numD_iff] at h
    obtain ⟨x,_,y,z⟩:=h
    exact he (l2 ⟨y,x,(zok_iff _).2 z⟩).2
   rw [hnp]
   have:(e==0)=false:=by simpa using he
   simp only [Option.bind_some,this,cond_false]
   exact ⟨0,rfl,nofun⟩
end
end Go.Proofs.YtmpglmcjoelciaaGreatDoor.Ev
namespace Go.Proofs.YtmpglmcjoelciaaGreatDoor.Ev
open Go Go.Proofs Go.Proofs.Ev
set_option linter.unusedVariables false
set_option linter.unusedSimpArgs false
def prd:List UInt8→Bool
 | []=>true
 | [c]=>!(c==39)
 | c::d::r=>if c=39 then (d==39)&&prd r else prd (d::r)
def unq:List UInt8→List UInt8
 | []=>[]
 | [c]=>[c]
 | c::d::r=>if c=39 then 39::unq r else c::unq (d::r)
theorem prd_cons {c:UInt8} (h:c≠39) (r:List UInt8):prd (c::r)=prd r:=by
 cases r with
 | nil=>simp [prd,h]
 | cons d r=>rw [prd,if_neg h]
theorem unq_cons {c:UInt8} (h:c≠39) (r:List UInt8):unq (c::r)=c::unq r:=by
 cases r with
 | nil=>rfl
 | cons d r=>rw [unq,if_neg h]
structure Good (w:List UInt8):Prop where
 pos:w≠[]
 len:w.length≤1000
 str:w.getD 0 0=39→∃ q,prd q=true∧w=39::(q++[39])
 bare:w.getD 0 0≠39→w.contains 39=false
theorem qt_good:∀ (k:Nat) (r:List UInt8) (i e:Nat),r.length≤k→qt r i=some e→∃ q,prd q=true∧e=i+q.length+1∧r.take (q.length+1)=q++[39]
 | _,[],_,_,_,h=>by cases h
 | 0,_::_,_,_,hk,_=>absurd hk (by simp)
 | k+1,c::r,i,e,hk,h=>by
  unfold qt at h
  by_cases hc:c=39
  ·rw [if_neg (by simp [hc])] at h
   cases r with
   | nil=>cases h; exact ⟨[],rfl,rfl,by rw [hc]; rfl⟩
   | cons d r'=>
    dsimp only at h
    by_cases hd:d=39
    ·rw [if_pos hd] at h
     obtain ⟨q,q1,q2,q3⟩:=qt_good k r' (i+2) e (by simp at hk; omega) h
     refine ⟨39::39::q,?_,by simp; omega,?_⟩
     ·rw [prd,if_pos rfl,q1]; rfl
     ·rw [hc,hd]
      simp only [List.length_cons,List.take_succ_cons,q3]
      rfl
    ·rw [if_neg hd] at h
     cases h
     exact ⟨[],rfl,rfl,by rw [hc]; rfl⟩
  ·rw [if_pos hc] at h
   obtain ⟨q,q1,q2,q3⟩:=qt_good k r (i+1) e (by simp at hk; omega) h
   refine ⟨c::q,by rw [prd_cons hc]; exact q1,by simp; omega,?_⟩
   simp only [List.length_cons,List.take_succ_cons,q3]
   rfl
theorem wrd_good {l:List UInt8} (h:wrd l≠0) (hl:l.length≤1000):Good (l.take (wrd l)):=by
 have hle:=wrd_le l
 match l,h,hl,hle with
 | [],h,_,_=>exact absurd rfl h
 | c::r,h,hl,hle=>
  have h1:(c::r).take (wrd (c::r))≠[]:=by
   intro e
   have:=congrArg List.length e
   rw [List.length_take,List.length_nil] at this
   simp only [List.length_cons] at this hle
   omega
  have hd:((c::r).take (wrd (c::r))).getD 0 0=c:=by
   obtain ⟨k,hk⟩ : ∃ k,wrd (c::r)=k+1:=⟨wrd (c::r) - 1,by omega⟩
   rw [hk]
   rfl
  refine ⟨h1,by rw [List.length_take]; omega,?_,?_⟩
  ·intro h39
   rw [hd] at h39
   rw [wrd_cons,if_pos h39] at h ⊢
   cases hq:qt r 1 with
   | none=>rw [hq] at h; exact absurd rfl h
   | some e=>
    rw [hq] at h
    dsimp only at h ⊢
    by_cases hx:e < (c::r).length∧(c::r).getD e 0≠32
    ·rw [if_pos hx] at h; exact absurd rfl h
    ·rw [if_neg hx]
     obtain ⟨q,q1,q2,q3⟩:=qt_good r.length r 1 e (Nat.le_refl _) hq
     refine ⟨q,q1,?_⟩
     rw [q2,show 1+q.length+1=(q.length+1)+1 by omega,List.take_succ_cons,q3,h39]
  ·intro h39
   rw [hd] at h39
   rw [wrd_cons,if_neg h39] at h ⊢
   by_cases hx:((c::r).take (ib (c::r) 32)).contains 39=true
   ·rw [if_pos hx] at h; exact absurd rfl h
   ·rw [if_neg hx]
    simpa using hx
theorem wordsP_good:∀ (g:Nat) (l:List UInt8) (ws:List (List UInt8)),l.length≤1000→wordsP g l=some ws→∀ w∈ws,Good w
 | 0,_,_,_,h=>by cases h
 | g+1,l,ws,hl,h=>by
  unfold wordsP at h
  by_cases h0:wrd l=0
  ·rw [if_pos h0] at h; cases h
  ·rw [if_neg h0] at h
   have hg:=wrd_good h0 hl
   by_cases h1:wrd l=l.length
   ·rw [if_pos h1] at h
    cases h
    intro w hw
    rw [List.mem_singleton] at hw
    subst hw
    rw [h1,List.take_length] at hg
    exact hg
   ·rw [if_neg h1] at h
    cases hr:wordsP g (l.drop (wrd l+1)) with
    | none=>rw [hr] at h; cases h
    | some r=>
     rw [hr] at h
     cases h
     intro w hw
     rcases List.mem_cons.1 hw with rfl | hw
     ·exact hg
     ·exact wordsP_good g _ r (by rw [List.length_drop]; omega) hr w hw
theorem Good.has {w:List UInt8} (h:Good w):w.contains 39=(w.getD 0 0==39):=by
 by_cases h0:w.getD 0 0=39
 ·obtain ⟨q,_,e⟩:=h.str h0
  rw [h0,e]
  simp
 ·rw [h.bare h0]
  simpa using h0
def isB (w:List UInt8):Bool:=!(w.getD 0 0==39)
section
variable {n:Nat}
theorem bares_l (ws:List (List UInt8)) (hw:ws.length≤1000) (hg:∀ w∈ws,Good w):∀ (d i m:Nat),i+d=ws.length→d < m→∃ x,Q4a.l n m (.z2 (Ws ws) ws.length i)=some x∧decide (x≥0)=!(ws.drop i).all isB
 | _,_,0,_,h=>absurd h (by omega)
 | 0,i,m+1,h,_=>by
  rw [Q4a.at2]
  unfold Q4a.r2
  simp (disch:=omega) only [Option.bind_some,Option.bind_none,cond_true,cond_false,Bool.not_true,Bool.not_false,List.length_map,Ws_length,bs_size,within_t,upto_t,wsucc,Int.toNat_natCast,at_mapN,Ws_getDN,cells_agg,cells_v,withCons_cons,withInt_mk,withStr_mk,withBool_mk,withSl_mk,cond_t,cond_f]
  rw [List.drop_of_length_le (by omega)]
  exact ⟨-1,rfl,rfl⟩
 | d+1,i,m+1,h,hm=>by
  have hi:i < ws.length:=by omega
  obtain ⟨x,h1,h2⟩:=bares_l ws hw hg d (i+1) m (by omega) (by omega)
  have hgi:=hg ws[i] (List.getElem_mem hi)
  have hc:=contains_eq (n:=n) ws[i] (by have:=hgi.len; omega)
  rw [Q4a.at2]
  unfold Q4a.r2
  simp (disch:=omega) only [Option.bind_some,Option.bind_none,cond_true,cond_false,Bool.not_true,Bool.not_false,List.length_map,Ws_length,bs_size,within_t,upto_t,wsucc,Int.toNat_natCast,at_mapN,Ws_getDN,cells_agg,cells_v,withCons_cons,withInt_mk,withStr_mk,withBool_mk,withSl_mk,cond_t,cond_f,Q0q.F,Q0q.e,hc,h1]
  rw [List.drop_eq_getElem_cons hi,List.all_cons,hgi.has]
  unfold isB at h2 ⊢
  by_cases h39:ws[i].getD 0 0=39
  ·refine ⟨i,by rw [h39]; rfl,?_⟩
   rw [h39]
   simp
  ·have:(ws[i].getD 0 0==39)=false:=by simpa using h39
   refine ⟨x,by rw [this]; rfl,?_⟩
   rw [h2,this]
   simp
theorem isBare_eq (hn:1001≤n) (ws:List (List UInt8)) (hw:ws.length≤1000) (hg:∀ w∈ws,Good w):Q0p.F n (Ws ws)=some (ws.all isB):=by
 unfold Q0p.F Q0p.e Q45.F Q45.e Q4a.F Q4a.e
 obtain ⟨x,h1,h2⟩:=bares_l (n:=n) ws hw hg ws.length 0 n (by omega) (by omega)
 rw [List.drop_zero] at h2
 have e0:((0:Nat):Int)=0:=rfl
 rw [e0] at h1
 rw [Ws_length,h1,Option.bind_some,Option.bind_some,h2,Bool.not_not]
theorem replU:∀ (j:Nat) (s:List UInt8) (k:Nat),s.length≤j→prd s=true→Lib.count s [39,39]≤k→Lib.replaceK [39,39] [39] k s=unq s
 | _,[],0,_,_,_=>rfl
 | _,[],k+1,_,_,_=>rfl
 | 0,_::_,_,hj,_,_=>absurd hj (by simp)
 | j+1,c::s,k,hj,hp,h=>by
  by_cases hc:c=39
  ·subst hc
   match s,hj,hp,h with
   | [],_,hp,_=>cases hp
   | d::r,hj,hp,h=>
    rw [prd,if_pos rfl,Bool.and_eq_true,beq_iff_eq] at hp
    obtain ⟨rfl,hp⟩:=hp
    have hi:Lib.index (39::39::r) [39,39]=((0:Nat):Int):=by simp [Lib.index]
    have hct:=Lib.count_hit (by simp) hi
    simp only [List.length_cons,List.length_nil,Nat.zero_add,List.drop_succ_cons,List.drop_zero] at hct
    obtain ⟨k,rfl⟩ : ∃ q,k=q+1:=⟨k - 1,by omega⟩
    rw [Lib.replaceK_hit [39,39] [39] k (39::39::r) 0 hi,unq,if_pos rfl]
    simp only [List.take_zero,List.nil_append,List.length_cons,List.length_nil,Nat.zero_add,List.drop_succ_cons,List.drop_zero]
    rw [replU j r k (by simp at hj; omega) hp (by omega)]
    rfl
  ·rw [prd_cons hc] at hp
   rw [unq_cons hc]
   have hcn:([39,39]:List UInt8).isPrefixOf (c::s)=false:=by
    simp [List.isPrefixOf]
    intro e; exact absurd e.symm hc
   have hix:Lib.index (c::s) [39,39]=if Lib.index s [39,39]==-1 then -1 else Lib.index s [39,39]+1:=by
    rw [Lib.index,hcn]; rfl
   have hge:=Lib.index_ge s [39,39]
   by_cases hm:Lib.index s [39,39]=-1
   ·have hm' : Lib.index (c::s) [39,39]=-1:=by rw [hix,hm]; rfl
    have ih:=replU j s 0 (by simp at hj; omega) hp (by rw [Lib.count_miss hm]; omega)
    rw [Lib.replaceK] at ih
    rw [← ih]
    cases k with
    | zero=>rfl
    | succ k=>rw [Lib.replaceK,if_pos (by rw [hm']; rfl)]
   ·obtain ⟨i,hi⟩ : ∃ i:Nat,Lib.index s [39,39]=i:=⟨(Lib.index s [39,39]).toNat,by omega⟩
    have hi' : Lib.index (c::s) [39,39]=((i+1:Nat):Int):=by
     rw [hix,if_neg (by rw [beq_iff_eq]; exact hm),hi]; rfl
    have c1:=Lib.count_hit (by simp) hi
    have c2:=Lib.count_hit (by simp) hi'
    have hlen:i+1+([39,39]:List UInt8).length=(i+([39,39]:List UInt8).length)+1:=by simp
    rw [hlen,List.drop_succ_cons,← c1] at c2
    rw [c2] at h
    obtain ⟨k,rfl⟩ : ∃ q,k=q+1:=⟨k - 1,by omega⟩
    have ih:=replU j s (k+1) (by simp at hj; omega) hp h
    rw [Lib.replaceK_hit _ _ k s i hi] at ih
    rw [Lib.replaceK_hit _ _ k (c::s) (i+1) hi',hlen,List.drop_succ_cons,List.take_succ_cons,← ih]
    simp
theorem replaceU_eq (s:List UInt8) (hs:s.length≤100000) (hp:prd s=true):Q4j.F n (bs s) (bs [39,39]) (bs [39])=some (bs (unq s)):=by
 unfold Q4j.F
 have hc:Lib.countB (bs s) (bs [39,39])≤s.length:=Lib.countB_le (bs [39,39]) (by decide) s.length (bs s) (by rw [bs_size]; omega)
 have hg:((decide ((bs s).size < 4294967281)&&decide (1≤(bs [39,39]).size))&&decide ((bs s).size+Lib.countB (bs s) (bs [39,39])*(bs [39]).size≤140737488355328))=true:=by
  rw [Bool.and_eq_true,Bool.and_eq_true,decide_eq_true_eq,decide_eq_true_eq,decide_eq_true_eq,bs_size,bs_size,bs_size]
  simp only [List.length_cons,List.length_nil]
  omega
 rw [hg,cond_true]
 have:Lib.replaceAll (bs s).data.toList (bs [39,39]).data.toList (bs [39]).data.toList=unq s:=by
  show Lib.replaceAll s [39,39] [39]=unq s
  unfold Lib.replaceAll Lib.replace Lib.replaceNum
  rw [if_neg (by decide),if_pos (by left; decide),replU s.length s _ (Nat.le_refl _) hp (Nat.le_refl _)]
 rw [this]
end
end Go.Proofs.YtmpglmcjoelciaaGreatDoor.Ev
namespace Go.Proofs.YtmpglmcjoelciaaGreatDoor.Ev
open Go Go.Proofs Go.Proofs.Ev
set_option linter.unusedVariables false
set_option linter.unusedSimpArgs false
def valP (w:List UInt8):Option (Int × List UInt8):=if w.getD 0 0=39 then some (0,unq (w.drop 1).dropLast) else (numP w).map fun v=>(v,[])
section
variable {n:Nat}
theorem inner_eq (q:List UInt8):((39::(q++[39])).drop 1).dropLast=q:=by simp
theorem byte0 {w:List UInt8} (h:0 < w.length):((((w[0].toNat:Nat):Int))==39)=(w.getD 0 0==39):=by
 have e0:w.getD 0 0=w[0]:=by simp [List.getD_eq_getElem?_getD,h]
 rw [e0,beq_int]
 by_cases h1:w[0]=39
 ·rw [h1]; rfl
 ·have h2:(w[0]==39)=false:=by simpa using h1
  rw [h2,decide_eq_false_iff_not]
  intro e
  have e2:w[0].toNat=39:=by omega
  exact h1 (UInt8.toNat_inj.1 (by rw [e2]; rfl))
theorem valueOf_eq (hn:100002≤n) {w:List UInt8} (h:Good w):∃ a b,Q1l.F n (bs w)=some (a,b,(valP w).isSome)∧∀ k,valP w=some k→a=k.1∧b=bs k.2:=by
 have hpos:0 < w.length:=List.length_pos_iff.2 h.pos
 have hlen:=h.len
 unfold Q1l.F Q1l.e valP
 rw [bs_size,cond_t (by omega)]
 simp only [getD_at hpos,byte0 hpos]
 by_cases h39:w.getD 0 0=39
 ·obtain ⟨q,q1,rfl⟩:=h.str h39
  have hql:(39::(q++[39])).length=q.length+2:=by simp
  rw [if_pos h39,h39,inner_eq]
  have w1:IntKind.i64.wrap ((((39::(q++[39])).length:Nat):Int) - 1)=((q.length+1:Nat):Int):=by
   rw [hql,w64 (by omega) (by omega)]; omega
  have u1:(decide ((0:Int)≤((q.length+1:Nat):Int))&&decide (((q.length+1:Nat):Int)≤(((39::(q++[39])).length:Nat):Int)))=true:=by
   rw [hql,Bool.and_eq_true,decide_eq_true_eq,decide_eq_true_eq]; omega
  have u2:(decide ((0:Int)≤1)&&decide ((1:Int)≤((q.length+1:Nat):Int)))=true:=by
   rw [Bool.and_eq_true,decide_eq_true_eq,decide_eq_true_eq]; omega
  have ex:(bs (39::(q++[39]))).extract 1 (q.length+1)=bs q:=by
   rw [bs_extract]
   congr 1
   simp
  simp only [beq_self_eq_true,cond_true,w1,u1,u2,Int.toNat_natCast]
  rw [ex,lit2,lit1,replaceU_eq q (by rw [hql] at hlen; omega) q1]
  exact ⟨0,bs (unq q),rfl,fun k hk=>by cases hk; exact ⟨rfl,rfl⟩⟩
 ·have hb:(w.getD 0 0==39)=false:=by simpa using h39
  rw [if_neg h39,hb,cond_false]
  obtain ⟨v,v1,v2⟩:=whole_eq hn w h.pos (by omega)
  rw [v1,Option.bind_some]
  refine ⟨v,⟨#[]⟩,by rw [Option.isSome_map],?_⟩
  intro k hk
  cases hp:numP w with
  | none=>rw [hp] at hk; cases hk
  | some x=>rw [hp] at hk; cases hk; exact ⟨v2 x hp,rfl⟩
end
end Go.Proofs.YtmpglmcjoelciaaGreatDoor.Ev
namespace Go.Proofs.YtmpglmcjoelciaaGreatDoor.Ev
open Go Go.Proofs Go.Proofs.Ev
set_option linter.unusedVariables false
section
variable {n:Nat} {nm fm:ByteArray} {ws:List (List UInt8)} {fs:List LF} {js:List JP} {ks:List KF} {uq:Bool} {rs:List RL}
theorem own_l (rs:List RL) (hr:rs.length≤1000) (hc:∀ r∈rs,r.cs.length≤1000) (p1 a3 a4 a5:List AV) (x y:ByteArray) (b:Bool):∀ (d i m:Nat),i+d=rs.length→d < m→
  Q30.l n m (.z7 i nm fm uq (rs.map RL.av) p1 a3 a4 a5 x y b ((rs.take i).map RL.av))=some (nm,fm,p1,a3,a4,a5,uq,rs.map RL.av)
 | _,_,0,_,h=>absurd h (by omega)
 | 0,i,m+1,h,_=>by
  rw [Q30.at7]
  unfold Q30.r7
  simp only [List.length_map]
  rw [cond_f (by omega),List.take_of_length_le (by omega)]
 | d+1,i,m+1,h,hm=>by
  have hi:i < rs.length:=by omega
  have hci:=hc _ (List.getElem_mem hi)
  have hmost:most=1000000000:=rfl
  have ih:=own_l rs hr hc p1 a3 a4 a5 x y b d (i+1) m (by omega) (by omega)
  rw [Q30.at7]
  unfold Q30.r7
  simp only [List.length_map]
  rw [cond_t (by omega),within_t hi,cond_true,at_map RL.av hi]
  show (bif true then (bif decide ((rs[i].cs.map CN.av).length≤most) then (bif decide ((rs.take i).length+1≤most) then
   (Q30.l n m (.z7 (IntKind.i64.wrap ((i:Int)+1)) nm fm uq (rs.map RL.av) p1 a3 a4 a5 x y b ((rs.take i).map RL.av++[RL.av rs[i]]))) else none) else none) else none)=_
  rw [cond_true,cond_t (by rw [List.length_map]; omega),cond_t (by rw [List.length_take]; omega),wsucc (by omega)]
  have e:(rs.take i).map RL.av++[RL.av rs[i]]=(rs.take (i+1)).map RL.av:=by rw [List.take_succ_eq_append_getElem hi,List.map_append]; rfl
  rw [e]
  exact ih
theorem own_eq (hn:1001≤n) (hw:ws.length≤1000) (hf:fs.length≤1000) (hj:js.length≤1000) (hk:ks.length≤1000) (hr:rs.length≤1000) (hc:∀ r∈rs,r.cs.length≤1000) :
  Q30.F n nm fm (Ws ws) (fs.map LF.av) (js.map JP.av) (ks.map KF.av) uq (rs.map RL.av)=some (nm,fm,Ws ws,fs.map LF.av,js.map JP.av,ks.map KF.av,uq,rs.map RL.av):=by
 have hmost:most=1000000000:=rfl
 unfold Q30.F Q30.e Q1o.F Q1o.e
 rw [cond_t (by rw [Ws_length]; omega),Option.bind_some,cond_t (by rw [List.length_map]; omega),cond_t (by rw [List.length_map]; omega),cond_t (by rw [List.length_map]; omega)]
 exact own_l rs hr hc _ _ _ _ _ _ _ rs.length 0 n (by omega) (by omega)
end
end Go.Proofs.YtmpglmcjoelciaaGreatDoor.Ev
namespace Go.Proofs.YtmpglmcjoelciaaGreatDoor.Ev
open Go Go.Proofs Go.Proofs.Ev
set_option linter.unusedVariables false
set_option linter.unusedSimpArgs false
theorem nm_of_ne {b:List (List UInt8)} {s:List UInt8} (h:ne b s=0):isNm s=true∧b.contains s=false:=by
 unfold ne at h
 cases h1:isNm s
 ·rw [h1] at h; cases h
 ·rw [h1,if_neg (by simp)] at h
  cases h2:b.contains s
  ·exact ⟨rfl,rfl⟩
  ·rw [h2,if_pos rfl] at h; cases h
theorem bErr_ok {ws:List (List UInt8)}:∀ {l:List (List UInt8)} {i:Nat},(bErr ws l i).2=0→∀ w∈l,isNm w=true
 | [],_,_=>by simp
 | w::l,i,h=>by
  rw [bErr_cons] at h
  by_cases h0:ne (ws.take i) w=0
  ·rw [if_neg (by simp [h0])] at h
   intro v hv
   rcases List.mem_cons.1 hv with rfl | hv
   ·exact (nm_of_ne h0).1
   ·exact bErr_ok h v hv
  ·rw [if_pos h0] at h; exact absurd h h0
structure FOk (nb:Int) (f:LF):Prop where
 nm:isNm f.nm=true
 b0:0≤f.b
 b1:f.b≤nb
 fd:isNm f.fd=true
theorem fe_ok {nb:Int} {b:List (List UInt8)} {f:LF} (h:fe nb b f=0):FOk nb f:=by
 unfold fe at h
 by_cases h1:ne b f.nm=0
 ·rw [if_neg (by simp [h1])] at h
  by_cases h2:0≤f.b∧f.b≤nb
  ·rw [if_neg (by simp [h2])] at h
   cases h3:isNm f.fd
   ·rw [h3] at h; cases h
   ·exact ⟨(nm_of_ne h1).1,h2.1,h2.2,h3⟩
  ·rw [if_pos h2] at h; cases h
 ·rw [if_pos h1] at h; exact absurd h h1
theorem fErr_ok {nb:Int} {ns:List (List UInt8)}:∀ {l:List LF} {i:Nat},(fErr nb ns l i).2=0→∀ f∈l,FOk nb f
 | [],_,_=>by simp
 | f::l,i,h=>by
  rw [fErr_cons] at h
  by_cases h0:fe nb (ns.take i) f=0
  ·rw [if_neg (by simp [h0])] at h
   intro v hv
   rcases List.mem_cons.1 hv with rfl | hv
   ·exact fe_ok h0
   ·exact fErr_ok h v hv
  ·rw [if_pos h0] at h; exact absurd h h0
structure JOk (nb:Int) (j:JP):Prop where
 b0:1≤j.b
 b1:j.b≤nb
 f0:0≤j.fr
 f1:j.fr≤j.b - 1
 lf:isNm j.lf=true
 rt:isNm j.rt=true
theorem je_ok {nb last:Int} {j:JP} (h:je nb last j=0):JOk nb j:=by
 unfold je at h
 by_cases h1:1≤j.b∧j.b≤nb
 ·rw [if_neg (by simp [h1])] at h
  by_cases h2:0≤j.fr∧j.fr≤j.b - 1
  ·rw [if_neg (by simp [h2])] at h
   cases h3:isNm j.lf
   ·rw [h3] at h; cases h
   ·cases h4:isNm j.rt
    ·rw [h3,h4] at h; cases h
    ·exact ⟨h1.1,h1.2,h2.1,h2.2,h3,h4⟩
  ·rw [if_pos h2] at h; cases h
 ·rw [if_pos h1] at h; cases h
theorem jErr_ok {nb:Int}:∀ {l:List JP} {i:Nat} {last:Int} {ts:List Bool},(jErr nb l i last ts).2=0→∀ j∈l,JOk nb j
 | [],_,_,_,_=>by simp
 | j::l,i,last,ts,h=>by
  rw [jErr_cons] at h
  by_cases h0:je nb last j=0
  ·rw [if_neg (by simp [h0])] at h
   intro v hv
   rcases List.mem_cons.1 hv with rfl | hv
   ·exact je_ok h0
   ·exact jErr_ok h v hv
  ·rw [if_pos h0] at h; exact absurd h h0
theorem kErr_ok {ns kn:List (List UInt8)}:∀ {l:List KF} {i:Nat},(kErr ns kn l i).2=0→∀ k∈l,ns.contains k.nm=true
 | [],_,_=>by simp
 | k::l,i,h=>by
  rw [kErr_cons] at h
  by_cases h0:ke ns (kn.take i) k=0
  ·rw [if_neg (by simp [h0])] at h
   intro v hv
   rcases List.mem_cons.1 hv with rfl | hv
   ·unfold ke at h0
    cases h1:ns.contains v.nm
    ·rw [h1] at h0; cases h0
    ·rfl
   ·exact kErr_ok h v hv
  ·rw [if_pos h0] at h; exact absurd h h0
structure COk (ns:List (List UInt8)) (c:CN):Prop where
 fd:ns.contains c.fd=true
 o0:0≤c.op
 o1:c.op≤5
 n0 : -999999999999999≤c.n
 n1:c.n≤999999999999999
 sl:c.s.length≤256
 one:c.n=0∨c.s=[]
theorem ce_ok {ns:List (List UInt8)} {c:CN} (h:ce ns c=0):COk ns c:=by
 unfold ce at h
 cases h1:ns.contains c.fd
 ·rw [h1] at h; cases h
 ·rw [h1,if_neg (by simp)] at h
  by_cases h2:0≤c.op∧c.op≤5
  ·rw [if_neg (by simp [h2])] at h
   by_cases h3 : -999999999999999≤c.n∧c.n≤999999999999999
   ·rw [if_neg (by simp [h3])] at h
    by_cases h4:c.s.length > 256
    ·rw [if_pos h4] at h; cases h
    ·rw [if_neg h4] at h
     by_cases h5:c.n≠0∧c.s≠[]
     ·rw [if_pos h5] at h; cases h
     ·refine ⟨h1,h2.1,h2.2,h3.1,h3.2,by omega,?_⟩
      by_cases h6:c.n=0
      ·exact .inl h6
      ·exact .inr (Classical.byContradiction fun h7=>h5 ⟨h6,h7⟩)
   ·rw [if_pos h3] at h; cases h
  ·rw [if_pos h2] at h; cases h
theorem cErr_ok {ns:List (List UInt8)}:∀ {l:List CN},cErr ns l=0→∀ c∈l,COk ns c
 | [],_=>by simp
 | c::l,h=>by
  rw [cErr_cons] at h
  by_cases h0:ce ns c=0
  ·rw [if_neg (by simp [h0])] at h
   intro v hv
   rcases List.mem_cons.1 hv with rfl | hv
   ·exact ce_ok h0
   ·exact cErr_ok h v hv
  ·rw [if_pos h0] at h; exact absurd h h0
structure ROk (ns:List (List UInt8)) (r:RL):Prop where
 len:r.cs.length≤4
 cs:∀ c∈r.cs,COk ns c
theorem rErr_ok {ns:List (List UInt8)}:∀ {l:List RL} {i:Nat},(rErr ns l i).2=0→∀ r∈l,ROk ns r
 | [],_,_=>by simp
 | r::l,i,h=>by
  rw [rErr_cons] at h
  by_cases h0:re ns r=0
  ·rw [if_neg (by simp [h0])] at h
   intro v hv
   rcases List.mem_cons.1 hv with rfl | hv
   ·unfold re at h0
    by_cases h1:v.cs.length > 4
    ·rw [if_pos h1] at h0; cases h0
    ·rw [if_neg h1] at h0
     exact ⟨by omega,cErr_ok h0⟩
   ·exact rErr_ok h v hv
  ·rw [if_pos h0] at h; exact absurd h h0
structure LOk (nm fm:List UInt8) (ws:List (List UInt8)) (fs:List LF) (js:List JP) (ks:List KF) (uq:Bool) (rs:List RL):Prop where
 nm:isNm nm=true
 fm:isNm fm=true
 w0:1≤ws.length
 w1:ws.length≤3
 wsn:∀ w∈ws,isNm w=true
 f0:1≤fs.length
 f1:fs.length≤20
 fso:∀ f∈fs,FOk ((ws.length:Int) - 1) f
 j1:js.length≤20
 jso:∀ j∈js,JOk ((ws.length:Int) - 1) j
 k1:ks.length≤4
 kso:∀ k∈ks,(names fs).contains k.nm=true
 ke:(kErrT (names fs) ks).2=0
 r1:rs.length≤8
 rso:∀ r∈rs,ROk (names fs) r
theorem chkL_ok {nm fm:List UInt8} {ws:List (List UInt8)} {fs:List LF} {js:List JP} {ks:List KF} {uq:Bool} {rs:List RL} (h:(chkL nm fm ws fs js ks uq rs).2=0):LOk nm fm ws fs js ks uq rs:=by
 unfold chkL at h
 cases h1:isNm nm
 ·rw [h1] at h; cases h
 cases h2:isNm fm
 ·rw [h1,h2] at h; cases h
 rw [h1,h2,if_neg (by simp),if_neg (by simp)] at h
 by_cases h3:(bErrT ws).2=0
 case neg=>rw [if_pos h3] at h; exact absurd h h3
 rw [if_neg (by simp [h3])] at h
 by_cases h4:(fErrT ws fs).2=0
 case neg=>rw [if_pos h4] at h; exact absurd h h4
 rw [if_neg (by simp [h4])] at h
 by_cases h5:(jErrT ws js).2=0
 case neg=>rw [if_pos h5] at h; exact absurd h h5
 rw [if_neg (by simp [h5])] at h
 by_cases h6:(kErrT (names fs) ks).2=0
 case neg=>rw [if_pos h6] at h; exact absurd h h6
 rw [if_neg (by simp [h6])] at h
 by_cases h7:(rErrT (names fs) rs).2=0
 case neg=>rw [if_pos h7] at h; exact absurd h h7
 clear h
 have h6':=h6
 unfold bErrT at h3
 unfold fErrT at h4
 unfold jErrT at h5
 unfold kErrT at h6
 unfold rErrT at h7
 by_cases a1:ws.length=0
 ·rw [if_pos a1] at h3; cases h3
 by_cases a2:ws.length > 3
 ·rw [if_neg a1,if_pos a2] at h3; cases h3
 rw [if_neg a1,if_neg a2] at h3
 by_cases a3:fs.length=0
 ·rw [if_pos a3] at h4; cases h4
 by_cases a4:fs.length > 20
 ·rw [if_neg a3,if_pos a4] at h4; cases h4
 rw [if_neg a3,if_neg a4] at h4
 by_cases a5:js.length > 20
 ·rw [if_pos a5] at h5; cases h5
 rw [if_neg a5] at h5
 by_cases a6:ks.length > 4
 ·rw [if_pos a6] at h6; cases h6
 rw [if_neg a6] at h6
 by_cases a7:rs.length > 8
 ·rw [if_pos a7] at h7; cases h7
 rw [if_neg a7] at h7
 exact ⟨h1,h2,by omega,by omega,bErr_ok h3,by omega,by omega,fErr_ok h4,by omega,jErr_ok h5,by omega,kErr_ok h6,h6',by omega,rErr_ok h7⟩
end Go.Proofs.YtmpglmcjoelciaaGreatDoor.Ev
namespace Go.Proofs.YtmpglmcjoelciaaGreatDoor.Ev
open Go Go.Proofs Go.Proofs.Ev
set_option linter.unusedVariables false
set_option linter.unusedSimpArgs false
def opT (o:Int):List UInt8:=([[69,81],[78,69],[76,84],[76,69],[71,84],[71,69]]:List (List UInt8)).getD o.toNat []
def valT (c:CN):List UInt8:=if c.s=[] then Lib.itoa c.n else qd c.s
def cndT (c:CN):List UInt8:=[32]++c.fd++[32]++opT c.op++[32]++valT c
def cndsT:Nat→List CN→List UInt8
 | _,[]=>[]
 | i,c::r=>(if i > 0 then [32,65,78,68] else [])++cndT c++cndsT (i+1) r
theorem cndsT_cons (i:Nat) (c:CN) (r:List CN):cndsT i (c::r)=(if i > 0 then [32,65,78,68] else [])++cndT c++cndsT (i+1) r:=rfl
def ruleT (r:RL):List UInt8:=(if r.om then [79] else [83])++cndsT 0 r.cs
def ruleOk (r:RL):Bool:=r.cs.all fun c=>c.s.all okc
structure CFit (c:CN):Prop where
 fd:c.fd.length≤10
 o0:0≤c.op
 o1:c.op≤5
 n0 : -999999999999999≤c.n
 n1:c.n≤999999999999999
 sl:c.s.length≤256
theorem nm_len {s:List UInt8} (h:isNm s=true):s.length≤10:=by
 unfold isNm at h
 rw [Bool.and_eq_true,Bool.and_eq_true,decide_eq_true_eq,decide_eq_true_eq] at h
 exact h.1.2
theorem names_nm {nb:Int} {fs:List LF} (h:∀ f∈fs,FOk nb f) {s:List UInt8} (hs:(names fs).contains s=true):isNm s=true:=by
 have hm:s∈names fs:=by simpa using hs
 obtain ⟨f,h1,rfl⟩:=List.mem_map.1 hm
 exact (h f h1).nm
theorem cfit_of {nb:Int} {fs:List LF} (h:∀ f∈fs,FOk nb f) {c:CN} (hc:COk (names fs) c):CFit c:=
 ⟨nm_len (names_nm h hc.fd),hc.o0,hc.o1,hc.n0,hc.n1,hc.sl⟩
theorem op_at {o:Int} (h0:0≤o) (h1:o≤5):gr0.getD o.toNat AV.undef=vs (bs (opT o))∧(opT o).length=2:=by
 have:∀ k:Fin 6,gr0.getD k.1 AV.undef=vs (bs (opT (k.1:Int)))∧(opT (k.1:Int)).length=2:=by
  intro k
  match k with
  | 0=>exact ⟨rfl,rfl⟩
  | 1=>exact ⟨rfl,rfl⟩
  | 2=>exact ⟨rfl,rfl⟩
  | 3=>exact ⟨rfl,rfl⟩
  | 4=>exact ⟨rfl,rfl⟩
  | 5=>exact ⟨rfl,rfl⟩
 have:=this ⟨o.toNat,by omega⟩
 rw [show ((o.toNat:Nat):Int)=o by omega] at this
 exact this
theorem valT_len {c:CN} (h:CFit c):(valT c).length≤520:=by
 unfold valT
 split
 ·have:=itoa_len c.n (by have:=h.n0; omega) (by have:=h.n1; omega)
  omega
 ·have:=dbl_len c.s
  have:=h.sl
  unfold qd
  simp only [List.length_append,List.length_singleton]
  omega
theorem cndT_len {c:CN} (h:CFit c):(cndT c).length≤540:=by
 have h1:=valT_len h
 have h2:=(op_at h.o0 h.o1).2
 have h3:=h.fd
 unfold cndT
 simp only [List.length_append,List.length_singleton]
 omega
section
variable {n:Nat}
theorem cs_writ {cs:List CN} {i:Nat} (hi:i < cs.length):(cs.drop i).all (fun c=>c.s.all okc)=(cs[i].s.all okc&&(cs.drop (i+1)).all fun c=>c.s.all okc):=by
 rw [List.drop_eq_getElem_cons hi,List.all_cons]
theorem rule_l (hn:100002≤n) (cs:List CN) (hc:cs.length≤1000) (hf:∀ c∈cs,CFit c):∀ (d i m:Nat) (acc:List UInt8) (ok:Bool),i+d=cs.length→2*d+1≤m→acc.length≤1000*i+1→
  Q15.l n m (.z5 (bs acc) ok (cs.map CN.av) cs.length i)=some (bs (acc++cndsT i (cs.drop i)),ok&&(cs.drop i).all fun c=>c.s.all okc)
 | 0,i,m,acc,ok,h,hm,ha=>by
  obtain ⟨m,rfl⟩ : ∃ q,m=q+1:=⟨m - 1,by omega⟩
  rw [Q15.at5]
  unfold Q15.r5
  simp (disch:=omega) only [Option.bind_some,Option.bind_none,cond_true,cond_false,Bool.not_true,Bool.not_false,List.length_map,Ws_length,bs_size,within_t,upto_t,wsucc,Int.toNat_natCast,at_mapN,Ws_getDN,cells_agg,cells_v,withCons_cons,withInt_mk,withStr_mk,withBool_mk,withSl_mk,cond_t,cond_f]
  rw [List.drop_of_length_le (by omega)]
  simp [cndsT]
 | d+1,i,m,acc,ok,h,hm,ha=>by
  obtain ⟨m,rfl⟩ : ∃ q,m=q+1+1:=⟨m - 2,by omega⟩
  have hi:i < cs.length:=by omega
  have hfi:=hf cs[i] (List.getElem_mem hi)
  obtain ⟨o1,o2⟩:=op_at hfi.o0 hfi.o1
  have vl:=valT_len hfi
  have cl:=cndT_len hfi
  have fl:=hfi.fd
  have hs:=hfi.sl
  have hol:(decide ((0:Int)≤cs[i].op)&&decide (cs[i].op < ((gr0.length:Nat):Int)))=true:=by
   have h0:=hfi.o0
   have h1:=hfi.o1
   rw [show gr0.length=6 from rfl,Bool.and_eq_true,decide_eq_true_eq,decide_eq_true_eq]
   omega
  have mid:∀ (acc' : List UInt8),acc'.length≤1000*i+5→Q15.l n (m+1) (.z12 (bs acc') ok (bs (valT cs[i])) (cs.map CN.av) cs.length i (bs cs[i].fd) cs[i].op cs[i].n (bs cs[i].s)) =
    some (bs (acc'++cndT cs[i]++cndsT (i+1) (cs.drop (i+1))),ok&&(cs.drop i).all fun c=>c.s.all okc):=by
   intro acc' ha'
   have ih:=rule_l hn cs hc hf d (i+1) m (acc'++cndT cs[i]) (ok&&cs[i].s.all okc) (by omega) (by omega) (by rw [List.length_append]; omega)
   have e:acc'++(([32]++cs[i].fd++[32]++opT cs[i].op++[32])++valT cs[i])=acc'++cndT cs[i]:=by simp [cndT]
   rw [Q15.at12]
   unfold Q15.r12
   rw [hol]
   simp (disch:=omega) only [Option.bind_some,Option.bind_none,cond_true,cond_false,Bool.not_true,Bool.not_false,List.length_map,Ws_length,bs_size,within_t,upto_t,wsucc,Int.toNat_natCast,at_mapN,Ws_getDN,cells_agg,cells_v,withCons_cons,withInt_mk,withStr_mk,withBool_mk,withSl_mk,cond_t,cond_f,lit1,bs_append,chk_t,List.length_append,List.length_singleton,o1,o2]
   rw [e,writable_eq cs[i].s (by omega) hn,Option.bind_some,cs_writ hi]
   cases ok
   ·rw [cond_false]
    rw [Bool.false_and] at ih
    rw [ih]
    rfl
   ·rw [cond_true]
    rw [Bool.true_and] at ih
    rw [ih]
    rfl
  rw [Q15.at5]
  unfold Q15.r5
  have it:=itoaI_eq (n:=n) cs[i].n (by have:=hfi.n0; omega) (by have:=hfi.n1; omega)
  have dl:=dbl_len cs[i].s
  rw [List.drop_eq_getElem_cons hi,cndsT_cons]
  rw [List.drop_eq_getElem_cons hi] at mid
  have hz:decide ((i:Int) > 0)=decide (i > 0):=decide_eq_decide.2 (by omega)
  simp (disch:=omega) only [Option.bind_some,Option.bind_none,cond_true,cond_false,Bool.not_true,Bool.not_false,List.length_map,Ws_length,bs_size,within_t,upto_t,wsucc,Int.toNat_natCast,at_mapN,Ws_getDN,cells_agg,cells_v,withCons_cons,withInt_mk,withStr_mk,withBool_mk,withSl_mk,cond_t,cond_f,CN.av,it,lit1,lit2,lit4,replaceAll_eq,empty_eq,bs_append,chk_t,List.length_append,List.length_singleton,List.length_cons,List.length_nil]
  rw [hz]
  by_cases hs0:cs[i].s=[]
  ·have hv:valT cs[i]=Lib.itoa cs[i].n:=by unfold valT; rw [if_pos hs0]
   rw [← hv]
   simp only [hs0,decide_true,Bool.not_true,cond_false] at mid ⊢
   by_cases h0:i > 0
   ·simp only [h0,decide_true,cond_true,if_true]
    rw [mid (acc++[32,65,78,68]) (by simp; omega)]
    simp
   ·simp only [h0,decide_false,cond_false,if_false]
    rw [mid acc (by omega)]
    simp
  ·have hv:valT cs[i]=[39]++dbl cs[i].s++[39]:=by unfold valT; rw [if_neg hs0]; rfl
   rw [← hv]
   simp only [hs0,decide_false,Bool.not_false,cond_true]
   by_cases h0:i > 0
   ·simp only [h0,decide_true,cond_true,if_true]
    rw [mid (acc++[32,65,78,68]) (by simp; omega)]
    simp
   ·simp only [h0,decide_false,cond_false,if_false]
    rw [mid acc (by omega)]
    simp
theorem ruleLine_eq (hn:100002≤n) (r:RL) (hc:r.cs.length≤1000) (hf:∀ c∈r.cs,CFit c):Q15.F n r.om (r.cs.map CN.av)=some (bs (ruleT r),ruleOk r):=by
 unfold Q15.F Q15.e
 simp (disch:=omega) only [Option.bind_some,Option.bind_none,cond_true,cond_false,Bool.not_true,Bool.not_false,List.length_map,Ws_length,bs_size,within_t,upto_t,wsucc,Int.toNat_natCast,at_mapN,Ws_getDN,cells_agg,cells_v,withCons_cons,withInt_mk,withStr_mk,withBool_mk,withSl_mk,cond_t,cond_f,lit1]
 have h1:=rule_l (n:=n) hn r.cs hc hf r.cs.length 0 n [79] true (by omega) (by omega) (by simp)
 have h2:=rule_l (n:=n) hn r.cs hc hf r.cs.length 0 n [83] true (by omega) (by omega) (by simp)
 rw [List.drop_zero] at h1 h2
 unfold ruleT ruleOk
 cases r.om
 ·exact h2
 ·exact h1
end
end Go.Proofs.YtmpglmcjoelciaaGreatDoor.Ev
namespace Go.Proofs.YtmpglmcjoelciaaGreatDoor.Ev
open Go Go.Proofs Go.Proofs.Ev
set_option linter.unusedVariables false
set_option linter.unusedSimpArgs false
def headT (t nm:List UInt8) (uq:Bool):List UInt8:=if uq then t++[32]++nm++[32,85,78,73,81,85,69] else t++[32]++nm
def keyT (k:KF):List UInt8:=if k.d then [75,32]++k.nm++[32,68,69,83,67,69,78,68] else [75,32]++k.nm
def fldT (f:FD):List UInt8:=[70,32]++f.nm++[32]++tText f.k f.l f.s
def basT (w:List UInt8):List UInt8:=[66,32]++w
def joinT (j:JP):List UInt8:=[74,32]++Lib.itoa j.fr++[32]++j.lf++[32]++Lib.itoa j.b++[32]++j.rt
def lfT (f:LF):List UInt8:=[70,32]++f.nm++[32]++Lib.itoa f.b++[32]++f.fd
structure DFit (f:FD):Prop where
 nm:f.nm.length≤10
 k:f.k=0∨f.k=1∨f.k=2∨f.k=3
 l0:0≤f.l
 l1:f.l≤256
 s0:0≤f.s
 s1:f.s≤15
structure JFit (j:JP):Prop where
 f0:0≤j.fr
 f1:j.fr≤1000
 b0:0≤j.b
 b1:j.b≤1000
 lf:j.lf.length≤10
 rt:j.rt.length≤10
structure LFit (f:LF):Prop where
 b0:0≤f.b
 b1:f.b≤1000
 nm:f.nm.length≤10
 fd:f.fd.length≤10
theorem dfit_of {f:FD} (h:isNm f.nm=true) (h0:chkT f.k f.l f.s=0) (h4:f.k≠4):DFit f:=by
 obtain ⟨a,b,c,d,e,_⟩:=chkT_ok h0 h4
 exact ⟨nm_len h,a,by omega,c,d,e⟩
theorem tText_short {k a b:Int} (ha:0≤a) (ha2:a≤256) (hb:0≤b) (hb2:b≤15):(tText k a b).length≤10:=by
 obtain ⟨x,hx,_,h1⟩:=dec_small ha ha2
 obtain ⟨y,hy,_,h2⟩:=dec_small hb (by omega)
 unfold tText
 split <;> simp only [List.length_append,List.length_singleton,List.length_nil] <;> omega
section
variable {n:Nat}
theorem keyLines_l (ks:List KF) (hk:ks.length≤1000) (hf:∀ k∈ks,k.nm.length≤10):∀ (d i m:Nat) (acc:List (List UInt8)),i+d=ks.length→d < m→acc.length≤i→
  Q0v.l n m (.z3 (ks.map KF.av) ks.length i (Ws acc))=some (Ws (acc++(ks.drop i).map keyT))
 | _,_,0,_,_,h,_=>absurd h (by omega)
 | 0,i,m+1,acc,h,_,_=>by
  rw [Q0v.at3]
  unfold Q0v.r3
  simp (disch:=omega) only [Option.bind_some,Option.bind_none,cond_true,cond_false,Bool.not_true,Bool.not_false,List.length_map,Ws_length,bs_size,within_t,upto_t,wsucc,Int.toNat_natCast,at_mapN,Ws_getDN,cells_agg,cells_v,withCons_cons,withInt_mk,withStr_mk,withBool_mk,withSl_mk,cond_t,cond_f]
  rw [List.drop_of_length_le (by omega)]
  simp
 | d+1,i,m+1,acc,h,hm,ha=>by
  have hi:i < ks.length:=by omega
  have hmost:most=1000000000:=rfl
  have h10:=hf ks[i] (List.getElem_mem hi)
  have ih:=keyLines_l ks hk hf d (i+1) m (acc++[keyT ks[i]]) (by omega) (by omega) (by simp; omega)
  rw [List.append_assoc,List.singleton_append,← List.map_cons,← List.drop_eq_getElem_cons hi] at ih
  rw [Q0v.at3]
  unfold Q0v.r3
  simp (disch:=omega) only [Option.bind_some,Option.bind_none,cond_true,cond_false,Bool.not_true,Bool.not_false,List.length_map,Ws_length,bs_size,within_t,upto_t,wsucc,Int.toNat_natCast,at_mapN,Ws_getDN,cells_agg,cells_v,withCons_cons,withInt_mk,withStr_mk,withBool_mk,withSl_mk,cond_t,cond_f,KF.av,lit2,lit8,bs_append,chk_t,List.length_append,List.length_singleton,List.length_cons,List.length_nil,Ws_snoc]
  unfold keyT at ih ⊢
  cases hd:ks[i].d
  ·simp only [hd,cond_false,Bool.false_eq_true,if_false] at ih ⊢
   exact ih
  ·simp only [hd,cond_true,if_true] at ih ⊢
   exact ih
theorem keyLines_eq (hn:1001≤n) (ks:List KF) (hk:ks.length≤1000) (hf:∀ k∈ks,k.nm.length≤10):Q0v.F n (ks.map KF.av)=some (Ws (ks.map keyT)):=by
 unfold Q0v.F Q0v.e
 rw [List.length_map]
 exact keyLines_l ks hk hf ks.length 0 n [] (by omega) (by omega) (by simp)
theorem heads_eq (t nm fm:List UInt8) (uq:Bool) (h:t.length≤10) (h1:nm.length≤10) (h2:fm.length≤10):Q0n.F n (bs t) (bs nm) (bs fm) uq=some (Ws [headT t nm uq,[82,32]++fm]):=by
 unfold Q0n.F Q0n.e headT
 cases uq <;> simp (disch:=omega) only [Option.bind_some,Option.bind_none,cond_true,cond_false,Bool.not_true,Bool.not_false,List.length_map,Ws_length,bs_size,within_t,upto_t,wsucc,Int.toNat_natCast,at_mapN,Ws_getDN,cells_agg,cells_v,withCons_cons,withInt_mk,withStr_mk,withBool_mk,withSl_mk,cond_t,cond_f,lit1,lit2,lit7,bs_append,chk_t,List.length_append,List.length_singleton,List.length_cons,List.length_nil] <;> rfl
variable {lg:Bool} {n1 n2:ByteArray} {a3 a4:List AV} {a5:Bool} {n6 n7:ByteArray} {a8 a9 a10 a11:List AV} {a12:Bool} {a13:List AV}
theorem fmt7 (hn:1001≤n) (ds:List FD) (hd:ds.length≤1000) (hf:∀ f∈ds,DFit f) (ks:List KF) (hk:ks.length≤1000) (hkf:∀ k∈ks,k.nm.length≤10):∀ (d i m:Nat) (acc:List (List UInt8)),i+d=ds.length→d < m→acc.length≤i+2→
  Q0a.l n m (.z7 (ds.map FD.av) ds.length i lg n1 n2 a3 (ks.map KF.av) a5 n6 n7 a8 a9 a10 a11 a12 a13 (Ws acc))=some (Ws (acc++(ds.drop i).map fldT++ks.map keyT),0)
 | _,_,0,_,_,h,_=>absurd h (by omega)
 | 0,i,m+1,acc,h,_,ha=>by
  have hmost:most=1000000000:=rfl
  rw [Q0a.at7]
  unfold Q0a.r7
  simp (disch:=omega) only [Option.bind_some,Option.bind_none,cond_true,cond_false,Bool.not_true,Bool.not_false,List.length_map,Ws_length,bs_size,within_t,upto_t,wsucc,Int.toNat_natCast,at_mapN,Ws_getDN,cells_agg,cells_v,withCons_cons,withInt_mk,withStr_mk,withBool_mk,withSl_mk,cond_t,cond_f]
  rw [keyLines_eq hn ks hk hkf,Option.bind_some,cond_t (by rw [Ws_length,List.length_map]; omega),List.drop_of_length_le (by omega)]
  simp [Ws]
 | d+1,i,m+1,acc,h,hm,ha=>by
  have hi:i < ds.length:=by omega
  have hmost:most=1000000000:=rfl
  have hfi:=hf ds[i] (List.getElem_mem hi)
  have h10:=hfi.nm
  have htl:=tText_short (k:=ds[i].k) hfi.l0 hfi.l1 hfi.s0 hfi.s1
  have ht:=typeText_eq (n:=n) hfi.k hfi.l0 hfi.l1 hfi.s0 hfi.s1
  have ih:=fmt7 hn ds hd hf ks hk hkf d (i+1) m (acc++[fldT ds[i]]) (by omega) (by omega) (by simp; omega)
  rw [List.append_assoc acc,List.singleton_append,← List.map_cons,← List.drop_eq_getElem_cons hi] at ih
  rw [Q0a.at7]
  unfold Q0a.r7
  simp (disch:=omega) only [Option.bind_some,Option.bind_none,cond_true,cond_false,Bool.not_true,Bool.not_false,List.length_map,Ws_length,bs_size,within_t,upto_t,wsucc,Int.toNat_natCast,at_mapN,Ws_getDN,cells_agg,cells_v,withCons_cons,withInt_mk,withStr_mk,withBool_mk,withSl_mk,cond_t,cond_f,FD.av,lit1,lit2,ht,bs_append,chk_t,List.length_append,List.length_singleton,List.length_cons,List.length_nil,Ws_snoc]
  exact ih
theorem longs_l (l:List (List UInt8)) (hl:l.length≤100000):∀ (d i m:Nat),i+d=l.length→d < m→∃ x,Q49.l n m (.z2 (Ws l) l.length i)=some x∧decide (x≥0)=(l.drop i).any fun s=>decide (240 < s.length)
 | _,_,0,_,h=>absurd h (by omega)
 | 0,i,m+1,h,_=>by
  rw [Q49.at2]
  unfold Q49.r2
  simp (disch:=omega) only [Option.bind_some,Option.bind_none,cond_true,cond_false,Bool.not_true,Bool.not_false,List.length_map,Ws_length,bs_size,within_t,upto_t,wsucc,Int.toNat_natCast,at_mapN,Ws_getDN,cells_agg,cells_v,withCons_cons,withInt_mk,withStr_mk,withBool_mk,withSl_mk,cond_t,cond_f]
  rw [List.drop_of_length_le (by omega)]
  exact ⟨-1,rfl,rfl⟩
 | d+1,i,m+1,h,hm=>by
  have hi:i < l.length:=by omega
  obtain ⟨x,h1,h2⟩:=longs_l l hl d (i+1) m (by omega) (by omega)
  rw [Q49.at2]
  unfold Q49.r2
  simp (disch:=omega) only [Option.bind_some,Option.bind_none,cond_true,cond_false,Bool.not_true,Bool.not_false,List.length_map,Ws_length,bs_size,within_t,upto_t,wsucc,Int.toNat_natCast,at_mapN,Ws_getDN,cells_agg,cells_v,withCons_cons,withInt_mk,withStr_mk,withBool_mk,withSl_mk,cond_t,cond_f,Q0b.F,Q0b.e]
  rw [List.drop_eq_getElem_cons hi,List.any_cons,h1]
  by_cases hz:240 < l[i].length
  ·refine ⟨i,by rw [cond_t (by omega)],?_⟩
   simp [hz]
  ·refine ⟨x,by rw [cond_f (by omega)],?_⟩
   rw [h2]
   simp [hz]
theorem longs_eq (l:List (List UInt8)) (hl:l.length≤100000) (hn:100002≤n):Q46.F n (Ws l)=some (l.any fun s=>decide (240 < s.length)):=by
 unfold Q46.F Q46.e Q49.F Q49.e
 obtain ⟨x,h1,h2⟩:=longs_l (n:=n) l hl l.length 0 n (by omega) (by omega)
 rw [List.drop_zero] at h2
 have e0:((0:Nat):Int)=0:=rfl
 rw [e0] at h1
 rw [Ws_length,h1,Option.bind_some,h2]
def rulesX (acc:List (List UInt8)) (rs:List RL):List (List UInt8) × Int:=
 if (rs.any fun r=>!ruleOk r) then ([],39) else if ((acc++rs.map ruleT).any fun s=>decide (240 < s.length)) then ([],2) else (acc++rs.map ruleT,0)
def Wp (p:List (List UInt8) × Int):List AV × Int:=(Ws p.1,p.2)
theorem fmt31 (hn:100002≤n) (rs:List RL) (hr:rs.length≤1000) (hf:∀ r∈rs,r.cs.length≤1000∧∀ c∈r.cs,CFit c):∀ (d i m:Nat) (acc:List (List UInt8)),i+d=rs.length→d < m→acc.length≤10000+i→
  Q0a.l n m (.z31 (rs.map RL.av) rs.length i (Ws acc))=some (Wp (rulesX acc (rs.drop i)))
 | _,_,0,_,_,h,_=>absurd h (by omega)
 | 0,i,m+1,acc,h,_,ha=>by
  rw [Q0a.at31]
  unfold Q0a.r31
  simp (disch:=omega) only [Option.bind_some,Option.bind_none,cond_true,cond_false,Bool.not_true,Bool.not_false,List.length_map,Ws_length,bs_size,within_t,upto_t,wsucc,Int.toNat_natCast,at_mapN,Ws_getDN,cells_agg,cells_v,withCons_cons,withInt_mk,withStr_mk,withBool_mk,withSl_mk,cond_t,cond_f]
  rw [longs_eq acc (by omega) hn,List.drop_of_length_le (by omega),Option.bind_some]
  unfold rulesX
  simp only [List.any_nil,Bool.false_eq_true,if_false,List.map_nil,List.append_nil]
  cases acc.any fun s=>decide (240 < s.length) <;> rfl
 | d+1,i,m+1,acc,h,hm,ha=>by
  have hi:i < rs.length:=by omega
  have hmost:most=1000000000:=rfl
  obtain ⟨f1,f2⟩:=hf rs[i] (List.getElem_mem hi)
  have ih:=fmt31 hn rs hr hf d (i+1) m (acc++[ruleT rs[i]]) (by omega) (by omega) (by simp; omega)
  rw [Q0a.at31]
  unfold Q0a.r31
  simp (disch:=omega) only [Option.bind_some,Option.bind_none,cond_true,cond_false,Bool.not_true,Bool.not_false,List.length_map,Ws_length,bs_size,within_t,upto_t,wsucc,Int.toNat_natCast,at_mapN,Ws_getDN,cells_agg,cells_v,withCons_cons,withInt_mk,withStr_mk,withBool_mk,withSl_mk,cond_t,cond_f,RL.av]
  rw [ruleLine_eq hn rs[i] f1 f2]
  simp (disch:=omega) only [Option.bind_some,Option.bind_none,cond_true,cond_false,Bool.not_true,Bool.not_false,List.length_map,Ws_length,bs_size,within_t,upto_t,wsucc,Int.toNat_natCast,at_mapN,Ws_getDN,cells_agg,cells_v,withCons_cons,withInt_mk,withStr_mk,withBool_mk,withSl_mk,cond_t,cond_f,List.length_singleton,Ws_snoc]
  rw [ih,List.drop_eq_getElem_cons hi]
  unfold rulesX
  rw [List.any_cons,List.map_cons,List.append_assoc,List.singleton_append]
  cases ruleOk rs[i]
  ·rfl
  ·rfl
theorem fmt25 (hn:100002≤n) (fs:List LF) (hfl:fs.length≤1000) (hff:∀ f∈fs,LFit f) (ks:List KF) (hk:ks.length≤1000) (hkf:∀ k∈ks,k.nm.length≤10) (rs:List RL) (hr:rs.length≤1000) (hf:∀ r∈rs,r.cs.length≤1000∧∀ c∈r.cs,CFit c) (b8 b9 b10:List AV):∀ (d i m:Nat) (acc:List (List UInt8)),i+d=fs.length→d+1001 < m→acc.length≤5000+i→
  Q0a.l n m (.z25 (fs.map LF.av) fs.length i n1 n2 b8 b9 b10 (ks.map KF.av) a5 (rs.map RL.av) (Ws acc))=some (Wp (rulesX (acc++(fs.drop i).map lfT++ks.map keyT) rs))
 | _,_,0,_,_,h,_=>absurd h (by omega)
 | 0,i,m+1,acc,h,hm,ha=>by
  have hmost:most=1000000000:=rfl
  have:=fmt31 (n:=n) hn rs hr hf rs.length 0 m (acc++ks.map keyT) (by omega) (by omega) (by simp; omega)
  rw [List.drop_zero] at this
  rw [Q0a.at25]
  unfold Q0a.r25
  simp (disch:=omega) only [Option.bind_some,Option.bind_none,cond_true,cond_false,Bool.not_true,Bool.not_false,List.length_map,Ws_length,bs_size,within_t,upto_t,wsucc,Int.toNat_natCast,at_mapN,Ws_getDN,cells_agg,cells_v,withCons_cons,withInt_mk,withStr_mk,withBool_mk,withSl_mk,cond_t,cond_f]
  rw [keyLines_eq (by omega) ks hk hkf,Option.bind_some,cond_t (by rw [Ws_length,List.length_map]; omega),List.drop_of_length_le (by omega),show Ws acc++Ws (ks.map keyT)=Ws (acc++ks.map keyT) by simp [Ws]]
  simp only [List.map_nil,List.append_nil]
  exact this
 | d+1,i,m+1,acc,h,hm,ha=>by
  have hi:i < fs.length:=by omega
  have hmost:most=1000000000:=rfl
  have hfi:=hff fs[i] (List.getElem_mem hi)
  obtain ⟨g1,g2,g3,g4⟩:=hfi
  have it:=itoaI_eq (n:=n) fs[i].b (by omega) (by omega)
  have il:=itoa_len fs[i].b (by omega) (by omega)
  have ih:=fmt25 hn fs hfl hff ks hk hkf rs hr hf b8 b9 b10 d (i+1) m (acc++[lfT fs[i]]) (by omega) (by omega) (by simp; omega)
  rw [List.append_assoc acc,List.singleton_append,← List.map_cons,← List.drop_eq_getElem_cons hi] at ih
  rw [Q0a.at25]
  unfold Q0a.r25
  simp (disch:=omega) only [Option.bind_some,Option.bind_none,cond_true,cond_false,Bool.not_true,Bool.not_false,List.length_map,Ws_length,bs_size,within_t,upto_t,wsucc,Int.toNat_natCast,at_mapN,Ws_getDN,cells_agg,cells_v,withCons_cons,withInt_mk,withStr_mk,withBool_mk,withSl_mk,cond_t,cond_f,LF.av,lit1,lit2,it,bs_append,chk_t,List.length_append,List.length_singleton,List.length_cons,List.length_nil,Ws_snoc]
  exact ih
theorem fmt20 (hn:100002≤n) (js:List JP) (hjl:js.length≤1000) (hjf:∀ j∈js,JFit j) (fs:List LF) (hfl:fs.length≤1000) (hff:∀ f∈fs,LFit f) (ks:List KF) (hk:ks.length≤1000) (hkf:∀ k∈ks,k.nm.length≤10) (rs:List RL) (hr:rs.length≤1000) (hf:∀ r∈rs,r.cs.length≤1000∧∀ c∈r.cs,CFit c) (b8 b10:List AV):∀ (d i m:Nat) (acc:List (List UInt8)),i+d=js.length→d+2003 < m→acc.length≤2000+i→
  Q0a.l n m (.z20 (js.map JP.av) js.length i n1 n2 b8 (fs.map LF.av) b10 (ks.map KF.av) a5 (rs.map RL.av) (Ws acc))=some (Wp (rulesX (acc++(js.drop i).map joinT++fs.map lfT++ks.map keyT) rs))
 | _,_,0,_,_,h,_=>absurd h (by omega)
 | 0,i,m+1,acc,h,hm,ha=>by
  have:=fmt25 (n:=n) (n1:=n1) (n2:=n2) (a5:=a5) hn fs hfl hff ks hk hkf rs hr hf b8 (fs.map LF.av) b10 fs.length 0 m acc (by omega) (by omega) (by omega)
  rw [List.drop_zero] at this
  rw [Q0a.at20]
  unfold Q0a.r20
  simp (disch:=omega) only [Option.bind_some,Option.bind_none,cond_true,cond_false,Bool.not_true,Bool.not_false,List.length_map,Ws_length,bs_size,within_t,upto_t,wsucc,Int.toNat_natCast,at_mapN,Ws_getDN,cells_agg,cells_v,withCons_cons,withInt_mk,withStr_mk,withBool_mk,withSl_mk,cond_t,cond_f]
  rw [List.drop_of_length_le (by omega)]
  simp only [List.map_nil,List.append_nil]
  exact this
 | d+1,i,m+1,acc,h,hm,ha=>by
  have hi:i < js.length:=by omega
  have hmost:most=1000000000:=rfl
  have hfi:=hjf js[i] (List.getElem_mem hi)
  obtain ⟨g1,g2,g3,g4,g5,g6⟩:=hfi
  have it:=itoaI_eq (n:=n) js[i].b (by omega) (by omega)
  have il:=itoa_len js[i].b (by omega) (by omega)
  have it2:=itoaI_eq (n:=n) js[i].fr (by omega) (by omega)
  have il2:=itoa_len js[i].fr (by omega) (by omega)
  have ih:=fmt20 hn js hjl hjf fs hfl hff ks hk hkf rs hr hf b8 b10 d (i+1) m (acc++[joinT js[i]]) (by omega) (by omega) (by simp; omega)
  rw [List.append_assoc acc,List.singleton_append,← List.map_cons,← List.drop_eq_getElem_cons hi] at ih
  rw [Q0a.at20]
  unfold Q0a.r20
  simp (disch:=omega) only [Option.bind_some,Option.bind_none,cond_true,cond_false,Bool.not_true,Bool.not_false,List.length_map,Ws_length,bs_size,within_t,upto_t,wsucc,Int.toNat_natCast,at_mapN,Ws_getDN,cells_agg,cells_v,withCons_cons,withInt_mk,withStr_mk,withBool_mk,withSl_mk,cond_t,cond_f,JP.av,lit1,lit2,it,it2,bs_append,chk_t,List.length_append,List.length_singleton,List.length_cons,List.length_nil,Ws_snoc]
  exact ih
theorem fmt15 (hn:100002≤n) (ws:List (List UInt8)) (hwl:ws.length≤1000) (hwf:∀ w∈ws,w.length≤10) (js:List JP) (hjl:js.length≤1000) (hjf:∀ j∈js,JFit j) (fs:List LF) (hfl:fs.length≤1000) (hff:∀ f∈fs,LFit f) (ks:List KF) (hk:ks.length≤1000) (hkf:∀ k∈ks,k.nm.length≤10) (rs:List RL) (hr:rs.length≤1000) (hf:∀ r∈rs,r.cs.length≤1000∧∀ c∈r.cs,CFit c) (b8:List AV):∀ (d i m:Nat) (acc:List (List UInt8)),i+d=ws.length→d+3005 < m→acc.length≤10+i→
  Q0a.l n m (.z15 (Ws ws) ws.length i n1 n2 b8 (fs.map LF.av) (js.map JP.av) (ks.map KF.av) a5 (rs.map RL.av) (Ws acc))=some (Wp (rulesX (acc++(ws.drop i).map basT++js.map joinT++fs.map lfT++ks.map keyT) rs))
 | _,_,0,_,_,h,_=>absurd h (by omega)
 | 0,i,m+1,acc,h,hm,ha=>by
  have:=fmt20 (n:=n) (n1:=n1) (n2:=n2) (a5:=a5) hn js hjl hjf fs hfl hff ks hk hkf rs hr hf b8 (js.map JP.av) js.length 0 m acc (by omega) (by omega) (by omega)
  rw [List.drop_zero] at this
  rw [Q0a.at15]
  unfold Q0a.r15
  simp (disch:=omega) only [Option.bind_some,Option.bind_none,cond_true,cond_false,Bool.not_true,Bool.not_false,List.length_map,Ws_length,bs_size,within_t,upto_t,wsucc,Int.toNat_natCast,at_mapN,Ws_getDN,cells_agg,cells_v,withCons_cons,withInt_mk,withStr_mk,withBool_mk,withSl_mk,cond_t,cond_f]
  rw [List.drop_of_length_le (show ws.length≤i by omega)]
  simp only [List.map_nil,List.append_nil]
  exact this
 | d+1,i,m+1,acc,h,hm,ha=>by
  have hi:i < ws.length:=by omega
  have hmost:most=1000000000:=rfl
  have h10:=hwf ws[i] (List.getElem_mem hi)
  have ih:=fmt15 hn ws hwl hwf js hjl hjf fs hfl hff ks hk hkf rs hr hf b8 d (i+1) m (acc++[basT ws[i]]) (by omega) (by omega) (by simp; omega)
  rw [List.append_assoc acc,List.singleton_append,← List.map_cons,← List.drop_eq_getElem_cons hi] at ih
  rw [Q0a.at15]
  unfold Q0a.r15
  simp (disch:=omega) only [Option.bind_some,Option.bind_none,cond_true,cond_false,Bool.not_true,Bool.not_false,List.length_map,Ws_length,bs_size,within_t,upto_t,wsucc,Int.toNat_natCast,at_mapN,Ws_getDN,cells_agg,cells_v,withCons_cons,withInt_mk,withStr_mk,withBool_mk,withSl_mk,cond_t,cond_f,lit2,bs_append,chk_t,List.length_append,List.length_singleton,List.length_cons,List.length_nil,Ws_snoc]
  exact ih
end
end Go.Proofs.YtmpglmcjoelciaaGreatDoor.Ev
namespace Go.Proofs.YtmpglmcjoelciaaGreatDoor.Ev
open Go Go.Proofs Go.Proofs.Ev
set_option linter.unusedVariables false
set_option linter.unusedSimpArgs false
structure FL where
 nm:List UInt8
 fm:List UInt8
 ds:List FD
 ks:List KF
 uq:Bool
 deriving Inhabited
def FL.few (g:FL):Prop:=g.ds.length≤1000∧g.ks.length≤1000
end Go.Proofs.YtmpglmcjoelciaaGreatDoor.Ev
namespace Go.Proofs.YtmpglmcjoelciaaGreatDoor.Ev
open Go Go.Proofs Go.Proofs.Ev
set_option linter.unusedVariables false
set_option linter.unusedSimpArgs false
theorem file_ok {nm fm:List UInt8} {ds:List FD} {ks:List KF} (h:fileE nm fm ds ks=0):ds.length≤20∧okD ds∧∀ f∈ds,f.k≠4:=by
 unfold fileE at h
 cases h1:isNm nm
 ·rw [h1] at h; cases h
 cases h2:isNm fm
 ·rw [h1,h2] at h; cases h
 rw [h1,h2,if_neg (by simp),if_neg (by simp)] at h
 by_cases h3:ds.length=0
 ·rw [if_pos h3] at h; cases h
 by_cases h4:ds.length > 20
 ·rw [if_neg h3,if_pos h4] at h; cases h
 rw [if_neg h3,if_neg h4] at h
 unfold fileT at h
 by_cases h5:(dErr (dnames ds) ds 0).2=0
 ·exact ⟨by omega,dErr_ok h5⟩
 ·rw [if_pos h5] at h; exact absurd h h5
end Go.Proofs.YtmpglmcjoelciaaGreatDoor.Ev
namespace Go.Proofs.YtmpglmcjoelciaaGreatDoor.Ev
open Go Go.Proofs Go.Proofs.Ev
set_option linter.unusedVariables false
set_option linter.unusedSimpArgs false
structure LG where
 nm:List UInt8
 fm:List UInt8
 ws:List (List UInt8)
 fs:List LF
 js:List JP
 ks:List KF
 uq:Bool
 rs:List RL
def isZF (g:FL):Bool:=decide (g.nm=[])&&(decide (g.fm=[])&&(decide (g.ds.length=0)&&(decide (g.ks.length=0)&&!g.uq)))
def isZL (l:LG):Bool:=decide (l.nm=[])&&(decide (l.fm=[])&&(decide (l.ws.length=0)&&(decide (l.fs.length=0)&&(decide (l.js.length=0)&&(decide (l.ks.length=0)&&(!l.uq&&decide (l.rs.length=0)))))))
def isZ (lg:Bool) (g:FL) (l:LG):Bool:=if lg then isZF g else isZL l
def chkG (l:LG):Int × Int:=chkL l.nm l.fm l.ws l.fs l.js l.ks l.uq l.rs
def srcE (lg:Bool) (g:FL) (l:LG):Int:=if lg then (chkG l).2 else fileE g.nm g.fm g.ds g.ks
def pfL (g:FL):List (List UInt8):=[headT [80,70] g.nm g.uq,[82,32]++g.fm]++g.ds.map fldT++g.ks.map keyT
def lfL (l:LG):List (List UInt8):=[headT [76,70] l.nm l.uq,[82,32]++l.fm]++l.ws.map basT++l.js.map joinT++l.fs.map lfT++l.ks.map keyT
def linesX (lg:Bool) (g:FL) (l:LG):List (List UInt8) × Int:=
 if isZ lg g l=false then ([],5) else if srcE lg g l≠0 then ([],srcE lg g l) else if lg then rulesX (lfL l) l.rs else (pfL g,0)
structure Few (g:FL) (l:LG):Prop where
 ds:g.ds.length≤1000
 ks:g.ks.length≤1000
 lw:l.ws.length≤1000
 lf:l.fs.length≤1000
 lj:l.js.length≤1000
 lk:l.ks.length≤1000
 lr:l.rs.length≤1000
 lc:∀ r∈l.rs,r.cs.length≤1000
theorem dErr_nm {ns:List (List UInt8)}:∀ {ds:List FD} {i:Nat},(dErr ns ds i).2=0→∀ f∈ds,isNm f.nm=true
 | [],_,_=>by simp
 | f::r,i,h=>by
  rw [dErr_cons] at h
  by_cases h0:de (ns.take i) f=0
  ·rw [if_neg (by simp [h0])] at h
   intro g hg
   rcases List.mem_cons.1 hg with rfl | hg
   ·unfold de at h0
    by_cases ha:ne (ns.take i) g.nm=0
    ·exact (nm_of_ne ha).1
    ·rw [if_pos ha] at h0; exact absurd h0 ha
   ·exact dErr_nm h g hg
  ·rw [if_pos h0] at h; exact absurd h h0
structure GOk (nm fm:List UInt8) (ds:List FD) (ks:List KF):Prop where
 nm:isNm nm=true
 fm:isNm fm=true
 d0:1≤ds.length
 d1:ds.length≤20
 dso:∀ f∈ds,isNm f.nm=true∧chkT f.k f.l f.s=0∧f.k≠4
 k1:ks.length≤4
 kso:∀ k∈ks,(dnames ds).contains k.nm=true
theorem fileE_ok {nm fm:List UInt8} {ds:List FD} {ks:List KF} (h:fileE nm fm ds ks=0):GOk nm fm ds ks:=by
 obtain ⟨x1,x2,x3⟩:=file_ok h
 unfold fileE at h
 cases h1:isNm nm
 ·rw [h1] at h; cases h
 cases h2:isNm fm
 ·rw [h1,h2] at h; cases h
 rw [h1,h2,if_neg (by simp),if_neg (by simp)] at h
 by_cases h3:ds.length=0
 ·rw [if_pos h3] at h; cases h
 rw [if_neg h3,if_neg (by omega)] at h
 unfold fileT at h
 by_cases h5:(dErr (dnames ds) ds 0).2=0
 case neg=>rw [if_pos h5] at h; exact absurd h h5
 rw [if_neg (by simp [h5])] at h
 by_cases h6:szs ds > 200
 ·rw [if_pos h6] at h; cases h
 rw [if_neg h6] at h
 unfold kErrT at h
 by_cases h7:ks.length > 4
 ·rw [if_pos h7] at h; cases h
 rw [if_neg h7] at h
 have hn:=dErr_nm h5
 exact ⟨h1,h2,by omega,x1,fun f hf=>⟨hn f hf,x2 f hf,x3 f hf⟩,by omega,kErr_ok h⟩
theorem GOk.knm {nm fm:List UInt8} {ds:List FD} {ks:List KF} (h:GOk nm fm ds ks):∀ k∈ks,isNm k.nm=true:=by
 intro k hk
 have hm:k.nm∈dnames ds:=by simpa using h.kso k hk
 obtain ⟨f,h1,h2⟩:=List.mem_map.1 hm
 rw [← h2]
 exact (h.dso f h1).1
theorem GOk.dfit {nm fm:List UInt8} {ds:List FD} {ks:List KF} (h:GOk nm fm ds ks):∀ f∈ds,DFit f:=fun f hf=>dfit_of (h.dso f hf).1 (h.dso f hf).2.1 (h.dso f hf).2.2
abbrev LG.Ok (l:LG):Prop:=LOk l.nm l.fm l.ws l.fs l.js l.ks l.uq l.rs
structure GFit (l:LG):Prop where
 nm:l.nm.length≤10
 fm:l.fm.length≤10
 ws:∀ w∈l.ws,w.length≤10
 js:∀ j∈l.js,JFit j
 fs:∀ f∈l.fs,LFit f
 ks:∀ k∈l.ks,k.nm.length≤10
 rs:∀ r∈l.rs,r.cs.length≤1000∧∀ c∈r.cs,CFit c
theorem gfit_of {l:LG} (h:l.Ok):GFit l:=by
 obtain ⟨l1,l2,w0,w1,wsn,f0,f1,fso,j1,jso,k1,kso,ke,r1,rso⟩:=h
 refine ⟨nm_len l1,nm_len l2,fun w hw=>nm_len (wsn w hw),?_,?_,fun k hk=>nm_len (names_nm fso (kso k hk)),?_⟩
 ·intro j hj
  have:=jso j hj
  obtain ⟨a,b,c,d,e,f⟩:=this
  exact ⟨by omega,by omega,by omega,by omega,nm_len e,nm_len f⟩
 ·intro f hf
  obtain ⟨a,b,c,d⟩:=fso f hf
  exact ⟨by omega,by omega,nm_len a,nm_len d⟩
 ·intro r hr
  have:=rso r hr
  exact ⟨by have:=this.len; omega,fun c hc=>cfit_of fso (this.cs c hc)⟩
theorem len0 (k:Nat):(((k:Nat):Int)==0)=decide (k=0):=by rw [beq_int]; exact decide_eq_decide.2 (by omega)
section
variable {n:Nat} {lg:Bool} {g:FL} {l:LG}
theorem isZero_eq:Q0t.F n lg (bs g.nm) (bs g.fm) (g.ds.map FD.av) (g.ks.map KF.av) g.uq (bs l.nm) (bs l.fm) (Ws l.ws) (l.fs.map LF.av) (l.js.map JP.av) (l.ks.map KF.av) l.uq (l.rs.map RL.av)=some (isZ lg g l):=by
 unfold Q0t.F Q0t.e isZ isZF isZL
 simp (disch:=omega) only [Option.bind_some,Option.bind_none,cond_true,cond_false,Bool.not_true,Bool.not_false,List.length_map,Ws_length,bs_size,within_t,upto_t,wsucc,Int.toNat_natCast,at_mapN,Ws_getDN,cells_agg,cells_v,withCons_cons,withInt_mk,withStr_mk,withBool_mk,withSl_mk,cond_t,cond_f,empty_eq,len0]
 cases lg
 ·simp only [cond_false,Bool.false_eq_true,if_false]
  cases decide (l.nm=[])
  ·rfl
  cases decide (l.fm=[])
  ·rfl
  cases decide (l.ws.length=0)
  ·rfl
  cases decide (l.fs.length=0)
  ·rfl
  cases decide (l.js.length=0)
  ·rfl
  cases decide (l.ks.length=0)
  ·rfl
  cases l.uq <;> rfl
 ·simp only [cond_true,if_true]
  cases decide (g.nm=[])
  ·rfl
  cases decide (g.fm=[])
  ·rfl
  cases decide (g.ds.length=0)
  ·rfl
  cases decide (g.ks.length=0) <;> rfl
theorem srcErr_eq (hn:20010≤n) (hf:Few g l):Q0h.F n lg (bs g.nm) (bs g.fm) (g.ds.map FD.av) (g.ks.map KF.av) g.uq (bs l.nm) (bs l.fm) (Ws l.ws) (l.fs.map LF.av) (l.js.map JP.av) (l.ks.map KF.av) l.uq (l.rs.map RL.av)=some (srcE lg g l):=by
 unfold Q0h.F Q0h.e Q0x.F Q0x.e srcE chkG
 rw [checkLogical_eq (by omega) l.nm l.fm l.ws hf.lw l.fs hf.lf l.js hf.lj l.ks hf.lk l.uq l.rs hf.lr,fileErr_eq (by omega) g.nm g.fm g.ds hf.ds g.ks hf.ks]
 cases lg <;> rfl
theorem formatted_eq (hn:200000≤n) (hf:Few g l):Q0a.F n lg (bs g.nm) (bs g.fm) (g.ds.map FD.av) (g.ks.map KF.av) g.uq (bs l.nm) (bs l.fm) (Ws l.ws) (l.fs.map LF.av) (l.js.map JP.av) (l.ks.map KF.av) l.uq (l.rs.map RL.av)=some (Wp (linesX lg g l)):=by
 unfold Q0a.F Q0a.e linesX
 rw [isZero_eq,Option.bind_some,cond_eq,Option.bind_some,srcErr_eq (by omega) hf,Option.bind_some,first2 (by omega),Option.bind_some,bif_ne]
 cases hz:isZ lg g l
 ·rfl
 ·simp only [Bool.not_true,Bool.false_eq_true,if_false,ne_eq,not_true_eq_false]
  by_cases he:srcE lg g l=0
  ·simp only [he,not_true_eq_false,if_false]
   cases lg
   ·simp only [Bool.not_false,cond_true,Bool.false_eq_true,if_false]
    have hg:GOk g.nm g.fm g.ds g.ks:=fileE_ok he
    have hdl:=hf.ds
    have h7:=fmt7 (n:=n) (lg:=false) (n1:=bs g.nm) (n2:=bs g.fm) (a3:=g.ds.map FD.av) (a5:=g.uq) (n6:=bs l.nm) (n7:=bs l.fm) (a8:=Ws l.ws) (a9:=l.fs.map LF.av) (a10:=l.js.map JP.av) (a11:=l.ks.map KF.av) (a12:=l.uq) (a13:=l.rs.map RL.av) (by omega) g.ds hf.ds hg.dfit g.ks hf.ks (fun k hk=>nm_len (hg.knm k hk)) g.ds.length 0 n [headT [80,70] g.nm g.uq,[82,32]++g.fm] (by omega) (by omega) (by simp)
    rw [List.drop_zero] at h7
    have e0:((0:Nat):Int)=0:=rfl
    rw [e0] at h7
    rw [lit2,heads_eq [80,70] g.nm g.fm g.uq (by simp) (nm_len hg.nm) (nm_len hg.fm),Option.bind_some,List.length_map,h7]
    rfl
   ·simp only [Bool.not_true,cond_false,if_true]
    have hL:l.Ok:=chkL_ok he
    have hG:=gfit_of hL
    have hwl:=hf.lw
    have h15:=fmt15 (n:=n) (n1:=bs l.nm) (n2:=bs l.fm) (a5:=l.uq) (by omega) l.ws hf.lw hG.ws l.js hf.lj hG.js l.fs hf.lf hG.fs l.ks hf.lk hG.ks l.rs hf.lr hG.rs (Ws l.ws) l.ws.length 0 n [headT [76,70] l.nm l.uq,[82,32]++l.fm] (by omega) (by omega) (by simp)
    rw [List.drop_zero] at h15
    have e0:((0:Nat):Int)=0:=rfl
    rw [e0] at h15
    rw [lit2,heads_eq [76,70] l.nm l.fm l.uq (by simp) hG.nm hG.fm,Option.bind_some,Ws_length,h15]
    rfl
  ·simp only [he,not_false_eq_true,if_true]
   rfl
end
end Go.Proofs.YtmpglmcjoelciaaGreatDoor.Ev
namespace Go.Proofs.YtmpglmcjoelciaaGreatDoor.Ev
open Go Go.Proofs Go.Proofs.Ev
set_option linter.unusedVariables false
set_option linter.unusedSimpArgs false
structure SR where
 lg:Bool
 g:FL
 l:LG
def stT (b:Bool) (s:SR) (pl:Int):Bool × Bool × ByteArray × ByteArray × Bool × ByteArray × ByteArray × Bool × Int × List AV × List AV × List AV × List AV × List AV × List AV × List AV:=
 (b,s.lg,bs s.g.nm,bs s.g.fm,s.g.uq,bs s.l.nm,bs s.l.fm,s.l.uq,pl,s.g.ds.map FD.av,s.g.ks.map KF.av,Ws s.l.ws,s.l.fs.map LF.av,s.l.js.map JP.av,s.l.ks.map KF.av,s.l.rs.map RL.av)
structure Sz (s:SR) (k:Nat):Prop where
 ds:s.g.ds.length≤k
 ks:s.g.ks.length≤k
 ws:s.l.ws.length≤k
 fs:s.l.fs.length≤k
 js:s.l.js.length≤k
 lk:s.l.ks.length≤k
 rs:s.l.rs.length≤k
def Rs (o:Option SR) (pl:Int) (x:Option (Bool × Bool × ByteArray × ByteArray × Bool × ByteArray × ByteArray × Bool × Int × List AV × List AV × List AV × List AV × List AV × List AV × List AV)):Prop:=
 ∃ t,x=some t∧t.1=o.isSome∧∀ s,o=some s→t=stT true s pl
theorem Rs.no {pl:Int} {t:Bool × ByteArray × ByteArray × Bool × ByteArray × ByteArray × Bool × Int × List AV × List AV × List AV × List AV × List AV × List AV × List AV}:Rs none pl (some (false,t)):=⟨_,rfl,rfl,nofun⟩
theorem Rs.yes {pl:Int} {s:SR} {x} (h:x=some (stT true s pl)):Rs (some s) pl x:=⟨_,h,rfl,fun _ e=>by cases e; rfl⟩
def stFmt (s:SR):List (List UInt8)→Option SR
 | [_,b]=>if isB b then some (if s.lg then { s with l:={ s.l with fm:=b } } else { s with g:={ s.g with fm:=b } }) else none
 | _=>none
def stBase (s:SR):List (List UInt8)→Option SR
 | [_,b]=>if s.lg&&isB b then some { s with l:={ s.l with ws:=s.l.ws++[b] } } else none
 | _=>none
def stJoin (s:SR):List (List UInt8)→Option SR
 | [_,a,b,c,d]=>if s.lg&&(isB b&&isB d) then (numP a).bind fun x=>(numP c).map fun y=>{ s with l:={ s.l with js:=s.l.js++[⟨x,b,y,d⟩] } } else none
 | _=>none
def stField (s:SR):List (List UInt8)→Option SR
 | [_,a,b,c]=>if s.lg&&(isB a&&isB c) then (numP b).map fun v=>{ s with l:={ s.l with fs:=s.l.fs++[⟨a,v,c⟩] } } else none
 | [_,a,b]=>if !s.lg&&isB a then (typeP b).map fun t=>{ s with g:={ s.g with ds:=s.g.ds++[⟨a,t.1,t.2.1,t.2.2⟩] } } else none
 | _=>none
def addKey (s:SR) (k:KF):SR:=if s.lg then { s with l:={ s.l with ks:=s.l.ks++[k] } } else { s with g:={ s.g with ks:=s.g.ks++[k] } }
def stKey (s:SR):List (List UInt8)→Option SR
 | [_,a]=>if isB a then some (addKey s ⟨a,false⟩) else none
 | [_,a,d]=>if isB a&&decide (d=[68,69,83,67,69,78,68]) then some (addKey s ⟨a,true⟩) else none
 | _=>none
section
theorem g0 (a:List UInt8) (r:List (List UInt8)):(Ws (a::r)).getD 0 AV.undef=vs (bs a):=rfl
theorem g1 (a b:List UInt8) (r:List (List UInt8)):(Ws (a::b::r)).getD 1 AV.undef=vs (bs b):=rfl
theorem g2 (a b c:List UInt8) (r:List (List UInt8)):(Ws (a::b::c::r)).getD 2 AV.undef=vs (bs c):=rfl
theorem g3 (a b c d:List UInt8) (r:List (List UInt8)):(Ws (a::b::c::d::r)).getD 3 AV.undef=vs (bs d):=rfl
theorem g4 (a b c d e:List UInt8) (r:List (List UInt8)):(Ws (a::b::c::d::e::r)).getD 4 AV.undef=vs (bs e):=rfl
theorem bneI_t {a b:Int} (h:a≠b):(a != b)=true:=by simpa using h
theorem bneI_f {a b:Int} (h:a=b):(a != b)=false:=by simp [h]
theorem beqI_t {a b:Int} (h:a=b):(a==b)=true:=by simp [h]
theorem beqI_f {a b:Int} (h:a≠b):(a==b)=false:=by simpa using h
variable {n:Nat}
theorem bare1 (hn:1001≤n) {a:List UInt8} (h:Good a):Q0p.F n [vs (bs a)]=some (isB a):=by
 have:=isBare_eq (n:=n) hn [a] (by simp) (by simpa using h)
 rw [List.all_cons,List.all_nil,Bool.and_true] at this
 exact this
theorem bare2 (hn:1001≤n) {a b:List UInt8} (h:Good a) (h' : Good b):Q0p.F n [vs (bs a),vs (bs b)]=some (isB a&&isB b):=by
 have:=isBare_eq (n:=n) hn [a,b] (by simp) (by simp [h,h'])
 rw [List.all_cons,List.all_cons,List.all_nil,Bool.and_true] at this
 exact this
theorem format_eq (hn:1001≤n) (s:SR) (pl:Int):∀ w:List (List UInt8),w.length≤1000→(∀ x∈w,Good x)→Rs (stFmt s w) pl (Q1a.F n (Ws w) s.lg (bs s.g.nm) (bs s.g.fm) s.g.uq (bs s.l.nm) (bs s.l.fm) s.l.uq pl (s.g.ds.map FD.av) (s.g.ks.map KF.av) (Ws s.l.ws) (s.l.fs.map LF.av) (s.l.js.map JP.av) (s.l.ks.map KF.av) (s.l.rs.map RL.av))
 | [],_,_=>by
  unfold Q1a.F Q1a.e
  exact Rs.no
 | [_],_,_=>by
  unfold Q1a.F Q1a.e
  exact Rs.no
 | [a,b],_,hg=>by
  have hb:=bare1 hn (hg b (by simp))
  unfold Q1a.F Q1a.e stFmt
  simp (disch:=omega) only [Option.bind_some,Option.bind_none,cond_true,cond_false,Bool.not_true,Bool.not_false,List.length_map,Ws_length,bs_size,within_t,upto_t,wsucc,Int.toNat_natCast,at_mapN,Ws_getDN,cells_agg,cells_v,withCons_cons,withInt_mk,withStr_mk,withBool_mk,withSl_mk,cond_t,cond_f,List.length_cons,List.length_nil,bneI_t,bneI_f,beqI_t,beqI_f,g0,g1,hb]
  cases isB b
  ·exact Rs.no
  ·cases hl:s.lg
   ·refine Rs.yes ?_
    simp [stT,hl]
   ·refine Rs.yes ?_
    simp [stT,hl]
 | a::b::c::r,_,_=>by
  unfold Q1a.F Q1a.e
  simp (disch:=omega) only [Option.bind_some,Option.bind_none,cond_true,cond_false,Bool.not_true,Bool.not_false,List.length_map,Ws_length,bs_size,within_t,upto_t,wsucc,Int.toNat_natCast,at_mapN,Ws_getDN,cells_agg,cells_v,withCons_cons,withInt_mk,withStr_mk,withBool_mk,withSl_mk,cond_t,cond_f,List.length_cons,List.length_nil,bneI_t,bneI_f,beqI_t,beqI_f]
  exact Rs.no
theorem base_eq (hn:1001≤n) (s:SR) (pl:Int) {k:Nat} (hk:k≤1000) (hz:Sz s k):∀ w:List (List UInt8),w.length≤1000→(∀ x∈w,Good x)→Rs (stBase s w) pl (Q18.F n (Ws w) s.lg (bs s.g.nm) (bs s.g.fm) s.g.uq (bs s.l.nm) (bs s.l.fm) s.l.uq pl (s.g.ds.map FD.av) (s.g.ks.map KF.av) (Ws s.l.ws) (s.l.fs.map LF.av) (s.l.js.map JP.av) (s.l.ks.map KF.av) (s.l.rs.map RL.av)):=by
 intro w hw hg
 have hmost:most=1000000000:=rfl
 have hws:=hz.ws
 obtain ⟨m,rfl⟩ : ∃ m,n=m+1:=⟨n - 1,by omega⟩
 have e2:∀ z1 z2 z3 z4 z5 z6 z7 z8 z9 z10 z11 z12 z13 z14 z15,Q18.l (m+1) (m+1) (.z2 z1 z2 z3 z4 z5 z6 z7 z8 z9 z10 z11 z12 z13 z14 z15)=some (false,z1,z2,z3,z4,z5,z6,z7,z8,z9,z10,z11,z12,z13,z14,z15):=fun _ _ _ _ _ _ _ _ _ _ _ _ _ _ _=>rfl
 unfold Q18.F Q18.e
 simp only [e2]
 cases hl:s.lg
 ·have:stBase s w=none:=by
   unfold stBase
   split
   ·rw [hl]; rfl
   ·rfl
  rw [this]
  exact Rs.no
 ·match w,hw,hg with
  | [],_,_=>exact Rs.no
  | [_],_,_=>exact Rs.no
  | [a,b],_,hg=>
   have hb:=bare1 (n:=m+1) hn (hg b (by simp))
   unfold stBase
   simp (disch:=omega) only [Option.bind_some,Option.bind_none,cond_true,cond_false,Bool.not_true,Bool.not_false,List.length_map,Ws_length,bs_size,within_t,upto_t,wsucc,Int.toNat_natCast,at_mapN,Ws_getDN,cells_agg,cells_v,withCons_cons,withInt_mk,withStr_mk,withBool_mk,withSl_mk,cond_t,cond_f,List.length_cons,List.length_nil,bneI_t,bneI_f,beqI_t,beqI_f,g0,g1,hb,Ws_snoc,hl,Bool.true_and]
   cases isB b
   ·exact Rs.no
   ·refine Rs.yes ?_
    simp [stT,hl]
  | a::b::c::r,_,_=>
   simp (disch:=omega) only [Option.bind_some,Option.bind_none,cond_true,cond_false,Bool.not_true,Bool.not_false,List.length_map,Ws_length,bs_size,within_t,upto_t,wsucc,Int.toNat_natCast,at_mapN,Ws_getDN,cells_agg,cells_v,withCons_cons,withInt_mk,withStr_mk,withBool_mk,withSl_mk,cond_t,cond_f,List.length_cons,List.length_nil,bneI_t,bneI_f,beqI_t,beqI_f]
   exact Rs.no
theorem join_eq (hn:100002≤n) (s:SR) (pl:Int) {k:Nat} (hk:k≤1000) (hz:Sz s k):∀ w:List (List UInt8),w.length≤1000→(∀ x∈w,Good x)→Rs (stJoin s w) pl (Q1c.F n (Ws w) s.lg (bs s.g.nm) (bs s.g.fm) s.g.uq (bs s.l.nm) (bs s.l.fm) s.l.uq pl (s.g.ds.map FD.av) (s.g.ks.map KF.av) (Ws s.l.ws) (s.l.fs.map LF.av) (s.l.js.map JP.av) (s.l.ks.map KF.av) (s.l.rs.map RL.av)):=by
 intro w hw hg
 have hmost:most=1000000000:=rfl
 have hjs:=hz.js
 obtain ⟨m,rfl⟩ : ∃ m,n=m+1:=⟨n - 1,by omega⟩
 have e2:∀ z1 z2 z3 z4 z5 z6 z7 z8 z9 z10 z11 z12 z13 z14 z15,Q1c.l (m+1) (m+1) (.z2 z1 z2 z3 z4 z5 z6 z7 z8 z9 z10 z11 z12 z13 z14 z15)=some (false,z1,z2,z3,z4,z5,z6,z7,z8,z9,z10,z11,z12,z13,z14,z15):=fun _ _ _ _ _ _ _ _ _ _ _ _ _ _ _=>rfl
 unfold Q1c.F Q1c.e
 simp only [e2]
 cases hl:s.lg
 ·have:stJoin s w=none:=by
   unfold stJoin
   split
   ·rw [hl]; rfl
   ·rfl
  rw [this]
  exact Rs.no
 ·match w,hw,hg with
  | [],_,_=>exact Rs.no
  | [_],_,_=>exact Rs.no
  | [_,_],_,_=>exact Rs.no
  | [_,_,_],_,_=>exact Rs.no
  | [_,_,_,_],_,_=>exact Rs.no
  | [k0,a,b,c,d],_,hg=>
   have hb:=bare2 (n:=m+1) (by omega) (hg b (by simp)) (hg d (by simp))
   have ga:=hg a (by simp)
   have gc:=hg c (by simp)
   obtain ⟨x,x1,x2⟩:=whole_eq (n:=m+1) hn a ga.pos (by have:=ga.len; omega)
   obtain ⟨y,y1,y2⟩:=whole_eq (n:=m+1) hn c gc.pos (by have:=gc.len; omega)
   unfold stJoin
   simp (disch:=omega) only [Option.bind_some,Option.bind_none,cond_true,cond_false,Bool.not_true,Bool.not_false,List.length_map,Ws_length,bs_size,within_t,upto_t,wsucc,Int.toNat_natCast,at_mapN,Ws_getDN,cells_agg,cells_v,withCons_cons,withInt_mk,withStr_mk,withBool_mk,withSl_mk,cond_t,cond_f,List.length_cons,List.length_nil,bneI_t,bneI_f,beqI_t,beqI_f,g0,g1,g2,g3,g4,hb,hl,Bool.true_and,x1,y1]
   cases isB b&&isB d
   ·exact Rs.no
   ·simp only [Bool.not_true,cond_false,if_true]
    cases ha:numP a with
    | none=>exact Rs.no
    | some x'=>
     cases hc:numP c with
     | none=>exact Rs.no
     | some y'=>
      have e1:=x2 x' ha
      have e2:=y2 y' hc
      subst e1
      subst e2
      refine Rs.yes ?_
      simp [stT,hl,JP.av]
  | a::b::c::d::e::f::r,_,_=>
   simp (disch:=omega) only [Option.bind_some,Option.bind_none,cond_true,cond_false,Bool.not_true,Bool.not_false,List.length_map,Ws_length,bs_size,within_t,upto_t,wsucc,Int.toNat_natCast,at_mapN,Ws_getDN,cells_agg,cells_v,withCons_cons,withInt_mk,withStr_mk,withBool_mk,withSl_mk,cond_t,cond_f,List.length_cons,List.length_nil,bneI_t,bneI_f,beqI_t,beqI_f]
   exact Rs.no
end
end Go.Proofs.YtmpglmcjoelciaaGreatDoor.Ev
namespace Go.Proofs.YtmpglmcjoelciaaGreatDoor.Ev
open Go Go.Proofs Go.Proofs.Ev
set_option linter.unusedVariables false
set_option linter.unusedSimpArgs false
section
variable {n:Nat}
theorem field_eq (hn:200000≤n) (s:SR) (pl:Int) {k:Nat} (hk:k≤1000) (hz:Sz s k):∀ w:List (List UInt8),w.length≤1000→(∀ x∈w,Good x)→Rs (stField s w) pl (Q19.F n (Ws w) s.lg (bs s.g.nm) (bs s.g.fm) s.g.uq (bs s.l.nm) (bs s.l.fm) s.l.uq pl (s.g.ds.map FD.av) (s.g.ks.map KF.av) (Ws s.l.ws) (s.l.fs.map LF.av) (s.l.js.map JP.av) (s.l.ks.map KF.av) (s.l.rs.map RL.av)):=by
 intro w hw hg
 have hmost:most=1000000000:=rfl
 have hds:=hz.ds
 have hfs:=hz.fs
 obtain ⟨m,rfl⟩ : ∃ m,n=m+1:=⟨n - 1,by omega⟩
 have e6:∀ z1 z2 z3 z4 z5 z6 z7 z8 z9 z10 z11 z12 z13 z14 z15,Q19.l (m+1) (m+1) (.z6 z1 z2 z3 z4 z5 z6 z7 z8 z9 z10 z11 z12 z13 z14 z15)=some (false,z1,z2,z3,z4,z5,z6,z7,z8,z9,z10,z11,z12,z13,z14,z15):=fun _ _ _ _ _ _ _ _ _ _ _ _ _ _ _=>rfl
 unfold Q19.F Q19.e
 simp only [e6]
 match w,hw,hg with
 | [],_,_=>exact Rs.no
 | [_],_,_=>exact Rs.no
 | [_,_],_,_=>exact Rs.no
 | [k0,a,b],_,hg=>
  have hb:=bare1 (n:=m+1) (by omega) (hg a (by simp))
  have gb:=hg b (by simp)
  obtain ⟨x,x1,x2⟩:=whole_eq (n:=m+1) (by omega) b gb.pos (by have:=gb.len; omega)
  obtain ⟨t,t1,t2,t3⟩:=typeOf_eq (n:=m+1) (by omega) b (by have:=gb.len; omega)
  unfold stField
  simp (disch:=omega) only [Option.bind_some,Option.bind_none,cond_true,cond_false,Bool.not_true,Bool.not_false,List.length_map,Ws_length,bs_size,within_t,upto_t,wsucc,Int.toNat_natCast,at_mapN,Ws_getDN,cells_agg,cells_v,withCons_cons,withInt_mk,withStr_mk,withBool_mk,withSl_mk,cond_t,cond_f,List.length_cons,List.length_nil,bneI_t,bneI_f,beqI_t,beqI_f,g0,g1,g2,hb,x1,t1]
  cases isB a
  ·simp only [Bool.not_false,cond_true,Bool.and_false,Bool.false_eq_true,if_false]
   exact Rs.no
  ·cases hl:s.lg
   ·simp only [Bool.not_true,Bool.not_false,cond_false,Bool.and_true,if_true]
    cases ht:typeP b with
    | none=>
     rw [ht] at t2
     rw [show t.2.2.2=false from t2]
     exact Rs.no
    | some u=>
     have:=t3 u ht
     subst this
     refine Rs.yes ?_
     simp [stT,hl,FD.av]
   ·simp only [Bool.not_true,cond_false,cond_true,Bool.false_and,Bool.false_eq_true,if_false]
    cases (numP b).isSome <;> exact Rs.no
 | [k0,a,b,c],_,hg=>
  have hb:=bare1 (n:=m+1) (by omega) (hg a (by simp))
  have hc:=bare1 (n:=m+1) (by omega) (hg c (by simp))
  have gb:=hg b (by simp)
  obtain ⟨x,x1,x2⟩:=whole_eq (n:=m+1) (by omega) b gb.pos (by have:=gb.len; omega)
  obtain ⟨t,t1,t2,t3⟩:=typeOf_eq (n:=m+1) (by omega) b (by have:=gb.len; omega)
  unfold stField
  simp (disch:=omega) only [Option.bind_some,Option.bind_none,cond_true,cond_false,Bool.not_true,Bool.not_false,List.length_map,Ws_length,bs_size,within_t,upto_t,wsucc,Int.toNat_natCast,at_mapN,Ws_getDN,cells_agg,cells_v,withCons_cons,withInt_mk,withStr_mk,withBool_mk,withSl_mk,cond_t,cond_f,List.length_cons,List.length_nil,bneI_t,bneI_f,beqI_t,beqI_f,g0,g1,g2,g3,hb,hc,x1,t1]
  cases isB a
  ·simp only [Bool.not_false,cond_true,Bool.and_false,Bool.false_and,Bool.false_eq_true,if_false]
   exact Rs.no
  ·cases hl:s.lg
   ·simp only [Bool.not_true,cond_false,Bool.false_and,Bool.false_eq_true,if_false]
    cases t.2.2.2 <;> exact Rs.no
   ·simp only [Bool.not_true,cond_false,cond_true,Bool.true_and]
    cases hx:numP b with
    | none=>
     simp only [Option.isSome_none,Bool.not_false,cond_true,Option.map_none,ite_self]
     exact Rs.no
    | some v=>
     have:=x2 v hx
     subst this
     simp only [Option.isSome_some,Bool.not_true,cond_false]
     cases isB c
     ·exact Rs.no
     ·refine Rs.yes ?_
      simp [stT,hl,LF.av]
 | k0::a::b::c::d::r,_,hg=>
  have hb:=bare1 (n:=m+1) (by omega) (hg a (by simp))
  have gb:=hg b (by simp)
  obtain ⟨x,x1,x2⟩:=whole_eq (n:=m+1) (by omega) b gb.pos (by have:=gb.len; omega)
  obtain ⟨t,t1,t2,t3⟩:=typeOf_eq (n:=m+1) (by omega) b (by have:=gb.len; omega)
  have:stField s (k0::a::b::c::d::r)=none:=rfl
  rw [this]
  simp (disch:=omega) only [Option.bind_some,Option.bind_none,cond_true,cond_false,Bool.not_true,Bool.not_false,List.length_map,Ws_length,bs_size,within_t,upto_t,wsucc,Int.toNat_natCast,at_mapN,Ws_getDN,cells_agg,cells_v,withCons_cons,withInt_mk,withStr_mk,withBool_mk,withSl_mk,cond_t,cond_f,List.length_cons,List.length_nil,bneI_t,bneI_f,beqI_t,beqI_f,g0,g1,g2,g3,hb,x1,t1]
  cases isB a
  ·exact Rs.no
  ·cases hl:s.lg
   ·simp only [Bool.not_true,cond_false]
    cases t.2.2.2 <;> exact Rs.no
   ·simp only [Bool.not_true,cond_false,cond_true]
    cases (numP b).isSome <;> exact Rs.no
theorem key_eq (hn:1001≤n) (s:SR) (pl:Int) {k:Nat} (hk:k≤1000) (hz:Sz s k):∀ w:List (List UInt8),w.length≤1000→(∀ x∈w,Good x)→Rs (stKey s w) pl (Q1d.F n (Ws w) s.lg (bs s.g.nm) (bs s.g.fm) s.g.uq (bs s.l.nm) (bs s.l.fm) s.l.uq pl (s.g.ds.map FD.av) (s.g.ks.map KF.av) (Ws s.l.ws) (s.l.fs.map LF.av) (s.l.js.map JP.av) (s.l.ks.map KF.av) (s.l.rs.map RL.av)):=by
 intro w hw hg
 have hmost:most=1000000000:=rfl
 have h1:=hz.ks
 have h2:=hz.lk
 obtain ⟨m,rfl⟩ : ∃ m,n=m+1:=⟨n - 1,by omega⟩
 have e3:∀ z1 z2 z3 z4 z5 z6 z7 z8 z9 z10 z11 z12 z13 z14 z15,Q1d.l (m+1) (m+1) (.z3 z1 z2 z3 z4 z5 z6 z7 z8 z9 z10 z11 z12 z13 z14 z15)=some (false,z1,z2,z3,z4,z5,z6,z7,z8,z9,z10,z11,z12,z13,z14,z15):=fun _ _ _ _ _ _ _ _ _ _ _ _ _ _ _=>rfl
 have add:∀ (u:Bool) (a b:List UInt8) (r:List (List UInt8)),Rs (some (addKey s ⟨b,u⟩)) pl (Q1d.l (m+1) (m+1) (.z4 (Ws (a::b::r)) u s.lg (bs s.g.nm) (bs s.g.fm) s.g.uq (bs s.l.nm) (bs s.l.fm) s.l.uq pl (s.g.ds.map FD.av) (s.g.ks.map KF.av) (Ws s.l.ws) (s.l.fs.map LF.av) (s.l.js.map JP.av) (s.l.ks.map KF.av) (s.l.rs.map RL.av))):=by
  intro u a b r
  rw [Q1d.at4]
  unfold Q1d.r4
  simp (disch:=omega) only [Option.bind_some,Option.bind_none,cond_true,cond_false,Bool.not_true,Bool.not_false,List.length_map,Ws_length,bs_size,within_t,upto_t,wsucc,Int.toNat_natCast,at_mapN,Ws_getDN,cells_agg,cells_v,withCons_cons,withInt_mk,withStr_mk,withBool_mk,withSl_mk,cond_t,cond_f,List.length_cons,List.length_nil,g1]
  refine Rs.yes ?_
  unfold addKey
  cases hl:s.lg
  ·simp [stT,hl,KF.av]
  ·simp [stT,hl,KF.av]
 unfold Q1d.F Q1d.e
 simp only [e3]
 match w,hw,hg with
 | [],_,_=>exact Rs.no
 | [_],_,_=>exact Rs.no
 | [k0,a],_,hg=>
  have hb:=bare1 (n:=m+1) hn (hg a (by simp))
  unfold stKey
  simp (disch:=omega) only [Option.bind_some,Option.bind_none,cond_true,cond_false,Bool.not_true,Bool.not_false,List.length_map,Ws_length,bs_size,within_t,upto_t,wsucc,Int.toNat_natCast,at_mapN,Ws_getDN,cells_agg,cells_v,withCons_cons,withInt_mk,withStr_mk,withBool_mk,withSl_mk,cond_t,cond_f,List.length_cons,List.length_nil,bneI_t,bneI_f,beqI_t,beqI_f,g0,g1,hb]
  cases isB a
  ·exact Rs.no
  ·exact add false k0 a []
 | [k0,a,d],_,hg=>
  have hb:=bare1 (n:=m+1) hn (hg a (by simp))
  unfold stKey
  simp (disch:=omega) only [Option.bind_some,Option.bind_none,cond_true,cond_false,Bool.not_true,Bool.not_false,List.length_map,Ws_length,bs_size,within_t,upto_t,wsucc,Int.toNat_natCast,at_mapN,Ws_getDN,cells_agg,cells_v,withCons_cons,withInt_mk,withStr_mk,withBool_mk,withSl_mk,cond_t,cond_f,List.length_cons,List.length_nil,bneI_t,bneI_f,beqI_t,beqI_f,g0,g1,g2,hb,lit7,str_eq]
  by_cases hd:d=[68,69,83,67,69,78,68]
  ·simp only [hd,decide_true,Bool.not_true,cond_false,Bool.and_true]
   cases isB a
   ·exact Rs.no
   ·exact add true k0 a [[68,69,83,67,69,78,68]]
  ·simp only [hd,decide_false,Bool.not_false,cond_true,Bool.and_false,Bool.false_eq_true,if_false]
   exact Rs.no
 | a::b::c::d::r,_,_=>
  simp (disch:=omega) only [Option.bind_some,Option.bind_none,cond_true,cond_false,Bool.not_true,Bool.not_false,List.length_map,Ws_length,bs_size,within_t,upto_t,wsucc,Int.toNat_natCast,at_mapN,Ws_getDN,cells_agg,cells_v,withCons_cons,withInt_mk,withStr_mk,withBool_mk,withSl_mk,cond_t,cond_f,List.length_cons,List.length_nil,bneI_t,bneI_f,beqI_t,beqI_f]
  exact Rs.no
end
end Go.Proofs.YtmpglmcjoelciaaGreatDoor.Ev
namespace Go.Proofs.YtmpglmcjoelciaaGreatDoor.Ev
open Go Go.Proofs Go.Proofs.Ev
set_option linter.unusedVariables false
set_option linter.unusedSimpArgs false
def opsL:List (List UInt8):=[[69,81],[78,69],[76,84],[76,69],[71,84],[71,69]]
theorem gr0_eq:gr0=Ws opsL:=rfl
def opP (o:List UInt8):Option Int:=if opsL.contains o then some (ixs opsL o 0) else none
def cnd1 (a o v:List UInt8):Option CN:=if isB a then (opP o).bind fun x=>(valP v).map fun y=>⟨a,x,y.1,y.2⟩ else none
def cndP:List (List UInt8)→Option (List CN)
 | []=>some []
 | [a,o,v]=>(cnd1 a o v).map fun c=>[c]
 | a::o::v::d::b::r=>if d=[65,78,68] then (cnd1 a o v).bind fun c=>(cndP (b::r)).map fun cs=>c::cs else none
 | _=>none
def addR (s:SR) (r:RL):SR:={ s with l:={ s.l with rs:=s.l.rs++[r] } }
def stRule (s:SR):List (List UInt8)→Option SR
 | []=>none
 | k::r=>if s.lg then (cndP r).map fun cs=>addR s ⟨decide (k=[79]),cs⟩ else none
def hd1 (s:SR) (k a:List UInt8) (u:Bool):Option SR:=
 if k=[80,70] then some { s with lg:=false,g:={ s.g with nm:=a,uq:=u } } else if k=[76,70] then some { s with lg:=true,l:={ s.l with nm:=a,uq:=u } } else none
def stHead (s:SR):List (List UInt8)→Option SR
 | [k,a]=>if isB a then hd1 s k a false else none
 | [k,a,u]=>if isB a&&decide (u=[85,78,73,81,85,69]) then hd1 s k a true else none
 | _=>none
section
variable {n:Nat}
theorem index_ops (hn:1001≤n) (s:List UInt8):Q4c.F n (Ws opsL) (bs s)=some (ixs opsL s 0):=by
 unfold Q4c.F Q4c.e
 have:=index_l n opsL (by decide) s opsL.length 0 n (by omega) (by have:opsL.length=6:=rfl; omega)
 rw [List.drop_zero] at this
 rw [Ws_length]
 exact this
theorem d3 (a b c:List UInt8) (r:List (List UInt8)):(Ws (a::b::c::r)).drop 3=Ws r:=rfl
theorem d1 (a:List UInt8) (r:List (List UInt8)):(Ws (a::r)).drop 1=Ws r:=rfl
theorem three {k:Nat}:(decide ((0:Int)≤3)&&decide ((3:Int)≤((k+3:Nat):Int)))=true:=by
 rw [Bool.and_eq_true,decide_eq_true_eq,decide_eq_true_eq]; omega
theorem one1 {k:Nat}:(decide ((0:Int)≤1)&&decide ((1:Int)≤((k+1:Nat):Int)))=true:=by
 rw [Bool.and_eq_true,decide_eq_true_eq,decide_eq_true_eq]; omega
theorem rule_lp (hn:100002≤n) (s:SR) (pl:Int) (om:Bool) {kk:Nat} (hkk:kk≤1000) (hz:Sz s kk):∀ (k:Nat) (l:List (List UInt8)) (acc:List CN) (m:Nat),l.length≤k→k+2≤m→l.length+acc.length≤2000→(∀ x∈l,Good x)→
  Rs ((cndP l).map fun cs=>addR s ⟨om,acc++cs⟩) pl (Q1f.l n m (.z5 (Ws l) s.lg (bs s.g.nm) (bs s.g.fm) s.g.uq (bs s.l.nm) (bs s.l.fm) s.l.uq pl om (acc.map CN.av) (s.g.ds.map FD.av) (s.g.ks.map KF.av) (Ws s.l.ws) (s.l.fs.map LF.av) (s.l.js.map JP.av) (s.l.ks.map KF.av) (s.l.rs.map RL.av))):=by
 intro k
 induction k with
 | zero=>
  intro l acc m hl hm ha hg
  have:l=[]:=List.eq_nil_of_length_eq_zero (by omega)
  subst this
  obtain ⟨m,rfl⟩ : ∃ q,m=q+1:=⟨m - 1,by omega⟩
  have hmost:most=1000000000:=rfl
  have hrs:=hz.rs
  rw [Q1f.at5]
  unfold Q1f.r5
  simp (disch:=omega) only [Option.bind_some,Option.bind_none,cond_true,cond_false,Bool.not_true,Bool.not_false,List.length_map,Ws_length,bs_size,within_t,upto_t,wsucc,Int.toNat_natCast,at_mapN,Ws_getDN,cells_agg,cells_v,withCons_cons,withInt_mk,withStr_mk,withBool_mk,withSl_mk,cond_t,cond_f,List.length_nil,List.length_cons]
  refine Rs.yes ?_
  simp [stT,addR,RL.av,Ws]
 | succ k ih=>
  intro l acc m hl hm ha hg
  obtain ⟨m,rfl⟩ : ∃ q,m=q+2:=⟨m - 2,by omega⟩
  have hmost:most=1000000000:=rfl
  have hrs:=hz.rs
  have e7:∀ z1 z2 z3 z4 z5 z6 z7 z8 z9 z10 z11 z12 z13 z14 z15,Q1f.l n (m+1) (.z7 z1 z2 z3 z4 z5 z6 z7 z8 z9 z10 z11 z12 z13 z14 z15)=some (false,z1,z2,z3,z4,z5,z6,z7,z8,z9,z10,z11,z12,z13,z14,z15):=fun _ _ _ _ _ _ _ _ _ _ _ _ _ _ _=>rfl
  rw [Q1f.at5]
  unfold Q1f.r5
  simp only [e7]
  match l,hl,ha,hg with
  | [],_,_,_=>
   simp (disch:=omega) only [Option.bind_some,Option.bind_none,cond_true,cond_false,Bool.not_true,Bool.not_false,List.length_map,Ws_length,bs_size,within_t,upto_t,wsucc,Int.toNat_natCast,at_mapN,Ws_getDN,cells_agg,cells_v,withCons_cons,withInt_mk,withStr_mk,withBool_mk,withSl_mk,cond_t,cond_f,List.length_nil,List.length_cons]
   refine Rs.yes ?_
   simp [stT,addR,RL.av,Ws]
  | [_],_,_,_=>exact Rs.no
  | [_,_],_,_,_=>exact Rs.no
  | [a,o,v],_,ha,hg=>
   have hb:=bare1 (n:=n) (by omega) (hg a (by simp))
   have hc:=contains_str (n:=n) (by omega) opsL (by decide) o
   have hi:=index_ops (n:=n) (by omega) o
   obtain ⟨x,y,v1,v2⟩:=valueOf_eq (n:=n) hn (hg v (by simp))
   have lw:(Ws [a,o,v]).length=0+3:=rfl
   unfold cndP cnd1 opP
   simp only [List.length_cons,List.length_nil] at ha
   simp (disch:=omega) only [Option.bind_some,Option.bind_none,cond_true,cond_false,Bool.not_true,Bool.not_false,List.length_map,Ws_length,bs_size,within_t,upto_t,wsucc,Int.toNat_natCast,at_mapN,Ws_getDN,cells_agg,cells_v,withCons_cons,withInt_mk,withStr_mk,withBool_mk,withSl_mk,cond_t,cond_f,lw,three,List.length_cons,List.length_nil,g0,g1,g2,hb,gr0_eq,hc,hi,v1,d3,beqI_t,beqI_f]
   cases isB a
   ·exact Rs.no
   ·cases opsL.contains o
    ·exact Rs.no
    ·simp only [Bool.not_true,cond_false,if_true,Option.bind_some]
     cases hv:valP v with
     | none=>exact Rs.no
     | some q=>
      obtain ⟨rfl,rfl⟩:=v2 q hv
      have z0:(((Ws ([]:List (List UInt8))).length:Int)==0)=true:=rfl
      simp only [Option.isSome_some,Bool.not_true,cond_false]
      refine Rs.yes ?_
      simp [stT,addR,RL.av,CN.av,Ws]
  | [a,o,v,d],_,ha,hg=>
   have hb:=bare1 (n:=n) (by omega) (hg a (by simp))
   have hc:=contains_str (n:=n) (by omega) opsL (by decide) o
   have hi:=index_ops (n:=n) (by omega) o
   obtain ⟨x,y,v1,v2⟩:=valueOf_eq (n:=n) hn (hg v (by simp))
   have lw:(Ws [a,o,v,d]).length=1+3:=rfl
   unfold cndP
   simp only [List.length_cons,List.length_nil] at ha
   simp (disch:=omega) only [Option.bind_some,Option.bind_none,cond_true,cond_false,Bool.not_true,Bool.not_false,List.length_map,Ws_length,bs_size,within_t,upto_t,wsucc,Int.toNat_natCast,at_mapN,Ws_getDN,cells_agg,cells_v,withCons_cons,withInt_mk,withStr_mk,withBool_mk,withSl_mk,cond_t,cond_f,lw,three,List.length_cons,List.length_nil,g0,g1,g2,hb,gr0_eq,hc,hi,v1,d3,beqI_t,beqI_f,lit3,str_eq]
   cases isB a
   ·exact Rs.no
   ·cases opsL.contains o
    ·exact Rs.no
    ·cases (valP v).isSome
     ·exact Rs.no
     ·simp only [Bool.not_true,cond_false]
      cases decide (d=[65,78,68]) <;> exact Rs.no
  | a::o::v::d::b::r,hl,ha,hg=>
   have hb:=bare1 (n:=n) (by omega) (hg a (by simp))
   have hc:=contains_str (n:=n) (by omega) opsL (by decide) o
   have hi:=index_ops (n:=n) (by omega) o
   obtain ⟨x,y,v1,v2⟩:=valueOf_eq (n:=n) hn (hg v (by simp))
   have lw:(Ws (a::o::v::d::b::r)).length=(r.length+2)+3:=by rw [Ws_length]; rfl
   have lw2:(Ws (d::b::r)).length=(r.length+1)+1:=by rw [Ws_length]; rfl
   simp only [List.length_cons] at ha hl
   unfold cndP cnd1 opP
   simp (disch:=omega) only [Option.bind_some,Option.bind_none,cond_true,cond_false,Bool.not_true,Bool.not_false,List.length_map,Ws_length,bs_size,within_t,upto_t,wsucc,Int.toNat_natCast,at_mapN,Ws_getDN,cells_agg,cells_v,withCons_cons,withInt_mk,withStr_mk,withBool_mk,withSl_mk,cond_t,cond_f,lw,lw2,three,one1,List.length_cons,List.length_nil,g0,g1,g2,hb,gr0_eq,hc,hi,v1,d3,d1,beqI_t,beqI_f,lit3,str_eq]
   by_cases hd:d=[65,78,68]
   ·simp only [hd,decide_true,Bool.not_true,cond_false,if_true]
    cases isB a
    ·exact Rs.no
    ·cases opsL.contains o
     ·exact Rs.no
     ·simp only [Bool.not_true,cond_false,if_true,Option.bind_some]
      cases hv:valP v with
      | none=>exact Rs.no
      | some q=>
       obtain ⟨rfl,rfl⟩:=v2 q hv
       have:=ih (b::r) (acc++[⟨a,ixs opsL o 0,q.1,q.2⟩]) (m+1) (by simp; omega) (by omega) (by simp; omega) (fun z hz=>hg z (by simp at hz ⊢; rcases hz with h | h <;> simp [h]))
       simp only [Option.isSome_some,Bool.not_true,cond_false,Option.map_some,Option.bind_some]
       rw [List.map_append] at this
       have e1:((cndP (b::r)).map fun cs=>(⟨a,ixs opsL o 0,q.1,q.2⟩ : CN)::cs).map (fun cs=>addR s ⟨om,acc++cs⟩)=(cndP (b::r)).map fun cs=>addR s ⟨om,acc++[⟨a,ixs opsL o 0,q.1,q.2⟩]++cs⟩:=by
        rw [Option.map_map]
        congr 1
        funext cs
        simp
       rw [e1]
       exact this
   ·simp only [hd,decide_false,Bool.not_false,cond_true,if_false]
    cases isB a
    ·exact Rs.no
    ·cases opsL.contains o
     ·exact Rs.no
     ·cases (valP v).isSome <;> exact Rs.no
theorem rule_eq (hn:100002≤n) (s:SR) (pl:Int) {k:Nat} (hk:k≤1000) (hz:Sz s k):∀ w:List (List UInt8),w≠[]→w.length≤1000→(∀ x∈w,Good x)→Rs (stRule s w) pl (Q1f.F n (Ws w) s.lg (bs s.g.nm) (bs s.g.fm) s.g.uq (bs s.l.nm) (bs s.l.fm) s.l.uq pl (s.g.ds.map FD.av) (s.g.ks.map KF.av) (Ws s.l.ws) (s.l.fs.map LF.av) (s.l.js.map JP.av) (s.l.ks.map KF.av) (s.l.rs.map RL.av)):=by
 intro w h0 hw hg
 unfold Q1f.F Q1f.e
 cases hl:s.lg
 ·have:stRule s w=none:=by
   unfold stRule
   split
   ·rfl
   ·rw [hl]; rfl
  rw [this]
  exact Rs.no
 ·match w,h0,hw,hg with
  | [],h0,_,_=>exact absurd rfl h0
  | a::r,_,hw,hg=>
   simp only [List.length_cons] at hw
   have lw:(Ws (a::r)).length=r.length+1:=by rw [Ws_length]; rfl
   have:=rule_lp (n:=n) hn s pl (decide (a=[79])) hk hz r.length r [] n (Nat.le_refl _) (by omega) (by simp; omega) (fun z hz=>hg z (by simp [hz]))
   rw [hl] at this
   unfold stRule
   simp (disch:=omega) only [Option.bind_some,Option.bind_none,cond_true,cond_false,Bool.not_true,Bool.not_false,List.length_map,Ws_length,bs_size,within_t,upto_t,wsucc,Int.toNat_natCast,at_mapN,Ws_getDN,cells_agg,cells_v,withCons_cons,withInt_mk,withStr_mk,withBool_mk,withSl_mk,cond_t,cond_f,lw,one1,g0,lit1,str_eq,d1,hl]
   exact this
end
end Go.Proofs.YtmpglmcjoelciaaGreatDoor.Ev
namespace Go.Proofs.YtmpglmcjoelciaaGreatDoor.Ev
open Go Go.Proofs Go.Proofs.Ev
set_option linter.unusedVariables false
set_option linter.unusedSimpArgs false
def plc (k:List UInt8):Int:=if k=[79] then 5 else if k.length≠1 then -1 else Lib.index [82,66,74,70,75,83] k
theorem index_byte (c:UInt8):Lib.index [82,66,74,70,75,83] [c]=if c=82 then 0 else if c=66 then 1 else if c=74 then 2 else if c=70 then 3 else if c=75 then 4 else if c=83 then 5 else -1:=by
 have:∀ k:Fin 256,Lib.index [82,66,74,70,75,83] [UInt8.ofNat k.1]=if UInt8.ofNat k.1=82 then 0 else if UInt8.ofNat k.1=66 then 1 else if UInt8.ofNat k.1=74 then 2 else if UInt8.ofNat k.1=70 then 3 else if UInt8.ofNat k.1=75 then 4 else if UInt8.ofNat k.1=83 then 5 else -1:=by decide +kernel
 have h:=this ⟨c.toNat,c.toNat_lt⟩
 have e:UInt8.ofNat c.toNat=c:=by simp
 rw [e] at h
 exact h
theorem plc_range (k:List UInt8) : -1≤plc k∧plc k≤5:=by
 unfold plc
 by_cases h:k=[79]
 ·rw [if_pos h]; omega
 ·rw [if_neg h]
  by_cases h1:k.length≠1
  ·rw [if_pos h1]; omega
  ·rw [if_neg h1]
   match k,h1 with
   | [c],_=>
    rw [index_byte]
    (repeat' split) <;> omega
   | [],h1=>exact absurd (by simp) h1
   | _::_::_,h1=>exact absurd (by simp) h1
def disp (s:SR) (p:Int) (w:List (List UInt8)):Option SR:=
 if p=5 then stRule s w else if p=4 then stKey s w else if p=3 then stField s w else if p=2 then stJoin s w else if p=1 then stBase s w else stFmt s w
def nxt (p:Int):Int:=if 1 > p then 1 else p
def stLine (s:SR) (pl:Int):List (List UInt8)→Option SR
 | []=>none
 | k::r=>if plc k < pl then none else if pl=0∧plc k > 0 then none else disp s (plc k) (k::r)
theorem stLine_cons (s:SR) (pl:Int) (k:List UInt8) (r:List (List UInt8)):stLine s pl (k::r)=if plc k < pl then none else if pl=0∧plc k > 0 then none else disp s (plc k) (k::r):=rfl
def nextP (w:List (List UInt8)):Int:=match w with
 | []=>0
 | k::_=>nxt (plc k)
section
variable {n:Nat}
theorem Rs.eta {o:Option SR} {pl:Int} {x} (h:Rs o pl x):Rs o pl (x.bind fun p=>some (p.1,p.2.1,p.2.2.1,p.2.2.2.1,p.2.2.2.2.1,p.2.2.2.2.2.1,p.2.2.2.2.2.2.1,p.2.2.2.2.2.2.2.1,p.2.2.2.2.2.2.2.2.1,p.2.2.2.2.2.2.2.2.2.1,p.2.2.2.2.2.2.2.2.2.2.1,p.2.2.2.2.2.2.2.2.2.2.2.1,p.2.2.2.2.2.2.2.2.2.2.2.2.1,p.2.2.2.2.2.2.2.2.2.2.2.2.2.1,p.2.2.2.2.2.2.2.2.2.2.2.2.2.2.1,p.2.2.2.2.2.2.2.2.2.2.2.2.2.2.2)):=by
 obtain ⟨t,rfl,h2,h3⟩:=h
 exact ⟨t,rfl,h2,h3⟩
theorem line9 (hn:200000≤n) (s:SR) (p pl0:Int) (hp0:0≤p) (hp5:p≤5) {k:Nat} (hk:k≤1000) (hz:Sz s k) (w:List (List UInt8)) (h0:w≠[]) (hw:w.length≤1000) (hg:∀ x∈w,Good x) (m:Nat) :
  Rs (disp s p w) (nxt p) (Q1e.l n (m+1) (.z9 (Ws w) p s.lg (bs s.g.nm) (bs s.g.fm) s.g.uq (bs s.l.nm) (bs s.l.fm) s.l.uq pl0 (s.g.ds.map FD.av) (s.g.ks.map KF.av) (Ws s.l.ws) (s.l.fs.map LF.av) (s.l.js.map JP.av) (s.l.ks.map KF.av) (s.l.rs.map RL.av))):=by
 rw [Q1e.at9]
 unfold Q1e.r9 disp
 have c5:((5:Nat):Int)=5:=rfl
 have c4:((4:Nat):Int)=4:=rfl
 have c3:((3:Nat):Int)=3:=rfl
 have c2:((2:Nat):Int)=2:=rfl
 have c1:((1:Nat):Int)=1:=rfl
 have c0:((0:Nat):Int)=0:=rfl
 rw [c5,c4,c3,c2,c1,c0]
 by_cases h5:p=5
 ·rw [cond_t h5,if_pos h5]
  exact (rule_eq (by omega) s (nxt p) hk hz w h0 hw hg).eta
 rw [cond_f h5,if_neg h5]
 by_cases h4:p=4
 ·rw [cond_t h4,if_pos h4]
  exact (key_eq (by omega) s (nxt p) hk hz w hw hg).eta
 rw [cond_f h4,if_neg h4]
 by_cases h3:p=3
 ·rw [cond_t h3,if_pos h3]
  exact (field_eq (by omega) s (nxt p) hk hz w hw hg).eta
 rw [cond_f h3,if_neg h3]
 by_cases h2:p=2
 ·rw [cond_t h2,if_pos h2]
  exact (join_eq (by omega) s (nxt p) hk hz w hw hg).eta
 rw [cond_f h2,if_neg h2]
 by_cases h1:p=1
 ·rw [cond_t h1,if_pos h1]
  exact (base_eq (by omega) s (nxt p) hk hz w hw hg).eta
 rw [cond_f h1,if_neg h1]
 have h00:p=0:=by omega
 rw [cond_t h00]
 exact (format_eq (by omega) s (nxt p) w hw hg).eta
theorem line_eq (hn:200000≤n) (s:SR) (pl:Int) (hp:0≤pl) {k:Nat} (hk:k≤1000) (hz:Sz s k) (w:List (List UInt8)) (hw:w.length≤1000) (hg:∀ x∈w,Good x) :
  Rs (stLine s pl w) (nextP w) (Q1e.F n (Ws w) s.lg (bs s.g.nm) (bs s.g.fm) s.g.uq (bs s.l.nm) (bs s.l.fm) s.l.uq pl (s.g.ds.map FD.av) (s.g.ks.map KF.av) (Ws s.l.ws) (s.l.fs.map LF.av) (s.l.js.map JP.av) (s.l.ks.map KF.av) (s.l.rs.map RL.av)):=by
 obtain ⟨m,rfl⟩ : ∃ m,n=m+1:=⟨n - 1,by omega⟩
 have e8:∀ z1 z2 z3 z4 z5 z6 z7 z8 z9 z10 z11 z12 z13 z14 z15,Q1e.l (m+1) (m+1) (.z8 z1 z2 z3 z4 z5 z6 z7 z8 z9 z10 z11 z12 z13 z14 z15)=some (false,z1,z2,z3,z4,z5,z6,z7,z8,z9,z10,z11,z12,z13,z14,z15):=fun _ _ _ _ _ _ _ _ _ _ _ _ _ _ _=>rfl
 unfold Q1e.F Q1e.e
 simp only [e8]
 match w,hw,hg with
 | [],_,_=>exact Rs.no
 | k0::r,hw,hg=>
  have hlen:=(hg k0 (by simp)).len
  obtain ⟨r1,r2⟩:=plc_range k0
  have fin:∀ p:Int,p=plc k0→Rs (stLine s pl (k0::r)) (nextP (k0::r)) (bif decide (p < pl) then some (false,s.lg,bs s.g.nm,bs s.g.fm,s.g.uq,bs s.l.nm,bs s.l.fm,s.l.uq,pl,s.g.ds.map FD.av,s.g.ks.map KF.av,Ws s.l.ws,s.l.fs.map LF.av,s.l.js.map JP.av,s.l.ks.map KF.av,s.l.rs.map RL.av) else (bif pl==0 then (bif decide (p > 0) then some (false,s.lg,bs s.g.nm,bs s.g.fm,s.g.uq,bs s.l.nm,bs s.l.fm,s.l.uq,pl,s.g.ds.map FD.av,s.g.ks.map KF.av,Ws s.l.ws,s.l.fs.map LF.av,s.l.js.map JP.av,s.l.ks.map KF.av,s.l.rs.map RL.av) else Q1e.l (m+1) (m+1) (.z9 (Ws (k0::r)) p s.lg (bs s.g.nm) (bs s.g.fm) s.g.uq (bs s.l.nm) (bs s.l.fm) s.l.uq pl (s.g.ds.map FD.av) (s.g.ks.map KF.av) (Ws s.l.ws) (s.l.fs.map LF.av) (s.l.js.map JP.av) (s.l.ks.map KF.av) (s.l.rs.map RL.av)))
    else Q1e.l (m+1) (m+1) (.z9 (Ws (k0::r)) p s.lg (bs s.g.nm) (bs s.g.fm) s.g.uq (bs s.l.nm) (bs s.l.fm) s.l.uq pl (s.g.ds.map FD.av) (s.g.ks.map KF.av) (Ws s.l.ws) (s.l.fs.map LF.av) (s.l.js.map JP.av) (s.l.ks.map KF.av) (s.l.rs.map RL.av)))):=by
   intro p e
   subst e
   rw [stLine_cons]
   by_cases a1:plc k0 < pl
   ·rw [cond_t a1,if_pos a1]
    exact Rs.no
   ·have h9:=line9 (n:=m+1) hn s (plc k0) pl (by omega) r2 hk hz (k0::r) (by simp) hw hg m
    rw [cond_f a1,if_neg a1,beq_int]
    by_cases a2:pl=0
    ·rw [cond_t a2]
     by_cases a3:plc k0 > 0
     ·rw [cond_t a3,if_pos ⟨a2,a3⟩]
      exact Rs.no
     ·rw [cond_f a3,if_neg (fun h=>a3 h.2)]
      exact h9
    ·rw [cond_f a2,if_neg (fun h=>a2 h.1)]
     exact h9
  simp (disch:=omega) only [Option.bind_some,Option.bind_none,cond_true,cond_false,Bool.not_true,Bool.not_false,List.length_map,Ws_length,bs_size,within_t,upto_t,wsucc,Int.toNat_natCast,at_mapN,Ws_getDN,cells_agg,cells_v,withCons_cons,withInt_mk,withStr_mk,withBool_mk,withSl_mk,cond_t,cond_f,List.length_cons,beqI_f,g0,lit1,str_eq]
  unfold Q4h.F
  by_cases h79:k0=[79]
  ·rw [cond_t h79,cond_t (by decide),Option.bind_some]
   exact fin 5 (by unfold plc; rw [if_pos h79])
  ·rw [cond_f h79,cond_t (by show 6 < _; decide),Option.bind_some]
   by_cases h1:k0.length=1
   ·have hp:Lib.index (⟨#[82,66,74,70,75,83]⟩ : ByteArray).data.toList (bs k0).data.toList=plc k0:=by
     unfold plc
     rw [if_neg h79,if_neg (by simp [h1])]
    rw [hp,bneI_f (by omega),cond_false]
    exact fin (plc k0) rfl
   ·have hp:plc k0=-1:=by
     unfold plc
     rw [if_neg h79,if_pos h1]
    rw [bneI_t (by omega),cond_true]
    have:stLine s pl (k0::r)=none:=by
     rw [stLine_cons,hp,if_pos (by omega)]
    rw [this]
    exact Rs.no
theorem head_eq (hn:1001≤n) (s:SR) (pl:Int) (w:List (List UInt8)) (hw:w.length≤1000) (hg:∀ x∈w,Good x) :
  Rs (stHead s w) pl (Q1b.F n (Ws w) s.lg (bs s.g.nm) (bs s.g.fm) s.g.uq (bs s.l.nm) (bs s.l.fm) s.l.uq pl (s.g.ds.map FD.av) (s.g.ks.map KF.av) (Ws s.l.ws) (s.l.fs.map LF.av) (s.l.js.map JP.av) (s.l.ks.map KF.av) (s.l.rs.map RL.av)):=by
 obtain ⟨m,rfl⟩ : ∃ m,n=m+1:=⟨n - 1,by omega⟩
 have e3:∀ z1 z2 z3 z4 z5 z6 z7 z8 z9 z10 z11 z12 z13 z14 z15,Q1b.l (m+1) (m+1) (.z3 z1 z2 z3 z4 z5 z6 z7 z8 z9 z10 z11 z12 z13 z14 z15)=some (false,z1,z2,z3,z4,z5,z6,z7,z8,z9,z10,z11,z12,z13,z14,z15):=fun _ _ _ _ _ _ _ _ _ _ _ _ _ _ _=>rfl
 have add:∀ (u:Bool) (a b:List UInt8) (r:List (List UInt8)),(a=[80,70]∨a=[76,70])→Rs (hd1 s a b u) pl (Q1b.l (m+1) (m+1) (.z4 (Ws (a::b::r)) u s.lg (bs s.g.nm) (bs s.g.fm) s.g.uq (bs s.l.nm) (bs s.l.fm) s.l.uq pl (s.g.ds.map FD.av) (s.g.ks.map KF.av) (Ws s.l.ws) (s.l.fs.map LF.av) (s.l.js.map JP.av) (s.l.ks.map KF.av) (s.l.rs.map RL.av))):=by
  intro u a b r hab
  rw [Q1b.at4]
  unfold Q1b.r4 hd1
  simp (disch:=omega) only [Option.bind_some,Option.bind_none,cond_true,cond_false,Bool.not_true,Bool.not_false,List.length_map,Ws_length,bs_size,within_t,upto_t,wsucc,Int.toNat_natCast,at_mapN,Ws_getDN,cells_agg,cells_v,withCons_cons,withInt_mk,withStr_mk,withBool_mk,withSl_mk,cond_t,cond_f,List.length_cons,List.length_nil,g0,g1,lit2,str_eq]
  rcases hab with rfl | rfl
  ·exact Rs.yes rfl
  ·exact Rs.yes rfl
 unfold Q1b.F Q1b.e
 simp only [e3]
 match w,hw,hg with
 | [],_,_=>exact Rs.no
 | [_],_,_=>exact Rs.no
 | [k0,a],_,hg=>
  have hb:=bare1 (n:=m+1) hn (hg a (by simp))
  unfold stHead
  simp (disch:=omega) only [Option.bind_some,Option.bind_none,cond_true,cond_false,Bool.not_true,Bool.not_false,List.length_map,Ws_length,bs_size,within_t,upto_t,wsucc,Int.toNat_natCast,at_mapN,Ws_getDN,cells_agg,cells_v,withCons_cons,withInt_mk,withStr_mk,withBool_mk,withSl_mk,cond_t,cond_f,List.length_cons,List.length_nil,bneI_t,bneI_f,beqI_t,beqI_f,g0,g1,hb,lit2,str_eq]
  by_cases h1:k0=[80,70]
  ·simp only [h1,decide_true,Bool.not_true,cond_false]
   cases isB a
   ·exact Rs.no
   ·exact add false [80,70] a [] (.inl rfl)
  ·simp only [h1,decide_false,Bool.not_false,cond_true]
   by_cases h2:k0=[76,70]
   ·simp only [h2,decide_true,Bool.not_true,cond_false]
    cases isB a
    ·exact Rs.no
    ·exact add false [76,70] a [] (.inr rfl)
   ·simp only [h2,decide_false,Bool.not_false,cond_true]
    have:(if isB a=true then hd1 s k0 a false else none)=none:=by
     unfold hd1
     rw [if_neg h1,if_neg h2,ite_self]
    rw [this]
    exact Rs.no
 | [k0,a,u],_,hg=>
  have hb:=bare1 (n:=m+1) hn (hg a (by simp))
  have l6:(⟨#[85,78,73,81,85,69]⟩ : ByteArray)=bs [85,78,73,81,85,69]:=rfl
  unfold stHead
  simp (disch:=omega) only [Option.bind_some,Option.bind_none,cond_true,cond_false,Bool.not_true,Bool.not_false,List.length_map,Ws_length,bs_size,within_t,upto_t,wsucc,Int.toNat_natCast,at_mapN,Ws_getDN,cells_agg,cells_v,withCons_cons,withInt_mk,withStr_mk,withBool_mk,withSl_mk,cond_t,cond_f,List.length_cons,List.length_nil,bneI_t,bneI_f,beqI_t,beqI_f,g0,g1,g2,hb,lit2,l6,str_eq]
  by_cases hu:u=[85,78,73,81,85,69]
  ·simp only [hu,decide_true,Bool.not_true,cond_false,Bool.and_true]
   by_cases h1:k0=[80,70]
   ·simp only [h1,decide_true,Bool.not_true,cond_false]
    cases isB a
    ·exact Rs.no
    ·exact add true [80,70] a [[85,78,73,81,85,69]] (.inl rfl)
   ·simp only [h1,decide_false,Bool.not_false,cond_true]
    by_cases h2:k0=[76,70]
    ·simp only [h2,decide_true,Bool.not_true,cond_false]
     cases isB a
     ·exact Rs.no
     ·exact add true [76,70] a [[85,78,73,81,85,69]] (.inr rfl)
    ·simp only [h2,decide_false,Bool.not_false,cond_true]
     have:(if isB a=true then hd1 s k0 a true else none)=none:=by
      unfold hd1
      rw [if_neg h1,if_neg h2,ite_self]
     rw [this]
     exact Rs.no
  ·simp only [hu,decide_false,Bool.not_false,cond_true,Bool.and_false,Bool.false_eq_true,if_false]
   exact Rs.no
 | a::b::c::d::r,_,_=>
  simp (disch:=omega) only [Option.bind_some,Option.bind_none,cond_true,cond_false,Bool.not_true,Bool.not_false,List.length_map,Ws_length,bs_size,within_t,upto_t,wsucc,Int.toNat_natCast,at_mapN,Ws_getDN,cells_agg,cells_v,withCons_cons,withInt_mk,withStr_mk,withBool_mk,withSl_mk,cond_t,cond_f,List.length_cons,List.length_nil,bneI_t,bneI_f,beqI_t,beqI_f]
  exact Rs.no
end
end Go.Proofs.YtmpglmcjoelciaaGreatDoor.Ev
namespace Go.Proofs.YtmpglmcjoelciaaGreatDoor.Ev
open Go Go.Proofs Go.Proofs.Ev
set_option linter.unusedVariables false
set_option linter.unusedSimpArgs false
def zG:FL:=⟨[],[],[],[],false⟩
def zL:LG:=⟨[],[],[],[],[],[],false,[]⟩
def zS:SR:=⟨false,zG,zL⟩
end Go.Proofs.YtmpglmcjoelciaaGreatDoor.Ev
namespace Go.Proofs.YtmpglmcjoelciaaGreatDoor.Ev
open Go Go.Proofs Go.Proofs.Ev
set_option linter.unusedVariables false
set_option linter.unusedSimpArgs false
def lineW (l:List UInt8):List (List UInt8):=if l.length > 240∨l.all okc=false∨l=[] then [] else (wordsP (l.length+1) l).getD []
def lineE (l:List UInt8):Int:=if l.length > 240 then 2 else if l.all okc=false then 8 else if l=[] then 0 else if (wordsP (l.length+1) l).isNone then 8 else 0
theorem wordsR_line (l:List UInt8):wordsR l=(Ws (lineW l),lineE l):=by
 unfold wordsR lineW lineE
 by_cases h1:l.length > 240
 ·simp [h1,Ws]
 ·by_cases h2:l.all okc=false
  ·simp only [h1,h2,if_false,if_true,true_or,or_true]
   rfl
  ·by_cases h3:l=[]
   ·simp only [h1,h2,h3,if_false,if_true,or_true]
    rfl
   ·simp only [h1,h2,h3,if_false,or_self]
    cases wordsP (l.length+1) l with
    | none=>rfl
    | some ws=>rfl
theorem lineW_good {l:List UInt8} (hl:l.length≤1000):(lineW l).length≤1000∧∀ w∈lineW l,Good w:=by
 unfold lineW
 by_cases h:l.length > 240∨l.all okc=false∨l=[]
 ·rw [if_pos h]; exact ⟨by simp,by simp⟩
 ·rw [if_neg h]
  cases hp:wordsP (l.length+1) l with
  | none=>exact ⟨by simp,by simp⟩
  | some ws=>
   have:=wordsP_len _ _ _ hp
   exact ⟨by simp only [Option.getD_some]; omega,wordsP_good _ _ _ hl hp⟩
def parseL (L:Nat):List (List UInt8)→SR→Int→Int→SR × Int × Int
 | [],s,p,_=>if p=1 then (zS,L,9) else if srcE s.lg s.g s.l≠0 then (zS,0,srcE s.lg s.g s.l) else (s,0,0)
 | x::r,s,p,i=>if lineE x≠0 then (zS,i,lineE x) else match (if p=0 then stHead s (lineW x) else stLine s (p - 1) (lineW x)) with
  | none=>(zS,i,8)
  | some s'=>parseL L r s' (if p=0 then 1 else nextP (lineW x)+1) (i+1)
def parseX (ls:List (List UInt8)):SR × Int × Int:=if ls.length=0 then (zS,0,1) else if ls.length > 100 then (zS,0,2) else parseL ls.length ls zS 0 0
def resT (x:SR × Int × Int):Bool × ByteArray × ByteArray × List AV × List AV × Bool × ByteArray × ByteArray × List AV × List AV × List AV × List AV × Bool × List AV × Int × Int:=
 (x.1.lg,bs x.1.g.nm,bs x.1.g.fm,x.1.g.ds.map FD.av,x.1.g.ks.map KF.av,x.1.g.uq,bs x.1.l.nm,bs x.1.l.fm,Ws x.1.l.ws,x.1.l.fs.map LF.av,x.1.l.js.map JP.av,x.1.l.ks.map KF.av,x.1.l.uq,x.1.l.rs.map RL.av,x.2.1,x.2.2)
structure Inv (s:SR) (k:Nat):Prop where
 sz:Sz s k
 cs:∀ r∈s.l.rs,r.cs.length≤1000
theorem cndP_len:∀ (k:Nat) (l:List (List UInt8)) (cs:List CN),l.length≤k→cndP l=some cs→cs.length≤l.length
 | _,[],cs,_,h=>by cases h; simp
 | _,[_],cs,_,h=>by cases h
 | _,[_,_],cs,_,h=>by cases h
 | _,[a,o,v],cs,_,h=>by
  unfold cndP at h
  cases hc:cnd1 a o v with
  | none=>rw [hc] at h; cases h
  | some c=>rw [hc] at h; cases h; simp
 | _,[_,_,_,_],cs,_,h=>by cases h
 | 0,_::_::_::_::_::_,_,hk,_=>absurd hk (by simp)
 | k+1,a::o::v::d::b::r,cs,hk,h=>by
  unfold cndP at h
  by_cases hd:d=[65,78,68]
  ·rw [if_pos hd] at h
   cases hc:cnd1 a o v with
   | none=>rw [hc] at h; cases h
   | some c=>
    rw [hc,Option.bind_some] at h
    cases hr:cndP (b::r) with
    | none=>rw [hr] at h; cases h
    | some q=>
     rw [hr] at h
     cases h
     have:=cndP_len k (b::r) q (by simp at hk ⊢; omega) hr
     simp only [List.length_cons] at this ⊢
     omega
  ·rw [if_neg hd] at h; cases h
theorem Inv.mono {s:SR} {k:Nat} (h:Inv s k):Inv s (k+1):=by
 obtain ⟨⟨a,b,c,d,e,f,g⟩,i⟩:=h
 exact ⟨⟨by omega,by omega,by omega,by omega,by omega,by omega,by omega⟩,i⟩
theorem inv_head {s s' : SR} {k:Nat} {w:List (List UInt8)} (h:Inv s k) (hs:stHead s w=some s'):Inv s' k:=by
 obtain ⟨⟨a,b,c,d,e,f,g⟩,i⟩:=h
 unfold stHead hd1 at hs
 (repeat' split at hs) <;> cases hs <;> exact ⟨⟨a,b,c,d,e,f,g⟩,i⟩
theorem inv_disp {s s' : SR} {k:Nat} {p:Int} {w:List (List UInt8)} (hw:w.length≤1000) (h:Inv s k) (hs:disp s p w=some s'):Inv s' (k+1):=by
 have hm:=h.mono
 obtain ⟨⟨a,b,c,d,e,f,g⟩,i⟩:=h
 obtain ⟨⟨a',b',c',d',e',f',g'⟩,_⟩:=hm
 unfold disp at hs
 split at hs
 ·unfold stRule addR at hs
  split at hs
  ·cases hs
  ·split at hs
   ·rename_i k0 r hl
    cases hc:cndP r with
    | none=>rw [hc] at hs; cases hs
    | some cs=>
     rw [hc] at hs
     cases hs
     have hcl:=cndP_len r.length r cs (Nat.le_refl _) hc
     simp only [List.length_cons] at hw
     refine ⟨⟨a',b',c',d',e',f',by simp; omega⟩,?_⟩
     intro x hx
     rcases List.mem_append.1 hx with hx | hx
     ·exact i x hx
     ·rw [List.mem_singleton] at hx
      subst hx
      show cs.length≤1000
      omega
   ·cases hs
 split at hs
 ·unfold stKey addKey at hs
  (repeat' split at hs) <;> cases hs <;> refine ⟨⟨?_,?_,?_,?_,?_,?_,?_⟩,i⟩ <;> first | assumption | (simp; omega)
 split at hs
 ·unfold stField at hs
  split at hs
  ·split at hs
   ·obtain ⟨v,_,rfl⟩:=Option.map_eq_some_iff.1 hs
    exact ⟨⟨a',b',c',by simp; omega,e',f',g'⟩,i⟩
   ·cases hs
  ·split at hs
   ·obtain ⟨v,_,rfl⟩:=Option.map_eq_some_iff.1 hs
    exact ⟨⟨by simp; omega,b',c',d',e',f',g'⟩,i⟩
   ·cases hs
  ·cases hs
 split at hs
 ·unfold stJoin at hs
  split at hs
  ·split at hs
   ·obtain ⟨v,_,hs⟩:=Option.bind_eq_some_iff.1 hs
    obtain ⟨u,_,rfl⟩:=Option.map_eq_some_iff.1 hs
    exact ⟨⟨a',b',c',d',by simp; omega,f',g'⟩,i⟩
   ·cases hs
  ·cases hs
 split at hs
 ·unfold stBase at hs
  split at hs
  ·split at hs
   ·cases hs
    exact ⟨⟨a',b',by simp; omega,d',e',f',g'⟩,i⟩
   ·cases hs
  ·cases hs
 ·unfold stFmt at hs
  (repeat' split at hs) <;> cases hs <;> exact ⟨⟨a',b',c',d',e',f',g'⟩,i⟩
theorem inv_line {s s' : SR} {k:Nat} {p:Int} {w:List (List UInt8)} (hw:w.length≤1000) (h:Inv s k) (hs:stLine s p w=some s'):Inv s' (k+1):=by
 match w,hw,hs with
 | [],_,hs=>cases hs
 | k0::r,hw,hs=>
  rw [stLine_cons] at hs
  split at hs
  ·cases hs
  ·split at hs
   ·cases hs
   ·exact inv_disp hw h hs
theorem head_zero {w:List (List UInt8)} {s' : SR} (hs:stHead zS w=some s'):if s'.lg then s'.g=zG else s'.l=zL:=by
 unfold stHead hd1 at hs
 (repeat' split at hs) <;> cases hs <;> rfl
theorem nextP_range (w:List (List UInt8)) (h:w≠[]):1≤nextP w∧nextP w≤5:=by
 match w,h with
 | [],h=>exact absurd rfl h
 | k::r,_=>
  obtain ⟨a,b⟩:=plc_range k
  unfold nextP nxt
  simp only
  split <;> omega
structure At (s:SR) (p:Int) (i:Nat):Prop where
 z:i=0→p=0∧s=zS
 o:i=1→p=1
 m:2≤i→2≤p
 r:0≤p∧p≤6
 h:p=1→if s.lg then s.g=zG else s.l=zL
 c:p=1→i=1
theorem at_next {s s' : SR} {p:Int} {i:Nat} {w:List (List UInt8)} (ha:At s p i) (hw:w≠[]) (hs:(if p=0 then stHead s w else stLine s (p - 1) w)=some s'):At s' (if p=0 then 1 else nextP w+1) (i+1):=by
 obtain ⟨n1,n2⟩:=nextP_range w hw
 by_cases hp:p=0
 ·have hi:i=0:=by
   refine Classical.byContradiction fun h=>?_
   by_cases h1:i=1
   ·have:=ha.o h1; omega
   ·have:=ha.m (by omega); omega
  obtain ⟨_,rfl⟩:=ha.z hi
  rw [if_pos hp] at hs ⊢
  exact ⟨fun h=>absurd h (by omega),fun _=>rfl,fun h=>absurd h (by omega),by omega,fun _=>head_zero hs,fun _=>by omega⟩
 ·have hi:i≠0:=fun h=>hp (ha.z h).1
  rw [if_neg hp]
  exact ⟨fun h=>absurd h (by omega),fun h=>absurd h (by omega),fun _=>by omega,by omega,fun h=>absurd h (by omega),fun h=>absurd h (by omega)⟩
section
variable {n:Nat}
theorem few_of {s:SR} {k:Nat} (hk:k≤1000) (h:Inv s k):Few s.g s.l:=by
 obtain ⟨⟨a,b,c,d,e,f,g⟩,i⟩:=h
 exact ⟨by omega,by omega,by omega,by omega,by omega,by omega,by omega,i⟩
theorem parsed_l (hn:300000≤n) (ls:List (List UInt8)) (hL:ls.length≤100) (h300:∀ x∈ls,x.length≤300) {b5 b8 b11:Bool} {b6 b7 b9 b10:ByteArray}:∀ (d i m:Nat) (s:SR) (p:Int),i+d=ls.length→d < m→Inv s i→At s p i→
  Q0c.l n m (.z6 (Ws ls) (Ws ls) ls.length i b5 b6 b7 b8 b9 b10 b11 s.lg (bs s.g.nm) (bs s.g.fm) s.g.uq (bs s.l.nm) (bs s.l.fm) s.l.uq (if p=0 then 0 else p - 1) (s.g.ds.map FD.av) (s.g.ks.map KF.av) (Ws s.l.ws) (s.l.fs.map LF.av) (s.l.js.map JP.av) (s.l.ks.map KF.av) (s.l.rs.map RL.av))=some (resT (parseL ls.length (ls.drop i) s p i))
 | _,_,0,_,_,_,h,_,_=>absurd h (by omega)
 | 0,i,m+1,s,p,h,hm,hi,ha=>by
  rw [Q0c.at6]
  unfold Q0c.r6
  have hse:=srcErr_eq (n:=n) (lg:=s.lg) (g:=s.g) (l:=s.l) (by omega) (few_of (by omega) hi)
  simp (disch:=omega) only [Option.bind_some,Option.bind_none,cond_true,cond_false,Bool.not_true,Bool.not_false,List.length_map,Ws_length,bs_size,within_t,upto_t,wsucc,Int.toNat_natCast,at_mapN,Ws_getDN,cells_agg,cells_v,withCons_cons,withInt_mk,withStr_mk,withBool_mk,withSl_mk,cond_t,cond_f,hse]
  rw [List.drop_of_length_le (show ls.length≤i by omega)]
  unfold parseL
  by_cases hp:p=1
  ·have:=ha.c hp
   rw [if_pos hp,beqI_t (by omega),cond_true,show (ls.length:Int)=1 by omega]
   rfl
  ·have h1:ls.length≠1:=fun e=>hp (ha.o (by omega))
   rw [if_neg hp,beqI_f (by omega),cond_false,bif_ne]
   by_cases he:srcE s.lg s.g s.l=0
   ·rw [if_neg (by simp [he]),if_neg (by simp [he])]; rfl
   ·rw [if_pos he,if_pos he]; rfl
 | d+1,i,m+1,s,p,h,hm,hi,ha=>by
  have hil:i < ls.length:=by omega
  have h3:=h300 ls[i] (List.getElem_mem hil)
  obtain ⟨wl,wg⟩:=lineW_good (l:=ls[i]) (by omega)
  have hwo:=wordsOf_eq (n:=n) (by omega) ls[i] (by omega)
  rw [wordsR_line] at hwo
  rw [Q0c.at6]
  unfold Q0c.r6
  simp (disch:=omega) only [Option.bind_some,Option.bind_none,cond_true,cond_false,Bool.not_true,Bool.not_false,List.length_map,Ws_length,bs_size,within_t,upto_t,wsucc,Int.toNat_natCast,at_mapN,Ws_getDN,cells_agg,cells_v,withCons_cons,withInt_mk,withStr_mk,withBool_mk,withSl_mk,cond_t,cond_f,hwo]
  rw [List.drop_eq_getElem_cons hil,bif_ne]
  unfold parseL
  by_cases he:lineE ls[i]=0
  case neg=>rw [if_pos he,if_pos he]; rfl
  rw [if_neg (show ¬ (lineE ls[i]≠0) from fun h=>h he),if_neg (show ¬ (lineE ls[i]≠0) from fun h=>h he)]
  have go:∀ (o:Option SR) (pl:Int) (x:Option (Bool × Bool × ByteArray × ByteArray × Bool × ByteArray × ByteArray × Bool × Int × List AV × List AV × List AV × List AV × List AV × List AV × List AV)),Rs o pl x→(∀ s',o=some s'→Q0c.l n m (.z6 (Ws ls) (Ws ls) ls.length ((i+1:Nat):Int) b5 b6 b7 b8 b9 b10 b11 s'.lg (bs s'.g.nm) (bs s'.g.fm) s'.g.uq (bs s'.l.nm) (bs s'.l.fm) s'.l.uq pl (s'.g.ds.map FD.av) (s'.g.ks.map KF.av) (Ws s'.l.ws) (s'.l.fs.map LF.av) (s'.l.js.map JP.av) (s'.l.ks.map KF.av) (s'.l.rs.map RL.av))=some (resT (parseL ls.length (ls.drop (i+1)) s' (if p=0 then 1 else nextP (lineW ls[i])+1) (i+1))))→
    (x.bind fun p10=>bif !p10.1 then some (false,(⟨#[]⟩ : ByteArray),(⟨#[]⟩ : ByteArray),([]:List AV),([]:List AV),false,(⟨#[]⟩ : ByteArray),(⟨#[]⟩ : ByteArray),([]:List AV),([]:List AV),([]:List AV),([]:List AV),false,([]:List AV),(i:Int),(8:Int)) else Q0c.l n m (.z6 (Ws ls) (Ws ls) ls.length ((i+1:Nat):Int) b5 b6 b7 b8 b9 b10 b11 p10.2.1 p10.2.2.1 p10.2.2.2.1 p10.2.2.2.2.1 p10.2.2.2.2.2.1 p10.2.2.2.2.2.2.1 p10.2.2.2.2.2.2.2.1 p10.2.2.2.2.2.2.2.2.1 p10.2.2.2.2.2.2.2.2.2.1 p10.2.2.2.2.2.2.2.2.2.2.1 p10.2.2.2.2.2.2.2.2.2.2.2.1 p10.2.2.2.2.2.2.2.2.2.2.2.2.1 p10.2.2.2.2.2.2.2.2.2.2.2.2.2.1 p10.2.2.2.2.2.2.2.2.2.2.2.2.2.2.1 p10.2.2.2.2.2.2.2.2.2.2.2.2.2.2.2)) =
    some (resT (match o with | none=>(zS,(i:Int),8) | some s'=>parseL ls.length (ls.drop (i+1)) s' (if p=0 then 1 else nextP (lineW ls[i])+1) (i+1))):=by
   intro o pl x hx hs
   obtain ⟨t,rfl,t1,t2⟩:=hx
   rw [Option.bind_some]
   cases o with
   | none=>rw [show t.1=false from t1]; rfl
   | some s'=>
    have:=t2 s' rfl
    subst this
    exact hs s' rfl
  by_cases hp:p=0
  ·have hi0:i=0:=by
    refine Classical.byContradiction fun h=>?_
    by_cases h1:i=1
    ·have:=ha.o h1; omega
    ·have:=ha.m (by omega); omega
   rw [beqI_t (show (i:Int)=0 by omega),cond_true]
   simp only [hp,if_true]
   have hh:=head_eq (n:=n) (by omega) s 0 (lineW ls[i]) wl wg
   have:=go (stHead s (lineW ls[i])) 0 _ hh (fun s' hs=>by
    have hne:lineW ls[i]≠[]:=by intro e; rw [e] at hs; cases hs
    have hat:=at_next (w:=lineW ls[i]) ha hne (s':=s') (by rw [if_pos hp]; exact hs)
    have:=parsed_l hn ls hL h300 (b5:=b5) (b6:=b6) (b7:=b7) (b8:=b8) (b9:=b9) (b10:=b10) (b11:=b11) d (i+1) m s' _ (by omega) (by omega) (inv_head hi hs).mono hat
    rw [if_pos hp] at this
    rw [if_pos hp]
    exact this)
   rw [if_pos hp] at this
   exact this
  ·have hi0:i≠0:=fun h=>hp (ha.z h).1
   rw [beqI_f (show (i:Int)≠0 by omega),cond_false,if_neg hp,if_neg hp]
   obtain ⟨r0,r1⟩:=ha.r
   have hh:=line_eq (n:=n) (by omega) s (p - 1) (by omega) (k:=i) (by omega) hi.sz (lineW ls[i]) wl wg
   have:=go (stLine s (p - 1) (lineW ls[i])) _ _ hh (fun s' hs=>by
    have hne:lineW ls[i]≠[]:=by intro e; rw [e] at hs; cases hs
    obtain ⟨n1,n2⟩:=nextP_range _ hne
    have hat:=at_next (w:=lineW ls[i]) ha hne (s':=s') (by rw [if_neg hp]; exact hs)
    have:=parsed_l hn ls hL h300 (b5:=b5) (b6:=b6) (b7:=b7) (b8:=b8) (b9:=b9) (b10:=b10) (b11:=b11) d (i+1) m s' _ (by omega) (by omega) (inv_line wl hi hs) hat
    rw [if_neg hp] at this
    rw [if_neg hp]
    rw [if_neg (by omega),show nextP (lineW ls[i])+1 - 1=nextP (lineW ls[i]) by omega] at this
    exact this)
   exact this
end
end Go.Proofs.YtmpglmcjoelciaaGreatDoor.Ev
namespace Go.Proofs.YtmpglmcjoelciaaGreatDoor.Ev
open Go Go.Proofs Go.Proofs.Ev
set_option linter.unusedVariables false
set_option linter.unusedSimpArgs false
def sp (ws:List (List UInt8)):List UInt8:=ws.flatMap fun w=>32::w
def jn:List (List UInt8)→List UInt8
 | []=>[]
 | w::r=>w++sp r
theorem sp_cons (w:List UInt8) (r:List (List UInt8)):sp (w::r)=32::jn (w::r):=by
 unfold sp jn sp
 rw [List.flatMap_cons]
 rfl
theorem sp_app (a b:List (List UInt8)):sp (a++b)=sp a++sp b:=by simp [sp]
def Wd (w:List UInt8):Prop:=w≠[]∧((w.getD 0 0≠39∧(39:UInt8) ∉ w∧(32:UInt8) ∉ w)∨∃ s,w=qd s)
def Bh (t:List UInt8):Prop:=t=[]∨∃ u,t=32::u
theorem bh_sp (r:List (List UInt8)):Bh (sp r):=by
 cases r with
 | nil=>exact .inl rfl
 | cons w r=>exact .inr ⟨_,sp_cons w r⟩
theorem qt_dbl {t:List UInt8} (ht:Bh t):∀ (s:List UInt8) (i:Nat),qt (dbl s++39::t) i=some (i+(dbl s).length+1)
 | [],i=>by
  rcases ht with rfl | ⟨u,rfl⟩
  ·rfl
  ·show qt (39::32::u) i=_
   unfold qt
   rfl
 | c::s,i=>by
  rw [dbl_cons]
  by_cases hc:c=39
  ·rw [if_pos hc]
   have ih:=qt_dbl ht s (i+2)
   show qt (39::39::(dbl s++39::t)) i=_
   unfold qt
   rw [if_neg (by simp)]
   simp only [if_true]
   rw [ih]
   simp only [List.length_append,List.length_cons,List.length_nil]
   congr 1; omega
  ·rw [if_neg hc]
   have ih:=qt_dbl ht s (i+1)
   show qt (c::(dbl s++39::t)) i=_
   unfold qt
   rw [if_pos hc,ih]
   simp only [List.length_append,List.length_cons,List.length_nil]
   congr 1; omega
theorem ib_app {t:List UInt8} (ht:Bh t):∀ w:List UInt8,(32:UInt8) ∉ w→ib (w++t) 32=w.length
 | [],_=>by
  rcases ht with rfl | ⟨u,rfl⟩
  ·rfl
  ·simp [ib]
 | c::w,h=>by
  have hc:c≠32:=fun e=>h (by simp [e])
  rw [List.cons_append,ib_cons,if_neg hc,ib_app ht w (fun hm=>h (by simp [hm]))]
  rfl
theorem wrd_app {w t:List UInt8} (hw:Wd w) (ht:Bh t):wrd (w++t)=w.length:=by
 obtain ⟨h0,h⟩:=hw
 rcases h with ⟨h1,h2,h3⟩ | ⟨s,rfl⟩
 ·match w,h0,h1,h2,h3 with
  | c::r,_,h1,h2,h3=>
   have hi:=ib_app ht (c::r) h3
   rw [List.cons_append] at hi ⊢
   have hc:c≠39:=h1
   rw [wrd_cons,if_neg hc,hi]
   have:((c::(r++t)).take (c::r).length)=c::r:=by
    rw [← List.cons_append,List.take_left]
   rw [this,if_neg]
   simpa using h2
 ·have e:qd s++t=39::(dbl s++39::t):=by simp [qd]
  have el:(qd s).length=(dbl s).length+2:=by simp [qd]
  rw [e,wrd_cons,if_pos rfl,qt_dbl ht s 1]
  dsimp only
  rw [if_neg,el]
  ·omega
  ·rintro ⟨h1,h2⟩
   rcases ht with rfl | ⟨u,rfl⟩
   ·simp at h1; omega
   ·refine h2 ?_
    have:39::(dbl s++39::32::u)=(39::(dbl s++[39]))++32::u:=by simp
    rw [this,List.getD_eq_getElem?_getD,List.getElem?_append_right (by simp; omega)]
    simp
    have:1+(dbl s).length - ((dbl s).length+1)=0:=by omega
    rw [this]; rfl
theorem wordsP_jn:∀ (ws:List (List UInt8)) (g:Nat),ws≠[]→(∀ w∈ws,Wd w)→(jn ws).length < g→wordsP g (jn ws)=some ws
 | [],_,h,_,_=>absurd rfl h
 | _::_,0,_,_,h=>absurd h (by omega)
 | w::r,g+1,_,hw,hg=>by
  have h1:=hw w (by simp)
  have hl:0 < w.length:=List.length_pos_iff.2 h1.1
  have he:=wrd_app h1 (bh_sp r)
  unfold wordsP
  show (if wrd (w++sp r)=0 then none else if wrd (w++sp r)=(w++sp r).length then some [w++sp r] else (wordsP g ((w++sp r).drop (wrd (w++sp r)+1))).map fun x=>(w++sp r).take (wrd (w++sp r))::x)=_
  rw [he,if_neg (by omega)]
  cases r with
  | nil=>
   rw [if_pos (by simp [sp])]
   simp [sp]
  | cons v r=>
   have hj:jn (w::v::r)=w++sp (v::r):=rfl
   rw [hj,sp_cons] at hg
   rw [sp_cons,if_neg (by simp)]
   have hd:(w++32::jn (v::r)).drop (w.length+1)=jn (v::r):=by
    rw [List.drop_append,List.drop_of_length_le (by omega),show w.length+1 - w.length=1 by omega]
    rfl
   rw [hd,wordsP_jn (v::r) g (by simp) (fun x hx=>hw x (by simp at hx ⊢; exact .inr hx)) (by simp at hg; omega),List.take_left]
   rfl
theorem sp_okc:∀ ws:List (List UInt8),(∀ w∈ws,w.all okc=true)→(sp ws).all okc=true
 | [],_=>rfl
 | w::r,h=>by
  have:=sp_okc r (fun x hx=>h x (by simp [hx]))
  unfold sp at this ⊢
  rw [List.flatMap_cons,List.all_append,this,List.all_cons,h w (by simp)]
  rfl
theorem jn_okc {ws:List (List UInt8)} (h:∀ w∈ws,w.all okc=true):(jn ws).all okc=true:=by
 cases ws with
 | nil=>rfl
 | cons w r=>
  unfold jn
  rw [List.all_append,h w (by simp),sp_okc r (fun x hx=>h x (by simp [hx]))]
  rfl
structure Wk (w:List UInt8):Prop where
 wd:Wd w
 ok:w.all okc=true
theorem line_jn {ws:List (List UInt8)} (h0:ws≠[]) (hw:∀ w∈ws,Wk w) (hl:(jn ws).length≤240):lineE (jn ws)=0∧lineW (jn ws)=ws:=by
 have hp:=wordsP_jn ws ((jn ws).length+1) h0 (fun w h=>(hw w h).wd) (by omega)
 have ho:=jn_okc (fun w h=>(hw w h).ok)
 have hn:jn ws≠[]:=by
  match ws,h0,hw with
  | w::r,_,hw=>
   have:=(hw w (by simp)).wd.1
   unfold jn
   simp [this]
 unfold lineE lineW
 rw [if_neg (by omega),if_neg (by simp [ho]),if_neg hn,if_neg (by simp [hp]),if_neg (by simp [ho,hn]; omega),hp]
 exact ⟨rfl,rfl⟩
-- names
theorem nmL_ok {c:UInt8} (h:nmL c=true∨nmO c=true):c≠32∧c≠39∧okc c=true:=by
 have:∀ k:Fin 256,(nmL (UInt8.ofNat k.1)=true∨nmO (UInt8.ofNat k.1)=true)→UInt8.ofNat k.1≠32∧UInt8.ofNat k.1≠39∧okc (UInt8.ofNat k.1)=true:=by decide +kernel
 have h':=this ⟨c.toNat,c.toNat_lt⟩
 simp only [UInt8.ofNat_toNat] at h'
 exact h' h
theorem chkN_all:∀ (l:List UInt8) (i:Nat),chkN i l=true→∀ c∈l,nmL c=true∨nmO c=true
 | [],_,_=>by simp
 | a::r,i,h=>by
  rw [chkN_cons,Bool.and_eq_true,Bool.or_eq_true,Bool.and_eq_true] at h
  intro c hc
  rcases List.mem_cons.1 hc with rfl | hc
  ·exact h.1.imp id (fun x=>x.2)
  ·exact chkN_all r _ h.2 c hc
theorem nm_chars {w:List UInt8} (h:isNm w=true):w≠[]∧∀ c∈w,c≠32∧c≠39∧okc c=true:=by
 unfold isNm at h
 rw [Bool.and_eq_true,Bool.and_eq_true,decide_eq_true_eq,decide_eq_true_eq] at h
 refine ⟨?_,fun c hc=>nmL_ok (chkN_all w 0 h.2 c hc)⟩
 rintro rfl
 simp at h
theorem wk_of {w:List UInt8} (h0:w≠[]) (h:∀ c∈w,c≠32∧c≠39∧okc c=true):Wk w:=by
 refine ⟨⟨h0,.inl ⟨?_,fun hm=>(h _ hm).2.1 rfl,fun hm=>(h _ hm).1 rfl⟩⟩,List.all_eq_true.2 fun c hc=>(h c hc).2.2⟩
 match w,h0,h with
 | c::r,_,h=>exact (h c (by simp)).2.1
theorem nm_wk {w:List UInt8} (h:isNm w=true):Wk w:=wk_of (nm_chars h).1 (nm_chars h).2
theorem wk_isB {w:List UInt8} (h0:w≠[]) (h:∀ c∈w,c≠32∧c≠39∧okc c=true):isB w=true:=by
 match w,h0,h with
 | c::r,_,h=>
  have:=(h c (by simp)).2.1
  unfold isB
  simpa using this
theorem nm_isB {w:List UInt8} (h:isNm w=true):isB w=true:=wk_isB (nm_chars h).1 (nm_chars h).2
-- digits
theorem isD_ok {c:UInt8} (h:isD c=true):c≠32∧c≠39∧c≠45∧okc c=true:=by
 have:∀ k:Fin 256,isD (UInt8.ofNat k.1)=true→UInt8.ofNat k.1≠32∧UInt8.ofNat k.1≠39∧UInt8.ofNat k.1≠45∧okc (UInt8.ofNat k.1)=true:=by decide +kernel
 have h':=this ⟨c.toNat,c.toNat_lt⟩
 simp only [UInt8.ofNat_toNat] at h'
 exact h' h
theorem dig_ok {k:Nat} (h:k < 10):isD (UInt8.ofNat (48+k))=true∧(UInt8.ofNat (48+k)).toNat - 48=k∧(k≠0→UInt8.ofNat (48+k)≠48):=by
 have:∀ k:Fin 10,isD (UInt8.ofNat (48+k.1))=true∧(UInt8.ofNat (48+k.1)).toNat - 48=k.1∧(k.1≠0→UInt8.ofNat (48+k.1)≠48):=by decide +kernel
 exact this ⟨k,h⟩
theorem dec_ok:∀ (b k:Nat),k≤b→Lib.decDigits k≠[]∧(Lib.decDigits k).all isD=true∧valA 0 (Lib.decDigits k)=k∧(k≠0→(Lib.decDigits k).getD 0 0≠48)∧(k < 10→(Lib.decDigits k).length=1)
 | b,k,hb=>by
  by_cases hk:k < 10
  ·obtain ⟨d1,d2,d3⟩:=dig_ok hk
   rw [dec1 hk]
   refine ⟨by simp,by rw [List.all_cons,List.all_nil,d1]; rfl,?_,fun h=>d3 h,fun _=>rfl⟩
   show 0*10+((UInt8.ofNat (48+k)).toNat - 48)=k
   omega
  ·match b,hb with
   | 0,hb=>omega
   | b+1,hb=>
    obtain ⟨h1,h2,h3,h4,_⟩:=dec_ok b (k / 10) (by omega)
    obtain ⟨d1,d2,_⟩:=dig_ok (k:=k % 10) (by omega)
    rw [decS hk]
    refine ⟨by simp,by rw [List.all_append,List.all_cons,List.all_nil,h2,d1]; rfl,?_,fun _=>?_,fun h=>absurd h hk⟩
    ·rw [valA_snoc,h3,d2]; omega
    ·have:=h4 (by omega)
     match he:Lib.decDigits (k / 10),h1 with
     | c::r,_=>rw [he] at this; exact this
theorem dec_numD {k:Nat} (h:k < 10 ^ 15):numD (Lib.decDigits k)=true:=by
 obtain ⟨h1,h2,h3,h4,h5⟩:=dec_ok k k (Nat.le_refl _)
 have hl:=dec_len 14 k h
 rw [numD_iff]
 refine ⟨hl.1,hl.2,h2,?_⟩
 rintro ⟨a,b⟩
 by_cases h0:k=0
 ·have:=h5 (by omega); omega
 ·exact h4 h0 b
theorem dec_head (k:Nat):∃ c r,Lib.decDigits k=c::r∧isD c=true:=by
 obtain ⟨h1,h2,_⟩:=dec_ok k k (Nat.le_refl _)
 match he:Lib.decDigits k,h1 with
 | c::r,_=>
  rw [he,List.all_cons,Bool.and_eq_true] at h2
  exact ⟨c,r,rfl,h2.1⟩
theorem numP_itoa {k:Int} (h1 : -999999999999999≤k) (h2:k≤999999999999999):numP (Lib.itoa k)=some k:=by
 unfold Lib.itoa
 by_cases h:k < 0
 ·rw [if_pos h]
  have hb:bod (45::Lib.decDigits k.natAbs)=Lib.decDigits k.natAbs:=rfl
  have hs:sgn (45::Lib.decDigits k.natAbs)=true:=rfl
  obtain ⟨_,_,h3,_,_⟩:=dec_ok k.natAbs k.natAbs (Nat.le_refl _)
  unfold numP
  rw [hb,dec_numD (by omega),if_pos rfl,hs,if_pos rfl,h3]
  congr 1; omega
 ·rw [if_neg h]
  obtain ⟨c,r,hc,hd⟩:=dec_head k.toNat
  have hs:sgn (Lib.decDigits k.toNat)=false:=by
   rw [hc]
   have:=(isD_ok hd).2.2.1
   unfold sgn
   simpa using this
  have hb:bod (Lib.decDigits k.toNat)=Lib.decDigits k.toNat:=by unfold bod; rw [hs]; rfl
  obtain ⟨_,_,h3,_,_⟩:=dec_ok k.toNat k.toNat (Nat.le_refl _)
  unfold numP
  rw [hb,dec_numD (by omega),if_pos rfl,hs,h3]
  simp only [Bool.false_eq_true,if_false]
  congr 1; omega
theorem dec_chars (k:Nat):∀ c∈Lib.decDigits k,c≠32∧c≠39∧okc c=true:=by
 intro c hc
 have:=isD_ok (List.all_eq_true.1 (dec_ok k k (Nat.le_refl _)).2.1 c hc)
 exact ⟨this.1,this.2.1,this.2.2.2⟩
theorem itoa_chars (k:Int):Lib.itoa k≠[]∧∀ c∈Lib.itoa k,c≠32∧c≠39∧okc c=true:=by
 unfold Lib.itoa
 split
 ·refine ⟨by simp,fun c hc=>?_⟩
  rcases List.mem_cons.1 hc with rfl | hc
  ·decide
  ·exact dec_chars _ c hc
 ·exact ⟨(dec_ok _ _ (Nat.le_refl _)).1,dec_chars _⟩
theorem itoa_wk (k:Int):Wk (Lib.itoa k):=wk_of (itoa_chars k).1 (itoa_chars k).2
-- types
theorem lead_app:∀ (a:List UInt8) {c:UInt8} (r:List UInt8),a.all isD=true→isD c=false→lead (a++c::r)=a.length
 | [],c,r,_,hc=>by simp [lead,hc]
 | x::a,c,r,h,hc=>by
  simp only [List.all_cons,Bool.and_eq_true] at h
  have:=lead_app a r h.2 hc
  unfold lead at this ⊢
  rw [List.cons_append,List.takeWhile_cons,if_pos h.1,List.length_cons,List.length_cons,this]
theorem ltr_kd {k:Int} (h:k=0∨k=1∨k=2∨k=3):kd (ltr k)=k∧isD (ltr k)=false:=by
 rcases h with rfl | rfl | rfl | rfl <;> decide
theorem dec_num {k:Nat} (h:k < 1000):num3 (Lib.decDigits k)=true∧valD (Lib.decDigits k)=k:=by
 obtain ⟨h1,h2,h3,h4,h5⟩:=dec_ok k k (Nat.le_refl _)
 have hl:=dec_len 2 k h
 refine ⟨(num3_iff _).2 ⟨hl.1,hl.2,h2,?_⟩,h3⟩
 rintro ⟨a,b⟩
 by_cases h0:k=0
 ·have:=h5 (by omega); omega
 ·exact h4 h0 b
theorem typeP_text {k a b:Int} (hk:k=0∨k=1∨k=2∨k=3) (ha:0≤a) (ha2:a≤256) (hb:0≤b) (hb2:b≤15) (h0:k=0→b=0):typeP (tText k a b)=some (k,a,b):=by
 obtain ⟨x,rfl⟩:=Int.eq_ofNat_of_zero_le ha
 obtain ⟨y,rfl⟩:=Int.eq_ofNat_of_zero_le hb
 obtain ⟨e1,e2⟩:=ltr_kd hk
 obtain ⟨n1,n2⟩:=dec_num (k:=x) (by omega)
 obtain ⟨m1,m2⟩:=dec_num (k:=y) (by omega)
 have hall:=(dec_ok x x (Nat.le_refl _)).2.1
 have hlead:lead (tText k x y)=(Lib.decDigits x).length:=lead_app _ _ hall e2
 have ht:(tText k x y).take (Lib.decDigits x).length=Lib.decDigits x:=List.take_left ..
 have hd:(tText k x y).drop (Lib.decDigits x).length=ltr k::(if k=0 then [] else Lib.decDigits y):=List.drop_left ..
 unfold typeP
 rw [hlead,ht,if_pos n1,hd,n2]
 simp only [e1]
 by_cases hz:k=0
 ·have:=h0 hz
  rw [if_pos hz,if_pos hz,if_pos rfl,hz,this]
 ·rw [if_neg hz,if_neg hz,if_neg (by omega),if_pos m1,m2]
theorem tText_chars {k a b:Int} (hk:k=0∨k=1∨k=2∨k=3):tText k a b≠[]∧∀ c∈tText k a b,c≠32∧c≠39∧okc c=true:=by
 unfold tText
 refine ⟨by simp,fun c hc=>?_⟩
 simp only [List.mem_append,List.mem_singleton] at hc
 rcases hc with hc | rfl | hc
 ·exact dec_chars _ c hc
 ·rcases hk with rfl | rfl | rfl | rfl <;> decide
 ·split at hc
  ·simp at hc
  ·exact dec_chars _ c hc
-- values
theorem unq_dbl:∀ s:List UInt8,unq (dbl s)=s∧prd (dbl s)=true
 | []=>⟨rfl,rfl⟩
 | c::s=>by
  obtain ⟨h1,h2⟩:=unq_dbl s
  rw [dbl_cons]
  by_cases hc:c=39
  ·rw [if_pos hc]
   show unq (39::39::dbl s)=_∧prd (39::39::dbl s)=true
   rw [unq,if_pos rfl,prd,if_pos rfl,h1,h2,hc]
   exact ⟨rfl,rfl⟩
  ·rw [if_neg hc]
   show unq (c::dbl s)=_∧prd (c::dbl s)=true
   rw [unq_cons hc,prd_cons hc,h1]
   exact ⟨rfl,h2⟩
theorem valP_text {c:CN} (h1 : -999999999999999≤c.n) (h2:c.n≤999999999999999) (ho:c.n=0∨c.s=[]):valP (valT c)=some (c.n,c.s):=by
 unfold valP valT
 by_cases hs:c.s=[]
 ·rw [if_pos hs]
  have hb:=wk_isB (itoa_chars c.n).1 (itoa_chars c.n).2
  unfold isB at hb
  have h39:¬ (Lib.itoa c.n).getD 0 0=39:=by simpa using hb
  rw [if_neg h39,numP_itoa h1 h2,hs]
  rfl
 ·rw [if_neg hs]
  have hn:c.n=0:=ho.resolve_right hs
  have e:((qd c.s).drop 1).dropLast=dbl c.s:=by
   first | (unfold qd; simp; done) | (unfold qd; simpa using inner_eq (dbl c.s))
  rw [if_pos (by rfl),e,(unq_dbl c.s).1,hn]
theorem dbl_okc:∀ s:List UInt8,s.all okc=true→(dbl s).all okc=true
 | [],_=>rfl
 | c::s,h=>by
  rw [List.all_cons,Bool.and_eq_true] at h
  rw [dbl_cons,List.all_append,dbl_okc s h.2]
  split
  ·rfl
  ·simp [h.1]
theorem qd_wk {s:List UInt8} (h:s.all okc=true):Wk (qd s):=by
 refine ⟨⟨by simp [qd],.inr ⟨s,rfl⟩⟩,?_⟩
 unfold qd
 rw [List.all_append,List.all_append,dbl_okc s h]
 rfl
theorem valT_wk {c:CN} (h:c.s.all okc=true):Wk (valT c):=by
 unfold valT
 split
 ·exact itoa_wk _
 ·exact qd_wk h
end Go.Proofs.YtmpglmcjoelciaaGreatDoor.Ev
namespace Go.Proofs.YtmpglmcjoelciaaGreatDoor.Ev
open Go Go.Proofs Go.Proofs.Ev
set_option linter.unusedVariables false
set_option linter.unusedSimpArgs false
theorem jn_cons (w:List UInt8) (r:List (List UInt8)):jn (w::r)=w++sp r:=rfl
theorem sp_one (w:List UInt8) (r:List (List UInt8)):sp (w::r)=32::(w++sp r):=by rw [sp_cons,jn_cons]
theorem sp_nil:sp []=[]:=rfl
def uqw (b:Bool) (w:List UInt8):List (List UInt8):=if b then [w] else []
theorem head_jn (t nm:List UInt8) (uq:Bool):headT t nm uq=jn (t::nm::uqw uq [85,78,73,81,85,69]):=by
 unfold headT uqw
 cases uq <;> simp [jn_cons,sp_one,sp_nil]
theorem key_jn (k:KF):keyT k=jn ([75]::k.nm::uqw k.d [68,69,83,67,69,78,68]):=by
 unfold keyT uqw
 cases k.d <;> simp [jn_cons,sp_one,sp_nil]
theorem fmt_jn (fm:List UInt8):[82,32]++fm=jn [[82],fm]:=by simp [jn_cons,sp_one,sp_nil]
theorem bas_jn (w:List UInt8):basT w=jn [[66],w]:=by simp [basT,jn_cons,sp_one,sp_nil]
theorem join_jn (j:JP):joinT j=jn [[74],Lib.itoa j.fr,j.lf,Lib.itoa j.b,j.rt]:=by simp [joinT,jn_cons,sp_one,sp_nil]
theorem lf_jn (f:LF):lfT f=jn [[70],f.nm,Lib.itoa f.b,f.fd]:=by simp [lfT,jn_cons,sp_one,sp_nil]
theorem fld_jn (f:FD):fldT f=jn [[70],f.nm,tText f.k f.l f.s]:=by simp [fldT,jn_cons,sp_one,sp_nil]
def cwA:List CN→List (List UInt8)
 | []=>[]
 | c::r=>[65,78,68]::c.fd::opT c.op::valT c::cwA r
def cw:List CN→List (List UInt8)
 | []=>[]
 | c::r=>c.fd::opT c.op::valT c::cwA r
theorem cndT_sp (c:CN):cndT c=sp [c.fd,opT c.op,valT c]:=by simp [cndT,sp_one,sp_nil]
theorem cndsT_sp:∀ (cs:List CN) (i:Nat),cndsT (i+1) cs=sp (cwA cs)
 | [],_=>rfl
 | c::r,i=>by
  rw [cndsT_cons,if_pos (by omega),cndsT_sp r (i+1),cndT_sp]
  show _=sp ([[65,78,68],c.fd,opT c.op,valT c]++cwA r)
  rw [sp_app]
  simp [sp_one,sp_nil]
theorem cndsT0_sp (cs:List CN):cndsT 0 cs=sp (cw cs):=by
 cases cs with
 | nil=>rfl
 | cons c r=>
  rw [cndsT_cons,if_neg (by omega),cndsT_sp r 0,cndT_sp]
  show _=sp ([c.fd,opT c.op,valT c]++cwA r)
  rw [sp_app]
  simp
def rkw (b:Bool):List UInt8:=if b then [79] else [83]
theorem rule_jn (r:RL):ruleT r=jn (rkw r.om::cw r.cs):=by
 unfold ruleT rkw
 rw [cndsT0_sp,jn_cons]
structure CW (c:CN):Prop where
 fd:isNm c.fd=true
 o0:0≤c.op
 o1:c.op≤5
 n0 : -999999999999999≤c.n
 n1:c.n≤999999999999999
 one:c.n=0∨c.s=[]
 ok:c.s.all okc=true
theorem op_ok {o:Int} (h0:0≤o) (h1:o≤5):opP (opT o)=some o∧Wk (opT o):=by
 have:∀ k:Fin 6,opP (opT (k.1:Int))=some (k.1:Int)∧opT (k.1:Int)≠[]∧∀ c∈opT (k.1:Int),c≠32∧c≠39∧okc c=true:=by decide
 obtain ⟨a,b,c⟩:=this ⟨o.toNat,by omega⟩
 simp only [show ((o.toNat:Nat):Int)=o by omega] at a b c
 exact ⟨a,wk_of b c⟩
theorem cnd1_ok {c:CN} (h:CW c):cnd1 c.fd (opT c.op) (valT c)=some c:=by
 unfold cnd1
 rw [nm_isB h.fd,if_pos rfl,(op_ok h.o0 h.o1).1,Option.bind_some,valP_text h.n0 h.n1 h.one]
 rfl
theorem cndP_cw:∀ cs:List CN,(∀ c∈cs,CW c)→cndP (cw cs)=some cs
 | [],_=>rfl
 | [c],h=>by
  show cndP [c.fd,opT c.op,valT c]=_
  unfold cndP
  rw [cnd1_ok (h c (by simp))]
  rfl
 | c::d::r,h=>by
  have ih:=cndP_cw (d::r) (fun x hx=>h x (by simp at hx ⊢; rcases hx with hx | hx <;> simp [hx]))
  show cndP (c.fd::opT c.op::valT c::[65,78,68]::d.fd::opT d.op::valT d::cwA r)=_
  unfold cndP
  rw [if_pos rfl,cnd1_ok (h c (by simp)),Option.bind_some]
  have e:d.fd::opT d.op::valT d::cwA r=cw (d::r):=rfl
  rw [e,ih]
  rfl
theorem wk_lit {w:List UInt8} (h:w≠[]∧∀ c∈w,c≠32∧c≠39∧okc c=true):Wk w:=wk_of h.1 h.2
theorem cwA_wk:∀ cs:List CN,(∀ c∈cs,CW c)→∀ w∈cwA cs,Wk w
 | [],_=>by simp [cwA]
 | c::r,h=>by
  have hc:=h c (by simp)
  intro w hw
  unfold cwA at hw
  simp only [List.mem_cons] at hw
  rcases hw with rfl | rfl | rfl | rfl | hw
  ·exact wk_lit (by decide)
  ·exact nm_wk hc.fd
  ·exact (op_ok hc.o0 hc.o1).2
  ·exact valT_wk hc.ok
  ·exact cwA_wk r (fun x hx=>h x (by simp [hx])) w hw
theorem cw_wk (cs:List CN) (h:∀ c∈cs,CW c):∀ w∈cw cs,Wk w:=by
 intro w hw
 cases cs with
 | nil=>simp [cw] at hw
 | cons c r=>
  refine cwA_wk (c::r) h w ?_
  unfold cw at hw
  unfold cwA
  exact List.mem_cons_of_mem _ hw
-- what is read of each
theorem uqw_wk {b:Bool} {w:List UInt8} (h:Wk w):∀ x∈uqw b w,Wk x:=by
 unfold uqw
 cases b
 ·simp
 ·simpa using h
def Says1 (T:List UInt8) (c:Int) (Q:SR→Prop) (f:SR→SR):Prop:=
 lineE T=0∧∃ k r,lineW T=k::r∧plc k=c∧∀ s,Q s→disp s c (k::r)=some (f s)∧Q (f s)
def isL (s:SR):Prop:=s.lg=true
def isP (s:SR):Prop:=s.lg=false
def aW (s:SR) (w:List UInt8):SR:={ s with l:={ s.l with ws:=s.l.ws++[w] } }
def aJ (s:SR) (j:JP):SR:={ s with l:={ s.l with js:=s.l.js++[j] } }
def aF (s:SR) (f:LF):SR:={ s with l:={ s.l with fs:=s.l.fs++[f] } }
def aD (s:SR) (f:FD):SR:={ s with g:={ s.g with ds:=s.g.ds++[f] } }
theorem addKey_lg (s:SR) (k:KF):(addKey s k).lg=s.lg:=by unfold addKey; split <;> rfl
theorem says_W {w:List UInt8} (h:isNm w=true):Says1 (basT w) 1 isL (fun s=>aW s w):=by
 have hl:=nm_len h
 obtain ⟨e1,e2⟩:=line_jn (ws:=[[66],w]) (by simp) (by
  intro x hx
  simp only [List.mem_cons,List.not_mem_nil,or_false] at hx
  rcases hx with rfl | rfl
  ·exact wk_lit (by decide)
  ·exact nm_wk h) (by simp [jn_cons,sp_one,sp_nil]; omega)
 rw [← bas_jn] at e1 e2
 refine ⟨e1,_,_,e2,by decide,fun s hs=>⟨?_,hs⟩⟩
 show (if (s.lg&&isB w)=true then some (aW s w) else none)=some (aW s w)
 exact if_pos (by rw [show s.lg=true from hs,nm_isB h]; rfl)
theorem says_J {j:JP} (h1:isNm j.lf=true) (h2:isNm j.rt=true) (f0:0≤j.fr) (f1:j.fr≤1000) (b0:0≤j.b) (b1:j.b≤1000):Says1 (joinT j) 2 isL (fun s=>aJ s j):=by
 have hl:=nm_len h1
 have hr:=nm_len h2
 have i1:=itoa_len j.fr (by omega) (by omega)
 have i2:=itoa_len j.b (by omega) (by omega)
 obtain ⟨e1,e2⟩:=line_jn (ws:=[[74],Lib.itoa j.fr,j.lf,Lib.itoa j.b,j.rt]) (by simp) (by
  intro x hx
  simp only [List.mem_cons,List.not_mem_nil,or_false] at hx
  rcases hx with rfl | rfl | rfl | rfl | rfl
  ·exact wk_lit (by decide)
  ·exact itoa_wk _
  ·exact nm_wk h1
  ·exact itoa_wk _
  ·exact nm_wk h2) (by simp [jn_cons,sp_one,sp_nil]; omega)
 rw [← join_jn] at e1 e2
 refine ⟨e1,_,_,e2,by decide,fun s hs=>⟨?_,hs⟩⟩
 show (if (s.lg&&(isB j.lf&&isB j.rt))=true then (numP (Lib.itoa j.fr)).bind fun x=>(numP (Lib.itoa j.b)).map fun y=>aJ s ⟨x,j.lf,y,j.rt⟩ else none)=some (aJ s j)
 rw [if_pos (by rw [show s.lg=true from hs,nm_isB h1,nm_isB h2]; rfl),numP_itoa (by omega) (by omega),numP_itoa (by omega) (by omega)]
 rfl
theorem says_F {f:LF} (h1:isNm f.nm=true) (h2:isNm f.fd=true) (b0:0≤f.b) (b1:f.b≤1000):Says1 (lfT f) 3 isL (fun s=>aF s f):=by
 have hl:=nm_len h1
 have hr:=nm_len h2
 have i2:=itoa_len f.b (by omega) (by omega)
 obtain ⟨e1,e2⟩:=line_jn (ws:=[[70],f.nm,Lib.itoa f.b,f.fd]) (by simp) (by
  intro x hx
  simp only [List.mem_cons,List.not_mem_nil,or_false] at hx
  rcases hx with rfl | rfl | rfl | rfl
  ·exact wk_lit (by decide)
  ·exact nm_wk h1
  ·exact itoa_wk _
  ·exact nm_wk h2) (by simp [jn_cons,sp_one,sp_nil]; omega)
 rw [← lf_jn] at e1 e2
 refine ⟨e1,_,_,e2,by decide,fun s hs=>⟨?_,hs⟩⟩
 show (if (s.lg&&(isB f.nm&&isB f.fd))=true then (numP (Lib.itoa f.b)).map fun v=>aF s ⟨f.nm,v,f.fd⟩ else none)=some (aF s f)
 rw [if_pos (by rw [show s.lg=true from hs,nm_isB h1,nm_isB h2]; rfl),numP_itoa (by omega) (by omega)]
 rfl
theorem says_D {f:FD} (h1:isNm f.nm=true) (h2:chkT f.k f.l f.s=0) (h4:f.k≠4):Says1 (fldT f) 3 isP (fun s=>aD s f):=by
 have hl:=nm_len h1
 obtain ⟨a1,a2,a3,a4,a5,a6⟩:=chkT_ok h2 h4
 have tl:=tText_short (k:=f.k) (a:=f.l) (b:=f.s) (by omega) a3 a4 a5
 obtain ⟨e1,e2⟩:=line_jn (ws:=[[70],f.nm,tText f.k f.l f.s]) (by simp) (by
  intro x hx
  simp only [List.mem_cons,List.not_mem_nil,or_false] at hx
  rcases hx with rfl | rfl | rfl
  ·exact wk_lit (by decide)
  ·exact nm_wk h1
  ·exact wk_lit (tText_chars a1)) (by simp [jn_cons,sp_one,sp_nil]; omega)
 rw [← fld_jn] at e1 e2
 refine ⟨e1,_,_,e2,by decide,fun s hs=>⟨?_,hs⟩⟩
 show (if (!s.lg&&isB f.nm)=true then (typeP (tText f.k f.l f.s)).map fun t=>aD s ⟨f.nm,t.1,t.2.1,t.2.2⟩ else none)=some (aD s f)
 rw [if_pos (by rw [show s.lg=false from hs,nm_isB h1]; rfl),typeP_text a1 (by omega) a3 a4 a5 a6]
 rfl
theorem says_K {k:KF} (h:isNm k.nm=true) (b:Bool):Says1 (keyT k) 4 (fun s=>s.lg=b) (fun s=>addKey s k):=by
 have hl:=nm_len h
 obtain ⟨e1,e2⟩:=line_jn (ws:=[75]::k.nm::uqw k.d [68,69,83,67,69,78,68]) (by simp) (by
  intro x hx
  simp only [List.mem_cons] at hx
  rcases hx with rfl | rfl | hx
  ·exact wk_lit (by decide)
  ·exact nm_wk h
  ·exact uqw_wk (wk_lit (by decide)) x hx) (by unfold uqw; cases k.d <;> simp [jn_cons,sp_one,sp_nil] <;> omega)
 rw [← key_jn] at e1 e2
 refine ⟨e1,_,_,e2,by decide,fun s hs=>⟨?_,(addKey_lg s k).trans hs⟩⟩
 show stKey s ([75]::k.nm::uqw k.d [68,69,83,67,69,78,68])=_
 obtain ⟨knm,kd⟩:=k
 cases kd
 ·show (if isB knm=true then some (addKey s ⟨knm,false⟩) else none)=_
  exact if_pos (nm_isB h)
 ·show (if (isB knm&&decide (([68,69,83,67,69,78,68]:List UInt8)=[68,69,83,67,69,78,68]))=true then some (addKey s ⟨knm,true⟩) else none)=_
  exact if_pos (by rw [nm_isB h]; rfl)
theorem says_R {r:RL} (h:∀ c∈r.cs,CW c) (hl:(ruleT r).length≤240):Says1 (ruleT r) 5 isL (fun s=>addR s r):=by
 rw [rule_jn] at hl
 obtain ⟨e1,e2⟩:=line_jn (ws:=rkw r.om::cw r.cs) (by simp) (by
  intro x hx
  simp only [List.mem_cons] at hx
  rcases hx with rfl | hx
  ·unfold rkw
   split <;> exact wk_lit (by decide)
  ·exact cw_wk _ h x hx) hl
 rw [← rule_jn] at e1 e2
 refine ⟨e1,_,_,e2,by unfold rkw; split <;> decide,fun s hs=>⟨?_,hs⟩⟩
 show (if s.lg=true then (cndP (cw r.cs)).map fun cs=>addR s ⟨decide (rkw r.om=[79]),cs⟩ else none)=_
 rw [if_pos (show s.lg=true from hs),cndP_cw _ h]
 obtain ⟨om,cs⟩:=r
 cases om <;> rfl
theorem head_says {t nm:List UInt8} (uq:Bool) (ht:t=[80,70]∨t=[76,70]) (h:isNm nm=true):lineE (headT t nm uq)=0∧stHead zS (lineW (headT t nm uq))=hd1 zS t nm uq:=by
 have hl:=nm_len h
 have htl:t.length=2:=by rcases ht with rfl | rfl <;> rfl
 obtain ⟨e1,e2⟩:=line_jn (ws:=t::nm::uqw uq [85,78,73,81,85,69]) (by simp) (by
  intro x hx
  simp only [List.mem_cons] at hx
  rcases hx with rfl | rfl | hx
  ·rcases ht with rfl | rfl <;> exact wk_lit (by decide)
  ·exact nm_wk h
  ·exact uqw_wk (wk_lit (by decide)) x hx) (by unfold uqw; cases uq <;> simp [jn_cons,sp_one,sp_nil] <;> omega)
 rw [← head_jn] at e1 e2
 refine ⟨e1,?_⟩
 rw [e2]
 unfold uqw
 cases uq
 ·show (if isB nm=true then hd1 zS t nm false else none)=_
  exact if_pos (nm_isB h)
 ·show (if (isB nm&&decide (([85,78,73,81,85,69]:List UInt8)=[85,78,73,81,85,69]))=true then hd1 zS t nm true else none)=_
  exact if_pos (by rw [nm_isB h]; rfl)
theorem fmt_says {fm:List UInt8} (h:isNm fm=true):lineE ([82,32]++fm)=0∧lineW ([82,32]++fm)=[[82],fm]:=by
 have hl:=nm_len h
 have:=line_jn (ws:=[[82],fm]) (by simp) (by
  intro x hx
  simp only [List.mem_cons,List.not_mem_nil,or_false] at hx
  rcases hx with rfl | rfl
  ·exact wk_lit (by decide)
  ·exact nm_wk h) (by simp [jn_cons,sp_one,sp_nil]; omega)
 rw [← fmt_jn] at this
 exact this
end Go.Proofs.YtmpglmcjoelciaaGreatDoor.Ev
namespace Go.Proofs.YtmpglmcjoelciaaGreatDoor.Ev
open Go Go.Proofs Go.Proofs.Ev
set_option linter.unusedVariables false
section
variable {n:Nat} {nm fm:ByteArray} {ws:List (List UInt8)} {fs:List LF} {js:List JP} {ks:List KF} {uq:Bool} {rs:List RL}
theorem fewKeys_l (hk:ks.length≤1000):∀ (d i m:Nat),i+d=ks.length→d < m→∃ b,Q2k.l n m (.z2 (ks.map KF.av) i)=some b
 | _,_,0,_,h=>absurd h (by omega)
 | 0,i,m+1,h,_=>by
  rw [Q2k.at2]
  unfold Q2k.r2
  simp only [List.length_map]
  exact ⟨true,by rw [cond_f (by omega)]⟩
 | d+1,i,m+1,h,hm=>by
  have hi:i < ks.length:=by omega
  obtain ⟨b,ih⟩:=fewKeys_l hk d (i+1) m (by omega) (by omega)
  rw [Q2k.at2]
  unfold Q2k.r2
  simp only [List.length_map]
  rw [cond_t (by omega),within_t hi,cond_true,at_map KF.av hi]
  show ∃ b,(bif decide ((((bs ks[i].nm).size:Nat):Int) > 100) then some false else Q2k.l n m (.z2 (ks.map KF.av) (IntKind.i64.wrap ((i:Int)+1))))=some b
  rw [wsucc (by omega),ih]
  cases decide ((((bs ks[i].nm).size:Nat):Int) > 100)
  ·exact ⟨b,rfl⟩
  ·exact ⟨false,rfl⟩
def fewC (rs:List RL) (i:Nat):Prop:=∀ k (h:k < rs.length),i≤k→rs[k].cs.length≤8
theorem few19 (hr:rs.length≤1000):∀ (d i m:Nat),i+d=rs.length→20*d < m→∃ b,Q2i.l n m (.z19 i nm fm (Ws ws) (fs.map LF.av) (js.map JP.av) (ks.map KF.av) uq (rs.map RL.av))=some b∧(b=true→fewC rs i)
 | 0,i,m,h,hm=>by
  obtain ⟨m,rfl⟩ : ∃ q,m=q+1:=⟨m - 1,by omega⟩
  rw [Q2i.at19]
  unfold Q2i.r19
  simp only [List.length_map]
  exact ⟨true,by rw [cond_f (by omega)],fun _ k hk hik=>absurd hk (by omega)⟩
 | d+1,i,m,h,hm=>by
  obtain ⟨m,rfl⟩ : ∃ q,m=q+1:=⟨m - 1,by omega⟩
  have hi:i < rs.length:=by omega
  have inner:∀ (e j q:Nat),rs[i].cs.length≤8→j+e=rs[i].cs.length→20*d+2+e≤q→∃ b,Q2i.l n q (.z24 i j nm fm (Ws ws) (fs.map LF.av) (js.map JP.av) (ks.map KF.av) uq (rs.map RL.av))=some b∧(b=true→fewC rs (i+1)):=by
   intro e
   induction e with
   | zero=>
    intro j q h8 hj hq
    obtain ⟨q,rfl⟩ : ∃ r,q=r+1:=⟨q - 1,by omega⟩
    obtain ⟨b,h1,h2⟩:=few19 hr d (i+1) q (by omega) (by omega)
    refine ⟨b,?_,h2⟩
    rw [Q2i.at24]
    unfold Q2i.r24
    simp only [List.length_map]
    rw [within_t hi,cond_true,at_map RL.av hi]
    show (bif decide ((j:Int) < (((rs[i].cs.map CN.av).length:Nat):Int)) then _ else _)=_
    rw [List.length_map,cond_f (by omega),wsucc (by omega)]
    exact h1
   | succ e ih=>
    intro j q h8 hj hq
    obtain ⟨q,rfl⟩ : ∃ r,q=r+1:=⟨q - 1,by omega⟩
    have hjl:j < rs[i].cs.length:=by omega
    obtain ⟨b,h1,h2⟩:=ih (j+1) q h8 (by omega) (by omega)
    rw [Q2i.at24]
    unfold Q2i.r24
    simp only [List.length_map]
    rw [within_t hi,cond_true,at_map RL.av hi]
    show ∃ b,(bif decide ((j:Int) < (((rs[i].cs.map CN.av).length:Nat):Int)) then (bif true then (bif decide ((0:Int)≤(j:Int))&&decide ((j:Int) < (((rs[i].cs.map CN.av).length:Nat):Int)) then
     (withCons (((rs[i].cs.map CN.av).getD (((j:Nat):Int)).toNat .undef).cells) fun h44 r45=>withStr h44 fun s46=>withCons r45 fun h47 r48=>withInt .i64 h47 fun x49=>withCons r48 fun h50 r51=>withInt .i64 h50 fun x52=>withCons r51 fun h53 r54=>withStr h53 fun s55=>
      bif decide (((s46.size:Nat):Int) > 100) then some false else (bif decide (((s55.size:Nat):Int) > 400) then some false else Q2i.l n q (.z24 i (IntKind.i64.wrap ((j:Int)+1)) nm fm (Ws ws) (fs.map LF.av) (js.map JP.av) (ks.map KF.av) uq (rs.map RL.av)))) else none) else none) else _)=some b∧_
    rw [List.length_map,cond_t (by omega),cond_true,within_t hjl,cond_true,at_map CN.av hjl]
    show ∃ b,(bif decide ((((bs rs[i].cs[j].fd).size:Nat):Int) > 100) then some false else (bif decide ((((bs rs[i].cs[j].s).size:Nat):Int) > 400) then some false else Q2i.l n q (.z24 i (IntKind.i64.wrap ((j:Int)+1)) nm fm (Ws ws) (fs.map LF.av) (js.map JP.av) (ks.map KF.av) uq (rs.map RL.av))))=some b∧_
    rw [wsucc (by omega),h1]
    cases decide ((((bs rs[i].cs[j].fd).size:Nat):Int) > 100)
    ·cases decide ((((bs rs[i].cs[j].s).size:Nat):Int) > 400)
     ·exact ⟨b,rfl,h2⟩
     ·exact ⟨false,rfl,nofun⟩
    ·exact ⟨false,rfl,nofun⟩
  rw [Q2i.at19]
  unfold Q2i.r19
  simp only [List.length_map]
  rw [cond_t (by omega),within_t hi,cond_true,at_map RL.av hi]
  show ∃ b,(bif decide ((((rs[i].cs.map CN.av).length:Nat):Int) > 8) then some false else Q2i.l n m (.z24 i 0 nm fm (Ws ws) (fs.map LF.av) (js.map JP.av) (ks.map KF.av) uq (rs.map RL.av)))=some b∧_
  rw [List.length_map]
  by_cases h8:rs[i].cs.length > 8
  ·exact ⟨false,by rw [cond_t (by omega)],nofun⟩
  ·obtain ⟨b,h1,h2⟩:=inner rs[i].cs.length 0 m (by omega) (by omega) (by omega)
   refine ⟨b,by rw [cond_f (by omega)]; exact h1,fun hb k hk hik=>?_⟩
   by_cases hki:k=i
   ·subst hki; omega
   ·exact h2 hb k hk (by omega)
theorem few14 (hj:js.length≤1000) (hr:rs.length≤1000):∀ (d i m:Nat),i+d=js.length→d+20002 < m→∃ b,Q2i.l n m (.z14 i nm fm (Ws ws) (fs.map LF.av) (js.map JP.av) (ks.map KF.av) uq (rs.map RL.av))=some b∧(b=true→fewC rs 0)
 | _,_,0,_,h=>absurd h (by omega)
 | 0,i,m+1,h,hm=>by
  rw [Q2i.at14]
  unfold Q2i.r14
  simp only [List.length_map]
  rw [cond_f (by omega)]
  exact few19 hr rs.length 0 m (by omega) (by omega)
 | d+1,i,m+1,h,hm=>by
  have hi:i < js.length:=by omega
  obtain ⟨b,h1,h2⟩:=few14 hj hr d (i+1) m (by omega) (by omega)
  rw [Q2i.at14]
  unfold Q2i.r14
  simp only [List.length_map]
  rw [cond_t (by omega),within_t hi,cond_true,at_map JP.av hi]
  show ∃ b,(bif decide ((((bs js[i].lf).size:Nat):Int) > 100) then some false else (bif true then (bif decide ((((bs js[i].rt).size:Nat):Int) > 100) then some false else Q2i.l n m (.z14 (IntKind.i64.wrap ((i:Int)+1)) nm fm (Ws ws) (fs.map LF.av) (js.map JP.av) (ks.map KF.av) uq (rs.map RL.av))) else none))=some b∧_
  rw [wsucc (by omega),h1,cond_true]
  cases decide ((((bs js[i].lf).size:Nat):Int) > 100)
  ·cases decide ((((bs js[i].rt).size:Nat):Int) > 100)
   ·exact ⟨b,rfl,h2⟩
   ·exact ⟨false,rfl,nofun⟩
  ·exact ⟨false,rfl,nofun⟩
theorem few9 (hf:fs.length≤1000) (hj:js.length≤1000) (hr:rs.length≤1000):∀ (d i m:Nat),i+d=fs.length→d+21004 < m→∃ b,Q2i.l n m (.z9 i nm fm (Ws ws) (fs.map LF.av) (js.map JP.av) (ks.map KF.av) uq (rs.map RL.av))=some b∧(b=true→fewC rs 0)
 | _,_,0,_,h=>absurd h (by omega)
 | 0,i,m+1,h,hm=>by
  rw [Q2i.at9]
  unfold Q2i.r9
  simp only [List.length_map]
  rw [cond_f (by omega)]
  exact few14 hj hr js.length 0 m (by omega) (by omega)
 | d+1,i,m+1,h,hm=>by
  have hi:i < fs.length:=by omega
  obtain ⟨b,h1,h2⟩:=few9 hf hj hr d (i+1) m (by omega) (by omega)
  rw [Q2i.at9]
  unfold Q2i.r9
  simp only [List.length_map]
  rw [cond_t (by omega),within_t hi,cond_true,at_map LF.av hi]
  show ∃ b,(bif decide ((((bs fs[i].nm).size:Nat):Int) > 100) then some false else (bif true then (bif decide ((((bs fs[i].fd).size:Nat):Int) > 100) then some false else Q2i.l n m (.z9 (IntKind.i64.wrap ((i:Int)+1)) nm fm (Ws ws) (fs.map LF.av) (js.map JP.av) (ks.map KF.av) uq (rs.map RL.av))) else none))=some b∧_
  rw [wsucc (by omega),h1,cond_true]
  cases decide ((((bs fs[i].nm).size:Nat):Int) > 100)
  ·cases decide ((((bs fs[i].fd).size:Nat):Int) > 100)
   ·exact ⟨b,rfl,h2⟩
   ·exact ⟨false,rfl,nofun⟩
  ·exact ⟨false,rfl,nofun⟩
theorem few4 (hw:ws.length≤1000) (hf:fs.length≤1000) (hj:js.length≤1000) (hr:rs.length≤1000):∀ (d i m:Nat),i+d=ws.length→d+22006 < m→∃ b,Q2i.l n m (.z4 i nm fm (Ws ws) (fs.map LF.av) (js.map JP.av) (ks.map KF.av) uq (rs.map RL.av))=some b∧(b=true→fewC rs 0)
 | _,_,0,_,h=>absurd h (by omega)
 | 0,i,m+1,h,hm=>by
  rw [Q2i.at4]
  unfold Q2i.r4
  simp only [Ws_length]
  rw [cond_f (by omega)]
  exact few9 hf hj hr fs.length 0 m (by omega) (by omega)
 | d+1,i,m+1,h,hm=>by
  have hi:i < ws.length:=by omega
  obtain ⟨b,h1,h2⟩:=few4 hw hf hj hr d (i+1) m (by omega) (by omega)
  rw [Q2i.at4]
  unfold Q2i.r4
  simp only [Ws_length]
  rw [cond_t (by omega),within_t hi,cond_true,Ws_getD hi]
  show ∃ b,(bif decide ((((bs ws[i]).size:Nat):Int) > 100) then some false else Q2i.l n m (.z4 (IntKind.i64.wrap ((i:Int)+1)) nm fm (Ws ws) (fs.map LF.av) (js.map JP.av) (ks.map KF.av) uq (rs.map RL.av)))=some b∧_
  rw [wsucc (by omega),h1]
  cases decide ((((bs ws[i]).size:Nat):Int) > 100)
  ·exact ⟨b,rfl,h2⟩
  ·exact ⟨false,rfl,nofun⟩
theorem few_eq (hn:30000≤n):∃ b,Q2i.F n nm fm (Ws ws) (fs.map LF.av) (js.map JP.av) (ks.map KF.av) uq (rs.map RL.av)=some b∧
  (b=true→ws.length≤8∧fs.length≤40∧js.length≤40∧ks.length≤40∧rs.length≤12∧fewC rs 0):=by
 obtain ⟨m,rfl⟩ : ∃ m,n=m+1:=⟨n - 1,by omega⟩
 have c2:Q2i.l (m+1) (m+1) .z2=some false:=rfl
 unfold Q2i.F Q2i.e
 simp only [c2,Ws_length,List.length_map]
 cases decide (((nm.size:Nat):Int) > 100)
 case true=>exact ⟨false,rfl,nofun⟩
 cases decide (((fm.size:Nat):Int) > 100)
 case true=>exact ⟨false,rfl,nofun⟩
 simp only [cond_false]
 by_cases h1:ws.length > 8
 ·exact ⟨false,by rw [cond_t (by omega)],nofun⟩
 by_cases h2:fs.length > 40
 ·exact ⟨false,by rw [cond_f (by omega),cond_t (by omega)],nofun⟩
 by_cases h3:js.length > 40
 ·exact ⟨false,by rw [cond_f (by omega),cond_f (by omega),cond_t (by omega)],nofun⟩
 by_cases h4:ks.length > 40
 ·exact ⟨false,by rw [cond_f (by omega),cond_f (by omega),cond_f (by omega),cond_t (by omega)],nofun⟩
 by_cases h5:rs.length > 12
 ·exact ⟨false,by rw [cond_f (by omega),cond_f (by omega),cond_f (by omega),cond_f (by omega),cond_t (by omega)],nofun⟩
 rw [cond_f (by omega),cond_f (by omega),cond_f (by omega),cond_f (by omega),cond_f (by omega)]
 obtain ⟨b,hb⟩ : ∃ b,Q2k.F (m+1) (ks.map KF.av)=some b:=by
  unfold Q2k.F Q2k.e
  exact fewKeys_l (by omega) ks.length 0 (m+1) (by omega) (by omega)
 rw [hb,Option.bind_some]
 cases b with
 | false=>exact ⟨false,rfl,nofun⟩
 | true=>
  obtain ⟨b,e1,e2⟩:=few4 (n:=m+1) (nm:=nm) (fm:=fm) (ws:=ws) (fs:=fs) (js:=js) (ks:=ks) (uq:=uq) (rs:=rs) (by omega) (by omega) (by omega) (by omega) ws.length 0 (m+1) (by omega) (by omega)
  exact ⟨b,e1,fun hb=>⟨by omega,by omega,by omega,by omega,by omega,e2 hb⟩⟩
end
theorem map_of {α:Type} (f:α→AV) (P:AV→Prop) (h:∀ y,P y→∃ a,y=f a):∀ xs:List AV,(∀ y∈xs,P y)→∃ l:List α,xs=l.map f
 | [],_=>⟨[],rfl⟩
 | x::xs,hx=>by
  obtain ⟨a,rfl⟩:=h x (hx x (by simp))
  obtain ⟨l,rfl⟩:=map_of f P h xs (fun y hy=>hx y (by simp [hy]))
  exact ⟨a::l,rfl⟩
theorem map_of' {α:Type} {f:α→AV} {P:AV→Prop} {xs:List AV} (hx:∀ y∈xs,P y) (h:∀ y,P y→∃ a,y=f a):∃ l:List α,xs=l.map f:=map_of f P h xs hx
end Go.Proofs.YtmpglmcjoelciaaGreatDoor.Ev
namespace Go.Proofs.YtmpglmcjoelciaaGreatDoor.Ev
open Go Go.Proofs Go.Proofs.Ev
set_option linter.unusedVariables false
set_option linter.unusedSimpArgs false
section
variable {n:Nat} {nm fm:ByteArray}
theorem fewFile_l (ds:List FD) (hd:ds.length≤1000) (ks:List KF) (hk:ks.length≤1000) (hn:1001≤n) (uq:Bool):∀ (d i m:Nat),i+d=ds.length→d < m→∃ b,Q2g.l n m (.z4 i nm fm (ds.map FD.av) (ks.map KF.av) uq)=some b
 | _,_,0,_,h=>absurd h (by omega)
 | 0,i,m+1,h,_=>by
  rw [Q2g.at4]
  unfold Q2g.r4
  obtain ⟨b,hb⟩ : ∃ b,Q2k.F n (ks.map KF.av)=some b:=by
   unfold Q2k.F Q2k.e
   exact fewKeys_l (by omega) ks.length 0 n (by omega) (by omega)
  simp (disch:=omega) only [Option.bind_some,Option.bind_none,cond_true,cond_false,Bool.not_true,Bool.not_false,List.length_map,Ws_length,bs_size,within_t,upto_t,wsucc,Int.toNat_natCast,at_mapN,Ws_getDN,cells_agg,cells_v,withCons_cons,withInt_mk,withStr_mk,withBool_mk,withSl_mk,cond_t,cond_f,hb]
  exact ⟨b,rfl⟩
 | d+1,i,m+1,h,hm=>by
  have hi:i < ds.length:=by omega
  obtain ⟨b,ih⟩:=fewFile_l ds hd ks hk hn uq d (i+1) m (by omega) (by omega)
  rw [Q2g.at4]
  unfold Q2g.r4
  simp (disch:=omega) only [Option.bind_some,Option.bind_none,cond_true,cond_false,Bool.not_true,Bool.not_false,List.length_map,Ws_length,bs_size,within_t,upto_t,wsucc,Int.toNat_natCast,at_mapN,Ws_getDN,cells_agg,cells_v,withCons_cons,withInt_mk,withStr_mk,withBool_mk,withSl_mk,cond_t,cond_f,FD.av,ih]
  cases decide ((ds[i].nm.length:Int) > 100)
  ·exact ⟨b,rfl⟩
  ·exact ⟨false,rfl⟩
theorem fewFile_eq (hn:1002≤n) (g:FL):∃ b,Q2g.F n (bs g.nm) (bs g.fm) (g.ds.map FD.av) (g.ks.map KF.av) g.uq=some b∧(b=true→g.few):=by
 obtain ⟨m,rfl⟩ : ∃ m,n=m+1:=⟨n - 1,by omega⟩
 have c2:Q2g.l (m+1) (m+1) .z2=some false:=rfl
 unfold Q2g.F Q2g.e
 simp only [c2,List.length_map]
 cases decide ((((bs g.nm).size:Nat):Int) > 100)
 case true=>exact ⟨false,rfl,nofun⟩
 cases decide ((((bs g.fm).size:Nat):Int) > 100)
 case true=>exact ⟨false,rfl,nofun⟩
 simp only [cond_false]
 by_cases h1:g.ds.length > 40
 ·exact ⟨false,by rw [cond_t (by omega)],nofun⟩
 by_cases h2:g.ks.length > 40
 ·exact ⟨false,by rw [cond_f (by omega),cond_t (by omega)],nofun⟩
 rw [cond_f (by omega),cond_f (by omega)]
 obtain ⟨b,hb⟩:=fewFile_l (n:=m+1) (nm:=bs g.nm) (fm:=bs g.fm) g.ds (by omega) g.ks (by omega) (by omega) g.uq g.ds.length 0 (m+1) (by omega) (by omega)
 exact ⟨b,hb,fun _=>⟨by omega,by omega⟩⟩
theorem ba_refl (x:ByteArray):(x==x)=true:=by
 cases x with
 | mk a=>exact beq_self_eq_true a
theorem sameFormat_l (ds:List FD) (hd:ds.length≤1000):∀ (d i m:Nat),i+d=ds.length→d < m→Q34.l n m (.z4 i nm (ds.map FD.av) fm (ds.map FD.av))=some true
 | _,_,0,_,h=>absurd h (by omega)
 | 0,i,m+1,h,_=>by
  rw [Q34.at4]
  unfold Q34.r4
  simp (disch:=omega) only [Option.bind_some,Option.bind_none,cond_true,cond_false,Bool.not_true,Bool.not_false,List.length_map,Ws_length,bs_size,within_t,upto_t,wsucc,Int.toNat_natCast,at_mapN,Ws_getDN,cells_agg,cells_v,withCons_cons,withInt_mk,withStr_mk,withBool_mk,withSl_mk,cond_t,cond_f]
 | d+1,i,m+1,h,hm=>by
  have hi:i < ds.length:=by omega
  have ih:=sameFormat_l ds hd d (i+1) m (by omega) (by omega)
  rw [Q34.at4]
  unfold Q34.r4
  simp (disch:=omega) only [Option.bind_some,Option.bind_none,cond_true,cond_false,Bool.not_true,Bool.not_false,List.length_map,Ws_length,bs_size,within_t,upto_t,wsucc,Int.toNat_natCast,at_mapN,Ws_getDN,cells_agg,cells_v,withCons_cons,withInt_mk,withStr_mk,withBool_mk,withSl_mk,cond_t,cond_f,FD.av,ba_refl,beq_self_eq_true,Bool.and_self,ih]
theorem sameFormat_eq (hn:1001≤n) (x:ByteArray) (ds:List FD) (hd:ds.length≤1000):Q34.F n x (ds.map FD.av) x (ds.map FD.av)=some true:=by
 unfold Q34.F Q34.e
 have hb:((((ds.map FD.av).length:Nat):Int) != (((ds.map FD.av).length:Nat):Int))=false:=by simp
 simp (disch:=omega) only [Option.bind_some,Option.bind_none,cond_true,cond_false,Bool.not_true,Bool.not_false,List.length_map,Ws_length,bs_size,within_t,upto_t,wsucc,Int.toNat_natCast,at_mapN,Ws_getDN,cells_agg,cells_v,withCons_cons,withInt_mk,withStr_mk,withBool_mk,withSl_mk,cond_t,cond_f,beq_self_eq_true,hb]
 have hb:(((ds.length:Nat):Int) != ((ds.length:Nat):Int))=false:=by simp
 simp (disch:=omega) only [Option.bind_some,Option.bind_none,cond_true,cond_false,Bool.not_true,Bool.not_false,List.length_map,Ws_length,bs_size,within_t,upto_t,wsucc,Int.toNat_natCast,at_mapN,Ws_getDN,cells_agg,cells_v,withCons_cons,withInt_mk,withStr_mk,withBool_mk,withSl_mk,cond_t,cond_f,hb]
 exact sameFormat_l ds hd ds.length 0 n (by omega) (by omega)
end
end Go.Proofs.YtmpglmcjoelciaaGreatDoor.Ev
namespace Go.Proofs.YtmpglmcjoelciaaGreatDoor.Ev
open Go Go.Proofs Go.Proofs.Ev
set_option linter.unusedVariables false
set_option linter.unusedSimpArgs false
section
variable {n:Nat} {lg:Bool} {g:FL} {l:LG}
theorem head_len {t nm:List UInt8} {uq:Bool} (ht:t.length≤2) (hn:nm.length≤10):(headT t nm uq).length≤240:=by
 unfold headT
 split <;> simp only [List.length_append,List.length_cons,List.length_nil] <;> omega
theorem strs_l (ws:List (List UInt8)) (hw:ws.length≤100000):∀ (d i m:Nat),i+d=ws.length→d < m→Q1y.l n m (.z4 (Ws ws) (Ws ws) i)=some true
 | _,_,0,_,h=>absurd h (by omega)
 | 0,i,m+1,h,_=>by
  rw [Q1y.at4]
  unfold Q1y.r4
  simp (disch:=omega) only [Option.bind_some,Option.bind_none,cond_true,cond_false,Bool.not_true,Bool.not_false,List.length_map,Ws_length,bs_size,within_t,upto_t,wsucc,Int.toNat_natCast,at_mapN,Ws_getDN,cells_agg,cells_v,withCons_cons,withInt_mk,withStr_mk,withBool_mk,withSl_mk,cond_t,cond_f]
 | d+1,i,m+1,h,hm=>by
  have hi:i < ws.length:=by omega
  have ih:=strs_l ws hw d (i+1) m (by omega) (by omega)
  rw [Q1y.at4]
  unfold Q1y.r4
  simp (disch:=omega) only [Option.bind_some,Option.bind_none,cond_true,cond_false,Bool.not_true,Bool.not_false,List.length_map,Ws_length,bs_size,within_t,upto_t,wsucc,Int.toNat_natCast,at_mapN,Ws_getDN,cells_agg,cells_v,withCons_cons,withInt_mk,withStr_mk,withBool_mk,withSl_mk,cond_t,cond_f,beq_self_eq_true]
  exact ih
theorem strs_eq (hn:100002≤n) (ws:List (List UInt8)) (hw:ws.length≤100000):Q1y.F n (Ws ws) (Ws ws)=some true:=by
 unfold Q1y.F Q1y.e
 simp only [bne_self_eq_false,cond_false]
 exact strs_l ws hw ws.length 0 n (by omega) (by omega)
theorem fewSrc_eq (hn:30000≤n):∃ b,Q2m.F n lg (bs g.nm) (bs g.fm) (g.ds.map FD.av) (g.ks.map KF.av) g.uq (bs l.nm) (bs l.fm) (Ws l.ws) (l.fs.map LF.av) (l.js.map JP.av) (l.ks.map KF.av) l.uq (l.rs.map RL.av)=some b∧(b=true→Few g l):=by
 unfold Q2m.F Q2m.e
 obtain ⟨b,h1,h2⟩:=fewFile_eq (n:=n) (by omega) g
 obtain ⟨c,h3,h4⟩:=few_eq (n:=n) (nm:=bs l.nm) (fm:=bs l.fm) (ws:=l.ws) (fs:=l.fs) (js:=l.js) (ks:=l.ks) (uq:=l.uq) (rs:=l.rs) (by omega)
 rw [h1,Option.bind_some]
 cases b
 ·exact ⟨false,rfl,nofun⟩
 ·rw [cond_true,h3,Option.bind_some]
  refine ⟨c,rfl,fun hc=>?_⟩
  obtain ⟨b1,b2,b3,b4,b5,b6⟩:=h4 hc
  obtain ⟨c1,c2⟩:=h2 rfl
  refine ⟨c1,c2,by omega,by omega,by omega,by omega,by omega,?_⟩
  intro r hr
  obtain ⟨k,hk,rfl⟩:=List.getElem_of_mem hr
  have:=b6 k hk (by omega)
  omega
theorem ownSrc_eq (hn:1002≤n) (hf:Few g l):Q31.F n lg (bs g.nm) (bs g.fm) (g.ds.map FD.av) (g.ks.map KF.av) g.uq (bs l.nm) (bs l.fm) (Ws l.ws) (l.fs.map LF.av) (l.js.map JP.av) (l.ks.map KF.av) l.uq (l.rs.map RL.av) =
  some (lg,bs g.nm,bs g.fm,g.ds.map FD.av,g.ks.map KF.av,g.uq,bs l.nm,bs l.fm,Ws l.ws,l.fs.map LF.av,l.js.map JP.av,l.ks.map KF.av,l.uq,l.rs.map RL.av):=by
 have hmost:most=1000000000:=rfl
 have h1:=hf.ds
 have h2:=hf.ks
 unfold Q31.F Q31.e Q2y.F Q2y.e
 rw [own_eq (by omega) hf.lw hf.lf hf.lj hf.lk hf.lr hf.lc]
 simp (disch:=omega) only [Option.bind_some,Option.bind_none,cond_true,cond_false,Bool.not_true,Bool.not_false,List.length_map,Ws_length,bs_size,within_t,upto_t,wsucc,Int.toNat_natCast,at_mapN,Ws_getDN,cells_agg,cells_v,withCons_cons,withInt_mk,withStr_mk,withBool_mk,withSl_mk,cond_t,cond_f]
end
end Go.Proofs.YtmpglmcjoelciaaGreatDoor.Ev
namespace Go.Proofs.YtmpglmcjoelciaaGreatDoor.Ev
open Go Go.Proofs Go.Proofs.Ev
set_option linter.unusedVariables false
set_option linter.unusedSimpArgs false
theorem parseL_cons (L:Nat) (x:List UInt8) (r:List (List UInt8)) (s:SR) (p i:Int):parseL L (x::r) s p i=if lineE x≠0 then (zS,i,lineE x) else match (if p=0 then stHead s (lineW x) else stLine s (p - 1) (lineW x)) with
  | none=>(zS,i,8)
  | some s'=>parseL L r s' (if p=0 then 1 else nextP (lineW x)+1) (i+1):=by
 first | (rw [parseL]; rfl) | rw [parseL]
theorem pl_many {α:Type} (L:Nat) (T:α→List UInt8) (add:SR→α→SR) (Q:SR→Prop) {c:Int} (hc:1≤c) (hc5:c≤5) (rest:List (List UInt8)):∀ (xs:List α) (s:SR) (p i:Int),(∀ x∈xs,Says1 (T x) c Q fun s=>add s x)→Q s→2≤p→p≤c+1→
  ∃ p' i',2≤p'∧p'≤c+1∧Q (xs.foldl add s)∧parseL L (xs.map T++rest) s p i=parseL L rest (xs.foldl add s) p' i'
 | [],s,p,i,_,hq,h2,h3=>⟨p,i,h2,h3,hq,rfl⟩
 | x::xs,s,p,i,hx,hq,h2,h3=>by
  obtain ⟨e1,k,r,e2,e3,e4⟩:=hx x (by simp)
  obtain ⟨d1,d2⟩:=e4 s hq
  obtain ⟨p',i',a,b,q,e⟩:=pl_many L T add Q hc hc5 rest xs (add s x) (c+1) (i+1) (fun y hy=>hx y (by simp [hy])) d2 (by omega) (by omega)
  refine ⟨p',i',a,b,q,?_⟩
  rw [List.map_cons,List.cons_append,List.foldl_cons,← e]
  have hst:stLine s (p - 1) (k::r)=some (add s x):=by
   rw [stLine_cons,e3,if_neg (by omega),if_neg (by omega)]
   exact d1
  have hnp:nextP (k::r)+1=c+1:=by
   unfold nextP nxt
   simp only [e3]
   split <;> omega
  rw [parseL_cons,e1,e2,if_neg (by simp),if_neg (by omega),if_neg (by omega),hst,hnp]
theorem pl_two {L:Nat} {t nm fm:List UInt8} {uq:Bool} {rest:List (List UInt8)} {s1 s2:SR} (ht:t=[80,70]∨t=[76,70]) (h1:isNm nm=true) (h2:isNm fm=true) (e1:hd1 zS t nm uq=some s1) (e2:stFmt s1 [[82],fm]=some s2) :
  ∃ i,parseL L (headT t nm uq::([82,32]++fm)::rest) zS 0 0=parseL L rest s2 2 i:=by
 obtain ⟨a1,a2⟩:=head_says uq ht h1
 obtain ⟨b1,b2⟩:=fmt_says h2
 have hst:stLine s1 (1 - 1) [[82],fm]=some s2:=by
  rw [stLine_cons,show plc [82]=0 by decide,if_neg (by omega),if_neg (by omega)]
  exact e2
 rw [parseL_cons,a1,a2,if_neg (by simp),if_pos rfl,e1]
 simp only [if_true]
 rw [parseL_cons,b1,b2,if_neg (by simp),if_neg (by omega),if_neg (by omega),hst]
 exact ⟨_,rfl⟩
theorem pl_end {L:Nat} {s:SR} {p i:Int} (hp:2≤p) (he:srcE s.lg s.g s.l=0):parseL L [] s p i=(s,0,0):=by
 unfold parseL
 rw [if_neg (by omega),if_neg (by simp [he])]
theorem fold_aW:∀ (xs:List (List UInt8)) (s:SR),xs.foldl aW s={ s with l:={ s.l with ws:=s.l.ws++xs } }
 | [],s=>by simp
 | x::xs,s=>by rw [List.foldl_cons,fold_aW xs]; simp [aW]
theorem fold_aJ:∀ (xs:List JP) (s:SR),xs.foldl aJ s={ s with l:={ s.l with js:=s.l.js++xs } }
 | [],s=>by simp
 | x::xs,s=>by rw [List.foldl_cons,fold_aJ xs]; simp [aJ]
theorem fold_aF:∀ (xs:List LF) (s:SR),xs.foldl aF s={ s with l:={ s.l with fs:=s.l.fs++xs } }
 | [],s=>by simp
 | x::xs,s=>by rw [List.foldl_cons,fold_aF xs]; simp [aF]
theorem fold_aD:∀ (xs:List FD) (s:SR),xs.foldl aD s={ s with g:={ s.g with ds:=s.g.ds++xs } }
 | [],s=>by simp
 | x::xs,s=>by rw [List.foldl_cons,fold_aD xs]; simp [aD]
theorem fold_aR:∀ (xs:List RL) (s:SR),xs.foldl addR s={ s with l:={ s.l with rs:=s.l.rs++xs } }
 | [],s=>by simp
 | x::xs,s=>by rw [List.foldl_cons,fold_aR xs]; simp [addR]
theorem fold_aK1:∀ (xs:List KF) (s:SR),s.lg=true→xs.foldl addKey s={ s with l:={ s.l with ks:=s.l.ks++xs } }
 | [],s,_=>by simp
 | x::xs,s,h=>by rw [List.foldl_cons,fold_aK1 xs _ (by rw [addKey_lg]; exact h)]; simp [addKey,h]
theorem fold_aK0:∀ (xs:List KF) (s:SR),s.lg=false→xs.foldl addKey s={ s with g:={ s.g with ks:=s.g.ks++xs } }
 | [],s,_=>by simp
 | x::xs,s,h=>by rw [List.foldl_cons,fold_aK0 xs _ (by rw [addKey_lg]; exact h)]; simp [addKey,h]
theorem isZF_eq {g:FL} (h:isZF g=true):g=zG:=by
 obtain ⟨a,b,c,d,e⟩:=g
 unfold isZF at h
 simp only [Bool.and_eq_true,decide_eq_true_eq,Bool.not_eq_true'] at h
 obtain ⟨h1,h2,h3,h4,h5⟩:=h
 subst h1 h2 h5
 rw [List.eq_nil_of_length_eq_zero h3,List.eq_nil_of_length_eq_zero h4]
 rfl
theorem isZL_eq {l:LG} (h:isZL l=true):l=zL:=by
 obtain ⟨a,b,c,d,e,f,u,r⟩:=l
 unfold isZL at h
 simp only [Bool.and_eq_true,decide_eq_true_eq,Bool.not_eq_true'] at h
 obtain ⟨h1,h2,h3,h4,h5,h6,h7,h8⟩:=h
 subst h1 h2 h7
 rw [List.eq_nil_of_length_eq_zero h3,List.eq_nil_of_length_eq_zero h4,List.eq_nil_of_length_eq_zero h5,List.eq_nil_of_length_eq_zero h6,List.eq_nil_of_length_eq_zero h8]
 rfl
theorem back_pf {g:FL} (he:srcE false g zL=0) (L:Nat):parseL L (pfL g) zS 0 0=(⟨false,g,zL⟩,0,0):=by
 have hg:GOk g.nm g.fm g.ds g.ks:=fileE_ok he
 have e:pfL g=headT [80,70] g.nm g.uq::([82,32]++g.fm)::(g.ds.map fldT++(g.ks.map keyT++[])):=by simp [pfL]
 obtain ⟨i0,e0⟩:=pl_two (L:=L) (rest:=g.ds.map fldT++(g.ks.map keyT++[])) (uq:=g.uq) (s1:=⟨false,⟨g.nm,[],[],[],g.uq⟩,zL⟩) (s2:=⟨false,⟨g.nm,g.fm,[],[],g.uq⟩,zL⟩) (.inl rfl) hg.nm hg.fm rfl (if_pos (nm_isB hg.fm))
 rw [e,e0]
 obtain ⟨p1,i1,a1,b1,q1,e1⟩:=pl_many L fldT aD isP (c:=3) (by omega) (by omega) (g.ks.map keyT++[]) g.ds ⟨false,⟨g.nm,g.fm,[],[],g.uq⟩,zL⟩ 2 i0 (fun f hf=>says_D (hg.dso f hf).1 (hg.dso f hf).2.1 (hg.dso f hf).2.2) rfl (by omega) (by omega)
 obtain ⟨p2,i2,a2,b2,q2,e2⟩:=pl_many L keyT addKey isP (c:=4) (by omega) (by omega) [] g.ks (g.ds.foldl aD ⟨false,⟨g.nm,g.fm,[],[],g.uq⟩,zL⟩) p1 i1 (fun k hk=>says_K (hg.knm k hk) false) q1 a1 (by omega)
 have hs:g.ks.foldl addKey (g.ds.foldl aD ⟨false,⟨g.nm,g.fm,[],[],g.uq⟩,zL⟩)=⟨false,g,zL⟩:=by
  rw [fold_aK0 _ _ q1,fold_aD]
  simp
 rw [e1,e2,hs]
 exact pl_end a2 he
theorem back_lf {l:LG} (he:srcE true zG l=0) (hr:l.rs.all ruleOk=true) (hs:∀ r∈l.rs,(ruleT r).length≤240) (L:Nat):parseL L (lfL l++l.rs.map ruleT) zS 0 0=(⟨true,zG,l⟩,0,0):=by
 have hL:l.Ok:=chkL_ok he
 have hw1:=hL.w1
 have e:lfL l++l.rs.map ruleT=headT [76,70] l.nm l.uq::([82,32]++l.fm)::(l.ws.map basT++(l.js.map joinT++(l.fs.map lfT++(l.ks.map keyT++(l.rs.map ruleT++[]))))):=by simp [lfL]
 obtain ⟨i0,e0⟩:=pl_two (L:=L) (rest:=l.ws.map basT++(l.js.map joinT++(l.fs.map lfT++(l.ks.map keyT++(l.rs.map ruleT++[]))))) (uq:=l.uq) (s1:=⟨true,zG,⟨l.nm,[],[],[],[],[],l.uq,[]⟩⟩) (s2:=⟨true,zG,⟨l.nm,l.fm,[],[],[],[],l.uq,[]⟩⟩) (.inr rfl) hL.nm hL.fm rfl (if_pos (nm_isB hL.fm))
 rw [e,e0]
 obtain ⟨p1,i1,a1,b1,q1,e1⟩:=pl_many L basT aW isL (c:=1) (by omega) (by omega) (l.js.map joinT++(l.fs.map lfT++(l.ks.map keyT++(l.rs.map ruleT++[])))) l.ws ⟨true,zG,⟨l.nm,l.fm,[],[],[],[],l.uq,[]⟩⟩ 2 i0 (fun w hw=>says_W (hL.wsn w hw)) rfl (by omega) (by omega)
 obtain ⟨p2,i2,a2,b2,q2,e2⟩:=pl_many L joinT aJ isL (c:=2) (by omega) (by omega) (l.fs.map lfT++(l.ks.map keyT++(l.rs.map ruleT++[]))) l.js _ p1 i1 (fun j hj=>by
  obtain ⟨x1,x2,x3,x4,x5,x6⟩:=hL.jso j hj
  exact says_J x5 x6 x3 (by omega) (by omega) (by omega)) q1 a1 (by omega)
 obtain ⟨p3,i3,a3,b3,q3,e3⟩:=pl_many L lfT aF isL (c:=3) (by omega) (by omega) (l.ks.map keyT++(l.rs.map ruleT++[])) l.fs _ p2 i2 (fun f hf=>by
  obtain ⟨x1,x2,x3,x4⟩:=hL.fso f hf
  exact says_F x1 x4 x2 (by omega)) q2 a2 (by omega)
 obtain ⟨p4,i4,a4,b4,q4,e4⟩:=pl_many L keyT addKey isL (c:=4) (by omega) (by omega) (l.rs.map ruleT++[]) l.ks _ p3 i3 (fun k hk=>says_K (names_nm hL.fso (hL.kso k hk)) true) q3 a3 (by omega)
 obtain ⟨p5,i5,a5,b5,q5,e5⟩:=pl_many L ruleT addR isL (c:=5) (by omega) (by omega) [] l.rs _ p4 i4 (fun r hr'=>by
  refine says_R (fun c hc=>?_) (hs r hr')
  obtain ⟨y1,y2,y3,y4,y5,y6,y7⟩:=(hL.rso r hr').cs c hc
  have:=List.all_eq_true.1 (List.all_eq_true.1 hr r hr') c hc
  exact ⟨names_nm hL.fso y1,y2,y3,y4,y5,y7,this⟩) q4 a4 (by omega)
 have hs' : l.rs.foldl addR (l.ks.foldl addKey (l.fs.foldl aF (l.js.foldl aJ (l.ws.foldl aW ⟨true,zG,⟨l.nm,l.fm,[],[],[],[],l.uq,[]⟩⟩))))=⟨true,zG,l⟩:=by
  rw [fold_aR,fold_aK1 _ _ q3,fold_aF,fold_aJ,fold_aW]
  simp
 rw [e1,e2,e3,e4,e5,hs']
 exact pl_end a5 he
theorem lines_back {lg:Bool} {g:FL} {l:LG} (h:(linesX lg g l).2=0):parseX (linesX lg g l).1=(⟨lg,g,l⟩,0,0)∧(∀ x∈(linesX lg g l).1,x.length≤300)∧(linesX lg g l).1.length≤100:=by
 unfold linesX at h ⊢
 cases hz:isZ lg g l with
 | false=>rw [hz,if_pos rfl] at h; cases h
 | true=>
  rw [hz,if_neg (by simp)] at h
  rw [if_neg (by simp)]
  by_cases he:srcE lg g l=0
  case neg=>rw [if_pos he] at h; exact absurd h he
  rw [if_neg (by simp [he])] at h
  rw [if_neg (by simp [he])]
  cases lg with
  | false=>
   simp only [Bool.false_eq_true,if_false] at h ⊢
   have hl:l=zL:=isZL_eq hz
   subst hl
   have hg:GOk g.nm g.fm g.ds g.ks:=fileE_ok he
   have hd1:=hg.d1
   have hk1:=hg.k1
   have hlen:(pfL g).length=g.ds.length+g.ks.length+2:=by simp [pfL]
   refine ⟨?_,?_,by omega⟩
   ·unfold parseX
    rw [if_neg (by omega),if_neg (by omega)]
    exact back_pf he _
   ·intro x hx
    have hgd:=hg.dfit
    have hnm:=nm_len hg.nm
    have hfm:=nm_len hg.fm
    unfold pfL at hx
    simp only [List.mem_append,List.mem_cons,List.mem_map,List.not_mem_nil,or_false] at hx
    rcases hx with ((rfl | rfl) | ⟨f,hf,rfl⟩) | ⟨k,hk,rfl⟩
    ·have:=head_len (t:=[80,70]) (uq:=g.uq) (by simp) hnm; omega
    ·simp only [List.length_append,List.length_cons,List.length_nil]; omega
    ·obtain ⟨b1,b2,b3,b4,b5,b6⟩:=hgd f hf
     have:=tText_short (k:=f.k) b3 b4 b5 b6
     unfold fldT
     simp only [List.length_append,List.length_cons,List.length_nil]; omega
    ·have:=nm_len (hg.knm k hk)
     unfold keyT
     split <;> simp only [List.length_append,List.length_cons,List.length_nil] <;> omega
  | true=>
   simp only [if_true] at h ⊢
   have hg:g=zG:=isZF_eq hz
   subst hg
   have hL:l.Ok:=chkL_ok he
   have hf:=gfit_of hL
   unfold rulesX at h ⊢
   by_cases h1:(l.rs.any fun r=>!ruleOk r)=true
   ·rw [if_pos h1] at h; cases h
   ·rw [if_neg h1] at h ⊢
    by_cases h2:((lfL l++l.rs.map ruleT).any fun s=>decide (240 < s.length))=true
    ·rw [if_pos h2] at h; cases h
    ·rw [if_neg h2]
     have h3:∀ x∈lfL l++l.rs.map ruleT,x.length≤240:=by
      intro x hx
      refine Classical.byContradiction fun hn=>h2 ?_
      rw [List.any_eq_true]
      exact ⟨x,hx,by simp; omega⟩
     have h4:l.rs.all ruleOk=true:=by
      rw [List.all_eq_true]
      intro r hr
      refine Classical.byContradiction fun hn=>h1 ?_
      rw [List.any_eq_true]
      exact ⟨r,hr,by simpa using hn⟩
     have w1:=hL.w1
     have f1:=hL.f1
     have j1:=hL.j1
     have k1:=hL.k1
     have r1:=hL.r1
     have hlen:(lfL l++l.rs.map ruleT).length=l.ws.length+l.js.length+l.fs.length+l.ks.length+l.rs.length+2:=by simp [lfL]; omega
     refine ⟨?_,fun x hx=>by have:=h3 x hx; omega,by dsimp only; omega⟩
     dsimp only
     unfold parseX
     rw [if_neg (by omega),if_neg (by omega)]
     exact back_lf he h4 (fun r hr=>h3 _ (List.mem_append_right _ (List.mem_map.2 ⟨r,hr,rfl⟩))) _
end Go.Proofs.YtmpglmcjoelciaaGreatDoor.Ev
namespace Go.Proofs.YtmpglmcjoelciaaGreatDoor.Ev
open Go Go.Proofs Go.Proofs.Ev
set_option linter.unusedVariables false
set_option linter.unusedSimpArgs false
theorem wordsP_mem:∀ (g:Nat) (l:List UInt8) (ws:List (List UInt8)),wordsP g l=some ws→∀ w∈ws,∀ c∈w,c∈l
 | 0,_,_,h=>by cases h
 | g+1,l,ws,h=>by
  unfold wordsP at h
  by_cases h0:wrd l=0
  ·rw [if_pos h0] at h; cases h
  ·rw [if_neg h0] at h
   by_cases h1:wrd l=l.length
   ·rw [if_pos h1] at h
    cases h
    intro w hw c hc
    rw [List.mem_singleton] at hw
    subst hw
    exact hc
   ·rw [if_neg h1] at h
    cases hr:wordsP g (l.drop (wrd l+1)) with
    | none=>rw [hr] at h; cases h
    | some r=>
     rw [hr] at h
     cases h
     intro w hw c hc
     rcases List.mem_cons.1 hw with rfl | hw
     ·exact List.mem_of_mem_take hc
     ·exact List.mem_of_mem_drop (wordsP_mem g _ r hr w hw c hc)
theorem lineW_ok (l:List UInt8):∀ w∈lineW l,w.all okc=true:=by
 unfold lineW
 by_cases h:l.length > 240∨l.all okc=false∨l=[]
 ·rw [if_pos h]; simp
 ·rw [if_neg h]
  have ho:l.all okc=true:=by
   cases e:l.all okc with
   | true=>rfl
   | false=>exact absurd (.inr (.inl e)) h
  cases hp:wordsP (l.length+1) l with
  | none=>simp
  | some ws=>
   intro w hw
   rw [List.all_eq_true]
   intro c hc
   exact List.all_eq_true.1 ho c (wordsP_mem _ _ _ hp w hw c hc)
theorem unq_mem:∀ (k:Nat) (s:List UInt8),s.length≤k→∀ c∈unq s,c=39∨c∈s
 | _,[],_=>by simp [unq]
 | _,[a],_=>by simp [unq]
 | 0,_::_::_,h=>absurd h (by simp)
 | k+1,a::b::r,h=>by
  intro c hc
  unfold unq at hc
  by_cases ha:a=39
  ·rw [if_pos ha] at hc
   rcases List.mem_cons.1 hc with e | hc
   ·exact .inl e
   ·rcases unq_mem k r (by simp at h; omega) c hc with h | h
    ·exact .inl h
    ·exact .inr (by simp [h])
  ·rw [if_neg ha] at hc
   rcases List.mem_cons.1 hc with e | hc
   ·exact .inr (by simp [e])
   ·rcases unq_mem k (b::r) (by simp at h ⊢; omega) c hc with h | h
    ·exact .inl h
    ·exact .inr (List.mem_cons_of_mem _ h)
theorem valP_ok {w:List UInt8} {x:Int × List UInt8} (hw:w.all okc=true) (h:valP w=some x):x.2.all okc=true:=by
 unfold valP at h
 split at h
 ·cases h
  rw [List.all_eq_true]
  intro c hc
  rcases unq_mem _ _ (Nat.le_refl _) c hc with rfl | hc
  ·rfl
  ·exact List.all_eq_true.1 hw c (List.mem_of_mem_drop (List.dropLast_subset _ hc))
 ·obtain ⟨v,_,rfl⟩:=Option.map_eq_some_iff.1 h
  rfl
theorem cnd1_ok2 {a o v:List UInt8} {c:CN} (hv:v.all okc=true) (h:cnd1 a o v=some c):c.s.all okc=true:=by
 unfold cnd1 at h
 split at h
 ·obtain ⟨x,_,h⟩:=Option.bind_eq_some_iff.1 h
  obtain ⟨y,hy,rfl⟩:=Option.map_eq_some_iff.1 h
  exact valP_ok hv hy
 ·cases h
theorem cndP_ok2:∀ (k:Nat) (l:List (List UInt8)) (cs:List CN),l.length≤k→(∀ w∈l,w.all okc=true)→cndP l=some cs→(cs.all fun c=>c.s.all okc)=true
 | _,[],cs,_,_,h=>by cases h; rfl
 | _,[_],cs,_,_,h=>by cases h
 | _,[_,_],cs,_,_,h=>by cases h
 | _,[a,o,v],cs,_,hw,h=>by
  unfold cndP at h
  cases hc:cnd1 a o v with
  | none=>rw [hc] at h; cases h
  | some c=>
   rw [hc] at h
   cases h
   have:=cnd1_ok2 (hw v (by simp)) hc
   simp only [List.all_cons,List.all_nil,this,Bool.and_true]
 | _,[_,_,_,_],cs,_,_,h=>by cases h
 | 0,_::_::_::_::_::_,_,hk,_,_=>absurd hk (by simp)
 | k+1,a::o::v::d::b::r,cs,hk,hw,h=>by
  unfold cndP at h
  by_cases hd:d=[65,78,68]
  ·rw [if_pos hd] at h
   cases hc:cnd1 a o v with
   | none=>rw [hc] at h; cases h
   | some c=>
    rw [hc,Option.bind_some] at h
    cases hr:cndP (b::r) with
    | none=>rw [hr] at h; cases h
    | some q=>
     rw [hr] at h
     cases h
     have h1:=cnd1_ok2 (hw v (by simp)) hc
     have h2:=cndP_ok2 k (b::r) q (by simp at hk ⊢; omega) (fun w hw'=>hw w (by simp at hw' ⊢; rcases hw' with e | e <;> simp [e])) hr
     rw [List.all_cons,h1,h2]
     rfl
  ·rw [if_neg hd] at h; cases h
structure Rd (s:SR):Prop where
 z:if s.lg then s.g=zG else s.l=zL
 r:s.l.rs.all ruleOk=true
theorem rd_head {w:List (List UInt8)} {s' : SR} (hs:stHead zS w=some s'):Rd s':=by
 refine ⟨head_zero hs,?_⟩
 unfold stHead hd1 at hs
 (repeat' split at hs) <;> cases hs <;> rfl
theorem rd_L {s s' : SR} (h:Rd s) (hl:s.lg=true) (h1:s'.lg=true) (h2:s'.g=s.g) (h3:s'.l.rs.all ruleOk=true):Rd s':=by
 have:=h.z
 rw [hl,if_pos rfl] at this
 exact ⟨by rw [h1,if_pos rfl,h2]; exact this,h3⟩
theorem rd_P {s s' : SR} (h:Rd s) (hl:s.lg=false) (h1:s'.lg=false) (h2:s'.l=s.l):Rd s':=by
 have:=h.z
 rw [hl] at this
 simp only [Bool.false_eq_true,if_false] at this
 refine ⟨?_,by rw [h2]; exact h.r⟩
 rw [h1]
 simp only [Bool.false_eq_true,if_false]
 rw [h2]; exact this
theorem rd_disp {s s' : SR} {p:Int} {w:List (List UInt8)} (hw:∀ x∈w,x.all okc=true) (h:Rd s) (hs:disp s p w=some s'):Rd s':=by
 have key:∀ k:KF,Rd (addKey s k):=by
  intro k
  unfold addKey
  by_cases hl:s.lg=true
  ·rw [if_pos hl]; exact rd_L h hl hl rfl h.r
  ·rw [if_neg hl]
   have hl' : s.lg=false:=by simpa using hl
   exact rd_P h hl' hl' rfl
 unfold disp at hs
 split at hs
 ·unfold stRule at hs
  split at hs
  ·cases hs
  ·split at hs
   ·rename_i k0 r hl
    cases hc:cndP r with
    | none=>rw [hc] at hs; cases hs
    | some cs=>
     rw [hc] at hs
     cases hs
     refine rd_L h hl hl rfl ?_
     show (s.l.rs++[_]).all ruleOk=true
     rw [List.all_append,h.r,List.all_cons,List.all_nil]
     have:=cndP_ok2 r.length r cs (Nat.le_refl _) (fun x hx=>hw x (by simp [hx])) hc
     unfold ruleOk
     rw [this]
     rfl
   ·cases hs
 split at hs
 ·unfold stKey at hs
  (repeat' split at hs) <;> cases hs <;> exact key _
 split at hs
 ·unfold stField at hs
  split at hs
  ·split at hs
   ·rename_i hb
    simp only [Bool.and_eq_true] at hb
    obtain ⟨v,_,rfl⟩:=Option.map_eq_some_iff.1 hs
    exact rd_L h hb.1 hb.1 rfl h.r
   ·cases hs
  ·split at hs
   ·rename_i hb
    simp only [Bool.and_eq_true,Bool.not_eq_true'] at hb
    obtain ⟨v,_,rfl⟩:=Option.map_eq_some_iff.1 hs
    exact rd_P h hb.1 hb.1 rfl
   ·cases hs
  ·cases hs
 split at hs
 ·unfold stJoin at hs
  split at hs
  ·split at hs
   ·rename_i hb
    simp only [Bool.and_eq_true] at hb
    obtain ⟨v,_,hs⟩:=Option.bind_eq_some_iff.1 hs
    obtain ⟨u,_,rfl⟩:=Option.map_eq_some_iff.1 hs
    exact rd_L h hb.1 hb.1 rfl h.r
   ·cases hs
  ·cases hs
 split at hs
 ·unfold stBase at hs
  split at hs
  ·split at hs
   ·rename_i hb
    simp only [Bool.and_eq_true] at hb
    cases hs
    exact rd_L h hb.1 hb.1 rfl h.r
   ·cases hs
  ·cases hs
 ·unfold stFmt at hs
  split at hs
  ·split at hs
   ·cases hs
    by_cases hl:s.lg=true
    ·rw [if_pos hl]; exact rd_L h hl hl rfl h.r
    ·rw [if_neg hl]
     have hl' : s.lg=false:=by simpa using hl
     exact rd_P h hl' hl' rfl
   ·cases hs
  ·cases hs
theorem rd_line {s s' : SR} {p:Int} {w:List (List UInt8)} (hw:∀ x∈w,x.all okc=true) (h:Rd s) (hs:stLine s p w=some s'):Rd s':=by
 match w,hw,hs with
 | [],_,hs=>cases hs
 | k0::r,hw,hs=>
  rw [stLine_cons] at hs
  split at hs
  ·cases hs
  ·split at hs
   ·cases hs
   ·exact rd_disp hw h hs
def CameX (x:SR × Int × Int):Prop:=(x.2.2≠0∧x.1=zS)∨(x.2=(0,0)∧Rd x.1∧srcE x.1.lg x.1.g x.1.l=0)
theorem parseL_came (L:Nat):∀ (ls:List (List UInt8)) (s:SR) (p i:Int),1≤p→Rd s→CameX (parseL L ls s p i)
 | [],s,p,i,hp,h=>by
  unfold parseL
  split
  ·exact .inl ⟨by simp,rfl⟩
  ·split
   ·rename_i he; exact .inl ⟨he,rfl⟩
   ·rename_i he
    exact .inr ⟨rfl,h,by simpa using he⟩
 | x::r,s,p,i,hp,h=>by
  unfold parseL
  split
  ·rename_i he; exact .inl ⟨he,rfl⟩
  ·rw [if_neg (by omega),if_neg (by omega)]
   cases ho:stLine s (p - 1) (lineW x) with
   | none=>exact .inl ⟨by simp,rfl⟩
   | some s'=>
    have hne:lineW x≠[]:=by intro e; rw [e] at ho; cases ho
    have:=nextP_range _ hne
    exact parseL_came L r s' _ _ (by omega) (rd_line (lineW_ok x) h ho)
theorem parseX_came (ls:List (List UInt8)):CameX (parseX ls):=by
 unfold parseX
 split
 ·exact .inl ⟨by simp,rfl⟩
 ·split
  ·exact .inl ⟨by simp,rfl⟩
  ·match ls with
   | []=>rename_i h _; exact absurd rfl h
   | x::r=>
    unfold parseL
    split
    ·rename_i he; exact .inl ⟨he,rfl⟩
    ·rw [if_pos rfl,if_pos rfl]
     cases ho:stHead zS (lineW x) with
     | none=>exact .inl ⟨by simp,rfl⟩
     | some s'=>exact parseL_came _ r s' 1 _ (by omega) (rd_head ho)
theorem read_back {s:SR} (h:Rd s) (he:srcE s.lg s.g s.l=0):(linesX s.lg s.g s.l).2=0∨linesX s.lg s.g s.l=([],2):=by
 obtain ⟨hz,hr⟩:=h
 have h1:isZ s.lg s.g s.l=true:=by
  unfold isZ
  cases hl:s.lg
  ·rw [hl] at hz
   simp only [Bool.false_eq_true,if_false] at hz ⊢
   rw [hz]; rfl
  ·rw [hl,if_pos rfl] at hz
   rw [if_pos rfl,hz]; rfl
 unfold linesX
 rw [h1,if_neg (by simp),if_neg (by simp [he])]
 cases s.lg
 ·exact .inl rfl
 ·rw [if_pos rfl]
  unfold rulesX
  have h3:¬ ((s.l.rs.any fun r=>!ruleOk r)=true):=by
   rw [List.any_eq_true]
   rintro ⟨r,h4,h5⟩
   rw [List.all_eq_true.1 hr r h4] at h5
   cases h5
  rw [if_neg h3]
  split
  ·exact .inr rfl
  ·exact .inl rfl
end Go.Proofs.YtmpglmcjoelciaaGreatDoor.Ev
namespace Go.Proofs.YtmpglmcjoelciaaGreatDoor.Ev
open Go Go.Proofs Go.Proofs.Ev
set_option linter.unusedVariables false
set_option linter.unusedSimpArgs false
section
variable {n:Nat}
theorem sameK_l (ks:List KF) (hk:ks.length≤1000):∀ (d i m:Nat),i+d=ks.length→d < m→Q3m.l n m (.z4 (ks.map KF.av) (ks.map KF.av) i)=some true
 | _,_,0,_,h=>absurd h (by omega)
 | 0,i,m+1,h,_=>by
  rw [Q3m.at4]
  unfold Q3m.r4
  simp (disch:=omega) only [Option.bind_some,Option.bind_none,cond_true,cond_false,Bool.not_true,Bool.not_false,List.length_map,Ws_length,bs_size,within_t,upto_t,wsucc,Int.toNat_natCast,at_mapN,Ws_getDN,cells_agg,cells_v,withCons_cons,withInt_mk,withStr_mk,withBool_mk,withSl_mk,cond_t,cond_f]
 | d+1,i,m+1,h,hm=>by
  have hi:i < ks.length:=by omega
  have ih:=sameK_l ks hk d (i+1) m (by omega) (by omega)
  rw [Q3m.at4]
  unfold Q3m.r4
  simp (disch:=omega) only [Option.bind_some,Option.bind_none,cond_true,cond_false,Bool.not_true,Bool.not_false,List.length_map,Ws_length,bs_size,within_t,upto_t,wsucc,Int.toNat_natCast,at_mapN,Ws_getDN,cells_agg,cells_v,withCons_cons,withInt_mk,withStr_mk,withBool_mk,withSl_mk,cond_t,cond_f,KF.av,ba_refl,beq_self_eq_true,Bool.and_self,ih]
theorem sameK_eq (hn:1001≤n) (ks:List KF) (hk:ks.length≤1000):Q3m.F n (ks.map KF.av) (ks.map KF.av)=some true:=by
 unfold Q3m.F Q3m.e
 simp only [bne_self_eq_false,cond_false]
 exact sameK_l ks hk ks.length 0 n (by omega) (by omega)
theorem sameFile_eq (hn:1001≤n) (g:FL) (h1:g.ds.length≤1000) (h2:g.ks.length≤1000):Q33.F n (bs g.nm) (bs g.fm) (g.ds.map FD.av) (g.ks.map KF.av) g.uq (bs g.nm) (bs g.fm) (g.ds.map FD.av) (g.ks.map KF.av) g.uq=some true:=by
 unfold Q33.F Q33.e
 rw [beq_self_eq_true,sameFormat_eq hn _ _ h1,sameK_eq hn _ h2,beq_self_eq_true]
 rfl
theorem sl14 (rs:List RL) (hr:rs.length≤1000) (hc:∀ r∈rs,r.cs.length≤1000) {x1 x2 x9 x10:ByteArray} {x3 x4 x5 x6 x11 x12 x13 x14:List AV} {x7 x15:Bool}:∀ (d i m:Nat),i+d=rs.length→1010*d+1≤m→
  Q35.l n m (.z14 i x1 x2 x3 x4 x5 x6 x7 (rs.map RL.av) x9 x10 x11 x12 x13 x14 x15 (rs.map RL.av))=some true
 | 0,i,m,h,hm=>by
  obtain ⟨m,rfl⟩ : ∃ q,m=q+1:=⟨m - 1,by omega⟩
  rw [Q35.at14]
  unfold Q35.r14
  simp (disch:=omega) only [Option.bind_some,Option.bind_none,cond_true,cond_false,Bool.not_true,Bool.not_false,List.length_map,Ws_length,bs_size,within_t,upto_t,wsucc,Int.toNat_natCast,at_mapN,Ws_getDN,cells_agg,cells_v,withCons_cons,withInt_mk,withStr_mk,withBool_mk,withSl_mk,cond_t,cond_f]
 | d+1,i,m,h,hm=>by
  obtain ⟨m,rfl⟩ : ∃ q,m=q+1:=⟨m - 1,by omega⟩
  have hi:i < rs.length:=by omega
  have hcl:=hc rs[i] (List.getElem_mem hi)
  have inner:∀ (e j q:Nat),j+e=rs[i].cs.length→1010*d+2+e≤q→
    Q35.l n q (.z20 i j x1 x2 x3 x4 x5 x6 x7 (rs.map RL.av) x9 x10 x11 x12 x13 x14 x15 (rs.map RL.av) rs[i].om (rs[i].cs.map CN.av) rs[i].om (rs[i].cs.map CN.av))=some true:=by
   intro e
   induction e with
   | zero=>
    intro j q hj hq
    obtain ⟨q,rfl⟩ : ∃ r,q=r+1:=⟨q - 1,by omega⟩
    rw [Q35.at20]
    unfold Q35.r20
    simp (disch:=omega) only [Option.bind_some,Option.bind_none,cond_true,cond_false,Bool.not_true,Bool.not_false,List.length_map,Ws_length,bs_size,within_t,upto_t,wsucc,Int.toNat_natCast,at_mapN,Ws_getDN,cells_agg,cells_v,withCons_cons,withInt_mk,withStr_mk,withBool_mk,withSl_mk,cond_t,cond_f]
    exact sl14 rs hr hc d (i+1) q (by omega) (by omega)
   | succ e ih=>
    intro j q hj hq
    obtain ⟨q,rfl⟩ : ∃ r,q=r+1:=⟨q - 1,by omega⟩
    have hjl:j < rs[i].cs.length:=by omega
    have ih':=ih (j+1) q (by omega) (by omega)
    rw [Q35.at20]
    unfold Q35.r20
    simp (disch:=omega) only [Option.bind_some,Option.bind_none,cond_true,cond_false,Bool.not_true,Bool.not_false,List.length_map,Ws_length,bs_size,within_t,upto_t,wsucc,Int.toNat_natCast,at_mapN,Ws_getDN,cells_agg,cells_v,withCons_cons,withInt_mk,withStr_mk,withBool_mk,withSl_mk,cond_t,cond_f,CN.av,ba_refl,beq_self_eq_true,Bool.and_self,ih']
  have hin:=inner rs[i].cs.length 0 m (by omega) (by omega)
  rw [Q35.at14]
  unfold Q35.r14
  simp (disch:=omega) only [Option.bind_some,Option.bind_none,cond_true,cond_false,Bool.not_true,Bool.not_false,List.length_map,Ws_length,bs_size,within_t,upto_t,wsucc,Int.toNat_natCast,at_mapN,Ws_getDN,cells_agg,cells_v,withCons_cons,withInt_mk,withStr_mk,withBool_mk,withSl_mk,cond_t,cond_f,RL.av,beq_self_eq_true,bneI_f]
  exact hin
theorem sl9 (js:List JP) (hj:js.length≤1000) (rs:List RL) (hr:rs.length≤100) (hc:∀ r∈rs,r.cs.length≤1000) {x1 x2 x9 x10:ByteArray} {x3 x4 x6 x11 x12 x14:List AV} {x7 x15:Bool}:∀ (d i m:Nat),i+d=js.length→d+101002≤m→
  Q35.l n m (.z9 i x1 x2 x3 x4 (js.map JP.av) x6 x7 (rs.map RL.av) x9 x10 x11 x12 (js.map JP.av) x14 x15 (rs.map RL.av))=some true
 | 0,i,m,h,hm=>by
  obtain ⟨m,rfl⟩ : ∃ q,m=q+1:=⟨m - 1,by omega⟩
  rw [Q35.at9]
  unfold Q35.r9
  simp (disch:=omega) only [Option.bind_some,Option.bind_none,cond_true,cond_false,Bool.not_true,Bool.not_false,List.length_map,Ws_length,bs_size,within_t,upto_t,wsucc,Int.toNat_natCast,at_mapN,Ws_getDN,cells_agg,cells_v,withCons_cons,withInt_mk,withStr_mk,withBool_mk,withSl_mk,cond_t,cond_f]
  exact sl14 rs (by omega) hc rs.length 0 m (by omega) (by omega)
 | d+1,i,m,h,hm=>by
  obtain ⟨m,rfl⟩ : ∃ q,m=q+1:=⟨m - 1,by omega⟩
  have hi:i < js.length:=by omega
  have ih:=sl9 js hj rs hr hc (x1:=x1) (x2:=x2) (x3:=x3) (x4:=x4) (x6:=x6) (x7:=x7) (x9:=x9) (x10:=x10) (x11:=x11) (x12:=x12) (x14:=x14) (x15:=x15) d (i+1) m (by omega) (by omega)
  rw [Q35.at9]
  unfold Q35.r9
  simp (disch:=omega) only [Option.bind_some,Option.bind_none,cond_true,cond_false,Bool.not_true,Bool.not_false,List.length_map,Ws_length,bs_size,within_t,upto_t,wsucc,Int.toNat_natCast,at_mapN,Ws_getDN,cells_agg,cells_v,withCons_cons,withInt_mk,withStr_mk,withBool_mk,withSl_mk,cond_t,cond_f,JP.av,ba_refl,beq_self_eq_true,Bool.and_self,ih]
theorem sl4 (fs:List LF) (hf:fs.length≤1000) (js:List JP) (hj:js.length≤1000) (rs:List RL) (hr:rs.length≤100) (hc:∀ r∈rs,r.cs.length≤1000) {x1 x2 x9 x10:ByteArray} {x3 x6 x11 x14:List AV} {x7 x15:Bool}:∀ (d i m:Nat),i+d=fs.length→d+103000≤m→
  Q35.l n m (.z4 i x1 x2 x3 (fs.map LF.av) (js.map JP.av) x6 x7 (rs.map RL.av) x9 x10 x11 (fs.map LF.av) (js.map JP.av) x14 x15 (rs.map RL.av))=some true
 | 0,i,m,h,hm=>by
  obtain ⟨m,rfl⟩ : ∃ q,m=q+1:=⟨m - 1,by omega⟩
  rw [Q35.at4]
  unfold Q35.r4
  simp (disch:=omega) only [Option.bind_some,Option.bind_none,cond_true,cond_false,Bool.not_true,Bool.not_false,List.length_map,Ws_length,bs_size,within_t,upto_t,wsucc,Int.toNat_natCast,at_mapN,Ws_getDN,cells_agg,cells_v,withCons_cons,withInt_mk,withStr_mk,withBool_mk,withSl_mk,cond_t,cond_f]
  exact sl9 js hj rs hr hc js.length 0 m (by omega) (by omega)
 | d+1,i,m,h,hm=>by
  obtain ⟨m,rfl⟩ : ∃ q,m=q+1:=⟨m - 1,by omega⟩
  have hi:i < fs.length:=by omega
  have ih:=sl4 fs hf js hj rs hr hc (x1:=x1) (x2:=x2) (x3:=x3) (x6:=x6) (x7:=x7) (x9:=x9) (x10:=x10) (x11:=x11) (x14:=x14) (x15:=x15) d (i+1) m (by omega) (by omega)
  rw [Q35.at4]
  unfold Q35.r4
  simp (disch:=omega) only [Option.bind_some,Option.bind_none,cond_true,cond_false,Bool.not_true,Bool.not_false,List.length_map,Ws_length,bs_size,within_t,upto_t,wsucc,Int.toNat_natCast,at_mapN,Ws_getDN,cells_agg,cells_v,withCons_cons,withInt_mk,withStr_mk,withBool_mk,withSl_mk,cond_t,cond_f,LF.av,ba_refl,beq_self_eq_true,Bool.and_self,ih]
theorem sameLog_eq (hn:200000≤n) (l:LG) (h1:l.ws.length≤1000) (h2:l.fs.length≤1000) (h3:l.js.length≤1000) (h4:l.ks.length≤1000) (h5:l.rs.length≤100) (hc:∀ r∈l.rs,r.cs.length≤1000) :
  Q35.F n (bs l.nm) (bs l.fm) (Ws l.ws) (l.fs.map LF.av) (l.js.map JP.av) (l.ks.map KF.av) l.uq (l.rs.map RL.av) (bs l.nm) (bs l.fm) (Ws l.ws) (l.fs.map LF.av) (l.js.map JP.av) (l.ks.map KF.av) l.uq (l.rs.map RL.av)=some true:=by
 unfold Q35.F Q35.e
 simp only [beq_self_eq_true,Bool.not_true,cond_false,bne_self_eq_false]
 rw [strs_eq (by omega) _ (by omega),sameK_eq (by omega) _ h4]
 exact sl4 l.fs h2 l.js h3 l.rs h5 hc l.fs.length 0 n (by omega) (by omega)
theorem parseL_inv (L:Nat):∀ (ls:List (List UInt8)) (s:SR) (p i:Int) (k:Nat),(∀ x∈ls,x.length≤300)→Inv s k→Inv (parseL L ls s p i).1 (k+ls.length)
 | [],s,p,i,k,_,h=>by
  have hz:Inv zS (k+0):=⟨⟨by simp [zS,zG],by simp [zS,zG],by simp [zS,zL],by simp [zS,zL],by simp [zS,zL],by simp [zS,zL],by simp [zS,zL]⟩,by simp [zS,zL]⟩
  unfold parseL
  split
  ·exact hz
  ·split
   ·exact hz
   ·exact h
 | x::r,s,p,i,k,h3,h=>by
  have hz:Inv zS (k+(r.length+1)):=⟨⟨by simp [zS,zG],by simp [zS,zG],by simp [zS,zL],by simp [zS,zL],by simp [zS,zL],by simp [zS,zL],by simp [zS,zL]⟩,by simp [zS,zL]⟩
  obtain ⟨wl,_⟩:=lineW_good (l:=x) (by have:=h3 x (by simp); omega)
  unfold parseL
  split
  ·exact hz
  ·cases ho:(if p=0 then stHead s (lineW x) else stLine s (p - 1) (lineW x)) with
   | none=>exact hz
   | some s'=>
    have hi:Inv s' (k+1):=by
     by_cases hp:p=0
     ·rw [if_pos hp] at ho; exact (inv_head h ho).mono
     ·rw [if_neg hp] at ho; exact inv_line wl h ho
    have:=parseL_inv L r s' (if p=0 then 1 else nextP (lineW x)+1) (i+1) (k+1) (fun y hy=>h3 y (by simp [hy])) hi
    rw [show k+(x::r).length=k+1+r.length by simp; omega]
    exact this
theorem zInv:Inv zS 0:=⟨⟨by simp [zS,zG],by simp [zS,zG],by simp [zS,zL],by simp [zS,zL],by simp [zS,zL],by simp [zS,zL],by simp [zS,zL]⟩,by simp [zS,zL]⟩
theorem zAt:At zS 0 0:=⟨fun _=>⟨rfl,rfl⟩,fun h=>absurd h (by omega),fun h=>absurd h (by omega),by omega,fun h=>absurd h (by omega),fun h=>absurd h (by omega)⟩
theorem parseX_inv (ls:List (List UInt8)) (h3:∀ x∈ls,x.length≤300):Inv (parseX ls).1 100:=by
 have hz:Inv zS 100:=⟨⟨by simp [zS,zG],by simp [zS,zG],by simp [zS,zL],by simp [zS,zL],by simp [zS,zL],by simp [zS,zL],by simp [zS,zL]⟩,by simp [zS,zL]⟩
 unfold parseX
 split
 ·exact hz
 ·split
  ·exact hz
  ·have:=parseL_inv ls.length ls zS 0 0 0 h3 zInv
   obtain ⟨⟨a,b,c,d,e,f,g⟩,i⟩:=this
   exact ⟨⟨by omega,by omega,by omega,by omega,by omega,by omega,by omega⟩,i⟩
theorem parsed_eq (hn:300000≤n) (ls:List (List UInt8)) (hw:ls.length≤100000) (h3:∀ x∈ls,x.length≤300):Q0c.F n (Ws ls)=some (resT (parseX ls)):=by
 unfold Q0c.F Q0c.e parseX
 simp only [Ws_length,cond_eq,Option.bind_some]
 rw [first2 (by omega),Option.bind_some]
 by_cases h0:ls.length=0
 ·rw [beqI_t (by omega),if_pos h0]
  rfl
 ·rw [beqI_f (by omega),if_neg h0]
  by_cases h1:ls.length > 100
  ·have:decide ((ls.length:Int) > 100)=true:=decide_eq_true (by omega)
   rw [this,if_pos h1]
   rfl
  ·have:decide ((ls.length:Int) > 100)=false:=decide_eq_false (by omega)
   rw [this,if_neg h1]
   have:=parsed_l (n:=n) hn ls (by omega) h3 (b5:=false) (b6:=⟨#[]⟩) (b7:=⟨#[]⟩) (b8:=false) (b9:=⟨#[]⟩) (b10:=⟨#[]⟩) (b11:=false) ls.length 0 n zS 0 (by omega) (by omega) zInv zAt
   exact this
theorem sameSrc_eq (hn:200000≤n) (s:SR) (h:Inv s 100):Q36.F n s.lg (bs s.g.nm) (bs s.g.fm) (s.g.ds.map FD.av) (s.g.ks.map KF.av) s.g.uq (bs s.l.nm) (bs s.l.fm) (Ws s.l.ws) (s.l.fs.map LF.av) (s.l.js.map JP.av) (s.l.ks.map KF.av) s.l.uq (s.l.rs.map RL.av) s.lg (bs s.g.nm) (bs s.g.fm) (s.g.ds.map FD.av) (s.g.ks.map KF.av) s.g.uq (bs s.l.nm) (bs s.l.fm) (Ws s.l.ws) (s.l.fs.map LF.av) (s.l.js.map JP.av) (s.l.ks.map KF.av) s.l.uq (s.l.rs.map RL.av)=some true:=by
 obtain ⟨⟨a,b,c,d,e,f,g⟩,i⟩:=h
 unfold Q36.F Q36.e
 rw [beq_self_eq_true,sameFile_eq (by omega) s.g (by omega) (by omega),sameLog_eq hn s.l (by omega) (by omega) (by omega) (by omega) g i]
 rfl
theorem fewLines_l (ls:List (List UInt8)) (hl:ls.length≤1000):∀ (d i m:Nat),i+d=ls.length→d < m→∃ b,Q2l.l n m (.z4 (Ws ls) i)=some b∧(b=true→∀ x∈ls.drop i,x.length≤300)
 | _,_,0,_,h=>absurd h (by omega)
 | 0,i,m+1,h,_=>by
  rw [Q2l.at4]
  unfold Q2l.r4
  simp (disch:=omega) only [Option.bind_some,Option.bind_none,cond_true,cond_false,Bool.not_true,Bool.not_false,List.length_map,Ws_length,bs_size,within_t,upto_t,wsucc,Int.toNat_natCast,at_mapN,Ws_getDN,cells_agg,cells_v,withCons_cons,withInt_mk,withStr_mk,withBool_mk,withSl_mk,cond_t,cond_f]
  rw [List.drop_of_length_le (by omega)]
  exact ⟨true,rfl,fun _=>by simp⟩
 | d+1,i,m+1,h,hm=>by
  have hi:i < ls.length:=by omega
  obtain ⟨b,ih,ih2⟩:=fewLines_l ls hl d (i+1) m (by omega) (by omega)
  rw [Q2l.at4]
  unfold Q2l.r4
  simp (disch:=omega) only [Option.bind_some,Option.bind_none,cond_true,cond_false,Bool.not_true,Bool.not_false,List.length_map,Ws_length,bs_size,within_t,upto_t,wsucc,Int.toNat_natCast,at_mapN,Ws_getDN,cells_agg,cells_v,withCons_cons,withInt_mk,withStr_mk,withBool_mk,withSl_mk,cond_t,cond_f,ih]
  rw [List.drop_eq_getElem_cons hi]
  by_cases h3:(ls[i].length:Int) > 300
  ·exact ⟨false,by rw [cond_t h3],nofun⟩
  ·refine ⟨b,by rw [cond_f h3],fun hb x hx=>?_⟩
   rcases List.mem_cons.1 hx with rfl | hx
   ·omega
   ·exact ih2 hb x hx
theorem fewLines_eq (hn:1002≤n) (ls:List (List UInt8)):∃ b,Q2l.F n (Ws ls)=some b∧(b=true→ls.length≤103∧∀ x∈ls,x.length≤300):=by
 unfold Q2l.F Q2l.e
 simp only [Ws_length]
 by_cases h1:ls.length > 103
 ·exact ⟨false,by rw [cond_t (by omega)],nofun⟩
 ·rw [cond_f (by omega)]
  obtain ⟨b,h2,h3⟩:=fewLines_l (n:=n) ls (by omega) ls.length 0 n (by omega) (by omega)
  exact ⟨b,h2,fun hb=>⟨by omega,h3 hb⟩⟩
end
end Go.Proofs.YtmpglmcjoelciaaGreatDoor.Ev
namespace Go.Proofs.YtmpglmcjoelciaaGreatDoor.Ev
open Go Go.Proofs Go.Proofs.Ev
set_option linter.unusedVariables false
set_option linter.unusedSimpArgs false
section
variable {n:Nat}
theorem inv_few {s:SR} (h:Inv s 100):Few s.g s.l:=by
 obtain ⟨⟨a,b,c,d,e,f,g⟩,i⟩:=h
 exact ⟨by omega,by omega,by omega,by omega,by omega,by omega,by omega,i⟩
theorem inv_z:Inv zS 100:=⟨⟨by simp [zS,zG],by simp [zS,zG],by simp [zS,zL],by simp [zS,zL],by simp [zS,zL],by simp [zS,zL],by simp [zS,zL]⟩,by simp [zS,zL]⟩
theorem none_eq (hn:200000≤n):Q2n.F n zS.lg (bs zS.g.nm) (bs zS.g.fm) (zS.g.ds.map FD.av) (zS.g.ks.map KF.av) zS.g.uq (bs zS.l.nm) (bs zS.l.fm) (Ws zS.l.ws) (zS.l.fs.map LF.av) (zS.l.js.map JP.av) (zS.l.ks.map KF.av) zS.l.uq (zS.l.rs.map RL.av)=some true:=by
 have h:=sameSrc_eq (n:=n) hn zS inv_z
 unfold Q2n.F Q2n.e
 have e:∀ x:Option Bool,(x.bind fun p=>some p)=x:=by intro x; cases x <;> rfl
 first | exact (e _).trans h | exact h
theorem back13 (hn:400000≤n) (s:SR) (hI:Inv s 100) (hr:Rd s) (he:srcE s.lg s.g s.l=0) (m:Nat):Q28.l n (m+1) (.z13 s.lg (bs s.g.nm) (bs s.g.fm) (s.g.ds.map FD.av) (s.g.ks.map KF.av) s.g.uq (bs s.l.nm) (bs s.l.fm) (Ws s.l.ws) (s.l.fs.map LF.av) (s.l.js.map JP.av) (s.l.ks.map KF.av) s.l.uq (s.l.rs.map RL.av))=some true:=by
 have hf:=inv_few hI
 rw [Q28.at13]
 unfold Q28.r13
 rw [ownSrc_eq (by omega) hf,Option.bind_some]
 dsimp only
 rw [formatted_eq (by omega) hf,Option.bind_some]
 unfold Wp
 dsimp only
 rcases read_back hr he with h0 | h2
 ·obtain ⟨b1,b2,b3⟩:=lines_back h0
  rw [h0,show ((0:Int)==2)=false from rfl,cond_false,parsed_eq (by omega) _ (by omega) b2,b1,Option.bind_some]
  have:=sameSrc_eq (n:=n) (by omega) s hI
  unfold resT
  simp only [beq_self_eq_true,cond_true]
  rw [this]
  rfl
 ·rw [h2]
  rfl
theorem back_law (hn:1000002≤n) (lg:Bool) (nm fm:ByteArray) (ds:List FD) (ks:List KF) (uq:Bool) (lnm lfm:ByteArray) (ws:List (List UInt8)) (fs:List LF) (js:List JP) (lks:List KF) (luq:Bool) (rs:List RL) (ls:List (List UInt8)) :
  Q28.F n lg nm fm (ds.map FD.av) (ks.map KF.av) uq lnm lfm (Ws ws) (fs.map LF.av) (js.map JP.av) (lks.map KF.av) luq (rs.map RL.av) (Ws ls)=some true:=by
 obtain ⟨a,rfl⟩ : ∃ l,nm=bs l:=⟨nm.data.toList,rfl⟩
 obtain ⟨b,rfl⟩ : ∃ l,fm=bs l:=⟨fm.data.toList,rfl⟩
 obtain ⟨c,rfl⟩ : ∃ l,lnm=bs l:=⟨lnm.data.toList,rfl⟩
 obtain ⟨d,rfl⟩ : ∃ l,lfm=bs l:=⟨lfm.data.toList,rfl⟩
 have hmost:most=1000000000:=rfl
 obtain ⟨m,rfl⟩ : ∃ m,n=m+1:=⟨n - 1,by omega⟩
 have h1:=fewSrc_eq (n:=m+1) (lg:=lg) (g:=⟨a,b,ds,ks,uq⟩) (l:=⟨c,d,ws,fs,js,lks,luq,rs⟩) (by omega)
 have h2:=ownSrc_eq (n:=m+1) (lg:=lg) (g:=⟨a,b,ds,ks,uq⟩) (l:=⟨c,d,ws,fs,js,lks,luq,rs⟩) (by omega)
 have h3:=formatted_eq (n:=m+1) (lg:=lg) (g:=⟨a,b,ds,ks,uq⟩) (l:=⟨c,d,ws,fs,js,lks,luq,rs⟩) (by omega)
 have h4:=lines_back (lg:=lg) (g:=⟨a,b,ds,ks,uq⟩) (l:=⟨c,d,ws,fs,js,lks,luq,rs⟩)
 dsimp only at h1 h2 h3 h4
 obtain ⟨q,e1,e2⟩:=h1
 obtain ⟨t,e3,e4⟩:=fewLines_eq (n:=m+1) (by omega) ls
 unfold Q28.F Q28.e
 rw [awake_eq,Option.bind_some]
 show (bif false then _ else _)=_
 rw [cond_false,e1,Option.bind_some]
 cases q with
 | false=>rfl
 | true=>
  have hf:=e2 rfl
  rw [Bool.not_true,cond_false,e3,Option.bind_some]
  cases t with
  | false=>rfl
  | true=>
   obtain ⟨l1,l2⟩:=e4 rfl
   have hcp:Q1o.F (m+1) (Ws ls)=some (Ws ls):=by
    unfold Q1o.F Q1o.e
    rw [cond_t (by rw [Ws_length]; omega)]
   have hps:=parsed_eq (n:=m+1) (by omega) ls (by omega) l2
   have hI:=parseX_inv ls l2
   rw [Bool.not_true,cond_false,h2 hf,Option.bind_some]
   dsimp only
   rw [h3 hf,Option.bind_some,hcp]
   unfold Wp
   dsimp only
   by_cases h0:(linesX lg ⟨a,b,ds,ks,uq⟩ ⟨c,d,ws,fs,js,lks,luq,rs⟩).2=0
   ·obtain ⟨b1,b2,b3⟩:=h4 h0
    have hI2:=parseX_inv _ b2
    rw [b1] at hI2
    have hss:=sameSrc_eq (n:=m+1) (by omega) _ hI2
    dsimp only at hss
    rw [h0,show ((0:Int)==0)=true from rfl,cond_true,parsed_eq (by omega) _ (by omega) b2,b1,Option.bind_some]
    unfold resT
    simp only [bne_self_eq_false,cond_false]
    rw [hss,Option.bind_some,Bool.not_true,cond_false,Option.bind_some,hps,Option.bind_some]
    rcases parseX_came ls with ⟨x1,x2⟩ | ⟨x1,x2,x3⟩
    ·have:((parseX ls).2.2 != 0)=true:=by simpa using x1
     unfold resT
     simp only [this,cond_true]
     rw [x2,none_eq (by omega)]
     rfl
    ·unfold resT
     rw [x1]
     simp only [bne_self_eq_false,cond_false]
     exact back13 (by omega) _ hI x2 x3 m
   ·have:((linesX lg ⟨a,b,ds,ks,uq⟩ ⟨c,d,ws,fs,js,lks,luq,rs⟩).2==0)=false:=by simpa using h0
    rw [this,cond_false,Option.bind_some,hps,Option.bind_some]
    rcases parseX_came ls with ⟨x1,x2⟩ | ⟨x1,x2,x3⟩
    ·have:((parseX ls).2.2 != 0)=true:=by simpa using x1
     unfold resT
     simp only [this,cond_true]
     rw [x2,none_eq (by omega)]
     rfl
    ·unfold resT
     rw [x1]
     simp only [bne_self_eq_false,cond_false]
     exact back13 (by omega) _ hI x2 x3 m
end
end Go.Proofs.YtmpglmcjoelciaaGreatDoor.Ev
end
