import Derived.Test.YtnoldakbllfmnaaGreatDoorDTb
import Derived.Lib.Replace
noncomputable section
namespace Go.Proofs.YtnoldakbllfmnaaGreatDoor.Ev
open Go Go.Proofs Go.Proofs.Ev
set_option linter.unusedVariables false
set_option linter.unusedSimpArgs false
section
variable {n:Nat}
theorem bifne {α:Type} (a b:Int) (x y:α):(bif a != b then x else y)=if a=b then y else x:=by
 by_cases h:a=b
 ·subst h; simp
 ·rw [if_neg h,bne_iff_ne.2 h,cond_true]
theorem pw_l (n L:Nat) (hL:L≤18):∀ (d i m:Nat),i+d=L→d < m→Q1z.l n m (.z3 ((10 ^ i:Nat):Int) (L:Int) (i:Int))=some ((10 ^ L:Nat):Int)
 | _,_,0,_,h=>absurd h (by omega)
 | 0,i,m+1,h,_=>by
  obtain rfl:i=L:=by omega
  rw [Q1z.at3]
  unfold Q1z.r3
  rw [cond_f (by omega)]
 | d+1,i,m+1,h,hm=>by
  have ih:=pw_l n L hL d (i+1) m (by omega) (by omega)
  have hp:10 ^ (i+1)≤10 ^ 18:=Nat.pow_le_pow_right (by omega) (by omega)
  have he:10 ^ (i+1)=10 ^ i*10:=Nat.pow_succ ..
  rw [Q1z.at3]
  unfold Q1z.r3
  rw [cond_t (by omega),wsucc (by omega),w64 (by omega) (by omega),show ((10 ^ i:Nat):Int)*10=((10 ^ (i+1):Nat):Int) by omega]
  exact ih
theorem power_eq (hn:1001≤n) {l:Int} (h0:0≤l) (h1:l≤18):Q1z.F n l=some ((10 ^ l.toNat:Nat):Int):=by
 unfold Q1z.F Q1z.e
 have:=pw_l n l.toNat (by omega) l.toNat 0 n (by omega) (by omega)
 rw [if_neg (by omega)]
 rw [show ((l.toNat:Nat):Int)=l by omega] at this
 exact this
theorem pwR_l (n L:Nat) (hL:L≤18):∀ (d i m:Nat),i+d=L→d < m→Q0e.l n m (.z3 (L:Int) ((10 ^ i:Nat):Int) (i:Int))=some ((10 ^ L:Nat):Int)
 | _,_,0,_,h=>absurd h (by omega)
 | 0,i,m+1,h,_=>by
  obtain rfl:i=L:=by omega
  rw [Q0e.at3]
  unfold Q0e.r3
  rw [cond_f (by omega)]
 | d+1,i,m+1,h,hm=>by
  have ih:=pwR_l n L hL d (i+1) m (by omega) (by omega)
  have hp:10 ^ (i+1)≤10 ^ 18:=Nat.pow_le_pow_right (by omega) (by omega)
  have he:10 ^ (i+1)=10 ^ i*10:=Nat.pow_succ ..
  rw [Q0e.at3]
  unfold Q0e.r3
  rw [cond_t (by omega),wsucc (by omega),w64 (by omega) (by omega),show ((10 ^ i:Nat):Int)*10=((10 ^ (i+1):Nat):Int) by omega]
  exact ih
theorem powerR_eq (hn:1001≤n) {l:Int} (h0:0≤l) (h1:l≤18):Q0e.F n l=some ((10 ^ l.toNat:Nat):Int):=by
 unfold Q0e.F Q0e.e
 have:=pwR_l n l.toNat (by omega) l.toNat 0 n (by omega) (by omega)
 rw [show ((l.toNat:Nat):Int)=l by omega] at this
 exact this
def mostT (l:Int):Int:=((10 ^ l.toNat:Nat):Int) - 1
def valE (k l vn:Int) (vx:List UInt8):Int:=
 if k=0 then (if vn≠0 then 5 else if (vx.length:Int)≠l then 18 else 0) else (if vx≠[] then 5 else if ¬ (-(mostT l)≤vn∧vn≤mostT l) then 19 else 0)
theorem mostT_range {l:Int} (h1:l≤18):0≤mostT l∧mostT l≤1000000000000000000:=by
 unfold mostT
 have hp:10 ^ l.toNat≤10 ^ 18:=Nat.pow_le_pow_right (by omega) (by omega)
 have hq:0 < 10 ^ l.toNat:=Nat.pow_pos (by omega)
 omega
theorem checkValue_eq (hn:1001≤n) {k l s vn:Int} {vx:List UInt8} (ht:chkT k l s=0) (h4:k≠4):Q1m.F n k l s vn (bs vx)=some (valE k l vn vx):=by
 unfold Q1m.F Q1m.e valE
 have hc:=chkT_cases ht
 simp only [check_eq hn,ncond_eq,nfirst2 hn,Option.bind_some,ht,beq_int,h4,decide_false,Bool.false_eq_true,if_false,ne_eq,not_true_eq_false,bifne,if_true,bif_ite,empty_eq]
 by_cases h0:k=0
 ·rw [if_pos h0,if_pos h0]
  by_cases h1:vn=0 <;> by_cases h2:((vx.length:Nat):Int)=l <;> simp [h1,h2,bs_size]
 ·rw [if_neg h0,if_neg h0,power_eq hn (by omega) (by omega),Option.bind_some]
  have hm:=mostT_range (l:=l) (by omega)
  have e:IntKind.i64.wrap (((10 ^ l.toNat:Nat):Int) - 1)=mostT l:=by
   unfold mostT at hm ⊢
   rw [w64 (by omega) (by omega)]
  rw [e,w64 (x:=0 - mostT l) (by omega) (by omega),in_eq,Option.bind_some,show (0:Int) - mostT l=-(mostT l) by omega]
  by_cases h1:vx=[] <;> by_cases h2 : -(mostT l)≤vn∧vn≤mostT l <;> simp [h1,h2]
theorem valueErr_eq (hn:1001≤n) {k l s vn:Int} {vx:List UInt8} (ht:chkT k l s=0) (h4:k≠4):Q0w.F n k l s vn (bs vx)=some (valE k l vn vx):=by
 obtain ⟨m,rfl⟩ : ∃ m,n=m+2:=⟨n - 2,by omega⟩
 unfold Q0w.F Q0w.e valE
 have hc:=chkT_cases ht
 simp only [typeErr_eq (show 3≤m+2 by omega),Option.bind_some,ht,bif_eq0,h4,if_false,bifne,if_true,empty_eq,Q0w.at7,Q0w.at8,bif_not]
 unfold Q0w.r7 Q0w.r8
 simp only [bif_eq0,count_eq,Option.bind_some]
 by_cases h0:k=0
 ·simp only [if_pos h0]
  by_cases h1:vn=0 <;> by_cases h2:((vx.length:Nat):Int)=l <;> simp [h1,h2,bs_size] <;> decide
 ·simp only [if_neg h0]
  have hm:=mostT_range (l:=l) (by omega)
  have hM:Q0t.F (m+2) k l s=some (mostT l):=by
   unfold Q0t.F Q0t.e
   rw [powerR_eq hn (by omega) (by omega),Option.bind_some]
   unfold mostT at hm ⊢
   rw [w64 (by omega) (by omega)]
  simp only [hM,Option.bind_some]
  rw [w64 (x:=0 - mostT l) (by omega) (by omega),Within_eq,Option.bind_some,show (0:Int) - mostT l=-(mostT l) by omega]
  by_cases h1:vx=[] <;> by_cases h2 : -(mostT l)≤vn∧vn≤mostT l <;> simp [h1,h2] <;> decide
def zOP:OP:=⟨[],0,0,0,0,0,[],[],0,0⟩
def okT (os:List OP):Prop:=∀ o∈os,isDt o.kd=true→chkT o.k o.l o.s=0
def under (before:List OP) (o:OP):OP:=before.getD (ixs (onames before) o.ba 0).toNat zOP
def baE (before:List OP) (o:OP):Int:=
 if (onames before).contains o.ba=false then 11
 else if o.kd=2 then (if (under before o).kd≠3 then 17 else if ¬ (0≤o.of∧o.of≤256) then 3 else 0)
 else if (under before o).kd≠0 then 17 else if ¬ (0≤o.of∧o.of≤szT (under before o).k (under before o).l - szT o.k o.l) then 3 else 0
theorem under_in {before:List OP} {o:OP} (h:(onames before).contains o.ba=true):∃ j,∃ hj:j < before.length,ixs (onames before) o.ba 0=(j:Int)∧under before o=before[j]:=by
 obtain ⟨j,h1,h2,h3⟩:=ixs_in (onames before) o.ba 0 h
 rw [onames_length] at h1
 refine ⟨j,h1,by rw [h2,Nat.zero_add],?_⟩
 unfold under
 rw [h2,Nat.zero_add,Int.toNat_natCast,List.getD_eq_getElem?_getD,List.getElem?_eq_getElem h1,Option.getD_some]
theorem bif_none {b:Bool} (h:b=true) {α:Type} (x:Option α):(bif b then x else none)=x:=by rw [h]; rfl
theorem baseErr_eq (hn:1001≤n) (before:List OP) (hb:before.length≤1000) (hok:okT before) (o:OP) (hk:o.kd=1∨o.kd=2) (ht:chkT o.k o.l o.s=0) :
  Q28.F n (bs o.nm) o.kd o.k o.l o.s o.vn (bs o.vx) (bs o.ba) o.of o.tg (before.map OP.av)=some (baE before o):=by
 unfold Q28.F Q28.e baE
 rw [named_eq hn before hb,Option.bind_some]
 by_cases hc:(onames before).contains o.ba=true
 ·obtain ⟨j,hj,e1,e2⟩:=under_in hc
  rw [e1,e2,if_neg (by rw [hc]; simp),cond_f (by omega)]
  simp (disch:=omega) only [Option.bind_some,Option.bind_none,cond_true,cond_false,Bool.not_true,Bool.not_false,List.length_map,Ws_length,bs_size,within_t,upto_t,wsucc,Int.toNat_natCast,at_mapN,Ws_getDN,cells_agg,cells_v,withCons_cons,withInt_mk,withStr_mk,withBool_mk,withSl_mk,cond_t,cond_f,OP.av]
  rw [bif_eq0]
  by_cases h2:o.kd=2
  ·rw [if_pos h2,if_pos h2,cond_eq,Option.bind_some,pin_eq,Option.bind_some,cond_eq,Option.bind_some]
   rw [first2 hn,Option.bind_some]
   by_cases h3:before[j].kd=3 <;> by_cases h4:0≤o.of∧o.of≤256 <;> simp [h3,h4]
  ·rw [if_neg h2,if_neg h2,bifne]
   by_cases h0:before[j].kd=0
   ·have hd:isDt before[j].kd=true:=by simp [isDt,h0]
    have hu:=hok _ (List.getElem_mem hj) hd
    have r1:=szT_range hu
    have r2:=szT_range ht
    rw [if_pos h0,if_neg (by simp [h0])]
    unfold Q2y.F Q2y.e
    rw [sizeOf_eq hn hu,Option.bind_some,Option.bind_some,sizeOf_eq hn ht,Option.bind_some,Option.bind_some,w64 (by omega) (by omega),pin_eq,Option.bind_some,cond_eq,Option.bind_some]
    by_cases h4:0≤o.of∧o.of≤szT before[j].k before[j].l - szT o.k o.l <;> simp [h4]
   ·rw [if_neg h0,if_pos h0]
 ·rw [Bool.not_eq_true] at hc
  rw [ixs_out hc,if_pos hc,cond_t (by omega)]
def opE (before:List OP) (o:OP) (nI:Nat):Int:=
 if isNm o.nm=false then 7 else if (onames before).contains o.nm=true then 13 else if ¬ (0≤o.kd∧o.kd≤5) then 4 else if extra o=true then 5
 else if isDt o.kd=true∧chkT o.k o.l o.s≠0 then chkT o.k o.l o.s else if isDt o.kd=true∧o.k=4 then 17
 else if o.kd=0∨o.kd=4 then valE o.k o.l o.vn o.vx else if o.kd=1∨o.kd=2 then baE before o else if o.kd=5 then (if 0≤o.tg∧o.tg≤(nI:Int) - 1 then 0 else 3) else 0
theorem opErr_eq (hn:1001≤n) (os:List OP) (ho:os.length≤1000) (is:List IN) (hi' : is.length≤1000) (a2:List AV) (i:Nat) (hi:i < os.length) (hok:okT (os.take i)) :
  Q2t.F n (os.map OP.av) (is.map IN.av) a2 (i:Int)=some (opE (os.take i) os[i] is.length):=by
 obtain ⟨m,rfl⟩ : ∃ m,n=m+2:=⟨n - 2,by omega⟩
 unfold Q2t.F Q2t.e
 simp (disch:=omega) only [Option.bind_some,Option.bind_none,cond_true,cond_false,Bool.not_true,Bool.not_false,List.length_map,Ws_length,bs_size,within_t,upto_t,wsucc,Int.toNat_natCast,at_mapN,Ws_getDN,cells_agg,cells_v,withCons_cons,withInt_mk,withStr_mk,withBool_mk,withSl_mk,cond_t,cond_f,OP.av]
 rw [show ((os.map OP.av).take i).drop 0=(os.take i).map OP.av by simp [List.map_take]]
 obtain ⟨p,hp1,hp2⟩:=kept_eq hn os[i]
 simp only [isName_eq hn,cond_eq,Option.bind_some,named_eq hn (os.take i) (by rw [List.length_take]; omega),pin_eq,hp1,pData_eq]
 have hfz:=first_eq (n:=m+2) [(if (!isNm os[i].nm)=true then 7 else 0),(if decide (ixs (onames (os.take i)) os[i].nm 0≥0)=true then 13 else 0),(if (!decide (0≤os[i].kd∧os[i].kd≤5))=true then 4 else 0),(if kEq p os[i]=true then 5 else 0)] (by simp) hn
 have hfz' : Q2c.F (m+2) [vi (if (!isNm os[i].nm)=true then 7 else 0),vi (if decide (ixs (onames (os.take i)) os[i].nm 0≥0)=true then 13 else 0),vi (if (!decide (0≤os[i].kd∧os[i].kd≤5))=true then 4 else 0),vi (if kEq p os[i]=true then 5 else 0)]=_:=hfz
 rw [ixs_has] at hfz'
 simp only [ixs_has,ge_iff_le] at hfz' ⊢
 unfold kEq at hfz'
 rw [hfz']
 show (some (fz [(if (!isNm os[i].nm)=true then 7 else 0),(if (onames (os.take i)).contains os[i].nm=true then 13 else 0),(if (!decide (0≤os[i].kd∧os[i].kd≤5))=true then 4 else 0),(if kEq p os[i]=true then 5 else 0)])).bind _=_
 rw [Option.bind_some]
 clear hfz hfz' hp1
 unfold opE
 cases h1:isNm os[i].nm with
 | false=>simp [fz]
 | true=>
  cases h2:(onames (os.take i)).contains os[i].nm with
  | true=>simp [fz]
  | false=>
   by_cases hk:0≤os[i].kd∧os[i].kd≤5
   ·rw [hp2 hk]
    cases he:extra os[i] with
    | true=>simp [fz,hk]
    | false=>
     have hz:fz [(if (!true)=true then 7 else 0),(if false=true then 13 else 0),(if (!decide (0≤os[i].kd∧os[i].kd≤5))=true then 4 else 0),(if false=true then 5 else 0)]=0:=by simp [fz,hk]
     rw [hz,bifne,if_pos rfl]
     simp only [if_neg (show ¬ (true=false) by simp),if_neg (show ¬ (false=true) by simp),if_neg (not_not_intro hk)]
     simp only [check_eq hn,Option.bind_some,first2 hn,bif_eq0,bifne,Q2t.at12,Q2t.at15]
     unfold Q2t.r12 Q2t.r15
     have hd:os[i].kd=0∨os[i].kd=1∨os[i].kd=2∨os[i].kd=3∨os[i].kd=4∨os[i].kd=5:=by omega
     cases hdt:isDt os[i].kd with
     | true=>
      rw [cond_true]
      by_cases ht:chkT os[i].k os[i].l os[i].s=0
      ·by_cases h4:os[i].k=4
       ·have ht':=ht
        rw [h4] at ht'
        simp [ht',h4]
       ·simp only [isDt,decide_eq_true_eq] at hdt
        have hv:=checkValue_eq (vn:=os[i].vn) (vx:=os[i].vx) hn ht h4
        rcases hdt with h | h | h | h
        ·simp [h,ht,h4,hv]
        ·have hb:=baseErr_eq hn (os.take i) (by rw [List.length_take]; omega) hok os[i] (.inl h) ht
         rw [h] at hb
         simp [h,ht,h4,← List.map_take,hb]
        ·have hb:=baseErr_eq hn (os.take i) (by rw [List.length_take]; omega) hok os[i] (.inr h) ht
         rw [h] at hb
         simp [h,ht,h4,← List.map_take,hb]
        ·simp [h,ht,h4,hv]
      ·simp [ht]
     | false=>
      rw [cond_false]
      simp only [isDt,decide_eq_false_iff_not] at hdt
      have hd2:os[i].kd=3∨os[i].kd=5:=by omega
      rcases hd2 with h | h
      ·simp [h]
      ·rw [w64 (by omega) (by omega)]
       by_cases h6:0≤os[i].tg∧os[i].tg≤(is.length:Int) - 1 <;> simp [h,h6]
   ·have hk' : decide (0≤os[i].kd∧os[i].kd≤5)=false:=by rw [decide_eq_false_iff_not]; exact hk
    rw [hk',if_pos hk]
    simp [fz]
theorem ixs_split {os:List OP} {i:Nat} (hi:i < os.length) (s:List UInt8):ixs (onames os) s 0=if (onames (os.take i)).contains s=true then ixs (onames (os.take i)) s 0 else ixs ((onames os).drop i) s i:=by
 have h:=ixs_app ((onames os).take i) ((onames os).drop i) s 0
 rw [List.take_append_drop,List.length_take,onames_length,Nat.min_eq_left (by omega),Nat.zero_add] at h
 rw [onames_take]
 exact h
theorem opErrR_eq (hn:1001≤n) (os:List OP) (ho:os.length≤1000) (is:List IN) (hi' : is.length≤1000) (a2:List AV) (i:Nat) (hi:i < os.length) (hok:okT (os.take i)) :
  Q1f.F n (os.map OP.av) (is.map IN.av) a2 (i:Int)=some (opE (os.take i) os[i] is.length):=by
 obtain ⟨m,rfl⟩ : ∃ m,n=m+4:=⟨n - 4,by omega⟩
 have h36:∀ q,Q1f.l (m+4) (q+1) .z36=some 0:=fun _=>rfl
 have h27:∀ q,Q1f.l (m+4) (q+1) .z27=some 17:=fun _=>rfl
 unfold Q1f.F Q1f.e
 simp (disch:=omega) only [Option.bind_some,Option.bind_none,cond_true,cond_false,Bool.not_true,Bool.not_false,List.length_map,Ws_length,bs_size,within_t,upto_t,wsucc,Int.toNat_natCast,at_mapN,Ws_getDN,cells_agg,cells_v,withCons_cons,withInt_mk,withStr_mk,withBool_mk,withSl_mk,cond_t,cond_f,OP.av]
 simp only [isNameR_eq hn,Option.bind_some,at_eq hn os ho,Within_eq,rData_eq,bif_not,bif_eq0,bifne,typeErr_eq (show 3≤m+4 by omega)]
 unfold opE
 cases h1:isNm os[i].nm with
 | false=>simp
 | true=>
  have hlt:decide (ixs (onames os) os[i].nm 0 < (i:Int))=(onames (os.take i)).contains os[i].nm:=by
   have:=ixs_lt (onames os) os[i].nm 0 i (by rw [onames_length]; exact hi) (by rw [List.getElem?_eq_getElem (by rw [onames_length]; exact hi),onames_get hi])
   rw [Nat.zero_add] at this
   rw [this,onames_take]
  rw [hlt]
  cases h2:(onames (os.take i)).contains os[i].nm with
  | true=>simp
  | false=>
   by_cases hk:0≤os[i].kd∧os[i].kd≤5
   ·rw [hasExtra_eq hn os[i] hk,Option.bind_some]
    cases he:extra os[i] with
    | true=>simp [hk]
    | false=>
     simp only [if_neg (show ¬ (true=false) by simp),if_neg (show ¬ (false=true) by simp),if_neg (not_not_intro hk),decide_eq_true hk,cond_false,if_false]
     simp only [Q1f.at20,Q1f.at23,h36]
     unfold Q1f.r20 Q1f.r23
     cases hdt:isDt os[i].kd with
     | true=>
      rw [cond_true]
      by_cases ht:chkT os[i].k os[i].l os[i].s=0
      ·by_cases h4:os[i].k=4
       ·have ht':=ht
        rw [h4] at ht'
        simp [ht',h4]
       ·simp only [isDt,decide_eq_true_eq] at hdt
        have hv:=valueErr_eq (vn:=os[i].vn) (vx:=os[i].vx) hn ht h4
        have hb:(os[i].kd=1∨os[i].kd=2)→(bif ixs (onames os) os[i].ba 0==(-1) then some 11 else (bif decide (ixs (onames os) os[i].ba 0≥(i:Int)) then some 11 else (bif decide ((0:Int)≤ixs (onames os) os[i].ba 0)&&decide (ixs (onames os) os[i].ba 0 < (((os.map OP.av).length:Nat):Int)) then (withCons (((os.map OP.av).getD ((ixs (onames os) os[i].ba 0).toNat) .undef).cells) fun h44 r45=>
 withStr h44 fun s46=>
 withCons r45 fun h47 r48=>
 withInt .i64 h47 fun x49=>
 withCons r48 fun h50 r51=>
 withInt .i64 h50 fun x52=>
 withCons r51 fun h53 r54=>
 withInt .i64 h53 fun x55=>
 withCons r54 fun h56 r57=>
 withInt .i64 h56 fun x58=>
 withCons r57 fun h59 r60=>
 withInt .i64 h59 fun x61=>
 withCons r60 fun h62 r63=>
 withStr h62 fun s64=>
 withCons r63 fun h65 r66=>
 withStr h65 fun s67=>
 withCons r66 fun h68 r69=>
 withInt .i64 h68 fun x70=>
 withCons r69 fun h71 r72=>
 withInt .i64 h71 fun x73=>
 bif os[i].kd==1 then (bif x49 != 0 then (Q1f.l (m+4) (m+3) .z27) else (bif os[i].kd==2 then (bif x49 != 3 then (Q1f.l (m+4) (m+3) .z27) else (Q1f.l (m+4) (m+3) (.z28 (bs os[i].nm) os[i].kd os[i].k os[i].l os[i].s os[i].vn (bs os[i].vx) (bs os[i].ba) os[i].of os[i].tg s46 x49 x52 x55 x58 x61 s64 s67 x70 x73))) else (Q1f.l (m+4) (m+3) (.z28 (bs os[i].nm) os[i].kd os[i].k os[i].l os[i].s os[i].vn (bs os[i].vx) (bs os[i].ba) os[i].of os[i].tg s46 x49 x52 x55 x58 x61 s64 s67 x70 x73)))) else (bif os[i].kd==2 then (bif x49 != 3 then (Q1f.l (m+4) (m+3) .z27) else (Q1f.l (m+4) (m+3) (.z28 (bs os[i].nm) os[i].kd os[i].k os[i].l os[i].s os[i].vn (bs os[i].vx) (bs os[i].ba) os[i].of os[i].tg s46 x49 x52 x55 x58 x61 s64 s67 x70 x73))) else (Q1f.l (m+4) (m+3) (.z28 (bs os[i].nm) os[i].kd os[i].k os[i].l os[i].s os[i].vn (bs os[i].vx) (bs os[i].ba) os[i].of os[i].tg s46 x49 x52 x55 x58 x61 s64 s67 x70 x73)))) else none)))=some (baE (os.take i) os[i]):=by
         intro hkd
         unfold baE
         rw [ixs_split hi]
         cases hc:(onames (os.take i)).contains os[i].ba with
         | false=>
          rw [if_neg (by simp),if_pos rfl]
          rcases ixs_low ((onames os).drop i) os[i].ba i with h5 | h5
          ·rw [h5]; rfl
          ·rw [bif_eq0,cond_t (by omega)]; simp
         | true=>
          obtain ⟨j,hj,e1,e2⟩:=under_in hc
          rw [if_pos rfl,if_neg (by simp),e1,e2]
          have hj' : j < i:=by rw [List.length_take] at hj; omega
          have e3:(os.take i)[j]=os[j]:=by simp
          rw [e3,bif_eq0,if_neg (by omega),cond_f (by omega)]
          simp (disch:=omega) only [Option.bind_some,Option.bind_none,cond_true,cond_false,Bool.not_true,Bool.not_false,List.length_map,Ws_length,bs_size,within_t,upto_t,wsucc,Int.toNat_natCast,at_mapN,Ws_getDN,cells_agg,cells_v,withCons_cons,withInt_mk,withStr_mk,withBool_mk,withSl_mk,cond_t,cond_f,OP.av,h27,bifne,bif_eq0,Q1f.at28]
          unfold Q1f.r28
          simp only [bif_eq0,h36,Within_eq,Option.bind_some,bif_not]
          rcases hkd with h | h
          ·rw [if_pos h,if_neg (show ¬ os[i].kd=2 by omega),if_neg (show ¬ os[i].kd=2 by omega)]
           by_cases h0:os[j].kd=0
           ·have hd:isDt os[j].kd=true:=by simp [isDt,h0]
            have hu:=hok os[j] (by rw [← e3]; exact List.getElem_mem hj) hd
            have r1:=szT_range hu
            have r2:=szT_range ht
            rw [if_pos h0,if_neg (show ¬ (os[j].kd≠0) by simp [h0]),if_pos h,bsize_eq _ hu,Option.bind_some,bsize_eq _ ht,Option.bind_some,w64 (by omega) (by omega)]
            by_cases h5:0≤os[i].of∧os[i].of≤szT os[j].k os[j].l - szT os[i].k os[i].l <;> simp [h5]
           ·rw [if_neg h0,if_pos h0]
          ·rw [if_neg (show ¬ os[i].kd=1 by omega),if_pos h,if_pos h,if_neg (show ¬ os[i].kd=1 by omega)]
           by_cases h3:os[j].kd=3
           ·by_cases h5:0≤os[i].of∧os[i].of≤256 <;> simp [h3,h5]
           ·rw [if_neg h3,if_pos h3]
        simp only [ht,h4,if_true,if_false,ne_eq,not_true_eq_false,and_false]
        rcases hdt with h | h | h | h
        ·simp [h,hv]
        ·rw [if_neg (by omega),if_neg (by omega),if_pos h,if_neg (by omega),if_pos (.inl h)]
         exact hb (.inl h)
        ·rw [if_neg (by omega),if_neg (by omega),if_neg (by omega),if_pos h,if_neg (by omega),if_pos (.inr h)]
         exact hb (.inr h)
        ·simp [h,hv]
      ·simp [ht]
     | false=>
      rw [cond_false]
      simp only [isDt,decide_eq_false_iff_not] at hdt
      have hd2:os[i].kd=3∨os[i].kd=5:=by omega
      rcases hd2 with h | h
      ·simp [h]
      ·rw [List.length_map,w64 (by omega) (by omega)]
       by_cases h6:0≤os[i].tg∧os[i].tg≤(is.length:Int) - 1 <;> simp [h,h6]
   ·have hk' : decide (0≤os[i].kd∧os[i].kd≤5)=false:=by rw [decide_eq_false_iff_not]; exact hk
    rw [hk',if_pos hk]
    simp
end
end Go.Proofs.YtnoldakbllfmnaaGreatDoor.Ev
namespace Go.Proofs.YtnoldakbllfmnaaGreatDoor.Ev
open Go Go.Proofs Go.Proofs.Ev
set_option linter.unusedVariables false
set_option linter.unusedSimpArgs false
theorem rep_eq (m k:Nat) (hk:k≤28):Q3b.F (m+40) [vi (-1)] ((k:Nat):Int)=some (List.replicate k (vi (-1))):=by
 have hd:k=0∨k=1∨k=2∨k=3∨k=4∨k=5∨k=6∨k=7∨k=8∨k=9∨k=10∨k=11∨k=12∨k=13∨k=14∨k=15∨k=16∨k=17∨k=18∨k=19∨k=20∨k=21∨k=22∨k=23∨k=24∨k=25∨k=26∨k=27∨k=28:=by omega
 rcases hd with rfl | rfl | rfl | rfl | rfl | rfl | rfl | rfl | rfl | rfl | rfl | rfl | rfl | rfl | rfl | rfl | rfl | rfl | rfl | rfl | rfl | rfl | rfl | rfl | rfl | rfl | rfl | rfl | rfl <;> (show _=_; kernel_rfl)
def r1:List OP→Int→List Int
 | [],_=>[]
 | o::r,a=>if o.kd=3 then a::r1 r (IntKind.i64.wrap (a+16)) else -1::r1 r a
def e1:List OP→Int→Int
 | [],a=>a
 | o::r,a=>e1 r (if o.kd=3 then IntKind.i64.wrap (a+16) else a)
def p2:List OP→Nat→List Int→Int→List Int × Int
 | [],_,row,a=>(row,a)
 | o::r,i,row,a=>if o.kd=0 then p2 r (i+1) (row.set i a) (IntKind.i64.wrap (a+szT o.k o.l)) else p2 r (i+1) row a
def p3 (os:List OP):List OP→Nat→List Int→List Int
 | [],_,row=>row
 | o::r,i,row=>if o.kd=1 then p3 os r (i+1) (row.set i (IntKind.i64.wrap (row.getD (ixs (onames os) o.ba 0).toNat 0+o.of))) else p3 os r (i+1) row
def layX (os:List OP):List Int × Int:=(p3 os os 0 (p2 os 0 (r1 os 0) (e1 os 0)).1,IntKind.i64.wrap (Int.tdiv (IntKind.i64.wrap (IntKind.i64.wrap ((p2 os 0 (r1 os 0) (e1 os 0)).2+16) - 1)) 16))
theorem r1_snoc:∀ (xs:List OP) (o:OP) (a:Int),r1 (xs++[o]) a=r1 xs a++[if o.kd=3 then e1 xs a else -1]
 | [],o,a=>by by_cases h:o.kd=3 <;> simp [r1,e1,h]
 | x::xs,o,a=>by by_cases h:x.kd=3 <;> simp [r1,e1,h,r1_snoc xs o]
theorem e1_snoc:∀ (xs:List OP) (o:OP) (a:Int),e1 (xs++[o]) a=if o.kd=3 then IntKind.i64.wrap (e1 xs a+16) else e1 xs a
 | [],o,a=>rfl
 | x::xs,o,a=>by simp [e1,e1_snoc xs o]
theorem r1_length:∀ (xs:List OP) (a:Int),(r1 xs a).length=xs.length
 | [],a=>rfl
 | x::xs,a=>by by_cases h:x.kd=3 <;> simp [r1,h,r1_length xs]
def okL (os:List OP):Prop:=okT os∧∀ o∈os,o.kd=1→(onames os).contains o.ba=true
theorem set_mid {α:Type} (f:Int→α) (A B:List Int) (b x:Int) {i:Nat} (h:A.length=i):((A++b::B).map f).set i (f x)=((A++[x])++B).map f:=by
 subst h
 simp [List.set_append]
theorem map_set_i (row:List Int) (i:Nat) (x:Int):(row.map vi).set i (vi x)=(row.set i x).map vi:=by rw [List.map_set]
section
variable {n:Nat}
theorem lay4 (os:List OP) (ho:os.length≤1000) (zo:List AV) (K:Option (List AV × Int)) (hK:∀ m,2*os.length+40≤m→Q2n.l n m (.z10 zo (e1 os 0) zo ((zo.length:Nat):Int) 0 ((r1 os 0).map vi))=K):∀ (d i m:Nat),i+d=os.length→d+(2*os.length+40) < m→
  Q2n.l n m (.z4 zo (e1 (os.take i) 0) (os.map OP.av) os.length i ((r1 (os.take i) 0++List.replicate d (-1)).map vi))=K
 | _,_,0,_,h=>absurd h (by omega)
 | 0,i,m+1,h,hm=>by
  rw [Q2n.at4]
  unfold Q2n.r4
  rw [cond_f (by omega),List.take_of_length_le (by omega)]
  simp only [List.replicate_zero,List.append_nil]
  exact hK m (by omega)
 | d+1,i,m+1,h,hm=>by
  have hi:i < os.length:=by omega
  have ih:=lay4 os ho zo K hK d (i+1) m (by omega) (by omega)
  have hl:(r1 (os.take i) 0).length=i:=by rw [r1_length,List.length_take]; omega
  rw [Q2n.at4]
  unfold Q2n.r4
  simp (disch:=omega) only [Option.bind_some,Option.bind_none,cond_true,cond_false,Bool.not_true,Bool.not_false,List.length_map,Ws_length,bs_size,within_t,upto_t,wsucc,Int.toNat_natCast,at_mapN,Ws_getDN,cells_agg,cells_v,withCons_cons,withInt_mk,withStr_mk,withBool_mk,withSl_mk,cond_t,cond_f,OP.av,List.length_append,List.length_replicate,hl]
  rw [List.take_succ_eq_append_getElem hi,r1_snoc,e1_snoc] at ih
  rw [bif_eq0]
  by_cases h3:os[i].kd=3
  ·rw [if_pos h3,if_pos h3] at ih
   rw [if_pos h3,List.replicate_succ,set_mid vi _ _ _ _ hl]
   exact ih
  ·rw [if_neg h3,if_neg h3] at ih
   rw [if_neg h3,List.replicate_succ,← ih]
   simp
theorem lay10 (hn:1001≤n) (os:List OP) (ho:os.length≤1000) (hok:okT os) (zo:List AV) (G:List Int × Int→Option (List AV × Int)) (hK:∀ m row a,os.length+10≤m→row.length=os.length→Q2n.l n m (.z16 zo a zo ((zo.length:Nat):Int) 0 (row.map vi))=G (row,a)):∀ (d i m:Nat) (row:List Int) (a:Int),i+d=os.length→d+(os.length+10) < m→row.length=os.length→
  Q2n.l n m (.z10 zo a (os.map OP.av) os.length i (row.map vi))=G (p2 (os.drop i) i row a)
 | _,_,0,_,_,_,h,_=>absurd h (by omega)
 | 0,i,m+1,row,a,h,hm,hr=>by
  rw [Q2n.at10]
  unfold Q2n.r10
  rw [cond_f (by omega),List.drop_of_length_le (by omega)]
  exact hK m row a (by omega) hr
 | d+1,i,m+1,row,a,h,hm,hr=>by
  have hi:i < os.length:=by omega
  have ih:=fun row' a' hr'=>lay10 hn os ho hok zo G hK d (i+1) m row' a' (by omega) (by omega) hr'
  rw [Q2n.at10]
  unfold Q2n.r10
  simp (disch:=omega) only [Option.bind_some,Option.bind_none,cond_true,cond_false,Bool.not_true,Bool.not_false,List.length_map,Ws_length,bs_size,within_t,upto_t,wsucc,Int.toNat_natCast,at_mapN,Ws_getDN,cells_agg,cells_v,withCons_cons,withInt_mk,withStr_mk,withBool_mk,withSl_mk,cond_t,cond_f,OP.av,hr]
  rw [List.drop_eq_getElem_cons hi,bif_eq0]
  unfold p2
  by_cases h0:os[i].kd=0
  ·have hd:isDt os[i].kd=true:=by simp [isDt,h0]
   rw [if_pos h0,if_pos h0]
   unfold Q2y.F Q2y.e
   rw [sizeOf_eq hn (hok _ (List.getElem_mem hi) hd),Option.bind_some,Option.bind_some,map_set_i,ih _ _ (by simpa using hr)]
  ·rw [if_neg h0,if_neg h0,ih _ _ hr]
theorem lay16 (hn:1001≤n) (os:List OP) (ho:os.length≤1000) (hok:∀ o∈os,o.kd=1→(onames os).contains o.ba=true) (a:Int):∀ (d i m:Nat) (row:List Int),i+d=os.length→d < m→row.length=os.length→
  Q2n.l n m (.z16 (os.map OP.av) a (os.map OP.av) os.length i (row.map vi))=some ((p3 os (os.drop i) i row).map vi,IntKind.i64.wrap (Int.tdiv (IntKind.i64.wrap (IntKind.i64.wrap (a+16) - 1)) 16))
 | _,_,0,_,_,h,_=>absurd h (by omega)
 | 0,i,m+1,row,h,hm,hr=>by
  rw [Q2n.at16]
  unfold Q2n.r16
  rw [cond_f (by omega),List.drop_of_length_le (by omega)]
  rfl
 | d+1,i,m+1,row,h,hm,hr=>by
  have hi:i < os.length:=by omega
  have ih:=fun row' hr'=>lay16 hn os ho hok a d (i+1) m row' (by omega) (by omega) hr'
  rw [Q2n.at16]
  unfold Q2n.r16
  simp (disch:=omega) only [Option.bind_some,Option.bind_none,cond_true,cond_false,Bool.not_true,Bool.not_false,List.length_map,Ws_length,bs_size,within_t,upto_t,wsucc,Int.toNat_natCast,at_mapN,Ws_getDN,cells_agg,cells_v,withCons_cons,withInt_mk,withStr_mk,withBool_mk,withSl_mk,cond_t,cond_f,OP.av,hr]
  rw [List.drop_eq_getElem_cons hi,bif_eq0]
  unfold p3
  by_cases h1:os[i].kd=1
  ·obtain ⟨k,hk,e,_⟩:=ixs_in (onames os) os[i].ba 0 (hok _ (List.getElem_mem hi) h1)
   rw [onames_length] at hk
   rw [if_pos h1,if_pos h1,named_eq hn os ho,Option.bind_some,e,Nat.zero_add]
   have hkr:k < row.length:=by omega
   simp (disch:=omega) only [Option.bind_some,Option.bind_none,cond_true,cond_false,Bool.not_true,Bool.not_false,List.length_map,Ws_length,bs_size,within_t,upto_t,wsucc,Int.toNat_natCast,at_mapN,Ws_getDN,cells_agg,cells_v,withCons_cons,withInt_mk,withStr_mk,withBool_mk,withSl_mk,cond_t,cond_f,hr]
   rw [map_set_i,ih _ (by simpa using hr)]
   simp [List.getD_eq_getElem?_getD,hkr]
  ·rw [if_neg h1,if_neg h1,ih _ hr]
theorem layout_eq (hn:1001≤n) (os:List OP) (ho:os.length≤28) (hok:okL os):Q2n.F n (os.map OP.av)=some ((layX os).1.map vi,(layX os).2):=by
 obtain ⟨m,rfl⟩ : ∃ m,n=m+40:=⟨n - 40,by omega⟩
 unfold Q2n.F Q2n.e
 rw [List.length_map,rep_eq m _ ho,Option.bind_some]
 have h:=lay4 (n:=m+40) os (by omega) (os.map OP.av) (some ((layX os).1.map vi,(layX os).2)) (fun q hq=>by
  rw [List.length_map]
  have h10:=lay10 (n:=m+40) hn os (by omega) hok.1 (os.map OP.av) (fun x=>some ((p3 os os 0 x.1).map vi,IntKind.i64.wrap (Int.tdiv (IntKind.i64.wrap (IntKind.i64.wrap (x.2+16) - 1)) 16))) (fun q' row a hq' hr=>by
   rw [List.length_map]
   have h16:=lay16 (n:=m+40) hn os (by omega) hok.2 a os.length 0 q' row (by omega) (by omega) hr
   rw [List.drop_zero] at h16
   exact h16) os.length 0 q (r1 os 0) (e1 os 0) (by omega) (by omega) (r1_length os 0)
  rw [List.drop_zero] at h10
  exact h10) os.length 0 (m+40) (by omega) (by omega)
 simpa [r1,e1] using h
theorem layR4 (os:List OP) (ho:os.length≤1000) (a1 a2:List AV) (K:Option (List AV × Int)) (hK:∀ m,2*os.length+40≤m→Q15.l n m (.z11 (e1 os 0) 0 (os.map OP.av) a1 a2 ((r1 os 0).map vi))=K):∀ (d i m:Nat),i+d=os.length→d+(2*os.length+40) < m→
  Q15.l n m (.z4 (e1 (os.take i) 0) i (os.map OP.av) a1 a2 ((r1 (os.take i) 0++List.replicate d 0).map vi))=K
 | _,_,0,_,h=>absurd h (by omega)
 | 0,i,m+1,h,hm=>by
  rw [Q15.at4]
  unfold Q15.r4
  simp only [List.length_map]
  rw [cond_f (by omega),List.take_of_length_le (by omega)]
  simp only [List.replicate_zero,List.append_nil]
  exact hK m (by omega)
 | d+1,i,m+1,h,hm=>by
  have hi:i < os.length:=by omega
  have ih:=layR4 os ho a1 a2 K hK d (i+1) m (by omega) (by omega)
  have hl:(r1 (os.take i) 0).length=i:=by rw [r1_length,List.length_take]; omega
  rw [Q15.at4]
  unfold Q15.r4
  simp (disch:=omega) only [Option.bind_some,Option.bind_none,cond_true,cond_false,Bool.not_true,Bool.not_false,List.length_map,Ws_length,bs_size,within_t,upto_t,wsucc,Int.toNat_natCast,at_mapN,Ws_getDN,cells_agg,cells_v,withCons_cons,withInt_mk,withStr_mk,withBool_mk,withSl_mk,cond_t,cond_f,OP.av,List.length_append,List.length_replicate,hl,List.drop_succ_cons,List.drop_zero,List.length_set]
  rw [List.take_succ_eq_append_getElem hi,r1_snoc,e1_snoc] at ih
  rw [bif_eq0]
  by_cases h3:os[i].kd=3
  ·rw [if_pos h3,if_pos h3] at ih
   rw [if_pos h3,List.replicate_succ,List.set_set,set_mid vi _ _ _ _ hl]
   exact ih
  ·rw [if_neg h3,if_neg h3] at ih
   rw [if_neg h3,List.replicate_succ,set_mid vi _ _ _ _ hl]
   exact ih
theorem layR11 (hn:1001≤n) (os:List OP) (ho:os.length≤1000) (hok:okT os) (a1 a2:List AV) (G:List Int × Int→Option (List AV × Int)) (hK:∀ m row a,os.length+10≤m→row.length=os.length→Q15.l n m (.z18 a 0 (os.map OP.av) a1 a2 (row.map vi))=G (row,a)):∀ (d i m:Nat) (row:List Int) (a:Int),i+d=os.length→d+(os.length+10) < m→row.length=os.length→
  Q15.l n m (.z11 a i (os.map OP.av) a1 a2 (row.map vi))=G (p2 (os.drop i) i row a)
 | _,_,0,_,_,_,h,_=>absurd h (by omega)
 | 0,i,m+1,row,a,h,hm,hr=>by
  rw [Q15.at11]
  unfold Q15.r11
  simp only [List.length_map]
  rw [cond_f (by omega),List.drop_of_length_le (by omega)]
  exact hK m row a (by omega) hr
 | d+1,i,m+1,row,a,h,hm,hr=>by
  have hi:i < os.length:=by omega
  have ih:=fun row' a' hr'=>layR11 hn os ho hok a1 a2 G hK d (i+1) m row' a' (by omega) (by omega) hr'
  rw [Q15.at11]
  unfold Q15.r11
  simp (disch:=omega) only [Option.bind_some,Option.bind_none,cond_true,cond_false,Bool.not_true,Bool.not_false,List.length_map,Ws_length,bs_size,within_t,upto_t,wsucc,Int.toNat_natCast,at_mapN,Ws_getDN,cells_agg,cells_v,withCons_cons,withInt_mk,withStr_mk,withBool_mk,withSl_mk,cond_t,cond_f,OP.av,hr]
  rw [List.drop_eq_getElem_cons hi,bif_eq0]
  unfold p2
  by_cases h0:os[i].kd=0
  ·have hd:isDt os[i].kd=true:=by simp [isDt,h0]
   rw [if_pos h0,if_pos h0,bsize_eq n (hok _ (List.getElem_mem hi) hd),Option.bind_some,map_set_i,ih _ _ (by simpa using hr)]
  ·rw [if_neg h0,if_neg h0,ih _ _ hr]
theorem layR18 (hn:1001≤n) (os:List OP) (ho:os.length≤1000) (hok:∀ o∈os,o.kd=1→(onames os).contains o.ba=true) (a1 a2:List AV) (a:Int):∀ (d i m:Nat) (row:List Int),i+d=os.length→d < m→row.length=os.length→
  Q15.l n m (.z18 a i (os.map OP.av) a1 a2 (row.map vi))=some ((p3 os (os.drop i) i row).map vi,IntKind.i64.wrap (Int.tdiv (IntKind.i64.wrap (IntKind.i64.wrap (a+16) - 1)) 16))
 | _,_,0,_,_,h,_=>absurd h (by omega)
 | 0,i,m+1,row,h,hm,hr=>by
  rw [Q15.at18]
  unfold Q15.r18
  simp only [List.length_map]
  rw [cond_f (by omega),List.drop_of_length_le (by omega)]
  rfl
 | d+1,i,m+1,row,h,hm,hr=>by
  have hi:i < os.length:=by omega
  have ih:=fun row' hr'=>layR18 hn os ho hok a1 a2 a d (i+1) m row' (by omega) (by omega) hr'
  rw [Q15.at18]
  unfold Q15.r18
  simp (disch:=omega) only [Option.bind_some,Option.bind_none,cond_true,cond_false,Bool.not_true,Bool.not_false,List.length_map,Ws_length,bs_size,within_t,upto_t,wsucc,Int.toNat_natCast,at_mapN,Ws_getDN,cells_agg,cells_v,withCons_cons,withInt_mk,withStr_mk,withBool_mk,withSl_mk,cond_t,cond_f,OP.av,hr]
  rw [List.drop_eq_getElem_cons hi,bif_eq0]
  unfold p3
  by_cases h1:os[i].kd=1
  ·obtain ⟨k,hk,e,_⟩:=ixs_in (onames os) os[i].ba 0 (hok _ (List.getElem_mem hi) h1)
   rw [onames_length] at hk
   rw [if_pos h1,if_pos h1,at_eq hn os ho,Option.bind_some,e,Nat.zero_add]
   have hkr:k < row.length:=by omega
   simp (disch:=omega) only [Option.bind_some,Option.bind_none,cond_true,cond_false,Bool.not_true,Bool.not_false,List.length_map,Ws_length,bs_size,within_t,upto_t,wsucc,Int.toNat_natCast,at_mapN,Ws_getDN,cells_agg,cells_v,withCons_cons,withInt_mk,withStr_mk,withBool_mk,withSl_mk,cond_t,cond_f,hr]
   rw [map_set_i,ih _ (by simpa using hr)]
   simp [List.getD_eq_getElem?_getD,hkr]
  ·rw [if_neg h1,if_neg h1,ih _ hr]
theorem layoutR_eq (hn:1001≤n) (os:List OP) (ho:os.length≤28) (hok:okL os) (a1 a2:List AV):Q15.F n (os.map OP.av) a1 a2=some ((layX os).1.map vi,(layX os).2):=by
 unfold Q15.F Q15.e
 have hmost:(most:Int)=1000000000:=rfl
 have e1' : ((decide ((0:Int)≤((os.length:Nat):Int))&&decide ((((os.length:Nat):Int):Int)≤most))&&decide ((((os.length:Nat):Int):Int)=((os.length:Nat):Int))&&true&&true)=true:=by
  rw [decide_eq_true (by omega),decide_eq_true (by omega),decide_eq_true rfl]; rfl
 rw [List.length_map,bif_none e1']
 have h:=layR4 (n:=n) os (by omega) a1 a2 (some ((layX os).1.map vi,(layX os).2)) (fun q hq=>by
  have h10:=layR11 (n:=n) hn os (by omega) hok.1 a1 a2 (fun x=>some ((p3 os os 0 x.1).map vi,IntKind.i64.wrap (Int.tdiv (IntKind.i64.wrap (IntKind.i64.wrap (x.2+16) - 1)) 16))) (fun q' row a hq' hr=>by
   have h16:=layR18 (n:=n) hn os (by omega) hok.2 a1 a2 a os.length 0 q' row (by omega) (by omega) hr
   rw [List.drop_zero] at h16
   exact h16) os.length 0 q (r1 os 0) (e1 os 0) (by omega) (by omega) (r1_length os 0)
  rw [List.drop_zero] at h10
  exact h10) os.length 0 n (by omega) (by omega)
 simpa [r1,e1] using h
end
end Go.Proofs.YtnoldakbllfmnaaGreatDoor.Ev
namespace Go.Proofs.YtnoldakbllfmnaaGreatDoor.Ev
open Go Go.Proofs Go.Proofs.Ev
set_option linter.unusedVariables false
set_option linter.unusedSimpArgs false
def cls (op:Int):List Int:=
 if op=0 then [0,4] else if op=1 then [2,3] else if op=2∨op=3∨op=4∨op=5∨op=6 then [2,3,3] else if op=7∨op=8 then [1,4,6] else if op=9∨op=13 then [6] else if op=10 then [5,0]
 else if op=11 then [5,5] else if op=12 then [5,3] else if op=15 then [3] else if op=16 then [2] else if op=17 then [1] else []
theorem op_cases {op:Int} (h:0≤op∧op≤18):op=0∨op=1∨op=2∨op=3∨op=4∨op=5∨op=6∨op=7∨op=8∨op=9∨op=10∨op=11∨op=12∨op=13∨op=14∨op=15∨op=16∨op=17∨op=18:=by omega
theorem cls_range {op:Int} (h:0≤op∧op≤18):∀ c∈cls op,0≤c∧c≤6:=by
 rcases op_cases h with rfl | rfl | rfl | rfl | rfl | rfl | rfl | rfl | rfl | rfl | rfl | rfl | rfl | rfl | rfl | rfl | rfl | rfl | rfl <;> decide
theorem cls_len {op:Int} (h:0≤op∧op≤18):(cls op).length≤3:=by
 rcases op_cases h with rfl | rfl | rfl | rfl | rfl | rfl | rfl | rfl | rfl | rfl | rfl | rfl | rfl | rfl | rfl | rfl | rfl | rfl | rfl <;> decide
theorem cls_alike {op:Int} (h:0≤op∧op≤18) (i:Nat) (hi:(cls op)[i]?=some 4):i=1∧((cls op)[0]?=some 0∨(cls op)[0]?=some 1):=by
 have hl:=cls_len h
 have hlt:i < 3:=by have:=(List.getElem?_eq_some_iff.1 hi).1; omega
 have hi3:i=0∨i=1∨i=2:=by omega
 revert hi
 rcases op_cases h with rfl | rfl | rfl | rfl | rfl | rfl | rfl | rfl | rfl | rfl | rfl | rfl | rfl | rfl | rfl | rfl | rfl | rfl | rfl <;> rcases hi3 with rfl | rfl | rfl <;> decide
def fitX (o b:OP) (c:Int):Bool:=
 if c=5 then decide (o.kd=3) else if c=6 then decide (o.kd=5)
 else isDt o.kd&&(!(decide (c=0∨c=2)&&decide (o.kd=4))&&(!(decide (c=2∨c=3)&&decide (o.k=0))&&!(decide (c=4)&&(decide (o.k=0) != decide (b.k=0)))))
theorem fit_dt {o b:OP} {c:Int} (hc:c=0∨c=1) (h:fitX o b c=true):isDt o.kd=true:=by
 cases hd:isDt o.kd with
 | true=>rfl
 | false=>rcases hc with rfl | rfl <;> simp [fitX,hd] at h
section
variable {n:Nat}
theorem pNum_eq (n:Nat) (a0:ByteArray) (a1 a2 a3 a4 a5:Int) (a6 a7:ByteArray) (a8 a9:Int):Q2j.F n a0 a1 a2 a3 a4 a5 a6 a7 a8 a9=some (!decide (a2=0)):=rfl
theorem fits_eq (hn:1001≤n) (o b:OP) (c:Int) (hc:0≤c∧c≤6):Q2d.F n (bs o.nm) o.kd o.k o.l o.s o.vn (bs o.vx) (bs o.ba) o.of o.tg (bs b.nm) b.kd b.k b.l b.s b.vn (bs b.vx) (bs b.ba) b.of b.tg c=some (fitX o b c):=by
 obtain ⟨m,rfl⟩ : ∃ m,n=m+1:=⟨n - 1,by omega⟩
 unfold Q2d.F Q2d.e
 simp only [Q2d.at8]
 unfold Q2d.r8 fitX
 simp only [pData_eq,pNum_eq,Option.bind_some,bif_eq0]
 have hd:c=0∨c=1∨c=2∨c=3∨c=4∨c=5∨c=6:=by omega
 rcases hd with rfl | rfl | rfl | rfl | rfl | rfl | rfl <;> cases isDt o.kd <;> by_cases h4:o.kd=4 <;> by_cases h0:o.k=0 <;> by_cases hb:b.k=0 <;> simp [h4,h0,hb,beq_int]
def inE (os:List OP):List Int→List Int→OP→Int
 | c::cs,a::ar,b=>if ¬ (0≤a∧a≤(os.length:Int) - 1) then 3 else if fitX (os.getD a.toNat zOP) b c=false then 17 else inE os cs ar (os.getD a.toNat zOP)
 | _,_,_=>0
def insX (os:List OP) (x:IN):Int:=if ¬ (0≤x.op∧x.op≤18) then 4 else if x.ar.length≠(cls x.op).length then 37 else inE os (cls x.op) x.ar zOP
theorem chop_ops {op:Int} (h:0≤op∧op≤18):∃ r,chop (op.toNat*1) [.sl ⟨true,3,false⟩ 1 gr0,.sl ⟨true,3,false⟩ 1 gr1,.sl ⟨true,3,false⟩ 1 gr2,.sl ⟨true,3,false⟩ 1 gr3,.sl ⟨true,3,false⟩ 1 gr4,.sl ⟨true,3,false⟩ 1 gr5,.sl ⟨true,3,false⟩ 1 gr6,.sl ⟨true,3,false⟩ 1 gr7,.sl ⟨true,3,false⟩ 1 gr8,.sl ⟨true,3,false⟩ 1 gr9,.sl ⟨true,3,false⟩ 1 gr10,.sl ⟨true,3,false⟩ 1 gr11,.sl ⟨true,3,false⟩ 1 gr12,.sl ⟨true,3,false⟩ 1 gr13,.sl ⟨true,3,false⟩ 1 gr14,.sl ⟨true,3,false⟩ 1 gr15,.sl ⟨true,3,false⟩ 1 gr16,.sl ⟨true,3,false⟩ 1 gr17,.sl ⟨true,3,false⟩ 1 gr18]=.sl ⟨true,3,false⟩ 1 ((cls op).map vi)::r:=by
 rcases op_cases h with rfl | rfl | rfl | rfl | rfl | rfl | rfl | rfl | rfl | rfl | rfl | rfl | rfl | rfl | rfl | rfl | rfl | rfl | rfl <;> exact ⟨_,rfl⟩
theorem op19 {op:Int} (h:0≤op∧op≤18):(decide ((0:Int)≤op)&&decide (op < ((19:Nat):Int)))=true:=by
 rw [Bool.and_eq_true,decide_eq_true_eq,decide_eq_true_eq]; omega
theorem getD_av {os:List OP} {a:Int} (h:0≤a∧a≤(os.length:Int) - 1):(os.map OP.av).getD a.toNat AV.undef=(os.getD a.toNat zOP).av:=by
 have:a.toNat < os.length:=by omega
 simp [List.getD_eq_getElem?_getD,this]
theorem rng {len:Nat} {a:Int} (h:0≤a∧a≤(len:Int) - 1):(decide ((0:Int)≤a)&&decide (a < ((len:Nat):Int)))=true:=by
 rw [Bool.and_eq_true,decide_eq_true_eq,decide_eq_true_eq]; omega
theorem ins_l (hn:1001≤n) (os:List OP) (ho:os.length≤1000) (is:List AV) (ms:List AV) (op:Int) (hop:0≤op∧op≤18) (ar:List Int) (har:ar.length=(cls op).length):∀ (d i m:Nat) (b:OP),i+d=ar.length→d < m→
  Q2f.l n m (.z7 (ar.map vi) ar.length i (os.map OP.av) is ms op (ar.map vi) (bs b.nm) b.kd b.k b.l b.s b.vn (bs b.vx) (bs b.ba) b.of b.tg)=some (inE os ((cls op).drop i) (ar.drop i) b)
 | _,_,0,_,_,h=>absurd h (by omega)
 | 0,i,m+1,b,h,_=>by
  rw [Q2f.at7]
  unfold Q2f.r7
  rw [cond_f (by omega),List.drop_of_length_le (by omega),List.drop_of_length_le (by omega)]
  rfl
 | d+1,i,m+1,b,h,hm=>by
  have hi:i < ar.length:=by omega
  have hic:i < (cls op).length:=by omega
  have hl3:=cls_len hop
  have ih:=fun b=>ins_l hn os ho is ms op hop ar har d (i+1) m b (by omega) (by omega)
  obtain ⟨r,hr⟩:=chop_ops hop
  rw [Q2f.at7]
  unfold Q2f.r7
  rw [hr,List.drop_eq_getElem_cons hi,List.drop_eq_getElem_cons hic]
  unfold inE
  simp (disch:=omega) only [Option.bind_some,Option.bind_none,cond_true,cond_false,Bool.not_true,Bool.not_false,List.length_map,Ws_length,bs_size,within_t,upto_t,wsucc,Int.toNat_natCast,at_mapN,Ws_getDN,cells_agg,cells_v,withCons_cons,withInt_mk,withStr_mk,withBool_mk,withSl_mk,cond_t,cond_f,pin_eq]
  rw [w64 (by omega) (by omega)]
  by_cases hr:0≤ar[i]∧ar[i]≤(os.length:Int) - 1
  ·rw [if_neg (not_not_intro hr),decide_eq_true hr,Bool.not_true,cond_false,bif_none (rng hr),getD_av hr]
   simp only [op19 hop,rng hr,cond_true]
   simp (disch:=omega) only [Option.bind_some,Option.bind_none,cond_true,cond_false,Bool.not_true,Bool.not_false,List.length_map,Ws_length,bs_size,within_t,upto_t,wsucc,Int.toNat_natCast,at_mapN,Ws_getDN,cells_agg,cells_v,withCons_cons,withInt_mk,withStr_mk,withBool_mk,withSl_mk,cond_t,cond_f,OP.av,fits_eq hn (os.getD ar[i].toNat zOP) b _ (cls_range hop _ (List.getElem_mem hic))]
   rw [bif_not]
   cases hf:fitX (os.getD ar[i].toNat zOP) b (cls op)[i] with
   | false=>rfl
   | true=>
    rw [if_neg (by simp),if_neg (by simp)]
    exact ih _
  ·rw [if_pos hr,show decide (0≤ar[i]∧ar[i]≤(os.length:Int) - 1)=false by rw [decide_eq_false_iff_not]; exact hr]
   rfl
theorem insErr_eq (hn:1001≤n) (os:List OP) (ho:os.length≤1000) (is ms:List AV) (x:IN) (hx:x.ar.length≤1000):Q2f.F n (os.map OP.av) is ms x.op (x.ar.map vi)=some (insX os x):=by
 unfold Q2f.F Q2f.e insX
 rw [pin_eq,Option.bind_some,bif_not]
 by_cases hop:0≤x.op∧x.op≤18
 ·obtain ⟨r,hr⟩:=chop_ops hop
  rw [if_neg (by simpa using hop),if_neg (not_not_intro hop),bif_none (op19 hop),hr]
  simp (disch:=omega) only [Option.bind_some,Option.bind_none,cond_true,cond_false,Bool.not_true,Bool.not_false,List.length_map,Ws_length,bs_size,within_t,upto_t,wsucc,Int.toNat_natCast,at_mapN,Ws_getDN,cells_agg,cells_v,withCons_cons,withInt_mk,withStr_mk,withBool_mk,withSl_mk,cond_t,cond_f]
  rw [bifne]
  by_cases hl:x.ar.length=(cls x.op).length
  ·rw [if_pos (by omega),if_neg (by simpa using hl)]
   have h:=ins_l hn os ho is ms x.op hop x.ar hl x.ar.length 0 n zOP (by omega) (by have:=cls_len hop; omega)
   rw [List.drop_zero,List.drop_zero] at h
   exact h
  ·rw [if_neg (by omega),if_pos hl]
 ·rw [if_pos (by simpa using hop),if_pos hop]
def role (c:Int):Int:=if c=1 then 2 else if c=2 then 1 else c
theorem roles_eq (hn:1001≤n) {op:Int} (h:0≤op∧op≤18):Q1h.F n op=some ((cls op).map fun c=>vi (role c)):=by
 obtain ⟨m,rfl⟩ : ∃ m,n=m+1:=⟨n - 1,by omega⟩
 unfold Q1h.F Q1h.e
 simp only [Q1h.at11]
 unfold Q1h.r11
 rcases op_cases h with rfl | rfl | rfl | rfl | rfl | rfl | rfl | rfl | rfl | rfl | rfl | rfl | rfl | rfl | rfl | rfl | rfl | rfl | rfl <;> rfl
def ok4 (os:List OP):Prop:=∀ o∈os,isDt o.kd=true→chkT o.k o.l o.s=0∧o.k≠4
theorem rNum_eq (n:Nat) (o:OP) (h:isDt o.kd=true→chkT o.k o.l o.s=0∧o.k≠4) (hd:isDt o.kd=true):Q1c.F n (bs o.nm) o.kd o.k o.l o.s o.vn (bs o.vx) (bs o.ba) o.of o.tg=some (!decide (o.k=0)):=by
 unfold Q1c.F Q1c.e Q0s.F Q0s.e
 rw [Within_eq,Option.bind_some,Option.bind_some]
 have h1:=chkT_cases (h hd).1
 have h2:=(h hd).2
 congr 1
 by_cases h0:o.k=0
 ·simp [h0]
 ·have:1≤o.k∧o.k≤3:=by omega
  simp [h0,this]
theorem insR_l (hn:1001≤n) (os:List OP) (ho:os.length≤1000) (hok:ok4 os) (is:List AV) (ms:List AV) (op:Int) (hop:0≤op∧op≤18) (ar:List Int) (har:ar.length=(cls op).length):∀ (d i m:Nat) (b:OP),i+d=ar.length→3*d < m→
  (1≤i→∃ a,ar[i - 1]?=some a∧(0≤a∧a≤(os.length:Int) - 1)∧b=os.getD a.toNat zOP∧(((cls op)[i - 1]?=some 0∨(cls op)[i - 1]?=some 1)→isDt b.kd=true))→
  Q1b.l n m (.z7 i (os.map OP.av) is ms op (ar.map vi) ((cls op).map fun c=>vi (role c)))=some (inE os ((cls op).drop i) (ar.drop i) b)
 | _,_,0,_,_,h,_=>absurd h (by omega)
 | 0,i,m+1,b,h,_,_=>by
  rw [Q1b.at7]
  unfold Q1b.r7
  simp only [List.length_map]
  rw [cond_f (by omega),List.drop_of_length_le (by omega),List.drop_of_length_le (by omega)]
  rfl
 | d+1,i,m+1,b,h,hm,hb=>by
  obtain ⟨m,rfl⟩ : ∃ q,m=q+2:=⟨m - 2,by omega⟩
  have hi:i < ar.length:=by omega
  have hic:i < (cls op).length:=by omega
  have hl3:=cls_len hop
  have ih:=fun b=>insR_l hn os ho hok is ms op hop ar har d (i+1) m b (by omega) (by omega)
  rw [Q1b.at7]
  unfold Q1b.r7
  rw [List.drop_eq_getElem_cons hi,List.drop_eq_getElem_cons hic]
  unfold inE
  simp (disch:=omega) only [Option.bind_some,Option.bind_none,cond_true,cond_false,Bool.not_true,Bool.not_false,List.length_map,Ws_length,bs_size,within_t,upto_t,wsucc,Int.toNat_natCast,at_mapN,Ws_getDN,cells_agg,cells_v,withCons_cons,withInt_mk,withStr_mk,withBool_mk,withSl_mk,cond_t,cond_f,Within_eq]
  rw [w64 (by omega) (by omega)]
  by_cases hr:0≤ar[i]∧ar[i]≤(os.length:Int) - 1
  ·have hmem:os.getD ar[i].toNat zOP∈os:=by
    have:ar[i].toNat < os.length:=by omega
    rw [List.getD_eq_getElem?_getD,List.getElem?_eq_getElem this,Option.getD_some]
    exact List.getElem_mem this
   have h28:∀ z,(z=fitX (os.getD ar[i].toNat zOP) b (cls op)[i])→Q1b.l n (m+2) (.z28 i z (os.map OP.av) is ms op (ar.map vi) ((cls op).map fun c=>vi (role c)))=some (if fitX (os.getD ar[i].toNat zOP) b (cls op)[i]=false then 17 else inE os ((cls op).drop (i+1)) (ar.drop (i+1)) (os.getD ar[i].toNat zOP)):=by
    rintro z rfl
    rw [Q1b.at28]
    unfold Q1b.r28
    rw [bif_not]
    cases hf:fitX (os.getD ar[i].toNat zOP) b (cls op)[i] with
    | false=>rfl
    | true=>
     rw [if_neg (by simp),if_neg (by simp),Q1b.at8]
     unfold Q1b.r8
     rw [wsucc (by omega)]
     refine ih _ fun _=>⟨ar[i],by simp,hr,rfl,fun hc=>?_⟩
     rw [Nat.add_sub_cancel,List.getElem?_eq_getElem hic] at hc
     exact fit_dt (by rcases hc with hc | hc; exact .inl (Option.some.inj hc); exact .inr (Option.some.inj hc)) hf
   rw [if_neg (not_not_intro hr),decide_eq_true hr,Bool.not_true,cond_false,bif_none (rng hr),getD_av hr]
   have hnum:isDt (os.getD ar[i].toNat zOP).kd=true→Q1c.F n (bs (os.getD ar[i].toNat zOP).nm) (os.getD ar[i].toNat zOP).kd (os.getD ar[i].toNat zOP).k (os.getD ar[i].toNat zOP).l (os.getD ar[i].toNat zOP).s (os.getD ar[i].toNat zOP).vn (bs (os.getD ar[i].toNat zOP).vx) (bs (os.getD ar[i].toNat zOP).ba) (os.getD ar[i].toNat zOP).of (os.getD ar[i].toNat zOP).tg=some (!decide ((os.getD ar[i].toNat zOP).k=0)):=rNum_eq n _ (hok _ hmem)
   have hcr:=cls_range hop _ (List.getElem_mem hic)
   have hcd:(cls op)[i]=0∨(cls op)[i]=1∨(cls op)[i]=2∨(cls op)[i]=3∨(cls op)[i]=4∨(cls op)[i]=5∨(cls op)[i]=6:=by omega
   generalize hO:os.getD ar[i].toNat zOP=O at *
   have gl:(decide ((0:Int)≤(i:Int))&&decide ((i:Int) < (((cls op).length:Nat):Int)))=true:=within_t hic
   simp only [OP.av,cells_agg,cells_v,withCons_cons,withInt_mk,withStr_mk,gl,cond_true,Int.toNat_natCast,at_mapN (fun c=>vi (role c)) hic,bif_eq0]
   have hdt:isDt O.kd=decide (O.kd=0∨O.kd=1∨O.kd=2∨O.kd=4):=rfl
   rcases hcd with hc | hc | hc | hc | hc | hc | hc
   ·rw [show role (cls op)[i]=0 by rw [hc]; rfl,if_pos rfl,rScalar_eq,Option.bind_some]
    refine h28 _ ?_
    rw [hc]
    unfold fitX
    rw [hdt]
    by_cases h0:O.kd=0 <;> by_cases h1:O.kd=1 <;> by_cases h2:O.kd=2 <;> by_cases h4:O.kd=4 <;> simp [h0,h1,h2,h4]
   ·rw [show role (cls op)[i]=2 by rw [hc]; rfl,if_neg (by decide),if_neg (by decide),if_pos rfl,rData_eq,Option.bind_some]
    refine h28 _ ?_
    rw [hc]
    simp [fitX]
   ·rw [show role (cls op)[i]=1 by rw [hc]; rfl,if_neg (by decide),if_pos rfl,rScalar_eq,Option.bind_some]
    by_cases hs:O.kd=0∨O.kd=1∨O.kd=2
    ·have hd:isDt O.kd=true:=by rw [hdt,decide_eq_true_eq]; omega
     rw [cond_t hs,hnum hd,Option.bind_some]
     refine h28 _ ?_
     rw [hc]
     have h4:¬ O.kd=4:=by omega
     simp [fitX,hd,h4]
    ·rw [cond_f hs]
     refine h28 _ ?_
     rw [hc]
     by_cases h4:O.kd=4
     ·simp [fitX,h4]
     ·have hd:isDt O.kd=false:=by rw [hdt,decide_eq_false_iff_not]; omega
      simp [fitX,hd]
   ·rw [show role (cls op)[i]=3 by rw [hc]; rfl,if_neg (by decide),if_neg (by decide),if_neg (by decide),if_pos rfl,rData_eq,Option.bind_some]
    cases hd:isDt O.kd with
    | true=>
     rw [cond_true,hnum hd,Option.bind_some]
     refine h28 _ ?_
     rw [hc]
     simp [fitX,hd]
    | false=>
     rw [cond_false]
     refine h28 _ ?_
     rw [hc]
     simp [fitX,hd]
   ·rw [show role (cls op)[i]=4 by rw [hc]; rfl,if_neg (by decide),if_neg (by decide),if_neg (by decide),if_neg (by decide),if_pos rfl,rData_eq,Option.bind_some]
    obtain ⟨i1,hp⟩:=cls_alike hop i (by rw [List.getElem?_eq_getElem hic,hc])
    obtain ⟨a',ha1,ha2,ha3,ha4⟩:=hb (by omega)
    have hbd:=ha4 (by rw [i1]; exact hp)
    have hbm:b∈os:=by
     have:a'.toNat < os.length:=by omega
     rw [ha3,List.getD_eq_getElem?_getD,List.getElem?_eq_getElem this,Option.getD_some]
     exact List.getElem_mem this
    cases hd:isDt O.kd with
    | true=>
     have hlt0:0 < ar.length:=by omega
     have hw:IntKind.i64.wrap ((i:Int) - 1)=((0:Nat):Int):=by rw [i1,w64 (by omega) (by omega)]; rfl
     have hg:(ar.map vi).getD 0 AV.undef=vi a':=by
      rw [i1] at ha1
      rw [List.getD_eq_getElem?_getD,List.getElem?_map,show ar[0]?=some a' from ha1]
      rfl
     rw [cond_true,hnum hd,Option.bind_some,hw,within_t hlt0,cond_true,Int.toNat_natCast,hg]
     simp only [cells_v,withCons_cons,withInt_mk]
     rw [bif_none (rng ha2),getD_av ha2,← ha3]
     simp only [OP.av,cells_agg,cells_v,withCons_cons,withInt_mk,withStr_mk]
     rw [rNum_eq n b (hok b hbm) hbd,Option.bind_some]
     refine h28 _ ?_
     rw [hc]
     by_cases k1:O.k=0 <;> by_cases k2:b.k=0 <;> simp [fitX,hd,k1,k2]
    | false=>
     rw [cond_false]
     refine h28 _ ?_
     rw [hc]
     simp [fitX,hd]
   ·rw [show role (cls op)[i]=5 by rw [hc]; rfl,if_neg (by decide),if_neg (by decide),if_neg (by decide),if_neg (by decide),if_neg (by decide),if_pos rfl]
    refine h28 _ ?_
    rw [hc]
    simp [fitX,beq_int]
   ·rw [show role (cls op)[i]=6 by rw [hc]; rfl,if_neg (by decide),if_neg (by decide),if_neg (by decide),if_neg (by decide),if_neg (by decide),if_neg (by decide),if_pos rfl]
    refine h28 _ ?_
    rw [hc]
    simp [fitX,beq_int]
  ·rw [if_pos hr,show decide (0≤ar[i]∧ar[i]≤(os.length:Int) - 1)=false by rw [decide_eq_false_iff_not]; exact hr]
   rfl
theorem insErrR_eq (hn:1001≤n) (os:List OP) (ho:os.length≤1000) (hok:ok4 os) (is ms:List AV) (x:IN) (hx:x.ar.length≤1000):Q1b.F n (os.map OP.av) is ms x.op (x.ar.map vi)=some (insX os x):=by
 unfold Q1b.F Q1b.e insX
 rw [Within_eq,Option.bind_some,bif_not]
 by_cases hop:0≤x.op∧x.op≤18
 ·rw [if_neg (by simpa using hop),if_neg (not_not_intro hop),roles_eq hn hop,Option.bind_some]
  simp only [List.length_map]
  rw [bifne]
  by_cases hl:x.ar.length=(cls x.op).length
  ·rw [if_pos (by omega),if_neg (by simpa using hl)]
   have h:=insR_l hn os ho hok is ms x.op hop x.ar hl x.ar.length 0 n zOP (by omega) (by have:=cls_len hop; omega) (fun h=>by omega)
   rw [List.drop_zero,List.drop_zero] at h
   exact h
  ·rw [if_neg (by omega),if_pos hl]
 ·rw [if_pos (by simpa using hop),if_pos hop]
def monX (nI:Nat) (m:MN):Int:=if 0≤m.fr∧m.fr < m.tt∧m.tt≤(nI:Int)∧(0≤m.ex∧m.ex≤999)∧(0≤m.hd∧m.hd≤(nI:Int) - 1) then 0 else 3
theorem monErr_eq (hn:1001≤n) (os:List AV) (is:List IN) (hi' : is.length≤1000) (ms:List AV) (x:MN):Q2o.F n os (is.map IN.av) ms x.fr x.tt x.ex x.hd=some (monX is.length x):=by
 obtain ⟨m,rfl⟩ : ∃ m,n=m+1:=⟨n - 1,by omega⟩
 unfold Q2o.F Q2o.e monX
 simp only [Q2o.at3]
 unfold Q2o.r3
 simp only [pin_eq,cond_eq,Option.bind_some,List.length_map,ge_iff_le]
 rw [w64 (by omega) (by omega)]
 by_cases h1:0≤x.fr <;> by_cases h2:x.fr < x.tt <;> by_cases h3:x.tt≤(is.length:Int) <;> by_cases h4:0≤x.ex∧x.ex≤999 <;> by_cases h5:0≤x.hd∧x.hd≤(is.length:Int) - 1 <;> simp [h1,h2,h3,h4,h5]
end
end Go.Proofs.YtnoldakbllfmnaaGreatDoor.Ev
namespace Go.Proofs.YtnoldakbllfmnaaGreatDoor.Ev
open Go Go.Proofs Go.Proofs.Ev
set_option linter.unusedVariables false
set_option linter.unusedSimpArgs false
def opsE (nI:Nat):List OP→List OP→Int × Int
 | _,[]=>(0,0)
 | b,o::r=>if opE b o nI≠0 then ((b.length:Int),opE b o nI) else opsE nI (b++[o]) r
def insE (os:List OP):List IN→Nat→Int × Int
 | [],_=>(0,0)
 | x::r,i=>if insX os x≠0 then ((i:Int),insX os x) else insE os r (i+1)
def mosE (nI:Nat):List MN→Nat→Int × Int
 | [],_=>(0,0)
 | x::r,i=>if monX nI x≠0 then ((i:Int),monX nI x) else mosE nI r (i+1)
def check3 (nI:Nat) (ms:List MN):Int × Int × Int:=if (mosE nI ms 0).2≠0 then (3,(mosE nI ms 0).1,(mosE nI ms 0).2) else (0,0,0)
def check2 (os:List OP) (is:List IN) (ms:List MN):Int × Int × Int:=if (insE os is 0).2≠0 then (2,(insE os is 0).1,(insE os is 0).2) else check3 is.length ms
def checkX (os:List OP) (is:List IN) (ms:List MN):Int × Int × Int:=
 if os.length > 24∨is.length > 40∨ms.length > 6 then (0,0,2) else if is.length=0 then (0,0,1)
 else if (opsE is.length [] os).2≠0 then (1,(opsE is.length [] os).1,(opsE is.length [] os).2) else if (layX os).2 > 24 then (0,0,30) else check2 os is ms
theorem opsE_cons (nI:Nat) (b r:List OP) (o:OP):opsE nI b (o::r)=if opE b o nI≠0 then ((b.length:Int),opE b o nI) else opsE nI (b++[o]) r:=rfl
theorem insE_cons (os:List OP) (x:IN) (r:List IN) (i:Nat):insE os (x::r) i=if insX os x≠0 then ((i:Int),insX os x) else insE os r (i+1):=rfl
theorem mosE_cons (nI:Nat) (x:MN) (r:List MN) (i:Nat):mosE nI (x::r) i=if monX nI x≠0 then ((i:Int),monX nI x) else mosE nI r (i+1):=rfl
theorem opE_ok {b:List OP} {o:OP} {nI:Nat} (h:opE b o nI=0):(isDt o.kd=true→chkT o.k o.l o.s=0∧o.k≠4)∧(o.kd=1→(onames b).contains o.ba=true):=by
 unfold opE at h
 split at h
 ·cases h
 split at h
 ·cases h
 split at h
 ·cases h
 split at h
 ·cases h
 split at h
 ·rename_i h5; exact absurd h h5.2
 split at h
 ·cases h
 rename_i h5 h6
 refine ⟨fun hd=>⟨?_,fun h4=>h6 ⟨hd,h4⟩⟩,fun h1=>?_⟩
 ·by_cases hc:chkT o.k o.l o.s=0
  ·exact hc
  ·exact absurd ⟨hd,hc⟩ h5
 ·rw [if_neg (by omega),if_pos (.inl h1)] at h
  unfold baE at h
  cases hc:(onames b).contains o.ba with
  | true=>rfl
  | false=>rw [if_pos hc] at h; cases h
theorem opsE_ok {nI:Nat}:∀ (r b:List OP),(opsE nI b r).2=0→ok4 b→(∀ o∈b,o.kd=1→(onames b).contains o.ba=true)→ok4 (b++r)∧∀ o∈b++r,o.kd=1→(onames (b++r)).contains o.ba=true
 | [],b,_,h1,h2=>by rw [List.append_nil]; exact ⟨h1,h2⟩
 | o::r,b,h,h1,h2=>by
  rw [opsE_cons] at h
  by_cases h0:opE b o nI=0
  ·rw [if_neg (not_not_intro h0)] at h
   obtain ⟨k1,k2⟩:=opE_ok h0
   have:=opsE_ok r (b++[o]) h (fun x hx=>by
    rcases List.mem_append.1 hx with hx | hx
    ·exact h1 x hx
    ·rw [List.mem_singleton] at hx; subst hx; exact k1) (fun x hx hk=>by
    rw [onames,List.map_append,List.contains_eq_mem,decide_eq_true_eq,List.mem_append]
    refine .inl ?_
    rcases List.mem_append.1 hx with hx | hx
    ·have:=h2 x hx hk; rwa [List.contains_eq_mem,decide_eq_true_eq] at this
    ·rw [List.mem_singleton] at hx; subst hx
     have:=k2 hk; rwa [List.contains_eq_mem,decide_eq_true_eq] at this)
   simpa using this
  ·rw [if_pos h0] at h; exact absurd h h0
theorem ops_ok4 {nI:Nat} {os:List OP} (h:(opsE nI [] os).2=0):ok4 os:=by
 have:=(opsE_ok os [] h (fun o ho=>by cases ho) (fun o ho=>by cases ho)).1
 simpa using this
theorem ops_okL {nI:Nat} {os:List OP} (h:(opsE nI [] os).2=0):okL os:=by
 have:=opsE_ok os [] h (fun o ho=>by cases ho) (fun o ho=>by cases ho)
 rw [List.nil_append] at this
 exact ⟨fun o ho hd=>(this.1 o ho hd).1,this.2⟩
section
variable {n:Nat}
theorem take_ok4 {os:List OP} {i nI:Nat} (hi:i < os.length) (h:ok4 (os.take i)) (h0:opE (os.take i) os[i] nI=0):ok4 (os.take (i+1)):=by
 rw [List.take_succ_eq_append_getElem hi]
 intro x hx
 rcases List.mem_append.1 hx with hx | hx
 ·exact h x hx
 ·rw [List.mem_singleton] at hx; subst hx; exact (opE_ok h0).1
theorem ok4T {os:List OP} (h:ok4 os):okT os:=fun o ho hd=>(h o ho hd).1
theorem pMons (hn:1001≤n) (os:List AV) (is:List IN) (hi' : is.length≤1000) (ms:List MN) (hm' : ms.length≤1000) (z7 z8:Int):∀ (d i m:Nat),i+d=ms.length→d < m→
  Q22.l n m (.z23 (ms.map MN.av) ms.length i os (is.map IN.av) (ms.map MN.av) z7 z8)=some (if (mosE is.length (ms.drop i) i).2≠0 then (3,(mosE is.length (ms.drop i) i).1,(mosE is.length (ms.drop i) i).2) else (0,0,0))
 | _,_,0,_,h=>absurd h (by omega)
 | 0,i,m+1,h,_=>by
  rw [Q22.at23]
  unfold Q22.r23
  rw [cond_f (by omega),List.drop_of_length_le (by omega)]
  rfl
 | d+1,i,m+1,h,hm=>by
  have hi:i < ms.length:=by omega
  have ih:=pMons hn os is hi' ms hm' z7 z8 d (i+1) m (by omega) (by omega)
  rw [Q22.at23]
  unfold Q22.r23
  simp (disch:=omega) only [Option.bind_some,Option.bind_none,cond_true,cond_false,Bool.not_true,Bool.not_false,List.length_map,Ws_length,bs_size,within_t,upto_t,wsucc,Int.toNat_natCast,at_mapN,Ws_getDN,cells_agg,cells_v,withCons_cons,withInt_mk,withStr_mk,withBool_mk,withSl_mk,cond_t,cond_f,MN.av]
  rw [monErr_eq hn _ _ hi',Option.bind_some,bifne,ih,List.drop_eq_getElem_cons hi,mosE_cons]
  by_cases h0:monX is.length ms[i]=0
  ·rw [if_pos h0,if_neg (not_not_intro h0)]
  ·rw [if_neg h0,if_pos h0,if_pos h0]
theorem pIns (hn:1001≤n) (os:List OP) (ho:os.length≤1000) (is:List IN) (hi' : is.length≤1000) (hx:∀ x∈is,x.ar.length≤1000) (ms:List MN) (hm' : ms.length≤100) (z7 z8:Int):∀ (d i m:Nat),i+d=is.length→d+200 < m→
  Q22.l n m (.z16 (is.map IN.av) is.length i (os.map OP.av) (is.map IN.av) (ms.map MN.av) z7 z8)=some (if (insE os (is.drop i) i).2≠0 then (2,(insE os (is.drop i) i).1,(insE os (is.drop i) i).2) else check3 is.length ms)
 | _,_,0,_,h=>absurd h (by omega)
 | 0,i,m+1,h,_=>by
  rw [Q22.at16]
  unfold Q22.r16
  rw [cond_f (by omega),List.drop_of_length_le (by omega),List.length_map]
  have:=pMons hn (os.map OP.av) is hi' ms (by omega) z7 z8 ms.length 0 m (by omega) (by omega)
  rw [List.drop_zero] at this
  exact this
 | d+1,i,m+1,h,hm=>by
  have hi:i < is.length:=by omega
  have ih:=pIns hn os ho is hi' hx ms hm' z7 z8 d (i+1) m (by omega) (by omega)
  rw [Q22.at16]
  unfold Q22.r16
  simp (disch:=omega) only [Option.bind_some,Option.bind_none,cond_true,cond_false,Bool.not_true,Bool.not_false,List.length_map,Ws_length,bs_size,within_t,upto_t,wsucc,Int.toNat_natCast,at_mapN,Ws_getDN,cells_agg,cells_v,withCons_cons,withInt_mk,withStr_mk,withBool_mk,withSl_mk,cond_t,cond_f,IN.av]
  rw [insErr_eq hn os ho _ _ is[i] (hx _ (List.getElem_mem hi)),Option.bind_some,bifne,ih,List.drop_eq_getElem_cons hi,insE_cons]
  by_cases h0:insX os is[i]=0
  ·rw [if_pos h0,if_neg (not_not_intro h0)]
  ·rw [if_neg h0,if_pos h0,if_pos h0]
theorem pOps (hn:1001≤n) (os:List OP) (ho:os.length≤28) (is:List IN) (hi' : is.length≤100) (hx:∀ x∈is,x.ar.length≤1000) (ms:List MN) (hm' : ms.length≤100) (z7 z8:Int):∀ (d i m:Nat),i+d=os.length→d+400 < m→ok4 (os.take i)→((opsE is.length (os.take i) (os.drop i)).2=0→(opsE is.length [] os).2=0)→
  Q22.l n m (.z6 os.length i (os.map OP.av) (is.map IN.av) (ms.map MN.av) z7 z8)=some (if (opsE is.length (os.take i) (os.drop i)).2≠0 then (1,(opsE is.length (os.take i) (os.drop i)).1,(opsE is.length (os.take i) (os.drop i)).2) else if (layX os).2 > 24 then (0,0,30) else check2 os is ms)
 | _,_,0,_,h,_,_=>absurd h (by omega)
 | 0,i,m+1,h,_,hok,hz=>by
  rw [List.drop_of_length_le (by omega)] at hz ⊢
  have hL:=ops_okL (hz rfl)
  rw [Q22.at6]
  unfold Q22.r6
  rw [cond_f (by omega),layout_eq hn os ho hL,Option.bind_some,List.length_map]
  have:=pIns hn os (by omega) is (by omega) hx ms hm' z7 z8 is.length 0 m (by omega) (by omega)
  rw [List.drop_zero] at this
  rw [if_neg (by simp [opsE]),bif_ite,show ((0:Int))=((0:Nat):Int) from rfl,this]
  split <;> rfl
 | d+1,i,m+1,h,hm,hok,hz=>by
  have hi:i < os.length:=by omega
  have ih:=pOps hn os ho is hi' hx ms hm' z7 z8 d (i+1) m (by omega) (by omega)
  rw [Q22.at6]
  unfold Q22.r6
  rw [cond_t (by omega),opErr_eq hn os (by omega) is (by omega) _ i hi (ok4T hok),Option.bind_some,bifne,wsucc (by omega)]
  rw [List.drop_eq_getElem_cons hi,opsE_cons] at hz ⊢
  by_cases h0:opE (os.take i) os[i] is.length=0
  ·rw [if_neg (not_not_intro h0),← List.take_succ_eq_append_getElem hi] at hz
   rw [if_pos h0,if_neg (not_not_intro h0),← List.take_succ_eq_append_getElem hi]
   exact ih (take_ok4 hi hok h0) hz
  ·rw [if_neg h0,if_pos h0,if_pos h0,List.length_take,Nat.min_eq_left (by omega)]
theorem check_law (hn:1001≤n) (os:List OP) (ho:os.length≤28) (is:List IN) (hi' : is.length≤100) (hx:∀ x∈is,x.ar.length≤1000) (ms:List MN) (hm' : ms.length≤100):Q22.F n (os.map OP.av) (is.map IN.av) (ms.map MN.av)=some (checkX os is ms):=by
 obtain ⟨m,rfl⟩ : ∃ m,n=m+1:=⟨n - 1,by omega⟩
 unfold Q22.F Q22.e checkX
 simp only [List.length_map,Q22.at2]
 unfold Q22.r2
 simp only [cond_eq,Option.bind_some,first2 hn,bifne,List.length_map]
 have hq:=pOps hn os ho is hi' hx ms hm' 0 0 os.length 0 m (by omega) (by omega) (fun o ho=>by simp at ho) (fun h=>h)
 rw [List.drop_zero,List.take_zero] at hq
 have c1:decide (((os.length:Nat):Int) > 24)=decide (os.length > 24):=by rw [decide_eq_decide]; omega
 have c2:decide (((is.length:Nat):Int) > 40)=decide (is.length > 40):=by rw [decide_eq_decide]; omega
 have c3:decide (((ms.length:Nat):Int) > 6)=decide (ms.length > 6):=by rw [decide_eq_decide]; omega
 rw [c1,c2,c3]
 by_cases h1:os.length > 24
 ·simp [h1]
 ·by_cases h2:is.length > 40
  ·simp [h1,h2]
  ·by_cases h3:ms.length > 6
   ·simp [h1,h2,h3]
   ·by_cases h4:is.length=0
    ·simp [h1,h2,h3,h4]
    ·rw [show ((0:Int))=((0:Nat):Int) from rfl] at hq
     have h4' : ¬ ((is.length:Nat):Int)=0:=by omega
     simp only [h1,h2,h3,h4,h4',decide_false,cond_false,or_self,if_false,beq_int,Bool.false_eq_true,ne_eq,not_true_eq_false,if_true]
     exact hq
end
end Go.Proofs.YtnoldakbllfmnaaGreatDoor.Ev
namespace Go.Proofs.YtnoldakbllfmnaaGreatDoor.Ev
open Go Go.Proofs Go.Proofs.Ev
set_option linter.unusedVariables false
set_option linter.unusedSimpArgs false
section
variable {n:Nat}
theorem rMons (hn:1001≤n) (os:List AV) (is:List IN) (hi' : is.length≤1000) (ms:List MN) (hm' : ms.length≤1000) (z5 z6:Int):∀ (d i m:Nat),i+d=ms.length→d+1 < m→
  Q0z.l n m (.z21 i os (is.map IN.av) (ms.map MN.av) z5 z6)=some (if (mosE is.length (ms.drop i) i).2≠0 then (3,(mosE is.length (ms.drop i) i).1,(mosE is.length (ms.drop i) i).2) else (0,0,0))
 | _,_,0,_,h=>absurd h (by omega)
 | 0,i,m+1,h,_=>by
  rw [Q0z.at21]
  unfold Q0z.r21
  simp only [List.length_map]
  rw [cond_f (by omega),List.drop_of_length_le (by omega)]
  rfl
 | d+1,i,m+1,h,hm=>by
  have hi:i < ms.length:=by omega
  obtain ⟨q,rfl⟩ : ∃ q,m=q+1:=⟨m - 1,by omega⟩
  have ih:=rMons hn os is hi' ms hm' z5 z6 d (i+1) (q+1) (by omega) (by omega)
  have h25:Q0z.l n (q+1) (.z25 (i:Int) z5 z6)=some (3,(i:Int),3):=rfl
  rw [Q0z.at21]
  unfold Q0z.r21
  simp (disch:=omega) only [Option.bind_some,Option.bind_none,cond_true,cond_false,Bool.not_true,Bool.not_false,List.length_map,Ws_length,bs_size,within_t,upto_t,wsucc,Int.toNat_natCast,at_mapN,Ws_getDN,cells_agg,cells_v,withCons_cons,withInt_mk,withStr_mk,withBool_mk,withSl_mk,cond_t,cond_f,MN.av,h25,Within_eq]
  rw [w64 (by omega) (by omega),ih,List.drop_eq_getElem_cons hi,mosE_cons]
  unfold monX
  by_cases h1:0≤ms[i].fr
  ·rw [cond_f (by omega)]
   by_cases h2:ms[i].fr < ms[i].tt
   ·rw [cond_f (by omega)]
    by_cases h3:ms[i].tt≤(is.length:Int)
    ·rw [cond_f (by omega)]
     by_cases h4:0≤ms[i].ex∧ms[i].ex≤999
     ·by_cases h5:0≤ms[i].hd∧ms[i].hd≤(is.length:Int) - 1
      ·simp [h1,h2,h3,h4,h5]
      ·simp [h1,h2,h3,h4,h5]
     ·simp [h1,h2,h3,h4]
    ·rw [cond_t (by omega)]; simp [h1,h2,h3]
   ·rw [cond_t (by omega)]; simp [h1,h2]
  ·rw [cond_t (by omega)]; simp [h1]
theorem rIns (hn:1001≤n) (os:List OP) (ho:os.length≤1000) (hok:ok4 os) (is:List IN) (hi' : is.length≤1000) (hx:∀ x∈is,x.ar.length≤1000) (ms:List MN) (hm' : ms.length≤100) (z5 z6:Int):∀ (d i m:Nat),i+d=is.length→d+200 < m→
  Q0z.l n m (.z15 i (os.map OP.av) (is.map IN.av) (ms.map MN.av) z5 z6)=some (if (insE os (is.drop i) i).2≠0 then (2,(insE os (is.drop i) i).1,(insE os (is.drop i) i).2) else check3 is.length ms)
 | _,_,0,_,h=>absurd h (by omega)
 | 0,i,m+1,h,_=>by
  rw [Q0z.at15]
  unfold Q0z.r15
  simp only [List.length_map]
  rw [cond_f (by omega),List.drop_of_length_le (by omega)]
  have:=rMons hn (os.map OP.av) is hi' ms (by omega) z5 z6 ms.length 0 m (by omega) (by omega)
  rw [List.drop_zero] at this
  exact this
 | d+1,i,m+1,h,hm=>by
  have hi:i < is.length:=by omega
  have ih:=rIns hn os ho hok is hi' hx ms hm' z5 z6 d (i+1) m (by omega) (by omega)
  rw [Q0z.at15]
  unfold Q0z.r15
  simp (disch:=omega) only [Option.bind_some,Option.bind_none,cond_true,cond_false,Bool.not_true,Bool.not_false,List.length_map,Ws_length,bs_size,within_t,upto_t,wsucc,Int.toNat_natCast,at_mapN,Ws_getDN,cells_agg,cells_v,withCons_cons,withInt_mk,withStr_mk,withBool_mk,withSl_mk,cond_t,cond_f,IN.av]
  rw [insErrR_eq hn os ho hok _ _ is[i] (hx _ (List.getElem_mem hi)),Option.bind_some,bifne,ih,List.drop_eq_getElem_cons hi,insE_cons]
  by_cases h0:insX os is[i]=0
  ·rw [if_pos h0,if_neg (not_not_intro h0)]
  ·rw [if_neg h0,if_pos h0,if_pos h0]
theorem rOps (hn:1001≤n) (os:List OP) (ho:os.length≤28) (is:List IN) (hi' : is.length≤100) (hx:∀ x∈is,x.ar.length≤1000) (ms:List MN) (hm' : ms.length≤100) (z5 z6:Int):∀ (d i m:Nat),i+d=os.length→d+400 < m→ok4 (os.take i)→((opsE is.length (os.take i) (os.drop i)).2=0→(opsE is.length [] os).2=0)→
  Q0z.l n m (.z6 i (os.map OP.av) (is.map IN.av) (ms.map MN.av) z5 z6)=some (if (opsE is.length (os.take i) (os.drop i)).2≠0 then (1,(opsE is.length (os.take i) (os.drop i)).1,(opsE is.length (os.take i) (os.drop i)).2) else if (layX os).2 > 24 then (0,0,30) else check2 os is ms)
 | _,_,0,_,h,_,_=>absurd h (by omega)
 | 0,i,m+1,h,_,hok,hz=>by
  rw [List.drop_of_length_le (by omega)] at hz ⊢
  have hL:=ops_okL (hz rfl)
  have h4:=ops_ok4 (hz rfl)
  rw [Q0z.at6]
  unfold Q0z.r6
  simp only [List.length_map]
  rw [cond_f (by omega),layoutR_eq hn os ho hL,Option.bind_some]
  have:=rIns hn os (by omega) h4 is (by omega) hx ms hm' z5 z6 is.length 0 m (by omega) (by omega)
  rw [List.drop_zero] at this
  rw [if_neg (by simp [opsE]),bif_ite,show ((0:Int))=((0:Nat):Int) from rfl,this]
  split <;> rfl
 | d+1,i,m+1,h,hm,hok,hz=>by
  have hi:i < os.length:=by omega
  have ih:=rOps hn os ho is hi' hx ms hm' z5 z6 d (i+1) m (by omega) (by omega)
  rw [Q0z.at6]
  unfold Q0z.r6
  simp only [List.length_map]
  rw [cond_t (by omega),opErrR_eq hn os (by omega) is (by omega) _ i hi (ok4T hok),Option.bind_some,bifne,wsucc (by omega)]
  rw [List.drop_eq_getElem_cons hi,opsE_cons] at hz ⊢
  by_cases h0:opE (os.take i) os[i] is.length=0
  ·rw [if_neg (not_not_intro h0),← List.take_succ_eq_append_getElem hi] at hz
   rw [if_pos h0,if_neg (not_not_intro h0),← List.take_succ_eq_append_getElem hi]
   exact ih (take_ok4 hi hok h0) hz
  ·rw [if_neg h0,if_pos h0,if_pos h0,List.length_take,Nat.min_eq_left (by omega)]
theorem checkR_law (hn:1001≤n) (os:List OP) (ho:os.length≤28) (is:List IN) (hi' : is.length≤100) (hx:∀ x∈is,x.ar.length≤1000) (ms:List MN) (hm' : ms.length≤100):Q0z.F n (os.map OP.av) (is.map IN.av) (ms.map MN.av)=some (checkX os is ms):=by
 obtain ⟨m,rfl⟩ : ∃ m,n=m+1:=⟨n - 1,by omega⟩
 unfold Q0z.F Q0z.e checkX
 have h2' : Q0z.l (m+1) (m+1) (.z2 0 0)=some (0,0,2):=rfl
 simp only [List.length_map,h2']
 have hq:=rOps hn os ho is hi' hx ms hm' 0 0 os.length 0 (m+1) (by omega) (by omega) (fun o ho=>by simp at ho) (fun h=>h)
 rw [List.drop_zero,List.take_zero,show (((0:Nat):Int))=0 from rfl] at hq
 have c1:decide (((os.length:Nat):Int) > 24)=decide (os.length > 24):=by rw [decide_eq_decide]; omega
 have c2:decide (((is.length:Nat):Int) > 40)=decide (is.length > 40):=by rw [decide_eq_decide]; omega
 have c3:decide (((ms.length:Nat):Int) > 6)=decide (ms.length > 6):=by rw [decide_eq_decide]; omega
 rw [c1,c2,c3]
 by_cases h1:os.length > 24
 ·simp [h1]
 ·by_cases h2:is.length > 40
  ·simp [h1,h2]
  ·by_cases h3:ms.length > 6
   ·simp [h1,h2,h3]
   ·by_cases h4:is.length=0
    ·simp [h1,h2,h3,h4]
    ·have h4' : ¬ ((is.length:Nat):Int)=0:=by omega
     simp only [h1,h2,h3,h4,h4',decide_false,cond_false,or_self,if_false,beq_int,Bool.false_eq_true]
     exact hq
theorem awake_eq (n:Nat):Q0p.F n=some true:=rfl
theorem few_x {os:List OP} {is:List IN} {ms:List MN} (h:fewP os is ms=true):os.length≤28∧is.length≤100∧ms.length≤100∧∀ x∈is,x.ar.length≤1000:=by
 obtain ⟨h1,h2,h3,_,h5⟩:=fewP_spec h
 exact ⟨h1,by omega,by omega,fun x hx=>by have:=h5 x hx; omega⟩
end
end Go.Proofs.YtnoldakbllfmnaaGreatDoor.Ev
namespace Go.Proofs.YtnoldakbllfmnaaGreatDoor.Ev
open Go Go.Proofs Go.Proofs.Ev
set_option linter.unusedVariables false
set_option linter.unusedSimpArgs false
section
variable {n:Nat}
abbrev errX (os:List OP) (is:List IN) (ms:List MN):Int:=(checkX os is ms).2.2
theorem programErr_eq (hn:1001≤n) (os:List OP) (ho:os.length≤28) (is:List IN) (hi' : is.length≤100) (hx:∀ x∈is,x.ar.length≤1000) (ms:List MN) (hm' : ms.length≤100):Q2v.F n (os.map OP.av) (is.map IN.av) (ms.map MN.av)=some (errX os is ms):=by
 unfold Q2v.F Q2v.e
 rw [check_law hn os ho is hi' hx ms hm']
 rfl
theorem errR_eq (hn:1001≤n) (os:List OP) (ho:os.length≤28) (is:List IN) (hi' : is.length≤100) (hx:∀ x∈is,x.ar.length≤1000) (ms:List MN) (hm' : ms.length≤100):Q10.F n (os.map OP.av) (is.map IN.av) (ms.map MN.av)=some (errX os is ms):=by
 unfold Q10.F Q10.e
 rw [checkR_law hn os ho is hi' hx ms hm']
 rfl
end
end Go.Proofs.YtnoldakbllfmnaaGreatDoor.Ev
namespace Go.Proofs.YtnoldakbllfmnaaGreatDoor.Ev
open Go Go.Proofs Go.Proofs.Ev
set_option linter.unusedVariables false
set_option linter.unusedSimpArgs false
theorem dec1 {k:Nat} (h:k < 10):Lib.decDigits k=[UInt8.ofNat (48+k)]:=by rw [Lib.decDigits,dif_pos h]
theorem decS {k:Nat} (h:¬ k < 10):Lib.decDigits k=Lib.decDigits (k / 10)++[UInt8.ofNat (48+k % 10)]:=by rw [Lib.decDigits,dif_neg h]
theorem dec_len:∀ (m k:Nat),k < 10 ^ (m+1)→1≤(Lib.decDigits k).length∧(Lib.decDigits k).length≤m+1
 | m,k,h=>by
  by_cases h1:k < 10
  ·rw [dec1 h1]; simp
  ·rw [decS h1]
   cases m with
   | zero=>omega
   | succ m=>
    have:=dec_len m (k / 10) (by rw [Nat.pow_succ] at h; omega)
    simp only [List.length_append,List.length_cons,List.length_nil]
    omega
theorem small_digit (k:Nat) (h:k < 10):strOf [vu (IntKind.u8.wrap (IntKind.i64.wrap (48+(k:Int))))]=some [UInt8.ofNat (48+k)]:=by
 have:∀ k:Fin 10,strOf [vu (IntKind.u8.wrap (IntKind.i64.wrap (48+((k.1:Nat):Int))))]=some [UInt8.ofNat (48+k.1)]:=by decide +kernel
 exact this ⟨k,h⟩
theorem digits_eq {n:Nat} (hn:20≤n) (k:Nat) (h:k < 10 ^ 18):Q07.F n k=some (bs (Lib.decDigits k)):=by
 obtain ⟨m,rfl⟩ : ∃ m,n=m+18:=⟨n - 18,by omega⟩
 unfold Q07.F
 have:∀ (q j:Nat) (k:Nat),k < 10 ^ (j+1)→j≤17→Q07.D (m+18) (j+1+q) k=some (bs (Lib.decDigits k)):=by
  intro q j
  induction j with
  | zero=>
   intro k hk _
   have hk:k < 10:=by simpa using hk
   rw [show 0+1+q=q+1 by omega]
   rw [Q07.D_succ]
   unfold Q07.e
   rw [cond_f (by omega),cond_f (by omega),cond_t (by omega)]
   simp only [small_digit k hk]
   rw [dec1 hk]
   rfl
  | succ j ih=>
   intro k hk hj
   have hp:10 ^ (j+1+1)≤10 ^ 18:=Nat.pow_le_pow_right (by omega) (by omega)
   rw [show j+1+1+q=(j+1+q)+1 by omega]
   rw [Q07.D_succ]
   unfold Q07.e
   rw [cond_f (by omega),cond_f (by omega)]
   by_cases h1:k < 10
   ·rw [cond_t (by omega)]
    simp only [small_digit k h1]
    rw [dec1 h1]
    rfl
   ·rw [cond_f (by omega)]
    have e1:IntKind.i64.wrap (Int.tdiv (k:Int) 10)=((k / 10:Nat):Int):=by rw [Int.tdiv_eq_ediv_of_nonneg (by omega),w64] <;> omega
    have e2:Int.tmod (k:Int) 10=((k % 10:Nat):Int):=by rw [Int.tmod_eq_emod_of_nonneg (by omega)]; omega
    have hk' : k / 10 < 10 ^ (j+1):=by rw [Nat.pow_succ] at hk; omega
    have hl:=dec_len j (k / 10) hk'
    simp only [e1,e2,small_digit (k % 10) (by omega)]
    rw [ih (k / 10) hk' (by omega),Option.bind_some]
    simp only [withSome]
    rw [chk_t (by rw [bs_size,bs_size]; simp; omega),bs_append,← decS h1]
 have h2:=this m 17 k h (by omega)
 rw [show 17+1+m=m+18 by omega] at h2
 exact h2
def okc (c:UInt8):Bool:=decide (32≤c.toNat)&&decide (c.toNat≤126)
section
variable {n:Nat}
theorem lit1 (a:UInt8):(⟨#[a]⟩ : ByteArray)=bs [a]:=rfl
theorem lit2 (a b:UInt8):(⟨#[a,b]⟩ : ByteArray)=bs [a,b]:=rfl
theorem lit7 (a b c d e f g:UInt8):(⟨#[a,b,c,d,e,f,g]⟩ : ByteArray)=bs [a,b,c,d,e,f,g]:=rfl
theorem lit8 (a b c d e f g h:UInt8):(⟨#[a,b,c,d,e,f,g,h]⟩ : ByteArray)=bs [a,b,c,d,e,f,g,h]:=rfl
theorem digitsD_eq:∀ (q j:Nat) (k:Nat),k < 10 ^ (j+1)→j≤17→Q07.D n (j+1+q) k=some (bs (Lib.decDigits k)):=by
 intro q j
 induction j with
 | zero=>
  intro k hk _
  have hk:k < 10:=by simpa using hk
  rw [show 0+1+q=q+1 by omega]
  rw [Q07.D_succ]
  unfold Q07.e
  rw [cond_f (by omega),cond_f (by omega),cond_t (by omega)]
  simp only [small_digit k hk]
  rw [dec1 hk]
  rfl
 | succ j ih=>
  intro k hk hj
  have hp:10 ^ (j+1+1)≤10 ^ 18:=Nat.pow_le_pow_right (by omega) (by omega)
  rw [show j+1+1+q=(j+1+q)+1 by omega]
  rw [Q07.D_succ]
  unfold Q07.e
  rw [cond_f (by omega),cond_f (by omega)]
  by_cases h1:k < 10
  ·rw [cond_t (by omega)]
   simp only [small_digit k h1]
   rw [dec1 h1]
   rfl
  ·rw [cond_f (by omega)]
   have e1:IntKind.i64.wrap (Int.tdiv (k:Int) 10)=((k / 10:Nat):Int):=by rw [Int.tdiv_eq_ediv_of_nonneg (by omega),w64] <;> omega
   have e2:Int.tmod (k:Int) 10=((k % 10:Nat):Int):=by rw [Int.tmod_eq_emod_of_nonneg (by omega)]; omega
   have hk' : k / 10 < 10 ^ (j+1):=by rw [Nat.pow_succ] at hk; omega
   have hl:=dec_len j (k / 10) hk'
   simp only [e1,e2,small_digit (k % 10) (by omega)]
   rw [ih (k / 10) hk' (by omega),Option.bind_some]
   simp only [withSome]
   rw [chk_t (by rw [bs_size,bs_size]; simp; omega),bs_append,← decS h1]
theorem itoaI_eq (k:Int) (h1 : -1000000000000000≤k) (h2:k≤1000000000000000):Q3d.F n k=some (bs (Lib.itoa k)):=by
 unfold Q3d.F
 have:(decide ((-9223372036854775808:Int)≤k)&&decide (k≤9223372036854775807))=true:=by rw [Bool.and_eq_true,decide_eq_true_eq,decide_eq_true_eq]; omega
 rw [this,cond_true]
theorem itoa_len (k:Int) (h1 : -1000000000000000≤k) (h2:k≤1000000000000000):(Lib.itoa k).length≤20:=by
 unfold Lib.itoa
 split
 ·have:=(dec_len 16 k.natAbs (by omega)).2
  simp only [List.length_cons]
  omega
 ·have:=(dec_len 16 k.toNat (by omega)).2
  omega
theorem digitsI_eq (hn:20≤n) (k:Int) (h1 : -1000000000000000≤k) (h2:k≤1000000000000000):Q07.F n k=some (bs (Lib.itoa k)):=by
 by_cases h0:0≤k
 ·obtain ⟨j,rfl⟩ : ∃ j:Nat,k=j:=⟨k.toNat,by omega⟩
  rw [digits_eq hn j (by omega),Lib.itoa,if_neg (by omega),Int.toNat_natCast]
 ·obtain ⟨j,rfl⟩ : ∃ j:Nat,k=-(j:Int):=⟨k.natAbs,by omega⟩
  obtain ⟨m,rfl⟩ : ∃ m,n=m+19:=⟨n - 19,by omega⟩
  unfold Q07.F
  rw [show Q07.D (m+19) (m+19) (-(j:Int))=Q07.D (m+19) ((m+18)+1) (-(j:Int)) from rfl,Q07.D_succ]
  unfold Q07.e
  rw [Lib.itoa,if_pos (by omega),show (-(j:Int)).natAbs=j by omega]
  by_cases h9 : -(j:Int) < -9
  ·have e1:IntKind.i64.wrap (Int.tdiv (-(j:Int)) 10)=-((j / 10:Nat):Int):=by rw [Int.neg_tdiv,Int.tdiv_eq_ediv_of_nonneg (by omega),w64] <;> omega
   have e2:Int.tmod (-(j:Int)) 10=-((j % 10:Nat):Int):=by rw [Int.neg_tmod,Int.tmod_eq_emod_of_nonneg (by omega)]; omega
   have d1:=digitsD_eq (n:=m+19) m 17 (j / 10) (by omega) (by omega)
   have d2:=digitsD_eq (n:=m+19) m 17 (j % 10) (by omega) (by omega)
   rw [show 17+1+m=m+18 by omega] at d1 d2
   have l1:=(dec_len 16 (j / 10) (by omega)).2
   have l2:=(dec_len 16 (j % 10) (by omega)).2
   rw [cond_t h9]
   simp only [e1,e2]
   rw [w64 (x:=0 - -((j / 10:Nat):Int)) (by omega) (by omega),w64 (x:=0 - -((j % 10:Nat):Int)) (by omega) (by omega),show (0 - -((j / 10:Nat):Int))=((j / 10:Nat):Int) by omega,show (0 - -((j % 10:Nat):Int))=((j % 10:Nat):Int) by omega,
    d1,Option.bind_some,d2,Option.bind_some,lit1]
   rw [chk_t (by rw [bs_size]; omega),chk_t (by rw [bs_append,bs_size,bs_size,List.length_append,List.length_singleton]; omega),bs_append,bs_append,decS (k:=j) (by omega),dec1 (k:=j % 10) (by omega)]
   simp
  ·have d1:=digitsD_eq (n:=m+19) m 17 j (by omega) (by omega)
   rw [show 17+1+m=m+18 by omega] at d1
   have l1:=(dec_len 16 j (by omega)).2
   rw [cond_f h9,cond_t (by omega),w64 (x:=0 - -(j:Int)) (by omega) (by omega),show (0 - -(j:Int))=(j:Int) by omega,d1,Option.bind_some,lit1,chk_t (by rw [bs_size]; omega),bs_append]
   rfl
def dbl (s:List UInt8):List UInt8:=s.flatMap fun c=>if c=39 then [39,39] else [c]
theorem dbl_cons (c:UInt8) (s:List UInt8):dbl (c::s)=(if c=39 then [39,39] else [c])++dbl s:=rfl
theorem dbl_len:∀ s:List UInt8,(dbl s).length≤2*s.length
 | []=>by simp [dbl]
 | c::s=>by
  have:=dbl_len s
  rw [dbl_cons,List.length_append,List.length_cons]
  split <;> simp <;> omega
def qd (s:List UInt8):List UInt8:=[39]++dbl s++[39]
theorem dbl_none:∀ s:List UInt8,s.count 39=0→dbl s=s
 | [],_=>rfl
 | c::s,h=>by
  rw [List.count_cons] at h
  have h1:¬ c=39:=by intro e; rw [e] at h; simp at h
  rw [dbl_cons,if_neg h1,dbl_none s (by omega)]
  rfl
theorem replK:∀ (s:List UInt8) (k:Nat),s.count 39≤k→Lib.replaceK [39] [39,39] k s=dbl s
 | [],0,_=>rfl
 | [],k+1,_=>rfl
 | c::s,k,h=>by
  by_cases hc:c=39
  ·subst hc
   rw [List.count_cons_self] at h
   obtain ⟨k,rfl⟩ : ∃ q,k=q+1:=⟨k - 1,by omega⟩
   have hi:Lib.index (39::s) [39]=((0:Nat):Int):=by simp [Lib.index]
   rw [Lib.replaceK_hit [39] [39,39] k (39::s) 0 hi,dbl_cons,if_pos rfl]
   have:=replK s k (by omega)
   simp only [List.take_zero,List.nil_append,List.length_singleton,Nat.zero_add,List.drop_succ_cons,List.drop_zero,this]
  ·have hcn:(39::([]:List UInt8)).isPrefixOf (c::s)=false:=by
    simp [List.isPrefixOf]
    intro e; exact hc e.symm
   have hct:(c::s).count 39=s.count 39:=by rw [List.count_cons]; simp [hc]
   rw [hct] at h
   cases k with
   | zero=>
    rw [dbl_none (c::s) (by omega)]
    rfl
   | succ k=>
    have ih:=replK s (k+1) h
    have hix:Lib.index (c::s) [39]=if Lib.index s [39]==-1 then -1 else Lib.index s [39]+1:=by
     rw [Lib.index,hcn]; rfl
    by_cases hm:Lib.index s [39]=-1
    ·rw [Lib.replaceK,if_pos (by rw [hix,hm]; rfl)]
     rw [Lib.replaceK,if_pos (by rw [hm]; rfl)] at ih
     rw [dbl_cons,if_neg hc,← ih]
     rfl
    ·have hge:=Lib.index_ge s [39]
     obtain ⟨i,hi⟩ : ∃ i:Nat,Lib.index s [39]=i:=⟨(Lib.index s [39]).toNat,by omega⟩
     have hi' : Lib.index (c::s) [39]=((i+1:Nat):Int):=by
      rw [hix,if_neg (by rw [beq_iff_eq]; exact hm),hi]; rfl
     rw [Lib.replaceK_hit _ _ k s i hi] at ih
     rw [Lib.replaceK_hit _ _ k (c::s) (i+1) hi',dbl_cons,if_neg hc,← ih]
     have:i+1+[(39:UInt8)].length=(i+[(39:UInt8)].length)+1:=by simp
     rw [this,List.drop_succ_cons,List.take_succ_cons]
     simp
theorem replaceAll_eq (s:List UInt8) (hs:s.length≤100000):Q3l.F n (bs s) (bs [39]) (bs [39,39])=some (bs (dbl s)):=by
 unfold Q3l.F
 have hc:Lib.countB (bs s) (bs [39])≤s.length:=Lib.countB_le (bs [39]) (by decide) s.length (bs s) (by rw [bs_size]; omega)
 have hg:((decide ((bs s).size < 4294967281)&&decide (1≤(bs [39]).size))&&decide ((bs s).size+Lib.countB (bs s) (bs [39])*(bs [39,39]).size≤140737488355328))=true:=by
  rw [Bool.and_eq_true,Bool.and_eq_true,decide_eq_true_eq,decide_eq_true_eq,decide_eq_true_eq,bs_size,bs_size,bs_size]
  simp only [List.length_cons,List.length_nil]
  omega
 rw [hg,cond_true]
 have:Lib.replaceAll (bs s).data.toList (bs [39]).data.toList (bs [39,39]).data.toList=dbl s:=by
  show Lib.replaceAll s [39] [39,39]=dbl s
  unfold Lib.replaceAll Lib.replace Lib.replaceNum
  rw [if_neg (by decide),if_pos (by left; decide),replK s _ (by rw [Lib.count_one]; omega)]
 rw [this]
theorem byte_at {l:List UInt8} {i:Nat} (hi:i < l.length):l.toArray.getD i 0=l[i]:=by
 simp [Array.getD,hi]
theorem cut1 {l:List UInt8} {i:Nat} (hi:i < l.length):(bs l).extract i (i+1)=bs [l[i]]:=by
 rw [bs_extract,show i+1 - i=1 by omega,List.drop_eq_getElem_cons hi]
 rfl
end
end Go.Proofs.YtnoldakbllfmnaaGreatDoor.Ev
namespace Go.Proofs.YtnoldakbllfmnaaGreatDoor.Ev
open Go Go.Proofs Go.Proofs.Ev
set_option linter.unusedVariables false
set_option linter.unusedSimpArgs false
def zpad (a s:Nat):List UInt8:=List.replicate (s+1 - (Lib.decDigits a).length) 48++Lib.decDigits a
def ptT (t:List UInt8) (s:Nat):List UInt8:=if 0 < s then t.take (t.length - s)++[46]++t.drop (t.length - s) else t
def numT (v:Int) (s:Nat):List UInt8:=(if v < 0 then [45] else [])++ptT (zpad v.natAbs s) s
theorem rep48:∀ k,Lib.repeatL [48] k=List.replicate k 48
 | 0=>rfl
 | k+1=>by rw [Lib.repeatL,rep48 k]; rfl
theorem zpad_len {a s:Nat} (ha:a < 10 ^ 15) (hs:s≤15):s < (zpad a s).length∧(zpad a s).length≤16:=by
 have:=dec_len 14 a ha
 unfold zpad
 rw [List.length_append,List.length_replicate]
 omega
theorem ptT_len {t:List UInt8} {s:Nat} (h:s≤t.length):(ptT t s).length≤t.length+1:=by
 unfold ptT
 split
 ·simp; omega
 ·omega
theorem numT_len {v:Int} {s:Nat} (ha:v.natAbs < 10 ^ 15) (hs:s≤15):(numT v s).length≤18:=by
 have h1:=zpad_len ha hs
 have h2:=ptT_len (t:=zpad v.natAbs s) (s:=s) (by omega)
 unfold numT
 rw [List.length_append]
 split <;> simp <;> omega
section
variable {n:Nat}
theorem abs_eq {v:Int} (h:v.natAbs < 10 ^ 15):(if IntKind.i64.wrap (0 - v) > v then IntKind.i64.wrap (0 - v) else v)=((v.natAbs:Nat):Int):=by
 have h15:(10:Nat) ^ 15=1000000000000000:=by decide
 rw [w64 (by omega) (by omega)]
 split <;> omega
theorem repeat48 (k:Nat) (hk:k≤100):Q3k.F n (⟨#[48]⟩ : ByteArray) ((k:Nat):Int)=some (bs (List.replicate k 48)):=by
 unfold Q3k.F
 have hg:(decide ((0:Int)≤((k:Nat):Int))&&decide ((((⟨#[48]⟩ : ByteArray).size:Nat):Int)*((k:Nat):Int)≤140737488355328)&&decide (((k:Nat):Int)≤9223372036854775807))=true:=by
  rw [show (((⟨#[48]⟩ : ByteArray).size:Nat):Int)=1 from rfl,Bool.and_eq_true,Bool.and_eq_true,decide_eq_true_eq,decide_eq_true_eq,decide_eq_true_eq]
  omega
 rw [hg,cond_true,Int.toNat_natCast]
 show some (bs (Lib.repeatL [48] k))=_
 rw [rep48]
theorem r9_eq (m:Nat) (t:List UInt8) (ht:t.length≤100) (v s:Int):Q1o.l n (m+1) (.z9 (bs t) v s)=some (bs ((if v < 0 then [45] else [])++t),0):=by
 rw [Q1o.at9]
 unfold Q1o.r9
 by_cases h:v < 0
 ·rw [cond_t h,if_pos h,chk_t (by rw [bs_size]; omega),lit1,bs_append]
 ·rw [cond_f h,if_neg h]; rfl
theorem cut_pt {t:List UInt8} {s:Nat} (hs:s < t.length) (ht:t.length≤100) (h0:0 < s) (K:ByteArray→Option (ByteArray × Int)) :
  (bif decide ((0:Int)≤IntKind.i64.wrap ((((bs t).size:Nat):Int) - (s:Int)))&&decide ((IntKind.i64.wrap ((((bs t).size:Nat):Int) - (s:Int)):Int)≤(((bs t).size:Nat):Int)) then
   chk (decide (((bs t).extract 0 (IntKind.i64.wrap ((((bs t).size:Nat):Int) - (s:Int))).toNat).size+1≤9223372036854775807))
    (bif decide ((0:Int)≤IntKind.i64.wrap ((((bs t).size:Nat):Int) - (s:Int)))&&decide ((IntKind.i64.wrap ((((bs t).size:Nat):Int) - (s:Int)):Int)≤(((bs t).size:Nat):Int)) then
     chk (decide ((((bs t).extract 0 (IntKind.i64.wrap ((((bs t).size:Nat):Int) - (s:Int))).toNat)++(⟨#[46]⟩ : ByteArray)).size+((bs t).extract (IntKind.i64.wrap ((((bs t).size:Nat):Int) - (s:Int))).toNat (bs t).size).size≤9223372036854775807))
      (K ((((bs t).extract 0 (IntKind.i64.wrap ((((bs t).size:Nat):Int) - (s:Int))).toNat)++(⟨#[46]⟩ : ByteArray))++((bs t).extract (IntKind.i64.wrap ((((bs t).size:Nat):Int) - (s:Int))).toNat (bs t).size))) else none) else none)=K (bs (ptT t s)):=by
 have e:IntKind.i64.wrap (((t.length:Nat):Int) - (s:Int))=((t.length - s:Nat):Int):=by rw [w64 (by omega) (by omega)]; omega
 simp only [bs_size,e,Int.toNat_natCast]
 rw [upto_t (by omega),cond_true,cond_true,bs_take,bs_size,show (bs t).extract (t.length - s) t.length=bs (t.drop (t.length - s)) from bs_drop t _,lit1,bs_append,bs_size,bs_size,List.length_append,List.length_take,List.length_drop,List.length_singleton,chk_t (by omega),chk_t (by omega),bs_append]
 unfold ptT
 rw [if_pos h0]
theorem formatNumber_eq (hn:1001≤n) {v s:Int} (hv:v.natAbs < 10 ^ 15) (hs0:0≤s) (hs:s≤15):Q1o.F n v s=some (bs (numT v s.toNat),0):=by
 obtain ⟨m,rfl⟩ : ∃ m,n=m+1:=⟨n - 1,by omega⟩
 have h15:(10:Nat) ^ 15=1000000000000000:=by decide
 obtain ⟨k,rfl⟩ : ∃ k:Nat,s=k:=⟨s.toNat,by omega⟩
 unfold Q1o.F Q1o.e
 have hc:Q1k.F (m+1) v (k:Int)=some 0:=by
  unfold Q1k.F Q1k.e
  simp only [in_eq,Option.bind_some,ncond_eq]
  rw [decide_eq_true (show -999999999999999≤v∧v≤999999999999999 by omega),decide_eq_true (show (0:Int)≤(k:Int)∧(k:Int)≤15 by omega)]
  rfl
 have hd:=dec_len 14 v.natAbs hv
 have hz:=zpad_len hv (show k≤15 by omega)
 have hi:Q3d.F (m+1) ((v.natAbs:Nat):Int)=some (bs (Lib.decDigits v.natAbs)):=by
  rw [itoaI_eq _ (by omega) (by omega),Lib.itoa,if_neg (by omega),Int.toNat_natCast]
 rw [hc,Option.bind_some,bifne,if_pos rfl]
 simp only [abs_eq hv,hi,Option.bind_some]
 unfold numT
 rw [Int.toNat_natCast]
 by_cases hl:(Lib.decDigits v.natAbs).length≤k
 ·rw [cond_t (by rw [bs_size]; omega),w64 (x:=(k:Int)+1) (by omega) (by omega),bs_size,w64 (by omega) (by omega),show ((k:Int)+1 - (((Lib.decDigits v.natAbs).length:Nat):Int))=((k+1 - (Lib.decDigits v.natAbs).length:Nat):Int) by omega,repeat48 _ (by omega),Option.bind_some,chk_t (by rw [bs_size,List.length_replicate]; omega),bs_append]
  have h0:0 < k:=by omega
  rw [cond_t (by omega)]
  show _=some (bs ((if v < 0 then [45] else [])++ptT (zpad v.natAbs k) k),0)
  have:=cut_pt (t:=zpad v.natAbs k) (s:=k) hz.1 (by omega) h0 (fun b=>Q1o.l (m+1) (m+1) (.z9 b v (k:Int)))
  have hp:=ptT_len (t:=zpad v.natAbs k) (s:=k) (by omega)
  rw [r9_eq m _ (show (ptT (zpad v.natAbs k) k).length≤100 by omega)] at this
  exact this
 ·have hz0:zpad v.natAbs k=Lib.decDigits v.natAbs:=by
   unfold zpad
   rw [show k+1 - (Lib.decDigits v.natAbs).length=0 by omega]
   rfl
  rw [hz0] at hz ⊢
  rw [cond_f (by rw [bs_size]; omega)]
  have hp:=ptT_len (t:=Lib.decDigits v.natAbs) (s:=k) (by omega)
  by_cases h0:0 < k
  ·rw [cond_t (by omega)]
   have:=cut_pt (t:=Lib.decDigits v.natAbs) (s:=k) hz.1 (by omega) h0 (fun b=>Q1o.l (m+1) (m+1) (.z9 b v (k:Int)))
   rw [r9_eq m _ (show (ptT (Lib.decDigits v.natAbs) k).length≤100 by omega)] at this
   exact this
  ·rw [cond_f (by omega),r9_eq m _ (show (Lib.decDigits v.natAbs).length≤100 by omega)]
   unfold ptT
   rw [if_neg h0]
theorem text_l (hn:1001≤n) {v:Int} {k:Nat} (hk:k≤15) (hv:v.natAbs < 10 ^ 15):∀ (d j m:Nat),k+1 - (Lib.decDigits v.natAbs).length=j+d→d+2≤m→Q0u.l n m (.z2 (bs (List.replicate j 48++Lib.decDigits v.natAbs)) v (k:Int))=some (bs (numT v k))
 | _,_,0,_,h=>absurd h (by omega)
 | 0,j,m+1,h,hm=>by
  obtain ⟨q,rfl⟩ : ∃ q,m=q+1:=⟨m - 1,by omega⟩
  have hd:=dec_len 14 v.natAbs hv
  have hz:=zpad_len hv hk
  have hzz:List.replicate j 48++Lib.decDigits v.natAbs=zpad v.natAbs k:=by unfold zpad; rw [show k+1 - (Lib.decDigits v.natAbs).length=j by omega]
  have h8:∀ b,Q0u.l n (q+1) (.z8 b)=some b:=fun _=>rfl
  rw [hzz,Q0u.at2]
  unfold Q0u.r2 numT
  rw [cond_f (by rw [bs_size]; omega)]
  have hp:=ptT_len (t:=zpad v.natAbs k) (s:=k) (by omega)
  have fin:∀ t:List UInt8,t.length≤100→(bif decide (v < 0) then (chk (decide (1+(bs t).size≤9223372036854775807)) (Q0u.l n (q+1) (.z8 ((⟨#[45]⟩ : ByteArray)++bs t)))) else (Q0u.l n (q+1) (.z8 (bs t))))=some (bs ((if v < 0 then [45] else [])++t)):=by
   intro t ht
   by_cases h:v < 0
   ·rw [cond_t h,if_pos h,chk_t (by rw [bs_size]; omega),lit1,bs_append,h8]
   ·rw [cond_f h,if_neg h,h8]; rfl
  by_cases h0:0 < k
  ·rw [cond_t (by omega)]
   have e:IntKind.i64.wrap ((((zpad v.natAbs k).length:Nat):Int) - (k:Int))=(((zpad v.natAbs k).length - k:Nat):Int):=by rw [w64 (by omega) (by omega)]; omega
   simp only [bs_size,e,Int.toNat_natCast]
   rw [upto_t (by omega),cond_true,cond_true,bs_take,bs_size,show (bs (zpad v.natAbs k)).extract ((zpad v.natAbs k).length - k) (zpad v.natAbs k).length=bs ((zpad v.natAbs k).drop ((zpad v.natAbs k).length - k)) from bs_drop _ _,lit1,bs_append,bs_size,bs_size,List.length_append,List.length_take,List.length_drop,List.length_singleton,chk_t (by omega),chk_t (by omega),bs_append]
   have hpt:ptT (zpad v.natAbs k) k=(zpad v.natAbs k).take ((zpad v.natAbs k).length - k)++[46]++(zpad v.natAbs k).drop ((zpad v.natAbs k).length - k):=by unfold ptT; rw [if_pos h0]
   rw [← hpt]
   exact fin _ (by omega)
  ·rw [cond_f (by omega)]
   have hpt:ptT (zpad v.natAbs k) k=zpad v.natAbs k:=by unfold ptT; rw [if_neg h0]
   rw [hpt]
   exact fin _ (by omega)
 | d+1,j,m+1,h,hm=>by
  have hd:=dec_len 14 v.natAbs hv
  have ih:=text_l hn hk hv d (j+1) m (by omega) (by omega)
  rw [Q0u.at2]
  unfold Q0u.r2
  rw [cond_t (by rw [bs_size,List.length_append,List.length_replicate]; omega),chk_t (by rw [bs_size,List.length_append,List.length_replicate]; omega),lit1,bs_append,← ih]
  rfl
theorem textR_eq (hn:1001≤n) {v s:Int} (hv:v.natAbs < 10 ^ 15) (hs0:0≤s) (hs:s≤15):Q0u.F n v s=some (bs (numT v s.toNat)):=by
 have h15:(10:Nat) ^ 15=1000000000000000:=by decide
 obtain ⟨k,rfl⟩ : ∃ k:Nat,s=k:=⟨s.toNat,by omega⟩
 unfold Q0u.F Q0u.e Q0q.F Q0q.e
 simp only [abs_eq hv,Option.bind_some]
 rw [digits_eq (by omega) _ (by omega),Option.bind_some,Int.toNat_natCast]
 have hd:=dec_len 14 v.natAbs hv
 exact text_l hn (by omega) hv (k+1 - (Lib.decDigits v.natAbs).length) 0 n (by omega) (by omega)
end
end Go.Proofs.YtnoldakbllfmnaaGreatDoor.Ev
namespace Go.Proofs.YtnoldakbllfmnaaGreatDoor.Ev
open Go Go.Proofs Go.Proofs.Ev
set_option linter.unusedVariables false
set_option linter.unusedSimpArgs false
theorem lit5 (a b c d e:UInt8):(⟨#[a,b,c,d,e]⟩ : ByteArray)=bs [a,b,c,d,e]:=rfl
theorem lit6 (a b c d e f:UInt8):(⟨#[a,b,c,d,e,f]⟩ : ByteArray)=bs [a,b,c,d,e,f]:=rfl
theorem lit10 (a b c d e f g h i j:UInt8):(⟨#[a,b,c,d,e,f,g,h,i,j]⟩ : ByteArray)=bs [a,b,c,d,e,f,g,h,i,j]:=rfl
def hexL:List UInt8:=[48,49,50,51,52,53,54,55,56,57,65,66,67,68,69,70]
def hxB (c:UInt8):List UInt8:=[hexL.getD (c.toNat / 16) 0,hexL.getD (c.toNat % 16) 0]
def hexT (s:List UInt8):List UInt8:=s.flatMap hxB
theorem hexT_cons (c:UInt8) (s:List UInt8):hexT (c::s)=hxB c++hexT s:=rfl
theorem hexT_len:∀ s:List UInt8,(hexT s).length=2*s.length
 | []=>rfl
 | c::s=>by rw [hexT_cons,List.length_append,hexT_len s]; simp [hxB]; omega
def ub (l:List UInt8):List AV:=l.map fun b=>vu b.toNat
theorem ub_length (l:List UInt8):(ub l).length=l.length:=by simp [ub]
theorem strOf_ub:∀ l:List UInt8,strOf (ub l)=some l
 | []=>rfl
 | b::l=>by
  have ih:=strOf_ub l
  unfold ub at ih ⊢
  simp only [List.map_cons,strOf,ih,Option.map_some]
  congr 2
  simp
theorem hi_nib (c:UInt8):Int.fdiv ((c.toNat:Nat):Int) (2 ^ min (4:Int).toNat 8)=((c.toNat / 16:Nat):Int):=by
 rw [show (2:Int) ^ min (4:Int).toNat 8=16 from rfl,Int.fdiv_eq_ediv_of_nonneg _ (by omega)]
 omega
theorem lo_nib (c:UInt8):IntKind.u8.wrap ((BitVec.ofInt 8 ((c.toNat:Nat):Int) &&& BitVec.ofInt 8 15).toNat:Nat)=((c.toNat % 16:Nat):Int):=by
 have:∀ k:Fin 256,IntKind.u8.wrap ((BitVec.ofInt 8 ((k.1:Nat):Int) &&& BitVec.ofInt 8 15).toNat:Nat)=((k.1 % 16:Nat):Int):=by decide +kernel
 exact this ⟨c.toNat,c.toNat_lt⟩
theorem hi_nibR (c:UInt8):IntKind.u8.wrap (Int.tdiv ((c.toNat:Nat):Int) 16)=((c.toNat / 16:Nat):Int):=by
 have h:=c.toNat_lt
 rw [Int.tdiv_eq_ediv_of_nonneg (by omega),IntKind.wrap_u8]
 omega
theorem lo_nibR (c:UInt8):Int.tmod ((c.toNat:Nat):Int) 16=((c.toNat % 16:Nat):Int):=by
 rw [Int.tmod_eq_emod_of_nonneg (by omega)]; omega
theorem hex_at (k:Nat):(#[48,49,50,51,52,53,54,55,56,57,65,66,67,68,69,70]:Array UInt8).getD k 0=hexL.getD k 0:=bs_getD hexL k
theorem ub_hx (c:UInt8):[vu (((hexL.getD (c.toNat / 16) 0).toNat:Nat):Int),vu (((hexL.getD (c.toNat % 16) 0).toNat:Nat):Int)]=ub (hxB c):=rfl
theorem ub_app (a b:List UInt8):ub a++ub b=ub (a++b):=by simp [ub]
theorem ub_at {l:List UInt8} {i:Nat} (hi:i < l.length):(ub l).getD i AV.undef=vu ((l[i].toNat:Nat):Int):=by simp [ub,List.getD_eq_getElem?_getD,hi]
section
variable {n:Nat}
theorem hexP_l (s:List UInt8) (hs:s.length≤100000):∀ (d i m:Nat) (acc:List UInt8),i+d=s.length→d < m→acc.length=2+2*i→Q32.l n m (.z8 s.length i (ub acc) (ub s))=some (bs (acc++hexT (s.drop i)++[39]))
 | _,_,0,_,_,h,_=>absurd h (by omega)
 | 0,i,m+1,acc,h,_,ha=>by
  have hmost:most=1000000000:=rfl
  rw [Q32.at8]
  unfold Q32.r8
  rw [cond_f (by omega),show ([vu 39]:List AV)=ub [39] from rfl,ub_length,ub_length,cond_t (by simp; omega),ub_app,strOf_ub,List.drop_of_length_le (by omega)]
  simp [withSome,hexT]
 | d+1,i,m+1,acc,h,hm,ha=>by
  have hi:i < s.length:=by omega
  have hmost:most=1000000000:=rfl
  have h256:=s[i].toNat_lt
  have ih:=hexP_l s hs d (i+1) m (acc++hxB s[i]) (by omega) (by omega) (by simp [hxB]; omega)
  rw [Q32.at8]
  unfold Q32.r8
  simp (disch:=omega) only [Option.bind_some,Option.bind_none,cond_true,cond_false,Bool.not_true,Bool.not_false,List.length_map,Ws_length,bs_size,within_t,upto_t,wsucc,Int.toNat_natCast,at_mapN,Ws_getDN,cells_agg,cells_v,withCons_cons,withInt_mk,withStr_mk,withBool_mk,withSl_mk,cond_t,cond_f,ub_length,ub_at,hi_nib,lo_nib,hex_at]
  rw [ub_hx,cond_t (by rw [ub_length,show (hxB s[i]).length=2 from rfl]; omega),ub_app,ih,List.drop_eq_getElem_cons hi,hexT_cons]
  simp
theorem hexR_l (s:List UInt8) (hs:s.length≤100000):∀ (d i m:Nat) (acc:List UInt8),i+d=s.length→d < m→acc.length=2*i→Q1a.l n m (.z3 (bs s) i (ub acc))=some (bs (acc++hexT (s.drop i)))
 | _,_,0,_,_,h,_=>absurd h (by omega)
 | 0,i,m+1,acc,h,_,ha=>by
  rw [Q1a.at3]
  unfold Q1a.r3
  simp only [bs_size]
  rw [cond_f (by omega),strOf_ub,List.drop_of_length_le (by omega)]
  simp [withSome,hexT]
 | d+1,i,m+1,acc,h,hm,ha=>by
  have hi:i < s.length:=by omega
  have hmost:most=1000000000:=rfl
  have h256:=s[i].toNat_lt
  have ih:=hexR_l s hs d (i+1) m (acc++hxB s[i]) (by omega) (by omega) (by simp [hxB]; omega)
  rw [Q1a.at3]
  unfold Q1a.r3
  simp (disch:=omega) only [Option.bind_some,Option.bind_none,cond_true,cond_false,Bool.not_true,Bool.not_false,List.length_map,Ws_length,bs_size,within_t,upto_t,wsucc,Int.toNat_natCast,at_mapN,Ws_getDN,cells_agg,cells_v,withCons_cons,withInt_mk,withStr_mk,withBool_mk,withSl_mk,cond_t,cond_f,byte_at,hi_nibR,lo_nibR,hex_at]
  rw [ub_hx,ub_length,cond_t (by rw [ub_length,show (hxB s[i]).length=2 from rfl]; omega),ub_app,ih,List.drop_eq_getElem_cons hi,hexT_cons]
  simp
theorem shown_l (s:List UInt8) (hs:s.length≤100000):∀ (d i m:Nat),i+d=s.length→d < m→∃ r,Q37.l n m (.z2 (ub s) s.length i)=some r∧decide (r≥0)=!(s.drop i).all okc
 | _,_,0,_,h=>absurd h (by omega)
 | 0,i,m+1,h,_=>by
  refine ⟨-1,?_,?_⟩
  ·rw [Q37.at2]
   unfold Q37.r2
   rw [cond_f (by omega)]
  ·rw [List.drop_of_length_le (by omega)]; rfl
 | d+1,i,m+1,h,hm=>by
  have hi:i < s.length:=by omega
  obtain ⟨r,e1,e2⟩:=shown_l s hs d (i+1) m (by omega) (by omega)
  rw [Q37.at2]
  unfold Q37.r2 Q2l.F Q2l.e
  simp (disch:=omega) only [Option.bind_some,Option.bind_none,cond_true,cond_false,Bool.not_true,Bool.not_false,List.length_map,Ws_length,bs_size,within_t,upto_t,wsucc,Int.toNat_natCast,at_mapN,Ws_getDN,cells_agg,cells_v,withCons_cons,withInt_mk,withStr_mk,withBool_mk,withSl_mk,cond_t,cond_f,ub_length,ub_at]
  rw [e1,List.drop_eq_getElem_cons hi,List.all_cons]
  by_cases h1:s[i].toNat < 32
  ·have ho:okc s[i]=false:=by simp [okc]; omega
   rw [cond_t (by omega),Option.bind_some,cond_true,ho]
   exact ⟨_,rfl,by simp⟩
  ·rw [cond_f (by omega),Option.bind_some]
   by_cases h2:s[i].toNat > 126
   ·have ho:okc s[i]=false:=by simp [okc]; omega
    rw [cond_t (by omega),ho]
    exact ⟨_,rfl,by simp⟩
   ·have ho:okc s[i]=true:=by simp [okc]; omega
    rw [cond_f (by omega),ho]
    exact ⟨r,rfl,by rw [e2,Bool.true_and]⟩
theorem isShown_eq (hn:1000002≤n) (s:List UInt8) (hs:s.length≤100000):Q2k.F n (bs s)=some (s.all okc):=by
 unfold Q2k.F Q2k.e Q34.F Q34.e Q37.F Q37.e
 obtain ⟨r,e1,e2⟩:=shown_l (n:=n) s hs s.length 0 n (by omega) (by omega)
 simp only [bs_toList]
 show ((Q37.l n n (.z2 (ub s) (((ub s).length:Nat):Int) 0)).bind _).bind _=_
 rw [ub_length,show ((0:Int))=((0:Nat):Int) from rfl,e1,Option.bind_some]
 show some (!decide (r≥0))=_
 rw [e2,List.drop_zero,Bool.not_not]
theorem plain_l (s:List UInt8) (hs:s.length≤100000):∀ (d i m:Nat),i+d=s.length→d < m→Q1d.l n m (.z2 (bs s) i)=some ((s.drop i).all okc)
 | _,_,0,_,h=>absurd h (by omega)
 | 0,i,m+1,h,_=>by
  rw [Q1d.at2]
  unfold Q1d.r2
  simp only [bs_size]
  rw [cond_f (by omega),List.drop_of_length_le (by omega)]
  rfl
 | d+1,i,m+1,h,hm=>by
  have hi:i < s.length:=by omega
  have h256:=s[i].toNat_lt
  have ih:=plain_l s hs d (i+1) m (by omega) (by omega)
  rw [Q1d.at2]
  unfold Q1d.r2
  simp (disch:=omega) only [Option.bind_some,Option.bind_none,cond_true,cond_false,Bool.not_true,Bool.not_false,List.length_map,Ws_length,bs_size,within_t,upto_t,wsucc,Int.toNat_natCast,at_mapN,Ws_getDN,cells_agg,cells_v,withCons_cons,withInt_mk,withStr_mk,withBool_mk,withSl_mk,cond_t,cond_f,byte_at,Within_eq]
  rw [w64 (by omega) (by omega),ih,List.drop_eq_getElem_cons hi,List.all_cons,bif_not]
  by_cases h1:32≤s[i].toNat∧s[i].toNat≤126
  ·have ho:okc s[i]=true:=by simp [okc]; omega
   rw [decide_eq_true (show (32:Int)≤((s[i].toNat:Nat):Int)∧((s[i].toNat:Nat):Int)≤126 by omega),if_neg (by simp),ho,Bool.true_and]
  ·have ho:okc s[i]=false:=by simp [okc]; omega
   rw [decide_eq_false (show ¬ ((32:Int)≤((s[i].toNat:Nat):Int)∧((s[i].toNat:Nat):Int)≤126) by omega),if_pos rfl,ho,Bool.false_and]
theorem isPlain_eq (hn:1000002≤n) (s:List UInt8) (hs:s.length≤100000):Q1d.F n (bs s)=some (s.all okc):=by
 unfold Q1d.F Q1d.e
 have:=plain_l (n:=n) s hs s.length 0 n (by omega) (by omega)
 rw [List.drop_zero] at this
 exact this
def valT (k s vn:Int) (vx:List UInt8):List UInt8:=if k=0 then (if vx.all okc=true then qd vx else [88,39]++hexT vx++[39]) else numT vn s.toNat
theorem valP_eq (hn:1000002≤n) {k l s vn:Int} {vx:List UInt8} (hx:vx.length≤1000) (hk:k=0∨(vn.natAbs < 10 ^ 15∧0≤s∧s≤15)):Q32.F n k l s vn (bs vx)=some (bs (valT k s vn vx)):=by
 unfold Q32.F Q32.e valT
 rw [bifne]
 by_cases h0:k=0
 ·rw [if_pos h0,if_pos h0,isShown_eq hn vx (by omega),Option.bind_some]
  cases hc:vx.all okc with
  | true=>
   rw [cond_true,if_pos rfl,lit1,lit2,replaceAll_eq vx (by omega),Option.bind_some]
   have:=dbl_len vx
   rw [chk_t (by rw [bs_size]; omega),bs_append,chk_t (by rw [bs_size,List.length_append,List.length_singleton]; omega)]
   simp only [bs_append]
   rfl
  | false=>
   rw [cond_false,if_neg (by simp)]
   simp only [bs_toList]
   have:=hexP_l (n:=n) vx (by omega) vx.length 0 n [88,39] (by omega) (by omega) rfl
   rw [List.drop_zero] at this
   rw [← this]
   show Q32.l n n (.z8 (((ub vx).length:Nat):Int) 0 [vu 88,vu 39] (ub vx))=_
   rw [ub_length]
   rfl
 ·rw [if_neg h0,if_neg h0]
  have hk:=hk.resolve_left h0
  rw [formatNumber_eq (by omega) hk.1 hk.2.1 hk.2.2]
  rfl
theorem quoteR_l (s:List UInt8) (hs:s.length≤100000) (vn:Int):∀ (d i m:Nat) (acc:List UInt8),i+d=s.length→d < m→acc.length≤2*i+1→Q1j.l n m (.z7 (bs acc) i vn (bs s))=some (bs (acc++dbl (s.drop i)++[39]))
 | _,_,0,_,_,h,_=>absurd h (by omega)
 | 0,i,m+1,acc,h,_,ha=>by
  rw [Q1j.at7]
  unfold Q1j.r7
  simp (disch:=omega) only [Option.bind_some,Option.bind_none,cond_true,cond_false,Bool.not_true,Bool.not_false,List.length_map,Ws_length,bs_size,within_t,upto_t,wsucc,Int.toNat_natCast,at_mapN,Ws_getDN,cells_agg,cells_v,withCons_cons,withInt_mk,withStr_mk,withBool_mk,withSl_mk,cond_t,cond_f,lit1,chk_t,bs_append,List.length_append,List.length_singleton]
  rw [List.drop_of_length_le (by omega)]
  simp [dbl]
 | d+1,i,m+1,acc,h,hm,ha=>by
  have hi:i < s.length:=by omega
  rw [Q1j.at7]
  unfold Q1j.r7
  simp (disch:=omega) only [Option.bind_some,Option.bind_none,cond_true,cond_false,Bool.not_true,Bool.not_false,List.length_map,Ws_length,bs_size,within_t,upto_t,wsucc,Int.toNat_natCast,at_mapN,Ws_getDN,cells_agg,cells_v,withCons_cons,withInt_mk,withStr_mk,withBool_mk,withSl_mk,cond_t,cond_f,byte_at,upto_t,lit1]
  simp (disch:=omega) only [Option.bind_some,Option.bind_none,cond_true,cond_false,Bool.not_true,Bool.not_false,List.length_map,Ws_length,bs_size,within_t,upto_t,wsucc,Int.toNat_natCast,at_mapN,Ws_getDN,cells_agg,cells_v,withCons_cons,withInt_mk,withStr_mk,withBool_mk,withSl_mk,cond_t,cond_f,cut1,chk_t,bs_append,List.length_append,List.length_singleton]
  rw [List.drop_eq_getElem_cons hi,dbl_cons]
  by_cases hc:s[i]=39
  ·have hb:(((s[i].toNat:Nat):Int)==39)=true:=by rw [hc]; rfl
   have ih:=quoteR_l s hs vn d (i+1) m (acc++[39]++[39]) (by omega) (by omega) (by simp; omega)
   rw [hb,cond_true,if_pos hc,hc,ih]
   simp
  ·have hb:(((s[i].toNat:Nat):Int)==39)=false:=by
    rw [beq_int,decide_eq_false_iff_not]
    intro e
    have e2:s[i].toNat=39:=by omega
    exact hc (UInt8.toNat_inj.1 (by rw [e2]; rfl))
   have ih:=quoteR_l s hs vn d (i+1) m (acc++[s[i]]) (by omega) (by omega) (by simp; omega)
   rw [hb,cond_false,if_neg hc,ih]
   simp
theorem valR_eq (hn:1000002≤n) {k l s vn:Int} {vx:List UInt8} (hx:vx.length≤1000) (hk:k=0∨(vn.natAbs < 10 ^ 15∧0≤s∧s≤15)):Q1j.F n k l s vn (bs vx)=some (bs (valT k s vn vx)):=by
 unfold Q1j.F Q1j.e valT
 rw [bifne]
 by_cases h0:k=0
 ·rw [if_pos h0,if_pos h0,isPlain_eq hn vx (by omega),Option.bind_some,bif_not]
  cases hc:vx.all okc with
  | true=>
   rw [if_neg (by simp),if_pos rfl]
   have:=quoteR_l (n:=n) vx (by omega) vn vx.length 0 n [39] (by omega) (by omega) (by simp)
   rw [List.drop_zero] at this
   exact this
  | false=>
   rw [if_pos rfl,if_neg (by simp)]
   have hh:Q1a.F n (bs vx)=some (bs (hexT vx)):=by
    unfold Q1a.F Q1a.e
    have:=hexR_l (n:=n) vx (by omega) vx.length 0 n [] (by omega) (by omega) rfl
    rw [List.drop_zero] at this
    exact this
   have hl:=hexT_len vx
   rw [hh,Option.bind_some,lit1,lit2,chk_t (by rw [bs_size]; omega),bs_append]
   simp only
   rw [chk_t (by rw [bs_size,List.length_append,hl]; simp; omega),bs_append]
 ·rw [if_neg h0,if_neg h0]
  have hk:=hk.resolve_left h0
  rw [textR_eq (by omega) hk.1 hk.2.1 hk.2.2]
  rfl
theorem valT_len {k s vn:Int} {vx:List UInt8} (hx:vx.length≤1000) (hk:k=0∨(vn.natAbs < 10 ^ 15∧0≤s∧s≤15)):(valT k s vn vx).length≤3000:=by
 unfold valT
 by_cases h0:k=0
 ·rw [if_pos h0]
  have h1:=dbl_len vx
  have h2:=hexT_len vx
  split
  ·unfold qd; simp; omega
  ·simp [h2]; omega
 ·rw [if_neg h0]
  have hk:=hk.resolve_left h0
  have:=numT_len hk.1 (show s.toNat≤15 by omega)
  omega
end
end Go.Proofs.YtnoldakbllfmnaaGreatDoor.Ev
namespace Go.Proofs.YtnoldakbllfmnaaGreatDoor.Ev
open Go Go.Proofs Go.Proofs.Ev
set_option linter.unusedVariables false
set_option linter.unusedSimpArgs false
def tyN (k:Int):List UInt8:=if k=0 then [67,72,65,82] else if k=1 then [80,65,67,75,69,68] else if k=2 then [90,79,78,69,68] else [66,73,78,65,82,89]
def typT (k l s:Int):List UInt8:=tyN k++[40]++Lib.itoa l++(if k=0 then [] else [44]++Lib.itoa s)++[41]
structure OkOp (nI:Nat) (o:OP):Prop where
 kd:0≤o.kd∧o.kd≤5
 ty:isDt o.kd=true→chkT o.k o.l o.s=0∧o.k≠4
 val:o.kd=0∨o.kd=4→o.k=0∨o.vn.natAbs < 10 ^ 15
 of:o.kd=1∨o.kd=2→0≤o.of∧o.of≤256
 tg:o.kd=5→0≤o.tg∧o.tg≤(nI:Int) - 1
theorem chkT_scale {k l s:Int} (h:chkT k l s=0) (h4:k≠4):(k=0∨k=1∨k=2∨k=3)∧1≤l∧l≤256∧(k≠0→l≤15∧0≤s∧s≤15):=by
 unfold chkT at h
 split at h
 ·split at h
  ·cases h
  ·refine ⟨by omega,by omega,by omega,fun h0=>by omega⟩
 split at h
 ·split at h
  ·cases h
  split at h
  ·cases h
  refine ⟨by omega,by omega,by omega,fun _=>by omega⟩
 split at h
 ·split at h
  ·cases h
  split at h
  ·cases h
  refine ⟨by omega,by omega,by omega,fun _=>by omega⟩
 omega
theorem opE_right {b:List OP} {o:OP} {nI:Nat} (hb:okT b) (h:opE b o nI=0):OkOp nI o:=by
 have hty:=(opE_ok h).1
 unfold opE at h
 split at h
 ·cases h
 split at h
 ·cases h
 split at h
 ·cases h
 rename_i h3
 split at h
 ·cases h
 split at h
 ·rename_i h5; exact absurd h h5.2
 split at h
 ·cases h
 refine ⟨Classical.not_not.1 h3,hty,fun hk=>?_,fun hk=>?_,fun hk=>?_⟩
 ·rw [if_pos hk] at h
  have hd:isDt o.kd=true:=by rcases hk with h | h <;> simp [isDt,h]
  have hc:=chkT_scale (hty hd).1 (hty hd).2
  unfold valE at h
  by_cases h0:o.k=0
  ·exact .inl h0
  ·rw [if_neg h0] at h
   split at h
   ·cases h
   split at h
   ·cases h
   rename_i h7
   have h7:=Classical.not_not.1 h7
   have hl:=hc.2.2.2 h0
   have hp:10 ^ o.l.toNat≤10 ^ 15:=Nat.pow_le_pow_right (by omega) (by omega)
   unfold mostT at h7
   right
   omega
 ·rw [if_neg (by omega),if_pos hk] at h
  have hd:isDt o.kd=true:=by rcases hk with h | h <;> simp [isDt,h]
  unfold baE at h
  split at h
  ·cases h
  rename_i hc
  rw [Bool.not_eq_false] at hc
  obtain ⟨j,hj,_,e2⟩:=under_in hc
  rw [e2] at h
  split at h
  ·split at h
   ·cases h
   split at h
   ·cases h
   rename_i h8; exact Classical.not_not.1 h8
  ·split at h
   ·cases h
   rename_i h8
   have h8:=Classical.not_not.1 h8
   split at h
   ·cases h
   rename_i h9
   have h9:=Classical.not_not.1 h9
   have r1:=szT_range (hb _ (List.getElem_mem hj) (by simp [isDt,h8]))
   have r2:=szT_range (hty hd).1
   omega
 ·rw [if_neg (by omega),if_neg (by omega),if_pos hk] at h
  split at h
  ·assumption
  ·cases h
theorem opsE_right {nI:Nat}:∀ (r b:List OP),(opsE nI b r).2=0→ok4 b→∀ o∈r,OkOp nI o
 | [],_,_,_=>fun _ ho=>by cases ho
 | o::r,b,h,h1=>by
  rw [opsE_cons] at h
  by_cases h0:opE b o nI=0
  ·rw [if_neg (not_not_intro h0)] at h
   have hb' : ok4 (b++[o]):=fun x hx=>by
    rcases List.mem_append.1 hx with hx | hx
    ·exact h1 x hx
    ·rw [List.mem_singleton] at hx; subst hx; exact (opE_ok h0).1
   intro x hx
   rcases List.mem_cons.1 hx with rfl | hx
   ·exact opE_right (ok4T h1) h0
   ·exact opsE_right r (b++[o]) h hb' x hx
  ·rw [if_pos h0] at h; exact absurd h h0
def opT (o:OP):List UInt8:=
 if o.kd=0 then [68,67,76,32,68,68,32]++o.nm++[32]++typT o.k o.l o.s++[32,73,78,73,84,40]++valT o.k o.s o.vn o.vx++[41]
 else if o.kd=1 then [68,67,76,32,68,68,32]++o.nm++[32]++typT o.k o.l o.s++[32,68,69,70,40]++o.ba++[44]++Lib.itoa o.of++[41]
 else if o.kd=2 then [68,67,76,32,68,68,32]++o.nm++[32]++typT o.k o.l o.s++[32,66,65,83,40]++o.ba++[44]++Lib.itoa o.of++[41]
 else if o.kd=3 then [68,67,76,32,80,84,82,32]++o.nm
 else if o.kd=4 then [68,67,76,32,67,79,78,32]++o.nm++[32]++typT o.k o.l o.s++[32,73,78,73,84,40]++valT o.k o.s o.vn o.vx++[41]
 else [68,67,76,32,76,65,66,69,76,32]++o.nm++[32]++Lib.itoa o.tg
section
variable {n:Nat}
theorem typT_len {k l s:Int} (hl:1≤l∧l≤256) (hs:k≠0→0≤s∧s≤15):(typT k l s).length≤60:=by
 have h1:=itoa_len l (by omega) (by omega)
 unfold typT
 have h2:(tyN k).length≤6:=by unfold tyN; (repeat' split) <;> simp
 by_cases h0:k=0
 ·rw [if_pos h0]; simp; omega
 ·have h3:=itoa_len s (by have:=hs h0; omega) (by have:=hs h0; omega)
  rw [if_neg h0]; simp; omega
theorem typP_eq {k l s:Int} (hk:k=0∨k=1∨k=2∨k=3) (hl:1≤l∧l≤256) (hs:k≠0→0≤s∧s≤15):Q30.F n k l s=some (bs (typT k l s)):=by
 have h1:=itoa_len l (by omega) (by omega)
 have i1:=itoaI_eq (n:=n) l (by omega) (by omega)
 unfold Q30.F Q30.e typT
 rcases hk with rfl | hk
 ·rw [bif_none (by rfl),show gr19.getD (0:Int).toNat AV.undef=vs (bs [67,72,65,82]) from rfl]
  simp (disch:=omega) only [Option.bind_some,Option.bind_none,cond_true,cond_false,Bool.not_true,Bool.not_false,List.length_map,Ws_length,bs_size,within_t,upto_t,wsucc,Int.toNat_natCast,at_mapN,Ws_getDN,cells_agg,cells_v,withCons_cons,withInt_mk,withStr_mk,withBool_mk,withSl_mk,cond_t,cond_f,i1,lit1,chk_t,bs_append,List.length_append,List.length_cons,List.length_nil]
  simp [tyN]
 ·have h0:k≠0:=by omega
  have h3:=itoa_len s (by have:=hs h0; omega) (by have:=hs h0; omega)
  have i3:=itoaI_eq (n:=n) s (by have:=hs h0; omega) (by have:=hs h0; omega)
  rcases hk with rfl | rfl | rfl
  ·rw [bif_none (by rfl),show gr19.getD (1:Int).toNat AV.undef=vs (bs [80,65,67,75,69,68]) from rfl]
   simp (disch:=omega) only [Option.bind_some,Option.bind_none,cond_true,cond_false,Bool.not_true,Bool.not_false,List.length_map,Ws_length,bs_size,within_t,upto_t,wsucc,Int.toNat_natCast,at_mapN,Ws_getDN,cells_agg,cells_v,withCons_cons,withInt_mk,withStr_mk,withBool_mk,withSl_mk,cond_t,cond_f,i1,i3,lit1,chk_t,bs_append,List.length_append,List.length_cons,List.length_nil]
   simp [tyN]
  ·rw [bif_none (by rfl),show gr19.getD (2:Int).toNat AV.undef=vs (bs [90,79,78,69,68]) from rfl]
   simp (disch:=omega) only [Option.bind_some,Option.bind_none,cond_true,cond_false,Bool.not_true,Bool.not_false,List.length_map,Ws_length,bs_size,within_t,upto_t,wsucc,Int.toNat_natCast,at_mapN,Ws_getDN,cells_agg,cells_v,withCons_cons,withInt_mk,withStr_mk,withBool_mk,withSl_mk,cond_t,cond_f,i1,i3,lit1,chk_t,bs_append,List.length_append,List.length_cons,List.length_nil]
   simp [tyN]
  ·rw [bif_none (by rfl),show gr19.getD (3:Int).toNat AV.undef=vs (bs [66,73,78,65,82,89]) from rfl]
   simp (disch:=omega) only [Option.bind_some,Option.bind_none,cond_true,cond_false,Bool.not_true,Bool.not_false,List.length_map,Ws_length,bs_size,within_t,upto_t,wsucc,Int.toNat_natCast,at_mapN,Ws_getDN,cells_agg,cells_v,withCons_cons,withInt_mk,withStr_mk,withBool_mk,withSl_mk,cond_t,cond_f,i1,i3,lit1,chk_t,bs_append,List.length_append,List.length_cons,List.length_nil]
   simp [tyN]
theorem typR_eq (hn:20≤n) {k l s:Int} (hk:k=0∨k=1∨k=2∨k=3) (hl:1≤l∧l≤256) (hs:k≠0→0≤s∧s≤15):Q1i.F n k l s=some (bs (typT k l s)):=by
 have h1:=itoa_len l (by omega) (by omega)
 have i1:=digitsI_eq hn l (by omega) (by omega)
 unfold Q1i.F Q1i.e typT
 rcases hk with rfl | hk
 ·rw [bif_none (by rfl)]
  show (withCons (vs (bs [67,72,65,82])).cells _)=_
  simp (disch:=omega) only [Option.bind_some,Option.bind_none,cond_true,cond_false,Bool.not_true,Bool.not_false,List.length_map,Ws_length,bs_size,within_t,upto_t,wsucc,Int.toNat_natCast,at_mapN,Ws_getDN,cells_agg,cells_v,withCons_cons,withInt_mk,withStr_mk,withBool_mk,withSl_mk,cond_t,cond_f,i1,lit1,chk_t,bs_append,List.length_append,List.length_cons,List.length_nil]
  simp [tyN]
 ·have h0:k≠0:=by omega
  have h3:=itoa_len s (by have:=hs h0; omega) (by have:=hs h0; omega)
  have i3:=digitsI_eq hn s (by have:=hs h0; omega) (by have:=hs h0; omega)
  rcases hk with rfl | rfl | rfl
  ·rw [bif_none (by rfl)]
   show (withCons (vs (bs [80,65,67,75,69,68])).cells _)=_
   simp (disch:=omega) only [Option.bind_some,Option.bind_none,cond_true,cond_false,Bool.not_true,Bool.not_false,List.length_map,Ws_length,bs_size,within_t,upto_t,wsucc,Int.toNat_natCast,at_mapN,Ws_getDN,cells_agg,cells_v,withCons_cons,withInt_mk,withStr_mk,withBool_mk,withSl_mk,cond_t,cond_f,i1,i3,lit1,chk_t,bs_append,List.length_append,List.length_cons,List.length_nil]
   simp [tyN]
  ·rw [bif_none (by rfl)]
   show (withCons (vs (bs [90,79,78,69,68])).cells _)=_
   simp (disch:=omega) only [Option.bind_some,Option.bind_none,cond_true,cond_false,Bool.not_true,Bool.not_false,List.length_map,Ws_length,bs_size,within_t,upto_t,wsucc,Int.toNat_natCast,at_mapN,Ws_getDN,cells_agg,cells_v,withCons_cons,withInt_mk,withStr_mk,withBool_mk,withSl_mk,cond_t,cond_f,i1,i3,lit1,chk_t,bs_append,List.length_append,List.length_cons,List.length_nil]
   simp [tyN]
  ·rw [bif_none (by rfl)]
   show (withCons (vs (bs [66,73,78,65,82,89])).cells _)=_
   simp (disch:=omega) only [Option.bind_some,Option.bind_none,cond_true,cond_false,Bool.not_true,Bool.not_false,List.length_map,Ws_length,bs_size,within_t,upto_t,wsucc,Int.toNat_natCast,at_mapN,Ws_getDN,cells_agg,cells_v,withCons_cons,withInt_mk,withStr_mk,withBool_mk,withSl_mk,cond_t,cond_f,i1,i3,lit1,chk_t,bs_append,List.length_append,List.length_cons,List.length_nil]
   simp [tyN]
theorem kd_cases {o:OP} {nI:Nat} (h:OkOp nI o):(o.kd=0∨o.kd=4)∨(o.kd=1∨o.kd=2)∨o.kd=3∨o.kd=5:=by have:=h.kd; omega
theorem opLine_eq (hn:1000002≤n) {nI:Nat} (hI:nI≤100) (o:OP) (h:OkOp nI o) (hnm:o.nm.length≤100) (hba:o.ba.length≤100) (hvx:o.vx.length≤600) :
  Q2u.F n (bs o.nm) o.kd o.k o.l o.s o.vn (bs o.vx) (bs o.ba) o.of o.tg=some (bs (opT o))∧Q1g.F n (bs o.nm) o.kd o.k o.l o.s o.vn (bs o.vx) (bs o.ba) o.of o.tg=some (bs (opT o))∧(opT o).length≤4000:=by
 unfold Q2u.F Q2u.e Q1g.F Q1g.e opT
 simp only [bif_eq0]
 rcases kd_cases h with hk | hk | hk | hk
 ·have hd:isDt o.kd=true:=by rcases hk with h | h <;> simp [isDt,h]
  obtain ⟨c1,c2,c3,c4⟩:=chkT_scale (h.ty hd).1 (h.ty hd).2
  have hv:o.k=0∨(o.vn.natAbs < 10 ^ 15∧0≤o.s∧o.s≤15):=by
   rcases h.val hk with h0 | h0
   ·exact .inl h0
   ·by_cases hk0:o.k=0
    ·exact .inl hk0
    ·exact .inr ⟨h0,(c4 hk0).2.1,(c4 hk0).2.2⟩
  have t1:=typP_eq (n:=n) c1 ⟨c2,c3⟩ (fun h0=>(c4 h0).2)
  have t2:=typR_eq (n:=n) (by omega) c1 ⟨c2,c3⟩ (fun h0=>(c4 h0).2)
  have t3:=typT_len (k:=o.k) (s:=o.s) ⟨c2,c3⟩ (fun h0=>(c4 h0).2)
  have v1:=valP_eq (l:=o.l) hn (vx:=o.vx) (by omega) hv
  have v2:=valR_eq (l:=o.l) hn (vx:=o.vx) (by omega) hv
  have v3:=valT_len (vx:=o.vx) (by omega) hv
  rcases hk with hk | hk
  ·rw [if_pos hk,if_pos hk,if_pos hk]
   refine ⟨?_,?_,?_⟩
   ·simp (disch:=omega) only [Option.bind_some,Option.bind_none,cond_true,cond_false,Bool.not_true,Bool.not_false,List.length_map,Ws_length,bs_size,within_t,upto_t,wsucc,Int.toNat_natCast,at_mapN,Ws_getDN,cells_agg,cells_v,withCons_cons,withInt_mk,withStr_mk,withBool_mk,withSl_mk,cond_t,cond_f,t1,v1,lit1,lit7,lit6,chk_t,bs_append,List.length_append,List.length_cons,List.length_nil]
   ·simp (disch:=omega) only [Option.bind_some,Option.bind_none,cond_true,cond_false,Bool.not_true,Bool.not_false,List.length_map,Ws_length,bs_size,within_t,upto_t,wsucc,Int.toNat_natCast,at_mapN,Ws_getDN,cells_agg,cells_v,withCons_cons,withInt_mk,withStr_mk,withBool_mk,withSl_mk,cond_t,cond_f,t2,v2,lit1,lit7,lit6,chk_t,bs_append,List.length_append,List.length_cons,List.length_nil]
   ·simp; omega
  ·have n0:¬ o.kd=0:=by omega
   have n1:¬ o.kd=1:=by omega
   have n2:¬ o.kd=2:=by omega
   have n3:¬ o.kd=3:=by omega
   simp only [n0,n1,n2,n3,hk,if_true,if_false]
   refine ⟨?_,?_,?_⟩
   ·simp (disch:=omega) only [Option.bind_some,Option.bind_none,cond_true,cond_false,Bool.not_true,Bool.not_false,List.length_map,Ws_length,bs_size,within_t,upto_t,wsucc,Int.toNat_natCast,at_mapN,Ws_getDN,cells_agg,cells_v,withCons_cons,withInt_mk,withStr_mk,withBool_mk,withSl_mk,cond_t,cond_f,t1,v1,lit1,lit8,lit6,chk_t,bs_append,List.length_append,List.length_cons,List.length_nil]
    simp
   ·simp (disch:=omega) only [Option.bind_some,Option.bind_none,cond_true,cond_false,Bool.not_true,Bool.not_false,List.length_map,Ws_length,bs_size,within_t,upto_t,wsucc,Int.toNat_natCast,at_mapN,Ws_getDN,cells_agg,cells_v,withCons_cons,withInt_mk,withStr_mk,withBool_mk,withSl_mk,cond_t,cond_f,t2,v2,lit1,lit8,lit6,chk_t,bs_append,List.length_append,List.length_cons,List.length_nil]
    simp
   ·simp; omega
 ·have hd:isDt o.kd=true:=by rcases hk with h | h <;> simp [isDt,h]
  obtain ⟨c1,c2,c3,c4⟩:=chkT_scale (h.ty hd).1 (h.ty hd).2
  have t1:=typP_eq (n:=n) c1 ⟨c2,c3⟩ (fun h0=>(c4 h0).2)
  have t2:=typR_eq (n:=n) (by omega) c1 ⟨c2,c3⟩ (fun h0=>(c4 h0).2)
  have t3:=typT_len (k:=o.k) (s:=o.s) ⟨c2,c3⟩ (fun h0=>(c4 h0).2)
  have ho:=h.of hk
  have i1:=itoaI_eq (n:=n) o.of (by omega) (by omega)
  have i2:=digitsI_eq (n:=n) (by omega) o.of (by omega) (by omega)
  have i3:=itoa_len o.of (by omega) (by omega)
  have n0:¬ o.kd=0:=by omega
  rcases hk with hk | hk
  ·simp only [n0,hk,if_true,if_false]
   refine ⟨?_,?_,?_⟩
   ·simp (disch:=omega) only [Option.bind_some,Option.bind_none,cond_true,cond_false,Bool.not_true,Bool.not_false,List.length_map,Ws_length,bs_size,within_t,upto_t,wsucc,Int.toNat_natCast,at_mapN,Ws_getDN,cells_agg,cells_v,withCons_cons,withInt_mk,withStr_mk,withBool_mk,withSl_mk,cond_t,cond_f,t1,i1,lit1,lit7,lit5,chk_t,bs_append,List.length_append,List.length_cons,List.length_nil]
    simp
   ·simp (disch:=omega) only [Option.bind_some,Option.bind_none,cond_true,cond_false,Bool.not_true,Bool.not_false,List.length_map,Ws_length,bs_size,within_t,upto_t,wsucc,Int.toNat_natCast,at_mapN,Ws_getDN,cells_agg,cells_v,withCons_cons,withInt_mk,withStr_mk,withBool_mk,withSl_mk,cond_t,cond_f,t2,i2,lit1,lit7,lit5,chk_t,bs_append,List.length_append,List.length_cons,List.length_nil]
    simp
   ·simp; omega
  ·have n1:¬ o.kd=1:=by omega
   simp only [n0,n1,hk,if_true,if_false]
   refine ⟨?_,?_,?_⟩
   ·simp (disch:=omega) only [Option.bind_some,Option.bind_none,cond_true,cond_false,Bool.not_true,Bool.not_false,List.length_map,Ws_length,bs_size,within_t,upto_t,wsucc,Int.toNat_natCast,at_mapN,Ws_getDN,cells_agg,cells_v,withCons_cons,withInt_mk,withStr_mk,withBool_mk,withSl_mk,cond_t,cond_f,t1,i1,lit1,lit7,lit5,chk_t,bs_append,List.length_append,List.length_cons,List.length_nil]
    simp
   ·simp (disch:=omega) only [Option.bind_some,Option.bind_none,cond_true,cond_false,Bool.not_true,Bool.not_false,List.length_map,Ws_length,bs_size,within_t,upto_t,wsucc,Int.toNat_natCast,at_mapN,Ws_getDN,cells_agg,cells_v,withCons_cons,withInt_mk,withStr_mk,withBool_mk,withSl_mk,cond_t,cond_f,t2,i2,lit1,lit7,lit5,chk_t,bs_append,List.length_append,List.length_cons,List.length_nil]
    simp
   ·simp; omega
 ·have n0:¬ o.kd=0:=by omega
  have n1:¬ o.kd=1:=by omega
  have n2:¬ o.kd=2:=by omega
  simp only [n0,n1,n2,hk,if_true,if_false]
  refine ⟨?_,?_,?_⟩
  ·simp (disch:=omega) only [Option.bind_some,Option.bind_none,cond_true,cond_false,Bool.not_true,Bool.not_false,List.length_map,Ws_length,bs_size,within_t,upto_t,wsucc,Int.toNat_natCast,at_mapN,Ws_getDN,cells_agg,cells_v,withCons_cons,withInt_mk,withStr_mk,withBool_mk,withSl_mk,cond_t,cond_f,lit8,chk_t,bs_append,List.length_append,List.length_cons,List.length_nil]
   simp
  ·simp (disch:=omega) only [Option.bind_some,Option.bind_none,cond_true,cond_false,Bool.not_true,Bool.not_false,List.length_map,Ws_length,bs_size,within_t,upto_t,wsucc,Int.toNat_natCast,at_mapN,Ws_getDN,cells_agg,cells_v,withCons_cons,withInt_mk,withStr_mk,withBool_mk,withSl_mk,cond_t,cond_f,lit8,chk_t,bs_append,List.length_append,List.length_cons,List.length_nil]
   simp
  ·simp; omega
 ·have ht:=h.tg hk
  have i1:=itoaI_eq (n:=n) o.tg (by omega) (by omega)
  have i2:=digitsI_eq (n:=n) (by omega) o.tg (by omega) (by omega)
  have i3:=itoa_len o.tg (by omega) (by omega)
  have n0:¬ o.kd=0:=by omega
  have n1:¬ o.kd=1:=by omega
  have n2:¬ o.kd=2:=by omega
  have n3:¬ o.kd=3:=by omega
  have n4:¬ o.kd=4:=by omega
  simp only [n0,n1,n2,n3,n4,if_false]
  refine ⟨?_,?_,?_⟩
  ·simp (disch:=omega) only [Option.bind_some,Option.bind_none,cond_true,cond_false,Bool.not_true,Bool.not_false,List.length_map,Ws_length,bs_size,within_t,upto_t,wsucc,Int.toNat_natCast,at_mapN,Ws_getDN,cells_agg,cells_v,withCons_cons,withInt_mk,withStr_mk,withBool_mk,withSl_mk,cond_t,cond_f,i1,lit1,lit10,chk_t,bs_append,List.length_append,List.length_cons,List.length_nil]
  ·simp (disch:=omega) only [Option.bind_some,Option.bind_none,cond_true,cond_false,Bool.not_true,Bool.not_false,List.length_map,Ws_length,bs_size,within_t,upto_t,wsucc,Int.toNat_natCast,at_mapN,Ws_getDN,cells_agg,cells_v,withCons_cons,withInt_mk,withStr_mk,withBool_mk,withSl_mk,cond_t,cond_f,i2,lit1,lit10,chk_t,bs_append,List.length_append,List.length_cons,List.length_nil]
  ·simp; omega
end
end Go.Proofs.YtnoldakbllfmnaaGreatDoor.Ev
namespace Go.Proofs.YtnoldakbllfmnaaGreatDoor.Ev
open Go Go.Proofs Go.Proofs.Ev
set_option linter.unusedVariables false
set_option linter.unusedSimpArgs false
def opNs:List (List UInt8):=[[77,79,86,69],[77,79,86,69,72],[65,68,68],[83,85,66],[77,85,76],[68,73,86],[82,69,77],[73,70,69,81],[73,70,76,84],[71,79,84,79],[65,68,68,82],[77,79,86,69,80],[65,68,86,65,78,67,69],[67,65,76,76],[82,69,84,85,82,78],[83,73,71,78,65,76],[69,88,67,69,80,84,73,79,78],[80,82,73,78,84],[69,78,68]]
def opN (op:Int):List UInt8:=opNs.getD op.toNat []
theorem opN_len {op:Int} (h:0≤op∧op≤18):(opN op).length≤9:=by
 rcases op_cases h with rfl | rfl | rfl | rfl | rfl | rfl | rfl | rfl | rfl | rfl | rfl | rfl | rfl | rfl | rfl | rfl | rfl | rfl | rfl <;> decide
theorem chop_names {op:Int} (h:0≤op∧op≤18):∃ r,chop (op.toNat*1) [vs (⟨#[77,79,86,69]⟩ : ByteArray),vs (⟨#[77,79,86,69,72]⟩ : ByteArray),vs (⟨#[65,68,68]⟩ : ByteArray),vs (⟨#[83,85,66]⟩ : ByteArray),vs (⟨#[77,85,76]⟩ : ByteArray),vs (⟨#[68,73,86]⟩ : ByteArray),vs (⟨#[82,69,77]⟩ : ByteArray),vs (⟨#[73,70,69,81]⟩ : ByteArray),vs (⟨#[73,70,76,84]⟩ : ByteArray),vs (⟨#[71,79,84,79]⟩ : ByteArray),vs (⟨#[65,68,68,82]⟩ : ByteArray),vs (⟨#[77,79,86,69,80]⟩ : ByteArray),vs (⟨#[65,68,86,65,78,67,69]⟩ : ByteArray),vs (⟨#[67,65,76,76]⟩ : ByteArray),vs (⟨#[82,69,84,85,82,78]⟩ : ByteArray),vs (⟨#[83,73,71,78,65,76]⟩ : ByteArray),vs (⟨#[69,88,67,69,80,84,73,79,78]⟩ : ByteArray),vs (⟨#[80,82,73,78,84]⟩ : ByteArray),vs (⟨#[69,78,68]⟩ : ByteArray)]=vs (bs (opN op))::r:=by
 rcases op_cases h with rfl | rfl | rfl | rfl | rfl | rfl | rfl | rfl | rfl | rfl | rfl | rfl | rfl | rfl | rfl | rfl | rfl | rfl | rfl <;> exact ⟨_,rfl⟩
theorem strsA_Ws (ws:List (List UInt8)):strsA (Ws ws)=some (ws.map bs):=by
 have:=strsA_map (ws.map bs)
 rw [List.map_map] at this
 exact this
theorem bs_data (ws:List (List UInt8)):(ws.map bs).map (·.data.toList)=ws:=by
 rw [List.map_map]
 conv=>rhs; rw [← List.map_id ws]
 exact List.map_congr_left fun w _=>rfl
theorem names_eq (n:Nat):Q1e.F n=some (Ws opNs):=rfl
def anames (os:List OP) (ar:List Int):List (List UInt8):=ar.map fun a=>(os.getD a.toNat zOP).nm
def argT:List (List UInt8)→List UInt8
 | []=>[]
 | w::r=>[32]++w++Lib.joinTail [44] r
def insT (os:List OP) (x:IN):List UInt8:=opN x.op++argT (anames os x.ar)
def monT (m:MN):List UInt8:=[77,79,78,73,84,79,82,32]++Lib.itoa m.fr++[32]++Lib.itoa m.tt++[32]++Lib.itoa m.ex++[32]++Lib.itoa m.hd
def flat:List (List UInt8)→List UInt8
 | []=>[]
 | w::r=>w++[59,10]++flat r
theorem flat_app:∀ a b:List (List UInt8),flat (a++b)=flat a++flat b
 | [],b=>rfl
 | w::a,b=>by simp [flat,flat_app a b]
theorem flat_join:∀ (r:List (List UInt8)) (w:List UInt8),Lib.join (w::r) [59,10]++[59,10]=flat (w::r)
 | [],w=>by rw [Lib.join_one]; simp [flat]
 | v::r,w=>by
  have ih:=flat_join r v
  rw [Lib.join_cons] at ih ⊢
  show w++([59,10]++v++Lib.joinTail [59,10] r)++[59,10]=w++[59,10]++flat (v::r)
  rw [← ih]
  simp
theorem flat_len {B:Nat}:∀ ls:List (List UInt8),(∀ l∈ls,l.length≤B)→(flat ls).length≤(B+2)*ls.length
 | [],_=>by simp [flat]
 | w::r,h=>by
  have h1:=h w (by simp)
  have h2:=flat_len r (fun l hl=>h l (by simp [hl]))
  have h3:(B+2)*(r.length+1)=(B+2)*r.length+(B+2):=Nat.mul_succ _ _
  simp only [flat,List.length_append,List.length_cons,List.length_nil]
  omega
theorem tail_len {B:Nat}:∀ ls:List (List UInt8),(∀ l∈ls,l.length≤B)→(Lib.joinTail [44] ls).length≤(B+1)*ls.length
 | [],_=>by simp [Lib.joinTail]
 | w::r,h=>by
  have h1:=h w (by simp)
  have h2:=tail_len r (fun l hl=>h l (by simp [hl]))
  have h3:(B+1)*(r.length+1)=(B+1)*r.length+(B+1):=Nat.mul_succ _ _
  have e:Lib.joinTail [44] (w::r)=[44]++w++Lib.joinTail [44] r:=by simp [Lib.joinTail]
  rw [e]
  simp only [List.length_append,List.length_cons,List.length_nil]
  omega
theorem argT_len {B:Nat} (ls:List (List UInt8)) (h:∀ l∈ls,l.length≤B):(argT ls).length≤(B+1)*ls.length:=by
 cases ls with
 | nil=>simp [argT]
 | cons w r=>
  have h1:=h w (by simp)
  have h2:=tail_len r (fun l hl=>h l (by simp [hl]))
  have h3:(B+1)*(r.length+1)=(B+1)*r.length+(B+1):=Nat.mul_succ _ _
  simp only [argT,List.length_append,List.length_cons,List.length_nil]
  omega
section
variable {n:Nat}
theorem join_eq (ws:List (List UInt8)) (t:List UInt8) (h1:ws.length≤1000000) (h2:(Lib.join ws t).length≤100000000):Q3j.F n (Ws ws) (bs t)=some (bs (Lib.join ws t)):=by
 unfold Q3j.F joinOk joinV
 rw [strsA_Ws]
 simp only [bs_data]
 show (bif decide ((ws.map bs).length≤140737488355328)&&decide ((Lib.join ws t).length≤140737488355328) then some (bs (Lib.join ws t)) else none)=_
 rw [List.length_map,bif_none (by rw [Bool.and_eq_true,decide_eq_true_eq,decide_eq_true_eq]; omega)]
theorem insLine_eq {op:Int} (hop:0≤op∧op≤18) (ws:List (List UInt8)) (h1:ws.length≤100) (h2:∀ w∈ws,w.length≤100):Q2g.F n op (Ws ws)=some (bs (opN op++argT ws)):=by
 unfold Q2g.F Q2g.e
 obtain ⟨r,hr⟩:=chop_names hop
 have hl:=opN_len hop
 rw [hr,Ws_length,bif_none (op19 hop),bif_none (op19 hop)]
 simp only [bif_eq0,withCons_cons,withStr_mk]
 cases ws with
 | nil=>rw [if_pos (by rfl)]; simp [argT]
 | cons w r=>
  have ha:=tail_len (B:=100) r (fun l hl=>h2 l (by simp [hl]))
  have hw:=h2 w (by simp)
  simp only [List.length_cons] at h1
  have hj:(Lib.join (w::r) [44]).length≤100000000:=by rw [Lib.join_cons,List.length_append]; omega
  rw [if_neg (by simp only [List.length_cons]; omega),lit1,lit1,chk_t (by rw [bs_size]; omega),join_eq (w::r) [44] (by simp; omega) hj,Option.bind_some,bs_append]
  rw [chk_t (by rw [bs_size,bs_size,List.length_append]; simp only [List.length_cons,List.length_nil]; omega)]
  simp only [bs_append]
  rw [Lib.join_cons]
  simp [argT]
theorem inE_range (os:List OP):∀ (cs ar:List Int) (b:OP),cs.length=ar.length→inE os cs ar b=0→∀ a∈ar,0≤a∧a≤(os.length:Int) - 1
 | _,[],_,_,_=>fun _ h=>by cases h
 | [],a::ar,_,h,_=>by simp at h
 | c::cs,a::ar,b,hl,h=>by
  unfold inE at h
  split at h
  ·cases h
  rename_i h1
  split at h
  ·cases h
  have ih:=inE_range os cs ar _ (by simpa using hl) h
  intro x hx
  rcases List.mem_cons.1 hx with rfl | hx
  ·exact Classical.not_not.1 h1
  ·exact ih x hx
theorem insX_ok {os:List OP} {x:IN} (h:insX os x=0):(0≤x.op∧x.op≤18)∧x.ar.length≤3∧∀ a∈x.ar,0≤a∧a≤(os.length:Int) - 1:=by
 unfold insX at h
 split at h
 ·cases h
 rename_i h1
 have h1:=Classical.not_not.1 h1
 split at h
 ·cases h
 rename_i h2
 have h2:=Classical.not_not.1 h2
 exact ⟨h1,by have:=cls_len h1; omega,inE_range os _ _ _ h2.symm h⟩
theorem insE_ok {os:List OP}:∀ {is:List IN} {i:Nat},(insE os is i).2=0→∀ x∈is,insX os x=0
 | [],_,_=>fun _ h=>by cases h
 | x::r,i,h=>by
  rw [insE_cons] at h
  by_cases h0:insX os x=0
  ·rw [if_neg (not_not_intro h0)] at h
   intro y hy
   rcases List.mem_cons.1 hy with rfl | hy
   ·exact h0
   ·exact insE_ok h y hy
  ·rw [if_pos h0] at h; exact absurd h h0
theorem mosE_ok {nI:Nat}:∀ {ms:List MN} {i:Nat},(mosE nI ms i).2=0→∀ x∈ms,monX nI x=0
 | [],_,_=>fun _ h=>by cases h
 | x::r,i,h=>by
  rw [mosE_cons] at h
  by_cases h0:monX nI x=0
  ·rw [if_neg (not_not_intro h0)] at h
   intro y hy
   rcases List.mem_cons.1 hy with rfl | hy
   ·exact h0
   ·exact mosE_ok h y hy
  ·rw [if_pos h0] at h; exact absurd h h0
structure OkP (os:List OP) (is:List IN) (ms:List MN):Prop where
 lens:os.length≤24∧1≤is.length∧is.length≤40∧ms.length≤6
 ops:(opsE is.length [] os).2=0
 quads:(layX os).2≤24
 ins:∀ x∈is,insX os x=0
 mos:∀ m∈ms,monX is.length m=0
theorem errX_ok {os:List OP} {is:List IN} {ms:List MN} (h:errX os is ms=0):OkP os is ms:=by
 unfold errX checkX at h
 split at h
 ·cases h
 rename_i h1
 split at h
 ·cases h
 rename_i h2
 split at h
 ·rename_i h3; exact absurd h h3
 rename_i h3
 split at h
 ·cases h
 rename_i h4
 unfold check2 at h
 split at h
 ·rename_i h5; exact absurd h h5
 rename_i h5
 unfold check3 at h
 split at h
 ·rename_i h6; exact absurd h h6
 rename_i h6
 exact ⟨by omega,Classical.not_not.1 h3,by omega,insE_ok (Classical.not_not.1 h5),mosE_ok (Classical.not_not.1 h6)⟩
theorem monX_ok {nI:Nat} {m:MN} (h:monX nI m=0):0≤m.fr∧m.fr < m.tt∧m.tt≤(nI:Int)∧(0≤m.ex∧m.ex≤999)∧(0≤m.hd∧m.hd≤(nI:Int) - 1):=by
 unfold monX at h
 split at h
 ·assumption
 ·cases h
theorem monT_len {nI:Nat} (hI:nI≤1000) {m:MN} (h:monX nI m=0):(monT m).length≤100:=by
 have:=monX_ok h
 have i1:=itoa_len m.fr (by omega) (by omega)
 have i2:=itoa_len m.tt (by omega) (by omega)
 have i3:=itoa_len m.ex (by omega) (by omega)
 have i4:=itoa_len m.hd (by omega) (by omega)
 unfold monT
 simp
 omega
theorem monLine_eq (hn:1001≤n) {nI:Nat} (hI:nI≤1000) {m:MN} (h:monX nI m=0):Q2p.F n m.fr m.tt m.ex m.hd=some (bs (monT m)):=by
 have:=monX_ok h
 have i1:=itoa_len m.fr (by omega) (by omega)
 have i2:=itoa_len m.tt (by omega) (by omega)
 have i3:=itoa_len m.ex (by omega) (by omega)
 have i4:=itoa_len m.hd (by omega) (by omega)
 have j1:=itoaI_eq (n:=n) m.fr (by omega) (by omega)
 have j2:=itoaI_eq (n:=n) m.tt (by omega) (by omega)
 have j3:=itoaI_eq (n:=n) m.ex (by omega) (by omega)
 have j4:=itoaI_eq (n:=n) m.hd (by omega) (by omega)
 have step:∀ (q:Nat) (acc:List UInt8) (k:Nat) (x:Int),acc.length≤1000→k < 4→([vi m.fr,vi m.tt,vi m.ex,vi m.hd].getD k AV.undef)=vi x→Q3d.F n x=some (bs (Lib.itoa x))→(Lib.itoa x).length≤20→Q2p.l n (q+1) (.z3 (bs acc) 4 (k:Int) [vi m.fr,vi m.tt,vi m.ex,vi m.hd])=Q2p.l n q (.z3 (bs (acc++([32]++Lib.itoa x))) 4 ((k+1:Nat):Int) [vi m.fr,vi m.tt,vi m.ex,vi m.hd]):=by
  intro q acc k x ha hk hx hj hl
  rw [Q2p.at3]
  unfold Q2p.r3
  rw [cond_t (by omega),within_t (by simpa using hk),cond_true,Int.toNat_natCast,hx]
  simp only [cells_v,withCons_cons,withInt_mk,hj,Option.bind_some,lit1]
  rw [chk_t (by rw [bs_size]; omega),bs_append,chk_t (by rw [bs_size,bs_size,List.length_append,List.length_singleton]; omega)]
  simp only [bs_append]
  rw [wsucc (by omega)]
 unfold Q2p.F Q2p.e
 obtain ⟨q,rfl⟩ : ∃ q,n=q+5:=⟨n - 5,by omega⟩
 show Q2p.l (q+5) (q+5) (.z3 (bs [77,79,78,73,84,79,82]) 4 ((0:Nat):Int) _)=_
 rw [step (q+4) _ 0 m.fr (by simp) (by omega) rfl j1 i1,step (q+3) _ 1 m.tt (by simp; omega) (by omega) rfl j2 i2,step (q+2) _ 2 m.ex (by simp; omega) (by omega) rfl j3 i3,step (q+1) _ 3 m.hd (by simp; omega) (by omega) rfl j4 i4]
 rw [Q2p.at3]
 unfold Q2p.r3
 rw [cond_f (by omega)]
 simp [monT]
end
end Go.Proofs.YtnoldakbllfmnaaGreatDoor.Ev
namespace Go.Proofs.YtnoldakbllfmnaaGreatDoor.Ev
open Go Go.Proofs Go.Proofs.Ev
set_option linter.unusedVariables false
set_option linter.unusedSimpArgs false
set_option maxRecDepth 10000
theorem anames_snoc (os:List OP) (ar:List Int) (a:Int):anames os (ar++[a])=anames os ar++[(os.getD a.toNat zOP).nm]:=by unfold anames; rw [List.map_append]; rfl
theorem Ws_snoc (a:List (List UInt8)) (w:List UInt8):Ws a++[vs (bs w)]=Ws (a++[w]):=by simp [Ws]
def finP (L:List (List UInt8)):ByteArray × Int:=if (flat L).length > 6000 then (⟨#[]⟩,2) else (bs (flat L),0)
def few (o:OP):Prop:=o.nm.length≤100∧o.ba.length≤100∧o.vx.length≤600
theorem anames_len {os:List OP} (hf:∀ o∈os,few o) (ar:List Int):∀ w∈anames os ar,w.length≤100:=by
 intro w hw
 obtain ⟨a,_,rfl⟩:=List.mem_map.1 hw
 by_cases h:a.toNat < os.length
 ·rw [List.getD_eq_getElem?_getD,List.getElem?_eq_getElem h,Option.getD_some]
  exact (hf _ (List.getElem_mem h)).1
 ·rw [List.getD_eq_getElem?_getD,List.getElem?_eq_none (by omega),Option.getD_none]
  simp [zOP]
theorem insT_len {os:List OP} (hf:∀ o∈os,few o) {x:IN} (h:insX os x=0):(insT os x).length≤400:=by
 have h1:=insX_ok h
 have h2:=opN_len h1.1
 have h3:=argT_len (B:=100) _ (anames_len hf x.ar)
 have h4:(anames os x.ar).length=x.ar.length:=by simp [anames]
 unfold insT
 rw [List.length_append]
 rw [h4] at h3
 have:(100+1)*x.ar.length≤101*3:=Nat.mul_le_mul_left _ h1.2.1
 omega
section
variable {n:Nat}
theorem fpM (hn:1001≤n) {nI:Nat} (hI:nI≤1000) (ms:List MN) (hm' : ms.length≤100) (hok:∀ m∈ms,monX nI m=0):∀ (d i m:Nat) (L:List (List UInt8)),i+d=ms.length→d < m→L≠[]→L.length+d≤1000→(∀ l∈L,l.length≤4000)→
  Q23.l n m (.z22 (ms.map MN.av) ms.length i (Ws L))=some (finP (L++(ms.drop i).map monT))
 | _,_,0,_,_,h,_,_,_=>absurd h (by omega)
 | 0,i,m+1,L,h,_,hne,hL,hB=>by
  rw [Q23.at22]
  unfold Q23.r22
  rw [cond_f (by omega),List.drop_of_length_le (by omega),List.map_nil,List.append_nil,lit2]
  cases L with
  | nil=>exact absurd rfl hne
  | cons w r=>
   have hfl:=flat_len (B:=4000) (w::r) hB
   have h4:(4000+2)*(w::r).length≤4002*1000:=Nat.mul_le_mul_left _ (by omega)
   have hj:=flat_join r w
   have hjl:(Lib.join (w::r) [59,10]).length+2=(flat (w::r)).length:=by rw [← hj]; simp
   rw [join_eq (w::r) [59,10] (by omega) (by omega),Option.bind_some,chk_t (by rw [bs_size]; omega),bs_append,hj]
   simp only [bs_size]
   unfold finP
   by_cases h6:(flat (w::r)).length > 6000
   ·rw [cond_t (by omega),if_pos h6]
   ·rw [cond_f (by omega),if_neg h6]
 | d+1,i,m+1,L,h,hm,hne,hL,hB=>by
  have hi:i < ms.length:=by omega
  have hmost:most=1000000000:=rfl
  have ho:=hok _ (List.getElem_mem hi)
  have ih:=fpM hn hI ms hm' hok d (i+1) m (L++[monT ms[i]]) (by omega) (by omega) (by simp) (by simp; omega) (fun l hl=>by
   rcases List.mem_append.1 hl with hl | hl
   ·exact hB l hl
   ·rw [List.mem_singleton] at hl; subst hl; have:=monT_len hI ho; omega)
  rw [Q23.at22]
  unfold Q23.r22
  simp (disch:=omega) only [Option.bind_some,Option.bind_none,cond_true,cond_false,Bool.not_true,Bool.not_false,List.length_map,Ws_length,bs_size,within_t,upto_t,wsucc,Int.toNat_natCast,at_mapN,Ws_getDN,cells_agg,cells_v,withCons_cons,withInt_mk,withStr_mk,withBool_mk,withSl_mk,cond_t,cond_f,MN.av]
  rw [monLine_eq hn hI ho,Option.bind_some,cond_t (by simp; omega),Ws_snoc,ih,List.drop_eq_getElem_cons hi,List.map_cons]
  simp only [List.append_assoc,List.singleton_append,List.cons_append,List.nil_append]
theorem fpA (hn:1001≤n) (os:List OP) (ho:os.length≤100) (x:IN) (hx:∀ a∈x.ar,0≤a∧a≤(os.length:Int) - 1) (hop:0≤x.op∧x.op≤18) (hxl:x.ar.length≤100) (hf:∀ o∈os,few o) (z1:List AV) (z2:Int) (i' : Nat) (hi' : i'≤1000) (z8 z9:List AV) (L:List (List UInt8)) (hL:L.length≤1000) (z12:List AV) (K:Option (ByteArray × Int)) (M:Nat)
  (hK:∀ m,M≤m→Q23.l n m (.z11 z1 z2 ((i'+1:Nat):Int) (os.map OP.av) z8 z9 (Ws (L++[insT os x])))=K):∀ (d i m:Nat),i+d=x.ar.length→d+M < m→
  Q23.l n m (.z15 z1 z2 (i' : Int) (x.ar.map vi) x.ar.length i (os.map OP.av) z8 z9 (Ws L) x.op z12 (Ws (anames os (x.ar.take i))))=K
 | _,_,0,_,h=>absurd h (by omega)
 | 0,i,m+1,h,hm=>by
  have hmost:most=1000000000:=rfl
  rw [Q23.at15]
  unfold Q23.r15
  have hal:(anames os x.ar).length=x.ar.length:=by simp [anames]
  rw [cond_f (by omega),List.take_of_length_le (by omega),insLine_eq hop _ (by omega) (anames_len hf _),Option.bind_some,Ws_length,cond_t (by simp; omega),Ws_snoc,wsucc (by omega)]
  exact hK m (by omega)
 | d+1,i,m+1,h,hm=>by
  have hi:i < x.ar.length:=by omega
  have hmost:most=1000000000:=rfl
  have hr:=hx _ (List.getElem_mem hi)
  have ih:=fpA hn os ho x hx hop hxl hf z1 z2 i' hi' z8 z9 L hL z12 K M hK d (i+1) m (by omega) (by omega)
  have hal:(anames os (x.ar.take i)).length=i:=by simp [anames]; omega
  rw [Q23.at15]
  unfold Q23.r15
  simp (disch:=omega) only [Option.bind_some,Option.bind_none,cond_true,cond_false,Bool.not_true,Bool.not_false,List.length_map,Ws_length,bs_size,within_t,upto_t,wsucc,Int.toNat_natCast,at_mapN,Ws_getDN,cells_agg,cells_v,withCons_cons,withInt_mk,withStr_mk,withBool_mk,withSl_mk,cond_t,cond_f]
  have hlt:x.ar[i].toNat < os.length:=by omega
  have hge:os.getD x.ar[i].toNat zOP=os[x.ar[i].toNat]:=by rw [List.getD_eq_getElem?_getD,List.getElem?_eq_getElem hlt,Option.getD_some]
  rw [bif_none (rng hr)]
  simp (disch:=omega) only [Option.bind_some,Option.bind_none,cond_true,cond_false,Bool.not_true,Bool.not_false,List.length_map,Ws_length,bs_size,within_t,upto_t,wsucc,Int.toNat_natCast,at_mapN,Ws_getDN,cells_agg,cells_v,withCons_cons,withInt_mk,withStr_mk,withBool_mk,withSl_mk,cond_t,cond_f,OP.av]
  rw [hal,cond_t (by simp; omega),Ws_snoc]
  rw [List.take_succ_eq_append_getElem hi] at ih
  rw [anames_snoc,hge] at ih
  exact ih
theorem fpI (hn:1001≤n) (os:List OP) (ho:os.length≤100) (hf:∀ o∈os,few o) (is:List IN) (hi' : is.length≤100) (hok:∀ x∈is,insX os x=0) (ms:List MN) (hm' : ms.length≤100) (hmo:∀ m∈ms,monX is.length m=0):∀ (d i m:Nat) (L:List (List UInt8)),i+d=is.length→200*d+300 < m→1≤L.length+d→L.length+d≤800→(∀ l∈L,l.length≤4000)→
  Q23.l n m (.z11 (is.map IN.av) is.length i (os.map OP.av) (is.map IN.av) (ms.map MN.av) (Ws L))=some (finP (L++(is.drop i).map (insT os)++ms.map monT))
 | _,_,0,_,_,h,_,_,_=>absurd h (by omega)
 | 0,i,m+1,L,h,hm,hne,hL,hB=>by
  rw [Q23.at11]
  unfold Q23.r11
  rw [cond_f (by omega),List.drop_of_length_le (by omega),List.map_nil,List.append_nil,List.length_map]
  have:=fpM (n:=n) hn (nI:=is.length) (by omega) ms hm' hmo ms.length 0 m L (by omega) (by omega) (by intro e; rw [e] at hne; simp at hne) (by omega) hB
  rw [List.drop_zero] at this
  exact this
 | d+1,i,m+1,L,h,hm,hne,hL,hB=>by
  have hi:i < is.length:=by omega
  have hx:=hok _ (List.getElem_mem hi)
  have hxo:=insX_ok hx
  rw [Q23.at11]
  unfold Q23.r11
  simp (disch:=omega) only [Option.bind_some,Option.bind_none,cond_true,cond_false,Bool.not_true,Bool.not_false,List.length_map,Ws_length,bs_size,within_t,upto_t,wsucc,Int.toNat_natCast,at_mapN,Ws_getDN,cells_agg,cells_v,withCons_cons,withInt_mk,withStr_mk,withBool_mk,withSl_mk,cond_t,cond_f,IN.av]
  have:=fpA (n:=n) hn os ho is[i] hxo.2.2 hxo.1 (by omega) hf (is.map IN.av) is.length i (by omega) (is.map IN.av) (ms.map MN.av) L (by omega) (is[i].ar.map vi) (some (finP (L++(is.drop i).map (insT os)++ms.map monT))) (200*d+301) (fun q hq=>by
   have ih:=fpI hn os ho hf is hi' hok ms hm' hmo d (i+1) q (L++[insT os is[i]]) (by omega) (by omega) (by rw [List.length_append,List.length_singleton]; omega) (by rw [List.length_append,List.length_singleton]; omega) (fun l hl=>by
    rcases List.mem_append.1 hl with hl | hl
    ·exact hB l hl
    ·rw [List.mem_singleton] at hl; subst hl; have:=insT_len hf hx; omega)
   rw [ih,List.drop_eq_getElem_cons hi,List.map_cons]
   simp only [List.append_assoc,List.singleton_append,List.cons_append,List.nil_append]) is[i].ar.length 0 m (by omega) (by omega)
  exact this
theorem fpO (hn:1000002≤n) (os:List OP) (ho:os.length≤100) (hf:∀ o∈os,few o) (is:List IN) (hi' : is.length≤100) (hi1:1≤is.length) (hop:∀ o∈os,OkOp is.length o) (hok:∀ x∈is,insX os x=0) (ms:List MN) (hm' : ms.length≤100) (hmo:∀ m∈ms,monX is.length m=0):∀ (d i m:Nat) (L:List (List UInt8)),i+d=os.length→d+30000 < m→L.length+d≤200→(∀ l∈L,l.length≤4000)→
  Q23.l n m (.z6 (os.map OP.av) os.length i (os.map OP.av) (is.map IN.av) (ms.map MN.av) (Ws L))=some (finP (L++(os.drop i).map opT++is.map (insT os)++ms.map monT))
 | _,_,0,_,_,h,_,_=>absurd h (by omega)
 | 0,i,m+1,L,h,hm,hL,hB=>by
  rw [Q23.at6]
  unfold Q23.r6
  rw [cond_f (by omega),List.drop_of_length_le (by omega),List.map_nil,List.append_nil,List.length_map]
  have:=fpI (n:=n) (by omega) os ho hf is hi' hok ms hm' hmo is.length 0 m L (by omega) (by omega) (by omega) (by omega) hB
  rw [List.drop_zero] at this
  exact this
 | d+1,i,m+1,L,h,hm,hL,hB=>by
  have hi:i < os.length:=by omega
  have hmost:most=1000000000:=rfl
  have hfo:=hf _ (List.getElem_mem hi)
  obtain ⟨e1,_,e3⟩:=opLine_eq hn (by omega) os[i] (hop _ (List.getElem_mem hi)) hfo.1 hfo.2.1 hfo.2.2
  have ih:=fpO hn os ho hf is hi' hi1 hop hok ms hm' hmo d (i+1) m (L++[opT os[i]]) (by omega) (by omega) (by simp; omega) (fun l hl=>by
   rcases List.mem_append.1 hl with hl | hl
   ·exact hB l hl
   ·rw [List.mem_singleton] at hl; subst hl; exact e3)
  rw [Q23.at6]
  unfold Q23.r6
  simp (disch:=omega) only [Option.bind_some,Option.bind_none,cond_true,cond_false,Bool.not_true,Bool.not_false,List.length_map,Ws_length,bs_size,within_t,upto_t,wsucc,Int.toNat_natCast,at_mapN,Ws_getDN,cells_agg,cells_v,withCons_cons,withInt_mk,withStr_mk,withBool_mk,withSl_mk,cond_t,cond_f,OP.av]
  rw [e1,Option.bind_some,cond_t (by simp; omega),Ws_snoc,ih,List.drop_eq_getElem_cons hi,List.map_cons]
  simp only [List.append_assoc,List.singleton_append,List.cons_append,List.nil_append]
theorem frM (hn:1000002≤n) {nI:Nat} (hI:nI≤1000) (ms:List MN) (hm' : ms.length≤100) (hok:∀ m∈ms,monX nI m=0) (z3 z4:List AV):∀ (d i m:Nat) (acc:List UInt8),i+d=ms.length→d < m→acc.length≤10000000+1000*i→
  Q11.l n m (.z20 (bs acc) i z3 z4 (ms.map MN.av))=some (bs (acc++flat ((ms.drop i).map monT)))
 | _,_,0,_,_,h,_=>absurd h (by omega)
 | 0,i,m+1,acc,h,_,hA=>by
  rw [Q11.at20]
  unfold Q11.r20
  simp only [List.length_map]
  rw [cond_f (by omega),List.drop_of_length_le (by omega)]
  simp [flat]
 | d+1,i,m+1,acc,h,hm,hA=>by
  have hi:i < ms.length:=by omega
  have ho:=hok _ (List.getElem_mem hi)
  have hmk:=monX_ok ho
  have hl:=monT_len hI ho
  have i1:=itoa_len ms[i].fr (by omega) (by omega)
  have i2:=itoa_len ms[i].tt (by omega) (by omega)
  have i3:=itoa_len ms[i].ex (by omega) (by omega)
  have i4:=itoa_len ms[i].hd (by omega) (by omega)
  have j1:=digitsI_eq (n:=n) (by omega) ms[i].fr (by omega) (by omega)
  have j2:=digitsI_eq (n:=n) (by omega) ms[i].tt (by omega) (by omega)
  have j3:=digitsI_eq (n:=n) (by omega) ms[i].ex (by omega) (by omega)
  have j4:=digitsI_eq (n:=n) (by omega) ms[i].hd (by omega) (by omega)
  have ih:=frM hn hI ms hm' hok z3 z4 d (i+1) m (acc++monT ms[i]++[59,10]) (by omega) (by omega) (by simp; omega)
  rw [Q11.at20]
  unfold Q11.r20
  simp (disch:=omega) only [Option.bind_some,Option.bind_none,cond_true,cond_false,Bool.not_true,Bool.not_false,List.length_map,Ws_length,bs_size,within_t,upto_t,wsucc,Int.toNat_natCast,at_mapN,Ws_getDN,cells_agg,cells_v,withCons_cons,withInt_mk,withStr_mk,withBool_mk,withSl_mk,cond_t,cond_f,MN.av,j1,j2,j3,j4,lit1,lit2,lit8,chk_t,bs_append,List.length_append,List.length_cons,List.length_nil]
  rw [List.drop_eq_getElem_cons hi,List.map_cons]
  show _=some (bs (acc++(monT ms[i]++[59,10]++flat ((ms.drop (i+1)).map monT))))
  rw [← List.append_assoc,← List.append_assoc,← ih]
  simp [monT]
theorem frA (os:List OP) (ho:os.length≤100) (x:IN) (hx:∀ a∈x.ar,0≤a∧a≤(os.length:Int) - 1) (hxl:x.ar.length≤100) (hf:∀ o∈os,few o) (i' : Nat) (hi' : i'≤1000) (z5 z6:List AV) (K:Option ByteArray) (M:Nat) (acc:List UInt8) (hA:acc.length≤20000000)
  (hK:∀ m,M≤m→Q11.l n m (.z7 (bs (acc++argT (anames os x.ar)++[59,10])) ((i'+1:Nat):Int) (os.map OP.av) z5 z6)=K):∀ (d i m:Nat),i+d=x.ar.length→d+M < m→
  Q11.l n m (.z12 (bs (acc++argT (anames os (x.ar.take i)))) (i' : Int) i (os.map OP.av) z5 z6 x.op (x.ar.map vi))=K
 | _,_,0,_,h=>absurd h (by omega)
 | 0,i,m+1,h,hm=>by
  rw [Q11.at12]
  unfold Q11.r12
  have h1:=argT_len (B:=100) _ (anames_len hf x.ar)
  have h2:(anames os x.ar).length=x.ar.length:=by simp [anames]
  have h3:(100+1)*(anames os x.ar).length≤101*100:=Nat.mul_le_mul_left _ (by omega)
  simp only [List.length_map]
  rw [cond_f (by omega),List.take_of_length_le (by omega),lit2,chk_t (by rw [bs_size,List.length_append]; omega),bs_append,wsucc (by omega)]
  exact hK m (by omega)
 | d+1,i,m+1,h,hm=>by
  have hi:i < x.ar.length:=by omega
  have hr:=hx _ (List.getElem_mem hi)
  have ih:=frA os ho x hx hxl hf i' hi' z5 z6 K M acc hA hK d (i+1) m (by omega) (by omega)
  have h1:=argT_len (B:=100) _ (anames_len hf (x.ar.take i))
  have h2:(anames os (x.ar.take i)).length=i:=by simp [anames]; omega
  have h3:(100+1)*(anames os (x.ar.take i)).length≤101*100:=Nat.mul_le_mul_left _ (by omega)
  have hon:(os.getD x.ar[i].toNat zOP).nm.length≤100:=anames_len hf [x.ar[i]] _ (by simp [anames])
  have key:argT (anames os (x.ar.take (i+1)))=argT (anames os (x.ar.take i))++[if i=0 then 32 else 44]++(os.getD x.ar[i].toNat zOP).nm:=by
   rw [List.take_succ_eq_append_getElem hi,anames_snoc]
   cases hq:anames os (x.ar.take i) with
   | nil=>rw [hq] at h2; simp at h2; subst h2; simp [argT,Lib.joinTail]
   | cons w r=>
    rw [hq] at h2
    simp only [List.length_cons] at h2
    rw [if_neg (by omega)]
    simp [argT,Lib.joinTail]
  have hlt:x.ar[i].toNat < os.length:=by omega
  have hge:os.getD x.ar[i].toNat zOP=os[x.ar[i].toNat]:=by rw [List.getD_eq_getElem?_getD,List.getElem?_eq_getElem hlt,Option.getD_some]
  rw [key,hge] at ih
  rw [hge] at hon
  rw [Q11.at12]
  unfold Q11.r12
  simp (disch:=omega) only [Option.bind_some,Option.bind_none,cond_true,cond_false,Bool.not_true,Bool.not_false,List.length_map,Ws_length,bs_size,within_t,upto_t,wsucc,Int.toNat_natCast,at_mapN,Ws_getDN,cells_agg,cells_v,withCons_cons,withInt_mk,withStr_mk,withBool_mk,withSl_mk,cond_t,cond_f,bif_eq0]
  by_cases h0:i=0
  ·rw [if_pos (by omega),bif_none (rng hr)]
   rw [if_pos h0] at ih
   simp (disch:=omega) only [Option.bind_some,Option.bind_none,cond_true,cond_false,Bool.not_true,Bool.not_false,List.length_map,Ws_length,bs_size,within_t,upto_t,wsucc,Int.toNat_natCast,at_mapN,Ws_getDN,cells_agg,cells_v,withCons_cons,withInt_mk,withStr_mk,withBool_mk,withSl_mk,cond_t,cond_f,OP.av,lit1,chk_t,bs_append,List.length_append,List.length_cons,List.length_nil]
   simpa using ih
  ·rw [if_neg (by omega),bif_none (rng hr)]
   rw [if_neg h0] at ih
   simp (disch:=omega) only [Option.bind_some,Option.bind_none,cond_true,cond_false,Bool.not_true,Bool.not_false,List.length_map,Ws_length,bs_size,within_t,upto_t,wsucc,Int.toNat_natCast,at_mapN,Ws_getDN,cells_agg,cells_v,withCons_cons,withInt_mk,withStr_mk,withBool_mk,withSl_mk,cond_t,cond_f,OP.av,lit1,chk_t,bs_append,List.length_append,List.length_cons,List.length_nil]
   simpa using ih
theorem frI (hn:1000002≤n) (os:List OP) (ho:os.length≤100) (hf:∀ o∈os,few o) (is:List IN) (hi' : is.length≤100) (hok:∀ x∈is,insX os x=0) (ms:List MN) (hm' : ms.length≤100) (hmo:∀ m∈ms,monX is.length m=0):∀ (d i m:Nat) (acc:List UInt8),i+d=is.length→200*d+300 < m→acc.length≤1000000+1000*i→
  Q11.l n m (.z7 (bs acc) i (os.map OP.av) (is.map IN.av) (ms.map MN.av))=some (bs (acc++flat ((is.drop i).map (insT os))++flat (ms.map monT)))
 | _,_,0,_,_,h,_=>absurd h (by omega)
 | 0,i,m+1,acc,h,hm,hA=>by
  rw [Q11.at7]
  unfold Q11.r7
  simp only [List.length_map]
  rw [cond_f (by omega),List.drop_of_length_le (by omega)]
  have:=frM (n:=n) hn (nI:=is.length) (by omega) ms hm' hmo (os.map OP.av) (is.map IN.av) ms.length 0 m acc (by omega) (by omega) (by omega)
  rw [List.drop_zero] at this
  rw [show ((0:Int))=((0:Nat):Int) from rfl,this]
  simp [flat]
 | d+1,i,m+1,acc,h,hm,hA=>by
  have hi:i < is.length:=by omega
  have hx:=hok _ (List.getElem_mem hi)
  have hxo:=insX_ok hx
  have hol:=opN_len hxo.1
  have hil:=insT_len hf hx
  have hg:(Ws opNs).getD is[i].op.toNat AV.undef=vs (bs (opN is[i].op)):=by
   rcases op_cases hxo.1 with h | h | h | h | h | h | h | h | h | h | h | h | h | h | h | h | h | h | h <;> rw [h] <;> rfl
  have h19:(decide ((0:Int)≤is[i].op)&&decide (is[i].op < (((Ws opNs).length:Nat):Int)))=true:=op19 hxo.1
  rw [Q11.at7]
  unfold Q11.r7
  rw [names_eq]
  simp (disch:=omega) only [Option.bind_some,Option.bind_none,cond_true,cond_false,Bool.not_true,Bool.not_false,List.length_map,Ws_length,bs_size,within_t,upto_t,wsucc,Int.toNat_natCast,at_mapN,Ws_getDN,cells_agg,cells_v,withCons_cons,withInt_mk,withStr_mk,withBool_mk,withSl_mk,cond_t,cond_f,IN.av]
  rw [show (((opNs.length:Nat):Int))=((19:Nat):Int) from rfl,bif_none (op19 hxo.1),hg]
  simp only [cells_v,withCons_cons,withStr_mk]
  rw [chk_t (by rw [bs_size]; omega),bs_append]
  have:=frA (n:=n) os ho is[i] hxo.2.2 (by omega) hf i (by omega) (is.map IN.av) (ms.map MN.av) (some (bs (acc++flat ((is.drop i).map (insT os))++flat (ms.map monT)))) (200*d+301) (acc++opN is[i].op) (by rw [List.length_append]; omega) (fun q hq=>by
   have ih:=frI hn os ho hf is hi' hok ms hm' hmo d (i+1) q (acc++insT os is[i]++[59,10]) (by omega) (by omega) (by simp; omega)
   rw [show acc++opN is[i].op++argT (anames os is[i].ar)++[59,10]=acc++insT os is[i]++[59,10] by simp [insT],ih,List.drop_eq_getElem_cons hi,List.map_cons]
   simp only [flat,List.append_assoc]) is[i].ar.length 0 m (by omega) (by omega)
  simpa [anames,argT] using this
theorem frO (hn:1000002≤n) (os:List OP) (ho:os.length≤100) (hf:∀ o∈os,few o) (is:List IN) (hi' : is.length≤100) (hop:∀ o∈os,OkOp is.length o) (hok:∀ x∈is,insX os x=0) (ms:List MN) (hm' : ms.length≤100) (hmo:∀ m∈ms,monX is.length m=0):∀ (d i m:Nat) (acc:List UInt8),i+d=os.length→d+30000 < m→acc.length≤5000*i→
  Q11.l n m (.z3 (bs acc) i (os.map OP.av) (is.map IN.av) (ms.map MN.av))=some (bs (acc++flat ((os.drop i).map opT)++flat (is.map (insT os))++flat (ms.map monT)))
 | _,_,0,_,_,h,_=>absurd h (by omega)
 | 0,i,m+1,acc,h,hm,hA=>by
  rw [Q11.at3]
  unfold Q11.r3
  simp only [List.length_map]
  rw [cond_f (by omega),List.drop_of_length_le (by omega)]
  have:=frI (n:=n) hn os ho hf is hi' hok ms hm' hmo is.length 0 m acc (by omega) (by omega) (by omega)
  rw [List.drop_zero] at this
  rw [show ((0:Int))=((0:Nat):Int) from rfl,this]
  simp [flat]
 | d+1,i,m+1,acc,h,hm,hA=>by
  have hi:i < os.length:=by omega
  have hfo:=hf _ (List.getElem_mem hi)
  obtain ⟨_,e2,e3⟩:=opLine_eq hn (by omega) os[i] (hop _ (List.getElem_mem hi)) hfo.1 hfo.2.1 hfo.2.2
  have ih:=frO hn os ho hf is hi' hop hok ms hm' hmo d (i+1) m (acc++opT os[i]++[59,10]) (by omega) (by omega) (by simp; omega)
  rw [Q11.at3]
  unfold Q11.r3
  simp (disch:=omega) only [Option.bind_some,Option.bind_none,cond_true,cond_false,Bool.not_true,Bool.not_false,List.length_map,Ws_length,bs_size,within_t,upto_t,wsucc,Int.toNat_natCast,at_mapN,Ws_getDN,cells_agg,cells_v,withCons_cons,withInt_mk,withStr_mk,withBool_mk,withSl_mk,cond_t,cond_f,OP.av]
  rw [e2,Option.bind_some]
  simp (disch:=omega) only [Option.bind_some,Option.bind_none,cond_true,cond_false,Bool.not_true,Bool.not_false,List.length_map,Ws_length,bs_size,within_t,upto_t,wsucc,Int.toNat_natCast,at_mapN,Ws_getDN,cells_agg,cells_v,withCons_cons,withInt_mk,withStr_mk,withBool_mk,withSl_mk,cond_t,cond_f,lit2,chk_t,bs_append,List.length_append,List.length_cons,List.length_nil]
  rw [ih,List.drop_eq_getElem_cons hi,List.map_cons]
  simp only [flat,List.append_assoc]
end
end Go.Proofs.YtnoldakbllfmnaaGreatDoor.Ev
namespace Go.Proofs.YtnoldakbllfmnaaGreatDoor.Ev
open Go Go.Proofs Go.Proofs.Ev
set_option linter.unusedVariables false
set_option linter.unusedSimpArgs false
section
variable {n:Nat}
def fmtX (os:List OP) (is:List IN) (ms:List MN):List UInt8:=flat (os.map opT++is.map (insT os)++ms.map monT)
theorem few_of {os:List OP} {is:List IN} {ms:List MN} (h:fewP os is ms=true):∀ o∈os,few o:=fun o ho=>(fewP_spec h).2.2.2.1 o ho
theorem formatP_eq (hn:1000002≤n) {os:List OP} {is:List IN} {ms:List MN} (h:fewP os is ms=true):Q23.F n (os.map OP.av) (is.map IN.av) (ms.map MN.av)=some (if errX os is ms≠0 then (⟨#[]⟩,errX os is ms) else if (fmtX os is ms).length > 6000 then (⟨#[]⟩,2) else (bs (fmtX os is ms),0)):=by
 obtain ⟨h1,h2,h3,h4⟩:=few_x h
 unfold Q23.F Q23.e
 rw [programErr_eq (by omega) os h1 is h2 h4 ms h3,Option.bind_some,bifne]
 by_cases he:errX os is ms=0
 ·have ok:=errX_ok he
  rw [if_pos he,if_neg (not_not_intro he),List.length_map]
  have:=fpO hn os (by omega) (few_of h) is h2 ok.lens.2.1 (opsE_right os [] ok.ops (fun o ho=>by cases ho)) ok.ins ms h3 ok.mos os.length 0 n [] (by omega) (by omega) (by simp; omega) (by simp)
  rw [List.drop_zero,List.nil_append] at this
  exact this
 ·rw [if_neg he,if_pos he]
theorem formatR_eq (hn:1000002≤n) {os:List OP} {is:List IN} {ms:List MN} (h:fewP os is ms=true) (he:errX os is ms=0):Q11.F n (os.map OP.av) (is.map IN.av) (ms.map MN.av)=some (bs (fmtX os is ms)):=by
 obtain ⟨h1,h2,h3,h4⟩:=few_x h
 have ok:=errX_ok he
 unfold Q11.F Q11.e
 have:=frO hn os (by omega) (few_of h) is h2 (opsE_right os [] ok.ops (fun o ho=>by cases ho)) ok.ins ms h3 ok.mos os.length 0 n [] (by omega) (by omega) (by simp)
 rw [List.drop_zero,List.nil_append] at this
 unfold fmtX
 rw [flat_app,flat_app]
 exact this
theorem texts_law (hn:1000002≤n) (os:List OP) (is:List IN) (ms:List MN):Q0n.F n (os.map OP.av) (is.map IN.av) (ms.map MN.av)=some true:=by
 unfold Q0n.F Q0n.e
 rw [awake_eq,Option.bind_some,few_eq (by omega),Option.bind_some,bif_not,if_neg (by simp),bif_not]
 cases h:fewP os is ms with
 | false=>rfl
 | true=>
  obtain ⟨h1,h2,h3,h4⟩:=few_x h
  rw [if_neg (by simp),own_eq (by omega) os (by omega) is (by omega) h4 ms (by omega),Option.bind_some]
  simp only
  rw [formatP_eq hn h,Option.bind_some,errR_eq (by omega) os h1 is h2 h4 ms h3,Option.bind_some,bifne]
  by_cases he:errX os is ms=0
  ·rw [if_pos he,if_neg (not_not_intro he),formatR_eq hn h he,Option.bind_some]
   simp only [bs_size]
   by_cases h6:(fmtX os is ms).length > 6000
   ·rw [cond_t (by omega),if_pos h6]
    simp
   ·rw [cond_f (by omega),if_neg h6]
    simp
  ·rw [if_neg he,if_pos he]
   simp
end
end Go.Proofs.YtnoldakbllfmnaaGreatDoor.Ev
end
