import Derived.Test.YtnoldakbllfmnaaGreatDoorDYc
import Derived.Lib.SplitLaws
import Derived.Lib.IndexMore
set_option linter.all false
noncomputable section
namespace Go.Proofs.YtnoldakbllfmnaaGreatDoor.Ev
open Go Go.Proofs Go.Proofs.Ev
def zO:List UInt8->List UInt8->Option (List UInt8 × List UInt8)
 | u,[]=>if u=[]then none else some (u,[])
 | u,c::r=>if c=46 then(if u=[]then none else if r≠[]/\r.all eQ=true then some (u,r)else none)
  else if eQ c=true then(if u=[48]then none else zO (u++[c]) r)else none
theorem uM(u:List UInt8):zO u []=if u=[]then none else some (u,[]):=by cases u<;>rfl
theorem oU(u:List UInt8)(c:UInt8)(r:List UInt8):zO u (c::r)=if c=46 then(if u=[]then none else if r≠[]/\r.all eQ=true then some (u,r)else none)
  else if eQ c=true then(if u=[48]then none else zO (u++[c]) r)else none:=by
 conv=>lhs;unfold zO
def gC(w f:List UInt8):List UInt8:=w.dropWhile (λx=>x==48)++f
def uj(s:List UInt8):Option (Int × Nat):=
 if 40<s.length\/s=[]then none else match zO [] (lP s)with
 | none=>none
 | some (w,f)=>if(gC w f).length<=15 then some (if uL s=true then -((iy (gC w f):Nat):Int)else((iy (gC w f):Nat):Int),f.length)else none
theorem rq:∀(r u w f:List UInt8),u.all eQ=true->zO u r=some (w,f)->w.all eQ=true/\f.all eQ=true
 | [],u,w,f,hu,h=>by
  rw[uM]at h;split at h
  ·cases h
  ·cases h;exact⟨hu,rfl⟩
 | c::r,u,w,f,hu,h=>by
  rw[oU]at h;split at h
  ·split at h
   ·cases h
   split at h
   ·rename_i h2;cases h;exact⟨hu,h2.2⟩
   ·cases h
  split at h
  ·rename_i hc;split at h
   ·cases h
   exact rq r _ w f (by simp[cf,hu,hc]) h
  ·cases h
theorem qD{s:List UInt8}{v:Int}{k:Nat}(h:uj s=some (v,k)):v.natAbs<10 ^ 15/\k<=15:=by
 unfold uj at h;split at h
 ·cases h
 cases hs:zO [] (lP s)with
 | none=>rw[hs]at h;cases h
 | some p=>
  obtain⟨w,f⟩:=p;rw[hs]at h;simp only at h;split at h
  ·rename_i hl;obtain⟨h1,h2⟩:=rq _ _ _ _ rfl hs;have hd:(gC w f).all eQ=true:=by
    unfold gC;rw[cf,h2,Bool.and_true,aA];intro x hx;exact aA.1 h1 x (List.dropWhile_sublist _ |>.subset hx)
   have hv:=nM (gC w f) 0 hd;have hp:10 ^ (gC w f).length<=10 ^ 15:=bJ (by decide) hl;have hk:f.length<=15:=by unfold gC at hl;rw[ai]at hl;omega
   have hvd:iy (gC w f)=fc 0 (gC w f):=rfl;cases h;refine⟨?_,hk⟩;split<;>omega
  ·cases h
def ye(fl:Bool)(x:Nat × Nat)(c:UInt8):Nat × Nat:=
 if fl=true\/0<x.2\/c≠48 then(if x.2+1<=15 then(10*x.1+(c.toNat - 48),x.2+1)else(x.1,x.2+1))else(10*x.1+(c.toNat - 48),x.2)
theorem zI{fl:Bool}{x:Nat × Nat}{c:UInt8}(h:fl=true\/0<x.2\/c≠48):ye fl x c=(if x.2+1<=15 then 10*x.1+(c.toNat - 48)else x.1,x.2+1):=by
 unfold ye;rw[ag h];split<;>rfl
theorem Lx{fl:Bool}{x:Nat × Nat}{c:UInt8}(h:¬ (fl=true\/0<x.2\/c≠48)):ye fl x c=(10*x.1+(c.toNat - 48),x.2):=by
 unfold ye;rw[af h]
theorem vm(l:List UInt8)(c:UInt8):fc 0 (l++[c])=10*fc 0 l+(c.toNat - 48):=by rw[sA];omega
theorem Eo(p:UInt8->Bool)(l:List UInt8)(c:UInt8):(l++[c]).dropWhile p=if l.dropWhile p=[]then(if p c=true then[]else[c])else l.dropWhile p++[c]:=by
 induction l with
 | nil=>simp[List.dropWhile];cases p c<;>rfl
 | cons b l ih=>
  rw[cm,List.dropWhile_cons,List.dropWhile_cons];cases hp:p b with
  | true=>rw[ag rfl,ag rfl,ih]
  | false=>rw[af (by simp),af (by simp),af (by simp)];rfl
structure H7(a g:List UInt8)(x:Nat × Nat):Prop where
 XH:x.2=(gC a g).length
 val:x.2<=15->x.1=fc 0 (a++g)
 low:x.1<10 ^ 15
theorem px(a g:List UInt8):fc 0 (a++g)=fc 0 (gC a g):=by
 unfold gC;induction a with
 | nil=>rfl
 | cons b a ih=>
  rw[List.dropWhile_cons];by_cases hb:(b==48)=true
  ·rw[ag hb];have e:b=48:=by simpa using hb
   subst e;rw[cm,mm];exact ih
  ·rw[af hb]
theorem vF{a g:List UInt8}(ha:a.all eQ=true)(hg:g.all eQ=true):(gC a g).all eQ=true:=by
 unfold gC;rw[cf,hg,Bool.and_true,aA];intro x hx;exact aA.1 ha x (List.dropWhile_sublist _ |>.subset hx)
theorem H7.whole{a:List UInt8}{x:Nat × Nat}(h:H7 a [] x)(ha:a.all eQ=true){c:UInt8}(hc:eQ c=true):H7 (a++[c]) [] (ye false x c):=by
 have ig:(a++[c]).all eQ=true:=by simp[cf,ha,hc]
 have hs:gC (a++[c]) []=if a.dropWhile (λx=>x==48)=[]then(if(c==48)=true then[]else[c])else a.dropWhile (λx=>x==48)++[c]:=by
  unfold gC;rw[bc,Eo]
 have hsa:gC a []=a.dropWhile (λx=>x==48):=by unfold gC;rw[bc]
 have Mt:=h.XH;rw[hsa]at Mt;have hv:fc 0 (a++[c])=10*fc 0 a+(c.toNat - 48):=vm a c;have eT:=nM (gC (a++[c]) []) 0 (vF ig rfl);have Mk : fc 0 (a++[c])<1*10 ^ (gC (a++[c]) []).length:=by
  have:=px (a++[c]) [];rw[bc]at this;rw[this];simpa using eT
 have mc:x.2<=15->x.1=fc 0 a:=λh1=>by have:=h.val h1;rwa[bc]at this
 have We:=h.low;unfold ye;by_cases h1:(false=true\/0<x.2\/c≠48)
 ·rw[ag h1];have hl:(gC (a++[c]) []).length=x.2+1:=by
   rw[hs];by_cases h2:a.dropWhile (λx=>x==48)=[]
   ·rw[ag h2,af]
    ·rw[Mt,h2];rfl
    ·rcases h1 with h1|h1|h1
     ·cases h1
     ·rw[Mt,h2]at h1;simp at h1
     ·simpa using h1
   ·rw[af h2,ai,Mt];rfl
  by_cases h3:x.2+1<=15
  ·rw[ag h3];have hp:10 ^ (x.2+1)<=10 ^ 15:=bJ (by decide) h3;rw[hl]at Mk;have e:=mc (by omega);refine⟨hl.symm,λ_=>?_,?_⟩
   ·rw[bc,hv,e]
   ·show 10*x.1+(c.toNat - 48)<_;rw[e,<-hv];omega
  ·rw[af h3];exact⟨hl.symm,λh=>absurd h h3,We⟩
 ·rw[af h1];have h0:x.2=0:=by
   rcases Nat.eq_zero_or_pos x.2 with h|h
   ·exact h
   ·exact absurd (.inr (.inl h)) h1
  have WL:c=48:=Classical.byContradiction λh=>h1 (.inr (.inr h));have h2:a.dropWhile (λx=>x==48)=[]:=aV.1 (by omega);have hl:(gC (a++[c]) []).length=0:=by rw[hs,ag h2,ag (by simp[WL])];rfl
  rw[hl]at Mk;have e:=mc (by omega);refine⟨by rw[hl];exact h0,λ_=>?_,?_⟩
  ·rw[bc,hv,e]
  ·show 10*x.1+(c.toNat - 48)<_;rw[e,<-hv];have:(10:Nat) ^ 0=1:=rfl;have ov:(10:Nat) ^ 15=1000000000000000:=by decide
   omega
theorem H7.Xx{a g:List UInt8}{x:Nat × Nat}(h:H7 a g x)(ha:a.all eQ=true)(hg:g.all eQ=true){c:UInt8}(hc:eQ c=true):H7 a (g++[c]) (ye true x c):=by
 have hs:gC a (g++[c])=gC a g++[c]:=by unfold gC;rw[bz]
 have hl:(gC a (g++[c])).length=x.2+1:=by rw[hs,ai,h.XH];rfl
 have hv:fc 0 (a++(g++[c]))=10*fc 0 (a++g)+(c.toNat - 48):=by rw[<-bz];exact vm _ c
 have eT:=nM (gC a (g++[c])) 0 (vF ha (by simp[cf,hg,hc]));rw[<-px,hl]at eT;unfold ye;rw[ag (.inl rfl)];by_cases h3:x.2+1<=15
 ·rw[ag h3];have hp:10 ^ (x.2+1)<=10 ^ 15:=bJ (by decide) h3;have e:=h.val (by omega);refine⟨hl.symm,λ_=>by rw[hv,e],?_⟩;show 10*x.1+(c.toNat - 48)<_;rw[e,<-hv];omega
 ·rw[af h3];exact⟨hl.symm,λh=>absurd h h3,h.low⟩
theorem Au{c:UInt8}(h:eQ c=true):48<=c.toNat/\c.toNat<=57:=by
 unfold eQ at h;simpa using h
theorem wV{c:UInt8}(h:eQ c=true):IntKind.i64.wrap (IntKind.u8.wrap (((c.toNat:Nat):Int) - 48))=((c.toNat - 48:Nat):Int):=by
 have:=Au h;rw[IntKind.wrap_u8,jU (by omega) (by omega)];omega
section
variable {n:Nat}
theorem yb(s:List UInt8)(hs:s.length<=1000)(fr:Int)(pt:Int)(HV:pt=-1\/0<=pt)(i:Nat)(hi:i<s.length)(gN:(i:Int)≠pt)(hc:eQ s[i]=true)(x:Nat × Nat)(hx:x.1<10 ^ 15)(TW:x.2<=1000)(k:Nat)(hk:k<=1000)(m:Nat) :
  ∃q,q<=4/\eB.l n (m+4) (.dJ (bs s) fr pt ((x.1:Nat):Int) ((x.2:Nat):Int) ((k:Nat):Int) i 0 0 0 0) =
   eB.l n (m+(4 - q)) (.dJ (bs s) fr pt (((ye (decide (pt≠-1/\pt<(i:Int))) x s[i]).1:Nat):Int) (((ye (decide (pt≠-1/\pt<(i:Int))) x s[i]).2:Nat):Int) (((if pt≠-1/\pt<(i:Int)then k+1 else k:Nat)):Int) ((i+1:Nat):Int) 0 0 0 0):=by
 have ov:(10:Nat) ^ 15=1000000000000000:=by decide
 have hd:=Au hc;have dw:=wV hc;have Ek:∀(m a b k:Nat),eB.l n (m+1) (.dO (bs s) fr pt ((a:Nat):Int) ((b:Nat):Int) ((k:Nat):Int) i 0 0 0 0)=eB.l n m (.dJ (bs s) fr pt ((a:Nat):Int) ((b:Nat):Int) ((k:Nat):Int) ((i+1:Nat):Int) 0 0 0 0):=by
  intro m a b k;rw[eB.Tv];unfold eB.Ql;rw[dY (by omega)]
 have AE:∀(m k:Nat),eB.l n (m+1+1) (.z25 (bs s) fr pt ((x.1:Nat):Int) ((x.2:Nat):Int) ((k:Nat):Int) i 0 0 0 0)=eB.l n m (.dJ (bs s) fr pt (((if x.2+1<=15 then 10*x.1+(s[i].toNat - 48)else x.1:Nat)):Int) ((x.2+1:Nat):Int) ((k:Nat):Int) ((i+1:Nat):Int) 0 0 0 0):=by
  intro m k;rw[eB.KO];unfold eB.IZ;simp only[cY];rw[jU (by omega) (by omega)];by_cases h3:x.2+1<=15
  ·rw[cU (by omega),de hi,ak,au,getD_at hi,dw,jU (x:=10*((x.1:Nat):Int)) (by omega) (by omega),jU (by omega) (by omega),ag h3];have e1:(10:Int)*((x.1:Nat):Int)+((s[i].toNat - 48:Nat):Int)=((10*x.1+(s[i].toNat - 48):Nat):Int):=by omega
   have e2:((x.2:Nat):Int)+1=((x.2+1:Nat):Int):=by omega
   rw[e1,e2,Ek]
  ·have e2:((x.2:Nat):Int)+1=((x.2+1:Nat):Int):=by omega
   rw[cV (by omega),af h3,e2,Ek]
 have Xb:∀(m k:Nat),eB.l n (m+1+1+1) (.z24 (bs s) fr pt ((x.1:Nat):Int) ((x.2:Nat):Int) ((k:Nat):Int) i true 0 0 0 0)=eB.l n m (.dJ (bs s) fr pt (((ye true x s[i]).1:Nat):Int) (((ye true x s[i]).2:Nat):Int) ((k:Nat):Int) ((i+1:Nat):Int) 0 0 0 0):=by
  intro m k;rw[eB.EF];unfold eB.qW;rw[ak,AE,zI (.inl rfl)]
 have SM:∀(m k:Nat),∃q,q<=1/\eB.l n (m+1+1+1) (.z24 (bs s) fr pt ((x.1:Nat):Int) ((x.2:Nat):Int) ((k:Nat):Int) i false 0 0 0 0)=eB.l n (m+q) (.dJ (bs s) fr pt (((ye false x s[i]).1:Nat):Int) (((ye false x s[i]).2:Nat):Int) ((k:Nat):Int) ((i+1:Nat):Int) 0 0 0 0):=by
  intro m k;rw[eB.EF];unfold eB.qW;rw[cond_false];simp only[cY];by_cases h0:0<x.2
  ·refine⟨0,by omega,?_⟩;rw[cU (by omega),AE,zI (.inr (.inl h0))];rfl
  ·rw[cV (by omega),de hi,ak,au,getD_at hi,eG];by_cases qb:s[i]=48
   ·refine⟨1,by omega,?_⟩;have XF:((s[i].toNat:Nat):Int)=48:=by rw[qb];rfl
    rw[ag XF,cU (by omega),ak,dw,jU (x:=10*((x.1:Nat):Int)) (by omega) (by omega),jU (by omega) (by omega)];have e1:(10:Int)*((x.1:Nat):Int)+((s[i].toNat - 48:Nat):Int)=((10*x.1+(s[i].toNat - 48):Nat):Int):=by omega
    rw[e1,Ek,Lx (by simp[qb];omega)]
   ·refine⟨0,by omega,?_⟩;have XF:((s[i].toNat:Nat):Int)≠48:=by
     intro e;have e2:s[i].toNat=48:=by omega
     exact qb (cz.1 (by rw[e2];rfl))
    rw[af XF,AE,zI (.inr (.inr qb))];rfl
 rw[show m+4=(m+3)+1 from rfl,eB.Hv];unfold eB.sE;simp only[cY];rw[cU (by omega),dD,af gN,eG];by_cases hp:pt=-1
 ·rw[ag hp];obtain⟨q,hq,e⟩:=SM m k;refine⟨4 - q,by omega,?_⟩;rw[e,af (λh=>h.1 hp),aU (λh=>h.1 hp),show 4 - (4 - q)=q by omega]
 ·rw[af hp];by_cases hg:pt<(i:Int)
  ·refine⟨4,by omega,?_⟩;rw[cU (by omega),decide_eq_true (show(i:Int)>pt by omega),jU (by omega) (by omega),show((k:Nat):Int)+1=((k+1:Nat):Int) by omega,Xb,ag ⟨hp,hg⟩,decide_eq_true ⟨hp,hg⟩];rfl
  ·obtain⟨q,hq,e⟩:=SM m k;refine⟨4 - q,by omega,?_⟩;rw[cV (by omega),aU (show ¬ (i:Int)>pt by omega),e,af (λh=>hg h.2),aU (λh=>hg h.2),show 4 - (4 - q)=q by omega]
theorem we{p r:List UInt8}{c:UInt8}{s:List UInt8}(hs:s=p++c::r):∃h:p.length<s.length,s[p.length]=c:=by
 subst hs;exact⟨by simp,by simp⟩
theorem qt(s:List UInt8)(hs:s.length<=1000)(fr:Int)(pt:Int)(p w tl:List UInt8)(HS:s=p++(w++tl))(hw:w.all eQ=true)(HV:pt=-1\/pt=((p.length+w.length:Nat):Int)) :
  ∀(c a:List UInt8) (m:Nat) (x:Nat × Nat),w=a++c->H7 a [] x->x.2<=a.length->
   ∃m' x',m<=m'/\H7 w [] x'/\x'.2<=w.length/\eB.l n (m+4*c.length) (.dJ (bs s) fr pt ((x.1:Nat):Int) ((x.2:Nat):Int) 0 ((p.length+a.length:Nat):Int) 0 0 0 0) =
    eB.l n m' (.dJ (bs s) fr pt ((x'.1:Nat):Int) ((x'.2:Nat):Int) 0 ((p.length+w.length:Nat):Int) 0 0 0 0)
 | [],a,m,x,h,hx,hl=>by
  have:a=w:=by rw[h,bc]
  subst this;exact⟨m,x,aH _,hx,hl,rfl⟩
 | c::r,a,m,x,h,hx,hl=>by
  have hlen:s.length=p.length+w.length+tl.length:=by rw[HS];simp;omega
  have NS:w.length=a.length+(r.length+1):=by rw[h];simp
  have tU : s=(p++a)++c::(r++tl):=by rw[HS,h];simp
  obtain⟨hi,hc⟩:=we tU;rw[ai]at hi;have Eh : s[p.length+a.length]'hi=c:=by
   have:=hc;simp only[ai]at this;exact this
  have TX:(a++c::r).all eQ=true:=by rw[<-h];exact hw
  rw[cf,bo,ae,ae]at TX;obtain⟨q,hq,e⟩:=yb (n:=n) s hs fr pt (by rcases HV with h|h;exact .inl h;exact .inr (by omega)) (p.length+a.length) hi (by rcases HV with h|h<;>omega) (by rw[Eh];exact TX.2.1) x hx.low (by omega) 0 (by omega) (m+4*r.length);have nc:decide (pt≠-1/\pt<((p.length+a.length:Nat):Int))=false:=aU (by rcases HV with h|h<;>omega);rw[nc,Eh,af (by rcases HV with h|h<;>omega)]at e;have rT:(ye false x c).2<=(a++[c]).length:=by
   rw[ai,bN];unfold ye;split
   ·split<;>(show x.2+1<=_;omega)
   ·show x.2<=_;omega
  obtain⟨m',x',g1,g2,g3,g4⟩:=qt s hs fr pt p w tl HS hw HV r (a++[c]) (m+(4 - q)) (ye false x c) (by rw[h];simp) (hx.whole TX.1 TX.2.1) rT;refine⟨m',x',by omega,g2,g3,?_⟩;rw[show m+4*(c::r).length=m+4*r.length+4 by simp;omega];refine e.trans ?_;rw[show m+4*r.length+(4 - q)=m+(4 - q)+4*r.length by omega,show p.length+a.length+1=p.length+(a++[c]).length by simp;omega];exact g4
theorem yc(s:List UInt8)(hs:s.length<=1000)(fr:Int)(p w f:List UInt8)(HS:s=p++(w++46::f))(hw:w.all eQ=true)(hf:f.all eQ=true) :
  ∀(c g:List UInt8) (m:Nat) (x:Nat × Nat),f=g++c->H7 w g x->x.2<=w.length+g.length->
   ∃m' x',m<=m'/\H7 w f x'/\eB.l n (m+4*c.length) (.dJ (bs s) fr ((p.length+w.length:Nat):Int) ((x.1:Nat):Int) ((x.2:Nat):Int) ((g.length:Nat):Int) ((p.length+w.length+1+g.length:Nat):Int) 0 0 0 0) =
    eB.l n m' (.dJ (bs s) fr ((p.length+w.length:Nat):Int) ((x'.1:Nat):Int) ((x'.2:Nat):Int) ((f.length:Nat):Int) ((s.length:Nat):Int) 0 0 0 0)
 | [],g,m,x,h,hx,hl=>by
  have:g=f:=by rw[h,bc]
  subst this;refine⟨m,x,aH _,hx,?_⟩;rw[show p.length+w.length+1+g.length=s.length by rw[HS];simp;omega];rfl
 | c::r,g,m,x,h,hx,hl=>by
  have hlen:s.length=p.length+w.length+1+f.length:=by rw[HS];simp;omega
  have xE : f.length=g.length+(r.length+1):=by rw[h];simp
  have tU : s=(p++w++46::g)++c::r:=by rw[HS,h];simp
  obtain⟨hi,hc⟩:=we tU;have oK:(p++w++46::g).length=p.length+w.length+1+g.length:=by simp;omega
  have mL : p.length+w.length+1+g.length<s.length:=by omega
  have Eh : s[p.length+w.length+1+g.length]'mL=c:=by
   have:=hc;simp only[oK]at this;exact this
  have T_:(g++c::r).all eQ=true:=by rw[<-h];exact hf
  rw[cf,bo,ae,ae]at T_;obtain⟨q,hq,e⟩:=yb (n:=n) s hs fr ((p.length+w.length:Nat):Int) (.inr (by omega)) (p.length+w.length+1+g.length) mL (by omega) (by rw[Eh];exact T_.2.1) x hx.low (by omega) g.length (by omega) (m+4*r.length);have hd:decide (((p.length+w.length:Nat):Int)≠-1/\((p.length+w.length:Nat):Int)<((p.length+w.length+1+g.length:Nat):Int))=true:=decide_eq_true (by omega);rw[hd,Eh,ag (by omega)]at e;have rT:(ye true x c).2<=w.length+(g++[c]).length:=by
   rw[ai,bN];unfold ye;rw[ag (.inl rfl)];split<;>(show x.2+1<=_;omega)
  obtain⟨m',x',g1,g2,g4⟩:=yc s hs fr p w f HS hw hf r (g++[c]) (m+(4 - q)) (ye true x c) (by rw[h];simp) (hx.Xx hw T_.1 T_.2.1) rT;refine⟨m',x',by omega,g2,?_⟩;rw[show m+4*(c::r).length=m+4*r.length+4 by simp;omega];refine e.trans ?_;rw[show m+4*r.length+(4 - q)=m+(4 - q)+4*r.length by omega,show p.length+w.length+1+g.length+1=p.length+w.length+1+(g++[c]).length by simp;omega,show g.length+1=(g++[c]).length by simp];exact g4
theorem Bq(s:List UInt8)(fr pt:Int)(w f:List UInt8)(x:Nat × Nat)(hx:H7 w f x)(m:Nat):∃y,eB.l n (m+1) (.dJ (bs s) fr pt ((x.1:Nat):Int) ((x.2:Nat):Int) ((f.length:Nat):Int) ((s.length:Nat):Int) 0 0 0 0)=some y/\
  (if(gC w f).length<=15 then y=(if fr=1 then -((iy (gC w f):Nat):Int)else((iy (gC w f):Nat):Int),(f.length:Int),(s.length:Int),0)else y.2.2.2≠0):=by
 have ov:(10:Nat) ^ 15=1000000000000000:=by decide
 rw[eB.Hv];unfold eB.sE;simp only[cY];rw[cV (by omega)];have hc:=hx.XH;have hl:=hx.low;have hvd:iy (gC w f)=fc 0 (gC w f):=rfl;by_cases h:(gC w f).length<=15
 ·have hv:=hx.val (by omega);rw[px]at hv;rw[cV (by omega),dD];by_cases h1:fr=1
  ·refine⟨_,by rw[ag h1],?_⟩;rw[ag h,ag h1,jU (by omega) (by omega),hv];congr 1;omega
  ·refine⟨_,by rw[af h1],?_⟩;rw[ag h,af h1,hv]
 ·rw[cU (by omega)];refine⟨_,rfl,?_⟩;rw[af h];decide
def P3(o:Option (Int × Int × Int × Int)):Prop:=∃a e:Int,e≠0/\o=some (0,0,a,e)
theorem FR(m:Nat)(i:Int):P3 (eB.l n (m+1) (.dk i 0 0 0 0)):=⟨i,8,by decide,rfl⟩
theorem Ku{c:UInt8}(h:c≠46):((((c.toNat:Nat):Int))==46)=false:=by
 rw[show(46:Int)=((46:Nat):Int)from rfl,fV c 46 46 rfl,aU h]
theorem uS:eQ 46=false:=by decide
theorem Nf(s:List UInt8)(hs:s.length<=1000)(fr:Nat)(ni:fr<=1)(pre:List UInt8)(pt:Nat)(HV:fr<pt)(jw:pre.length=pt+1):∀(r g:List UInt8) (m K:Nat),s=pre++(g++r)->K+3*r.length+1<=m->
  if g++r≠[]/\r.all eQ=true then ∃m',K<=m'/\eB.l n m (.z7 (bs s) ((pt+1+g.length:Nat):Int) ((fr:Nat):Int) ((pt:Nat):Int) 0 0 0 0)=eB.l n m' (.dJ (bs s) ((fr:Nat):Int) ((pt:Nat):Int) 0 0 0 ((fr:Nat):Int) 0 0 0 0)
  else P3 (eB.l n m (.z7 (bs s) ((pt+1+g.length:Nat):Int) ((fr:Nat):Int) ((pt:Nat):Int) 0 0 0 0))
 | [],g,m,K,h,hm=>by
  obtain⟨q,rfl⟩:∃q,m=q+1:=⟨m - 1,by omega⟩;have hl:s.length=pt+1+g.length:=by rw[h];simp;omega
  have e:eB.l n (q+1) (.z7 (bs s) ((pt+1+g.length:Nat):Int) ((fr:Nat):Int) ((pt:Nat):Int) 0 0 0 0)=if g=[]then some (0,0,((s.length:Nat):Int),9)else eB.l n q (.dJ (bs s) ((fr:Nat):Int) ((pt:Nat):Int) 0 0 0 ((fr:Nat):Int) 0 0 0 0):=by
   rw[eB.zi];unfold eB.r7;simp only[cY];rw[cV (by omega),dD,af (by omega),jU (by omega) (by omega),dD];by_cases hg:g=[]
   ·subst hg;rw[ag (by simp),ag rfl]
   ·have:=bP.2 hg;rw[af (by omega),af hg]
  rw[e];by_cases hg:g=[]
  ·rw[ag hg,af (by simp[hg])];exact⟨_,9,by decide,rfl⟩
  ·rw[af hg,ag ⟨by simpa using hg,rfl⟩];exact⟨q,by omega,rfl⟩
 | c::r,g,m,K,h,hm=>by
  obtain⟨q,rfl⟩:∃q,m=q+3:=⟨m - 3,by simp at hm;omega⟩;have tU : s=(pre++g)++c::r:=by rw[h];simp
  obtain⟨hi,hc⟩:=we tU;have oK:(pre++g).length=pt+1+g.length:=by rw[ai,jw]
  have mL : pt+1+g.length<s.length:=by omega
  have Eh : s[pt+1+g.length]'mL=c:=by
   have:=hc;simp only[oK]at this;exact this
  have ih:=Nf s hs fr ni pre pt HV jw r (g++[c]) q K (by rw[h];simp) (by simp at hm;omega);have e:eB.l n (q+3) (.z7 (bs s) ((pt+1+g.length:Nat):Int) ((fr:Nat):Int) ((pt:Nat):Int) 0 0 0 0)=if eQ c=true then eB.l n q (.z7 (bs s) ((pt+1+(g++[c]).length:Nat):Int) ((fr:Nat):Int) ((pt:Nat):Int) 0 0 0 0)else eB.l n (q+1) (.dk ((pt+1+g.length:Nat):Int) 0 0 0 0):=by
   have Dg:eB.l n (q+2) (.dC (bs s) ((pt+1+g.length:Nat):Int) ((fr:Nat):Int) ((pt:Nat):Int) ((c.toNat:Nat):Int) 0 0 0 0)=if eQ c=true then eB.l n q (.z7 (bs s) ((pt+1+(g++[c]).length:Nat):Int) ((fr:Nat):Int) ((pt:Nat):Int) 0 0 0 0)else eB.l n (q+1) (.dk ((pt+1+g.length:Nat):Int) 0 0 0 0):=by
    rw[show q+2=(q+1)+1 from rfl,eB.xN];unfold eB.uN;rw[pf,ab];cases eQ c with
    | false=>rfl
    | true=>
     rw[ak,dD,af (by omega),ag rfl,eB.at8];unfold eB.r8;rw[dY (by omega),show pt+1+g.length+1=pt+1+(g++[c]).length by simp;omega]
   rw[show q+3=(q+2)+1 from rfl,eB.zi];unfold eB.r7;simp only[cY];rw[cU (by omega),de mL,ak,au,getD_at mL,Eh,Dg];by_cases oD:c=46
   ·have:((((c.toNat:Nat):Int))==46)=true:=by rw[oD];rfl
    rw[this,ak,dD,af (by omega)]
   ·rw[Ku oD,cond_false]
  rw[e];cases hd:eQ c with
  | false=>
   rw[af (show ¬ ((g++c::r)≠[]/\(c::r).all eQ=true)from λh=>by have:=h.2;simp[hd]at this),af (by simp)];exact FR q _
  | true=>
   rw[ag rfl];have e3:((g++[c])++r≠[]/\r.all eQ=true)↔(g++c::r≠[]/\(c::r).all eQ=true):=by simp[hd]
   by_cases h2:g++c::r≠[]/\(c::r).all eQ=true
   ·rw[ag h2];rw[ag (e3.2 h2)]at ih;exact ih
   ·rw[af h2];rw[af (λh=>h2 (e3.1 h))]at ih;exact ih
theorem Ng(s:List UInt8)(hs:s.length<=1000)(p:List UInt8)(hp:p.length<=1):∀(r u:List UInt8) (m K:Nat),s=p++(u++r)->u.all eQ=true->K+3*r.length+5<=m->
  match zO u r with
  | none=>P3 (eB.l n m (.z7 (bs s) ((p.length+u.length:Nat):Int) ((p.length:Nat):Int) (-1) 0 0 0 0))
  | some (w,f)=>∃m',K<=m'/\s=p++(w++(if f=[]then[]else 46::f))/\eB.l n m (.z7 (bs s) ((p.length+u.length:Nat):Int) ((p.length:Nat):Int) (-1) 0 0 0 0)=eB.l n m' (.dJ (bs s) ((p.length:Nat):Int) (if f=[]then -1 else((p.length+w.length:Nat):Int)) 0 0 0 ((p.length:Nat):Int) 0 0 0 0)
 | [],u,m,K,h,hu,hm=>by
  obtain⟨q,rfl⟩:∃q,m=q+1:=⟨m - 1,by omega⟩;have hl:s.length=p.length+u.length:=by rw[h];simp
  have e:eB.l n (q+1) (.z7 (bs s) ((p.length+u.length:Nat):Int) ((p.length:Nat):Int) (-1) 0 0 0 0)=if u=[]then some (0,0,((s.length:Nat):Int),9)else eB.l n q (.dJ (bs s) ((p.length:Nat):Int) (-1) 0 0 0 ((p.length:Nat):Int) 0 0 0 0):=by
   rw[eB.zi];unfold eB.r7;simp only[cY];rw[cV (by omega),dD];by_cases hg:u=[]
   ·subst hg;rw[ag (by simp),ag rfl]
   ·have:=bP.2 hg;rw[af (by omega),af hg,jU (by omega) (by omega),dD,af (by omega)]
  rw[uM,e];by_cases hg:u=[]
  ·rw[ag hg,ag hg];exact⟨_,9,by decide,rfl⟩
  ·rw[af hg,af hg];exact⟨q,by omega,by rw[ag rfl,h],by rw[ag rfl]⟩
 | c::r,u,m,K,h,hu,hm=>by
  obtain⟨q,rfl⟩:∃q,m=q+3:=⟨m - 3,by simp at hm;omega⟩;have tU : s=(p++u)++c::r:=by rw[h];simp
  obtain⟨hi,hc⟩:=we tU;have oK:(p++u).length=p.length+u.length:=ai;have mL : p.length+u.length<s.length:=by omega
  have Eh : s[p.length+u.length]'mL=c:=by
   have:=hc;simp only[oK]at this;exact this
  have hlen:s.length=p.length+u.length+(r.length+1):=by rw[h];simp;omega
  have Dg:eB.l n (q+2) (.dC (bs s) ((p.length+u.length:Nat):Int) ((p.length:Nat):Int) (-1) ((c.toNat:Nat):Int) 0 0 0 0)=if eQ c=true then(if u=[48]then eB.l n (q+1) (.dk ((p.length+u.length:Nat):Int) 0 0 0 0)else eB.l n q (.z7 (bs s) ((p.length+(u++[c]).length:Nat):Int) ((p.length:Nat):Int) (-1) 0 0 0 0))else eB.l n (q+1) (.dk ((p.length+u.length:Nat):Int) 0 0 0 0):=by
   have h8:eB.l n (q+1) (.z8 (bs s) ((p.length+u.length:Nat):Int) ((p.length:Nat):Int) (-1) 0 0 0 0)=eB.l n q (.z7 (bs s) ((p.length+(u++[c]).length:Nat):Int) ((p.length:Nat):Int) (-1) 0 0 0 0):=by
    rw[eB.at8];unfold eB.r8;rw[dY (by omega),show p.length+u.length+1=p.length+(u++[c]).length by simp;omega]
   rw[show q+2=(q+1)+1 from rfl,eB.xN];unfold eB.uN;rw[pf,ab];cases eQ c with
   | false=>rfl
   | true=>
    rw[ak,dD,ag rfl,ag rfl,jU (by omega) (by omega)];simp only[cY];rw[dD];by_cases h1:u.length=1
    ·obtain⟨c0,rfl⟩:∃c0,u=[c0]:=b_.1 h1;have V2:s=p++c0::(c::r):=by rw[h];simp
     obtain⟨hj,hc0⟩:=we V2;rw[ag (by simp),de hj,ak,au,getD_at hj,hc0,show(48:Int)=((48:Nat):Int)from rfl,fV c0 48 48 rfl];by_cases qb:c0=48
     ·rw[decide_eq_true qb,ag (by rw[qb])];rfl
     ·rw[aU qb,af (by simpa using qb),aM,ak,h8]
    ·rw[af (by omega),af (λe=>h1 (by rw[e];rfl)),h8]
  have e:eB.l n (q+3) (.z7 (bs s) ((p.length+u.length:Nat):Int) ((p.length:Nat):Int) (-1) 0 0 0 0)=if c=46/\u≠[]then eB.l n (q+1) (.z7 (bs s) ((p.length+u.length+1:Nat):Int) ((p.length:Nat):Int) ((p.length+u.length:Nat):Int) 0 0 0 0)else eB.l n (q+2) (.dC (bs s) ((p.length+u.length:Nat):Int) ((p.length:Nat):Int) (-1) ((c.toNat:Nat):Int) 0 0 0 0):=by
   rw[show q+3=(q+2)+1 from rfl,eB.zi];unfold eB.r7;simp only[cY];rw[cU (by omega),de mL,ak,au,getD_at mL,Eh];by_cases oD:c=46
   ·have Tk:((((c.toNat:Nat):Int))==46)=true:=by rw[oD];rfl
    rw[Tk,ak,dD,ag rfl];by_cases Ec:u=[]
    ·rw[cV (by rw[Ec];simp),af (λh=>h.2 Ec)]
    ·have:=bP.2 Ec;rw[cU (by omega),ag ⟨oD,Ec⟩,show q+2=(q+1)+1 from rfl,eB.at8];unfold eB.r8;rw[dY (by omega)]
   ·rw[Ku oD,cond_false,af (λh=>oD h.1)]
  rw[oU,e];by_cases oD:c=46
  ·rw[ag oD];by_cases Ec:u=[]
   ·rw[af (show ¬ (c=46/\u≠[])from λh=>h.2 Ec),ag Ec,Dg,oD,uS,af (by simp)];exact FR q _
   ·have TY:=bP.2 Ec;rw[ag (show c=46/\u≠[]from⟨oD,Ec⟩),af Ec];have hB:=Nf (n:=n) s hs p.length hp (p++u++[46]) (p.length+u.length) (by omega) (by simp;omega) r [] (q+1) K (by rw[h,oD];simp) (by simp at hm;omega);rw[bF]at hB;by_cases h2:r≠[]/\r.all eQ=true
    ·rw[ag h2];rw[ag h2]at hB;obtain⟨m',g1,g2⟩:=hB;exact⟨m',g1,by rw[af h2.1,h,oD],by rw[af h2.1];exact g2⟩
    ·rw[af h2];rw[af h2]at hB;exact hB
  ·rw[af oD,af (show ¬ (c=46/\u≠[])from λh=>oD h.1),Dg];cases hd:eQ c with
   | false=>
    rw[af (by simp),af (by simp)];exact FR q _
   | true=>
    rw[ag rfl,ag rfl];by_cases qb:u=[48]
    ·rw[ag qb,ag qb];exact FR q _
    ·rw[af qb,af qb];exact Ng s hs p hp r (u++[c]) q K (by rw[h];simp) (by simp[cf,hu,hd]) (by simp at hm;omega)
theorem IH:∀(r u w f:List UInt8),zO u r=some (w,f)->u++r=w++(if f=[]then[]else 46::f)
 | [],u,w,f,h=>by
  rw[uM]at h;split at h
  ·cases h
  ·cases h;simp
 | c::r,u,w,f,h=>by
  rw[oU]at h;split at h
  ·rename_i oD;split at h
   ·cases h
   split at h
   ·rename_i h2;cases h;rw[af h2.1,oD]
   ·cases h
  split at h
  ·split at h
   ·cases h
   have:=IH r _ w f h;rw[<-this];simp
  ·cases h
theorem EA(s:List UInt8)(h:s≠[]):∃p:List UInt8,s=p++lP s/\p.length=(if uL s=true then 1 else 0):=by
 cases s with
 | nil=>exact absurd rfl h
 | cons c r=>
  by_cases Df:c=45
  ·subst Df;exact⟨[45],rfl,rfl⟩
  ·have hs:uL (c::r)=false:=by unfold uL;simpa using Df
   exact⟨[],by unfold lP;rw[hs];rfl,by rw[hs];rfl⟩
theorem BD(hn:100000<=n)(s:List UInt8)(hs:s.length<=100000):∃x,eB.F n (bs s)=some x/\(match uj s with | some (v,k)=>x=(v,(k:Int),(s.length:Int),0) | none=>x.2.2.2≠0):=by
 unfold eB.F eB.e uj;simp only[cY];by_cases GU:40<s.length
 ·rw[cU (by omega),ag (.inl GU)];exact⟨_,rfl,by dsimp only;decide⟩
 ·rw[cV (by omega)];by_cases h0:s=[]
  ·subst h0;refine⟨(0,0,0,1),by rw[show(⟨#[]⟩:ByteArray)=bs []from rfl,dK,cU rfl],?_⟩;rw[ag (.inr rfl)];dsimp only;decide
  ·have qL:=bP.2 h0;have e0:((bs s).toList==(⟨#[]⟩:ByteArray).toList)=false:=by
    rw[show(⟨#[]⟩:ByteArray)=bs []from rfl,dK,aU h0]
   rw[e0,cond_false,cU (by omega),getD_at qL,af (by rintro(h|h);exact GU h;exact h0 h)];obtain⟨p,hp,oK⟩:=EA s h0;have hc:lU.F n (((s[0].toNat:Nat):Int)==45)=some ((p.length:Nat):Int):=by
    have AA:(((s[0].toNat:Nat):Int)==45)=uL s:=by
     rw[show(45:Int)=((45:Nat):Int)from rfl,fV s[0] 45 45 rfl];unfold uL;rw[ah,aN qL,Option.getD_some];rfl
    rw[AA,oK];cases uL s<;>rfl
   rw[hc,ab];have JV:p.length<=1:=by rw[oK];split<;>omega
   have hA:=Ng (n:=n) s (by omega) p JV (lP s) [] n 1000 hp rfl (by have:=congrArg List.length hp;rw[ai]at this;omega);rw[aJ,bE]at hA;cases JS:zO [] (lP s)with
   | none=>
    rw[JS]at hA;obtain⟨a,e,h1,h2⟩:=hA;exact⟨_,h2,h1⟩
   | some q=>
    obtain⟨w,f⟩:=q;rw[JS]at hA;obtain⟨m',g1,g2,g3⟩:=hA;obtain⟨d1,d2⟩:=rq _ _ _ _ rfl JS;rw[g3];have hlen:=congrArg List.length g2;have hz:H7 [] [] (0,0):=⟨rfl,λ_=>rfl,by decide⟩;by_cases hf:f=[]
    ·subst hf;rw[ag rfl]at g2 g3 hlen ⊢;obtain⟨m2,x,k1,k2,k3,k4⟩:=qt (n:=n) s (by omega) ((p.length:Nat):Int) (-1) p w [] g2 d1 (.inl rfl) w [] (m' - 4*w.length) (0,0) rfl hz (by simp);rw[show m' - 4*w.length+4*w.length=m' by simp at hlen;omega,aJ,bE]at k4;obtain⟨m3,rfl⟩:∃m3,m2=m3+1:=⟨m2 - 1,by simp at hlen;omega⟩;obtain⟨y,e1,e2⟩:=Bq (n:=n) s ((p.length:Nat):Int) (-1) w [] x k2 m3;rw[show p.length+w.length=s.length by simp at hlen;omega]at k4;refine⟨y,k4.trans e1,?_⟩;have ni:(((p.length:Nat):Int)=1)↔uL s=true:=by rw[oK];cases uL s<;>simp
     by_cases ov:(gC w []).length<=15
     ·rw[ag ov]at e2;simp only[ag ov];rw[e2];by_cases AA:uL s=true
      ·rw[ag (ni.2 AA),ag AA]
      ·rw[af (λh=>AA (ni.1 h)),af AA]
     ·rw[af ov]at e2;simp only[af ov];exact e2
    ·rw[af hf]at g2 g3 hlen ⊢;obtain⟨m2,x,k1,k2,k3,k4⟩:=qt (n:=n) s (by omega) ((p.length:Nat):Int) ((p.length+w.length:Nat):Int) p w (46::f) g2 d1 (.inr rfl) w [] (m' - 4*w.length) (0,0) rfl hz (by simp);rw[show m' - 4*w.length+4*w.length=m' by simp at hlen;omega,aJ,bE]at k4;obtain⟨m3,rfl⟩:∃m3,m2=m3+2+4*f.length:=⟨m2 - 2 - 4*f.length,by simp at hlen;omega⟩;have Pc:eB.l n (m3+2+4*f.length) (.dJ (bs s) ((p.length:Nat):Int) ((p.length+w.length:Nat):Int) ((x.1:Nat):Int) ((x.2:Nat):Int) 0 ((p.length+w.length:Nat):Int) 0 0 0 0)=eB.l n (m3+4*f.length) (.dJ (bs s) ((p.length:Nat):Int) ((p.length+w.length:Nat):Int) ((x.1:Nat):Int) ((x.2:Nat):Int) 0 ((p.length+w.length+1:Nat):Int) 0 0 0 0):=by
      rw[show m3+2+4*f.length=(m3+1+4*f.length)+1 by omega,eB.Hv];unfold eB.sE;simp only[cY];rw[cU (by simp at hlen;omega),dD,ag rfl,show m3+1+4*f.length=(m3+4*f.length)+1 by omega,eB.Tv];unfold eB.Ql;rw[dY (by simp at hlen;omega)]
     obtain⟨m4,x',j1,j2,j4⟩:=yc (n:=n) s (by omega) ((p.length:Nat):Int) p w f g2 d1 d2 f [] m3 x rfl k2 (by simpa using k3);rw[aJ,bE]at j4;have hm4:1<=m4:=by simp at hlen;omega
     obtain⟨m5,rfl⟩:∃m5,m4=m5+1:=⟨m4 - 1,by omega⟩;obtain⟨y,e1,e2⟩:=Bq (n:=n) s ((p.length:Nat):Int) ((p.length+w.length:Nat):Int) w f x' j2 m5;refine⟨y,(k4.trans Pc).trans (j4.trans e1),?_⟩;have ni:(((p.length:Nat):Int)=1)↔uL s=true:=by rw[oK];cases uL s<;>simp
     by_cases ov:(gC w f).length<=15
     ·rw[ag ov]at e2;simp only[ag ov];rw[e2];by_cases AA:uL s=true
      ·rw[ag (ni.2 AA),ag AA]
      ·rw[af (λh=>AA (ni.1 h)),af AA]
     ·rw[af ov]at e2;simp only[af ov];exact e2
end
theorem zN:∀(r u:List UInt8),u.all eQ=true->¬ (1<u.length/\u.getD 0 0=48)->zO u r =
  if 1<(u++r.takeWhile eQ).length/\(u++r.takeWhile eQ).getD 0 0=48 then none else match r.drop (r.takeWhile eQ).length with
  | []=>if u++r.takeWhile eQ=[]then none else some (u++r.takeWhile eQ,[])
  | c::f=>if c=46/\u++r.takeWhile eQ≠[]/\f≠[]/\f.all eQ=true then some (u++r.takeWhile eQ,f)else none
 | [],u,hu,hz=>by
  simp only[List.takeWhile_nil,bc,aJ,aW];rw[uM,af hz]
 | c::r,u,hu,hz=>by
  cases hc:eQ c with
  | true=>
   rw[bV,hc,ag rfl,az,ca];have oD:c≠46:=by rintro rfl;rw[uS]at hc;cases hc
   rw[oU,af oD,hc,ag rfl];by_cases qb:u=[48]
   ·rw[ag qb,ag];subst qb;exact⟨by simp,rfl⟩
   ·rw[af qb,zN r (u++[c]) (by simp[cf,hu,hc]) (by
     rintro⟨h1,h2⟩;cases u with
     | nil=>simp at h1
     | cons b u=>
      have hb:b=48:=by simpa using h2
      subst hb;cases u with
      | nil=>exact qb rfl
      | cons _ _=>exact hz ⟨by simp,rfl⟩)]
    have e:u++[c]++r.takeWhile eQ=u++c::r.takeWhile eQ:=by simp
    rw[e]
  | false=>
   have htw:(c::r).takeWhile eQ=[]:=by rw[bV,hc];rfl
   rw[htw,bc,aJ,aW,af hz,oU];dsimp only;by_cases oD:c=46
   ·rw[ag oD];by_cases Ec:u=[]
    ·rw[ag Ec,af (λh=>h.2.1 Ec)]
    ·rw[af Ec];by_cases h2:r≠[]/\r.all eQ=true
     ·rw[ag h2,ag ⟨oD,Ec,h2⟩]
     ·rw[af h2,af (λh=>h2 h.2.2)]
   ·rw[af oD,hc,af (by simp),af (λh=>oD h.1)]
theorem Lr(r:List UInt8):(r.takeWhile eQ).all eQ=true:=by
 induction r with
 | nil=>rfl
 | cons c r ih=>
  rw[bV];split
  ·rename_i hc;rw[bo,hc,ih];rfl
  ·rfl
theorem Iq{l:List UInt8}(h:l.all eQ=true):l.takeWhile eQ=l:=by
 induction l with
 | nil=>rfl
 | cons c l ih=>
  rw[bo,ae]at h;rw[bV,ag h.1,ih h.2]
section
variable {n:Nat}
theorem sQ(n:Nat)(s:List UInt8)(i:Nat):mJ.F n (bs s) i=some (match s.drop i with | []=>false | c::_=>eQ c):=by
 unfold mJ.F mJ.e;simp only[cY];by_cases hi:i<s.length
 ·rw[aC hi,cU (by omega),de hi,ak,au,getD_at hi];simp only[ak];unfold eQ;by_cases h1:(48:Int)<=((s[i].toNat:Nat):Int)
  ·rw[cU h1];congr 1;rw[cA];simp;omega
  ·rw[cV h1];congr 1;rw[cA];simp;omega
 ·rw[aF (by omega),cV (by omega)]
theorem Nk(n:Nat)(s:List UInt8)(hs:s.length<=100000):∀(d:List UInt8) (i m:Nat),(s.drop i).takeWhile eQ=d->d.length<m->i<=s.length->kz.l n m (.z5 (bs s) i)=some (((i+d.length:Nat):Int),0)
 | _,_,0,_,h,_=>absurd h (by omega)
 | [],i,m+1,h,_,hi=>by
  rw[kz.Ht];unfold kz.r5;rw[sQ,ab];cases hd:s.drop i with
  | nil=>rfl
  | cons c r=>
   rw[hd,bV]at h;cases hc:eQ c with
   | true=>rw[hc,ag rfl]at h;cases h
   | false=>
    dsimp only;rw[hc];rfl
 | b::d,i,m+1,h,hm,hi=>by
  rw[kz.Ht];unfold kz.r5;rw[sQ,ab];cases hd:s.drop i with
  | nil=>rw[hd]at h;cases h
  | cons c r=>
   rw[hd,bV]at h;cases hc:eQ c with
   | false=>rw[hc,af (by simp)]at h;cases h
   | true=>
    rw[hc,ag rfl]at h;have eT:i<s.length:=by
     have:=congrArg List.length hd;rw[aQ,az]at this;omega
    have hr:s.drop (i+1)=r:=by rw[<-cu,hd];rfl
    have h2:(s.drop (i+1)).takeWhile eQ=d:=by rw[hr];exact(List.cons.inj h).2
    simp only[hc,ak];rw[dY (by omega),Nk n s hs d (i+1) m h2 (by simp at hm;omega) (by omega),show i+1+d.length=i+(b::d).length by simp;omega]
theorem run_eq(hn:200000<=n)(s:List UInt8)(hs:s.length<=100000)(i:Nat)(hi:i<=s.length):∃e,kz.F n (bs s) i=some (((i+((s.drop i).takeWhile eQ).length:Nat):Int),e)/\(e=0↔(s.drop i).takeWhile eQ≠[]):=by
 unfold kz.F kz.e;rw[sQ,ab];have hl:=Nk n s hs _ i n rfl (by have:=(cL (p:=eQ) (l:=s.drop i)).length_le;rw[aQ]at this;omega) hi;cases hd:s.drop i with
 | nil=>
  simp only[aM,ak,cY,List.takeWhile_nil,aJ,bE];have:s.length<=i:=by
   have:=congrArg List.length hd;rw[aQ,aJ]at this;omega
  rw[cV (by omega)];exact⟨9,rfl,by decide⟩
 | cons c r=>
  rw[hd]at hl;have eT:i<s.length:=by
   have:=congrArg List.length hd;rw[aQ,az]at this;omega
  cases hc:eQ c with
  | false=>
   simp only[hc,aM,ak,cY];rw[cU (by omega),bV,hc,af (by simp),aJ,bE];exact⟨8,rfl,by simp⟩
  | true=>
   simp only[hc,aI,cond_false];refine⟨0,hl,?_⟩;rw[bV,hc,ag rfl];simp
theorem O0(hn:200000<=n)(s:List UInt8)(hs:s.length<=100000)(h0:s≠[]):∃y,iC.F n (bs s)=some y/\(match zO [] (lP s)with | none=>y.2.2≠0 | some (w,f)=>y.1=(if uL s=true then 1 else 0)/\y.2.2=0):=by
 have qL:=bP.2 h0;obtain⟨p,hp,oK⟩:=EA s h0;obtain⟨q,rfl⟩:∃q,n=q+2:=⟨n - 2,by omega⟩;have GR:s.drop p.length=lP s:=by
  conv=>lhs;rw[hp]
  rw[cF]
 have JV:p.length<=s.length:=by rw[oK];split<;>omega
 obtain⟨e,r1,r2⟩:=run_eq hn s hs p.length JV;rw[GR]at r1 r2;have hz8:∀w:List UInt8,w=(lP s).takeWhile eQ->w≠[]->∃y,iC.l (q+2) (q+2) (.z8 (bs s) ((p.length:Nat):Int) ((p.length+w.length:Nat):Int))=some y/\(match(lP s).drop w.length with
   | []=>y.1=((p.length:Nat):Int)/\y.2.2=0
   | c::f=>if c=46/\f≠[]/\f.all eQ=true then y.1=((p.length:Nat):Int)/\y.2.2=0 else y.2.2≠0):=by
  intro w hw Eb;have NS:w.length<=(lP s).length:=by rw[hw];exact(cL _).length_le
  have Az:s.length=p.length+(lP s).length:=by conv=>lhs;rw[hp,ai]
  have De:s.drop (p.length+w.length)=(lP s).drop w.length:=by rw[<-cu,GR]
  rw[show q+2=(q+1)+1 from rfl,iC.at8];unfold iC.r8;simp only[cY];rw[dD];cases hd:(lP s).drop w.length with
  | nil=>
   have:(lP s).length<=w.length:=by
    have:=congrArg List.length hd;rw[aQ,aJ]at this;omega
   rw[ag (by omega)];exact⟨_,rfl,rfl,rfl⟩
  | cons c f=>
   have eT:p.length+w.length<s.length:=by
    have:=congrArg List.length hd;rw[aQ,az]at this;omega
   have hc:s[p.length+w.length]'eT=c:=by
    have:=aC eT;rw[De,hd]at this;exact(List.cons.inj this).1.symm
   have hf:s.drop (p.length+w.length+1)=f:=by rw[<-cu,De,hd];rfl
   rw[af (by omega),de eT,ak,au,getD_at eT,hc,eG];by_cases oD:c=46
   ·have Tk:((c.toNat:Nat):Int)=46:=by rw[oD];rfl
    rw[ag Tk,dY (by omega)];obtain⟨e',g1,g2⟩:=run_eq hn s hs (p.length+w.length+1) (by omega);rw[hf]at g1 g2;rw[g1,ab];simp only;have nc:s.length=p.length+w.length+1+f.length:=by
     have:=congrArg List.length hf;rw[aQ]at this;omega
    have ov:∀x:Int,iC.l (q+2) (q+1) (.dE ((p.length:Nat):Int) ((p.length+w.length:Nat):Int) x ((p.length+w.length+1+(f.takeWhile eQ).length:Nat):Int))=some (if x≠0 then(0,((p.length+w.length+1+(f.takeWhile eQ).length:Nat):Int),x)else(((p.length:Nat):Int),((p.length+w.length:Nat):Int),0)):=by
     intro x;rw[iC.CZ];unfold iC.qX;rw[eG];by_cases hx:x=0
     ·rw[ag hx,af (by simpa using hx)]
     ·rw[af hx,ag hx]
    rw[dD];have ig:f.takeWhile eQ=f↔f.all eQ=true:=by
     constructor
     ·intro h;rw[<-h];exact Lr f
     ·intro h;exact Iq h
    have GI:=(cL (p:=eQ) (l:=f)).length_le;by_cases he:e'=0
    ·rw[ag he];have Wt:=g2.1 he;by_cases Wc:(f.takeWhile eQ).length<f.length
     ·rw[cU (by omega),ov];refine⟨_,rfl,?_⟩
      try simp only
      rw[af,ag (by decide)]
      ·dsimp only;decide
      ·rintro⟨_,_,h3⟩;have:=ig.2 h3;rw[this]at Wc;omega
     ·rw[cV (by omega),ov];have Qv:f.takeWhile eQ=f:=(cL _).eq_of_length (by omega);refine⟨_,rfl,?_⟩
      try simp only
      rw[ag ⟨oD,by rw[<-Qv];exact Wt,ig.1 Qv⟩,af (by simpa using he)];exact⟨rfl,rfl⟩
    ·rw[af he,ov];refine⟨_,rfl,?_⟩
     try simp only
     have gN:f.takeWhile eQ=[]:=Classical.byContradiction λh=>he (g2.2 h);rw[af,ag he]
     ·exact he
     ·rintro⟨_,h2,h3⟩;have:=ig.2 h3;rw[gN]at this;exact h2 this.symm
   ·have Tk:((c.toNat:Nat):Int)≠46:=by
     intro e2;have e3:c.toNat=46:=by omega
     exact oD (cz.1 (by rw[e3];rfl))
    rw[af Tk];refine⟨_,rfl,?_⟩
    try simp only
    rw[af (λh=>oD h.1)];decide
 have FB:=zN (lP s) [] rfl (by simp);rw[bF]at FB;have main:∃y,(bif(!decide (e=0))then some (0,((p.length+((lP s).takeWhile eQ).length:Nat):Int),e)else
   (if 1<((lP s).takeWhile eQ).length/\((lP s).takeWhile eQ).getD 0 0=48 then some (0,((p.length+1:Nat):Int),8)else iC.l (q+2) (q+2) (.z8 (bs s) ((p.length:Nat):Int) ((p.length+((lP s).takeWhile eQ).length:Nat):Int))))=some y/\(match zO [] (lP s)with | none=>y.2.2≠0 | some (w,f)=>y.1=((p.length:Nat):Int)/\y.2.2=0):=by
  rw[FB];by_cases he:e=0
  ·have Eb:=r2.1 he;rw[decide_eq_true he,aI,cond_false];by_cases hz:1<((lP s).takeWhile eQ).length/\((lP s).takeWhile eQ).getD 0 0=48
   ·rw[ag hz,ag hz];exact⟨_,rfl,by dsimp only;decide⟩
   ·rw[af hz,af hz];obtain⟨y,y1,y2⟩:=hz8 _ rfl Eb;refine⟨y,y1,?_⟩;cases hd:(lP s).drop ((lP s).takeWhile eQ).length with
    | nil=>rw[hd]at y2;rw[af Eb];exact y2
    | cons c f=>
     rw[hd]at y2;simp only at y2 ⊢;by_cases h2:c=46/\f≠[]/\f.all eQ=true
     ·rw[ag h2]at y2;rw[ag ⟨h2.1,Eb,h2.2⟩];exact y2
     ·rw[af h2]at y2;rw[af (λh=>h2 ⟨h.1,h.2.2⟩)];exact y2
  ·have hwe:(lP s).takeWhile eQ=[]:=Classical.byContradiction λh=>he (r2.2 h);rw[aU he,aM,ak];refine⟨_,rfl,?_⟩;rw[hwe,af (by simp)];cases hd:(lP s).drop ([]:List UInt8).length with
   | nil=>rw[ag rfl];exact he
   | cons c f=>simp only;rw[af (λh=>h.2.1 rfl)];exact he
 obtain⟨y,y1,y2⟩:=main;refine⟨y,?_,?_⟩
 ·rw[<-y1];unfold iC.F iC.e;simp only[cY];have QB:s.getD 0 0=s[0]:=by rw[ah,aN qL,Option.getD_some]
  have Df:((((s[0].toNat:Nat):Int))==45)=uL s:=by
   rw[show(45:Int)=((45:Nat):Int)from rfl,fV s[0] 45 45 rfl];unfold uL;rw[QB];rfl
  rw[cU (by omega),getD_at qL,Df];have first:∀(eT:p.length<s.length),(lP s).takeWhile eQ≠[]->((lP s).takeWhile eQ).getD 0 0=s[p.length]'eT:=by
   intro eT gN;have h1:=aC eT;rw[GR]at h1;rw[h1,bV]at gN ⊢;split at gN
   ·rename_i hc;rw[ag hc];rfl
   ·exact absurd rfl gN
  have tail:∀(K:Option (Int × Int × Int)),(bif decide (((p.length:Nat):Int)<((s.length:Nat):Int))then(let y3:Int:=((((bs s).data.getD p.length 0).toNat:Nat):Int)
    bif y3==48 then(bif decide (((p.length+((lP s).takeWhile eQ).length:Nat):Int)>((p.length+1:Nat):Int))then some ((0:Int),((p.length+1:Nat):Int),(8:Int))else K)else K)else none)=if e=0 then(if 1<((lP s).takeWhile eQ).length/\((lP s).takeWhile eQ).getD 0 0=48 then some (0,((p.length+1:Nat):Int),8)else K)else(bif decide (((p.length:Nat):Int)<((s.length:Nat):Int))then(let y3:Int:=((((bs s).data.getD p.length 0).toNat:Nat):Int)
    bif y3==48 then(bif decide (((p.length+((lP s).takeWhile eQ).length:Nat):Int)>((p.length+1:Nat):Int))then some ((0:Int),((p.length+1:Nat):Int),(8:Int))else K)else K)else none):=by
   intro K;by_cases he:e=0
   ·have Eb:=r2.1 he;have Cp:0<(lP s).length:=by
     have:=(cL (p:=eQ) (l:=lP s)).length_le;have:=bP.2 Eb;omega
    have eT:p.length<s.length:=by
     have:s.length=p.length+(lP s).length:=by conv=>lhs;rw[hp,ai]
     omega
    rw[ag he,cU (by omega),getD_at eT];simp only;rw[show(48:Int)=((48:Nat):Int)from rfl,fV (s[p.length]'eT) 48 48 rfl,first eT Eb];by_cases qb:s[p.length]'eT=48
    ·rw[decide_eq_true qb,ak];by_cases hl:1<((lP s).takeWhile eQ).length
     ·rw[cU (by omega),ag ⟨hl,qb⟩]
     ·rw[cV (by omega),af (λh=>hl h.1)]
    ·rw[aU qb,cond_false,af (λh=>qb h.2)]
   ·rw[af he]
  cases AA:uL s with
  | true=>
   have NX:p.length=1:=by rw[oK,AA];rfl
   rw[NX]at r1 tail ⊢;have Vz : kz.F (q+2) (bs s) 1=some (((1+((lP s).takeWhile eQ).length:Nat):Int),e):=r1;rw[ak,Vz,ab,eG];have hw:IntKind.i64.wrap ((1:Int)+1)=((1+1:Nat):Int):=by decide
   by_cases he:e=0
   ·rw[ag he,decide_eq_true he,aI,cond_false];simp only[hw];have:=tail (iC.l (q+2) (q+2) (.z8 (bs s) ((1:Nat):Int) ((1+((lP s).takeWhile eQ).length:Nat):Int)));rw[ag he]at this;exact this
   ·rw[af he,aU he];rfl
  | false=>
   have NX:p.length=0:=by rw[oK,AA];rfl
   rw[NX]at r1 tail ⊢;have Vz : kz.F (q+2) (bs s) 0=some (((0+((lP s).takeWhile eQ).length:Nat):Int),e):=r1;rw[cond_false,Vz,ab,eG];have hw:IntKind.i64.wrap ((0:Int)+1)=((0+1:Nat):Int):=by decide
   by_cases he:e=0
   ·rw[ag he,decide_eq_true he,aI,cond_false];simp only[hw];have:=tail (iC.l (q+2) (q+2) (.z8 (bs s) ((0:Nat):Int) ((0+((lP s).takeWhile eQ).length:Nat):Int)));rw[ag he]at this;rw[getD_at qL]at this;exact this
   ·rw[af he,aU he];rfl
 ·cases JS:zO [] (lP s)with
  | none=>rw[JS]at y2;exact y2
  | some v=>
   obtain⟨w,f⟩:=v;rw[JS]at y2;refine⟨?_,y2.2⟩;rw[y2.1,oK];split<;>rfl
end
theorem On{w:List UInt8}(h:w.all eQ=true):w.takeWhile eQ=w:=Iq h
theorem Om{w:List UInt8}(h:w.all eQ=true)(f:List UInt8):(w++46::f).takeWhile eQ=w:=by
 rw[List.takeWhile_append_of_pos (λx hx=>aA.1 h x hx),bV,uS,af (by simp),bc]
theorem Ly{w:List UInt8}(hw:w.all eQ=true)(gN:w≠[])(hz:¬ (1<w.length/\w.getD 0 0=48)):zO [] w=some (w,[]):=by
 have h:=zN w [] rfl (by simp);rw[On hw,bF,af hz,aF (aH _)]at h;rw[h];simp only;rw[af gN]
theorem IG{w f:List UInt8}(hw:w.all eQ=true)(gN:w≠[])(hz:¬ (1<w.length/\w.getD 0 0=48))(hf:f.all eQ=true)(HW:f≠[]):zO [] (w++46::f)=some (w,f):=by
 have h:=zN (w++46::f) [] rfl (by simp);rw[Om hw,bF,af hz,cF]at h;rw[h];simp only;rw[ag ⟨trivial,gN,HW,hf⟩]
theorem A8(a s:Nat):(fQ a s).all eQ=true:=by
 obtain⟨_,h2,_⟩:=nd a a (aH _);unfold fQ;rw[cf,h2,Bool.and_true,aA];intro x hx;rw[(bY.1 hx).2];decide
theorem Bh:∀(k:Nat) (l:List UInt8),fc 0 (List.replicate k 48++l)=fc 0 l
 | 0,l=>rfl
 | k+1,l=>by
  rw[cG,cm,mm];exact Bh k l
theorem H9(a s:Nat):fc 0 (fQ a s)=a:=by
 unfold fQ;rw[Bh];exact(nd a a (aH _)).2.2.1
theorem Dj{a s:Nat}(ha:a<10 ^ 15)(hs:s<=15):∃w f:List UInt8,fQ a s=w++f/\f.length=s/\w≠[]/\w.all eQ=true/\f.all eQ=true/\¬ (1<w.length/\w.getD 0 0=48)/\(gC w f).length<=15:=by
 obtain⟨hl1,FD⟩:=q_ ha hs;have ig:=A8 a s;obtain⟨d1,d2,d3,d4,d5⟩:=nd a a (aH _);have J_:=kH 14 a ha;refine⟨(fQ a s).take ((fQ a s).length - s),(fQ a s).drop ((fQ a s).length - s),(bW _ _).symm,by rw[aQ];omega,?_,?_,?_,?_,?_⟩
 ·intro e;have:=congrArg List.length e;rw[bd,aJ]at this;omega
 ·rw[aA];intro x hx;exact aA.1 ig x (aX hx)
 ·rw[aA];intro x hx;exact aA.1 ig x (bg hx)
 ·rintro⟨h1,h2⟩;rw[bd]at h1;have hnr:s+1 - (Lib.decDigits a).length=0:=by
   have:(fQ a s).length=(s+1 - (Lib.decDigits a).length)+(Lib.decDigits a).length:=by unfold fQ;simp
   omega
  have hz:fQ a s=Lib.decDigits a:=by unfold fQ;rw[hnr];rfl
  rw[hz]at h1 h2;have hg:((Lib.decDigits a).take ((Lib.decDigits a).length - s)).getD 0 0=(Lib.decDigits a).getD 0 0:=by
   rw[ah,ah,List.getElem?_take,ag (by omega)]
  rw[hg]at h2;by_cases h0:a=0
  ·have:=d5 (by omega);omega
  ·exact d4 h0 h2
 ·by_cases hr:s+1 - (Lib.decDigits a).length=0
  ·have hz:fQ a s=Lib.decDigits a:=by unfold fQ;rw[hr];rfl
   unfold gC;rw[ai];have h1:=(List.dropWhile_sublist (p:=λx:UInt8=>x==48) (l:=(fQ a s).take ((fQ a s).length - s))).length_le;rw[bd]at h1;rw[aQ];have:=congrArg List.length hz;omega
  ·have hL:(fQ a s).length=s+1:=by unfold fQ;simp;omega
   have ht:(fQ a s).take ((fQ a s).length - s)=[48]:=by
    rw[hL,show s+1 - s=1 by omega];unfold fQ;obtain⟨j,hj⟩:∃j,s+1 - (Lib.decDigits a).length=j+1:=⟨s+1 - (Lib.decDigits a).length - 1,by omega⟩;rw[hj,cG];rfl
   unfold gC;rw[ht,List.dropWhile_cons,ag (by decide),List.dropWhile_nil,bF,aQ,hL];omega
theorem Gf{a s:Nat}(w f:List UInt8)(h:fQ a s=w++f)(hf:f.length=s):C_ (fQ a s) s=w++(if s=0 then[]else 46::f):=by
 have hl:(fQ a s).length - s=w.length:=by rw[h,ai];omega
 unfold C_;rw[hl];by_cases h0:0<s
 ·rw[ag h0,af (by omega),h,cK,cF];simp
 ·have:f=[]:=aV.1 (by omega);rw[af h0,ag (by omega),h,this]
theorem sM{v:Int}{k:Nat}(hv:v.natAbs<10 ^ 15)(hk:k<=15):uj (oA v k)=some (v,k):=by
 obtain⟨w,f,h1,h2,h3,h4,h5,h6,h7⟩:=Dj hv hk;have hp:=Gf w f h1 h2;have hlen:=BQ hv hk;have mc:fc 0 (gC w f)=v.natAbs:=by rw[<-px,<-h1,H9]
 have Si:∀tl:List UInt8,uL (w++tl)=false:=by
  intro tl;cases w with
  | nil=>exact absurd rfl h3
  | cons c w=>
   unfold uL;rw[bo,ae]at h4;show(c==45)=false;rw[beq_eq_false_iff_ne];rintro rfl;have:=h4.1;revert this;decide
 have FB:zO [] (w++(if k=0 then[]else 46::f))=some (w,f):=by
  by_cases h0:k=0
  ·have Wy:f=[]:=aV.1 (by omega);rw[ag h0,bc,Wy];exact Ly h4 h3 h6
  ·have Wy:f≠[]:=λe=>by rw[e]at h2;simp at h2;omega
   rw[af h0];exact IG h4 h3 h6 h5 Wy
 have hb:uL (oA v k)=decide (v<0)/\lP (oA v k)=w++(if k=0 then[]else 46::f):=by
  unfold oA;rw[hp];by_cases hn:v<0
  ·rw[ag hn,decide_eq_true hn];exact⟨rfl,rfl⟩
  ·rw[af hn,aU hn,bF];have:=Si (if k=0 then[]else 46::f);exact⟨this,by unfold lP;rw[this];rfl⟩
 have gN:oA v k≠[]:=by
  intro e;have h9:=hb.2;rw[e]at h9;have:lP ([]:List UInt8)=[]:=rfl;rw[this]at h9;cases w with
  | nil=>exact h3 rfl
  | cons c w=>simp at h9
 unfold uj;rw[af (by rintro(h|h);omega;exact gN h),hb.2,FB];simp only;rw[ag h7,hb.1,h2];show some ((if decide (v<0)=true then -((fc 0 (gC w f):Nat):Int)else((fc 0 (gC w f):Nat):Int)),k)=_;rw[mc];congr 1;by_cases hn:v<0
 ·rw[ag (by simpa using hn)];congr 1;omega
 ·rw[af (by simpa using hn)];congr 1;omega
section
variable {n:Nat}
theorem Ix(n:Nat)(s:List UInt8)(sg:Int)(f l:List UInt8)(hl:l.length<=15)(hd:l.all eQ=true):∀(e i m:Nat),i+e=l.length->e<m->
  jt.l n m (.dC (bs s) sg (bs f) ((fc 0 (l.take i):Nat):Int) ((l.length:Nat):Int) ((i:Nat):Int) 0 0 (l.map λb=>vu b.toNat))=some (if sg=1 then -((fc 0 l:Nat):Int)else((fc 0 l:Nat):Int),((f.length:Nat):Int),((s.length:Nat):Int),0)
 | _,_,0,_,h=>absurd h (by omega)
 | 0,i,m+1,h,_=>by
  have hv:=nM l 0 hd;have hp:10 ^ l.length<=10 ^ 15:=bJ (by decide) hl;have ov:(10:Nat) ^ 15=1000000000000000:=by decide
  rw[jt.xN];unfold jt.uN;rw[cV (by omega),cl (by omega),dD];simp only[cY];by_cases h1:sg=1
  ·rw[ag h1,ag h1,jU (by omega) (by omega)];congr 2;omega
  ·rw[af h1,af h1]
 | e+1,i,m+1,h,hm=>by
  have hi:i<l.length:=by omega
  have ih:=Ix n s sg f l hl hd e (i+1) m (by omega) (by omega);have hc:=aA.1 hd _ (aZ hi);have N6:=Au hc;have hta:(l.take (i+1)).all eQ=true:=by
   rw[aA];intro x hx;exact aA.1 hd x (aX hx)
  have hv:=nM (l.take (i+1)) 0 hta;have hp:10 ^ (l.take (i+1)).length<=10 ^ 15:=bJ (by decide) (by rw[bd];omega);have ov:(10:Nat) ^ 15=1000000000000000:=by decide
  have RZ:fc 0 (l.take (i+1))=10*fc 0 (l.take i)+(l[i].toNat - 48):=by rw[bL hi];exact vm _ _
  rw[jt.xN];unfold jt.uN;have tV:(l.map λb:UInt8=>vu b.toNat).getD i AV.undef=vu l[i].toNat:=dR (λb:UInt8=>vu b.toNat) hi;rw[cU (by omega),aj,de hi,ak,au,tV];simp(disch:=omega)only[ab,aB,ak,cond_false,aI,aM,aj,dq,cY,de,ec,dY,au,dR,dV,dA,dZ,cZ,dh,dn,dz,dx,cU,cV];rw[wV hc,jU (x:=((fc 0 (l.take i):Nat):Int)*10) (by omega) (by omega),jU (by omega) (by omega),show((fc 0 (l.take i):Nat):Int)*10+((l[i].toNat - 48:Nat):Int)=((fc 0 (l.take (i+1)):Nat):Int) by rw[RZ];omega];exact ih
theorem Gh(hn:200000<=n)(s:List UInt8)(hs:s.length<=100000):∃x,jt.F n (bs s)=some x/\(match uj s with | some (v,k)=>x=(v,(k:Int),(s.length:Int),0) | none=>x.2.2.2≠0):=by
 unfold jt.F jt.e uj;simp only[cY];have N7:∀(b:Bool) (e:Int),nE.F n b e=some (if b then e else 0):=λb e=>by cases b<;>rfl
 rw[N7,ab,show(⟨#[]⟩:ByteArray)=bs []from rfl,dK,N7,ab,Ai (by omega),ab,eG];by_cases GU:40<s.length
 ·rw[decide_eq_true (show((s.length:Nat):Int)>40 by omega),ag (show 40<s.length\/s=[]from .inl GU)];exact⟨(0,0,0,2),by cases decide (s=[])<;>rfl,by dsimp only;decide⟩
 ·rw[aU (show ¬ ((s.length:Nat):Int)>40 by omega)];by_cases h0:s=[]
  ·rw[decide_eq_true h0,ag (show 40<s.length\/s=[]from .inr h0)];exact⟨(0,0,0,1),rfl,by dsimp only;decide⟩
  ·rw[aU h0,af (show ¬ (40<s.length\/s=[])from λh=>h.elim GU h0)];simp only[b9,if_false,ne_eq,not_true_eq_false,ck];obtain⟨y,y1,y2⟩:=O0 hn s hs h0;rw[y1,ab,eG];obtain⟨p,hp,oK⟩:=EA s h0;cases JS:zO [] (lP s)with
   | none=>
    rw[JS]at y2;rw[af y2];exact⟨_,rfl,y2⟩
   | some q=>
    obtain⟨w,f⟩:=q;rw[JS]at y2;obtain⟨d1,d2⟩:=rq _ _ _ _ rfl JS;have heq:=IH _ _ _ _ JS;rw[bF]at heq;have O9:y.1=((p.length:Nat):Int):=by rw[y2.1,oK];split<;>rfl
    have JV:p.length<=s.length:=by have:=congrArg List.length hp;rw[ai]at this;omega
    have GR:s.drop p.length=lP s:=by
     conv=>lhs;rw[hp]
     rw[cF]
    have YK:(lP s).length<=40:=by rw[<-GR,aQ];omega
    rw[ag y2.2,O9,ec JV,ak,au,show(bs s).extract p.length s.length=bs (s.drop p.length)from gu s _,GR,gQ,gY _ 46 (by omega),ab];have RQ:w.contains 46=false:=by
     rw[<-a_];intro h;have hm:(46:UInt8)∈w:=by simpa using h
     have:=aA.1 d1 46 hm;rw[uS]at this;cases this
    have Sn:(eU (lP s) 46).1=w/\(eU (lP s) 46).2.1=f:=by
     rw[heq];by_cases hf:f=[]
     ·rw[ag hf,bc,zc RQ,hf];exact⟨rfl,rfl⟩
     ·rw[af hf,gI _ _ _ RQ];exact⟨rfl,rfl⟩
    simp only[Sn.1,Sn.2];have RS:HC.F n (bs w) (⟨#[48]⟩:ByteArray)=some (bs (w.dropWhile (λx=>x==48))):=rfl;have NS:w.length+f.length<=40:=by
     have:=congrArg List.length heq;rw[ai]at this;split at this
     ·rename_i hf;subst hf;simp at this ⊢;omega
     ·simp at this;omega
    have J_:=(List.dropWhile_sublist (p:=λx:UInt8=>x==48) (l:=w)).length_le;rw[RS,ab,cY,cY,jh (by omega),eF,cY];have VZ:w.dropWhile (λx=>x==48)++f=gC w f:=rfl;rw[VZ];by_cases ov:(gC w f).length<=15
    ·rw[cV (by omega),ag ov];have RY:=Ix n s ((p.length:Nat):Int) f (gC w f) ov (vF d1 d2) (gC w f).length 0 n (by omega) (by omega);rw[List.take_zero]at RY;refine⟨_,?_,rfl⟩;have FD:((bs (gC w f)).toList.map λb:UInt8=>vu b.toNat)=(gC w f).map λb:UInt8=>vu b.toNat:=by rw[ki]
     simp only[FD,aj];refine RY.trans ?_;congr 1;have ni:(((p.length:Nat):Int)=1)↔uL s=true:=by rw[oK];cases uL s<;>simp
     by_cases AA:uL s=true
     ·rw[ag (ni.2 AA),ag AA]
     ·rw[af (λh=>AA (ni.1 h)),af AA]
    ·rw[cU (by omega),af ov];exact⟨_,rfl,by dsimp only;decide⟩
end
def nq:List UInt8->List UInt8
 | []=>[]
 | [c]=>[c]
 | c::d::r=>if c=39/\d=39 then 39::nq r else c::nq (d::r)
theorem np(c d:UInt8)(r:List UInt8):nq (c::d::r)=if c=39/\d=39 then 39::nq r else c::nq (d::r):=by
 conv=>lhs;unfold nq
theorem Lo{c:UInt8}(h:c≠39)(t:List UInt8):nq (c::t)=c::nq t:=by
 cases t with
 | nil=>rfl
 | cons d r=>rw[np,af (λe=>h e.1)]
theorem vt:∀x:List UInt8,nq (tZ x)=x
 | []=>rfl
 | c::x=>by
  rw[jo];by_cases h:c=39
  ·rw[ag h];show nq (39::39::tZ x)=_;rw[np,ag ⟨rfl,rfl⟩,vt x,h]
  ·rw[af h];show nq (c::tZ x)=_;rw[Lo h,vt x]
def qq:List UInt8:=[39,39]
theorem ON(c d:UInt8)(r:List UInt8):qq.isPrefixOf (c::d::r)=decide (c=39/\d=39):=by
 rw[cA];simp[qq,List.isPrefixOf];constructor
 ·rintro⟨a,b⟩;exact⟨a.symm,b.symm⟩
 ·rintro⟨a,b⟩;exact⟨a.symm,b.symm⟩
theorem yJ(c d:UInt8)(r:List UInt8):Lib.index (c::d::r) qq=if c=39/\d=39 then 0 else if Lib.index (d::r) qq=-1 then -1 else Lib.index (d::r) qq+1:=by
 rw[Lib.index,ON];by_cases h:c=39/\d=39
 ·rw[ag h,decide_eq_true h,ag rfl]
 ·rw[af h,aU h,af (by simp)];by_cases h2:Lib.index (d::r) qq=-1
  ·rw[ag h2,ag (by rw[h2];rfl)]
  ·rw[af h2,af (by simpa using h2)]
theorem index_one(c:UInt8):Lib.index [c] qq=-1:=by
 rw[Lib.index];have:qq.isPrefixOf [c]=false:=by simp[qq,List.isPrefixOf]
 rw[this];rfl
theorem xZ:∀s:List UInt8,Lib.index s qq=-1->nq s=s
 | [],_=>rfl
 | [c],_=>rfl
 | c::d::r,h=>by
  rw[yJ]at h;split at h
  ·cases h
  rename_i h1;split at h
  ·rename_i h2;rw[np,af h1,xZ (d::r) h2]
  ·have:=Lib.index_ge (d::r) qq;rename_i h2;omega
theorem Bm:∀(s:List UInt8) (i:Nat),Lib.index s qq=i->nq s=s.take i++[39]++nq (s.drop (i+2))
 | [],i,h=>by
  have e:Lib.index [] qq=-1:=rfl;rw[e]at h;omega
 | [c],i,h=>by
  rw[index_one]at h;omega
 | c::d::r,i,h=>by
  rw[yJ]at h;by_cases h1:c=39/\d=39
  ·rw[ag h1]at h;have:i=0:=by omega
   subst this;rw[np,ag h1];rfl
  ·rw[af h1]at h;by_cases h2:Lib.index (d::r) qq=-1
   ·rw[ag h2]at h;omega
   ·rw[af h2]at h;have Sj:=Lib.index_ge (d::r) qq;obtain⟨j,rfl⟩:∃j,i=j+1:=⟨i - 1,by omega⟩;have:=Bm (d::r) j (by omega);rw[np,af h1,this,cC,show j+1+2=(j+2)+1 by omega,ca];simp
theorem OB:∀(N:Nat) (s:List UInt8) (k:Nat),s.length<=N->Lib.count s qq<=k->Lib.replaceK qq [39] k s=nq s:=by
 intro N;induction N with
 | zero=>
  intro s k hs hk;have:s=[]:=aV.1 (by omega);subst this;cases k<;>rfl
 | succ N ih=>
  intro s k hs hk;by_cases hm:Lib.index s qq=-1
  ·rw[xZ s hm];cases k with
   | zero=>rfl
   | succ k=>rw[Lib.replaceK,ag (by rw[hm];rfl)]
  ·have Sj:=Lib.index_ge s qq;obtain⟨i,hi⟩:∃i:Nat,Lib.index s qq=i:=⟨(Lib.index s qq).toNat,by omega⟩;rw[Lib.count_hit (by decide) hi]at hk;obtain⟨k,rfl⟩:∃q,k=q+1:=⟨k - 1,by omega⟩;have gN:s≠[]:=by rintro rfl;exact hm rfl
   have qL:=bP.2 gN;rw[Lib.replaceK_hit qq [39] k s i hi,Bm s i hi];have:qq.length=2:=rfl;rw[this]at hk ⊢;rw[ih (s.drop (i+2)) k (by rw[aQ];omega) (by omega)]
def lI(c:UInt8):Option Nat:=if 48<=c.toNat/\c.toNat<=57 then some (c.toNat - 48)else if 65<=c.toNat/\c.toNat<=70 then some (c.toNat - 55)else none
def fj:List UInt8->Option (List UInt8)
 | []=>some []
 | [_]=>none
 | a::b::r=>match lI a,lI b,fj r with
  | some x,some y,some t=>some (UInt8.ofNat (16*x+y)::t)
  | _,_,_=>none
theorem pQ{c:UInt8}{i:Nat}(h:lI c=some i):i<16/\c=rZ.getD i 0:=by
 have all:∀k:Fin 256,∀i:Fin 16,lI (UInt8.ofNat k.1)=some i.1->UInt8.ofNat k.1=rZ.getD i.1 0:=by decide +kernel
 have low:i<16:=by
  unfold lI at h;split at h
  ·cases h;omega
  ·split at h
   ·cases h;omega
   ·cases h
 have:=all ⟨c.toNat,c.toNat_lt⟩ ⟨i,low⟩;simp only[UInt8.ofNat_toNat]at this;exact⟨low,this h⟩
theorem J6{i:Nat}(h:i<16):lI (rZ.getD i 0)=some i:=by
 have all:∀i:Fin 16,lI (rZ.getD i.1 0)=some i.1:=by decide +kernel
 exact all ⟨i,h⟩
theorem J4(c:UInt8):UInt8.ofNat (16*(c.toNat / 16)+c.toNat % 16)=c:=by
 rw[Nat.div_add_mod];simp
theorem oQ:∀x:List UInt8,fj (oC x)=some x
 | []=>rfl
 | c::x=>by
  have hc:=c.toNat_lt;rw[mv];show fj (rZ.getD (c.toNat / 16) 0::rZ.getD (c.toNat % 16) 0::oC x)=_;unfold fj;rw[J6 (by omega),J6 (by omega),oQ x];simp only;rw[J4]
theorem pj:∀(s x:List UInt8),fj s=some x->s=oC x
 | [],x,h=>by
  cases h;rfl
 | [_],x,h=>by cases h
 | a::b::r,x,h=>by
  unfold fj at h;cases ha:lI a with
  | none=>rw[ha]at h;cases h
  | some i=>
   cases hb:lI b with
   | none=>rw[ha,hb]at h;cases h
   | some j=>
    cases hr:fj r with
    | none=>rw[ha,hb,hr]at h;cases h
    | some t=>
     rw[ha,hb,hr]at h;cases h;obtain⟨i1,i2⟩:=pQ ha;obtain⟨j1,j2⟩:=pQ hb;have e:(UInt8.ofNat (16*i+j)).toNat=16*i+j:=by
      rw[UInt8.toNat_ofNat'];omega
     rw[mv];unfold La;rw[e,show(16*i+j) / 16=i by omega,show(16*i+j) % 16=j by omega,<-i2,<-j2,pj r t hr];rfl
section
variable {n:Nat}
theorem Bj(s:List UInt8)(hs:s.length<=100000):zu.F n (bs s) (bs [39,39]) (bs [39])=some (bs (nq s)):=by
 unfold zu.F;have hc:Lib.countB (bs s) (bs [39,39])<=s.length:=Lib.countB_le (bs [39,39]) (by decide) s.length (bs s) (by rw[cY];omega);have hg:((decide ((bs s).size<4294967281)&&decide (1<=(bs [39,39]).size))&&decide ((bs s).size+Lib.countB (bs s) (bs [39,39])*(bs [39]).size<=140737488355328))=true:=by
  rw[ae,ae,ay,ay,ay,cY,cY,cY];simp only[az,aJ];omega
 rw[hg,ak];have:Lib.replaceAll (bs s).data.toList (bs [39,39]).data.toList (bs [39]).data.toList=nq s:=by
  show Lib.replaceAll s qq [39]=nq s;unfold Lib.replaceAll Lib.replace Lib.replaceNum;rw[af (by decide),ag (by left;decide),OB s.length s _ (aH _) (aH _)]
 rw[this]
theorem Wz(c:UInt8):Lib.indexByte rZ c=match lI c with | some i=>(i:Int) | none=>-1:=by
 have all:∀k:Fin 256,Lib.indexByte rZ (UInt8.ofNat k.1)=match lI (UInt8.ofNat k.1)with | some i=>(i:Int) | none=>-1:=by decide +kernel
 have:=all ⟨c.toNat,c.toNat_lt⟩;simpa using this
theorem B7(c:UInt8):EK.F n (⟨#[48,49,50,51,52,53,54,55,56,57,65,66,67,68,69,70]⟩:ByteArray) ((c.toNat:Nat):Int)=some (match lI c with | some i=>(i:Int) | none=>-1):=by
 unfold EK.F;rw[ak,au];have:c.toNat.toUInt8=c:=by simp
 rw[this];congr 1;exact Wz c
theorem Jf{i j:Nat}(hi:i<16)(hj:j<16):IntKind.u8.wrap (IntKind.i64.wrap (BitVec.ofInt 64 (IntKind.i64.wrap (((i:Nat):Int)*2 ^ min (4:Int).toNat 64)) ||| BitVec.ofInt 64 ((j:Nat):Int)).toNat)=((16*i+j:Nat):Int):=by
 have all:∀i j:Fin 16,IntKind.u8.wrap (IntKind.i64.wrap (BitVec.ofInt 64 (IntKind.i64.wrap (((i.1:Nat):Int)*2 ^ min (4:Int).toNat 64)) ||| BitVec.ofInt 64 ((j.1:Nat):Int)).toNat)=((16*i.1+j.1:Nat):Int):=by decide +kernel
 exact all ⟨i,hi⟩ ⟨j,hj⟩
theorem Al:(⟨#[]⟩:ByteArray)=bs []:=rfl
theorem Hr:∀(N:Nat) (s:List UInt8) (acc:List UInt8) (m:Nat),s.length<=N->N<m->N<=100000->acc.length+N<=1000000->∃t b,kP.l n m (.z2 (bs s) (ub acc))=some (bs t,b)/\b=(fj s).isSome/\∀x,fj s=some x->t=acc++x:=by
 intro N;induction N with
 | zero=>
  intro s acc m hs hm _ _;have:s=[]:=aV.1 (by omega);subst this;obtain⟨m,rfl⟩:∃q,m=q+1:=⟨m - 1,by omega⟩;rw[kP.oE];unfold kP.r2;simp only[cY];rw[cV (by simp),nr,Al,dK];refine⟨acc,true,rfl,rfl,λx hx=>by cases hx;simp⟩
 | succ N ih=>
  intro s acc m hs hm hN hac;obtain⟨m,rfl⟩:∃q,m=q+1:=⟨m - 1,by omega⟩;rw[kP.oE];unfold kP.r2;simp only[cY]
  match s with
  | []=>
   rw[cV (by simp),nr,Al,dK];exact⟨acc,true,rfl,rfl,λx hx=>by cases hx;simp⟩
  | [c]=>
   rw[cV (by simp),nr,Al,dK];exact⟨acc,false,rfl,rfl,λx hx=>by cases hx⟩
  | a::b::r=>
   have lO:fe=1000000000:=rfl;simp only[az]at hs ⊢;rw[cU (by omega),cU (by omega),show(bs (a::b::r)).data.getD 0 0=a from rfl,show(bs (a::b::r)).data.getD 1 0=b from rfl,B7,ab,cU (by omega),B7,ab];unfold fj;cases ha:lI a with
   | none=>
    simp only;rw[cU (by omega)];exact⟨[],false,rfl,rfl,λx hx=>by cases hx⟩
   | some i=>
    simp only;rw[cV (by omega)];cases hb:lI b with
    | none=>
     simp only;rw[cU (by omega)];exact⟨[],false,rfl,rfl,λx hx=>by cases hx⟩
    | some j=>
     simp only;obtain⟨i1,_⟩:=pQ ha;obtain⟨j1,_⟩:=pQ hb;have eu:[vu (((16*i+j:Nat)):Int)]=ub [UInt8.ofNat (16*i+j)]:=by
      show[vu _]=[vu _];congr 3;rw[UInt8.toNat_ofNat'];omega
     rw[cV (by omega),Jf i1 j1,cU (by rw[iW,aJ];omega),eu,zF];have hu:(decide ((0:Int)<=2)&&decide ((2:Int)<=((r.length+1+1:Nat):Int)))=true:=by rw[ae,ay,ay];omega
     rw[hu,ak,show(bs (a::b::r)).extract 2 (r.length+1+1)=bs r from gu (a::b::r) 2];obtain⟨t,b',e1,e2,e3⟩:=ih r (acc++[UInt8.ofNat (16*i+j)]) m (by omega) (by omega) (by omega) (by simp;omega);refine⟨t,b',e1,?_,λx hx=>?_⟩
     ·rw[e2];cases fj r<;>rfl
     ·cases hr:fj r with
      | none=>rw[hr]at hx;cases hx
      | some y=>
       rw[hr]at hx;cases hx;rw[e3 y hr];simp
theorem Ey(hn:200000<=n)(s:List UInt8)(hs:s.length<=100000):∃t b,kP.F n (bs s)=some (bs t,b)/\b=(fj s).isSome/\∀x,fj s=some x->t=x:=by
 unfold kP.F kP.e;obtain⟨t,b,e1,e2,e3⟩:=Hr (n:=n) s.length s [] n (aH _) (by omega) hs (by simp;omega);exact⟨t,b,e1,e2,λx hx=>by rw[e3 x hx];rfl⟩
end
section
variable {n:Nat}
theorem oa{α:Type}{P:α->Prop}{a b:α}(e:a=b)(h:P b):P a:=by
 subst e;exact h
theorem J5(c:UInt8):(eQ c=true->lI c=some (c.toNat - 48))/\(eQ c=false->lI c=if 65<=c.toNat/\c.toNat<=70 then some (c.toNat - 55)else none):=by
 have all:∀k:Fin 256,(eQ (UInt8.ofNat k.1)=true->lI (UInt8.ofNat k.1)=some ((UInt8.ofNat k.1).toNat - 48))/\(eQ (UInt8.ofNat k.1)=false->lI (UInt8.ofNat k.1)=if 65<=(UInt8.ofNat k.1).toNat/\(UInt8.ofNat k.1).toNat<=70 then some ((UInt8.ofNat k.1).toNat - 55)else none):=by decide +kernel
 have:=all ⟨c.toNat,c.toNat_lt⟩;simpa using this
theorem KV{c:UInt8}(h:65<=c.toNat/\c.toNat<=70):IntKind.i64.wrap (IntKind.u8.wrap (((c.toNat:Nat):Int) - 65))=((c.toNat - 65:Nat):Int):=by
 have all:∀k:Fin 256,(65<=k.1/\k.1<=70)->IntKind.i64.wrap (IntKind.u8.wrap (((k.1:Nat):Int) - 65))=((k.1 - 65:Nat):Int):=by decide +kernel
 exact all ⟨c.toNat,c.toNat_lt⟩ h
theorem ND(c:UInt8)(v:Nat)(hv:v<16){α:Type}(K:Int->Option α)(Z:Option α) :
  ((oM.F n ((c.toNat:Nat):Int)).bind λp5=>bif p5 then K (IntKind.i64.wrap (IntKind.i64.wrap ((v:Int)*16)+IntKind.i64.wrap (IntKind.u8.wrap (((c.toNat:Nat):Int) - 48))))else((jT.F n (IntKind.i64.wrap ((c.toNat:Nat):Int)) 65 70).bind λp8=>
   bif p8 then K (IntKind.i64.wrap (IntKind.i64.wrap (IntKind.i64.wrap ((v:Int)*16)+IntKind.i64.wrap (IntKind.u8.wrap (((c.toNat:Nat):Int) - 65)))+10))else Z))=match lI c with | some i=>K ((16*v+i:Nat):Int) | none=>Z:=by
 have hc:=c.toNat_lt;rw[pf,ab];obtain⟨h1,h2⟩:=J5 c;cases hd:eQ c with
 | true=>
  rw[h1 hd,ak,wV hd,jU (x:=(v:Int)*16) (by omega) (by omega),jU (by omega) (by omega)];simp only;congr 1;omega
 | false=>
  rw[h2 hd,cond_false,jU (x:=((c.toNat:Nat):Int)) (by omega) (by omega),gf,ab];by_cases h:65<=c.toNat/\c.toNat<=70
  ·rw[cU (by omega),ag h,KV h,jU (x:=(v:Int)*16) (by omega) (by omega),jU (x:=(v:Int)*16+_) (by omega) (by omega),jU (by omega) (by omega)];simp only;congr 1;omega
  ·rw[cV (by omega),af h]
theorem ZK{v:Nat}(h:v<256):IntKind.u8.wrap ((v:Nat):Int)=((UInt8.ofNat v).toNat:Int):=by
 have all:∀k:Fin 256,IntKind.u8.wrap ((k.1:Nat):Int)=((UInt8.ofNat k.1).toNat:Int):=by decide +kernel
 exact all ⟨v,h⟩
theorem Ln(s:List UInt8)(hs:s.length<=100000):∀(N i:Nat) (acc:List UInt8) (m:Nat),i<=s.length->s.length - i<=N->(s.length - i) % 2=0->5*N+5<m->acc.length<=i->∃t b,jj.l n m (.z5 (bs s) ((i:Nat):Int) (ub acc))=some (bs t,b)/\b=(fj (s.drop i)).isSome/\∀x,fj (s.drop i)=some x->t=acc++x:=by
 intro N;have lO:fe=1000000000:=rfl;have fin:∀(i:Nat) (acc:List UInt8) (m:Nat),s.length<=i->1<=m->∃t b,jj.l n m (.z5 (bs s) ((i:Nat):Int) (ub acc))=some (bs t,b)/\b=(fj (s.drop i)).isSome/\∀x,fj (s.drop i)=some x->t=acc++x:=by
  intro i acc m hi hm;obtain⟨m,rfl⟩:∃q,m=q+1:=⟨m - 1,by omega⟩;rw[jj.Ht];unfold jj.r5;simp only[cY];rw[cV (by omega),nr,aF hi];exact⟨acc,true,rfl,rfl,λx hx=>by cases hx;simp⟩
 induction N with
 | zero=>
  intro i acc m hi hN h2 hm ha;exact fin i acc m (by omega) (by omega)
 | succ N ih=>
  intro i acc m hi hN h2 hm ha;by_cases hl:s.length<=i
  ·exact fin i acc m hl (by omega)
  have GN:i<s.length:=by omega
  have QA:i+1<s.length:=by omega
  obtain⟨m,rfl⟩:∃q,m=q+4:=⟨m - 4,by omega⟩;rw[jj.Ht];unfold jj.r5;simp only[cY];rw[cU (by omega),jj.at9];unfold jj.r9;simp only[cY];rw[cU (by omega),jU (x:=((i:Nat):Int)+0) (by omega) (by omega),Int.add_zero,de GN,ak,au,getD_at GN];have Sa:=ND (n:=n) s[i] 0 (by omega) (λv=>jj.l n (m+2) (.z9 (bs s) ((i:Nat):Int) v (IntKind.i64.wrap ((0:Int)+1)) (ub acc))) (some ((⟨#[]⟩:ByteArray),false));refine oa (P:=λo=>∃t b,o=some (bs t,b)/\b=(fj (s.drop i)).isSome/\∀x,fj (s.drop i)=some x->t=acc++x) Sa ?_;rw[aC GN,aC QA];unfold fj;cases Ub:lI s[i]with
  | none=>exact⟨[],false,rfl,rfl,λx hx=>by cases hx⟩
  | some a=>
   obtain⟨a1,_⟩:=pQ Ub;simp only;rw[jj.at9];unfold jj.r9;simp only[cY];have e1:IntKind.i64.wrap ((0:Int)+1)=((1:Nat):Int):=by decide
   have e2:IntKind.i64.wrap (((i:Nat):Int)+((1:Nat):Int))=((i+1:Nat):Int):=by rw[jU (by omega) (by omega)];omega
   rw[e1,cU (by omega),e2,de QA,ak,au,getD_at QA,show((16*0+a:Nat):Int)=((a:Nat):Int) by rw[Nat.mul_zero,bO]];have NZ:=ND (n:=n) s[i+1] a a1 (λv=>jj.l n (m+1) (.z9 (bs s) ((i:Nat):Int) v (IntKind.i64.wrap (((1:Nat):Int)+1)) (ub acc))) (some ((⟨#[]⟩:ByteArray),false));refine oa (P:=λo=>∃t b,o=some (bs t,b)/\b=(match(some a:Option Nat),lI s[i+1],fj (s.drop (i+1+1))with | some x,some y,some t=>some (UInt8.ofNat (16*x+y)::t) | _,_,_=>none).isSome/\∀x,(match(some a:Option Nat),lI s[i+1],fj (s.drop (i+1+1))with | some x,some y,some t=>some (UInt8.ofNat (16*x+y)::t) | _,_,_=>none)=some x->t=acc++x) NZ ?_;cases pR:lI s[i+1]with
   | none=>exact⟨[],false,rfl,rfl,λx hx=>by cases hx⟩
   | some b=>
    obtain⟨b1,_⟩:=pQ pR;simp only;rw[jj.at9];unfold jj.r9;have e3:IntKind.i64.wrap (((1:Nat):Int)+1)=((2:Nat):Int):=by decide
    have eu:[vu (IntKind.u8.wrap ((16*a+b:Nat):Int))]=ub [UInt8.ofNat (16*a+b)]:=by
     rw[ZK (by omega)];rfl
    have e4:IntKind.i64.wrap (((i:Nat):Int)+2)=((i+2:Nat):Int):=by rw[jU (by omega) (by omega)];omega
    rw[e3,cV (by omega),eu,iW,iW,cU (by simp;omega),zF,e4];obtain⟨t,b',f1,f2,f3⟩:=ih (i+2) (acc++[UInt8.ofNat (16*a+b)]) m (by omega) (by omega) (by omega) (by omega) (by simp;omega);refine⟨t,b',f1,?_,λx hx=>?_⟩
    ·rw[f2];cases fj (s.drop (i+2))<;>rfl
    ·cases hr:fj (s.drop (i+1+1))with
     | none=>rw[hr]at hx;cases hx
     | some y=>
      rw[hr]at hx;cases hx;rw[f3 y hr];simp
theorem vp:∀s:List UInt8,s.length % 2=1->fj s=none
 | [],h=>by cases h
 | [_],_=>rfl
 | a::b::r,h=>by
  unfold fj;rw[vp r (by simp at h;omega)];cases lI a<;>cases lI b<;>rfl
theorem Il(hn:600000<=n)(s:List UInt8)(hs:s.length<=100000):∃t b,jj.F n (bs s)=some (bs t,b)/\b=(fj s).isSome/\(∀x,fj s=some x->t=x):=by
 unfold jj.F jj.e;simp only[cY];have ht:Int.tmod ((s.length:Nat):Int) 2=((s.length % 2:Nat):Int):=by
  rw[Int.tmod_eq_emod_of_nonneg (by omega)];omega
 rw[ht,eG];by_cases h:s.length % 2=0
 ·rw[ag (by omega)];obtain⟨t,b,e1,e2,e3⟩:=Ln (n:=n) s hs s.length 0 [] n (by omega) (by omega) (by omega) (by omega) (by simp);rw[aW]at e2 e3;exact⟨t,b,e1,e2,λx hx=>by rw[e3 x hx];rfl⟩
 ·rw[af (by omega),vp s (by omega)];exact⟨[],false,rfl,rfl,λx hx=>by cases hx⟩
theorem vq:∀(s x:List UInt8),fj s=some x->2*x.length=s.length:=by
 intro s x h;have:=congrArg List.length (pj s x h);rw[rV]at this;omega
end
def Ax:List UInt8:=[73,78,73,84,40]
def rQ:List UInt8->Option (List UInt8 × List UInt8)
 | []=>none
 | [c]=>if c=39 then some ([],[c])else none
 | c::d::r=>if c=39 then(if d=39 then(rQ r).map λx=>(39::x.1,x.2)else some ([],c::d::r))else(rQ (d::r)).map λx=>(c::x.1,x.2)
theorem sD(c d:UInt8)(r:List UInt8):rQ (c::d::r)=if c=39 then(if d=39 then(rQ r).map λx=>(39::x.1,x.2)else some ([],c::d::r))else(rQ (d::r)).map λx=>(c::x.1,x.2):=by
 conv=>lhs;unfold rQ
theorem Np{c:UInt8}(h:c≠39)(r:List UInt8):rQ (c::r)=(rQ r).map λx=>(c::x.1,x.2):=by
 cases r with
 | nil=>
  conv=>{ lhs;unfold rQ }
  rw[af h];rfl
 | cons d r=>rw[sD,af h]
def zT(k s:Int)(t:List UInt8):Option ((Int × List UInt8) × List UInt8):=
 (rW Ax t).bind λt1=>
  if k≠0 then(match uj (gF t1 41)with
   | some (v,c)=>if(c:Int)=s/\oA v c=gF t1 41 then(rW [41] (ia t1 41)).bind λr=>some ((v,[]),r)else none
   | none=>none)
  else if t1.head?=some 88 then(rW [88,39] t1).bind λt2=>(match fj (gF t2 39)with
   | some x=>if x.all oI=true then none else(rW [39] (ia t2 39)).bind λt3=>(rW [41] t3).bind λr=>some ((0,x),r)
   | none=>none)
  else(rW [39] t1).bind λt2=>(rQ t2).bind λq=>if q.1.all oI=true then(rW [39] q.2).bind λt3=>(rW [41] t3).bind λr=>some ((0,q.1),r)else none
section
variable {n:Nat}
def TA(t0:List UInt8)(o:Option (Int × ByteArray × ByteArray × Bool)):Prop:=∃v x t,o=some (v,bs x,bs t,true)/\t.length<=t0.length
def mW(t0:List UInt8)(o:Option (Int × ByteArray × ByteArray × Bool))(w:Option ((Int × List UInt8) × List UInt8)):Prop:=∃v x t b,o=some (v,bs x,bs t,b)/\t.length<=t0.length/\vO (v,x) t b=w
theorem FH{t0:List UInt8}{o:Option (Int × ByteArray × ByteArray × Bool)}(h:TA t0 o):mW t0 o none:=by
 obtain⟨v,x,t,e,l⟩:=h;exact⟨v,x,t,true,e,l,rfl⟩
theorem zz(hn:2<=n)(m:Nat)(t:List UInt8)(b:Bool)(v:Int)(x:List UInt8)(z3:Int)(z4:ByteArray):mW t (eV.l n (m+1) (.iD (bs t) b z3 z4 v (bs x))) ((pY t b).bind λt3=>(rW [41] t3).bind λr=>some ((v,x),r)):=by
 rw[eV.XM];unfold eV.HM;obtain⟨t1,b1,e1,l1,o1⟩:=fw hn [41] t b;rw[gQ,e1,ab];refine⟨v,x,t1,b1,rfl,l1,?_⟩;rcases im o1 with⟨g,rfl⟩|⟨g,rfl⟩
 ·cases b with
  | true=>cases g
  | false=>
   rw[eW,ab]at g ⊢;rw[g];rfl
 ·cases b with
  | true=>rfl
  | false=>
   rw[eW,ab]at g ⊢;rw[g];rfl
theorem Li(m:Nat)(t:List UInt8)(b:Bool)(v:Int)(x:List UInt8)(z3:Int)(z4:ByteArray):TA t (eV.l n (m+1) (.dO (bs t) b z3 z4 v (bs x))):=⟨v,x,t,rfl,aH _⟩
theorem sx(hn:1000002<=n)(m:Nat)(t:List UInt8)(b:Bool)(x:List UInt8)(hx:x.length<=100000)(z3:Int)(z4:ByteArray):mW t (eV.l n (m+2) (.dC (bs t) b z3 z4 0 (bs x))) ((pY t b).bind λt2=>(rW [39] t2).bind λt3=>if x.all oI=true then(rW [41] t3).bind λr=>some ((0,x),r)else none):=by
 rw[eV.xN];unfold eV.uN;obtain⟨t1,b1,e1,l1,o1⟩:=fw (show 2<=n by omega) [39] t b;rw[gQ,e1,ab];simp only;have wk:∀{o w},mW t1 o w->mW t o w:=fun⟨v,y,u,c,e,l,g⟩=>⟨v,y,u,c,e,by omega,g⟩;cases b1 with
 | true=>
  rw[ak];refine wk ?_;have h:=zz (show 2<=n by omega) m t1 true 0 x z3 z4;rw[Bs]at h;have ew:((pY t b).bind λt2=>(rW [39] t2).bind λt3=>if x.all oI=true then(rW [41] t3).bind λr=>some (((0:Int),x),r)else none)=none:=by
   cases b with
   | true=>rfl
   | false=>
    rw[eW,ab]at o1 ⊢;rw[<-o1];rfl
  rw[ew];exact h
 | false=>
  rw[cond_false,wx hn x hx,ab];refine wk ?_;have h:=zz (show 2<=n by omega) m t1 (!x.all oI) 0 x z3 z4;have ew:((pY t b).bind λt2=>(rW [39] t2).bind λt3=>if x.all oI=true then(rW [41] t3).bind λr=>some (((0:Int),x),r)else none)=((pY t1 (!x.all oI)).bind λt3=>(rW [41] t3).bind λr=>some ((0,x),r)):=by
   cases b with
   | true=>cases o1
   | false=>
    rw[eW,eW,ab]at o1;rw[eW,ab,<-o1,ab];cases x.all oI<;>rfl
  rw[ew];exact h
theorem Ib(hn:2<=n)(m:Nat)(t:List UInt8)(b:Bool)(x:List UInt8)(z4:Int)(z5:ByteArray)(z7:ByteArray):mW t (eV.l n (m+2) (.fD (bs x) (bs t) b z4 z5 0 z7)) ((pY t b).bind λt2=>(rW [39] t2).bind λt3=>(rW [41] t3).bind λr=>some ((0,x),r)):=by
 rw[eV.XN];unfold eV.yj;obtain⟨t1,b1,e1,l1,o1⟩:=fw hn [39] t b;rw[gQ,e1,ab];simp only;obtain⟨v,y,u,c,e,l,g⟩:=zz hn m t1 b1 0 x z4 z5;refine⟨v,y,u,c,e,by omega,?_⟩;rw[g,o1];cases b<;>rfl
theorem QM(hn:1000002<=n)(T:List UInt8):∀(N:Nat) (t acc:List UInt8) (m:Nat),t.length<=N->N+3<m->acc.length+N<=100000->t.length<=T.length->∀(z3:Int) (z4:ByteArray),mW T (eV.l n m (.z6 (bs t) false z3 z4 0 (bs acc))) ((rQ t).bind λq=>(rW [39] q.2).bind λt3=>if(acc++q.1).all oI=true then(rW [41] t3).bind λr=>some ((0,acc++q.1),r)else none):=by
 intro N;have wk:∀{t1:List UInt8} {o w},t1.length<=T.length->mW t1 o w->mW T o w:=λh1 ⟨v,y,u,c,e,l,g⟩=>⟨v,y,u,c,e,by omega,g⟩;induction N with
 | zero=>
  intro t acc m ht hm ha hT z3 z4;have:t=[]:=aV.1 (by omega);subst this;obtain⟨m,rfl⟩:∃q,m=q+3:=⟨m - 3,by omega⟩;rw[eV.FT];unfold eV.r6;exact wk hT (sx hn m [] true acc (by omega) z3 z4)
 | succ N ih=>
  intro t acc m ht hm ha hT z3 z4;obtain⟨m,rfl⟩:∃q,m=q+3:=⟨m - 3,by omega⟩;rw[eV.FT];unfold eV.r6;simp only[cY];rw[show(!false)=true from rfl,ak,dD]
  match t with
  | []=>
   rw[ag (by simp)];exact wk hT (sx hn m [] true acc (by omega) z3 z4)
  | c::r=>
   simp only[az]at ht hT ⊢;rw[af (by omega),cU (by omega),show(bs (c::r)).data.getD 0 0=c from rfl,show(39:Int)=((39:Nat):Int)from rfl,fV c 39 39 rfl];by_cases hc:c=39
   ·rw[decide_eq_true hc,ak]
    match r with
    | []=>
     rw[cU (by simp)];have h:=sx hn m [c] false acc (by omega) z3 z4;rw[eW,ab]at h;have e:rQ [c]=some ([],[c]):=by unfold rQ;rw[ag hc]
     rw[e,ab];simp only[bc];exact wk (by simpa using hT) h
    | d::r=>
     simp only[az]at ht hT ⊢;rw[cV (by omega),cU (by omega),show(bs (c::d::r)).data.getD 1 0=d from rfl,eG];have Sm:((d.toNat:Nat):Int)=((39:Nat):Int)↔d=39:=by
      constructor
      ·intro e;exact cz.1 (by have:(39:UInt8).toNat=39:=rfl;omega)
      ·rintro rfl;rfl
     by_cases hd:d=39
     ·rw[ag (Sm.2 hd),dX (by rw[ae,ay,ay];omega)];have e1:(bs (c::d::r)).extract 1 (r.length+1+1)=bs (d::r):=gu (c::d::r) 1;simp only[e1,cY,az];rw[dX (by rw[ae,ay,ay];omega),show(bs (d::r)).extract 0 1=bs [d]from mf (d::r) 1,cY,jh (by simp;omega),dX (by rw[ae,ay,ay];omega),show(bs (d::r)).extract 1 (r.length+1)=bs r from gu (d::r) 1,eF];have h:=ih r (acc++[d]) (m+2) (by omega) (by omega) (by simp;omega) (by omega) z3 z4;rw[sD,ag hc,ag hd];have:∀(o:Option (List UInt8 × List UInt8)),(o.bind λq=>(rW [39] q.2).bind λt3=>if((acc++[d])++q.1).all oI=true then(rW [41] t3).bind λr=>some (((0:Int),(acc++[d])++q.1),r)else none)=((o.map λx=>(39::x.1,x.2)).bind λq=>(rW [39] q.2).bind λt3=>if(acc++q.1).all oI=true then(rW [41] t3).bind λr=>some ((0,acc++q.1),r)else none):=by
       intro o;cases o with
       | none=>rfl
       | some q=>simp[hd]
      rw[<-this];exact h
     ·rw[af (λe=>hd (Sm.1 e)),sD,ag hc,af hd,ab];have h:=sx hn m (c::d::r) false acc (by omega) z3 z4;rw[eW,ab]at h;simp only[bc];exact wk (by simpa using hT) h
   ·rw[aU hc,cond_false,dX (by rw[ae,ay,ay];omega),show(bs (c::r)).extract 0 1=bs [c]from mf (c::r) 1,cY,jh (by simp;omega),dX (by rw[ae,ay,ay];omega),show(bs (c::r)).extract 1 (r.length+1)=bs r from gu (c::r) 1,eF];have h:=ih r (acc++[c]) (m+2) (by omega) (by omega) (by simp;omega) (by omega) z3 z4;rw[Np hc];have:∀(o:Option (List UInt8 × List UInt8)),(o.bind λq=>(rW [39] q.2).bind λt3=>if((acc++[c])++q.1).all oI=true then(rW [41] t3).bind λr=>some (((0:Int),(acc++[c])++q.1),r)else none)=((o.map λx=>(c::x.1,x.2)).bind λq=>(rW [39] q.2).bind λt3=>if(acc++q.1).all oI=true then(rW [41] t3).bind λr=>some ((0,acc++q.1),r)else none):=by
     intro o;cases o with
     | none=>rfl
     | some q=>simp
    rw[<-this];exact h
end
section
variable {n:Nat}
theorem vg(hn:1000002<=n)(k l s:Int)(t:List UInt8)(ht:t.length<=20000)(b:Bool):mW t (eV.F n k l s (bs t) b) ((pY t b).bind (zT k s)):=by
 obtain⟨m,rfl⟩:∃m,n=m+2:=⟨n - 2,by omega⟩;have wk:∀{t1:List UInt8} {o w},t1.length<=t.length->mW t1 o w->mW t o w:=λh1 ⟨v,y,u,c,e,l,g⟩=>⟨v,y,u,c,e,by omega,g⟩;unfold eV.F eV.e;rw[show(⟨#[73,78,73,84,40]⟩:ByteArray)=bs Ax from rfl,gQ,gQ];obtain⟨t1,b1,e1,l1,o1⟩:=fw (show 2<=m+2 by omega) Ax t b;rw[e1,ab];simp only;cases b1 with
 | true=>
  rw[ak];have:(pY t b).bind (zT k s)=none:=by
   cases b with
   | true=>rfl
   | false=>
    rw[eW,ab]at o1 ⊢;unfold zT;rw[<-o1];rfl
  rw[this];exact wk l1 (FH ⟨0,[],t1,rfl,aH _⟩)
 | false=>
  rw[cond_false];have hb:b=false:=by
   cases b with
   | true=>cases o1
   | false=>rfl
  subst hb;rw[eW,eW,ab]at o1;rw[eW,ab];unfold zT;rw[<-o1,ab,eG];by_cases hk:k=0
  ·rw[ag hk,af (λh=>h hk)];simp only[cY]
   match ht1:t1 with
   | []=>
    rw[cV (by simp)];obtain⟨t2,b2,e2,l2,o2⟩:=fw (show 2<=m+2 by omega) [39] [] false;rw[e2,ab,af (by simp)];have hr:rW [39] []=none:=rfl;rw[eW,ab,hr]at o2;rw[hr,aB];obtain rfl:=eR o2;have h:=sx hn (m - 1) t2 true [] (by simp) 0 (bs []);rw[Bs,aB,show m - 1+2=m+1 by omega]at h;have h6:eV.l (m+2) (m+2) (.z6 (bs t2) true 0 (⟨#[]⟩:ByteArray) 0 (⟨#[]⟩:ByteArray))=eV.l (m+2) (m+1) (.dC (bs t2) true 0 (bs []) 0 (bs [])):=rfl;have l2' : t2.length<=0:=l2;simp only;rw[h6];exact wk (by omega) h
   | c::r=>
    simp only[az]at l1 ⊢;rw[cU (by omega),cU (by omega),show(bs (c::r)).data.getD 0 0=c from rfl,show(88:Int)=((88:Nat):Int)from rfl,fV c 88 88 rfl];by_cases hc:c=88
    ·rw[decide_eq_true hc,ak,ag (by rw[hc];rfl)];obtain⟨t2,b2,e2,l2,o2⟩:=fw (show 2<=m+2 by omega) [88,39] (c::r) false;rw[show(⟨#[88,39]⟩:ByteArray)=bs [88,39]from rfl,e2,ab];simp only;simp only[az]at l2;rw[iP (by omega) t2 (by omega) 39 b2,ab];simp only;have hu:=ES t2 39;have hr:=jv t2 39;obtain⟨x,ok,f1,f2,f3⟩:=Il (n:=m+2) (by omega) (gF t2 39) (by omega);rw[f1,ab];simp only;rw[eW,ab]at o2;have bad:∀y:List UInt8,mW t (eV.l (m+2) (m+2) (.fD (bs y) (bs (ia t2 39)) true 0 (⟨#[]⟩:ByteArray) 0 (⟨#[]⟩:ByteArray))) none:=λy=>wk (by omega) (Ib (by omega) m (ia t2 39) true y 0 _ _);rcases im o2 with⟨g,rfl⟩|⟨g,rfl⟩
     ·rw[g,ab,cond_false];cases hx:fj (gF t2 39)with
      | none=>
       rw[hx]at f2;subst f2;exact bad x
      | some y=>
       rw[hx]at f2;subst f2;obtain rfl:=f3 y hx;have hyl:=vq _ _ hx;rw[show(Option.isSome (some x))=true from rfl,aI,cond_false,wx hn x (by omega),ab];dsimp only;cases hp:x.all oI with
       | true=>
        rw[ag rfl];exact bad x
       | false=>
        rw[af (by simp)];exact wk (by omega) (Ib (by omega) m (ia t2 39) false x 0 _ _)
     ·rw[g,aB,ak];exact bad x
    ·rw[aU hc,cond_false,af (by simpa using hc)];obtain⟨t2,b2,e2,l2,o2⟩:=fw (show 2<=m+2 by omega) [39] (c::r) false;rw[e2,ab];simp only;rw[eW,ab]at o2;simp only[az]at l2;rcases im o2 with⟨g,rfl⟩|⟨g,rfl⟩
     ·rw[g,ab];have h:=QM hn t2 t2.length t2 [] (m+2) (aH _) (by omega) (by simp;omega) (aH _) 0 (bs []);have:∀(o:Option (List UInt8 × List UInt8)),(o.bind λq=>(rW [39] q.2).bind λt3=>if([]++q.1).all oI=true then(rW [41] t3).bind λr=>some (((0:Int),[]++q.1),r)else none)=(o.bind λq=>if q.1.all oI=true then(rW [39] q.2).bind λt3=>(rW [41] t3).bind λr=>some ((0,q.1),r)else none):=by
       intro o;cases o with
       | none=>rfl
       | some q=>
        simp only[ab,bF];cases q.1.all oI with
        | true=>rfl
        | false=>
         cases rW [39] q.2<;>rfl
      rw[<-this];exact wk (by omega) h
     ·rw[g,aB];have h:=sx hn (m - 1) t2 true [] (by simp) 0 (bs []);rw[Bs,aB,show m - 1+2=m+1 by omega]at h;have h6:eV.l (m+2) (m+2) (.z6 (bs t2) true 0 (⟨#[]⟩:ByteArray) 0 (⟨#[]⟩:ByteArray))=eV.l (m+2) (m+1) (.dC (bs t2) true 0 (bs []) 0 (bs [])):=rfl;rw[h6];exact wk (by omega) h
  ·rw[af hk,ag hk];have hu:=ES t1 41;have hr:=jv t1 41;rw[iP (by omega) t1 (by omega) 41 false,ab];simp only;obtain⟨x,x1,x2⟩:=BD (n:=m+2) (by omega) (gF t1 41) (by omega);rw[x1,ab,eG];have bad:mW t (eV.l (m+2) (m+2) (.dO (bs (ia t1 41)) false 0 (⟨#[]⟩:ByteArray) 0 (⟨#[]⟩:ByteArray))) none:=wk (by omega) (FH (Li (m+1) (ia t1 41) false 0 [] 0 _));cases hg:uj (gF t1 41)with
   | none=>
    rw[hg]at x2;rw[af x2];exact bad
   | some p=>
    obtain⟨v,c⟩:=p;rw[hg]at x2;subst x2;simp only;obtain⟨hv,hc⟩:=qD hg;rw[ag trivial,cY,eG,ag rfl,eG];by_cases hs:(c:Int)=s
    ·rw[ag hs,It (by omega) hv (by omega) (by omega),ab,au,dK];by_cases he:oA v c=gF t1 41
     ·rw[decide_eq_true he,aI,cond_false,ag ⟨hs,he⟩];have h:=zz (n:=m+2) (by omega) (m+1) (ia t1 41) false v [] 0 (⟨#[]⟩:ByteArray);rw[eW,ab]at h;exact wk (by omega) h
     ·rw[aU he,aM,ak,af (λh=>he h.2)];exact bad
    ·rw[af hs,af (λh=>hs h.1)];exact bad
end
def oH(k s vn:Int)(vx:List UInt8):Prop:=if k=0 then vn=0 else vx=[]/\vn.natAbs<10 ^ 15/\0<=s/\s<=15
theorem DE:∀(x r:List UInt8) (c:UInt8),c≠39->rQ (tZ x++39::c::r)=some (x,39::c::r)
 | [],r,c,h=>by
  show rQ (39::c::r)=_;rw[sD,ag rfl,af h]
 | d::x,r,c,h=>by
  rw[jo];by_cases hd:d=39
  ·rw[ag hd];show rQ (39::39::(tZ x++39::c::r))=_;rw[sD,ag rfl,ag rfl,DE x r c h,hd];rfl
  ·rw[af hd];show rQ (d::(tZ x++39::c::r))=_;rw[Np hd,DE x r c h];rfl
theorem zU:∀(N:Nat) (t:List UInt8) (q:List UInt8 × List UInt8),t.length<=N->rQ t=some q->t=tZ q.1++q.2
 | _,[],q,_,h=>by cases h
 | _,[c],q,_,h=>by
  unfold rQ at h;split at h
  ·cases h;rfl
  ·cases h
 | 0,c::d::r,q,hl,h=>by simp at hl
 | N+1,c::d::r,q,hl,h=>by
  rw[sD]at h;split at h
  ·rename_i hc;split at h
   ·rename_i hd;cases hq:rQ r with
    | none=>rw[hq]at h;cases h
    | some p=>
     rw[hq]at h;cases h;have:=zU N r p (by simp at hl;omega) hq;simp only[jo,ag];rw[hc,hd];show _=39::39::(tZ p.1++p.2);rw[<-this]
   ·cases h;rfl
  ·rename_i hc;cases hq:rQ (d::r)with
   | none=>rw[hq]at h;cases h
   | some p=>
    rw[hq]at h;cases h;have:=zU N (d::r) p (by simp at hl ⊢;omega) hq;simp only[jo,af hc];show _=c::(tZ p.1++p.2);rw[<-this]
theorem Mq(x:List UInt8):(oC x).contains 39=false:=by
 have all:∀k:Fin 256,(La (UInt8.ofNat k.1)).contains 39=false:=by decide +kernel
 induction x with
 | nil=>rfl
 | cons c x ih=>
  have h:=all ⟨c.toNat,c.toNat_lt⟩;simp only[UInt8.ofNat_toNat]at h;rw[mv,<-a_]at *;intro hh;rw[bT,ay,aS]at hh;rcases hh with hh|hh
  ·exact h (by rw[bT,ay];exact hh)
  ·exact ih (by rw[bT,ay];exact hh)
theorem Fe{v:Int}{k:Nat}(hv:v.natAbs<10 ^ 15)(hk:k<=15){c:UInt8}(h1:eQ c=false)(h2:c≠46)(h3:c≠45):(oA v k).contains c=false:=by
 have ha:=A8 v.natAbs k;have ht:∀(i:Nat),c ∉ (fQ v.natAbs k).take i:=by
  intro i hm;have:=aA.1 ha c (aX hm);rw[h1]at this;cases this
 have hd:∀(i:Nat),c ∉ (fQ v.natAbs k).drop i:=by
  intro i hm;have:=aA.1 ha c (bg hm);rw[h1]at this;cases this
 rw[<-a_];intro hh;rw[bT,ay]at hh;unfold oA C_ at hh;rw[aS]at hh;rcases hh with hh|hh
 ·split at hh
  ·rw[bG]at hh;exact h3 hh
  ·cases hh
 ·split at hh
  ·rw[aS,aS]at hh;rcases hh with(hh|hh)|hh
   ·exact ht _ hh
   ·rw[bG]at hh;exact h2 hh
   ·exact hd _ hh
  ·exact ht (fQ v.natAbs k).length (by simpa using hh)
theorem OE{k s vn:Int}{vx:List UInt8}(hd:oH k s vn vx)(r:List UInt8):zT k s (Ax++(lj k s vn vx++41::r))=some ((vn,vx),r):=by
 unfold zT oH at *;rw[j0,ab];unfold lj;by_cases hk:k=0
 ·rw[ag hk]at hd;rw[af (λh=>h hk),ag hk];subst hd;cases hp:vx.all oI with
  | true=>
   rw[ag rfl];have e:qd vx++41::r=39::(tZ vx++39::41::r):=by unfold qd;simp
   rw[e,af (by simp),show rW [39] (39::(tZ vx++39::41::r))=some (tZ vx++39::41::r)from j0 [39] _,ab,DE vx r 41 (by decide),ab];simp only;rw[ag hp,show rW [39] (39::41::r)=some (41::r)from j0 [39] _,ab,show rW [41] (41::r)=some r from j0 [41] _,ab]
  | false=>
   rw[af (show ¬ (false=true) by decide)];have e:[88,39]++oC vx++[39]++41::r=[88,39]++(oC vx++39::41::r):=by simp
   obtain⟨u1,u2⟩:=jB (Mq vx) (41::r);rw[e,ag (by rfl),j0,ab,u1,u2,oQ];simp only;rw[af (by rw[hp];simp),show rW [39] (39::41::r)=some (41::r)from j0 [39] _,ab,show rW [41] (41::r)=some r from j0 [41] _,ab]
 ·rw[af hk]at hd;obtain⟨rfl,h1,h2,h3⟩:=hd;obtain⟨c,rfl⟩:∃c:Nat,s=c:=⟨s.toNat,by omega⟩;rw[ag hk,af hk,au];obtain⟨u1,u2⟩:=jB (Fe (k:=c) h1 (by omega) (show eQ 41=false by decide) (by decide) (by decide)) r;rw[u1,u2,sM h1 (by omega)];simp only;rw[ag ⟨trivial,trivial⟩,show rW [41] (41::r)=some r from j0 [41] _,ab]
theorem KY{k s vn:Int}{vx t r:List UInt8}(h:zT k s t=some ((vn,vx),r)):oH k s vn vx/\t=Ax++(lj k s vn vx++41::r):=by
 unfold zT at h;rw[aL]at h;obtain⟨t1,g1,h⟩:=h;rw[jf g1];unfold oH lj;by_cases hk:k=0
 ·rw[af (λh=>h hk)]at h;rw[ag hk,ag hk];split at h
  ·rw[aL]at h;obtain⟨t2,g2,h⟩:=h;rw[jf g2];have e2:=oR t2 39;cases hu:fj (gF t2 39)with
   | none=>rw[hu]at h;cases h
   | some x=>
    rw[hu]at h;simp only at h;split at h
    ·cases h
    rename_i hp;rw[aL]at h;obtain⟨t3,g3,h⟩:=h;rw[aL]at h;obtain⟨t4,g4,h⟩:=h;cases h;refine⟨rfl,?_⟩;rw[af hp,e2,jf g3,jf g4,pj _ _ hu];simp
  ·rw[aL]at h;obtain⟨t2,g2,h⟩:=h;rw[jf g2];rw[aL]at h;obtain⟨q,gq,h⟩:=h;split at h
   ·rename_i hp;rw[aL]at h;obtain⟨t3,g3,h⟩:=h;rw[aL]at h;obtain⟨t4,g4,h⟩:=h;cases h;refine⟨rfl,?_⟩;rw[ag hp,zU t2.length t2 q (aH _) gq,jf g3,jf g4];unfold qd;simp
   ·cases h
 ·rw[ag hk]at h;rw[af hk,af hk];cases hg:uj (gF t1 41)with
  | none=>rw[hg]at h;cases h
  | some p=>
   obtain⟨v,c⟩:=p;rw[hg]at h;simp only at h;split at h
   ·rename_i hc;rw[aL]at h;obtain⟨t4,g4,h⟩:=h;cases h;obtain⟨hv,aam⟩:=qD hg;refine⟨⟨rfl,hv,by omega,by omega⟩,?_⟩;have e:=oR t1 41;rw[<-hc.1,au,hc.2]
    conv=>lhs;rw[e,jf g4]
    rfl
   ·cases h
def NM(t:List UInt8):Option (List UInt8):=if t.length<2 then none else if t.getD 0 0=39/\t.getD (t.length - 1) 0=39 then some ((t.drop 1).take (t.length - 1 - 1))else none
theorem uZ(x:List UInt8):NM (39::(x++[39]))=some x:=by
 unfold NM;have hl:(39::(x++[39])).length=x.length+2:=by simp
 rw[hl,af (by omega),ag]
 ·congr 1;have:x.length+2 - 1 - 1=x.length:=by omega
  rw[this];show(x++[39]).take x.length=x;rw[cK]
 ·refine⟨rfl,?_⟩;have:x.length+2 - 1=x.length+1:=by omega
  rw[this];simp[ah]
theorem vr:∀(N:Nat) (s:List UInt8),s.length<=N->(nq s).length<=s.length
 | _,[],_=>aH _
 | _,[c],_=>aH _
 | 0,c::d::r,h=>by simp at h
 | N+1,c::d::r,h=>by
  rw[np];split
  ·have:=vr N r (by simp at h;omega);simp;omega
  ·have:=vr N (d::r) (by simp at h ⊢;omega);simp at this ⊢;omega
section
variable {n:Nat}
theorem Ui(d:UInt8):((d.toNat:Nat):Int)=39↔d=39:=by
 constructor
 ·intro e;exact cz.1 (by have:(39:UInt8).toNat=39:=rfl;omega)
 ·rintro rfl;rfl
theorem CA{l:List UInt8}{i:Nat}(hi:i<l.length):l.getD i 0=l[i]:=by simp[ah,hi]
theorem Be(hn:200000<=n){k l s:Int}(hk:k≠0)(t:List UInt8)(ht:t.length<=20000):∃vn vx ok,iE.F n k l s (bs t)=some (vn,bs vx,ok)/\(ok=true->oH k s vn vx/\vx.length<=t.length)/\∀ve pW,oH k s ve pW->t=lj k s ve pW->ok=true/\vn=ve/\vx=pW:=by
 unfold iE.F iE.e oH lj;rw[eG,af hk];obtain⟨x,x1,x2⟩:=Gh (n:=n) hn t (by omega);rw[x1,ab,dD];cases hg:uj t with
 | none=>
  rw[hg]at x2;rw[af x2];refine⟨x.1,[],false,rfl,λh=>(by cases h),λve pW hd he=>?_⟩;rw[af hk]at hd he;obtain⟨rfl,h1,h2,h3⟩:=hd;rw[he,sM h1 (by omega)]at hg;cases hg
 | some p=>
  obtain⟨v,c⟩:=p;rw[hg]at x2;subst x2;obtain⟨hv,hc⟩:=qD hg;rw[ag rfl];refine⟨v,[],((c:Int)==s),rfl,λh=>?_,λve pW hd he=>?_⟩
  ·rw[beq_iff_eq]at h;rw[af hk];exact⟨⟨rfl,hv,by omega,by omega⟩,by simp⟩
  ·rw[af hk]at hd he;obtain⟨rfl,h1,h2,h3⟩:=hd;rw[he,sM h1 (by omega)]at hg;cases hg;exact⟨by rw[beq_iff_eq];omega,rfl,rfl⟩
theorem RL{α:Type}(t:List UInt8)(ht:t.length<=20000)(Z:Option α)(K:ByteArray->Option α) :
  (let y4:Bool:=decide ((((bs t).size:Nat):Int)<2)
 bif y4 then Z else(bif decide ((0:Int)<((bs t).size:Nat))then(let y5:Int:=((((bs t).data.getD 0 0).toNat:Nat):Int)
 bif y5 != 39 then Z else(let y6:Int:=IntKind.i64.wrap ((((bs t).size:Nat):Int) - 1)
 bif decide ((0:Int)<=y6)&&decide (y6<(((bs t).size:Nat):Int))then(let y7:Int:=((((bs t).data.getD ((y6).toNat) 0).toNat:Nat):Int)
 bif y7 != 39 then Z else(let y8:Int:=IntKind.i64.wrap ((((bs t).size:Nat):Int) - 1)
 bif decide ((0:Int)<=y8)&&decide ((y8:Int)<=(((bs t).size:Nat):Int))then(bif decide ((0:Int)<=1)&&decide ((1:Int)<=y8)then K ((bs t).extract 1 (y8).toNat)else none)else none))else none))else none))=match NM t with | some u=>K (bs u) | none=>Z:=by
 simp only[cY];unfold NM;by_cases h2:t.length<2
 ·rw[cU (by omega),ag h2]
 ·rw[cV (by omega),cU (by omega),af h2,getD_at (show 0<t.length by omega),eG];have e:IntKind.i64.wrap (((t.length:Nat):Int) - 1)=((t.length - 1:Nat):Int):=by rw[jU (by omega) (by omega)];omega
  simp only[e,au];rw[CA (show 0<t.length by omega),CA (show t.length - 1<t.length by omega)];by_cases ha:t[0]=39
  ·rw[ag ((Ui _).2 ha),dX (by rw[ae,ay,ay];omega),getD_at (show t.length - 1<t.length by omega),eG];by_cases hb:t[t.length - 1]=39
   ·rw[ag ((Ui _).2 hb),dX (by rw[ae,ay,ay];omega),dX (by rw[ae,ay,ay];omega),ag ⟨ha,hb⟩];simp only;rw[od]
   ·rw[af (λh=>hb ((Ui _).1 h)),af (λh=>hb h.2)]
  ·rw[af (λh=>ha ((Ui _).1 h)),af (λh=>ha h.1)]
theorem Ft{t u:List UInt8}(h:NM t=some u):u.length<=t.length:=by
 unfold NM at h;split at h
 ·cases h
 ·split at h
  ·cases h;rw[bd,aQ];omega
  ·cases h
theorem Bd(hn:200000<=n){l s:Int}(t:List UInt8)(ht:t.length<=20000):∃vn vx ok,iE.F n 0 l s (bs t)=some (vn,bs vx,ok)/\(ok=true->oH 0 s vn vx/\vx.length<=t.length)/\∀ve pW,oH 0 s ve pW->t=lj 0 s ve pW->ok=true/\vn=ve/\vx=pW:=by
 obtain⟨m,rfl⟩:∃m,n=m+1:=⟨n - 1,by omega⟩;unfold iE.F iE.e oH lj;rw[eG,ag rfl,show(⟨#[88]⟩:ByteArray)=bs [88]from rfl,AD,ab,Ls,ab];have hz:iE.l (m+1) (m+1) (.z7 0 (⟨#[]⟩:ByteArray))=some (0,(⟨#[]⟩:ByteArray),false):=rfl;rw[hz];have hl:(if t.take ([88]:List UInt8).length=[88]then t.drop ([88]:List UInt8).length else t).length<=t.length:=by
  split
  ·rw[aQ];omega
  ·exact aH _
 generalize hT:(if t.take ([88]:List UInt8).length=[88]then t.drop ([88]:List UInt8).length else t)=T at hl ⊢;refine oa (P:=λq=>∃vn vx ok,q=some (vn,bs vx,ok)/\(ok=true->(if(0:Int)=0 then vn=0 else vx=[]/\vn.natAbs<10 ^ 15/\0<=s/\s<=15)/\vx.length<=t.length)/\∀ve pW,(if(0:Int)=0 then ve=0 else pW=[]/\ve.natAbs<10 ^ 15/\0<=s/\s<=15)->t=(if(0:Int)=0 then(if pW.all oI=true then qd pW else[88,39]++oC pW++[39])else oA ve s.toNat)->ok=true/\vn=ve/\vx=pW) (RL T (by omega) (some ((0:Int),(⟨#[]⟩:ByteArray),false)) (λb=>bif decide (t.take ([88]:List UInt8).length=[88])then((kP.F (m+1) b).bind λp9=>some ((0:Int),p9.1,p9.2))else((zu.F (m+1) b (⟨#[39,39]⟩:ByteArray) (⟨#[39]⟩:ByteArray)).bind λku=>some (0,ku,true)))) ?_;by_cases hx:t.take ([88]:List UInt8).length=[88]
 ·rw[ag hx]at hT;subst hT;cases hq:NM (t.drop ([88]:List UInt8).length)with
  | none=>
   refine⟨0,[],false,rfl,λh=>(by cases h),λve pW hd he=>?_⟩;rw[ag rfl]at he;split at he
   ·unfold qd at he;rw[he]at hx;revert hx;simp
   ·rw[he]at hq;have:([88,39]++oC pW++[39]).drop ([88]:List UInt8).length=39::(oC pW++[39]):=by simp
    rw[this,uZ]at hq;cases hq
  | some u=>
   have hu:=Ft hq;simp only;rw[cU hx];obtain⟨x,b,e1,e2,e3⟩:=Ey (n:=m+1) (by omega) u (by omega);rw[e1,ab];refine⟨0,x,b,rfl,λh=>?_,λve pW hd he=>?_⟩
   ·rw[e2,Option.isSome_iff_exists]at h;obtain⟨y,hy⟩:=h;obtain rfl:=e3 y hy;have:=vq _ _ hy;exact⟨by simp,by omega⟩
   ·rw[ag (show(True:Prop)from trivial)]at he hd;split at he
    ·unfold qd at he;rw[he]at hx;revert hx;simp
    ·rw[he]at hq;have:([88,39]++oC pW++[39]).drop ([88]:List UInt8).length=39::(oC pW++[39]):=by simp
     rw[this,uZ]at hq;cases hq;rw[oQ]at e2 e3;exact⟨e2,hd.symm,e3 _ rfl⟩
 ·rw[af hx]at hT;subst hT;cases hq:NM t with
  | none=>
   refine⟨0,[],false,rfl,λh=>(by cases h),λve pW hd he=>?_⟩;rw[ag rfl]at he;split at he
   ·rw[he]at hq;have:qd pW=39::(tZ pW++[39]):=by unfold qd;simp
    rw[this,uZ]at hq;cases hq
   ·exact absurd (by rw[he];rfl) hx
  | some u=>
   have hu:=Ft hq;simp only;rw[cV hx,show(⟨#[39,39]⟩:ByteArray)=bs [39,39]from rfl,gQ,Bj u (by omega),ab];refine⟨0,nq u,true,rfl,λh=>?_,λve pW hd he=>?_⟩
   ·have:=vr u.length u (aH _);exact⟨by simp,by omega⟩
   ·rw[ag (show(True:Prop)from trivial)]at he hd;split at he
    ·rw[he]at hq;have:qd pW=39::(tZ pW++[39]):=by unfold qd;simp
     rw[this,uZ]at hq;cases hq;exact⟨rfl,hd.symm,vt pW⟩
    ·exact absurd (by rw[he];rfl) hx
theorem vh(hn:200000<=n)(k l s:Int)(t:List UInt8)(ht:t.length<=20000):∃vn vx ok,iE.F n k l s (bs t)=some (vn,bs vx,ok)/\(ok=true->oH k s vn vx/\vx.length<=t.length)/\∀ve pW,oH k s ve pW->t=lj k s ve pW->ok=true/\vn=ve/\vx=pW:=by
 by_cases hk:k=0
 ·subst hk;exact Bd hn t ht
 ·exact Be hn hk t ht
end
inductive HE(o:OP):Prop
 | IF (hk:o.kd=0\/o.kd=4) (nm:gD o.nm=true) (ty:GT o.k o.l o.s) (v:oH o.k o.s o.vn o.vx) (ba:o.ba=[]) (of:o.of=0) (tg:o.tg=0)
 | K7 (hk:o.kd=1\/o.kd=2) (nm:gD o.nm=true) (ty:GT o.k o.l o.s) (vn:o.vn=0) (vx:o.vx=[]) (ba:gD o.ba=true) (of:0<=o.of/\o.of<1000000000000000) (tg:o.tg=0)
 | ptr (hk:o.kd=3) (nm:gD o.nm=true) (k:o.k=0) (l:o.l=0) (s:o.s=0) (vn:o.vn=0) (vx:o.vx=[]) (ba:o.ba=[]) (of:o.of=0) (tg:o.tg=0)
 | Ma (hk:o.kd=5) (nm:gD o.nm=true) (k:o.k=0) (l:o.l=0) (s:o.s=0) (vn:o.vn=0) (vx:o.vx=[]) (ba:o.ba=[]) (of:o.of=0) (tg:0<=o.tg/\o.tg<1000000000000000)
theorem HE.name{o:OP}(h:HE o):gD o.nm=true:=by cases h<;>assumption
theorem iv{l:List UInt8}(h:gD l=true):1<=l.length/\l.length<=10:=by
 unfold gD at h;rw[ae,ae,ay,ay]at h;exact h.1
theorem FN{k s vn:Int}{vx:List UInt8}(h:oH k s vn vx):k=0\/(vn.natAbs<10 ^ 15/\0<=s/\s<=15):=by
 unfold oH at h;split at h
 ·rename_i h0;exact .inl h0
 ·exact .inr ⟨h.2.1,h.2.2.1,h.2.2.2⟩
section
variable {n:Nat}
theorem Lm(hn:1000002<=n){k l s vn:Int}{vx:List UInt8}(hx:vx.length<=20000)(hk:k=0\/(vn.natAbs<10 ^ 15/\0<=s/\s<=15)):kJ.F n k l s vn (bs vx)=some (bs (lj k s vn vx)):=by
 unfold kJ.F kJ.e lj;rw[eG];by_cases h0:k=0
 ·rw[ag h0,ag h0,D6 hn vx (by omega),ab];cases hc:vx.all oI with
  | true=>
   rw[ak,ag rfl,gQ,wj,xu vx (by omega),ab];have:=AT vx;rw[jh (by rw[cY];omega),eF,jh (by rw[cY,ai,bN];omega)];simp only[eF];rfl
  | false=>
   rw[cond_false,af (by simp)];simp only[ki];have:=J7 (n:=n) vx (by omega) vx.length 0 n [88,39] (by omega) (by omega) rfl;rw[aW]at this;rw[<-this];show kJ.l n n (.z8 (((ub vx).length:Nat):Int) 0 [vu 88,vu 39] (ub vx))=_;rw[iW];rfl
 ·rw[af h0,af h0];have hk:=hk.resolve_left h0;rw[uv (by omega) hk.1 hk.2.1 hk.2.2];rfl
theorem Ik{k s vn:Int}{vx:List UInt8}(hx:vx.length<=20000)(hk:k=0\/(vn.natAbs<10 ^ 15/\0<=s/\s<=15)):(lj k s vn vx).length<=50000:=by
 unfold lj;by_cases h0:k=0
 ·rw[ag h0];have h1:=AT vx;have h2:=rV vx;split
  ·unfold qd;simp;omega
  ·simp[h2];omega
 ·rw[af h0];have hk:=hk.resolve_left h0;have:=BQ hk.1 (show s.toNat<=15 by omega);omega
theorem my{k l s:Int}(h:GT k l s):(iz k l s).length<=60:=by
 obtain⟨hk,hl,hs,h0⟩:=h;have h1:=gH l (by omega) (by omega);unfold iz;have h2:(qV k).length<=6:=by unfold qV;(repeat' split)<;>simp
 by_cases h0:k=0
 ·rw[ag h0];simp;omega
 ·have h3:=gH s (by omega) (by omega);rw[af h0];simp;omega
theorem EW{k l s:Int}(h:GT k l s):hH.F n k l s=some (bs (iz k l s)):=by
 obtain⟨hk,hl,hs,h0⟩:=h;have h1:=gH l (by omega) (by omega);have i1:=nx (n:=n) l (by omega) (by omega);have h3:=gH s (by omega) (by omega);have i3:=nx (n:=n) s (by omega) (by omega);unfold hH.F hH.e iz;rcases hk with rfl|hk
 ·rw[dX (by rfl),show AF.getD (0:Int).toNat AV.undef=vs (bs [67,72,65,82])from rfl];simp(disch:=omega)only[ab,aB,ak,cond_false,aI,aM,aj,dq,cY,de,ec,dY,au,dR,dV,dA,dZ,cZ,dh,dn,dz,dx,cU,cV,i1,gQ,jh,eF,ai,az,aJ];simp[qV]
 ·rcases hk with rfl|rfl|rfl
  ·rw[dX (by rfl),show AF.getD (1:Int).toNat AV.undef=vs (bs [80,65,67,75,69,68])from rfl];simp(disch:=omega)only[ab,aB,ak,cond_false,aI,aM,aj,dq,cY,de,ec,dY,au,dR,dV,dA,dZ,cZ,dh,dn,dz,dx,cU,cV,i1,i3,gQ,jh,eF,ai,az,aJ];simp[qV]
  ·rw[dX (by rfl),show AF.getD (2:Int).toNat AV.undef=vs (bs [90,79,78,69,68])from rfl];simp(disch:=omega)only[ab,aB,ak,cond_false,aI,aM,aj,dq,cY,de,ec,dY,au,dR,dV,dA,dZ,cZ,dh,dn,dz,dx,cU,cV,i1,i3,gQ,jh,eF,ai,az,aJ];simp[qV]
  ·rw[dX (by rfl),show AF.getD (3:Int).toNat AV.undef=vs (bs [66,73,78,65,82,89])from rfl];simp(disch:=omega)only[ab,aB,ak,cond_false,aI,aM,aj,dq,cY,de,ec,dY,au,dR,dV,dA,dZ,cZ,dh,dn,dz,dx,cU,cV,i1,i3,gQ,jh,eF,ai,az,aJ];simp[qV]
theorem Fa(hn:1000002<=n)(o:OP)(h:HE o)(yM:o.vx.length<=20000) :
  sr.F n (bs o.nm) o.kd o.k o.l o.s o.vn (bs o.vx) (bs o.ba) o.of o.tg=some (bs (LZ o)):=by
 have kL:=iv h.name;unfold sr.F sr.e LZ;simp only[dD];cases h with
 | IF hk nm ty v ba of tg=>
  have hv:=FN v;have t1:=EW (n:=n) ty;have t3:=my ty;have v1:=Lm (l:=o.l) hn yM hv;have v3:=Ik yM hv;rcases hk with hk|hk
  ·rw[ag hk,ag hk];simp(disch:=omega)only[ab,aB,ak,cond_false,aI,aM,aj,dq,cY,de,ec,dY,au,dR,dV,dA,dZ,cZ,dh,dn,dz,dx,cU,cV,t1,v1,gQ,L7,OZ,jh,eF,ai,az,aJ]
  ·have n0:¬ o.kd=0:=by omega
   have n1:¬ o.kd=1:=by omega
   have n2:¬ o.kd=2:=by omega
   have n3:¬ o.kd=3:=by omega
   simp only[n0,n1,n2,n3,hk,ck,if_false];simp(disch:=omega)only[ab,aB,ak,cond_false,aI,aM,aj,dq,cY,de,ec,dY,au,dR,dV,dA,dZ,cZ,dh,dn,dz,dx,cU,cV,t1,v1,gQ,OY,OZ,jh,eF,ai,az,aJ];simp
 | K7 hk nm ty vn vx ba of tg=>
  have t1:=EW (n:=n) ty;have t3:=my ty;have sw:=iv ba;have i1:=nx (n:=n) o.of (by omega) (by omega);have i3:=gH o.of (by omega) (by omega);have n0:¬ o.kd=0:=by omega
  rcases hk with hk|hk
  ·simp only[n0,hk,ck,if_false];simp(disch:=omega)only[ab,aB,ak,cond_false,aI,aM,aj,dq,cY,de,ec,dY,au,dR,dV,dA,dZ,cZ,dh,dn,dz,dx,cU,cV,t1,i1,gQ,L7,xA,jh,eF,ai,az,aJ];simp
  ·have n1:¬ o.kd=1:=by omega
   simp only[n0,n1,hk,ck,if_false];simp(disch:=omega)only[ab,aB,ak,cond_false,aI,aM,aj,dq,cY,de,ec,dY,au,dR,dV,dA,dZ,cZ,dh,dn,dz,dx,cU,cV,t1,i1,gQ,L7,xA,jh,eF,ai,az,aJ];simp
 | ptr hk nm k l s vn vx ba of tg=>
  have n0:¬ o.kd=0:=by omega
  have n1:¬ o.kd=1:=by omega
  have n2:¬ o.kd=2:=by omega
  simp only[n0,n1,n2,hk,ck,if_false];simp(disch:=omega)only[ab,aB,ak,cond_false,aI,aM,aj,dq,cY,de,ec,dY,au,dR,dV,dA,dZ,cZ,dh,dn,dz,dx,cU,cV,OY,jh,eF,ai,az,aJ]
  try simp
 | Ma hk nm k l s vn vx ba of tg=>
  have i1:=nx (n:=n) o.tg (by omega) (by omega);have i3:=gH o.tg (by omega) (by omega);have n0:¬ o.kd=0:=by omega
  have n1:¬ o.kd=1:=by omega
  have n2:¬ o.kd=2:=by omega
  have n3:¬ o.kd=3:=by omega
  have n4:¬ o.kd=4:=by omega
  simp only[n0,n1,n2,n3,n4,if_false];simp(disch:=omega)only[ab,aB,ak,cond_false,aI,aM,aj,dq,cY,de,ec,dY,au,dR,dV,dA,dZ,cZ,dh,dn,dz,dx,cU,cV,i1,gQ,RF,jh,eF,ai,az,aJ]
  try simp
end
theorem fa(a b:List UInt8)(c:UInt8):(a++b).contains c=(a.contains c||b.contains c):=by
 rw[cA];simp
theorem fB(a:UInt8)(b:List UInt8)(c:UInt8):(a::b).contains c=(decide (c=a)||b.contains c):=by
 rw[cA];simp
theorem jW{k:Int}(hk:0<=k){c:UInt8}(hc:eQ c=false):(Lib.itoa k).contains c=false:=by
 obtain⟨a,rfl⟩:∃a:Nat,k=a:=⟨k.toNat,by omega⟩;rw[fJ];exact AS hc
theorem NB{c:UInt8}(hc:(Qo c||NC c)=false):∀(l:List UInt8) (i:Nat),w4 i l=true->l.contains c=false
 | [],_,_=>rfl
 | d::l,i,h=>by
  rw[tc,ae]at h;rw[fB,NB hc l (i+1) h.2,Bool.or_false,aU];rintro rfl;have h1:=h.1;rw[bw]at hc;rw[hc.1,hc.2]at h1;simp at h1
theorem As{l:List UInt8}(h:gD l=true){c:UInt8}(hc:(Qo c||NC c)=false):l.contains c=false:=by
 unfold gD at h;rw[ae]at h;exact NB hc l 0 h.2
theorem EU{k l s:Int}(h:GT k l s){c:UInt8}(hc:eQ c=false)(h1:∀k:Int,(qV k).contains c=false)(h2:c≠40/\c≠41/\c≠44):(iz k l s).contains c=false:=by
 obtain⟨hk,hl,hs,h0⟩:=h;unfold iz;rw[fa,fa,fa,fa,h1,jW hl.1 hc,fB,fB,aU h2.1,aU h2.2.1];split
 ·rfl
 ·rw[fa,jW hs.1 hc,fB,aU h2.2.2];rfl
theorem Ip(c:UInt8)(h:(qV 0++qV 1++qV 2++qV 3).contains c=false)(k:Int):(qV k).contains c=false:=by
 rw[fa,fa,fa,bw,bw,bw]at h;have e:qV k=qV 0\/qV k=qV 1\/qV k=qV 2\/qV k=qV 3:=by
  by_cases h0:k=0
  ·exact .inl (by rw[h0])
  by_cases h1:k=1
  ·exact .inr (.inl (by rw[h1]))
  by_cases h2:k=2
  ·exact .inr (.inr (.inl (by rw[h2])))
  ·refine .inr (.inr (.inr ?_));unfold qV;rw[af h0,af h1,af h2];rfl
 rcases e with e|e|e|e<;>rw[e]
 ·exact h.1.1.1
 ·exact h.1.1.2
 ·exact h.1.2
 ·exact h.2
theorem x_{k l s:Int}(h:GT k l s):(iz k l s).contains 32=false:=EU h (by decide) (Ip 32 (by decide)) (by decide)
def Qn(o:OP):List UInt8:=
 if o.kd=1 then[68,69,70]++40::((o.ba++44::Lib.itoa o.of)++[41])
 else if o.kd=2 then[66,65,83]++40::((o.ba++44::Lib.itoa o.of)++[41])
 else[73,78,73,84]++40::(lj o.k o.s o.vn o.vx++[41])
def Qp(o:OP):List UInt8:=if o.kd=3 then[80,84,82]else if o.kd=5 then[76,65,66,69,76]else if o.kd=4 then[67,79,78]else[68,68]
def nW(o:OP):List UInt8:=
 Qp o++32::(if o.kd=3 then o.nm else o.nm++32::(if o.kd=5 then Lib.itoa o.tg else iz o.k o.l o.s++32::Qn o))
def gX:List UInt8:=[68,67,76,32]
theorem yw{o:OP}(h:HE o):LZ o=gX++nW o:=by
 unfold LZ nW Qp Qn gX;cases h with
 | IF hk nm ty v ba of tg=>rcases hk with hk|hk<;>simp[hk]
 | K7 hk nm ty vn vx ba of tg=>rcases hk with hk|hk<;>simp[hk]
 | ptr hk nm k l s vn vx ba of tg=>simp[hk]
 | Ma hk nm k l s vn vx ba of tg=>simp[hk]
abbrev ux(o:OP)(ok:Bool):fE.T:=(bs o.nm,o.kd,o.k,o.l,o.s,o.vn,bs o.vx,bs o.ba,o.of,o.tg,ok)
theorem Bn{α:Type}{a b:Bool}(h:a=true\/b=true)(B Z:α):(bif a then B else bif b then B else Z)=B:=by
 rcases h with rfl|rfl
 ·rfl
 ·cases a<;>rfl
section
variable {n:Nat}
theorem AR(hn:1000002<=n)(t:List UInt8)(ht:t.length<=20000):∃(o:OP) (ok:Bool),fE.F n (bs t)=some (ux o ok)/\(ok=true->gD o.nm=true->HE o/\o.vx.length<=t.length):=by
 obtain⟨m,rfl⟩:∃m,n=m+1:=⟨n - 1,by omega⟩;have c1:=mF t 32;have c2:=mF (eU t 32).2.1 32;unfold fE.F fE.e;simp only[gQ,wj,BW,BV,xA];rw[gY t 32 (by omega),ab];simp only;rw[gY _ 32 (by omega),ab];simp only;rw[dK,dK,dK,dK];generalize T5:(eU t 32).1=kw;generalize kL:(eU (eU t 32).2.1 32).1=nm;generalize hr:(eU (eU t 32).2.1 32).2.1=r at *;by_cases h1:kw=[80,84,82]
 ·rw[cU h1];refine⟨⟨nm,3,0,0,0,0,[],[],0,0⟩,_,rfl,λ_ hx=>⟨.ptr rfl hx rfl rfl rfl rfl rfl rfl rfl rfl,by simp⟩⟩
 rw[cV h1];by_cases h2:kw=[76,65,66,69,76]
 ·rw[cU h2];obtain⟨v,e1,e2⟩:=j5 (n:=m+1) r (by omega);rw[e1,ab];refine⟨⟨nm,5,0,0,0,0,[],[],0,v⟩,_,rfl,λfF hx=>⟨.Ma rfl hx rfl rfl rfl rfl rfl rfl rfl ?_,by simp⟩⟩;have:=kE fF;have:=e2 fF;have ov:(10:Nat) ^ 15=1000000000000000:=by decide
  exact⟨by show 0<=v;omega,by show v<_;omega⟩
 rw[cV h2];by_cases h3:kw=[68,68]\/kw=[67,79,78]
 ·rw[Bn (by rcases h3 with h|h;exact .inl (decide_eq_true h);exact .inr (decide_eq_true h))];have c3:=mF r 32;have c4:=mF (eU r 32).2.1 40;rw[gY _ 32 (by omega),ab];simp only;obtain⟨x,x1,x2,x3⟩:=x4 (n:=m+1) (by omega) (eU r 32).1 (by omega);rw[x1,ab,gY _ 40 (by omega),ab];simp only;rw[u5 _ 41 (by omega),ab];cases Ce:tB (eU r 32).1 with
  | none=>
   rw[Ce]at x2;rw[x2];refine⟨⟨nm,0,x.1,x.2.1,x.2.2.1,0,[],[],0,0⟩,false,rfl,λh=>by cases h⟩
  | some ty=>
   obtain⟨k,l,s⟩:=ty;obtain⟨gt,_⟩:=Lp Ce;have:=x3 _ Ce;subst this;rw[show(!((k,l,s,true):Int × Int × Int × Bool).2.2.2)=false from rfl,cond_false];simp only;cases he:wT (eU (eU r 32).2.1 40).2.1 41 with
   | none=>exact⟨⟨nm,0,k,l,s,0,[],[],0,0⟩,false,rfl,λh=>by cases h⟩
   | some oJ=>
    have YF:oJ.length<=t.length:=by
     have:=congrArg List.length (y0 he);rw[ai]at this;omega
    simp only[aI,cond_false];rw[dK];by_cases hi:(eU (eU r 32).2.1 40).1=[73,78,73,84]
    ·rw[cU hi];obtain⟨vn,vx,ok,v1,v2,_⟩:=vh (n:=m+1) (by omega) k l s oJ (by omega);by_cases hc:kw=[67,79,78]
     ·rw[cU hc,fE.MW];unfold fE.A3;rw[v1,ab];refine⟨⟨nm,4,k,l,s,vn,vx,[],0,0⟩,ok,rfl,λfF hx=>⟨.IF (.inr rfl) hx gt (v2 fF).1 rfl rfl rfl,?_⟩⟩;have:=(v2 fF).2;exact cr this YF
     ·rw[cV hc,fE.MW];unfold fE.A3;rw[v1,ab];refine⟨⟨nm,0,k,l,s,vn,vx,[],0,0⟩,ok,rfl,λfF hx=>⟨.IF (.inl rfl) hx gt (v2 fF).1 rfl rfl rfl,?_⟩⟩;have:=(v2 fF).2;exact cr this YF
    ·have c5:=mF oJ 44;rw[cV hi,gY oJ 44 (by omega),ab];simp only;obtain⟨v,e1,e2⟩:=j5 (n:=m+1) (eU oJ 44).2.1 (by omega);rw[e1,ab];simp only;rw[dK,dK];have ur:iQ (eU oJ 44).2.1=true->0<=v/\v<1000000000000000:=by
      intro h;have h1:=kE h;have h2:=e2 h;have ov:(10:Nat) ^ 15=1000000000000000:=by decide
      omega
     have fin:∀(kd:Int),(kd=0\/kd=1\/kd=2)->∃(o:OP) (ok:Bool),fE.l (m+1) (m+1) (.mw (bs kw) (iQ (eU oJ 44).2.1) (bs (eU oJ 44).1) (⟨#[]⟩:ByteArray) 0 0 0 0 0 (⟨#[]⟩:ByteArray) (⟨#[]⟩:ByteArray) 0 0 (bs nm) kd k l s 0 (⟨#[]⟩:ByteArray) (bs (eU oJ 44).1) v 0)=some (ux o ok)/\(ok=true->gD o.nm=true->HE o/\o.vx.length<=t.length):=by
      intro kd fT;rw[fE.Hu];unfold fE.zW;refine⟨⟨nm,kd,k,l,s,0,[],(eU oJ 44).1,v,0⟩,(iQ (eU oJ 44).2.1&&(decide (kw=[68,68])&&(decide (kd≠0)&&gD (eU oJ 44).1))),?_,?_⟩
      ·simp only[wj];rw[dK];cases GK:iQ (eU oJ 44).2.1 with
       | false=>rfl
       | true=>
        rw[ak];by_cases hd:kw=[68,68]
        ·rw[cU hd,eG];by_cases h0:kd=0
         ·rw[ag h0,decide_eq_true hd,aU (show ¬ kd≠0 from λh=>h h0)];rfl
         ·rw[af h0,decide_eq_true hd,decide_eq_true h0,mq (by omega),ab];rfl
        ·rw[cV hd,aU hd];rfl
      ·intro fF hx;rw[ae,ae,ae,ay,ay]at fF;obtain⟨q1,q2,q3,q4⟩:=fF;refine⟨.K7 ?_ hx gt rfl rfl q4 (ur q1) rfl,by simp⟩;show kd=1\/kd=2;omega
     by_cases hd:(eU (eU r 32).2.1 40).1=[68,69,70]
     ·rw[cU hd];exact fin 1 (.inr (.inl rfl))
     ·rw[cV hd];by_cases hb:(eU (eU r 32).2.1 40).1=[66,65,83]
      ·rw[cU hb];exact fin 2 (.inr (.inr rfl))
      ·rw[cV hb];exact fin 0 (.inl rfl)
 ·rw[cV (λh=>h3 (.inl h)),cV (λh=>h3 (.inr h))];exact⟨⟨nm,0,0,0,0,0,[],[],0,0⟩,false,rfl,λh=>by cases h⟩
end
theorem mR{l:List UInt8}(h:gD l=true):l.contains 32=false:=As h (by decide)
theorem uT{l:List UInt8}(h:gD l=true):l.contains 44=false:=As h (by decide)
theorem EV{k l s:Int}(h:GT k l s){n:Nat}(hn:1001<=n):nj.F n (bs (iz k l s))=some (k,l,s,true):=by
 obtain⟨x,x1,x2,x3⟩:=x4 hn (iz k l s) (by have:=my h;omega);rw[x1,x3 _ (Ol h)]
theorem Jh{k:Int}(h:0<=k/\k<1000000000000000){n:Nat}:kU.F n (bs (Lib.itoa k))=some (k,true):=by
 have ov:(10:Nat) ^ 15=1000000000000000:=by decide
 obtain⟨a,rfl⟩:∃a:Nat,k=a:=⟨k.toNat,by omega⟩;have hl:=gH ((a:Nat):Int) (by omega) (by omega);obtain⟨v,e1,e2⟩:=j5 (n:=n) (Lib.itoa ((a:Nat):Int)) (by omega);rw[fJ]at e1 e2 ⊢;have hd:=mE (k:=a) (by omega);rw[e1,hd,e2 hd,rk]
section
variable {n:Nat}
theorem AQ(hn:1000002<=n)(o:OP)(h:HE o)(hl:(nW o).length<=20000):fE.F n (bs (nW o))=some (ux o true):=by
 obtain⟨m,rfl⟩:∃m,n=m+1:=⟨n - 1,by omega⟩;unfold fE.F fE.e;simp only[gQ,wj,BW,BV,xA];rw[gY (nW o) 32 (by omega),ab];obtain⟨nm,kd,k,l,s,vn,vx,ba,of,tg⟩:=o;cases h with
 | ptr hk kL nz FD hs Cd yM sw ur wE=>
  simp only at hk nz FD hs Cd yM sw ur wE kL;subst hk nz FD hs Cd yM sw ur wE;have e:nW ⟨nm,3,0,0,0,0,[],[],0,0⟩=[80,84,82]++32::nm:=rfl;have NY:=iv kL;rw[e,gI _ _ _ (by decide)];simp only;rw[gY nm 32 (by omega),ab,zc (mR kL)];simp only;rw[dK,cU rfl];rfl
 | Ma hk kL nz FD hs Cd yM sw ur wE=>
  simp only at hk nz FD hs Cd yM sw ur wE kL;subst hk nz FD hs Cd yM sw ur;have e:nW ⟨nm,5,0,0,0,0,[],[],0,tg⟩=[76,65,66,69,76]++32::(nm++32::Lib.itoa tg):=rfl;have NY:=iv kL;have i3:=gH tg (by omega) (by omega);rw[e,gI _ _ _ (by decide)];simp only;rw[gY _ 32 (by simp only[ai,az];omega),ab,gI _ _ _ (mR kL)];simp only;rw[dK,cV (by decide),dK,cU rfl,Jh wE,ab]
 | IF hk kL ty v sw ur wE=>
  simp only at hk kL ty v sw ur wE;subst sw ur wE;have NY:=iv kL;have GI:=my ty;have body:∀(kw:List UInt8),((kw=[68,68]/\kd=0)\/(kw=[67,79,78]/\kd=4))->nW ⟨nm,kd,k,l,s,vn,vx,[],0,0⟩=kw++32::(nm++32::(iz k l s++32::([73,78,73,84]++40::(lj k s vn vx++[41])))):=by
   rintro kw (⟨rfl,rfl⟩|⟨rfl,rfl⟩)<;>rfl
  obtain⟨kw,T5,Ch,hp,hlb⟩:∃kw:List UInt8,((kw=[68,68]/\kd=0)\/(kw=[67,79,78]/\kd=4))/\kw.contains 32=false/\kw≠[80,84,82]/\kw≠[76,65,66,69,76]:=by
   rcases hk with h|h
   ·exact⟨[68,68],.inl ⟨rfl,h⟩,by decide,by decide,by decide⟩
   ·exact⟨[67,79,78],.inr ⟨rfl,h⟩,by decide,by decide,by decide⟩
  have e:=body kw T5;rw[e]at hl ⊢;simp only[ai,az,aJ]at hl;rw[gI _ _ _ Ch];simp only;rw[gY _ 32 (by simp only[ai,az,aJ];omega),ab,gI _ _ _ (mR kL)];simp only;rw[dK,dK,dK,dK,cV hp,cV hlb,Bn (by rcases T5 with h|h;exact .inl (decide_eq_true h.1);exact .inr (decide_eq_true h.1)),gY _ 32 (by simp only[ai,az,aJ];omega),ab,gI _ _ _ (x_ ty)];simp only;rw[EV ty (by omega),ab,gY _ 40 (by simp only[ai,az,aJ];omega),ab,gI [73,78,73,84] _ 40 (by decide)];simp only;rw[u5 _ 41 (by simp only[ai,az,aJ];omega),ab,wS];simp only[aI,cond_false];rw[dK,cU rfl];obtain⟨ve,pW,ok,v1,v2,v3⟩:=vh (n:=m+1) (by omega) k l s (lj k s vn vx) (by omega);obtain⟨rfl,rfl,rfl⟩:=v3 vn vx v rfl;rcases T5 with⟨h1,h2⟩|⟨h1,h2⟩
  ·subst h1 h2;rw[cV (by decide),fE.MW];unfold fE.A3;rw[v1,ab]
  ·subst h1 h2;rw[cU rfl,fE.MW];unfold fE.A3;rw[v1,ab]
 | K7 hk kL ty Cd yM sw ur wE=>
  simp only at hk kL ty Cd yM sw ur wE;subst Cd yM wE;have NY:=iv kL;have GI:=my ty;have Cp:=iv sw;have i3:=gH of (by omega) (by omega);obtain⟨w,hw,e,VW,hwi⟩:∃w:List UInt8,((w=[68,69,70]/\kd=1)\/(w=[66,65,83]/\kd=2))/\nW ⟨nm,kd,k,l,s,0,[],ba,of,0⟩=[68,68]++32::(nm++32::(iz k l s++32::(w++40::((ba++44::Lib.itoa of)++[41]))))/\w.contains 40=false/\w≠[73,78,73,84]:=by
   rcases hk with h|h
   ·subst h;exact⟨[68,69,70],.inl ⟨rfl,rfl⟩,rfl,by decide,by decide⟩
   ·subst h;exact⟨[66,65,83],.inr ⟨rfl,rfl⟩,rfl,by decide,by decide⟩
  have NS:w.length=3:=by rcases hw with h|h<;>rw[h.1]<;>rfl
  rw[e,gI _ _ _ (by decide)];simp only;rw[gY _ 32 (by simp only[ai,az,aJ];omega),ab,gI _ _ _ (mR kL)];simp only;rw[dK,dK,dK,dK,cV (by decide),cV (by decide),cU rfl,gY _ 32 (by simp only[ai,az,aJ];omega),ab,gI _ _ _ (x_ ty)];simp only;rw[EV ty (by omega),ab,gY _ 40 (by simp only[ai,az,aJ];omega),ab,gI w _ 40 VW];simp only;rw[u5 _ 41 (by simp only[ai,az,aJ];omega),ab,wS];simp only[aI,cond_false];rw[dK,cV hwi,gY _ 44 (by simp only[ai,az,aJ];omega),ab,gI ba _ 44 (uT sw)];simp only;rw[Jh ur,ab];simp only;rw[dK,dK];have fin:∀(kd:Int),kd≠0->fE.l (m+1) (m+1) (.mw (bs [68,68]) true (bs ba) (⟨#[]⟩:ByteArray) 0 0 0 0 0 (⟨#[]⟩:ByteArray) (⟨#[]⟩:ByteArray) 0 0 (bs nm) kd k l s 0 (⟨#[]⟩:ByteArray) (bs ba) of 0)=some (ux ⟨nm,kd,k,l,s,0,[],ba,of,0⟩ true):=by
   intro kd fT;rw[fE.Hu];unfold fE.zW;simp only[wj];rw[ak,dK,cU rfl,eG,af fT,mq (by omega),ab,sw]
  rcases hw with⟨h1,h2⟩|⟨h1,h2⟩
  ·subst h1 h2;rw[cU rfl];exact fin 1 (by decide)
  ·subst h1 h2;rw[cV (by decide),cU rfl];exact fin 2 (by decide)
end
theorem uy{α:Type}{v:α}{t t0:List UInt8}{b0:Bool}{f:List UInt8->Option (α × List UInt8)}(h:vO v t false=(pY t0 b0).bind f):b0=false/\f t0=some (v,t):=by
 cases b0 with
 | true=>cases h
 | false=>exact⟨rfl,h.symm⟩
theorem xM{t t0:List UInt8}{b0:Bool}{f:List UInt8->Option (List UInt8)}(h:pY t false=(pY t0 b0).bind f):b0=false/\f t0=some t:=by
 cases b0 with
 | true=>cases h
 | false=>exact⟨rfl,h.symm⟩
theorem CB{α:Type}{v v' : α}{t t' : List UInt8}{b:Bool}(h:vO v t b=some (v',t')):b=false/\v=v'/\t=t':=by
 cases b with
 | true=>cases h
 | false=>cases h;exact⟨rfl,rfl,rfl⟩
theorem Xw{t t' : List UInt8}{b:Bool}(h:pY t b=some t'):b=false/\t=t':=by
 cases b with
 | true=>cases h
 | false=>cases h;exact⟨rfl,rfl⟩
theorem ru{u:List UInt8}(h:gD u=true){c:UInt8}(hc:u.contains c=false)(r:List UInt8):HL c (u++c::r)=some (u,c::r):=by
 obtain⟨e1,e2⟩:=jB hc r;unfold HL rF;rw[e1,e2,ag h]
theorem vM{c:UInt8}{t u r:List UInt8}(h:HL c t=some (u,r)):gD u=true/\t=u++r:=by
 unfold HL rF at h;split at h
 ·rename_i hn;cases h;exact⟨hn,oR t c⟩
 ·cases h
theorem Gd{t u r:List UInt8}(h:Ge t=some (u,r)):gD u=true/\t=u/\r=[]:=by
 unfold Ge rF at h;split at h
 ·rename_i hn;cases h;exact⟨hn,rfl,rfl⟩
 ·cases h
section
variable {n:Nat}
theorem gJ(hn:2<=n){w t r:List UInt8}(h:rW w t=some r):fk.F n (bs w) (bs t) false=some (bs r,false):=by
 obtain⟨t1,b1,e1,l1,o1⟩:=fw hn w t false;rw[eW,ab,h]at o1;obtain⟨rfl,rfl⟩:=Xw o1;exact e1
theorem uU(hn:400000<=n){c:UInt8}{t u r:List UInt8}(ht:t.length<=100000)(h:HL c t=some (u,r)):lT.F n (bs [c]) (bs t) false=some (bs u,bs r,false):=by
 obtain⟨v,t1,b1,e1,l1,o1⟩:=nY hn c t ht false;rw[eW,ab,h]at o1;obtain⟨rfl,rfl,rfl⟩:=CB o1;exact e1
theorem Jl(hn:400000<=n){t:List UInt8}(ht:t.length<=100000)(h:gD t=true):lT.F n ⟨#[]⟩ (bs t) false=some (bs t,bs [],false):=by
 obtain⟨v,t1,b1,e1,l1,o1⟩:=BT hn t ht false;have hr:Ge t=some (t,[]):=by unfold Ge rF;rw[ag h]
 rw[eW,ab,hr]at o1;obtain⟨rfl,rfl,rfl⟩:=CB o1;exact e1
theorem sK(hn:400000<=n){c:UInt8}{t r:List UInt8}{v:Int}(ht:t.length<=100000)(h:rN c t=some (v,r)):gO.F n (bs [c]) (bs t) false=some (v,bs r,false):=by
 obtain⟨v1,t1,b1,e1,l1,o1⟩:=kg hn c t ht false;rw[eW,ab,h]at o1;obtain⟨rfl,rfl,rfl⟩:=CB o1;exact e1
theorem vZ(hn:400000<=n){t r:List UInt8}{v:Int}(ht:t.length<=100000)(h:Qe t=some (v,r)):gO.F n ⟨#[]⟩ (bs t) false=some (v,bs r,false):=by
 obtain⟨v1,t1,b1,e1,l1,o1⟩:=qC hn t ht false;rw[eW,ab,h]at o1;obtain⟨rfl,rfl,rfl⟩:=CB o1;exact e1
theorem zG(hn:400000<=n){t r:List UInt8}{k l s:Int}(ht:t.length<=100000)(h:IX t=some ((k,l,s),r)):jq.F n (bs t) false=some (k,l,s,bs r,false):=by
 obtain⟨k1,l1,s1,t1,b1,e1,_,o1⟩:=zH hn t ht false;rw[eW,ab,h]at o1;obtain⟨rfl,e,rfl⟩:=CB o1;cases e;exact e1
theorem Bc(hn:1000002<=n){t r x:List UInt8}{k l s v:Int}(ht:t.length<=20000)(h:zT k s t=some ((v,x),r)):eV.F n k l s (bs t) false=some (v,bs x,bs r,false):=by
 obtain⟨v1,x1,t1,b1,e1,_,o1⟩:=vg hn k l s t ht false;rw[eW,ab,h]at o1;obtain⟨rfl,e,rfl⟩:=CB o1;cases e;exact e1
theorem wK{α:Type}(t:List UInt8)(X Y:Option α) :
  (let y8:Bool:=decide ((((bs t).size:Nat):Int)>0)
 bif y8 then(bif decide ((0:Int)<((bs t).size:Nat))then(let y9:Int:=((((bs t).data.getD 0 0).toNat:Nat):Int)
 bif y9==68 then X else(let nh:Bool:=decide ((((bs t).size:Nat):Int)>0)
 bif nh then(bif decide ((0:Int)<((bs t).size:Nat))then(let pw:Int:=((((bs t).data.getD 0 0).toNat:Nat):Int)
 bif pw==66 then X else Y)else none)else Y))else none)else(let zC:Bool:=decide ((((bs t).size:Nat):Int)>0)
 bif zC then(bif decide ((0:Int)<((bs t).size:Nat))then(let HG:Int:=((((bs t).data.getD 0 0).toNat:Nat):Int)
 bif HG==66 then X else Y)else none)else Y))=if t.head?=some 68\/t.head?=some 66 then X else Y:=by
 simp only[cY]
 match t with
 | []=>rfl
 | c::r=>
  simp only[az];rw[cU (by omega),cU (by omega),show(bs (c::r)).data.getD 0 0=c from rfl,show(68:Int)=((68:Nat):Int)from rfl,fV c 68 68 rfl];by_cases h1:c=68
  ·rw[cU h1,ag (.inl (by rw[h1];rfl))]
  ·rw[cV h1,cU (by omega),cU (by omega),show(66:Int)=((66:Nat):Int)from rfl,fV c 66 66 rfl];by_cases h2:c=66
   ·rw[cU h2,ag (.inr (by rw[h2];rfl))]
   ·rw[cV h2,af];rintro(h|h)
    ·exact h1 (by simpa using h)
    ·exact h2 (by simpa using h)
theorem qn(hn:1<=n)(t:List UInt8)(b:Bool)(o:OP)(y1 y7 y8:ByteArray)(y2 y3 y4 y5 y6 y9 nh:Int):gP.l n n (.mw y1 y2 y3 y4 y5 y6 y7 y8 y9 nh (bs t) b (bs o.nm) o.kd o.k o.l o.s o.vn (bs o.vx) (bs o.ba) o.of o.tg)=some (ux o (!b&&decide (t=[]))):=by
 obtain⟨m,rfl⟩:∃m,n=m+1:=⟨n - 1,by omega⟩;rw[gP.Hu];unfold gP.zW;rw[Al,dK];cases b<;>rfl
theorem Ie(hn:2<=n)(t:List UInt8)(b:Bool)(nm:List UInt8)(kd k l s vn:Int)(vx ba:List UInt8)(of tg:Int)(y1 y7 y8:ByteArray)(y2 y3 y4 y5 y6 y9 nh:Int){v:Int}{x t' : List UInt8}{b' : Bool}(h:eV.F n k l s (bs t) b=some (v,bs x,bs t',b')):gP.l n n (.z12 y1 y2 y3 y4 y5 y6 y7 y8 y9 nh (bs t) b (bs nm) kd k l s vn (bs vx) (bs ba) of tg)=some (ux ⟨nm,kd,k,l,s,v,x,ba,of,tg⟩ (!b'&&decide (t'=[]))):=by
 obtain⟨m,rfl⟩:∃m,n=m+2:=⟨n - 2,by omega⟩;rw[gP.EG];unfold gP.ry;rw[h,ab];simp only;rw[gP.Hu];unfold gP.zW;rw[Al,dK];cases b'<;>rfl
theorem Ic(hn:1000002<=n)(c:UInt8)(r:List UInt8)(hl:(c::r).length<=20000)(b:Bool)(nm:List UInt8)(k l s vn:Int)(vx ba:List UInt8)(of tg:Int)(y1 y7 y8:ByteArray)(y2 y3 y4 y5 y6 y9 nh:Int) :
  ∃u t' b' x,gP.l n n (.dE y1 y2 y3 y4 y5 y6 y7 y8 y9 nh (bs (c::r)) b (bs nm) 0 k l s vn (bs vx) (bs ba) of tg)=some (ux ⟨nm,if c=66 then 2 else 1,k,l,s,vn,vx,u,x,tg⟩ (!b'&&decide (t'=[])))/\
   vO (u,x) t' b'=(pY (c::r) b).bind λt=>(rW (if c=66 then[66,65,83,40]else[68,69,70,40]) t).bind λt1=>(HL 44 t1).bind λp=>(rW [44] p.2).bind λt2=>(rN 41 t2).bind λq=>(rW [41] q.2).bind λt3=>some ((p.1,q.1),t3):=by
 obtain⟨m,rfl⟩:∃m,n=m+2:=⟨n - 2,by omega⟩;rw[gP.CZ];unfold gP.qX;simp only[gQ,BV,cY];rw[cU (by simp),show(bs (c::r)).data.getD 0 0=c from rfl,show(66:Int)=((66:Nat):Int)from rfl,fV c 66 66 rfl];have main:∀(W:List UInt8) (kd:Int),∃u t' b' x,((fk.F (m+2) (bs W) (bs (c::r)) b).bind λNv=>
 (lT.F (m+2) (bs [44]) Nv.1 Nv.2).bind λDa=>
 (fk.F (m+2) (bs [44]) Da.2.1 Da.2.2).bind λI3=>
 (gO.F (m+2) (bs [41]) I3.1 I3.2).bind λGj=>
 (fk.F (m+2) (bs [41]) Gj.2.1 Gj.2.2).bind λA4=>
 gP.l (m+2) (m+1) (.mw y1 y2 y3 y4 y5 y6 y7 y8 y9 nh A4.1 A4.2 (bs nm) kd k l s vn (bs vx) Da.1 Gj.1 tg))=some (ux ⟨nm,kd,k,l,s,vn,vx,u,x,tg⟩ (!b'&&decide (t'=[])))/\vO (u,x) t' b'=(pY (c::r) b).bind λt=>(rW W t).bind λt1=>(HL 44 t1).bind λp=>(rW [44] p.2).bind λt2=>(rN 41 t2).bind λq=>(rW [41] q.2).bind λt3=>some ((p.1,q.1),t3):=by
  intro W kd;obtain⟨t1,b1,e1,l1,o1⟩:=fw (show 2<=m+2 by omega) W (c::r) b;obtain⟨u,t2,b2,e2,l2,o2⟩:=nY (show 400000<=m+2 by omega) 44 t1 (by omega) b1;obtain⟨t3,b3,e3,l3,o3⟩:=fw (show 2<=m+2 by omega) [44] t2 b2;obtain⟨x,t4,b4,e4,l4,o4⟩:=kg (show 400000<=m+2 by omega) 41 t3 (by omega) b3;obtain⟨t5,b5,e5,l5,o5⟩:=fw (show 2<=m+2 by omega) [41] t4 b4;refine⟨u,t5,b5,x,?_,?_⟩
  ·simp only[e1,e2,e3,e4,e5,ab];rw[gP.Hu];unfold gP.zW;rw[Al,dK];cases b5<;>rfl
  ·cases hb:b with
   | true=>
    subst hb;obtain rfl:=eR o1;obtain rfl:=ij o2;obtain rfl:=eR o3;obtain rfl:=ij o4;obtain rfl:=eR o5;rfl
   | false=>
    subst hb;rw[eW,ab]at o1 ⊢;rcases im o1 with⟨g1,rfl⟩|⟨g1,rfl⟩
    ·rw[g1,ab];rw[eW,ab]at o2;rcases oP o2 with⟨g2,rfl⟩|⟨g2,rfl⟩
     ·rw[g2,ab];rw[eW,ab]at o3;rcases im o3 with⟨g3,rfl⟩|⟨g3,rfl⟩
      ·simp only[g3,ab];rw[eW,ab]at o4;rcases oP o4 with⟨g4,rfl⟩|⟨g4,rfl⟩
       ·rw[g4,ab];rw[eW,ab]at o5;rcases im o5 with⟨g5,rfl⟩|⟨g5,rfl⟩
        ·simp only[g5,ab];rfl
        ·simp only[g5,aB];rfl
       ·obtain rfl:=eR o5;rw[g4];rfl
      ·obtain rfl:=ij o4;obtain rfl:=eR o5;simp only[g3,aB];rfl
     ·obtain rfl:=eR o3;obtain rfl:=ij o4;obtain rfl:=eR o5;rw[g2];rfl
    ·obtain rfl:=ij o2;obtain rfl:=eR o3;obtain rfl:=ij o4;obtain rfl:=eR o5;rw[g1];rfl
 by_cases hc:c=66
 ·rw[cU hc,ag hc,ag hc];exact main [66,65,83,40] 2
 ·rw[cV hc,af hc,af hc];exact main [68,69,70,40] 1
end
theorem HK{c:UInt8}{t r:List UInt8}(h:rW [c] t=some r):t=c::r:=jf h
theorem ir(c:UInt8)(r:List UInt8):rW [c] (c::r)=some r:=j0 [c] r
theorem front{s t2 t3 t4 t5 t6 u:List UInt8}{b2 b3 b4 b5:Bool}{k l sc:Int}(o2:pY t2 b2=(pY (ia s 32) false).bind (rW [32]))(o3:vO u t3 b3=(pY t2 b2).bind (HL 32))(o4:pY t4 b4=(pY t3 b3).bind (rW [32]))(o5:vO (k,l,sc) t5 b5=(pY t4 b4).bind IX)(o6:pY t6 false=(pY t5 b5).bind (rW [32])):gD u=true/\GT k l sc/\s=gF s 32++32::(u++32::(iz k l sc++32::t6)):=by
 obtain⟨rfl,g6⟩:=xM o6;obtain⟨rfl,g5⟩:=uy o5;obtain⟨rfl,g4⟩:=xM o4;obtain⟨rfl,g3⟩:=uy o3;obtain⟨_,g2⟩:=xM o2;obtain⟨h1,e3⟩:=vM g3;obtain⟨gt,e5⟩:=Ty g5;refine⟨h1,gt,?_⟩;have e:=oR s 32;rw[HK g2,e3,HK g4,e5,HK g6]at e;exact e
theorem Dn{k s vn:Int}{vx:List UInt8}(h:oH k s vn vx):vx.length<=(lj k s vn vx).length:=by
 unfold oH at h;unfold lj;by_cases h0:k=0
 ·rw[ag h0];have dl:∀x:List UInt8,x.length<=(tZ x).length:=by
   intro x;induction x with
   | nil=>exact aH _
   | cons c x ih=>
    rw[jo,ai,az];split
    ·simp;omega
    ·simp;omega
  split
  ·have:=dl vx;unfold qd;simp;omega
  ·simp[rV];omega
 ·rw[af h0]at h;rw[h.1];exact cB _
theorem OS{o:OP}(h:HE o):o.vx.length<=(nW o).length:=by
 cases h with
 | IF hk nm ty v ba of tg=>
  have:=Dn v;unfold nW Qn;rcases hk with hk|hk<;>simp[hk]<;>omega
 | K7 hk nm ty vn vx ba of tg=>rw[vx];exact cB _
 | ptr hk nm k l s vn vx ba of tg=>rw[vx];exact cB _
 | Ma hk nm k l s vn vx ba of tg=>rw[vx];exact cB _
section
variable {n:Nat}
theorem DD(hn:1000002<=n)(s:List UInt8)(hs:s.length<=20000):∃(o:OP) (ok:Bool),gP.F n (bs s)=some (ux o ok)/\(ok=true->HE o/\nW o=s):=by
 unfold gP.F gP.e;simp only[gQ,wj,BW,xA];have hr:=jv s 32;have T0:=oR s 32;rw[iP (by omega) s (by omega) 32 false,ab];simp only;obtain⟨t2,b2,e2,l2,o2⟩:=fw (show 2<=n by omega) [32] (ia s 32) false;rw[e2,ab];simp only;rw[dK,dK,dK,dK];by_cases h1:gF s 32=[68,68]
 ·rw[cU h1];obtain⟨u,t3,b3,e3,l3,o3⟩:=nY (show 400000<=n by omega) 32 t2 (by omega) b2;obtain⟨t4,b4,e4,l4,o4⟩:=fw (show 2<=n by omega) [32] t3 b3;obtain⟨k,l,sc,t5,b5,e5,l5,o5⟩:=zH (show 400000<=n by omega) t4 (by omega) b4;obtain⟨t6,b6,e6,l6,o6⟩:=fw (show 2<=n by omega) [32] t5 b5;simp only[e3,e4,e5,e6,ab];rw[wK];by_cases hh:t6.head?=some 68\/t6.head?=some 66
  ·rw[ag hh]
   match t6 with
   | []=>rcases hh with h|h<;>cases h
   | c::r=>
    obtain⟨w,t7,b7,x,z1,z2⟩:=Ic hn c r (by omega) b6 u k l sc 0 [] [] 0 0 (⟨#[]⟩:ByteArray) (⟨#[]⟩:ByteArray) (⟨#[]⟩:ByteArray) 0 0 0 0 0 0 0;refine⟨_,_,z1,λfF=>?_⟩;rw[ae,ay]at fF;obtain⟨q1,q2⟩:=fF;have Mv:b7=false:=by cases b7 with
     | false=>rfl
     | true=>cases q1
    subst Mv q2;obtain⟨rfl,g⟩:=uy z2;obtain⟨f1,f2,f3⟩:=front o2 o3 o4 o5 o6;rw[h1]at f3;rw[aL]at g;obtain⟨a1,g1,g⟩:=g;rw[aL]at g;obtain⟨⟨p1,p2⟩,g2,g⟩:=g;rw[aL]at g;obtain⟨a3,g3,g⟩:=g;rw[aL]at g;obtain⟨⟨q1,q2⟩,g4,g⟩:=g;rw[aL]at g;obtain⟨a5,g5,g⟩:=g;cases g;obtain⟨n1,n2⟩:=vM g2;obtain⟨a,ea,ha,es⟩:=nS g4;have ov:(10:Nat) ^ 15=1000000000000000:=by decide
    simp only at ea es g3 g5;have WK:c=68\/c=66:=by
     rcases hh with h|h
     ·exact .inl (by simpa using h)
     ·exact .inr (by simpa using h)
    have ew:=jf g1;rw[n2,HK g3,es,HK g5]at ew;have hx:Lib.itoa q1=Lib.decDigits a:=by rw[ea,fJ]
    rcases WK with rfl|rfl
    ·rw[af (by decide)];refine⟨.K7 (.inl rfl) f1 f2 rfl rfl n1 (by show 0<=q1/\q1<_;omega) rfl,?_⟩;rw[f3,ew];show[68,68]++32::(u++32::(iz k l sc++32::([68,69,70]++40::((p1++44::Lib.itoa q1)++[41]))))=_;rw[hx];simp
    ·rw[ag rfl];refine⟨.K7 (.inr rfl) f1 f2 rfl rfl n1 (by show 0<=q1/\q1<_;omega) rfl,?_⟩;rw[f3,ew];show[68,68]++32::(u++32::(iz k l sc++32::([66,65,83]++40::((p1++44::Lib.itoa q1)++[41]))))=_;rw[hx];simp
  ·rw[af hh];obtain⟨v,x,t7,b7,e7,l7,o7⟩:=vg hn k l sc t6 (by omega) b6;have hz:=Ie (show 2<=n by omega) t6 b6 u 0 k l sc 0 [] [] 0 0 (⟨#[]⟩:ByteArray) (⟨#[]⟩:ByteArray) (⟨#[]⟩:ByteArray) 0 0 0 0 0 0 0 e7;refine⟨_,_,hz,λfF=>?_⟩;rw[ae,ay]at fF;obtain⟨q1,q2⟩:=fF;have Mv:b7=false:=by cases b7 with
    | false=>rfl
    | true=>cases q1
   subst Mv q2;obtain⟨rfl,g⟩:=uy o7;obtain⟨f1,f2,f3⟩:=front o2 o3 o4 o5 o6;rw[h1]at f3;obtain⟨dv,ev⟩:=KY g;refine⟨.IF (.inl rfl) f1 f2 dv rfl rfl rfl,?_⟩;rw[f3,ev];rfl
 ·rw[cV h1];by_cases h2:gF s 32=[80,84,82]
  ·rw[cU h2];obtain⟨u,t3,b3,e3,l3,o3⟩:=BT (show 400000<=n by omega) t2 (by omega) b2;rw[e3,ab];have hz:=qn (show 1<=n by omega) t3 b3 ⟨u,3,0,0,0,0,[],[],0,0⟩ (⟨#[]⟩:ByteArray) (⟨#[]⟩:ByteArray) (⟨#[]⟩:ByteArray) 0 0 0 0 0 0 0;refine⟨_,_,hz,λfF=>?_⟩;rw[ae,ay]at fF;obtain⟨q1,q2⟩:=fF;have Mv:b3=false:=by cases b3 with
    | false=>rfl
    | true=>cases q1
   subst Mv;obtain⟨rfl,g3⟩:=uy o3;obtain⟨_,g2⟩:=xM o2;obtain⟨n1,n2,n3⟩:=Gd g3;refine⟨.ptr rfl n1 rfl rfl rfl rfl rfl rfl rfl rfl,?_⟩;rw[h2,HK g2,n2]at T0;exact T0.symm
  ·rw[cV h2];by_cases h3:gF s 32=[67,79,78]
   ·rw[cU h3];obtain⟨u,t3,b3,e3,l3,o3⟩:=nY (show 400000<=n by omega) 32 t2 (by omega) b2;obtain⟨t4,b4,e4,l4,o4⟩:=fw (show 2<=n by omega) [32] t3 b3;obtain⟨k,l,sc,t5,b5,e5,l5,o5⟩:=zH (show 400000<=n by omega) t4 (by omega) b4;obtain⟨t6,b6,e6,l6,o6⟩:=fw (show 2<=n by omega) [32] t5 b5;obtain⟨v,x,t7,b7,e7,l7,o7⟩:=vg hn k l sc t6 (by omega) b6;simp only[e3,e4,e5,e6,e7,ab];have hz:=qn (show 1<=n by omega) t7 b7 ⟨u,4,k,l,sc,v,x,[],0,0⟩ (⟨#[]⟩:ByteArray) (⟨#[]⟩:ByteArray) (⟨#[]⟩:ByteArray) 0 0 0 0 0 0 0;refine⟨_,_,hz,λfF=>?_⟩;rw[ae,ay]at fF;obtain⟨q1,q2⟩:=fF;have Mv:b7=false:=by cases b7 with
     | false=>rfl
     | true=>cases q1
    subst Mv q2;obtain⟨rfl,g⟩:=uy o7;obtain⟨f1,f2,f3⟩:=front o2 o3 o4 o5 o6;rw[h3]at f3;obtain⟨dv,ev⟩:=KY g;refine⟨.IF (.inr rfl) f1 f2 dv rfl rfl rfl,?_⟩;rw[f3,ev];rfl
   ·rw[cV h3];by_cases h4:gF s 32=[76,65,66,69,76]
    ·rw[cU h4];obtain⟨u,t3,b3,e3,l3,o3⟩:=nY (show 400000<=n by omega) 32 t2 (by omega) b2;obtain⟨t4,b4,e4,l4,o4⟩:=fw (show 2<=n by omega) [32] t3 b3;obtain⟨v,t5,b5,e5,l5,o5⟩:=qC (show 400000<=n by omega) t4 (by omega) b4;simp only[e3,e4,e5,ab];have hz:=qn (show 1<=n by omega) t5 b5 ⟨u,5,0,0,0,0,[],[],0,v⟩ (⟨#[]⟩:ByteArray) (⟨#[]⟩:ByteArray) (⟨#[]⟩:ByteArray) 0 0 0 0 0 0 0;refine⟨_,_,hz,λfF=>?_⟩;rw[ae,ay]at fF;obtain⟨q1,q2⟩:=fF;have Mv:b5=false:=by cases b5 with
      | false=>rfl
      | true=>cases q1
     subst Mv;obtain⟨rfl,g5⟩:=uy o5;obtain⟨rfl,g4⟩:=xM o4;obtain⟨rfl,g3⟩:=uy o3;obtain⟨_,g2⟩:=xM o2;obtain⟨n1,n2⟩:=vM g3;obtain⟨a,ea,ha,es⟩:=BF g5;have ov:(10:Nat) ^ 15=1000000000000000:=by decide
     cases ea;refine⟨.Ma rfl n1 rfl rfl rfl rfl rfl rfl rfl (by show 0<=((a:Nat):Int)/\((a:Nat):Int)<_;omega),?_⟩;rw[h4,HK g2,n2,HK g4,es]at T0;rw[T0];show[76,65,66,69,76]++32::(u++32::Lib.itoa ((a:Nat):Int))=_;rw[fJ]
    ·rw[cV h4];have hz:=qn (show 1<=n by omega) t2 true ⟨[],0,0,0,0,0,[],[],0,0⟩ (⟨#[]⟩:ByteArray) (⟨#[]⟩:ByteArray) (⟨#[]⟩:ByteArray) 0 0 0 0 0 0 0;exact⟨_,_,hz,λfF=>by cases fF⟩
theorem pO{k:Int}(h:0<=k/\k<1000000000000000){c:UInt8}(hc:eQ c=false)(r:List UInt8):rN c (Lib.itoa k++c::r)=some (k,c::r):=by
 have ov:(10:Nat) ^ 15=1000000000000000:=by decide
 obtain⟨a,rfl⟩:∃a:Nat,k=a:=⟨k.toNat,by omega⟩;rw[fJ,zV (by omega) hc]
theorem B2{k:Int}(h:0<=k/\k<1000000000000000):Qe (Lib.itoa k)=some (k,[]):=by
 have ov:(10:Nat) ^ 15=1000000000000000:=by decide
 obtain⟨a,rfl⟩:∃a:Nat,k=a:=⟨k.toNat,by omega⟩;rw[fJ,LI (by omega)]
theorem DC(hn:1000002<=n)(o:OP)(h:HE o)(hl:(nW o).length<=20000):gP.F n (bs (nW o))=some (ux o true):=by
 have n4:400000<=n:=by omega
 have n2:2<=n:=by omega
 obtain⟨nm,kd,k,l,s,vn,vx,ba,of,tg⟩:=o;cases h with
 | ptr hk kL nz FD hs Cd yM sw ur wE=>
  unfold gP.F gP.e;simp only[gQ,wj,BW,xA];rw[iP (by omega) _ (by omega) 32 false,ab];simp only;simp only at hk nz FD hs Cd yM sw ur wE kL;subst hk nz FD hs Cd yM sw ur wE;have e:nW ⟨nm,3,0,0,0,0,[],[],0,0⟩=[80,84,82]++32::nm:=rfl;have NY:=iv kL;obtain⟨u1,u2⟩:=jB (show([80,84,82]:List UInt8).contains 32=false by decide) nm;rw[e,u1,u2,gJ n2 (ir 32 nm),ab];simp only;rw[dK,cV (by decide),dK,cU rfl,Jl n4 (by omega) kL,ab];exact qn (show 1<=n by omega) [] false ⟨nm,3,0,0,0,0,[],[],0,0⟩ (⟨#[]⟩:ByteArray) (⟨#[]⟩:ByteArray) (⟨#[]⟩:ByteArray) 0 0 0 0 0 0 0
 | Ma hk kL nz FD hs Cd yM sw ur wE=>
  unfold gP.F gP.e;simp only[gQ,wj,BW,xA];rw[iP (by omega) _ (by omega) 32 false,ab];simp only;simp only at hk nz FD hs Cd yM sw ur wE kL;subst hk nz FD hs Cd yM sw ur;have e:nW ⟨nm,5,0,0,0,0,[],[],0,tg⟩=[76,65,66,69,76]++32::(nm++32::Lib.itoa tg):=rfl;have NY:=iv kL;have i3:=gH tg (by omega) (by omega);obtain⟨u1,u2⟩:=jB (show([76,65,66,69,76]:List UInt8).contains 32=false by decide) (nm++32::Lib.itoa tg);rw[e,u1,u2,gJ n2 (ir 32 _),ab];simp only;rw[dK,cV (by decide),dK,cV (by decide),dK,cV (by decide),dK,cU rfl,uU n4 (by simp only[ai,az];omega) (ru kL (mR kL) _),ab];simp only;rw[gJ n2 (ir 32 _),ab];simp only;rw[vZ n4 (by omega) (B2 wE),ab];exact qn (show 1<=n by omega) [] false ⟨nm,5,0,0,0,0,[],[],0,tg⟩ (⟨#[]⟩:ByteArray) (⟨#[]⟩:ByteArray) (⟨#[]⟩:ByteArray) 0 0 0 0 0 0 0
 | IF hk kL ty v sw ur wE=>
  unfold gP.F gP.e;simp only[gQ,wj,BW,xA];rw[iP (by omega) _ (by omega) 32 false,ab];simp only;simp only at hk kL ty v sw ur wE;subst sw ur wE;have NY:=iv kL;have GI:=my ty;have mc:=OE v [];rcases hk with hk|hk
  ·subst hk;have e:nW ⟨nm,0,k,l,s,vn,vx,[],0,0⟩=[68,68]++32::(nm++32::(iz k l s++32::(Ax++(lj k s vn vx++41::[])))):=rfl;rw[e]at hl ⊢;simp only[ai,az,aJ]at hl;obtain⟨u1,u2⟩:=jB (show([68,68]:List UInt8).contains 32=false by decide) (nm++32::(iz k l s++32::(Ax++(lj k s vn vx++41::[]))));rw[u1,u2,gJ n2 (ir 32 _),ab];simp only;rw[dK,cU rfl,uU n4 (by simp only[ai,az,aJ];omega) (ru kL (mR kL) _),ab];simp only;rw[gJ n2 (ir 32 _),ab];simp only;rw[zG n4 (by simp only[ai,az,aJ];omega) (IW ty _),ab];simp only;rw[gJ n2 (ir 32 _),ab];simp only;rw[wK,af (by rintro(h|h)<;>cases h)];have hv:=Bc (l:=l) hn (by simp only[ai,az,aJ];omega) mc;exact Ie n2 _ false nm 0 k l s 0 [] [] 0 0 (⟨#[]⟩:ByteArray) (⟨#[]⟩:ByteArray) (⟨#[]⟩:ByteArray) 0 0 0 0 0 0 0 hv
  ·subst hk;have e:nW ⟨nm,4,k,l,s,vn,vx,[],0,0⟩=[67,79,78]++32::(nm++32::(iz k l s++32::(Ax++(lj k s vn vx++41::[])))):=rfl;rw[e]at hl ⊢;simp only[ai,az,aJ]at hl;obtain⟨u1,u2⟩:=jB (show([67,79,78]:List UInt8).contains 32=false by decide) (nm++32::(iz k l s++32::(Ax++(lj k s vn vx++41::[]))));rw[u1,u2,gJ n2 (ir 32 _),ab];simp only;rw[dK,cV (by decide),dK,cV (by decide),dK,cU rfl,uU n4 (by simp only[ai,az,aJ];omega) (ru kL (mR kL) _),ab];simp only;rw[gJ n2 (ir 32 _),ab];simp only;rw[zG n4 (by simp only[ai,az,aJ];omega) (IW ty _),ab];simp only;rw[gJ n2 (ir 32 _),ab];simp only;rw[Bc (l:=l) hn (by simp only[ai,az,aJ];omega) mc,ab];exact qn (show 1<=n by omega) [] false ⟨nm,4,k,l,s,vn,vx,[],0,0⟩ (⟨#[]⟩:ByteArray) (⟨#[]⟩:ByteArray) (⟨#[]⟩:ByteArray) 0 0 0 0 0 0 0
 | K7 hk kL ty Cd yM sw ur wE=>
  simp only at hk kL ty Cd yM sw ur wE;subst Cd yM wE;have NY:=iv kL;have GI:=my ty;have Cp:=iv sw;have i3:=gH of (by omega) (by omega);have body:∀(c:UInt8) (w:List UInt8) (kd:Int),(c=68\/c=66)->(if c=66 then[66,65,83,40]else[68,69,70,40])=c::w->(if c=66 then 2 else 1)=kd->w.length=3->nW ⟨nm,kd,k,l,s,0,[],ba,of,0⟩=[68,68]++32::(nm++32::(iz k l s++32::(c::(w++(ba++44::(Lib.itoa of++41::[]))))))->((fk.F n (bs [32]) (bs (ia (nW ⟨nm,kd,k,l,s,0,[],ba,of,0⟩) 32)) false).bind λp2=>(lT.F n (bs [32]) p2.1 p2.2).bind λp4=>(fk.F n (bs [32]) p4.2.1 p4.2.2).bind λp5=>(jq.F n p5.1 p5.2).bind λp6=>(fk.F n (bs [32]) p6.2.2.2.1 p6.2.2.2.2).bind λp7=>some (p4,p6,p7))=some ((bs nm,bs (32::(iz k l s++32::(c::(w++(ba++44::(Lib.itoa of++41::[])))))),false),(k,l,s,bs (32::(c::(w++(ba++44::(Lib.itoa of++41::[]))))),false),(bs (c::(w++(ba++44::(Lib.itoa of++41::[])))),false))/\gP.l n n (.dE (⟨#[]⟩:ByteArray) 0 0 0 0 0 (⟨#[]⟩:ByteArray) (⟨#[]⟩:ByteArray) 0 0 (bs (c::(w++(ba++44::(Lib.itoa of++41::[]))))) false (bs nm) 0 k l s 0 (⟨#[]⟩:ByteArray) (⟨#[]⟩:ByteArray) 0 0)=some (ux ⟨nm,kd,k,l,s,0,[],ba,of,0⟩ true):=by
   intro c w kd hc hw fT NS e;obtain⟨u1,u2⟩:=jB (show([68,68]:List UInt8).contains 32=false by decide) (nm++32::(iz k l s++32::(c::(w++(ba++44::(Lib.itoa of++41::[]))))));constructor
   ·rw[e,u2,gJ n2 (ir 32 _),ab];simp only;rw[uU n4 (by simp only[ai,az,aJ];omega) (ru kL (mR kL) _),ab];simp only;rw[gJ n2 (ir 32 _),ab];simp only;rw[zG n4 (by simp only[ai,az,aJ];omega) (IW ty _),ab];simp only;rw[gJ n2 (ir 32 _),ab]
   ·obtain⟨u,t',b',x,z1,z2⟩:=Ic hn c (w++(ba++44::(Lib.itoa of++41::[]))) (by simp only[ai,az,aJ];omega) false nm k l s 0 [] [] 0 0 (⟨#[]⟩:ByteArray) (⟨#[]⟩:ByteArray) (⟨#[]⟩:ByteArray) 0 0 0 0 0 0 0;rw[eW,ab,hw,show c::(w++(ba++44::(Lib.itoa of++41::[])))=(c::w)++(ba++44::(Lib.itoa of++41::[]))from rfl,j0,ab,ru sw (uT sw),ab]at z2;simp only at z2;rw[ir,ab,pO ur (by decide),ab]at z2;simp only at z2;rw[ir,ab]at z2;obtain⟨rfl,e9,rfl⟩:=CB z2;cases e9;rw[fT]at z1;exact z1
  have fin:∀(c:UInt8) (w:List UInt8) (kd:Int),(c=68\/c=66)->(if c=66 then[66,65,83,40]else[68,69,70,40])=c::w->(if c=66 then 2 else 1)=kd->w.length=3->nW ⟨nm,kd,k,l,s,0,[],ba,of,0⟩=[68,68]++32::(nm++32::(iz k l s++32::(c::(w++(ba++44::(Lib.itoa of++41::[]))))))->gF (nW ⟨nm,kd,k,l,s,0,[],ba,of,0⟩) 32=[68,68]:=by
   intro c w kd hc hw fT NS e;rw[e];exact(jB (show([68,68]:List UInt8).contains 32=false by decide) _).1
  have V1:∀(c:UInt8) (r:List UInt8),(c=68\/c=66)->((c::r).head?=some 68\/(c::r).head?=some 66):=by
   rintro c r (rfl|rfl)
   ·exact .inl rfl
   ·exact .inr rfl
  have all:∀(c:UInt8) (w:List UInt8) (kd:Int),(c=68\/c=66)->(if c=66 then[66,65,83,40]else[68,69,70,40])=c::w->(if c=66 then 2 else 1)=kd->w.length=3->nW ⟨nm,kd,k,l,s,0,[],ba,of,0⟩=[68,68]++32::(nm++32::(iz k l s++32::(c::(w++(ba++44::(Lib.itoa of++41::[]))))))->gP.F n (bs (nW ⟨nm,kd,k,l,s,0,[],ba,of,0⟩))=some (ux ⟨nm,kd,k,l,s,0,[],ba,of,0⟩ true):=by
   intro c w kd hc hw fT NS e;obtain⟨b1,b2⟩:=body c w kd hc hw fT NS e;have N1:(nW ⟨nm,kd,k,l,s,0,[],ba,of,0⟩).length<=100000:=by
    rw[e];simp only[ai,az,aJ];omega
   unfold gP.F gP.e;simp only[gQ,wj,BW,xA];rw[iP (by omega) _ N1 32 false,ab];simp only;rw[fin c w kd hc hw fT NS e];rw[aL]at b1;obtain⟨p2,a1,b1⟩:=b1;rw[aL]at b1;obtain⟨p4,a2,b1⟩:=b1;rw[aL]at b1;obtain⟨p5,a3,b1⟩:=b1;rw[aL]at b1;obtain⟨p6,a4,b1⟩:=b1;rw[aL]at b1;obtain⟨p7,a5,b1⟩:=b1;cases b1;rw[a1,ab]
   try simp only
   rw[dK,cU rfl,a2,ab]
   try simp only
   rw[a3,ab]
   try simp only
   rw[a4,ab]
   try simp only
   rw[a5,ab]
   try simp only
   rw[wK,ag (V1 c _ hc)];exact b2
  have e_:=hl;rcases hk with hk|hk
  ·subst hk;exact all 68 [69,70,40] 1 (.inl rfl) rfl rfl rfl (by unfold nW Qn Qp;simp)
  ·subst hk;exact all 66 [65,83,40] 2 (.inr rfl) rfl rfl rfl (by unfold nW Qn Qp;simp)
end
def lk(k:UInt8):List UInt8->List (List UInt8)
 | []=>[[]]
 | c::l=>if c=k then[]::lk k l else match lk k l with
  | h::t=>(c::h)::t
  | []=>[[c]]
theorem Bu(k c:UInt8)(l:List UInt8):lk k (c::l)=if c=k then[]::lk k l else match lk k l with
 | h::t=>(c::h)::t
 | []=>[[c]]:=rfl
theorem vD(k:UInt8):∀l:List UInt8,Lib.splitK [k] 0 (Lib.count l [k]) l=lk k l
 | []=>by rw[Lib.count_one];rfl
 | c::l=>by
  have ih:=vD k l;by_cases hc:c=k
  ·subst hc;have N5:Lib.index (c::l) [c]=0:=by rw[Lib.index];simp[List.isPrefixOf]
   rw[Lib.count_cons_eq,Nat.add_comm];unfold Lib.splitK lk;rw[N5,af (by decide),ag rfl];simp only[bN,Int.toNat_zero,bE,List.take_zero,bO,List.drop_one,List.tail_cons,ih]
  ·rw[Lib.count_cons_ne c k l hc];unfold lk;rw[af hc,<-ih];have hp:([k]:List UInt8).isPrefixOf (c::l)=false:=by simp[List.isPrefixOf,Ne.symm hc]
   have N5:Lib.index (c::l) [k]=if Lib.index l [k]==-1 then -1 else Lib.index l [k]+1:=by rw[Lib.index,hp];simp
   cases hk:Lib.count l [k]with
   | zero=>rfl
   | succ q=>
    obtain⟨j,hj⟩:=Lib.index_of_count (s:=l) (old:=[k]) (by omega);have h1:¬ (Lib.index l [k]==-1)=true:=by rw[hj];simp<;>omega
    rw[af h1,hj]at N5;unfold Lib.splitK;rw[af h1,N5,hj,af (by simp<;>omega)];have e1:((j:Int)+1).toNat=j+1:=by omega
    simp only[e1,au,bE,bN,cC,ca]
theorem zL(k:UInt8)(l:List UInt8):lk k l≠[]:=by
 cases l with
 | nil=>simp[lk]
 | cons c l=>
  rw[Bu];split
  ·simp
  ·split<;>simp
theorem Im(d c:UInt8)(l:List UInt8):gF (d::l) c=if d=c then[]else d::gF l c:=by
 unfold gF;rw[jX];split
 ·rfl
 ·rw[cC]
theorem Io(d c:UInt8)(l:List UInt8):ia (d::l) c=if d=c then d::l else ia l c:=by
 unfold ia;rw[jX];split
 ·rfl
 ·rw[ca]
theorem zK(k:UInt8):∀l:List UInt8,lk k l=gF l k::(match ia l k with | []=>[] | _::r=>lk k r)
 | []=>rfl
 | d::l=>by
  rw[Bu,Im,Io];by_cases h:d=k
  ·rw[ag h,ag h,ag h]
  ·rw[af h,af h,af h,zK k l]
theorem mz(k:UInt8)(l:List UInt8):(lk k l).length<=l.length+1:=by
 induction l with
 | nil=>simp[lk]
 | cons c l ih=>
  rw[Bu];split
  ·simp;omega
  ·split
   ·rename_i h t e;rw[e]at ih;simp at ih ⊢;omega
   ·simp
theorem yf(k:UInt8){p:List UInt8}(h:p.contains k=false):lk k p=[p]:=by
 rw[zK,(zE h).1,(zE h).2]
theorem uK(k:UInt8){p:List UInt8}(h:p.contains k=false)(r:List UInt8):lk k (p++k::r)=p::lk k r:=by
 rw[zK,(jB h r).1,(jB h r).2]
theorem Bt(k:UInt8):∀(r:List (List UInt8)) (w:List UInt8),w.contains k=false->(∀x∈r,x.contains k=false)->lk k (w++Lib.joinTail [k] r)=w::r
 | [],w,h,_=>by
  show lk k (w++[])=_;rw[bc,yf k h]
 | v::r,w,h,hr=>by
  have e:w++Lib.joinTail [k] (v::r)=w++k::(v++Lib.joinTail [k] r):=by simp[Lib.joinTail]
  rw[e,uK k h,Bt k r v (hr v bZ) (λx hx=>hr x (bS _ hx))]
theorem pb(k:UInt8):∀(l w:List UInt8) (r:List (List UInt8)),lk k l=w::r->l=w++Lib.joinTail [k] r
 | [],w,r,h=>by
  cases h;rfl
 | c::l,w,r,h=>by
  rw[Bu]at h;split at h
  ·rename_i hc;cases h;cases hs:lk k l with
   | nil=>exact absurd hs (zL k l)
   | cons v r=>
    have:=pb k l v r hs;show c::l=Lib.joinTail [k] (v::r);have e:Lib.joinTail [k] (v::r)=k::(v++Lib.joinTail [k] r):=by simp[Lib.joinTail]
    rw[e,<-this,hc]
  ·cases hs:lk k l with
   | nil=>exact absurd hs (zL k l)
   | cons v q=>
    rw[hs]at h;cases h;rw[pb k l v r hs];rfl
theorem Er(s:List UInt8)(c:UInt8):eU s c=(gF s c,(ia s c).drop 1,decide (ia s c≠[])):=by
 unfold eU;by_cases h:ib s c<s.length
 ·have h2:ia s c≠[]:=by
   intro e;have:=congrArg List.length e;unfold ia at this;rw[aQ]at this;simp at this;omega
  rw[ag h,decide_eq_true h2];unfold gF ia;rw[cu]
 ·have h2:ia s c=[]:=by unfold ia;exact aF (by omega)
  have h3:gF s c=s:=by unfold gF;exact cl (by omega)
  rw[af h,h2,h3,aU (by simp)];rfl
structure LN where
 pt:Int
 o:OP
 p_:Int
 fW:List (List UInt8)
 mo:MN
def u_:MN:=⟨0,0,0,0⟩
def qF(L:LN):List UInt8:=if L.pt=1 then LZ L.o else if L.pt=2 then xw L.p_++tn L.fW else xz L.mo
abbrev Rg(k:Int):Prop:=0<=k/\k<1000000000000000
inductive iG:LN->Prop
 | op (o:OP) (h:HE o):iG ⟨1,o,0,[],u_⟩
 | ins (p_:Int) (fW:List (List UInt8)) (h:0<=p_/\p_<=18) (hn:∀w∈fW,gD w=true):iG ⟨2,lC,p_,fW,u_⟩
 | NF (m:MN) (h1:Rg m.fr) (h2:Rg m.tt) (h3:Rg m.ex) (h4:Rg m.hd):iG ⟨3,lC,0,[],m⟩
abbrev HJ(L:LN)(ok:Bool):fP.T:=(0,L.pt,bs L.o.nm,L.o.kd,L.o.k,L.o.l,L.o.s,L.o.vn,bs L.o.vx,bs L.o.ba,L.o.of,L.o.tg,L.p_,Ws L.fW,L.mo.fr,L.mo.tt,L.mo.ex,L.mo.hd,ok)
abbrev LH(L:LN)(ok:Bool):fP.T:=(L.pt,0,bs L.o.nm,L.o.kd,L.o.k,L.o.l,L.o.s,L.o.vn,bs L.o.vx,bs L.o.ba,L.o.of,L.o.tg,L.p_,Ws L.fW,L.mo.fr,L.mo.tt,L.mo.ex,L.mo.hd,ok)
def o9:List UInt8:=[77,79,78,73,84,79,82]
theorem pK(m:MN):xz m=o9++32::(Lib.itoa m.fr++32::(Lib.itoa m.tt++32::(Lib.itoa m.ex++32::Lib.itoa m.hd))):=by
 unfold xz o9;simp
theorem pE{op:Int}(h:0<=op/\op<=18):(xw op).contains 32=false/\gA gV (xw op) 0=op/\xw op≠o9/\3<=(xw op).length/\(xw op).take 3≠[68,67,76]:=by
 rcases mB h with rfl|rfl|rfl|rfl|rfl|rfl|rfl|rfl|rfl|rfl|rfl|rfl|rfl|rfl|rfl|rfl|rfl|rfl|rfl<;>exact⟨by decide,by decide,by decide,by decide,by decide⟩
theorem Fo{w:List UInt8}(h:0<=gA gV w 0):0<=gA gV w 0/\gA gV w 0<=18/\xw (gA gV w 0)=w:=by
 have hc:gV.contains w=true:=by
  rw[<-pN gV w 0,ay];exact h
 obtain⟨k,hk,e1,e2⟩:=wv gV w 0 hc;have hl:gV.length=19:=rfl;rw[e1];refine⟨by omega,by omega,?_⟩;unfold xw;rw[show(((0+k:Nat):Int)).toNat=k by omega,ah,e2];rfl
theorem yB{op:Int}(h:0<=op/\op<=18)(r:List UInt8):¬ (xw op++r).take gX.length=gX:=by
 obtain⟨_,_,_,h4,h5⟩:=pE h;intro e;apply h5;have:=congrArg (List.take 3) e;rw[List.take_take]at this;have e2:(xw op++r).take 3=(xw op).take 3:=List.take_append_of_le_length h4;rw[<-e2];exact this
section
variable {n:Nat}
theorem zJ(k:UInt8)(l:List UInt8)(hl:l.length<=100000):Di.F n (bs l) (bs [k])=some (Ws (lk k l)):=by
 have hB:Lib.splitB (bs [k]) 0 (Lib.countB (bs l) (bs [k])) (bs l)=(lk k l).map bs:=by
  have h:=Lib.splitB_data (bs [k]) 0 (Lib.countB (bs l) (bs [k])) (bs l);have e:(bs l).data.toList=l:=rfl;have e2:Lib.countB (bs l) (bs [k])=Lib.count l [k]:=rfl;have e3:(bs [k]).data.toList=[k]:=rfl;rw[e3,e,e2,vD]at h;rw[e2,<-h,List.map_map]
  conv=>lhs;rw[<-List.map_id (Lib.splitB (bs [k]) 0 (Lib.count l [k]) (bs l))]
  rfl
 unfold Di.F;have h1:(lk k l).length=Lib.countB (bs l) (bs [k])+1:=by
  have:=Lib.splitB_all (bs [k]) (by simp[cY]) 0 (Lib.countB (bs l) (bs [k])) (bs l) rfl;rw[hB,aj]at this;exact this
 have h2:=mz k l;rw[hB];have lO:fe=1000000000:=rfl;have c1:decide ((bs l).size<4294967281)=true:=decide_eq_true (by rw[cY];omega);have c2:decide (1<=(bs [k]).size)=true:=rfl;have c3:Nat.beq ((lk k l).map bs).length (Lib.countB (bs l) (bs [k])+1)=true:=by rw[aj,h1];exact Nat.beq_refl _
 have c4:decide (Lib.countB (bs l) (bs [k])+1<=fe)=true:=decide_eq_true (by omega);rw[c1,c2,c3,c4];simp only[Bool.and_self,ak,List.map_map];rfl
theorem Fh(n:Nat)(hn:1001<=n)(ws:List (List UInt8))(hw:ws.length<=100001):∀(d i m:Nat),i+d=ws.length->d<m->∃r,iY.l n m (.z2 (Ws ws) ws.length i)=some r/\decide (r>=0)=!(ws.drop i).all gD
 | _,_,0,_,h=>absurd h (by omega)
 | 0,i,m+1,h,_=>by
  refine⟨-1,?_,?_⟩
  ·rw[iY.oE];unfold iY.r2;rw[cV (by omega)]
  ·rw[aF (by omega)];rfl
 | d+1,i,m+1,h,hm=>by
  have hi:i<ws.length:=by omega
  obtain⟨r,e1,e2⟩:=Fh n hn ws hw d (i+1) m (by omega) (by omega);rw[iY.oE];unfold iY.r2 uG.F uG.e;rw[cU (by omega),dq,de hi,ak,sk hi,aC hi,bo];show ∃r,((er.F n (bs ws[i])).bind λp1=>some (!p1)).bind (λp4=>bif p4 then some ((i:Nat):Int)else iY.l n m (.z2 (Ws ws) ws.length (IntKind.i64.wrap (((i:Nat):Int)+1))))=some r/\_;rw[mq hn,ab,ab,dY (by omega),e1];cases Sa:gD ws[i]with
  | false=>exact⟨_,rfl,by simp⟩
  | true=>exact⟨r,rfl,by rw[e2,ct]⟩
theorem contains_eq(hn:100003<=n)(ws:List (List UInt8))(hw:ws.length<=100001):so.F n (Ws ws)=some (!ws.all gD):=by
 unfold so.F so.e iY.F iY.e;obtain⟨r,e1,e2⟩:=Fh n (by omega) ws hw ws.length 0 n (by omega) (by omega);rw[dq];show(Option.bind (iY.l n n (.z2 (Ws ws) ((ws.length:Nat):Int) ((0:Nat):Int))) _)=_;rw[e1,ab,e2,aW]
end
def QL:LN:=⟨0,lC,0,[],u_⟩
def S0:List Int->fP.T
 | [a,b,c,d]=>HJ ⟨3,lC,0,[],⟨a,b,c,d⟩⟩ true
 | _=>HJ QL false
theorem FL{l:List Int}(h:l.length≠4):S0 l=HJ QL false:=by
 match l with
 | []=>rfl
 | [_]=>rfl
 | [_,_]=>rfl
 | [_,_,_]=>rfl
 | [_,_,_,_]=>exact absurd rfl h
 | _::_::_::_::_::_=>rfl
section
variable {n:Nat}
theorem DW(n:Nat)(ws:List (List UInt8))(hw:ws.length<=100001)(hs:∀w∈ws,w.length<=100000):∀(d i m:Nat) (acc:List Int),i+d=ws.length->d<m->acc.length<=i->fP.l n m (.z9 ((ws.length:Nat):Int) ((i:Nat):Int) 0 0 (⟨#[]⟩:ByteArray) 0 0 0 0 0 (⟨#[]⟩:ByteArray) (⟨#[]⟩:ByteArray) 0 0 0 0 0 0 0 (acc.map vi) (Ws ws))=some (if(ws.drop i).all iQ=true then S0 (acc++(ws.drop i).map λw=>((iy w:Nat):Int))else HJ QL false)
 | _,_,0,_,_,h,_=>absurd h (by omega)
 | 0,i,m+1,acc,h,_,ha=>by
  rw[fP.at9];unfold fP.r9;rw[cV (by omega),aF (by omega),List.map_nil,bc,ag (show([]:List (List UInt8)).all iQ=true from rfl)];simp only[aj];rw[eG];by_cases h4:acc.length=4
  ·rw[ag (by omega)]
   match acc,h4 with
   | [a,b,c,d],_=>rfl
  ·rw[af (by omega),FL h4];rfl
 | d+1,i,m+1,acc,h,hm,ha=>by
  have hi:i<ws.length:=by omega
  have lO:fe=1000000000:=rfl;rw[fP.at9];unfold fP.r9;obtain⟨v,e1,e2⟩:=j5 (n:=n) ws[i] (hs _ (aZ hi));have ih:=DW n ws hw hs d (i+1) m (acc++[v]) (by omega) (by omega) (by simp;omega);rw[cU (by omega),dq,de hi,ak,sk hi,aC hi,bo];simp only[dZ,cZ,dn];rw[e1,ab];simp only;cases hd:iQ ws[i]with
  | false=>rfl
  | true=>
   have ev:=e2 hd;rw[aI,cond_false,cU (by rw[aj];simp;omega),dY (by omega)];have em:acc.map vi++[vi v]=(acc++[v]).map vi:=by simp
   rw[em,ih,ev,ct,bx,bz,List.singleton_append]
theorem yl(k:UInt8):∀(l:List UInt8),∀w∈lk k l,w.length<=l.length:=by
 intro l;induction l with
 | nil=>intro w hw;simp[lk]at hw;subst hw;exact aH _
 | cons c l ih=>
  intro w hw;rw[Bu]at hw;split at hw
  ·rcases cj.1 hw with rfl|hw
   ·simp
   ·have:=ih w hw;simp;omega
  ·split at hw
   ·rename_i h t e;rw[e]at ih;rcases cj.1 hw with rfl|hw
    ·have:=ih h bZ;simp;omega
    ·have:=ih w (bS _ hw);simp;omega
   ·simp at hw;subst hw;simp
theorem Ow{r a b c d:List UInt8}(h:lk 32 r=[a,b,c,d]):r=a++32::(b++32::(c++32::d)):=by
 have:=pb 32 r a [b,c,d] h;rw[this];simp[Lib.joinTail]
theorem uR{w:List UInt8}(h:iQ w=true):Rg ((iy w:Nat):Int)/\Lib.itoa ((iy w:Nat):Int)=w:=by
 have ov:(10:Nat) ^ 15=1000000000000000:=by decide
 have:=kE h;refine⟨⟨by omega,by omega⟩,?_⟩;rw[fJ,mC h]
theorem ld(w:List UInt8)(r:List (List UInt8)):tn (w::r)=32::(w++Lib.joinTail [44] r):=by
 unfold tn;simp
theorem BE(hn:1000002<=n)(s:List UInt8)(hs:s.length<=20000):∃(L:LN) (ok:Bool),fP.F n (bs s)=some (HJ L ok)/\(ok=true->iG L/\qF L=s):=by
 unfold fP.F fP.e;simp only[gQ,BV];rw[show bs [68,67,76,32]=bs gX from rfl,AU,ab];by_cases hp:s.take gX.length=gX
 ·rw[ag hp];simp only;rw[ak];obtain⟨o,ok,d1,d2⟩:=AR hn (s.drop gX.length) (by rw[aQ];omega);rw[d1,ab];simp only;cases fF:ok with
  | false=>exact⟨⟨1,o,0,[],u_⟩,false,rfl,λh=>by cases h⟩
  | true=>
   rw[ak,mq (by omega),ab];cases kL:gD o.nm with
   | false=>exact⟨⟨1,o,0,[],u_⟩,false,rfl,λh=>by cases h⟩
   | true=>
    obtain⟨g1,g2⟩:=d2 fF kL;rw[aQ]at g2;rw[ak,Fa hn o g1 (by omega),ab,dK];refine⟨⟨1,o,0,[],u_⟩,decide (LZ o=s),rfl,λh=>?_⟩;rw[ay]at h;exact⟨.op o g1,by unfold qF;rw[ag rfl];exact h⟩
 ·rw[af hp];simp only;rw[cond_false,gY s 32 (by omega),ab,Er];simp only;have hu:=oR s 32;have NV:=jv s 32;rw[show(⟨#[77,79,78,73,84,79,82]⟩:ByteArray)=bs o9 from rfl,dK];by_cases hm:gF s 32=o9
  ·rw[cU hm,zJ 32 _ (by rw[aQ];omega),ab];have Az:=mz 32 ((ia s 32).drop 1);rw[aQ]at Az;have:=DW n (lk 32 ((ia s 32).drop 1)) (by omega) (λw hw=>by have:=yl 32 _ w hw;rw[aQ]at this;omega) (lk 32 ((ia s 32).drop 1)).length 0 n [] (by omega) (by omega) (by simp);rw[dq];refine oa (P:=λq=>∃(L:LN) (ok:Bool),q=some (HJ L ok)/\(ok=true->iG L/\qF L=s)) this ?_;rw[aW,bF];by_cases ha:(lk 32 ((ia s 32).drop 1)).all iQ=true
   ·rw[ag ha];by_cases h4:(lk 32 ((ia s 32).drop 1)).length=4
    ·match hq:lk 32 ((ia s 32).drop 1),h4 with
     | [a,b,c,d],_=>
      rw[hq]at ha;simp only[bo,List.all_nil,Bool.and_true,ae]at ha;obtain⟨a1,a2,a3,a4⟩:=ha;obtain⟨r1,t1⟩:=uR a1;obtain⟨r2,t2⟩:=uR a2;obtain⟨r3,t3⟩:=uR a3;obtain⟨r4,t4⟩:=uR a4;refine⟨⟨3,lC,0,[],⟨_,_,_,_⟩⟩,true,rfl,λ_=>⟨.NF _ r1 r2 r3 r4,?_⟩⟩;unfold qF;rw[af (show ¬ (3:Int)=1 by decide),af (show ¬ (3:Int)=2 by decide),pK];simp only[t1,t2,t3,t4];rw[<-Ow hq];have gN:ia s 32≠[]:=by
       intro e;rw[e]at hq;cases hq
      rcases mn s 32 with h|⟨r,h⟩
      ·exact absurd h gN
      ·rw[h]at hu ⊢;rw[hm]at hu;exact hu.symm
    ·rw[FL (by rw[aj];exact h4)];exact⟨QL,false,rfl,λh=>by cases h⟩
   ·rw[af ha];exact⟨QL,false,rfl,λh=>by cases h⟩
  ·rw[cV hm];have en:([vs (⟨#[77,79,86,69]⟩:ByteArray),vs (⟨#[77,79,86,69,72]⟩:ByteArray),vs (⟨#[65,68,68]⟩:ByteArray),vs (⟨#[83,85,66]⟩:ByteArray),vs (⟨#[77,85,76]⟩:ByteArray),vs (⟨#[68,73,86]⟩:ByteArray),vs (⟨#[82,69,77]⟩:ByteArray),vs (⟨#[73,70,69,81]⟩:ByteArray),vs (⟨#[73,70,76,84]⟩:ByteArray),vs (⟨#[71,79,84,79]⟩:ByteArray),vs (⟨#[65,68,68,82]⟩:ByteArray),vs (⟨#[77,79,86,69,80]⟩:ByteArray),vs (⟨#[65,68,86,65,78,67,69]⟩:ByteArray),vs (⟨#[67,65,76,76]⟩:ByteArray),vs (⟨#[82,69,84,85,82,78]⟩:ByteArray),vs (⟨#[83,73,71,78,65,76]⟩:ByteArray),vs (⟨#[69,88,67,69,80,84,73,79,78]⟩:ByteArray),vs (⟨#[80,82,73,78,84]⟩:ByteArray),vs (⟨#[69,78,68]⟩:ByteArray)]:List AV)=Ws gV:=rfl;have N5:∀X:Option fP.T,((iM.F n (Ws gV) (bs (gF s 32))).bind λ_=>X)=X:=λX=>by rw[rR (by omega) gV (by decide),ab]
   have hI:=rR (n:=n) (by omega) gV (by decide) (gF s 32);refine oa (P:=λq=>∃(L:LN) (ok:Bool),q=some (HJ L ok)/\(ok=true->iG L/\qF L=s)) (show _=(if ia s 32≠[]then((Di.F n (bs ((ia s 32).drop 1)) (bs [44])).bind λp9=>bif decide (gA gV (gF s 32) 0>=0)then((so.F n p9).bind λku=>some ((0,2,bs [],0,0,0,0,0,bs [],bs [],0,0,gA gV (gF s 32) 0,p9,0,0,0,0,!ku):fP.T))else(some (0,2,bs [],0,0,0,0,0,bs [],bs [],0,0,gA gV (gF s 32) 0,p9,0,0,0,0,false)))else(bif decide (gA gV (gF s 32) 0>=0)then((so.F n []).bind λln=>some ((0,2,bs [],0,0,0,0,0,bs [],bs [],0,0,gA gV (gF s 32) 0,[],0,0,0,0,!ln):fP.T))else(some (0,2,bs [],0,0,0,0,0,bs [],bs [],0,0,gA gV (gF s 32) 0,[],0,0,0,0,false))))from ?_) ?_
   ·simp only[wj,BW,BV,xA,OZ,L7,OY]at en ⊢;refine cM (congrArg (λq=>Option.bind q _) hI) ?_;rw[ab];by_cases hr:ia s 32≠[]
    ·rw[decide_eq_true hr,ak,ag hr]
    ·rw[aU hr,cond_false,af hr]
   ·have mk:∀(fW:List (List UInt8)),0<=gA gV (gF s 32) 0->fW.all gD=true->s=gF s 32++tn fW->iG ⟨2,lC,gA gV (gF s 32) 0,fW,u_⟩/\qF ⟨2,lC,gA gV (gF s 32) 0,fW,u_⟩=s:=by
     intro fW h0 ig he;obtain⟨i1,i2,i3⟩:=Fo h0;refine⟨.ins _ fW ⟨i1,i2⟩ (λw hw=>aA.1 ig w hw),?_⟩;unfold qF;rw[af (show ¬ (2:Int)=1 by decide),ag (show(2:Int)=2 from rfl)];simp only;rw[i3];exact he.symm
    by_cases hr:ia s 32≠[]
    ·rw[ag hr,zJ 44 _ (by rw[aQ];omega),ab];have Az:=mz 44 ((ia s 32).drop 1);rw[aQ]at Az;by_cases h0:gA gV (gF s 32) 0>=0
     ·rw[cU h0,contains_eq (by omega) _ (by omega),ab,Bool.not_not];refine⟨⟨2,lC,gA gV (gF s 32) 0,lk 44 ((ia s 32).drop 1),u_⟩,(lk 44 ((ia s 32).drop 1)).all gD,rfl,λig=>mk _ h0 ig ?_⟩;cases hq:lk 44 ((ia s 32).drop 1)with
      | nil=>exact absurd hq (zL 44 _)
      | cons w r=>
       rw[ld,<-pb 44 _ w r hq];rcases mn s 32 with h|⟨r2,h⟩
       ·exact absurd h hr
       ·conv=>lhs;rw[hu]
        rw[h];rfl
     ·rw[cV h0];exact⟨⟨2,lC,gA gV (gF s 32) 0,lk 44 ((ia s 32).drop 1),u_⟩,false,rfl,λh=>by cases h⟩
    ·rw[af hr];by_cases h0:gA gV (gF s 32) 0>=0
     ·rw[cU h0,show([]:List AV)=Ws []from rfl,contains_eq (by omega) _ (by simp),ab];refine⟨⟨2,lC,gA gV (gF s 32) 0,[],u_⟩,true,rfl,λ_=>mk [] h0 rfl ?_⟩
      conv=>lhs;rw[hu]
      rw[Classical.not_not.1 hr];rfl
     ·rw[cV h0];exact⟨⟨2,lC,gA gV (gF s 32) 0,[],u_⟩,false,rfl,λh=>by cases h⟩
end
section
variable {n:Nat}
theorem IU(hn:1000002<=n){s:List UInt8}(hs:s.length<=20000)(hp:¬ s.take gX.length=gX)(hm:gF s 32≠o9)(h0:0<=gA gV (gF s 32) 0){fW:List (List UInt8)}(hr:(ia s 32=[]/\fW=[])\/(ia s 32≠[]/\fW=lk 44 ((ia s 32).drop 1)))(ig:fW.all gD=true):fP.F n (bs s)=some (HJ ⟨2,lC,gA gV (gF s 32) 0,fW,u_⟩ true):=by
 have NV:=jv s 32;have hI:=rR (n:=n) (by omega) gV (by decide) (gF s 32);unfold fP.F fP.e;simp only[gQ,BV];rw[show bs [68,67,76,32]=bs gX from rfl,AU,ab,af hp];simp only;rw[cond_false,gY s 32 (by omega),ab,Er];simp only;rw[show(⟨#[77,79,78,73,84,79,82]⟩:ByteArray)=bs o9 from rfl,dK,cV hm];refine cM (congrArg (λq=>Option.bind q _) hI) ?_;rw[ab];rcases hr with⟨hr,rfl⟩|⟨hr,rfl⟩
 ·rw[aU (λh=>h hr),cond_false,cU h0,show([]:List AV)=Ws []from rfl,contains_eq (by omega) _ (by simp),ab];rfl
 ·have Az:=mz 44 ((ia s 32).drop 1);rw[aQ]at Az;rw[decide_eq_true hr,ak,zJ 44 _ (by rw[aQ];omega),ab,cU h0,contains_eq (by omega) _ (by omega),ab,ig];rfl
theorem IT(hn:1000002<=n){s:List UInt8}(hs:s.length<=20000)(hp:¬ s.take gX.length=gX)(hm:gF s 32=o9){a b c d:List UInt8}(h4:lk 32 ((ia s 32).drop 1)=[a,b,c,d])(ha:([a,b,c,d]:List (List UInt8)).all iQ=true):fP.F n (bs s)=some (HJ ⟨3,lC,0,[],⟨((iy a:Nat):Int),((iy b:Nat):Int),((iy c:Nat):Int),((iy d:Nat):Int)⟩⟩ true):=by
 have NV:=jv s 32;unfold fP.F fP.e;simp only[gQ,BV];rw[show bs [68,67,76,32]=bs gX from rfl,AU,ab,af hp];simp only;rw[cond_false,gY s 32 (by omega),ab,Er];simp only;rw[show(⟨#[77,79,78,73,84,79,82]⟩:ByteArray)=bs o9 from rfl,dK,cU hm,zJ 32 _ (by rw[aQ];omega),ab];have Az:=mz 32 ((ia s 32).drop 1);rw[aQ]at Az;have:=DW n (lk 32 ((ia s 32).drop 1)) (by omega) (λw hw=>by have:=yl 32 _ w hw;rw[aQ]at this;omega) (lk 32 ((ia s 32).drop 1)).length 0 n [] (by omega) (by omega) (by simp);rw[dq];refine this.trans ?_;rw[aW,bF,h4,ag ha];rfl
theorem JH{op:Int}(h:0<=op/\op<=18)(fW:List (List UInt8)):gF (xw op++tn fW) 32=xw op/\ia (xw op++tn fW) 32=tn fW:=by
 obtain⟨f1,_⟩:=pE h;cases fW with
 | nil=>
  show gF (xw op++[]) 32=_/\ia (xw op++[]) 32=[];rw[bc];exact zE f1
 | cons w r=>
  rw[ld];exact jB f1 _
theorem xd{fW:List (List UInt8)}(gN:fW≠[])(ig:∀w∈fW,gD w=true):lk 44 ((tn fW).drop 1)=fW:=by
 cases fW with
 | nil=>exact absurd rfl gN
 | cons w r=>
  rw[ld];exact Bt 44 r w (uT (ig w bZ)) (λx hx=>uT (ig x (bS _ hx)))
theorem DX(m:MN):gF (xz m) 32=o9/\ia (xz m) 32=32::(Lib.itoa m.fr++32::(Lib.itoa m.tt++32::(Lib.itoa m.ex++32::Lib.itoa m.hd))):=by
 rw[pK];exact jB (by decide) _
theorem L1{m:MN}(h1:Rg m.fr)(h2:Rg m.tt)(h3:Rg m.ex)(h4:Rg m.hd):lk 32 ((ia (xz m) 32).drop 1)=[Lib.itoa m.fr,Lib.itoa m.tt,Lib.itoa m.ex,Lib.itoa m.hd]:=by
 rw[(DX m).2];show lk 32 (Lib.itoa m.fr++32::(Lib.itoa m.tt++32::(Lib.itoa m.ex++32::Lib.itoa m.hd)))=_;rw[uK 32 (jW h1.1 (by decide)),uK 32 (jW h2.1 (by decide)),uK 32 (jW h3.1 (by decide)),yf 32 (jW h4.1 (by decide))]
theorem pJ{k:Int}(h:Rg k):iQ (Lib.itoa k)=true/\((iy (Lib.itoa k):Nat):Int)=k:=by
 have ov:(10:Nat) ^ 15=1000000000000000:=by decide
 obtain⟨h0,h1⟩:=h;obtain⟨a,rfl⟩:∃a:Nat,k=a:=⟨k.toNat,by omega⟩;rw[fJ,rk];exact⟨mE (by omega),rfl⟩
theorem wb(r:List UInt8):¬ (o9++r).take gX.length=gX:=by
 intro e;have:(o9++r).take gX.length=[77,79,78,73]:=rfl;rw[this]at e;revert e;decide
theorem IV(hn:1000002<=n){L:LN}(hL:iG L)(hs:(qF L).length<=20000):fP.F n (bs (qF L))=some (HJ L true):=by
 cases hL with
 | op o h=>
  have e:qF ⟨1,o,0,[],u_⟩=gX++nW o:=by rw[<-yw h];rfl
  have hT:gX++nW o=LZ o:=(yw h).symm;rw[e]at hs ⊢;rw[ai]at hs;have hv:=OS h;unfold fP.F fP.e;simp only[gQ,BV];rw[show bs [68,67,76,32]=bs gX from rfl,AU,ab,ag cK,cF];simp only;rw[ak,AQ hn o h (by omega),ab];simp only;rw[ak,mq (by omega),ab,h.name,ak,Fa hn o h (by omega),ab,dK,hT];simp only[decide_true];rfl
 | ins p_ fW h NZ=>
  have e:qF ⟨2,lC,p_,fW,u_⟩=xw p_++tn fW:=rfl;rw[e]at hs ⊢;obtain⟨u1,u2⟩:=JH h fW;obtain⟨f1,f2,f3,f4,f5⟩:=pE h;have:=IU hn hs (yB h _) (by rw[u1];exact f3) (by rw[u1,f2];exact h.1) (fW:=fW) (by
   rw[u2];cases fW with
   | nil=>exact .inl ⟨rfl,rfl⟩
   | cons w r=>exact .inr ⟨by rw[ld];simp,(xd (by simp) NZ).symm⟩) (aA.2 NZ)
  rw[u1,f2]at this;exact this
 | NF m h1 h2 h3 h4=>
  have e:qF ⟨3,lC,0,[],m⟩=xz m:=rfl;rw[e]at hs ⊢;obtain⟨a1,a2⟩:=pJ h1;obtain⟨b1,b2⟩:=pJ h2;obtain⟨c1,c2⟩:=pJ h3;obtain⟨d1,d2⟩:=pJ h4;have:=IT hn hs (by rw[pK];exact wb _) (DX m).1 (L1 h1 h2 h3 h4) (by simp[a1,b1,c1,d1]);rw[a2,b2,c2,d2]at this;exact this
theorem L0(hn:1000002<=n)(p_:Int):∀(N:Nat) (t:List UInt8) (acc:List (List UInt8)) (m:Nat),t.length<=N->N+1<m->N<=20000->acc.length+N<=100000->∃(fW:List (List UInt8)) (ok:Bool),jA.l n m (.z24 0 0 (⟨#[]⟩:ByteArray) 0 0 0 0 0 (⟨#[]⟩:ByteArray) (⟨#[]⟩:ByteArray) 0 0 0 0 0 0 0 2 0 (⟨#[]⟩:ByteArray) 0 0 0 0 0 (⟨#[]⟩:ByteArray) (⟨#[]⟩:ByteArray) 0 0 p_ 0 0 0 0 (Ws acc) (bs t) false)=some (LH ⟨2,lC,p_,acc++fW,u_⟩ ok)/\ok=(lk 44 t).all gD/\(ok=true->fW=lk 44 t):=by
 intro N;induction N with
 | zero=>
  intro t acc m ht hm hN ha;have lO:fe=1000000000:=rfl;obtain⟨m,rfl⟩:∃q,m=q+1:=⟨m - 1,by omega⟩;have:t=[]:=aV.1 (by omega);subst this;rw[jA.EF];unfold jA.qW;rw[gQ];obtain⟨u,t',b',e1,l1,o1⟩:=nY (show 400000<=n by omega) 44 [] (by simp) false;rw[e1,ab];simp only;have:HL 44 []=none:=rfl;rw[eW,ab,this]at o1;obtain rfl:=ij o1;rw[dq,cU (by simp;omega),ak];refine⟨[u],false,?_,rfl,λh=>by cases h⟩;have:Ws acc++[vs (bs u)]=Ws (acc++[u]):=by simp[Ws]
  rw[this];rfl
 | succ N ih=>
  intro t acc m ht hm hN ha;have lO:fe=1000000000:=rfl;obtain⟨m,rfl⟩:∃q,m=q+1:=⟨m - 1,by omega⟩;rw[jA.EF];unfold jA.qW;rw[gQ];obtain⟨u,t',b',e1,l1,o1⟩:=nY (show 400000<=n by omega) 44 t (by omega) false;rw[e1,ab];simp only;rw[eW,ab]at o1;have ew:Ws acc++[vs (bs u)]=Ws (acc++[u]):=by simp[Ws]
  rw[dq,cU (by simp;omega),ew];rw[zK];unfold HL rF at o1;by_cases kL:gD (gF t 44)=true
  ·rw[ag kL]at o1;obtain⟨rfl,rfl,rfl⟩:=CB o1;rw[cond_false,Al,dK];by_cases hr:ia t 44=[]
   ·rw[cU hr,hr];refine⟨[gF t 44],true,rfl,?_,λ_=>rfl⟩;simp[kL]
   ·rw[cV hr];rcases mn t 44 with h|⟨r,h⟩
    ·exact absurd h hr
    ·have NV:=congrArg List.length h;have hul:=jv t 44;rw[az]at NV;rw[h,gJ (by omega) (ir 44 r),ab];simp only;obtain⟨fW,ok,g1,g2,g3⟩:=ih r (acc++[gF t 44]) m (by omega) (by omega) (by omega) (by simp;omega);refine⟨gF t 44::fW,ok,?_,?_,λfF=>?_⟩
     ·have ea:acc++gF t 44::fW=acc++[gF t 44]++fW:=by simp
      rw[ea];exact g1
     ·rw[g2,bo,kL,ct]
     ·rw[g3 fF]
  ·rw[af kL]at o1;obtain rfl:=ij o1;rw[ak];refine⟨[u],false,rfl,?_,λh=>by cases h⟩;rw[bo,a_ _ |>.mp kL];rfl
end
section
variable {n:Nat}
theorem u4{α:Type}(s:List UInt8)(A B:Option α):(let y1:Bool:=decide ((((bs s).size:Nat):Int)>=4)
 bif y1 then(bif decide ((0:Int)<=4)&&decide ((4:Int)<=(((bs s).size:Nat):Int))then(let y2:Bool:=((bs s).extract 0 4).toList==(⟨#[68,67,76,32]⟩:ByteArray).toList
 bif y2 then(bif decide ((0:Int)<=4)&&decide ((4:Int)<=(((bs s).size:Nat):Int))then A else none)else B)else none)else B)=if s.take gX.length=gX then A else B:=by
 simp only[cY];by_cases h:4<=s.length
 ·rw[cU (by omega),dX (by rw[ae,ay,ay];omega),dX (by rw[ae,ay,ay];omega),show(bs s).extract 0 4=bs (s.take 4)from mf s 4,show(⟨#[68,67,76,32]⟩:ByteArray)=bs gX from rfl,dK];by_cases hd:s.take gX.length=gX
  ·rw[cU (show s.take 4=gX from hd),ag hd]
  ·rw[cV (show ¬ s.take 4=gX from hd),af hd]
 ·rw[cV (by omega),af];intro e;have:=congrArg List.length e;rw[bd]at this;have hl:gX.length=4:=rfl;omega
theorem L5(hn:1000002<=n)(r:List UInt8)(hs:r.length<=20000):∃(m:MN) (t:List UInt8) (b:Bool),((fk.F n (bs [32]) (bs r) false).bind λp6=>
 (gO.F n (bs [32]) p6.1 p6.2).bind λp7=>
 (fk.F n (bs [32]) p7.2.1 p7.2.2).bind λp8=>
 (gO.F n (bs [32]) p8.1 p8.2).bind λp9=>
 (fk.F n (bs [32]) p9.2.1 p9.2.2).bind λku=>
 (gO.F n (bs [32]) ku.1 ku.2).bind λln=>
 (fk.F n (bs [32]) ln.2.1 ln.2.2).bind λnV=>
 (gO.F n (⟨#[]⟩:ByteArray) nV.1 nV.2).bind λkR=>some ((p7.1,p9.1,ln.1,kR):Int × Int × Int × Int × ByteArray × Bool))=some (m.fr,m.tt,m.ex,m.hd,bs t,b)/\(b=false->Rg m.fr/\Rg m.tt/\Rg m.ex/\Rg m.hd/\r=32::(Lib.itoa m.fr++32::(Lib.itoa m.tt++32::(Lib.itoa m.ex++32::Lib.itoa m.hd)))/\t=[]):=by
 have n2:2<=n:=by omega
 have n4:400000<=n:=by omega
 have ov:(10:Nat) ^ 15=1000000000000000:=by decide
 obtain⟨t1,b1,e1,l1,o1⟩:=fw n2 [32] r false;obtain⟨v1,t2,b2,e2,l2,o2⟩:=kg n4 32 t1 (by omega) b1;obtain⟨t3,b3,e3,l3,o3⟩:=fw n2 [32] t2 b2;obtain⟨v2,t4,b4,e4,l4,o4⟩:=kg n4 32 t3 (by omega) b3;obtain⟨t5,b5,e5,l5,o5⟩:=fw n2 [32] t4 b4;obtain⟨v3,t6,b6,e6,l6,o6⟩:=kg n4 32 t5 (by omega) b5;obtain⟨t7,b7,e7,l7,o7⟩:=fw n2 [32] t6 b6;obtain⟨v4,t8,b8,e8,l8,o8⟩:=qC n4 t7 (by omega) b7;refine⟨⟨v1,v2,v3,v4⟩,t8,b8,?_,λhb=>?_⟩
 ·simp only[e1,e2,e3,e4,e5,e6,e7,e8,ab]
 ·subst hb;obtain⟨rfl,g8⟩:=uy o8;obtain⟨rfl,g7⟩:=xM o7;obtain⟨rfl,g6⟩:=uy o6;obtain⟨rfl,g5⟩:=xM o5;obtain⟨rfl,g4⟩:=uy o4;obtain⟨rfl,g3⟩:=xM o3;obtain⟨rfl,g2⟩:=uy o2;obtain⟨_,g1⟩:=xM o1;obtain⟨k1,q1,r1,s1⟩:=nS g2;obtain⟨k2,q2,r2,s2⟩:=nS g4;obtain⟨k3,q3,r3,s3⟩:=nS g6;obtain⟨k4,q4,r4,s4⟩:=BF g8;simp only at q1 s1 q2 s2 q3 s3;cases q4;subst q1 q2 q3;have rg:∀k:Nat,k<10 ^ 15->Rg ((k:Nat):Int):=λk hk=>⟨by omega,by omega⟩;refine⟨rg _ r1,rg _ r2,rg _ r3,rg _ r4,?_,rfl⟩;simp only[fJ];rw[HK g1,s1,HK g3,s2,HK g5,s3,HK g7,s4]
theorem L3(hn:1000002<=n){m:MN}(h1:Rg m.fr)(h2:Rg m.tt)(h3:Rg m.ex)(h4:Rg m.hd):((fk.F n (bs [32]) (bs (32::(Lib.itoa m.fr++32::(Lib.itoa m.tt++32::(Lib.itoa m.ex++32::Lib.itoa m.hd))))) false).bind λp6=>
 (gO.F n (bs [32]) p6.1 p6.2).bind λp7=>
 (fk.F n (bs [32]) p7.2.1 p7.2.2).bind λp8=>
 (gO.F n (bs [32]) p8.1 p8.2).bind λp9=>
 (fk.F n (bs [32]) p9.2.1 p9.2.2).bind λku=>
 (gO.F n (bs [32]) ku.1 ku.2).bind λln=>
 (fk.F n (bs [32]) ln.2.1 ln.2.2).bind λnV=>
 (gO.F n (⟨#[]⟩:ByteArray) nV.1 nV.2).bind λkR=>some ((p7.1,p9.1,ln.1,kR):Int × Int × Int × Int × ByteArray × Bool))=some (m.fr,m.tt,m.ex,m.hd,bs [],false):=by
 have n2:2<=n:=by omega
 have n4:400000<=n:=by omega
 have i1:=gH m.fr (by have:=h1.1;omega) (by have:=h1.2;omega);have i2:=gH m.tt (by have:=h2.1;omega) (by have:=h2.2;omega);have i3:=gH m.ex (by have:=h3.1;omega) (by have:=h3.2;omega);have i4:=gH m.hd (by have:=h4.1;omega) (by have:=h4.2;omega);rw[gJ n2 (ir 32 _),ab];simp only;rw[sK n4 (by simp only[ai,az];omega) (pO h1 (by decide) _),ab];simp only;rw[gJ n2 (ir 32 _),ab];simp only;rw[sK n4 (by simp only[ai,az];omega) (pO h2 (by decide) _),ab];simp only;rw[gJ n2 (ir 32 _),ab];simp only;rw[sK n4 (by simp only[ai,az];omega) (pO h3 (by decide) _),ab];simp only;rw[gJ n2 (ir 32 _),ab];simp only;rw[vZ n4 (by omega) (B2 h4),ab]
theorem L4(r:Option (ByteArray × Bool))(X:Option (Int × Int × Int × Int × ByteArray × Bool))(K:Int->Int->Int->Int->Bool->fP.T){m:MN}{t:List UInt8}{b:Bool}(h:X=some (m.fr,m.tt,m.ex,m.hd,bs t,b)):(X.bind λp=>bif !p.2.2.2.2.2 then(let xS:Bool:=p.2.2.2.2.1.toList==(⟨#[]⟩:ByteArray).toList
 some (K p.1 p.2.1 p.2.2.1 p.2.2.2.1 xS))else some (K p.1 p.2.1 p.2.2.1 p.2.2.2.1 false))=some (K m.fr m.tt m.ex m.hd (!b&&decide (t=[]))):=by
 rw[h,ab];simp only;rw[Al,dK];cases b<;>rfl
theorem Jm{α:Type}(a1:Option (ByteArray × Bool))(f1 f3 f5:ByteArray × Bool->Option (Int × ByteArray × Bool))(f2 f4 f6:Int × ByteArray × Bool->Option (ByteArray × Bool))(f7:ByteArray × Bool->Option (Int × ByteArray × Bool))(K:Int->Int->Int->Int × ByteArray × Bool->Option α) :
  (a1.bind λp6=>(f1 p6).bind λp7=>(f2 p7).bind λp8=>(f3 p8).bind λp9=>(f4 p9).bind λku=>(f5 ku).bind λln=>(f6 ln).bind λnV=>(f7 nV).bind λkR=>K p7.1 p9.1 ln.1 kR)=((a1.bind λp6=>(f1 p6).bind λp7=>(f2 p7).bind λp8=>(f3 p8).bind λp9=>(f4 p9).bind λku=>(f5 ku).bind λln=>(f6 ln).bind λnV=>(f7 nV).bind λkR=>some (p7.1,p9.1,ln.1,kR)).bind λp=>K p.1 p.2.1 p.2.2.1 p.2.2.2):=by
 cases a1 with
 | none=>rfl
 | some p6=>
  simp only[ab];cases f1 p6 with
  | none=>rfl
  | some p7=>
   simp only[ab];cases f2 p7 with
   | none=>rfl
   | some p8=>
    simp only[ab];cases f3 p8 with
    | none=>rfl
    | some p9=>
     simp only[ab];cases f4 p9 with
     | none=>rfl
     | some ku=>
      simp only[ab];cases f5 ku with
      | none=>rfl
      | some ln=>
       simp only[ab];cases f6 ln with
       | none=>rfl
       | some nV=>
        simp only[ab];cases f7 nV with
        | none=>rfl
        | some kR=>rfl
theorem IL(hn:1000002<=n){s:List UInt8}(hs:s.length<=20000)(hp:¬ s.take gX.length=gX)(hm:gF s 32=o9){m:MN}{t:List UInt8}{b:Bool}(h:((fk.F n (bs [32]) (bs (ia s 32)) false).bind λp6=>
 (gO.F n (bs [32]) p6.1 p6.2).bind λp7=>
 (fk.F n (bs [32]) p7.2.1 p7.2.2).bind λp8=>
 (gO.F n (bs [32]) p8.1 p8.2).bind λp9=>
 (fk.F n (bs [32]) p9.2.1 p9.2.2).bind λku=>
 (gO.F n (bs [32]) ku.1 ku.2).bind λln=>
 (fk.F n (bs [32]) ln.2.1 ln.2.2).bind λnV=>
 (gO.F n (⟨#[]⟩:ByteArray) nV.1 nV.2).bind λkR=>some ((p7.1,p9.1,ln.1,kR):Int × Int × Int × Int × ByteArray × Bool))=some (m.fr,m.tt,m.ex,m.hd,bs t,b)):jA.F n (bs s)=some (LH ⟨3,lC,0,[],m⟩ (!b&&decide (t=[]))):=by
 unfold jA.F jA.e;simp only[gQ];refine(u4 s _ _).trans ?_;rw[af hp,iP (by omega) s (by omega) 32 false,ab];simp only;rw[show(⟨#[77,79,78,73,84,79,82]⟩:ByteArray)=bs o9 from rfl,dK,cU hm];refine(Jm _ (λp6=>gO.F n (bs [32]) p6.1 p6.2) (λp8=>gO.F n (bs [32]) p8.1 p8.2) (λku=>gO.F n (bs [32]) ku.1 ku.2) (λp7=>fk.F n (bs [32]) p7.2.1 p7.2.2) (λp9=>fk.F n (bs [32]) p9.2.1 p9.2.2) (λln=>fk.F n (bs [32]) ln.2.1 ln.2.2) (λnV=>gO.F n (⟨#[]⟩:ByteArray) nV.1 nV.2) (λa b c kR=>bif !kR.2.2 then(let xS:Bool:=kR.2.1.toList==(⟨#[]⟩:ByteArray).toList
  some ((3,0,(⟨#[]⟩:ByteArray),0,0,0,0,0,(⟨#[]⟩:ByteArray),(⟨#[]⟩:ByteArray),0,0,0,[],a,b,c,kR.1,xS):fP.T))else some (3,0,(⟨#[]⟩:ByteArray),0,0,0,0,0,(⟨#[]⟩:ByteArray),(⟨#[]⟩:ByteArray),0,0,0,[],a,b,c,kR.1,false))).trans ?_
 exact L4 none _ (λa b c d y=>(3,0,(⟨#[]⟩:ByteArray),0,0,0,0,0,(⟨#[]⟩:ByteArray),(⟨#[]⟩:ByteArray),0,0,0,[],a,b,c,d,y)) h
theorem IM(hn:1000002<=n){s:List UInt8}(hs:s.length<=20000)(hp:¬ s.take gX.length=gX)(hm:gF s 32≠o9):∃(fW:List (List UInt8)) (ok:Bool),jA.F n (bs s)=some (LH ⟨2,lC,gA gV (gF s 32) 0,fW,u_⟩ ok)/\(ok=true↔0<=gA gV (gF s 32) 0/\(ia s 32=[]\/(lk 44 ((ia s 32).drop 1)).all gD=true))/\(ok=true->fW=if ia s 32=[]then[]else lk 44 ((ia s 32).drop 1)):=by
 have NV:=jv s 32;unfold jA.F jA.e;simp only[gQ];refine oa (P:=λq=>∃(fW:List (List UInt8)) (ok:Bool),q=some (LH ⟨2,lC,gA gV (gF s 32) 0,fW,u_⟩ ok)/\(ok=true↔0<=gA gV (gF s 32) 0/\(ia s 32=[]\/(lk 44 ((ia s 32).drop 1)).all gD=true))/\(ok=true->fW=if ia s 32=[]then[]else lk 44 ((ia s 32).drop 1))) (u4 s _ _) ?_;rw[af hp,iP (by omega) s (by omega) 32 false,ab];simp only;rw[show(⟨#[77,79,78,73,84,79,82]⟩:ByteArray)=bs o9 from rfl,dK,cV hm,Ji,ab,yK (by omega) gV (by decide),ab,dD];by_cases h1:gA gV (gF s 32) 0=-1
 ·rw[ag h1];refine⟨[],false,rfl,⟨(λh=>by cases h),λh=>?_⟩,λh=>by cases h⟩;rw[h1]at h;have:=h.1;omega
 ·rw[af h1];have h0:0<=gA gV (gF s 32) 0:=by
   have:=pM gV (gF s 32) 0;omega
  rw[Al,dK];by_cases hr:ia s 32=[]
  ·rw[cU hr];exact⟨[],true,rfl,⟨λ_=>⟨h0,.inl hr⟩,λ_=>rfl⟩,λ_=>by rw[ag hr]⟩
  ·rw[cV hr];rcases mn s 32 with h|⟨r,h⟩
   ·exact absurd h hr
   ·rw[h]at NV;rw[az]at NV;rw[h,gJ (by omega) (ir 32 r),ab];obtain⟨fW,ok,g1,g2,g3⟩:=L0 hn (gA gV (gF s 32) 0) r.length r [] n (aH _) (by omega) (by omega) (by simp;omega);refine⟨fW,ok,g1,?_,λfF=>?_⟩
    ·rw[g2];constructor
     ·intro hh;exact⟨h0,.inr hh⟩
     ·rintro⟨_,hh|hh⟩
      ·cases hh
      ·exact hh
    ·rw[af (by simp),g3 fF];rfl
theorem OA(hn:1000002<=n)(s:List UInt8)(hs:s.length<=20000):∃(L:LN) (ok:Bool),jA.F n (bs s)=some (LH L ok)/\(ok=true->iG L/\qF L=s):=by
 have hu:=oR s 32;by_cases hp:s.take gX.length=gX
 ·unfold jA.F jA.e;refine oa (P:=λq=>∃(L:LN) (ok:Bool),q=some (LH L ok)/\(ok=true->iG L/\qF L=s)) (u4 s _ _) ?_;rw[ag hp,show(bs s).extract 4 (bs s).size=bs (s.drop 4)from gu s 4];obtain⟨o,ok,g1,g2⟩:=DD hn (s.drop 4) (by rw[aQ];omega);rw[g1,ab];refine⟨⟨1,o,0,[],u_⟩,ok,rfl,λfF=>?_⟩;obtain⟨q1,q2⟩:=g2 fF;refine⟨.op o q1,?_⟩;show LZ o=s;have:=bW gX.length s;rw[hp]at this;rw[yw q1,q2];exact this
 ·by_cases hm:gF s 32=o9
  ·have NV:=jv s 32;obtain⟨m,t,b,g1,g2⟩:=L5 hn (ia s 32) (by omega);refine⟨_,_,IL hn hs hp hm g1,λfF=>?_⟩;rw[ae]at fF;obtain⟨r1,r2,r3,r4,e,_⟩:=g2 (by cases b with
    | false=>rfl
    | true=>cases fF.1)
   refine⟨.NF m r1 r2 r3 r4,?_⟩;show xz m=s;rw[pK,<-e,<-hm];exact hu.symm
  ·obtain⟨fW,ok,g1,g2,g3⟩:=IM hn hs hp hm;refine⟨_,_,g1,λfF=>?_⟩;obtain⟨h0,hr⟩:=g2.1 fF;have kL:=g3 fF;obtain⟨i1,i2,i3⟩:=Fo h0;have ig:∀w∈fW,gD w=true:=by
    rw[kL];split
    ·intro w hw;cases hw
    ·rename_i h;rcases hr with hr|hr
     ·exact absurd hr h
     ·exact λw hw=>aA.1 hr w hw
   refine⟨.ins _ fW ⟨i1,i2⟩ ig,?_⟩;show xw (gA gV (gF s 32) 0)++tn fW=s;rw[i3,kL]
   conv=>rhs;rw[hu]
   congr 1;split
   ·rename_i h;rw[h];rfl
   ·rename_i h;rcases mn s 32 with h2|⟨r,h2⟩
    ·exact absurd h2 h
    ·rw[h2];cases hq:lk 44 r with
     | nil=>exact absurd hq (zL 44 _)
     | cons w q=>
      show tn (lk 44 r)=_;rw[hq,ld,<-pb 44 _ w q hq]
theorem Oz(hn:1000002<=n){L:LN}(hL:iG L)(hs:(qF L).length<=20000):jA.F n (bs (qF L))=some (LH L true):=by
 cases hL with
 | op o h=>
  have e:qF ⟨1,o,0,[],u_⟩=gX++nW o:=by rw[<-yw h];rfl
  rw[e]at hs ⊢;rw[ai]at hs;unfold jA.F jA.e;refine(u4 _ _ _).trans ?_;rw[ag cK,show(bs (gX++nW o)).extract 4 (bs (gX++nW o)).size=bs ((gX++nW o).drop 4)from gu _ 4,show(gX++nW o).drop 4=nW o from cF (l₁:=gX),DC hn o h (by omega),ab];rfl
 | ins p_ fW h NZ=>
  have e:qF ⟨2,lC,p_,fW,u_⟩=xw p_++tn fW:=rfl;rw[e]at hs ⊢;obtain⟨u1,u2⟩:=JH h fW;obtain⟨f1,f2,f3,f4,f5⟩:=pE h;obtain⟨nm2,ok,g1,g2,g3⟩:=IM hn hs (yB h _) (by rw[u1];exact f3);rw[u1,u2,f2]at g2;rw[u1,f2]at g1;rw[u2]at g3;have fF:ok=true:=by
   rw[g2];refine⟨h.1,?_⟩;cases fW with
   | nil=>exact .inl rfl
   | cons w r=>exact .inr (by rw[xd (by simp) NZ];exact aA.2 NZ)
  have:=g3 fF;rw[g1,fF,this];cases fW with
  | nil=>rfl
  | cons w r=>
   rw[af (by rw[ld];simp),xd (by simp) NZ]
 | NF m h1 h2 h3 h4=>
  have e:qF ⟨3,lC,0,[],m⟩=xz m:=rfl;rw[e]at hs ⊢;obtain⟨u1,u2⟩:=DX m;have hf:=L3 hn h1 h2 h3 h4;rw[<-u2]at hf;exact IL hn hs (by rw[pK];exact wb _) u1 hf
theorem Gu(hn:1000002<=n)(s:List UInt8)(hs:s.length<=20000):∃(L L2:LN) (ok:Bool),fP.F n (bs s)=some (HJ L ok)/\jA.F n (bs s)=some (LH L2 ok)/\(ok=true->L=L2/\iG L/\qF L=s):=by
 obtain⟨L,ok,e1,g1⟩:=BE hn s hs;obtain⟨L2,ok2,e2,g2⟩:=OA hn s hs;cases hk:ok with
 | true=>
  obtain⟨a1,a2⟩:=g1 hk;subst hk;have:=Oz hn a1 (by rw[a2];exact hs);rw[a2]at this;exact⟨L,L,true,e1,this,λ_=>⟨rfl,a1,a2⟩⟩
 | false=>
  subst hk;cases nz:ok2 with
  | false=>
   subst nz;exact⟨L,L2,false,e1,e2,λh=>by cases h⟩
  | true=>
   subst nz;obtain⟨a1,a2⟩:=g2 rfl;have:=IV hn a1 (by rw[a2];exact hs);rw[a2]at this;exact⟨L2,L2,true,this,e2,λ_=>⟨rfl,a1,a2⟩⟩
end
theorem KB{c:UInt8}(hc:c≠39):∀{x:List UInt8},x.contains c=false->(tZ x).contains c=false
 | [],_=>rfl
 | d::x,h=>by
  rw[fB,bw]at h;rw[jo,fa,KB hc h.2,Bool.or_false];split
  ·rw[fB,fB,aU hc];rfl
  ·rw[fB,h.1];rfl
theorem OT{x:List UInt8}(h:x.all oI=true):x.contains 10=false:=by
 rw[<-a_];intro hh;rw[bT,ay]at hh;have:=aA.1 h 10 hh;revert this;decide
theorem GO(x:List UInt8):(oC x).contains 10=false:=by
 have all:∀k:Fin 256,(La (UInt8.ofNat k.1)).contains 10=false:=by decide +kernel
 induction x with
 | nil=>rfl
 | cons c x ih=>
  have h:=all ⟨c.toNat,c.toNat_lt⟩;simp only[UInt8.ofNat_toNat]at h;rw[mv,fa,h,ih];rfl
theorem F3{k s vn:Int}{vx:List UInt8}(h:oH k s vn vx):(lj k s vn vx).contains 10=false:=by
 have ho:=FN h;unfold lj;split
 ·split
  ·rename_i hp;unfold qd;rw[fa,fa,KB (by decide) (OT hp)];rfl
  ·rw[fa,fa,GO];rfl
 ·rename_i hk;have:=ho.resolve_left hk;exact Fe this.1 (by omega) (by decide) (by decide) (by decide)
theorem ya{k l s:Int}(h:GT k l s):(iz k l s).contains 10=false:=EU h (by decide) (Ip 10 (by decide)) (by decide)
theorem nX{l:List UInt8}(h:gD l=true):l.contains 10=false:=As h (by decide)
theorem tR{c:UInt8}(hc:c≠44):∀(r:List (List UInt8)),(∀x∈r,x.contains c=false)->(Lib.joinTail [44] r).contains c=false
 | [],_=>rfl
 | w::r,h=>by
  have e:Lib.joinTail [44] (w::r)=44::(w++Lib.joinTail [44] r):=by simp[Lib.joinTail]
  rw[e,fB,fa,aU hc,h w bZ,tR hc r (λx hx=>h x (bS _ hx))];rfl
theorem I_{op:Int}(h:0<=op/\op<=18):(xw op).contains 10=false:=by
 rcases mB h with rfl|rfl|rfl|rfl|rfl|rfl|rfl|rfl|rfl|rfl|rfl|rfl|rfl|rfl|rfl|rfl|rfl|rfl|rfl<;>decide
theorem I9{o:OP}(h:HE o):(nW o).contains 10=false:=by
 unfold nW Qp Qn;cases h with
 | IF hk nm ty v ba of tg=>
  have a1:=nX nm;have a2:=ya ty;have a3:=F3 v;rcases hk with hk|hk<;>simp only[hk]<;>simp[fa,fB]at a1 a2 a3 ⊢<;>exact⟨a1,a2,a3⟩
 | K7 hk nm ty vn vx ba of tg=>
  have a1:=nX nm;have a2:=ya ty;have a3:=nX ba;have a4:=jW of.1 (show eQ 10=false by decide);rcases hk with hk|hk<;>simp only[hk]<;>simp[fa,fB]at a1 a2 a3 a4 ⊢<;>exact⟨a1,a2,a3,a4⟩
 | ptr hk nm k l s vn vx ba of tg=>
  have a1:=nX nm;simp only[hk];simp[fa,fB]at a1 ⊢;exact a1
 | Ma hk nm k l s vn vx ba of tg=>
  have a1:=nX nm;have a4:=jW tg.1 (show eQ 10=false by decide);simp only[hk];simp[fa,fB]at a1 a4 ⊢;exact⟨a1,a4⟩
theorem Jr{L:LN}(h:iG L):(qF L).contains 10=false:=by
 cases h with
 | op o h=>
  have e:qF ⟨1,o,0,[],u_⟩=gX++nW o:=by rw[<-yw h];rfl
  rw[e,fa,I9 h];rfl
 | ins p_ fW h hn=>
  have e:qF ⟨2,lC,p_,fW,u_⟩=xw p_++tn fW:=rfl;rw[e,fa,I_ h];cases fW with
  | nil=>rfl
  | cons w r=>
   rw[ld,fB,fa,nX (hn w bZ),tR (by decide) r (λx hx=>nX (hn x (bS _ hx)))];rfl
 | NF m h1 h2 h3 h4=>
  have e:qF ⟨3,lC,0,[],m⟩=xz m:=rfl;rw[e,pK,fa,fB,fa,fB,fa,fB,fa,fB,jW h1.1 (by decide),jW h2.1 (by decide),jW h3.1 (by decide),jW h4.1 (by decide)];rfl
def s6:List UInt8:=[59,10]
theorem yY:∀(l r:List UInt8),l.contains 10=false->Lib.index (l++59::10::r) s6=l.length
 | [],r,_=>by
  show Lib.index (59::10::r) s6=0;rw[Lib.index];simp[s6,List.isPrefixOf]
 | c::l,r,h=>by
  rw[fB,bw]at h;have ih:=yY l r h.2;have hp:s6.isPrefixOf (c::(l++59::10::r))=false:=by
   cases l with
   | nil=>simp[s6,List.isPrefixOf]
   | cons d l=>
    have h2:=h.2;rw[fB,bw,bH]at h2;simp[s6,List.isPrefixOf];intro _ e;exact absurd e h2.1
  show Lib.index (c::(l++59::10::r)) s6=_;rw[Lib.index,hp,af (by simp),ih,af (by simp<;>omega),az];omega
theorem MJ{l r:List UInt8}(h:l.contains 10=false):Lib.cut (l++59::10::r) s6=(l,r,true):=by
 unfold Lib.cut;rw[yY l r h,ag (by omega),au,cK];have:(l++59::10::r).drop (l.length+s6.length)=r:=by
  rw[List.drop_append,aF (by omega)];have:l.length+s6.length - l.length=2:=by show l.length+2 - l.length=2;omega
  rw[this];rfl
 rw[this]
theorem G7(s:List UInt8):Lib.cut s s6=(s,[],false)\/∃l r,s=l++59::10::r/\Lib.cut s s6=(l,r,true):=by
 rcases Lib.index_spec s s6 with⟨h,_⟩|⟨i,h,hi,ho,_⟩
 ·left;unfold Lib.cut;rw[h,af (by decide)]
 ·right;unfold Lib.occAt at ho;have hd:∃r,s.drop i=59::10::r:=by
   cases hq:s.drop i with
   | nil=>rw[hq]at ho;cases ho
   | cons a t=>
    cases t with
    | nil=>rw[hq]at ho;simp[s6,List.isPrefixOf]at ho
    | cons b t=>
     rw[hq]at ho;simp[s6,List.isPrefixOf]at ho;exact⟨t,by rw[<-ho.1,<-ho.2]⟩
  obtain⟨r,hr⟩:=hd;refine⟨s.take i,r,?_,?_⟩
  ·rw[<-hr,bW]
  ·unfold Lib.cut;rw[h,ag (by omega),au];have:s.drop (i+s6.length)=r:=by
    rw[<-cu,hr];rfl
   rw[this]
theorem G6(s:List UInt8):(∃l r,s=l++59::10::r/\l.contains 10=false)\/(ia s 10=[]\/∃r,ia s 10=10::r/\(gF s 10=[]\/∃q c,gF s 10=q++[c]/\c≠59))/\∀l r,s=l++59::10::r->l.contains 10=true:=by
 have hu:=oR s 10;have hn:=ER s 10;by_cases hg:∃l r,s=l++59::10::r/\l.contains 10=false
 ·exact .inl hg
 ·right;constructor
  ·rcases mn s 10 with h|⟨r,h⟩
   ·exact .inl h
   ·refine .inr ⟨r,h,?_⟩;rcases List.eq_nil_or_concat (gF s 10)with h2|⟨q,c,h2⟩
    ·exact .inl h2
    ·refine .inr ⟨q,c,by rw[h2];simp,?_⟩;rintro rfl;apply hg;refine⟨q,r,?_,?_⟩
     ·conv=>lhs;rw[hu,h2,h]
      simp
     ·rw[h2]at hn;simp only[List.concat_eq_append]at hn;rw[fa,bw]at hn;exact hn.1
  ·intro l r e;cases hl:l.contains 10 with
   | true=>rfl
   | false=>exact absurd ⟨l,r,e,hl⟩ hg
section
variable {n:Nat}
theorem KD(s:List UInt8)(h:s.length<=100000):ow.F n (bs s) (bs s6)=some (bs (Lib.cut s s6).1,bs (Lib.cut s s6).2.1,(Lib.cut s s6).2.2):=by
 unfold ow.F;rw[cU (by rw[cY];omega),show(bs s6).data.toList=s6 from rfl,show(bs s).data.toList=s from rfl]
theorem Dt(n:Nat)(T:List UInt8)(hT:T.length<=6000)(part at' : Int)(acc:List AV):∀(d i m:Nat),i+d<=T.length->(∀k,(hk:k<T.length)->i<=k->k<i+d->T[k]≠10)->dN.l n (m+d) (.z8 (bs T) part at' ((i:Nat):Int) acc)=dN.l n m (.z8 (bs T) part at' ((i+d:Nat):Int) acc)
 | 0,i,m,_,_=>rfl
 | d+1,i,m,h,hk=>by
  have hi:i<T.length:=by omega
  have ih:=Dt n T hT part at' acc d (i+1) m (by omega) (λk wH h1 h2=>hk k wH (by omega) (by omega));rw[show m+(d+1)=(m+d)+1 by omega,dN.at8];unfold dN.r8;simp only[cY];have gN:((T[i].toNat:Nat):Int)≠10:=by
   intro e;have e2:T[i].toNat=10:=by omega
   exact hk i hi (aH _) (by omega) (cz.1 (by rw[e2];rfl))
  rw[cU (by omega),de hi,ak,au,getD_at hi,eG,af gN,dY (by omega),ih,show i+1+d=i+(d+1) by omega]
end
def th(x:Nat × LN):AV:=.agg [vi x.1,vi x.2.pt,vs (bs x.2.o.nm),vi x.2.o.kd,vi x.2.o.k,vi x.2.o.l,vi x.2.o.s,vi x.2.o.vn,vs (bs x.2.o.vx),vs (bs x.2.o.ba),vi x.2.o.of,vi x.2.o.tg,vi x.2.p_,.sl ⟨true,9,false⟩ 1 (Ws x.2.fW),vi x.2.mo.fr,vi x.2.mo.tt,vi x.2.mo.ex,vi x.2.mo.hd]
def u7(x:Nat × LN):AV:=.agg [vi x.2.pt,vi x.1,vs (bs x.2.o.nm),vi x.2.o.kd,vi x.2.o.k,vi x.2.o.l,vi x.2.o.s,vi x.2.o.vn,vs (bs x.2.o.vx),vs (bs x.2.o.ba),vi x.2.o.of,vi x.2.o.tg,vi x.2.p_,.sl ⟨true,9,false⟩ 1 (Ws x.2.fW),vi x.2.mo.fr,vi x.2.mo.tt,vi x.2.mo.ex,vi x.2.mo.hd]
abbrev PR:=List AV × List AV × List AV × Int × Int
def Uj:Int->List (Nat × LN)->Prop
 | _,[]=>True
 | p,x::r=>p<=x.2.pt/\Uj x.2.pt r
section
variable {n:Nat}
theorem LO(hn:1000002<=n)(T:List UInt8)(hT:T.length<=6000)(at' : Nat)(tV:at'<T.length)(hb:∀l r,T.drop at'=l++59::10::r->l.contains 10=true)(part:Int)(acc:List AV)(m:Nat):jz.l n (m+2) (.z5 (bs T) ((at' : Nat):Int) part acc)=some ([],[],[],((at' : Nat):Int),8):=by
 rw[jz.Ht];unfold jz.r5;simp only[cY];rw[cU (by omega),dX (ec (by omega)),au,show(bs T).extract at' T.length=bs (T.drop at')from gu T at',show(⟨#[59,10]⟩:ByteArray)=bs s6 from rfl,KD _ (by rw[aQ];omega),ab];simp only[cY];have J_:(T.drop at').length=T.length - at':=aQ;have key:∃l f,Lib.cut (T.drop at') s6=(l,f)/\l.length<=T.length - at'/\((l=T.drop at')\/l.contains 10=true):=by
  rcases G7 (T.drop at')with h|⟨l,r,h1,h2⟩
  ·exact⟨_,_,h,by omega,.inl rfl⟩
  ·refine⟨_,_,h2,?_,.inr (hb l r h1)⟩;have:=congrArg List.length h1;rw[ai]at this;omega
 obtain⟨l,f,e1,e2,e3⟩:=key;rw[e1];simp only;have ew:IntKind.i64.wrap (((at' : Nat):Int)+((l.length:Nat):Int))=((at'+l.length:Nat):Int):=by rw[jU (by omega) (by omega)];omega
 simp only[ew];rw[dX (ec (by omega)),au,show(bs T).extract (at'+l.length) T.length=bs (T.drop (at'+l.length))from gu T _,AD,ab];obtain⟨L,ok,g1,g2⟩:=BE hn l (by omega);rw[g1,ab];simp only;cases fF:ok with
 | false=>rfl
 | true=>
  obtain⟨q1,q2⟩:=g2 fF;have Ch:=Jr q1;rw[q2]at Ch;rcases e3 with e3|e3
  ·have hd:T.drop (at'+l.length)=[]:=by rw[List.drop_eq_nil_iff];rw[e3,J_];omega
   rw[hd,aI,cond_false,aU (by decide)];rfl
  ·rw[Ch]at e3;cases e3
theorem I1(T:List UInt8)(hT:T.length<=6000)(at' : Nat){l r:List UInt8}(hd:T.drop at'=l++59::10::r)(hl:l.contains 10=false)(part:Int)(acc:List AV)(GS:acc.length<=6000)(m:Nat){L:LN}{ok:Bool}(hr:fP.F n (bs l)=some (HJ L ok)):jz.l n (m+2) (.z5 (bs T) ((at' : Nat):Int) part acc)=if ok=true/\part<=L.pt then jz.l n (m+1) (.z5 (bs T) ((at'+l.length+2:Nat):Int) L.pt (acc++[th (at',L)]))else some ([],[],[],((at' : Nat):Int),8):=by
 have hlen:=congrArg List.length hd;rw[aQ,ai,az,az]at hlen;have lO:fe=1000000000:=rfl;rw[jz.Ht];unfold jz.r5;simp only[cY];rw[cU (by omega),dX (ec (by omega)),au,show(bs T).extract at' T.length=bs (T.drop at')from gu T at',show(⟨#[59,10]⟩:ByteArray)=bs s6 from rfl,KD _ (by rw[aQ];omega),ab,hd,MJ hl];simp only[cY];have ew:IntKind.i64.wrap (((at' : Nat):Int)+((l.length:Nat):Int))=((at'+l.length:Nat):Int):=by rw[jU (by omega) (by omega)];omega
 have De:T.drop (at'+l.length)=59::10::r:=by rw[<-cu,hd,cF]
 simp only[ew];rw[dX (ec (by omega)),au,show(bs T).extract (at'+l.length) T.length=bs (T.drop (at'+l.length))from gu T _,AD,ab,hr,ab,De];simp only;rw[decide_eq_true (show(59::10::r).take s6.length=s6 from rfl),aI,cond_false];cases ok with
 | false=>rw[af (by simp)];rfl
 | true=>
  rw[aI,cond_false];by_cases hp:part<=L.pt
  ·rw[cV (by omega),ag ⟨rfl,hp⟩,cU (by simp;omega)];have ew2:IntKind.i64.wrap (((l.length:Nat):Int)+2)=((l.length+2:Nat):Int):=by rw[jU (by omega) (by omega)];omega
   have XA:IntKind.i64.wrap (((at' : Nat):Int)+((l.length+2:Nat):Int))=((at'+l.length+2:Nat):Int):=by rw[jU (by omega) (by omega)];omega
   simp only[ew2,XA];rfl
  ·rw[cU (by omega),af (λh=>hp h.2)];rfl
theorem OD(T:List UInt8)(hT:T.length<=6000)(at' : Nat)(tV:at'<T.length)(hb:ia (T.drop at') 10=[]\/∃r,ia (T.drop at') 10=10::r/\(gF (T.drop at') 10=[]\/∃q c,gF (T.drop at') 10=q++[c]/\c≠59))(part:Int)(acc:List AV)(m:Nat)(hm:(T.length - at')+5<=m):dN.l n m (.z6 (bs T) part ((at' : Nat):Int) acc)=some ([],[],[],((at' : Nat):Int),8):=by
 have hu:=oR (T.drop at') 10;have Yv:=ER (T.drop at') 10;have hlen:=congrArg List.length hu;rw[aQ,ai]at hlen;generalize gF (T.drop at') 10=u at *;obtain⟨m,rfl⟩:∃q,m=(q+2+u.length)+1:=⟨m - 3 - u.length,by omega⟩;have Ch:∀k,(hk:k<T.length)->at'<=k->k<at'+u.length->T[k]≠10:=by
  intro k hk h1 h2 e;have hg:u[k - at']'(by omega)=T[k]:=by
   have h3:(T.drop at')[k - at']?=T[k]?:=by rw[bm];congr 1;omega
   have h4:u[k - at']?=(T.drop at')[k - at']?:=by
    conv=>rhs;rw[hu]
    rw[aO (by omega)]
   rw[h3,aN hk,aN (by omega)]at h4;exact bQ h4
  have hm:T[k]∈u:=by rw[<-hg];exact aZ _
  rw[e]at hm;rw[<-a_]at Yv;exact Yv (by rw[bT,ay];exact hm)
 rw[dN.FT];unfold dN.r6;simp only[cY];rw[cU (by omega),Dt n T hT part _ acc u.length at' (m+2) (by omega) Ch,show m+2=(m+1)+1 from rfl,dN.at8];unfold dN.r8;simp only[cY];rcases hb with hb|⟨r,hr,hb⟩
 ·rw[hb,aJ]at hlen;rw[cV (by omega),dD,ag (by omega)];rfl
 ·rw[hr,az]at hlen;have hi:at'+u.length<T.length:=by omega
  have QG:T=(T.take at'++u)++10::r:=by
   conv=>lhs;rw[<-bW at' T,hu,hr]
   simp
  have GI:(T.take at').length=at':=by rw[bd];omega
  have xG:T[at'+u.length]=10:=by
   have:T[at'+u.length]?=some 10:=by
    conv=>lhs;rw[QG]
    rw[aR (by rw[ai];omega),ai,GI,Nat.sub_self];rfl
   rw[aN hi]at this;exact bQ this
  rw[cU (by omega),de hi,ak,au,getD_at hi,xG,eG,ag (show(((10:UInt8).toNat:Nat):Int)=10 from rfl),dD,af (by omega),dD];rcases hb with hb|⟨q,c,hb,hc⟩
  ·rw[ag (by rw[hb];simp)];rfl
  ·have hql:u.length=q.length+1:=by rw[hb];simp
   rw[af (by omega)];have ew:IntKind.i64.wrap (((at'+u.length:Nat):Int) - 1)=((at'+q.length:Nat):Int):=by rw[jU (by omega) (by omega)];omega
   have Pk:at'+q.length<T.length:=by omega
   have WK:T[at'+q.length]=c:=by
    have:T[at'+q.length]?=some c:=by
     conv=>lhs;rw[QG,hb]
     rw[bz,aR (by omega),GI,show at'+q.length - at'=q.length by omega];simp
    rw[aN Pk]at this;exact bQ this
   rw[ew,de Pk,ak,au,getD_at Pk,WK,eG,af]
   ·rfl
   ·intro e;exact hc (cz.1 (by have:(59:UInt8).toNat=59:=rfl;omega))
theorem LG(T:List UInt8)(hT:T.length<=6000)(at' : Nat){l r:List UInt8}(hd:T.drop at'=l++59::10::r)(hl:l.contains 10=false)(part:Int)(acc:List AV)(GS:acc.length<=6000)(m:Nat)(hm:l.length+6<=m){L:LN}{ok:Bool}(hr:jA.F n (bs l)=some (LH L ok)):dN.l n m (.z6 (bs T) part ((at' : Nat):Int) acc)=if ok=true/\part<=L.pt then dN.l n (m - (l.length+3)) (.z6 (bs T) L.pt ((at'+l.length+2:Nat):Int) (acc++[u7 (at',L)]))else some ([],[],[],((at' : Nat):Int),8):=by
 have hlen:=congrArg List.length hd;rw[aQ,ai,az,az]at hlen;have lO:fe=1000000000:=rfl;have tV:at'<T.length:=by omega
 obtain⟨m,rfl⟩:∃q,m=(q+2+(l.length+1))+1:=⟨m - 4 - l.length,by omega⟩;have GI:(T.take at').length=at':=by rw[bd];omega
 have QG:T=(T.take at'++(l++[59]))++10::r:=by
  conv=>lhs;rw[<-bW at' T,hd]
  simp
 have Ch:∀k,(hk:k<T.length)->at'<=k->k<at'+(l.length+1)->T[k]≠10:=by
  intro k hk h1 h2 e;have h3:T[k]?=(l++[59])[k - at']?:=by
   conv=>lhs;rw[QG]
   rw[bz,aR (by omega),GI,aO (by simp;omega)]
  rw[aN hk,e,aN (by simp;omega)]at h3;have hm:(10:UInt8)∈l++[59]:=by rw[bQ h3];exact aZ _
  rw[aS]at hm;rcases hm with hm|hm
  ·rw[<-a_]at hl;exact hl (by rw[bT,ay];exact hm)
  ·rw[bG]at hm;revert hm;decide
 rw[dN.FT];unfold dN.r6;simp only[cY];rw[cU (by omega),Dt n T hT part _ acc (l.length+1) at' (m+2) (by omega) Ch,show m+2=(m+1)+1 from rfl,dN.at8];unfold dN.r8;simp only[cY];have hi:at'+(l.length+1)<T.length:=by omega
 have xG:T[at'+(l.length+1)]=10:=by
  have:T[at'+(l.length+1)]?=some 10:=by
   conv=>lhs;rw[QG]
   rw[aR (by rw[ai,ai];simp;omega),ai,ai,GI,bN,Nat.sub_self];rfl
  rw[aN hi]at this;exact bQ this
 have ew:IntKind.i64.wrap (((at'+(l.length+1):Nat):Int) - 1)=((at'+l.length:Nat):Int):=by rw[jU (by omega) (by omega)];omega
 have Pk:at'+l.length<T.length:=by omega
 have My:T[at'+l.length]=59:=by
  have:T[at'+l.length]?=some 59:=by
   conv=>lhs;rw[QG]
   rw[bz,aR (by omega),GI,show at'+l.length - at'=l.length by omega];simp
  rw[aN Pk]at this;exact bQ this
 have hex:(bs T).extract at' (at'+l.length)=bs l:=by
  rw[od,hd,show at'+l.length - at'=l.length by omega,cK]
 rw[cU (by omega),de hi,ak,au,getD_at hi,xG,eG,ag (show(((10:UInt8).toNat:Nat):Int)=10 from rfl),dD,af (by omega),dD,af (by omega)];simp only[ew];rw[de Pk,ak,au,getD_at Pk,My,eG,ag (show(((59:UInt8).toNat:Nat):Int)=59 from rfl),dX (ec (by omega)),dX (ec (by omega)),au,hex,hr,ab];cases ok with
 | false=>rw[af (by simp)];rfl
 | true=>
  simp only;rw[aI,cond_false];by_cases hp:part<=L.pt
  ·have XA:IntKind.i64.wrap (((at'+(l.length+1):Nat):Int)+1)=((at'+l.length+2:Nat):Int):=by rw[jU (by omega) (by omega)];omega
   rw[cV (by omega),ag ⟨trivial,hp⟩,cU (by simp;omega),XA,show m+2+(l.length+1)+1 - (l.length+3)=m+1 by omega];rfl
  ·rw[cU (by omega),af (λh=>hp h.2)];rfl
end
abbrev XB(o:Option PR):Option PR:=o.bind λln=>some (ln.1,ln.2.1,ln.2.2.1,ln.2.2.2.1,ln.2.2.2.2)
theorem ML(o:Option PR):XB o=o:=by cases o<;>rfl
section
variable {n:Nat}
theorem loops(hn:1000002<=n)(T:List UInt8)(hT:T.length<=6000):∀(N at' : Nat) (part:Int) (acc:List (Nat × LN)) (m m2 K:Nat),at'<=T.length->T.length - at'<=N->N+2<=m->2*(T.length - at')+10+K<=m2->acc.length<=at'->
  (∃off:Nat,jz.l n m (.z5 (bs T) ((at' : Nat):Int) part (acc.map th))=some ([],[],[],((off:Nat):Int),8)/\dN.l n m2 (.z6 (bs T) part ((at' : Nat):Int) (acc.map u7))=some ([],[],[],((off:Nat):Int),8))\/
  (∃(ls:List (Nat × LN)) (m3:Nat),K<=m3/\jz.l n m (.z5 (bs T) ((at' : Nat):Int) part (acc.map th))=dI.F n ((acc++ls).map th)/\dN.l n m2 (.z6 (bs T) part ((at' : Nat):Int) (acc.map u7))=dN.l n m3 (.z21 0 ((acc++ls).map u7) [] [] [] [] [] [])/\(∀x∈ls,iG x.2)/\T.drop at'=flat (ls.map λx=>qF x.2)/\Uj part ls/\acc.length+ls.length<=T.length):=by
 intro N;have fin:∀(part:Int) (acc:List (Nat × LN)) (m m2 K:Nat),1<=m->1+K<=m2->acc.length<=T.length->(∃(ls:List (Nat × LN)) (m3:Nat),K<=m3/\jz.l n m (.z5 (bs T) ((T.length:Nat):Int) part (acc.map th))=dI.F n ((acc++ls).map th)/\dN.l n m2 (.z6 (bs T) part ((T.length:Nat):Int) (acc.map u7))=dN.l n m3 (.z21 0 ((acc++ls).map u7) [] [] [] [] [] [])/\(∀x∈ls,iG x.2)/\T.drop T.length=flat (ls.map λx=>qF x.2)/\Uj part ls/\acc.length+ls.length<=T.length):=by
  intro part acc m m2 K hm N0 ha;obtain⟨m,rfl⟩:∃q,m=q+1:=⟨m - 1,by omega⟩;obtain⟨m2,rfl⟩:∃q,m2=q+1:=⟨m2 - 1,by omega⟩;refine⟨[],m2,by omega,?_,?_,λx hx=>(by cases hx),?_,trivial,by simp;exact ha⟩
  ·rw[jz.Ht];unfold jz.r5;simp only[cY];rw[cV (by omega),bc];exact ML _
  ·rw[dN.FT];unfold dN.r6;simp only[cY];rw[cV (by omega),bc]
  ·rw[aF (aH _)];rfl
 induction N with
 | zero=>
  intro at' part acc m m2 K tV hN hm N0 ha;have:at'=T.length:=by omega
  subst this;exact .inr (fin part acc m m2 K (by omega) (by omega) ha)
 | succ N ih=>
  intro at' part acc m m2 K tV hN hm N0 ha;by_cases he:at'=T.length
  ·subst he;exact .inr (fin part acc m m2 K (by omega) (by omega) ha)
  have eT:at'<T.length:=by omega
  obtain⟨m,rfl⟩:∃q,m=q+2:=⟨m - 2,by omega⟩;rcases G6 (T.drop at')with⟨l,r,hd,hl⟩|⟨pR,yP⟩
  ·have hlen:=congrArg List.length hd;rw[aQ,ai,az,az]at hlen;obtain⟨L,L2,ok,e1,e2,e3⟩:=Gu hn l (by omega);have hP:=I1 (n:=n) T hT at' hd hl part (acc.map th) (by rw[aj];omega) m e1;have hR:=LG (n:=n) T hT at' hd hl part (acc.map u7) (by rw[aj];omega) m2 (by omega) e2;rw[hP,hR];cases ok with
   | false=>
    rw[af (by simp),af (by simp)];exact .inl ⟨at',rfl,rfl⟩
   | true=>
    obtain⟨rfl,g1,g2⟩:=e3 rfl;by_cases hp:part<=L.pt
    ·rw[ag ⟨rfl,hp⟩,ag ⟨rfl,hp⟩];have ap:acc.map th++[th (at',L)]=(acc++[(at',L)]).map th:=by simp
     have ar:acc.map u7++[u7 (at',L)]=(acc++[(at',L)]).map u7:=by simp
     rw[ap,ar];rcases ih (at'+l.length+2) L.pt (acc++[(at',L)]) (m+1) (m2 - (l.length+3)) K (by omega) (by omega) (by omega) (by omega) (by simp;omega)with h|⟨ls,m3,k1,k2,k3,k4,k5,k6,k7⟩
     ·exact .inl h
     ·refine .inr ⟨(at',L)::ls,m3,k1,?_,?_,?_,?_,⟨hp,k6⟩,?_⟩
      ·rw[k2];simp
      ·rw[k3];simp
      ·intro x hx;rcases cj.1 hx with rfl|hx
       ·exact g1
       ·exact k4 x hx
      ·rw[hd,bx];show _=qF L++[59,10]++flat (ls.map λx=>qF x.2);rw[g2,<-k5];have:T.drop (at'+l.length+2)=r:=by
        rw[show at'+l.length+2=at'+(l.length+2) by omega,<-cu,hd,<-cu,cF];rfl
       rw[this];simp
      ·simp at k7 ⊢;omega
    ·rw[af (λh=>hp h.2),af (λh=>hp h.2)];exact .inl ⟨at',rfl,rfl⟩
  ·exact .inl ⟨at',LO hn T hT at' eT yP part _ m,OD T hT at' eT pR part _ m2 (by omega)⟩
end
end Go.Proofs.YtnoldakbllfmnaaGreatDoor.Ev
end