import Derived.Test.YtnoldakbllfmnaaGreatDoorDTb
import Derived.Lib.SplitLaws
import Derived.Lib.IndexMore
import Derived.Test.YtnoldakbllfmnaaGreatDoorDTa
set_option linter.all false
set_option maxRecDepth 10000
noncomputable section
namespace Go.Proofs.YtnoldakbllfmnaaGreatDoor.Ev
open Go Go.Proofs Go.Proofs.Ev
inductive B9(o:OP):Prop
 | FW (hk:o.kd=0\/o.kd=4) (nm:gI o.nm=true) (ty:GT o.k o.l o.s) (v:nT o.k o.s o.vn o.vx) (ba:o.ba=[]) (of:o.of=0) (tg:o.tg=0)
 | IH (hk:o.kd=1\/o.kd=2) (nm:gI o.nm=true) (ty:GT o.k o.l o.s) (vn:o.vn=0) (vx:o.vx=[]) (ba:gI o.ba=true) (of:0<=o.of/\o.of<1000000000000000) (tg:o.tg=0)
 | ptr (hk:o.kd=3) (nm:gI o.nm=true) (k:o.k=0) (l:o.l=0) (s:o.s=0) (vn:o.vn=0) (vx:o.vx=[]) (ba:o.ba=[]) (of:o.of=0) (tg:o.tg=0)
 | Jn (hk:o.kd=5) (nm:gI o.nm=true) (k:o.k=0) (l:o.l=0) (s:o.s=0) (vn:o.vn=0) (vx:o.vx=[]) (ba:o.ba=[]) (of:o.of=0) (tg:0<=o.tg/\o.tg<1000000000000000)
theorem B9.name{o:OP}(h:B9 o):gI o.nm=true:=by cases h<;>assumption
theorem iw{l:List UInt8}(h:gI l=true):1<=l.length/\l.length<=10:=by
 unfold gI at h;rw[ae,ae,az,az]at h;exact h.1
theorem Db{k s vn:Int}{vx:List UInt8}(h:nT k s vn vx):k=0\/(vn.natAbs<10 ^ 15/\0<=s/\s<=15):=by
 unfold nT at h;split at h
 ·rename_i h0;exact .inl h0
 ·exact .inr ⟨h.2.1,h.2.2.1,h.2.2.2⟩
section
variable {n:Nat}
theorem IK(hn:1000002<=n){k l s vn:Int}{vx:List UInt8}(hx:vx.length<=20000)(hk:k=0\/(vn.natAbs<10 ^ 15/\0<=s/\s<=15)):la.F n k l s vn (bs vx)=some (bs (kc k s vn vx)):=by
 unfold la.F la.e kc;rw[eT];by_cases h0:k=0
 ·rw[if_pos h0,if_pos h0,tC hn vx (by omega),ab];cases hc:vx.all vD with
  | true=>
   rw[ak,if_pos rfl,fb,xe,nV vx (by omega),ab];have:=px vx;rw[dP (by rw[cU];omega),dh,dP (by rw[cU,ag,bw];omega)];simp only[dh];rfl
  | false=>
   rw[cond_false,if_neg (by simp)];simp only[gY];have:=BE (n:=n) vx (by omega) vx.length 0 n [88,39] (by omega) (by omega) rfl;rw[aU]at this;rw[<-this];show la.l n n (.z8 (((ub vx).length:Nat):Int) 0 [vu 88,vu 39] (ub vx))=_;rw[gd];rfl
 ·rw[if_neg h0,if_neg h0];have hk:=hk.resolve_left h0;rw[mC (by omega) hk.1 hk.2.1 hk.2.2];rfl
theorem Fv{k s vn:Int}{vx:List UInt8}(hx:vx.length<=20000)(hk:k=0\/(vn.natAbs<10 ^ 15/\0<=s/\s<=15)):(kc k s vn vx).length<=50000:=by
 unfold kc;by_cases h0:k=0
 ·rw[if_pos h0];have h1:=px vx;have h2:=lI vx;split
  ·unfold qd;simp;omega
  ·simp[h2];omega
 ·rw[if_neg h0];have hk:=hk.resolve_left h0;have:=s_ hk.1 (show s.toNat<=15 by omega);omega
theorem mQ{k l s:Int}(h:GT k l s):(iX k l s).length<=60:=by
 obtain⟨hk,hl,hs,h0⟩:=h;have h1:=dZ l (by omega) (by omega);unfold iX;have h2:(mL k).length<=6:=by unfold mL;(repeat' split)<;>simp
 by_cases h0:k=0
 ·rw[if_pos h0];simp;omega
 ·have h3:=dZ s (by omega) (by omega);rw[if_neg h0];simp;omega
theorem Cg{k l s:Int}(h:GT k l s):lP.F n k l s=some (bs (iX k l s)):=by
 obtain⟨hk,hl,hs,h0⟩:=h;have h1:=dZ l (by omega) (by omega);have i1:=fQ (n:=n) l (by omega) (by omega);have h3:=dZ s (by omega) (by omega);have i3:=fQ (n:=n) s (by omega) (by omega);unfold lP.F lP.e iX;rcases hk with rfl|hk
 ·rw[dD (by rfl),show ql.getD (0:Int).toNat AV.undef=vs (bs [67,72,65,82])from rfl];simp(disch:=omega)only[ab,au,ak,cond_false,aC,aE,af,c7,cU,c8,dv,dA,ai,dn,dj,dc,dp,cO,cW,cY,cX,c_,cS,cT,i1,fb,dP,dh,ag,aw,aF];simp[mL]
 ·rcases hk with rfl|rfl|rfl
  ·rw[dD (by rfl),show ql.getD (1:Int).toNat AV.undef=vs (bs [80,65,67,75,69,68])from rfl];simp(disch:=omega)only[ab,au,ak,cond_false,aC,aE,af,c7,cU,c8,dv,dA,ai,dn,dj,dc,dp,cO,cW,cY,cX,c_,cS,cT,i1,i3,fb,dP,dh,ag,aw,aF];simp[mL]
  ·rw[dD (by rfl),show ql.getD (2:Int).toNat AV.undef=vs (bs [90,79,78,69,68])from rfl];simp(disch:=omega)only[ab,au,ak,cond_false,aC,aE,af,c7,cU,c8,dv,dA,ai,dn,dj,dc,dp,cO,cW,cY,cX,c_,cS,cT,i1,i3,fb,dP,dh,ag,aw,aF];simp[mL]
  ·rw[dD (by rfl),show ql.getD (3:Int).toNat AV.undef=vs (bs [66,73,78,65,82,89])from rfl];simp(disch:=omega)only[ab,au,ak,cond_false,aC,aE,af,c7,cU,c8,dv,dA,ai,dn,dj,dc,dp,cO,cW,cY,cX,c_,cS,cT,i1,i3,fb,dP,dh,ag,aw,aF];simp[mL]
theorem CA(hn:1000002<=n)(o:OP)(h:B9 o)(zn:o.vx.length<=20000) :
  xS.F n (bs o.nm) o.kd o.k o.l o.s o.vn (bs o.vx) (bs o.ba) o.of o.tg=some (bs (yR o)):=by
 have qV:=iw h.name;unfold xS.F xS.e yR;simp only[eQ];cases h with
 | FW hk nm ty v ba of tg=>
  have hv:=Db v;have t1:=Cg (n:=n) ty;have t3:=mQ ty;have v1:=IK (l:=o.l) hn zn hv;have v3:=Fv zn hv;rcases hk with hk|hk
  ·rw[if_pos hk,if_pos hk];simp(disch:=omega)only[ab,au,ak,cond_false,aC,aE,af,c7,cU,c8,dv,dA,ai,dn,dj,dc,dp,cO,cW,cY,cX,c_,cS,cT,t1,v1,fb,uQ,Bo,dP,dh,ag,aw,aF]
  ·have n0:¬ o.kd=0:=by omega
   have n1:¬ o.kd=1:=by omega
   have n2:¬ o.kd=2:=by omega
   have n3:¬ o.kd=3:=by omega
   simp only[n0,n1,n2,n3,hk,cb,bI];simp(disch:=omega)only[ab,au,ak,cond_false,aC,aE,af,c7,cU,c8,dv,dA,ai,dn,dj,dc,dp,cO,cW,cY,cX,c_,cS,cT,t1,v1,fb,Bn,Bo,dP,dh,ag,aw,aF];simp
 | IH hk nm ty vn vx ba of tg=>
  have t1:=Cg (n:=n) ty;have t3:=mQ ty;have zC:=iw ba;have i1:=fQ (n:=n) o.of (by omega) (by omega);have i3:=dZ o.of (by omega) (by omega);have n0:¬ o.kd=0:=by omega
  rcases hk with hk|hk
  ·simp only[n0,hk,cb,bI];simp(disch:=omega)only[ab,au,ak,cond_false,aC,aE,af,c7,cU,c8,dv,dA,ai,dn,dj,dc,dp,cO,cW,cY,cX,c_,cS,cT,t1,i1,fb,uQ,xd,dP,dh,ag,aw,aF];simp
  ·have n1:¬ o.kd=1:=by omega
   simp only[n0,n1,hk,cb,bI];simp(disch:=omega)only[ab,au,ak,cond_false,aC,aE,af,c7,cU,c8,dv,dA,ai,dn,dj,dc,dp,cO,cW,cY,cX,c_,cS,cT,t1,i1,fb,uQ,xd,dP,dh,ag,aw,aF];simp
 | ptr hk nm k l s vn vx ba of tg=>
  have n0:¬ o.kd=0:=by omega
  have n1:¬ o.kd=1:=by omega
  have n2:¬ o.kd=2:=by omega
  simp only[n0,n1,n2,hk,cb,bI];simp(disch:=omega)only[ab,au,ak,cond_false,aC,aE,af,c7,cU,c8,dv,dA,ai,dn,dj,dc,dp,cO,cW,cY,cX,c_,cS,cT,Bn,dP,dh,ag,aw,aF]
  try simp
 | Jn hk nm k l s vn vx ba of tg=>
  have i1:=fQ (n:=n) o.tg (by omega) (by omega);have i3:=dZ o.tg (by omega) (by omega);have n0:¬ o.kd=0:=by omega
  have n1:¬ o.kd=1:=by omega
  have n2:¬ o.kd=2:=by omega
  have n3:¬ o.kd=3:=by omega
  have n4:¬ o.kd=4:=by omega
  simp only[n0,n1,n2,n3,n4,bI];simp(disch:=omega)only[ab,au,ak,cond_false,aC,aE,af,c7,cU,c8,dv,dA,ai,dn,dj,dc,dp,cO,cW,cY,cX,c_,cS,cT,i1,fb,Gy,dP,dh,ag,aw,aF]
  try simp
end
theorem et(a b:List UInt8)(c:UInt8):(a++b).contains c=(a.contains c||b.contains c):=by
 rw[cn];simp
theorem eK(a:UInt8)(b:List UInt8)(c:UInt8):(a::b).contains c=(decide (c=a)||b.contains c):=by
 rw[cn];simp
theorem iB{k:Int}(hk:0<=k){c:UInt8}(hc:fh c=false):(Lib.itoa k).contains c=false:=by
 obtain⟨a,rfl⟩:∃a:Nat,k=a:=⟨k.toNat,by omega⟩;rw[iZ];exact Dc hc
theorem KI{c:UInt8}(hc:(NR c||MR c)=false):∀(l:List UInt8) (i:Nat),Ac i l=true->l.contains c=false
 | [],_,_=>rfl
 | d::l,i,h=>by
  rw[wk,ae]at h;rw[eK,KI hc l (i+1) h.2,Bool.or_false,a_];rintro rfl;have h1:=h.1;rw[aZ]at hc;rw[hc.1,hc.2]at h1;simp at h1
theorem xl{l:List UInt8}(h:gI l=true){c:UInt8}(hc:(NR c||MR c)=false):l.contains c=false:=by
 unfold gI at h;rw[ae]at h;exact KI hc l 0 h.2
theorem Cc{k l s:Int}(h:GT k l s){c:UInt8}(hc:fh c=false)(h1:∀k:Int,(mL k).contains c=false)(h2:c≠40/\c≠41/\c≠44):(iX k l s).contains c=false:=by
 obtain⟨hk,hl,hs,h0⟩:=h;unfold iX;rw[et,et,et,et,h1,iB hl.1 hc,eK,eK,a_ h2.1,a_ h2.2.1];split
 ·rfl
 ·rw[et,iB hs.1 hc,eK,a_ h2.2.2];rfl
theorem Fz(c:UInt8)(h:(mL 0++mL 1++mL 2++mL 3).contains c=false)(k:Int):(mL k).contains c=false:=by
 rw[et,et,et,aZ,aZ,aZ]at h;have e:mL k=mL 0\/mL k=mL 1\/mL k=mL 2\/mL k=mL 3:=by
  by_cases h0:k=0
  ·exact .inl (by rw[h0])
  by_cases h1:k=1
  ·exact .inr (.inl (by rw[h1]))
  by_cases h2:k=2
  ·exact .inr (.inr (.inl (by rw[h2])))
  ·refine .inr (.inr (.inr ?_));unfold mL;rw[if_neg h0,if_neg h1,if_neg h2];rfl
 rcases e with e|e|e|e<;>rw[e]
 ·exact h.1.1.1
 ·exact h.1.1.2
 ·exact h.1.2
 ·exact h.2
theorem vk{k l s:Int}(h:GT k l s):(iX k l s).contains 32=false:=Cc h (by decide) (Fz 32 (by decide)) (by decide)
def PZ(o:OP):List UInt8:=
 if o.kd=1 then[68,69,70]++40::((o.ba++44::Lib.itoa o.of)++[41])
 else if o.kd=2 then[66,65,83]++40::((o.ba++44::Lib.itoa o.of)++[41])
 else[73,78,73,84]++40::(kc o.k o.s o.vn o.vx++[41])
def P2(o:OP):List UInt8:=if o.kd=3 then[80,84,82]else if o.kd=5 then[76,65,66,69,76]else if o.kd=4 then[67,79,78]else[68,68]
def yQ(o:OP):List UInt8:=
 P2 o++32::(if o.kd=3 then o.nm else o.nm++32::(if o.kd=5 then Lib.itoa o.tg else iX o.k o.l o.s++32::PZ o))
def kT:List UInt8:=[68,67,76,32]
theorem Cy{o:OP}(h:B9 o):yR o=kT++yQ o:=by
 unfold yR yQ P2 PZ kT;cases h with
 | FW hk nm ty v ba of tg=>rcases hk with hk|hk<;>simp[hk]
 | IH hk nm ty vn vx ba of tg=>rcases hk with hk|hk<;>simp[hk]
 | ptr hk nm k l s vn vx ba of tg=>simp[hk]
 | Jn hk nm k l s vn vx ba of tg=>simp[hk]
abbrev J4(o:OP)(ok:Bool):f_.T:=(bs o.nm,o.kd,o.k,o.l,o.s,o.vn,bs o.vx,bs o.ba,o.of,o.tg,ok)
theorem yp{α:Type}{a b:Bool}(h:a=true\/b=true)(B Z:α):(bif a then B else bif b then B else Z)=B:=by
 rcases h with rfl|rfl
 ·rfl
 ·cases a<;>rfl
section
variable {n:Nat}
theorem xF(hn:1000002<=n)(t:List UInt8)(ht:t.length<=20000):∃(o:OP) (ok:Bool),f_.F n (bs t)=some (J4 o ok)/\(ok=true->gI o.nm=true->B9 o/\o.vx.length<=t.length):=by
 obtain⟨m,rfl⟩:∃m,n=m+1:=⟨n - 1,by omega⟩;have c1:=kF t 32;have c2:=kF (ej t 32).2.1 32;unfold f_.F f_.e;simp only[fb,xe,LQ,Bp,xd];rw[fV t 32 (by omega),ab];simp only;rw[fV _ 32 (by omega),ab];simp only;rw[dX,dX,dX,dX];generalize Qc:(ej t 32).1=kw;generalize qV:(ej (ej t 32).2.1 32).1=nm;generalize hr:(ej (ej t 32).2.1 32).2.1=r at *;by_cases h1:kw=[80,84,82]
 ·rw[cS h1];refine⟨⟨nm,3,0,0,0,0,[],[],0,0⟩,_,rfl,λ_ hx=>⟨.ptr rfl hx rfl rfl rfl rfl rfl rfl rfl rfl,by simp⟩⟩
 rw[cT h1];by_cases h2:kw=[76,65,66,69,76]
 ·rw[cS h2];obtain⟨v,e1,e2⟩:=iG (n:=m+1) r (by omega);rw[e1,ab];refine⟨⟨nm,5,0,0,0,0,[],[],0,v⟩,_,rfl,λgJ hx=>⟨.Jn rfl hx rfl rfl rfl rfl rfl rfl rfl ?_,by simp⟩⟩;have:=kz gJ;have:=e2 gJ;have uE:(10:Nat) ^ 15=1000000000000000:=by decide
  exact⟨by show 0<=v;omega,by show v<_;omega⟩
 rw[cT h2];by_cases h3:kw=[68,68]\/kw=[67,79,78]
 ·rw[yp (by rcases h3 with h|h;exact .inl (decide_eq_true h);exact .inr (decide_eq_true h))];have c3:=kF r 32;have c4:=kF (ej r 32).2.1 40;rw[fV _ 32 (by omega),ab];simp only;obtain⟨x,x1,x2,x3⟩:=vj (n:=m+1) (by omega) (ej r 32).1 (by omega);rw[x1,ab,fV _ 40 (by omega),ab];simp only;rw[rW _ 41 (by omega),ab];cases uD:qD (ej r 32).1 with
  | none=>
   rw[uD]at x2;rw[x2];refine⟨⟨nm,0,x.1,x.2.1,x.2.2.1,0,[],[],0,0⟩,false,rfl,λh=>by cases h⟩
  | some ty=>
   obtain⟨k,l,s⟩:=ty;obtain⟨gt,_⟩:=IP uD;have:=x3 _ uD;subst this;rw[show(!((k,l,s,true):Int × Int × Int × Bool).2.2.2)=false from rfl,cond_false];simp only;cases he:tW (ej (ej r 32).2.1 40).2.1 41 with
   | none=>exact⟨⟨nm,0,k,l,s,0,[],[],0,0⟩,false,rfl,λh=>by cases h⟩
   | some nd=>
    have UF:nd.length<=t.length:=by
     have:=congrArg List.length (wc he);rw[ag]at this;omega
    simp only[aC,cond_false];rw[dX];by_cases hi:(ej (ej r 32).2.1 40).1=[73,78,73,84]
    ·rw[cS hi];obtain⟨vn,vx,ok,v1,v2,_⟩:=sn (n:=m+1) (by omega) k l s nd (by omega);by_cases hc:kw=[67,79,78]
     ·rw[cS hc,f_.J_];unfold f_.EW;rw[v1,ab];refine⟨⟨nm,4,k,l,s,vn,vx,[],0,0⟩,ok,rfl,λgJ hx=>⟨.FW (.inr rfl) hx gt (v2 gJ).1 rfl rfl rfl,?_⟩⟩;have:=(v2 gJ).2;exact cf this UF
     ·rw[cT hc,f_.J_];unfold f_.EW;rw[v1,ab];refine⟨⟨nm,0,k,l,s,vn,vx,[],0,0⟩,ok,rfl,λgJ hx=>⟨.FW (.inl rfl) hx gt (v2 gJ).1 rfl rfl rfl,?_⟩⟩;have:=(v2 gJ).2;exact cf this UF
    ·have c5:=kF nd 44;rw[cT hi,fV nd 44 (by omega),ab];simp only;obtain⟨v,e1,e2⟩:=iG (n:=m+1) (ej nd 44).2.1 (by omega);rw[e1,ab];simp only;rw[dX,dX];have CZ:jG (ej nd 44).2.1=true->0<=v/\v<1000000000000000:=by
      intro h;have h1:=kz h;have h2:=e2 h;have uE:(10:Nat) ^ 15=1000000000000000:=by decide
      omega
     have fin:∀(kd:Int),(kd=0\/kd=1\/kd=2)->∃(o:OP) (ok:Bool),f_.l (m+1) (m+1) (.Fm (bs kw) (jG (ej nd 44).2.1) (bs (ej nd 44).1) (⟨#[]⟩:ByteArray) 0 0 0 0 0 (⟨#[]⟩:ByteArray) (⟨#[]⟩:ByteArray) 0 0 (bs nm) kd k l s 0 (⟨#[]⟩:ByteArray) (bs (ej nd 44).1) v 0)=some (J4 o ok)/\(ok=true->gI o.nm=true->B9 o/\o.vx.length<=t.length):=by
      intro kd fv;rw[f_.Pw];unfold f_.Ip;refine⟨⟨nm,kd,k,l,s,0,[],(ej nd 44).1,v,0⟩,(jG (ej nd 44).2.1&&(decide (kw=[68,68])&&(decide (kd≠0)&&gI (ej nd 44).1))),?_,?_⟩
      ·simp only[xe];rw[dX];cases Ay:jG (ej nd 44).2.1 with
       | false=>rfl
       | true=>
        rw[ak];by_cases hd:kw=[68,68]
        ·rw[cS hd,eT];by_cases h0:kd=0
         ·rw[if_pos h0,decide_eq_true hd,a_ (show ¬ kd≠0 from λh=>h h0)];rfl
         ·rw[if_neg h0,decide_eq_true hd,decide_eq_true h0,km (by omega),ab];rfl
        ·rw[cT hd,a_ hd];rfl
      ·intro gJ hx;rw[ae,ae,ae,az,az]at gJ;obtain⟨q1,q2,q3,q4⟩:=gJ;refine⟨.IH ?_ hx gt rfl rfl q4 (CZ q1) rfl,by simp⟩;show kd=1\/kd=2;omega
     by_cases hd:(ej (ej r 32).2.1 40).1=[68,69,70]
     ·rw[cS hd];exact fin 1 (.inr (.inl rfl))
     ·rw[cT hd];by_cases hb:(ej (ej r 32).2.1 40).1=[66,65,83]
      ·rw[cS hb];exact fin 2 (.inr (.inr rfl))
      ·rw[cT hb];exact fin 0 (.inl rfl)
 ·rw[cT (λh=>h3 (.inl h)),cT (λh=>h3 (.inr h))];exact⟨⟨nm,0,0,0,0,0,[],[],0,0⟩,false,rfl,λh=>by cases h⟩
end
theorem rM{l:List UInt8}(h:gI l=true):l.contains 32=false:=xl h (by decide)
theorem w9{l:List UInt8}(h:gI l=true):l.contains 44=false:=xl h (by decide)
theorem Ce{k l s:Int}(h:GT k l s){n:Nat}(hn:1001<=n):qx.F n (bs (iX k l s))=some (k,l,s,true):=by
 obtain⟨x,x1,x2,x3⟩:=vj hn (iX k l s) (by have:=mQ h;omega);rw[x1,x3 _ (Ln h)]
theorem Gn{k:Int}(h:0<=k/\k<1000000000000000){n:Nat}:nL.F n (bs (Lib.itoa k))=some (k,true):=by
 have uE:(10:Nat) ^ 15=1000000000000000:=by decide
 obtain⟨a,rfl⟩:∃a:Nat,k=a:=⟨k.toNat,by omega⟩;have hl:=dZ ((a:Nat):Int) (by omega) (by omega);obtain⟨v,e1,e2⟩:=iG (n:=n) (Lib.itoa ((a:Nat):Int)) (by omega);rw[iZ]at e1 e2 ⊢;have hd:=nk (k:=a) (by omega);rw[e1,hd,e2 hd,yi]
section
variable {n:Nat}
theorem xE(hn:1000002<=n)(o:OP)(h:B9 o)(hl:(yQ o).length<=20000):f_.F n (bs (yQ o))=some (J4 o true):=by
 obtain⟨m,rfl⟩:∃m,n=m+1:=⟨n - 1,by omega⟩;unfold f_.F f_.e;simp only[fb,xe,LQ,Bp,xd];rw[fV (yQ o) 32 (by omega),ab];obtain⟨nm,kd,k,l,s,vn,vx,ba,of,tg⟩:=o;cases h with
 | ptr hk qV tK KZ hs KT zn zC CZ GV=>
  simp only at hk tK KZ hs KT zn zC CZ GV qV;subst hk tK KZ hs KT zn zC CZ GV;have e:yQ ⟨nm,3,0,0,0,0,[],[],0,0⟩=[80,84,82]++32::nm:=rfl;have P_:=iw qV;rw[e,fL _ _ _ (by decide)];simp only;rw[fV nm 32 (by omega),ab,wj (rM qV)];simp only;rw[dX,cS rfl];rfl
 | Jn hk qV tK KZ hs KT zn zC CZ GV=>
  simp only at hk tK KZ hs KT zn zC CZ GV qV;subst hk tK KZ hs KT zn zC CZ;have e:yQ ⟨nm,5,0,0,0,0,[],[],0,tg⟩=[76,65,66,69,76]++32::(nm++32::Lib.itoa tg):=rfl;have P_:=iw qV;have i3:=dZ tg (by omega) (by omega);rw[e,fL _ _ _ (by decide)];simp only;rw[fV _ 32 (by simp only[ag,aw];omega),ab,fL _ _ _ (rM qV)];simp only;rw[dX,cT (by decide),dX,cS rfl,Gn GV,ab]
 | FW hk qV ty v zC CZ GV=>
  simp only at hk qV ty v zC CZ GV;subst zC CZ GV;have P_:=iw qV;have P7:=mQ ty;have body:∀(kw:List UInt8),((kw=[68,68]/\kd=0)\/(kw=[67,79,78]/\kd=4))->yQ ⟨nm,kd,k,l,s,vn,vx,[],0,0⟩=kw++32::(nm++32::(iX k l s++32::([73,78,73,84]++40::(kc k s vn vx++[41])))):=by
   rintro kw (⟨rfl,rfl⟩|⟨rfl,rfl⟩)<;>rfl
  obtain⟨kw,Qc,D3,hp,XM⟩:∃kw:List UInt8,((kw=[68,68]/\kd=0)\/(kw=[67,79,78]/\kd=4))/\kw.contains 32=false/\kw≠[80,84,82]/\kw≠[76,65,66,69,76]:=by
   rcases hk with h|h
   ·exact⟨[68,68],.inl ⟨rfl,h⟩,by decide,by decide,by decide⟩
   ·exact⟨[67,79,78],.inr ⟨rfl,h⟩,by decide,by decide,by decide⟩
  have e:=body kw Qc;rw[e]at hl ⊢;simp only[ag,aw,aF]at hl;rw[fL _ _ _ D3];simp only;rw[fV _ 32 (by simp only[ag,aw,aF];omega),ab,fL _ _ _ (rM qV)];simp only;rw[dX,dX,dX,dX,cT hp,cT XM,yp (by rcases Qc with h|h;exact .inl (decide_eq_true h.1);exact .inr (decide_eq_true h.1)),fV _ 32 (by simp only[ag,aw,aF];omega),ab,fL _ _ _ (vk ty)];simp only;rw[Ce ty (by omega),ab,fV _ 40 (by simp only[ag,aw,aF];omega),ab,fL [73,78,73,84] _ 40 (by decide)];simp only;rw[rW _ 41 (by simp only[ag,aw,aF];omega),ab,tV];simp only[aC,cond_false];rw[dX,cS rfl];obtain⟨sj,nM,ok,v1,v2,v3⟩:=sn (n:=m+1) (by omega) k l s (kc k s vn vx) (by omega);obtain⟨rfl,rfl,rfl⟩:=v3 vn vx v rfl;rcases Qc with⟨h1,h2⟩|⟨h1,h2⟩
  ·subst h1 h2;rw[cT (by decide),f_.J_];unfold f_.EW;rw[v1,ab]
  ·subst h1 h2;rw[cS rfl,f_.J_];unfold f_.EW;rw[v1,ab]
 | IH hk qV ty KT zn zC CZ GV=>
  simp only at hk qV ty KT zn zC CZ GV;subst KT zn GV;have P_:=iw qV;have P7:=mQ ty;have AA:=iw zC;have i3:=dZ of (by omega) (by omega);obtain⟨w,hw,e,RO,Xn⟩:∃w:List UInt8,((w=[68,69,70]/\kd=1)\/(w=[66,65,83]/\kd=2))/\yQ ⟨nm,kd,k,l,s,0,[],ba,of,0⟩=[68,68]++32::(nm++32::(iX k l s++32::(w++40::((ba++44::Lib.itoa of)++[41]))))/\w.contains 40=false/\w≠[73,78,73,84]:=by
   rcases hk with h|h
   ·subst h;exact⟨[68,69,70],.inl ⟨rfl,rfl⟩,rfl,by decide,by decide⟩
   ·subst h;exact⟨[66,65,83],.inr ⟨rfl,rfl⟩,rfl,by decide,by decide⟩
  have Un:w.length=3:=by rcases hw with h|h<;>rw[h.1]<;>rfl
  rw[e,fL _ _ _ (by decide)];simp only;rw[fV _ 32 (by simp only[ag,aw,aF];omega),ab,fL _ _ _ (rM qV)];simp only;rw[dX,dX,dX,dX,cT (by decide),cT (by decide),cS rfl,fV _ 32 (by simp only[ag,aw,aF];omega),ab,fL _ _ _ (vk ty)];simp only;rw[Ce ty (by omega),ab,fV _ 40 (by simp only[ag,aw,aF];omega),ab,fL w _ 40 RO];simp only;rw[rW _ 41 (by simp only[ag,aw,aF];omega),ab,tV];simp only[aC,cond_false];rw[dX,cT Xn,fV _ 44 (by simp only[ag,aw,aF];omega),ab,fL ba _ 44 (w9 zC)];simp only;rw[Gn CZ,ab];simp only;rw[dX,dX];have fin:∀(kd:Int),kd≠0->f_.l (m+1) (m+1) (.Fm (bs [68,68]) true (bs ba) (⟨#[]⟩:ByteArray) 0 0 0 0 0 (⟨#[]⟩:ByteArray) (⟨#[]⟩:ByteArray) 0 0 (bs nm) kd k l s 0 (⟨#[]⟩:ByteArray) (bs ba) of 0)=some (J4 ⟨nm,kd,k,l,s,0,[],ba,of,0⟩ true):=by
   intro kd fv;rw[f_.Pw];unfold f_.Ip;simp only[xe];rw[ak,dX,cS rfl,eT,if_neg fv,km (by omega),ab,zC]
  rcases hw with⟨h1,h2⟩|⟨h1,h2⟩
  ·subst h1 h2;rw[cS rfl];exact fin 1 (by decide)
  ·subst h1 h2;rw[cT (by decide),cS rfl];exact fin 2 (by decide)
end
theorem AK{k s vn:Int}{vx:List UInt8}(h:nT k s vn vx):vx.length<=(kc k s vn vx).length:=by
 unfold nT at h;unfold kc;by_cases h0:k=0
 ·rw[if_pos h0];have dl:∀x:List UInt8,x.length<=(xH x).length:=by
   intro x;induction x with
   | nil=>exact aJ _
   | cons c x ih=>
    rw[jb,ag,aw];split
    ·simp;omega
    ·simp;omega
  split
  ·have:=dl vx;unfold qd;simp;omega
  ·simp[lI];omega
 ·rw[if_neg h0]at h;rw[h.1];exact cr _
theorem LI{o:OP}(h:B9 o):o.vx.length<=(yQ o).length:=by
 cases h with
 | FW hk nm ty v ba of tg=>
  have:=AK v;unfold yQ PZ;rcases hk with hk|hk<;>simp[hk]<;>omega
 | IH hk nm ty vn vx ba of tg=>rw[vx];exact cr _
 | ptr hk nm k l s vn vx ba of tg=>rw[vx];exact cr _
 | Jn hk nm k l s vn vx ba of tg=>rw[vx];exact cr _
def kQ(k:UInt8):List UInt8->List (List UInt8)
 | []=>[[]]
 | c::l=>if c=k then[]::kQ k l else match kQ k l with
  | h::t=>(c::h)::t
  | []=>[[c]]
theorem yx(k c:UInt8)(l:List UInt8):kQ k (c::l)=if c=k then[]::kQ k l else match kQ k l with
 | h::t=>(c::h)::t
 | []=>[[c]]:=rfl
theorem sG(k:UInt8):∀l:List UInt8,Lib.splitK [k] 0 (Lib.count l [k]) l=kQ k l
 | []=>by rw[Lib.count_one];rfl
 | c::l=>by
  have ih:=sG k l;by_cases hc:c=k
  ·subst hc;have K3:Lib.index (c::l) [c]=0:=by rw[Lib.index];simp[List.isPrefixOf]
   rw[Lib.count_cons_eq,Nat.add_comm];unfold Lib.splitK kQ;rw[K3,if_neg (by decide),if_pos rfl];simp only[bw,Int.toNat_zero,bQ,List.take_zero,b6,List.drop_one,List.tail_cons,ih]
  ·rw[Lib.count_cons_ne c k l hc];unfold kQ;rw[if_neg hc,<-ih];have hp:([k]:List UInt8).isPrefixOf (c::l)=false:=by simp[List.isPrefixOf,Ne.symm hc]
   have K3:Lib.index (c::l) [k]=if Lib.index l [k]==-1 then -1 else Lib.index l [k]+1:=by rw[Lib.index,hp];simp
   cases hk:Lib.count l [k]with
   | zero=>rfl
   | succ q=>
    obtain⟨j,hj⟩:=Lib.index_of_count (s:=l) (old:=[k]) (by omega);have h1:¬ (Lib.index l [k]==-1)=true:=by rw[hj];simp<;>omega
    rw[if_neg h1,hj]at K3;unfold Lib.splitK;rw[if_neg h1,K3,hj,if_neg (by simp<;>omega)];have e1:((j:Int)+1).toNat=j+1:=by omega
    simp only[e1,ai,bQ,bw,cC,bP]
theorem AS(k:UInt8)(l:List UInt8):kQ k l≠[]:=by
 cases l with
 | nil=>simp[kQ]
 | cons c l=>
  rw[yx];split
  ·simp
  ·split<;>simp
theorem Fx(d c:UInt8)(l:List UInt8):kV (d::l) c=if d=c then[]else d::kV l c:=by
 unfold kV;rw[i_];split
 ·rfl
 ·rw[cC]
theorem Fy(d c:UInt8)(l:List UInt8):jM (d::l) c=if d=c then d::l else jM l c:=by
 unfold jM;rw[i_];split
 ·rfl
 ·rw[bP]
theorem AR(k:UInt8):∀l:List UInt8,kQ k l=kV l k::(match jM l k with | []=>[] | _::r=>kQ k r)
 | []=>rfl
 | d::l=>by
  rw[yx,Fx,Fy];by_cases h:d=k
  ·rw[if_pos h,if_pos h,if_pos h]
  ·rw[if_neg h,if_neg h,if_neg h,AR k l]
theorem kv(k:UInt8)(l:List UInt8):(kQ k l).length<=l.length+1:=by
 induction l with
 | nil=>simp[kQ]
 | cons c l ih=>
  rw[yx];split
  ·simp;omega
  ·split
   ·rename_i h t e;rw[e]at ih;simp at ih ⊢;omega
   ·simp
theorem vo(k:UInt8){p:List UInt8}(h:p.contains k=false):kQ k p=[p]:=by
 rw[AR,(wM h).1,(wM h).2]
theorem rH(k:UInt8){p:List UInt8}(h:p.contains k=false)(r:List UInt8):kQ k (p++k::r)=p::kQ k r:=by
 rw[AR,(wN h r).1,(wN h r).2]
theorem yw(k:UInt8):∀(r:List (List UInt8)) (w:List UInt8),w.contains k=false->(∀x∈r,x.contains k=false)->kQ k (w++Lib.joinTail [k] r)=w::r
 | [],w,h,_=>by
  show kQ k (w++[])=_;rw[bf,vo k h]
 | v::r,w,h,hr=>by
  have e:w++Lib.joinTail [k] (v::r)=w++k::(v++Lib.joinTail [k] r):=by simp[Lib.joinTail]
  rw[e,rH k h,yw k r v (hr v bU) (λx hx=>hr x (bM _ hx))]
theorem pe(k:UInt8):∀(l w:List UInt8) (r:List (List UInt8)),kQ k l=w::r->l=w++Lib.joinTail [k] r
 | [],w,r,h=>by
  cases h;rfl
 | c::l,w,r,h=>by
  rw[yx]at h;split at h
  ·rename_i hc;cases h;cases hs:kQ k l with
   | nil=>exact absurd hs (AS k l)
   | cons v r=>
    have:=pe k l v r hs;show c::l=Lib.joinTail [k] (v::r);have e:Lib.joinTail [k] (v::r)=k::(v++Lib.joinTail [k] r):=by simp[Lib.joinTail]
    rw[e,<-this,hc]
  ·cases hs:kQ k l with
   | nil=>exact absurd hs (AS k l)
   | cons v q=>
    rw[hs]at h;cases h;rw[pe k l v r hs];rfl
theorem BP(s:List UInt8)(c:UInt8):ej s c=(kV s c,(jM s c).drop 1,decide (jM s c≠[])):=by
 unfold ej;by_cases h:ib s c<s.length
 ·have h2:jM s c≠[]:=by
   intro e;have:=congrArg List.length e;unfold jM at this;rw[aM]at this;simp at this;omega
  rw[if_pos h,decide_eq_true h2];unfold kV jM;rw[bZ]
 ·have h2:jM s c=[]:=by unfold jM;exact aH (by omega)
  have h3:kV s c=s:=by unfold kV;exact b_ (by omega)
  rw[if_neg h,h2,h3,a_ (by simp)];rfl
structure LN where
 pt:Int
 o:OP
 uC:Int
 gU:List (List UInt8)
 mo:MN
def wJ:MN:=⟨0,0,0,0⟩
def kA(L:LN):List UInt8:=if L.pt=1 then yR L.o else if L.pt=2 then s5 L.uC++np L.gU else lF L.mo
abbrev Rg(k:Int):Prop:=0<=k/\k<1000000000000000
inductive fX:LN->Prop
 | op (o:OP) (h:B9 o):fX ⟨1,o,0,[],wJ⟩
 | ins (uC:Int) (gU:List (List UInt8)) (h:0<=uC/\uC<=18) (hn:∀w∈gU,gI w=true):fX ⟨2,nw,uC,gU,wJ⟩
 | LL (m:MN) (h1:Rg m.fr) (h2:Rg m.tt) (h3:Rg m.ex) (h4:Rg m.hd):fX ⟨3,nw,0,[],m⟩
abbrev F9(L:LN)(ok:Bool):gN.T:=(0,L.pt,bs L.o.nm,L.o.kd,L.o.k,L.o.l,L.o.s,L.o.vn,bs L.o.vx,bs L.o.ba,L.o.of,L.o.tg,L.uC,Ws L.gU,L.mo.fr,L.mo.tt,L.mo.ex,L.mo.hd,ok)
def rk:List UInt8:=[77,79,78,73,84,79,82]
theorem rN(m:MN):lF m=rk++32::(Lib.itoa m.fr++32::(Lib.itoa m.tt++32::(Lib.itoa m.ex++32::Lib.itoa m.hd))):=by
 unfold lF rk;simp
theorem pT{op:Int}(h:0<=op/\op<=18):(s5 op).contains 32=false/\iH ir (s5 op) 0=op/\s5 op≠rk/\3<=(s5 op).length/\(s5 op).take 3≠[68,67,76]:=by
 rcases ky h with rfl|rfl|rfl|rfl|rfl|rfl|rfl|rfl|rfl|rfl|rfl|rfl|rfl|rfl|rfl|rfl|rfl|rfl|rfl<;>exact⟨by decide,by decide,by decide,by decide,by decide⟩
theorem Js{w:List UInt8}(h:0<=iH ir w 0):0<=iH ir w 0/\iH ir w 0<=18/\s5 (iH ir w 0)=w:=by
 have hc:ir.contains w=true:=by
  rw[<-nF ir w 0,az];exact h
 obtain⟨k,hk,e1,e2⟩:=p_ ir w 0 hc;have hl:ir.length=19:=rfl;rw[e1];refine⟨by omega,by omega,?_⟩;unfold s5;rw[show(((0+k:Nat):Int)).toNat=k by omega,ah,e2];rfl
theorem DL{op:Int}(h:0<=op/\op<=18)(r:List UInt8):¬ (s5 op++r).take kT.length=kT:=by
 obtain⟨_,_,_,h4,h5⟩:=pT h;intro e;apply h5;have:=congrArg (List.take 3) e;rw[List.take_take]at this;have e2:(s5 op++r).take 3=(s5 op).take 3:=List.take_append_of_le_length h4;rw[<-e2];exact this
section
variable {n:Nat}
theorem wR(k:UInt8)(l:List UInt8)(hl:l.length<=100000):xX.F n (bs l) (bs [k])=some (Ws (kQ k l)):=by
 have hB:Lib.splitB (bs [k]) 0 (Lib.countB (bs l) (bs [k])) (bs l)=(kQ k l).map bs:=by
  have h:=Lib.splitB_data (bs [k]) 0 (Lib.countB (bs l) (bs [k])) (bs l);have e:(bs l).data.toList=l:=rfl;have e2:Lib.countB (bs l) (bs [k])=Lib.count l [k]:=rfl;have e3:(bs [k]).data.toList=[k]:=rfl;rw[e3,e,e2,sG]at h;rw[e2,<-h,ch]
  conv=>lhs;rw[<-List.map_id (Lib.splitB (bs [k]) 0 (Lib.count l [k]) (bs l))]
  rfl
 unfold xX.F;have h1:(kQ k l).length=Lib.countB (bs l) (bs [k])+1:=by
  have:=Lib.splitB_all (bs [k]) (by simp[cU]) 0 (Lib.countB (bs l) (bs [k])) (bs l) rfl;rw[hB,af]at this;exact this
 have h2:=kv k l;rw[hB];have kD:eR=1000000000:=rfl;have c1:decide ((bs l).size<4294967281)=true:=decide_eq_true (by rw[cU];omega);have c2:decide (1<=(bs [k]).size)=true:=rfl;have c3:Nat.beq ((kQ k l).map bs).length (Lib.countB (bs l) (bs [k])+1)=true:=by rw[af,h1];exact Nat.beq_refl _
 have c4:decide (Lib.countB (bs l) (bs [k])+1<=eR)=true:=decide_eq_true (by omega);rw[c1,c2,c3,c4];simp only[Bool.and_self,ak,ch];rfl
theorem CF(n:Nat)(hn:1001<=n)(ws:List (List UInt8))(hw:ws.length<=100001):∀(d i m:Nat),i+d=ws.length->d<m->∃r,jO.l n m (.z2 (Ws ws) ws.length i)=some r/\decide (r>=0)=!(ws.drop i).all gI
 | _,_,0,_,h=>absurd h (by omega)
 | 0,i,m+1,h,_=>by
  refine⟨-1,?_,?_⟩
  ·rw[jO.q9];unfold jO.r2;rw[cT (by omega)]
  ·rw[aH (by omega)];rfl
 | d+1,i,m+1,h,hm=>by
  have hi:i<ws.length:=by omega
  obtain⟨r,e1,e2⟩:=CF n hn ws hw d (i+1) m (by omega) (by omega);rw[jO.q9];unfold jO.r2 Ie.F Ie.e;rw[cS (by omega),c7,c8 hi,ak,sa hi,aG hi,bE];show ∃r,((fI.F n (bs ws[i])).bind λp1=>some (!p1)).bind (λp4=>bif p4 then some ((i:Nat):Int)else jO.l n m (.z2 (Ws ws) ws.length (IntKind.i64.wrap (((i:Nat):Int)+1))))=some r/\_;rw[km hn,ab,ab,dA (by omega),e1];cases R5:gI ws[i]with
  | false=>exact⟨_,rfl,by simp⟩
  | true=>exact⟨r,rfl,by rw[e2,ct]⟩
theorem contains_eq(hn:100003<=n)(ws:List (List UInt8))(hw:ws.length<=100001):B8.F n (Ws ws)=some (!ws.all gI):=by
 unfold B8.F B8.e jO.F jO.e;obtain⟨r,e1,e2⟩:=CF n (by omega) ws hw ws.length 0 n (by omega) (by omega);rw[c7];show(Option.bind (jO.l n n (.z2 (Ws ws) ((ws.length:Nat):Int) ((0:Nat):Int))) _)=_;rw[e1,ab,e2,aU]
end
def Nh:LN:=⟨0,nw,0,[],wJ⟩
def O8:List Int->gN.T
 | [a,b,c,d]=>F9 ⟨3,nw,0,[],⟨a,b,c,d⟩⟩ true
 | _=>F9 Nh false
theorem C9{l:List Int}(h:l.length≠4):O8 l=F9 Nh false:=by
 match l with
 | []=>rfl
 | [_]=>rfl
 | [_,_]=>rfl
 | [_,_,_]=>rfl
 | [_,_,_,_]=>exact absurd rfl h
 | _::_::_::_::_::_=>rfl
section
variable {n:Nat}
theorem Bi(n:Nat)(ws:List (List UInt8))(hw:ws.length<=100001)(hs:∀w∈ws,w.length<=100000):∀(d i m:Nat) (acc:List Int),i+d=ws.length->d<m->acc.length<=i->gN.l n m (.z9 ((ws.length:Nat):Int) ((i:Nat):Int) 0 0 (⟨#[]⟩:ByteArray) 0 0 0 0 0 (⟨#[]⟩:ByteArray) (⟨#[]⟩:ByteArray) 0 0 0 0 0 0 0 (acc.map vi) (Ws ws))=some (if(ws.drop i).all jG=true then O8 (acc++(ws.drop i).map λw=>((il w:Nat):Int))else F9 Nh false)
 | _,_,0,_,_,h,_=>absurd h (by omega)
 | 0,i,m+1,acc,h,_,ha=>by
  rw[gN.at9];unfold gN.r9;rw[cT (by omega),aH (by omega),List.map_nil,bf,if_pos (show([]:List (List UInt8)).all jG=true from rfl)];simp only[af];rw[eT];by_cases h4:acc.length=4
  ·rw[if_pos (by omega)]
   match acc,h4 with
   | [a,b,c,d],_=>rfl
  ·rw[if_neg (by omega),C9 h4];rfl
 | d+1,i,m+1,acc,h,hm,ha=>by
  have hi:i<ws.length:=by omega
  have kD:eR=1000000000:=rfl;rw[gN.at9];unfold gN.r9;obtain⟨v,e1,e2⟩:=iG (n:=n) ws[i] (hs _ (aX hi));have ih:=Bi n ws hw hs d (i+1) m (acc++[v]) (by omega) (by omega) (by simp;omega);rw[cS (by omega),c7,c8 hi,ak,sa hi,aG hi,bE];simp only[dp,cO,cY];rw[e1,ab];simp only;cases hd:jG ws[i]with
  | false=>rfl
  | true=>
   have ev:=e2 hd;rw[aC,cond_false,cS (by rw[af];simp;omega),dA (by omega)];have em:acc.map vi++[vi v]=(acc++[v]).map vi:=by simp
   rw[em,ih,ev,ct,bd,bH,cL]
theorem vt(k:UInt8):∀(l:List UInt8),∀w∈kQ k l,w.length<=l.length:=by
 intro l;induction l with
 | nil=>intro w hw;simp[kQ]at hw;subst hw;exact aJ _
 | cons c l ih=>
  intro w hw;rw[yx]at hw;split at hw
  ·rcases br.1 hw with rfl|hw
   ·simp
   ·have:=ih w hw;simp;omega
  ·split at hw
   ·rename_i h t e;rw[e]at ih;rcases br.1 hw with rfl|hw
    ·have:=ih h bU;simp;omega
    ·have:=ih w (bM _ hw);simp;omega
   ·simp at hw;subst hw;simp
theorem Lv{r a b c d:List UInt8}(h:kQ 32 r=[a,b,c,d]):r=a++32::(b++32::(c++32::d)):=by
 have:=pe 32 r a [b,c,d] h;rw[this];simp[Lib.joinTail]
theorem rL{w:List UInt8}(h:jG w=true):Rg ((il w:Nat):Int)/\Lib.itoa ((il w:Nat):Int)=w:=by
 have uE:(10:Nat) ^ 15=1000000000000000:=by decide
 have:=kz h;refine⟨⟨by omega,by omega⟩,?_⟩;rw[iZ,mW h]
theorem lN(w:List UInt8)(r:List (List UInt8)):np (w::r)=32::(w++Lib.joinTail [44] r):=by
 unfold np;simp
theorem yG(hn:1000002<=n)(s:List UInt8)(hs:s.length<=20000):∃(L:LN) (ok:Bool),gN.F n (bs s)=some (F9 L ok)/\(ok=true->fX L/\kA L=s):=by
 unfold gN.F gN.e;simp only[fb,Bp];rw[show bs [68,67,76,32]=bs kT from rfl,xI,ab];by_cases hp:s.take kT.length=kT
 ·rw[if_pos hp];simp only;rw[ak];obtain⟨o,ok,d1,d2⟩:=xF hn (s.drop kT.length) (by rw[aM];omega);rw[d1,ab];simp only;cases gJ:ok with
  | false=>exact⟨⟨1,o,0,[],wJ⟩,false,rfl,λh=>by cases h⟩
  | true=>
   rw[ak,km (by omega),ab];cases qV:gI o.nm with
   | false=>exact⟨⟨1,o,0,[],wJ⟩,false,rfl,λh=>by cases h⟩
   | true=>
    obtain⟨g1,g2⟩:=d2 gJ qV;rw[aM]at g2;rw[ak,CA hn o g1 (by omega),ab,dX];refine⟨⟨1,o,0,[],wJ⟩,decide (yR o=s),rfl,λh=>?_⟩;rw[az]at h;exact⟨.op o g1,by unfold kA;rw[if_pos rfl];exact h⟩
 ·rw[if_neg hp];simp only;rw[cond_false,fV s 32 (by omega),ab,BP];simp only;have hu:=Kk s 32;have Ur:=wO s 32;rw[show(⟨#[77,79,78,73,84,79,82]⟩:ByteArray)=bs rk from rfl,dX];by_cases hm:kV s 32=rk
  ·rw[cS hm,wR 32 _ (by rw[aM];omega),ab];have xp:=kv 32 ((jM s 32).drop 1);rw[aM]at xp;have:=Bi n (kQ 32 ((jM s 32).drop 1)) (by omega) (λw hw=>by have:=vt 32 _ w hw;rw[aM]at this;omega) (kQ 32 ((jM s 32).drop 1)).length 0 n [] (by omega) (by omega) (by simp);rw[c7];refine xN (P:=λq=>∃(L:LN) (ok:Bool),q=some (F9 L ok)/\(ok=true->fX L/\kA L=s)) this ?_;rw[aU,bn];by_cases ha:(kQ 32 ((jM s 32).drop 1)).all jG=true
   ·rw[if_pos ha];by_cases h4:(kQ 32 ((jM s 32).drop 1)).length=4
    ·match hq:kQ 32 ((jM s 32).drop 1),h4 with
     | [a,b,c,d],_=>
      rw[hq]at ha;simp only[bE,List.all_nil,Bool.and_true,ae]at ha;obtain⟨a1,a2,a3,a4⟩:=ha;obtain⟨r1,t1⟩:=rL a1;obtain⟨r2,t2⟩:=rL a2;obtain⟨r3,t3⟩:=rL a3;obtain⟨r4,t4⟩:=rL a4;refine⟨⟨3,nw,0,[],⟨_,_,_,_⟩⟩,true,rfl,λ_=>⟨.LL _ r1 r2 r3 r4,?_⟩⟩;unfold kA;rw[if_neg (show ¬ (3:Int)=1 by decide),if_neg (show ¬ (3:Int)=2 by decide),rN];simp only[t1,t2,t3,t4];rw[<-Lv hq];have fN:jM s 32≠[]:=by
       intro e;rw[e]at hq;cases hq
      rcases pM s 32 with h|⟨r,h⟩
      ·exact absurd h fN
      ·rw[h]at hu ⊢;rw[hm]at hu;exact hu.symm
    ·rw[C9 (by rw[af];exact h4)];exact⟨Nh,false,rfl,λh=>by cases h⟩
   ·rw[if_neg ha];exact⟨Nh,false,rfl,λh=>by cases h⟩
  ·rw[cT hm];have en:([vs (⟨#[77,79,86,69]⟩:ByteArray),vs (⟨#[77,79,86,69,72]⟩:ByteArray),vs (⟨#[65,68,68]⟩:ByteArray),vs (⟨#[83,85,66]⟩:ByteArray),vs (⟨#[77,85,76]⟩:ByteArray),vs (⟨#[68,73,86]⟩:ByteArray),vs (⟨#[82,69,77]⟩:ByteArray),vs (⟨#[73,70,69,81]⟩:ByteArray),vs (⟨#[73,70,76,84]⟩:ByteArray),vs (⟨#[71,79,84,79]⟩:ByteArray),vs (⟨#[65,68,68,82]⟩:ByteArray),vs (⟨#[77,79,86,69,80]⟩:ByteArray),vs (⟨#[65,68,86,65,78,67,69]⟩:ByteArray),vs (⟨#[67,65,76,76]⟩:ByteArray),vs (⟨#[82,69,84,85,82,78]⟩:ByteArray),vs (⟨#[83,73,71,78,65,76]⟩:ByteArray),vs (⟨#[69,88,67,69,80,84,73,79,78]⟩:ByteArray),vs (⟨#[80,82,73,78,84]⟩:ByteArray),vs (⟨#[69,78,68]⟩:ByteArray)]:List AV)=Ws ir:=rfl;have K3:∀X:Option gN.T,((jN.F n (Ws ir) (bs (kV s 32))).bind λ_=>X)=X:=λX=>by rw[ph (by omega) ir (by decide),ab]
   have hI:=ph (n:=n) (by omega) ir (by decide) (kV s 32);refine xN (P:=λq=>∃(L:LN) (ok:Bool),q=some (F9 L ok)/\(ok=true->fX L/\kA L=s)) (show _=(if jM s 32≠[]then((xX.F n (bs ((jM s 32).drop 1)) (bs [44])).bind λp9=>bif decide (iH ir (kV s 32) 0>=0)then((B8.F n p9).bind λoG=>some ((0,2,bs [],0,0,0,0,0,bs [],bs [],0,0,iH ir (kV s 32) 0,p9,0,0,0,0,!oG):gN.T))else(some (0,2,bs [],0,0,0,0,0,bs [],bs [],0,0,iH ir (kV s 32) 0,p9,0,0,0,0,false)))else(bif decide (iH ir (kV s 32) 0>=0)then((B8.F n []).bind λoZ=>some ((0,2,bs [],0,0,0,0,0,bs [],bs [],0,0,iH ir (kV s 32) 0,[],0,0,0,0,!oZ):gN.T))else(some (0,2,bs [],0,0,0,0,0,bs [],bs [],0,0,iH ir (kV s 32) 0,[],0,0,0,0,false))))from ?_) ?_
   ·simp only[xe,LQ,Bp,xd,Bo,uQ,Bn]at en ⊢;refine Eq.trans (congrArg (λq=>Option.bind q _) hI) ?_;rw[ab];by_cases hr:jM s 32≠[]
    ·rw[decide_eq_true hr,ak,if_pos hr]
    ·rw[a_ hr,cond_false,if_neg hr]
   ·have mk:∀(gU:List (List UInt8)),0<=iH ir (kV s 32) 0->gU.all gI=true->s=kV s 32++np gU->fX ⟨2,nw,iH ir (kV s 32) 0,gU,wJ⟩/\kA ⟨2,nw,iH ir (kV s 32) 0,gU,wJ⟩=s:=by
     intro gU h0 ic he;obtain⟨i1,i2,i3⟩:=Js h0;refine⟨.ins _ gU ⟨i1,i2⟩ (λw hw=>ay.1 ic w hw),?_⟩;unfold kA;rw[if_neg (show ¬ (2:Int)=1 by decide),if_pos (show(2:Int)=2 from rfl)];simp only;rw[i3];exact he.symm
    by_cases hr:jM s 32≠[]
    ·rw[if_pos hr,wR 44 _ (by rw[aM];omega),ab];have xp:=kv 44 ((jM s 32).drop 1);rw[aM]at xp;by_cases h0:iH ir (kV s 32) 0>=0
     ·rw[cS h0,contains_eq (by omega) _ (by omega),ab,Bool.not_not];refine⟨⟨2,nw,iH ir (kV s 32) 0,kQ 44 ((jM s 32).drop 1),wJ⟩,(kQ 44 ((jM s 32).drop 1)).all gI,rfl,λic=>mk _ h0 ic ?_⟩;cases hq:kQ 44 ((jM s 32).drop 1)with
      | nil=>exact absurd hq (AS 44 _)
      | cons w r=>
       rw[lN,<-pe 44 _ w r hq];rcases pM s 32 with h|⟨r2,h⟩
       ·exact absurd h hr
       ·conv=>lhs;rw[hu]
        rw[h];rfl
     ·rw[cT h0];exact⟨⟨2,nw,iH ir (kV s 32) 0,kQ 44 ((jM s 32).drop 1),wJ⟩,false,rfl,λh=>by cases h⟩
    ·rw[if_neg hr];by_cases h0:iH ir (kV s 32) 0>=0
     ·rw[cS h0,show([]:List AV)=Ws []from rfl,contains_eq (by omega) _ (by simp),ab];refine⟨⟨2,nw,iH ir (kV s 32) 0,[],wJ⟩,true,rfl,λ_=>mk [] h0 rfl ?_⟩
      conv=>lhs;rw[hu]
      rw[bD.1 hr];rfl
     ·rw[cT h0];exact⟨⟨2,nw,iH ir (kV s 32) 0,[],wJ⟩,false,rfl,λh=>by cases h⟩
end
section
variable {n:Nat}
theorem F7(hn:1000002<=n){s:List UInt8}(hs:s.length<=20000)(hp:¬ s.take kT.length=kT)(hm:kV s 32≠rk)(h0:0<=iH ir (kV s 32) 0){gU:List (List UInt8)}(hr:(jM s 32=[]/\gU=[])\/(jM s 32≠[]/\gU=kQ 44 ((jM s 32).drop 1)))(ic:gU.all gI=true):gN.F n (bs s)=some (F9 ⟨2,nw,iH ir (kV s 32) 0,gU,wJ⟩ true):=by
 have Ur:=wO s 32;have hI:=ph (n:=n) (by omega) ir (by decide) (kV s 32);unfold gN.F gN.e;simp only[fb,Bp];rw[show bs [68,67,76,32]=bs kT from rfl,xI,ab,if_neg hp];simp only;rw[cond_false,fV s 32 (by omega),ab,BP];simp only;rw[show(⟨#[77,79,78,73,84,79,82]⟩:ByteArray)=bs rk from rfl,dX,cT hm];refine Eq.trans (congrArg (λq=>Option.bind q _) hI) ?_;rw[ab];rcases hr with⟨hr,rfl⟩|⟨hr,rfl⟩
 ·rw[a_ (λh=>h hr),cond_false,cS h0,show([]:List AV)=Ws []from rfl,contains_eq (by omega) _ (by simp),ab];rfl
 ·have xp:=kv 44 ((jM s 32).drop 1);rw[aM]at xp;rw[decide_eq_true hr,ak,wR 44 _ (by rw[aM];omega),ab,cS h0,contains_eq (by omega) _ (by omega),ab,ic];rfl
theorem F6(hn:1000002<=n){s:List UInt8}(hs:s.length<=20000)(hp:¬ s.take kT.length=kT)(hm:kV s 32=rk){a b c d:List UInt8}(h4:kQ 32 ((jM s 32).drop 1)=[a,b,c,d])(ha:([a,b,c,d]:List (List UInt8)).all jG=true):gN.F n (bs s)=some (F9 ⟨3,nw,0,[],⟨((il a:Nat):Int),((il b:Nat):Int),((il c:Nat):Int),((il d:Nat):Int)⟩⟩ true):=by
 have Ur:=wO s 32;unfold gN.F gN.e;simp only[fb,Bp];rw[show bs [68,67,76,32]=bs kT from rfl,xI,ab,if_neg hp];simp only;rw[cond_false,fV s 32 (by omega),ab,BP];simp only;rw[show(⟨#[77,79,78,73,84,79,82]⟩:ByteArray)=bs rk from rfl,dX,cS hm,wR 32 _ (by rw[aM];omega),ab];have xp:=kv 32 ((jM s 32).drop 1);rw[aM]at xp;have:=Bi n (kQ 32 ((jM s 32).drop 1)) (by omega) (λw hw=>by have:=vt 32 _ w hw;rw[aM]at this;omega) (kQ 32 ((jM s 32).drop 1)).length 0 n [] (by omega) (by omega) (by simp);rw[c7];refine this.trans ?_;rw[aU,bn,h4,if_pos ha];rfl
theorem LY{op:Int}(h:0<=op/\op<=18)(gU:List (List UInt8)):kV (s5 op++np gU) 32=s5 op/\jM (s5 op++np gU) 32=np gU:=by
 obtain⟨f1,_⟩:=pT h;cases gU with
 | nil=>
  show kV (s5 op++[]) 32=_/\jM (s5 op++[]) 32=[];rw[bf];exact wM f1
 | cons w r=>
  rw[lN];exact wN f1 _
theorem H3{gU:List (List UInt8)}(fN:gU≠[])(ic:∀w∈gU,gI w=true):kQ 44 ((np gU).drop 1)=gU:=by
 cases gU with
 | nil=>exact absurd rfl fN
 | cons w r=>
  rw[lN];exact yw 44 r w (w9 (ic w bU)) (λx hx=>w9 (ic x (bM _ hx)))
theorem Gq(m:MN):kV (lF m) 32=rk/\jM (lF m) 32=32::(Lib.itoa m.fr++32::(Lib.itoa m.tt++32::(Lib.itoa m.ex++32::Lib.itoa m.hd))):=by
 rw[rN];exact wN (by decide) _
theorem Jh{m:MN}(h1:Rg m.fr)(h2:Rg m.tt)(h3:Rg m.ex)(h4:Rg m.hd):kQ 32 ((jM (lF m) 32).drop 1)=[Lib.itoa m.fr,Lib.itoa m.tt,Lib.itoa m.ex,Lib.itoa m.hd]:=by
 rw[(Gq m).2];show kQ 32 (Lib.itoa m.fr++32::(Lib.itoa m.tt++32::(Lib.itoa m.ex++32::Lib.itoa m.hd)))=_;rw[rH 32 (iB h1.1 (by decide)),rH 32 (iB h2.1 (by decide)),rH 32 (iB h3.1 (by decide)),vo 32 (iB h4.1 (by decide))]
theorem nE{k:Int}(h:Rg k):jG (Lib.itoa k)=true/\((il (Lib.itoa k):Nat):Int)=k:=by
 have uE:(10:Nat) ^ 15=1000000000000000:=by decide
 obtain⟨h0,h1⟩:=h;obtain⟨a,rfl⟩:∃a:Nat,k=a:=⟨k.toNat,by omega⟩;rw[iZ,yi];exact⟨nk (by omega),rfl⟩
theorem Bh(r:List UInt8):¬ (rk++r).take kT.length=kT:=by
 intro e;have:(rk++r).take kT.length=[77,79,78,73]:=rfl;rw[this]at e;revert e;decide
theorem F8(hn:1000002<=n){L:LN}(hL:fX L)(hs:(kA L).length<=20000):gN.F n (bs (kA L))=some (F9 L true):=by
 cases hL with
 | op o h=>
  have e:kA ⟨1,o,0,[],wJ⟩=kT++yQ o:=by rw[<-Cy h];rfl
  have hT:kT++yQ o=yR o:=(Cy h).symm;rw[e]at hs ⊢;rw[ag]at hs;have hv:=LI h;unfold gN.F gN.e;simp only[fb,Bp];rw[show bs [68,67,76,32]=bs kT from rfl,xI,ab,if_pos List.take_left,cA];simp only;rw[ak,xE hn o h (by omega),ab];simp only;rw[ak,km (by omega),ab,h.name,ak,CA hn o h (by omega),ab,dX,hT];simp only[decide_true];rfl
 | ins uC gU h Uw=>
  have e:kA ⟨2,nw,uC,gU,wJ⟩=s5 uC++np gU:=rfl;rw[e]at hs ⊢;obtain⟨u1,u2⟩:=LY h gU;obtain⟨f1,f2,f3,f4,f5⟩:=pT h;have:=F7 hn hs (DL h _) (by rw[u1];exact f3) (by rw[u1,f2];exact h.1) (gU:=gU) (by
   rw[u2];cases gU with
   | nil=>exact .inl ⟨rfl,rfl⟩
   | cons w r=>exact .inr ⟨by rw[lN];simp,(H3 (by simp) Uw).symm⟩) (ay.2 Uw)
  rw[u1,f2]at this;exact this
 | LL m h1 h2 h3 h4=>
  have e:kA ⟨3,nw,0,[],m⟩=lF m:=rfl;rw[e]at hs ⊢;obtain⟨a1,a2⟩:=nE h1;obtain⟨b1,b2⟩:=nE h2;obtain⟨c1,c2⟩:=nE h3;obtain⟨d1,d2⟩:=nE h4;have:=F6 hn hs (by rw[rN];exact Bh _) (Gq m).1 (Jh h1 h2 h3 h4) (by simp[a1,b1,c1,d1]);rw[a2,b2,c2,d2]at this;exact this
end
theorem HL{c:UInt8}(hc:c≠39):∀{x:List UInt8},x.contains c=false->(xH x).contains c=false
 | [],_=>rfl
 | d::x,h=>by
  rw[eK,aZ]at h;rw[jb,et,HL hc h.2,Bool.or_false];split
  ·rw[eK,eK,a_ hc];rfl
  ·rw[eK,h.1];rfl
theorem LJ{x:List UInt8}(h:x.all vD=true):x.contains 10=false:=by
 rw[<-bm];intro hh;rw[bV,az]at hh;have:=ay.1 h 10 hh;revert this;decide
theorem D6(x:List UInt8):(mJ x).contains 10=false:=by
 have all:∀k:Fin 256,(E0 (UInt8.ofNat k.1)).contains 10=false:=by decide +kernel
 induction x with
 | nil=>rfl
 | cons c x ih=>
  have h:=all ⟨c.toNat,c.toNat_lt⟩;simp only[UInt8.ofNat_toNat]at h;rw[kr,et,h,ih];rfl
theorem Dn{k s vn:Int}{vx:List UInt8}(h:nT k s vn vx):(kc k s vn vx).contains 10=false:=by
 have ho:=Db h;unfold kc;split
 ·split
  ·rename_i hp;unfold qd;rw[et,et,HL (by decide) (LJ hp)];rfl
  ·rw[et,et,D6];rfl
 ·rename_i hk;have:=ho.resolve_left hk;exact Jg this.1 (by omega) (by decide) (by decide) (by decide)
theorem vl{k l s:Int}(h:GT k l s):(iX k l s).contains 10=false:=Cc h (by decide) (Fz 10 (by decide)) (by decide)
theorem l7{l:List UInt8}(h:gI l=true):l.contains 10=false:=xl h (by decide)
theorem qT{c:UInt8}(hc:c≠44):∀(r:List (List UInt8)),(∀x∈r,x.contains c=false)->(Lib.joinTail [44] r).contains c=false
 | [],_=>rfl
 | w::r,h=>by
  have e:Lib.joinTail [44] (w::r)=44::(w++Lib.joinTail [44] r):=by simp[Lib.joinTail]
  rw[e,eK,et,a_ hc,h w bU,qT hc r (λx hx=>h x (bM _ hx))];rfl
theorem Gh{op:Int}(h:0<=op/\op<=18):(s5 op).contains 10=false:=by
 rcases ky h with rfl|rfl|rfl|rfl|rfl|rfl|rfl|rfl|rfl|rfl|rfl|rfl|rfl|rfl|rfl|rfl|rfl|rfl|rfl<;>decide
theorem Gg{o:OP}(h:B9 o):(yQ o).contains 10=false:=by
 unfold yQ P2 PZ;cases h with
 | FW hk nm ty v ba of tg=>
  have a1:=l7 nm;have a2:=vl ty;have a3:=Dn v;rcases hk with hk|hk<;>simp only[hk]<;>simp[et,eK]at a1 a2 a3 ⊢<;>exact⟨a1,a2,a3⟩
 | IH hk nm ty vn vx ba of tg=>
  have a1:=l7 nm;have a2:=vl ty;have a3:=l7 ba;have a4:=iB of.1 (show fh 10=false by decide);rcases hk with hk|hk<;>simp only[hk]<;>simp[et,eK]at a1 a2 a3 a4 ⊢<;>exact⟨a1,a2,a3,a4⟩
 | ptr hk nm k l s vn vx ba of tg=>
  have a1:=l7 nm;simp only[hk];simp[et,eK]at a1 ⊢;exact a1
 | Jn hk nm k l s vn vx ba of tg=>
  have a1:=l7 nm;have a4:=iB tg.1 (show fh 10=false by decide);simp only[hk];simp[et,eK]at a1 a4 ⊢;exact⟨a1,a4⟩
theorem yY{L:LN}(h:fX L):(kA L).contains 10=false:=by
 cases h with
 | op o h=>
  have e:kA ⟨1,o,0,[],wJ⟩=kT++yQ o:=by rw[<-Cy h];rfl
  rw[e,et,Gg h];rfl
 | ins uC gU h hn=>
  have e:kA ⟨2,nw,uC,gU,wJ⟩=s5 uC++np gU:=rfl;rw[e,et,Gh h];cases gU with
  | nil=>rfl
  | cons w r=>
   rw[lN,eK,et,l7 (hn w bU),qT (by decide) r (λx hx=>l7 (hn x (bM _ hx)))];rfl
 | LL m h1 h2 h3 h4=>
  have e:kA ⟨3,nw,0,[],m⟩=lF m:=rfl;rw[e,rN,et,eK,et,eK,et,eK,et,eK,iB h1.1 (by decide),iB h2.1 (by decide),iB h3.1 (by decide),iB h4.1 (by decide)];rfl
def qo:List UInt8:=[59,10]
theorem wa:∀(l r:List UInt8),l.contains 10=false->Lib.index (l++59::10::r) qo=l.length
 | [],r,_=>by
  show Lib.index (59::10::r) qo=0;rw[Lib.index];simp[qo,List.isPrefixOf]
 | c::l,r,h=>by
  rw[eK,aZ]at h;have ih:=wa l r h.2;have hp:qo.isPrefixOf (c::(l++59::10::r))=false:=by
   cases l with
   | nil=>simp[qo,List.isPrefixOf]
   | cons d l=>
    have h2:=h.2;rw[eK,aZ,bJ]at h2;simp[qo,List.isPrefixOf];intro _ e;exact absurd e h2.1
  show Lib.index (c::(l++59::10::r)) qo=_;rw[Lib.index,hp,if_neg (by simp),ih,if_neg (by simp<;>omega),aw];omega
theorem JX{l r:List UInt8}(h:l.contains 10=false):Lib.cut (l++59::10::r) qo=(l,r,true):=by
 unfold Lib.cut;rw[wa l r h,if_pos (by omega),ai,List.take_left];have:(l++59::10::r).drop (l.length+qo.length)=r:=by
  rw[List.drop_append,aH (by omega)];have:l.length+qo.length - l.length=2:=by show l.length+2 - l.length=2;omega
  rw[this];rfl
 rw[this]
theorem El(s:List UInt8):Lib.cut s qo=(s,[],false)\/∃l r,s=l++59::10::r/\Lib.cut s qo=(l,r,true):=by
 rcases Lib.index_spec s qo with⟨h,_⟩|⟨i,h,hi,ho,_⟩
 ·left;unfold Lib.cut;rw[h,if_neg (by decide)]
 ·right;unfold Lib.occAt at ho;have hd:∃r,s.drop i=59::10::r:=by
   cases hq:s.drop i with
   | nil=>rw[hq]at ho;cases ho
   | cons a t=>
    cases t with
    | nil=>rw[hq]at ho;simp[qo,List.isPrefixOf]at ho
    | cons b t=>
     rw[hq]at ho;simp[qo,List.isPrefixOf]at ho;exact⟨t,by rw[<-ho.1,<-ho.2]⟩
  obtain⟨r,hr⟩:=hd;refine⟨s.take i,r,?_,?_⟩
  ·rw[<-hr,cK]
  ·unfold Lib.cut;rw[h,if_pos (by omega),ai];have:s.drop (i+qo.length)=r:=by
    rw[<-bZ,hr];rfl
   rw[this]
theorem Ek(s:List UInt8):(∃l r,s=l++59::10::r/\l.contains 10=false)\/(jM s 10=[]\/∃r,jM s 10=10::r/\(kV s 10=[]\/∃q c,kV s 10=q++[c]/\c≠59))/\∀l r,s=l++59::10::r->l.contains 10=true:=by
 have hu:=Kk s 10;have hn:=IL s 10;by_cases hg:∃l r,s=l++59::10::r/\l.contains 10=false
 ·exact .inl hg
 ·right;constructor
  ·rcases pM s 10 with h|⟨r,h⟩
   ·exact .inl h
   ·refine .inr ⟨r,h,?_⟩;rcases List.eq_nil_or_concat (kV s 10)with h2|⟨q,c,h2⟩
    ·exact .inl h2
    ·refine .inr ⟨q,c,by rw[h2];simp,?_⟩;rintro rfl;apply hg;refine⟨q,r,?_,?_⟩
     ·conv=>lhs;rw[hu,h2,h]
      simp
     ·rw[h2]at hn;simp only[List.concat_eq_append]at hn;rw[et,aZ]at hn;exact hn.1
  ·intro l r e;cases hl:l.contains 10 with
   | true=>rfl
   | false=>exact absurd ⟨l,r,e,hl⟩ hg
section
variable {n:Nat}
theorem HN(s:List UInt8)(h:s.length<=100000):nt.F n (bs s) (bs qo)=some (bs (Lib.cut s qo).1,bs (Lib.cut s qo).2.1,(Lib.cut s qo).2.2):=by
 unfold nt.F;rw[cS (by rw[cU];omega),show(bs qo).data.toList=qo from rfl,show(bs s).data.toList=s from rfl]
end
def mK(x:Nat × LN):AV:=.agg [vi x.1,vi x.2.pt,vs (bs x.2.o.nm),vi x.2.o.kd,vi x.2.o.k,vi x.2.o.l,vi x.2.o.s,vi x.2.o.vn,vs (bs x.2.o.vx),vs (bs x.2.o.ba),vi x.2.o.of,vi x.2.o.tg,vi x.2.uC,.sl ⟨true,9,false⟩ 1 (Ws x.2.gU),vi x.2.mo.fr,vi x.2.mo.tt,vi x.2.mo.ex,vi x.2.mo.hd]
abbrev PR:=List AV × List AV × List AV × Int × Int
def PB:Int->List (Nat × LN)->Prop
 | _,[]=>True
 | p,x::r=>p<=x.2.pt/\PB x.2.pt r
section
variable {n:Nat}
theorem I5(hn:1000002<=n)(T:List UInt8)(hT:T.length<=6000)(at' : Nat)(qY:at'<T.length)(hb:∀l r,T.drop at'=l++59::10::r->l.contains 10=true)(part:Int)(acc:List AV)(m:Nat):je.l n (m+2) (.z5 (bs T) ((at' : Nat):Int) part acc)=some ([],[],[],((at' : Nat):Int),8):=by
 rw[je.Nf];unfold je.r5;simp only[cU];rw[cS (by omega),dD (dv (by omega)),ai,show(bs T).extract at' T.length=bs (T.drop at')from jc T at',show(⟨#[59,10]⟩:ByteArray)=bs qo from rfl,HN _ (by rw[aM];omega),ab];simp only[cU];have Hd:(T.drop at').length=T.length - at':=aM;have key:∃l f,Lib.cut (T.drop at') qo=(l,f)/\l.length<=T.length - at'/\((l=T.drop at')\/l.contains 10=true):=by
  rcases El (T.drop at')with h|⟨l,r,h1,h2⟩
  ·exact⟨_,_,h,by omega,.inl rfl⟩
  ·refine⟨_,_,h2,?_,.inr (hb l r h1)⟩;have:=congrArg List.length h1;rw[ag]at this;omega
 obtain⟨l,f,e1,e2,e3⟩:=key;rw[e1];simp only;have ew:IntKind.i64.wrap (((at' : Nat):Int)+((l.length:Nat):Int))=((at'+l.length:Nat):Int):=by rw[nU (by omega) (by omega)];omega
 simp only[ew];rw[dD (dv (by omega)),ai,show(bs T).extract (at'+l.length) T.length=bs (T.drop (at'+l.length))from jc T _,xt,ab];obtain⟨L,ok,g1,g2⟩:=yG hn l (by omega);rw[g1,ab];simp only;cases gJ:ok with
 | false=>rfl
 | true=>
  obtain⟨q1,q2⟩:=g2 gJ;have D3:=yY q1;rw[q2]at D3;rcases e3 with e3|e3
  ·have hd:T.drop (at'+l.length)=[]:=by rw[List.drop_eq_nil_iff];rw[e3,Hd];omega
   rw[hd,aC,cond_false,a_ (by decide)];rfl
  ·rw[D3]at e3;cases e3
theorem yH(T:List UInt8)(hT:T.length<=6000)(at' : Nat){l r:List UInt8}(hd:T.drop at'=l++59::10::r)(hl:l.contains 10=false)(part:Int)(acc:List AV)(Hi:acc.length<=6000)(m:Nat){L:LN}{ok:Bool}(hr:gN.F n (bs l)=some (F9 L ok)):je.l n (m+2) (.z5 (bs T) ((at' : Nat):Int) part acc)=if ok=true/\part<=L.pt then je.l n (m+1) (.z5 (bs T) ((at'+l.length+2:Nat):Int) L.pt (acc++[mK (at',L)]))else some ([],[],[],((at' : Nat):Int),8):=by
 have hlen:=congrArg List.length hd;rw[aM,ag,aw,aw]at hlen;have kD:eR=1000000000:=rfl;rw[je.Nf];unfold je.r5;simp only[cU];rw[cS (by omega),dD (dv (by omega)),ai,show(bs T).extract at' T.length=bs (T.drop at')from jc T at',show(⟨#[59,10]⟩:ByteArray)=bs qo from rfl,HN _ (by rw[aM];omega),ab,hd,JX hl];simp only[cU];have ew:IntKind.i64.wrap (((at' : Nat):Int)+((l.length:Nat):Int))=((at'+l.length:Nat):Int):=by rw[nU (by omega) (by omega)];omega
 have Az:T.drop (at'+l.length)=59::10::r:=by rw[<-bZ,hd,cA]
 simp only[ew];rw[dD (dv (by omega)),ai,show(bs T).extract (at'+l.length) T.length=bs (T.drop (at'+l.length))from jc T _,xt,ab,hr,ab,Az];simp only;rw[decide_eq_true (show(59::10::r).take qo.length=qo from rfl),aC,cond_false];cases ok with
 | false=>rw[if_neg (by simp)];rfl
 | true=>
  rw[aC,cond_false];by_cases hp:part<=L.pt
  ·rw[cT (by omega),if_pos ⟨rfl,hp⟩,cS (by simp;omega)];have YX:IntKind.i64.wrap (((l.length:Nat):Int)+2)=((l.length+2:Nat):Int):=by rw[nU (by omega) (by omega)];omega
   have YW:IntKind.i64.wrap (((at' : Nat):Int)+((l.length+2:Nat):Int))=((at'+l.length+2:Nat):Int):=by rw[nU (by omega) (by omega)];omega
   simp only[YX,YW];rfl
  ·rw[cS (by omega),if_neg (λh=>hp h.2)];rfl
end
abbrev Tq(o:Option PR):Option PR:=o.bind λoZ=>some (oZ.1,oZ.2.1,oZ.2.2.1,oZ.2.2.2.1,oZ.2.2.2.2)
theorem JY(o:Option PR):Tq o=o:=by cases o<;>rfl
def opsOf:List (Nat × LN)->List OP
 | []=>[]
 | x::r=>if x.2.pt=1 then x.2.o::opsOf r else opsOf r
def iu:List (Nat × LN)->List MN
 | []=>[]
 | x::r=>if x.2.pt=3 then x.2.mo::iu r else iu r
def fT(k:Int):List (Nat × LN)->List Int
 | []=>[]
 | x::r=>if x.2.pt=k then((x.1:Nat):Int)::fT k r else fT k r
theorem fX.Rq{L:LN}(h:fX L):L.pt=1\/L.pt=2\/L.pt=3:=by
 cases h with
 | op o h=>exact .inl rfl
 | ins _ _ _ _=>exact .inr (.inl rfl)
 | LL _ _ _ _ _=>exact .inr (.inr rfl)
section
variable {n:Nat}
abbrev zP(ls:List (Nat × LN))(i:Nat)(A B C1 C2 C3:List AV):dw.Z:=.z4 (ls.map mK) (ls.map mK) ((ls.length:Nat):Int) ((i:Nat):Int) A B [vi 0] C1 C2 C3
theorem wZ(n:Nat)(ls:List (Nat × LN))(hl:ls.length<=100000)(hg:∀x∈ls,fX x.2):∀(d i m:Nat) (A B C1 C2 C3:List AV),i+d=ls.length->A.length<=i->B.length<=i->C1.length<=i->C2.length<=i->C3.length<=i->
  dw.l n (m+4*d) (zP ls i A B C1 C2 C3)=dw.l n m (zP ls ls.length (A++(opsOf (ls.drop i)).map OP.av) (B++(iu (ls.drop i)).map MN.av) (C1++(fT 1 (ls.drop i)).map vi) (C2++(fT 2 (ls.drop i)).map vi) (C3++(fT 3 (ls.drop i)).map vi))
 | 0,i,m,A,B,C1,C2,C3,h,_,_,_,_,_=>by
  have:i=ls.length:=by omega
  subst this;rw[aH (aJ _)];show dw.l n m _=dw.l n m (zP ls ls.length (A++[]) (B++[]) (C1++[]) (C2++[]) (C3++[]));simp only[bf]
 | d+1,i,m,A,B,C1,C2,C3,h,hA,hB,h1,h2,h3=>by
  have hi:i<ls.length:=by omega
  have kD:eR=1000000000:=rfl;have hd:=aG hi;have Sk:=hg _ (aX hi);rw[show m+4*(d+1)=((((m+4*d)+1)+1)+1)+1 by omega];show dw.l n (((((m+4*d)+1)+1)+1)+1) (.z4 (ls.map mK) (ls.map mK) ((ls.length:Nat):Int) ((i:Nat):Int) A B [vi 0] C1 C2 C3)=_;rw[dw.Ai];unfold dw.r4;rw[cS (by omega),af,c8 hi,ak,ai,dn mK hi];simp only[mK,dc,cO,cW,cY,c_];rw[dw.My];unfold dw.r6;rcases Sk.Rq with hp|hp|hp
  ·rw[hp,cT (by decide),cT (by decide),cS (by decide),cS (by simp;omega),dw.EI];unfold dw.r7;rw[eQ,if_pos rfl];simp only;rw[cS (by simp;omega),dw.H2];unfold dw.uM;rw[dA (by omega)];have ih:=wZ n ls hl hg d (i+1) m (A++[ls[i].2.o.av]) B (C1++[vi ((ls[i].1:Nat):Int)]) C2 C3 (by omega) (by simp;omega) (by omega) (by simp;omega) (by omega) (by omega);refine Eq.trans ih ?_;rw[hd];simp[opsOf,iu,fT,hp]
  ·rw[hp,cT (by decide),cS (by decide),cS (by simp;omega),dw.EI];unfold dw.r7;rw[eQ,if_neg (by decide),eQ,if_neg (by decide),dw.H2];unfold dw.uM;rw[dA (by omega)];have ih:=wZ n ls hl hg d (i+1) m A B C1 (C2++[vi ((ls[i].1:Nat):Int)]) C3 (by omega) (by omega) (by omega) (by omega) (by simp;omega) (by omega);refine Eq.trans ih ?_;rw[hd];simp[opsOf,iu,fT,hp]
  ·rw[hp,cS (by decide),cS (by simp;omega),dw.EI];unfold dw.r7;rw[eQ,if_neg (by decide),eQ,if_pos rfl];simp only;rw[cS (by simp;omega),dw.H2];unfold dw.uM;rw[dA (by omega)];have ih:=wZ n ls hl hg d (i+1) m A (B++[ls[i].2.mo.av]) C1 C2 (C3++[vi ((ls[i].1:Nat):Int)]) (by omega) (by omega) (by simp;omega) (by omega) (by omega) (by simp;omega);refine Eq.trans ih ?_;rw[hd];simp[opsOf,iu,fT,hp]
end
def mB(os:List OP)(L:LN):IN:=⟨L.uC,L.gU.map λw=>iH (dz os) w 0⟩
def me(os:List OP):List (Nat × LN)->List IN->(Nat × Int) ⊕ List IN
 | [],acc=>.inr acc
 | x::r,acc=>if x.2.pt≠2 then me os r acc else if x.2.gU.length≠(cls x.2.uC).length then .inl (x.1,37)
  else if(x.2.gU.all λw=>(dz os).contains w)=true then me os r (acc++[mB os x.2])else .inl (x.1,11)
theorem Jt(ws:List (List UInt8))(w:List UInt8):(iH ws w 0<0↔ws.contains w=false)/\(iH ws w 0=-1↔ws.contains w=false):=by
 have h:=nF ws w 0;have hl:=xj ws w 0;cases hc:ws.contains w with
 | true=>
  rw[hc,az]at h;constructor
  ·constructor
   ·intro h2;omega
   ·intro h2;cases h2
  ·constructor
   ·intro h2;omega
   ·intro h2;cases h2
 | false=>
  rw[hc,bJ]at h;constructor
  ·exact⟨λ_=>rfl,λ_=>by omega⟩
  ·exact⟨λ_=>rfl,λ_=>by omega⟩
theorem fX.NY{L:LN}(h:fX L)(hp:L.pt=2):0<=L.uC/\L.uC<=18:=by
 cases h with
 | op o h=>cases hp
 | ins _ _ h _=>exact h
 | LL _ _ _ _ _=>cases hp
section
variable {n:Nat}
theorem Gp(hn:1001<=n)(os:List OP)(ho:os.length<=1000)(gU:List (List UInt8))(qV:gU.length<=100)(NU:List AV)(len i:Int)(IA B Z0 C1 C2 C3:List AV)(Yk:IA.length<=100000)(dQ dR ef ee eD z20 z21 z24 z25 z26 z28 mF mv z31 oM:Int)(dV z22 z23:ByteArray)(gP:List AV):∀(d j M:Nat) (acc:List Int),j+d=gU.length->d+1<=M->acc.length<=j->
  dw.l n M (.z21 NU len i (Ws gU) ((gU.length:Nat):Int) ((j:Nat):Int) (os.map OP.av) IA B Z0 C1 C2 C3 dQ dR dV ef ee eD z20 z21 z22 z23 z24 z25 z26 gP z28 mF mv z31 oM (acc.map vi))=if((gU.drop j).all λw=>(dz os).contains w)=true then dw.l n (M - (d+1)) (.dQ NU len (IntKind.i64.wrap (i+1)) (os.map OP.av) (IA++[IN.av ⟨oM,acc++(gU.drop j).map λw=>iH (dz os) w 0⟩]) B Z0 C1 C2 C3)else some ([],[],[],dQ,11)
 | _,_,0,_,_,h,_=>absurd h (by omega)
 | 0,j,M+1,acc,h,_,ha=>by
  have kD:eR=1000000000:=rfl;rw[dw.Pz];unfold dw.wW;rw[cT (by omega),aH (by omega),List.all_nil,if_pos rfl];simp only;rw[cS (by simp;omega)];simp[IN.av]
 | d+1,j,M+1,acc,h,hM,ha=>by
  have hj:j<gU.length:=by omega
  have kD:eR=1000000000:=rfl;rw[dw.Pz];unfold dw.wW;rw[cS (by omega),c7,c8 hj,ak,sa hj];simp only[dp,cO,cY];rw[o8 hn os ho,ab,aG hj,bE];obtain⟨h1,_⟩:=Jt (dz os) gU[j];cases hc:(dz os).contains gU[j]with
  | false=>
   rw[cS (h1.2 hc),if_neg (by simp)]
  | true=>
   rw[cT (λe=>by rw[h1.1 e]at hc;cases hc),cS (by rw[af];simp;omega),dA (by omega)];have em:acc.map vi++[vi (iH (dz os) gU[j] 0)]=(acc++[iH (dz os) gU[j] 0]).map vi:=by simp
   rw[em,Gp hn os ho gU qV NU len i IA B Z0 C1 C2 C3 Yk dQ dR ef ee eD z20 z21 z24 z25 z26 z28 mF mv z31 oM dV z22 z23 gP d (j+1) M (acc++[iH (dz os) gU[j] 0]) (by omega) (by omega) (by simp;omega),ct,show M+1 - (d+1+1)=M - (d+1) by omega,bd,bH,cL]
def PH(a:Option PR)(b:List IN->Nat->Option PR)(m:Nat):(Nat × Int) ⊕ List IN->Prop
 | .inl x=>a=some ([],[],[],((x.1:Nat):Int),x.2)
 | .inr is=>∃m',m<=m'/\a=b is m'
theorem A6(hn:1001<=n)(os:List OP)(ho:os.length<=1000)(ls:List (Nat × LN))(hl:ls.length<=100000)(hg:∀x∈ls,fX x.2)(B Z0 C1 C2 C3:List AV):∀(d i m M:Nat) (acc:List IN),i+d=ls.length->m+5*d<=M->acc.length<=i->
  PH (dw.l n M (.dQ (ls.map mK) ((ls.length:Nat):Int) ((i:Nat):Int) (os.map OP.av) (acc.map IN.av) B Z0 C1 C2 C3)) (λis m'=>dw.l n m' (.dQ (ls.map mK) ((ls.length:Nat):Int) ((ls.length:Nat):Int) (os.map OP.av) (is.map IN.av) B Z0 C1 C2 C3)) m (me os (ls.drop i) acc)
 | 0,i,m,M,acc,h,hM,_=>by
  have:i=ls.length:=by omega
  subst this;rw[aH (aJ _)];exact⟨M,by omega,rfl⟩
 | d+1,i,m,M,acc,h,hM,ha=>by
  have hi:i<ls.length:=by omega
  have hd:=aG hi;have Sk:=hg _ (aX hi);obtain⟨M,rfl⟩:∃q,M=q+1:=⟨M - 1,by omega⟩;rw[hd,dw.HZ];unfold dw.As;rw[cS (by omega),af,c8 hi,ak,ai,dn mK hi];simp only[mK,dc,cO,cW,cY,c_];rw[eT];unfold me;by_cases hp:ls[i].2.pt=2
  ·rw[if_pos hp,if_neg (λh=>h hp)];have eF:=Sk.NY hp;obtain⟨r,hr⟩:=uc eF;have fZ:=pz eF;rw[dD (by rw[ae,az,az];omega),hr,cO,c_];simp only[c7,af];rw[eT];by_cases hlen:ls[i].2.gU.length=(cls ls[i].2.uC).length
   ·rw[if_pos (by omega),if_neg (λh=>h hlen)];have hN:=Gp hn os ho ls[i].2.gU (by omega) (ls.map mK) ((ls.length:Nat):Int) ((i:Nat):Int) (acc.map IN.av) B Z0 C1 C2 C3 (by rw[af];omega) ((ls[i].1:Nat):Int) ls[i].2.pt ls[i].2.o.kd ls[i].2.o.k ls[i].2.o.l ls[i].2.o.s ls[i].2.o.vn ls[i].2.o.of ls[i].2.o.tg ls[i].2.uC ls[i].2.mo.fr ls[i].2.mo.tt ls[i].2.mo.ex ls[i].2.mo.hd ls[i].2.uC (bs ls[i].2.o.nm) (bs ls[i].2.o.vx) (bs ls[i].2.o.ba) (Ws ls[i].2.gU) ls[i].2.gU.length 0 M [] (by omega) (by omega) (by simp);rw[aU]at hN;refine xN (P:=λq=>PH q _ m _) hN ?_;by_cases ic:(ls[i].2.gU.all λw=>(dz os).contains w)=true
    ·rw[if_pos ic,if_pos ic,dA (by omega)];have ea:acc.map IN.av++[IN.av ⟨ls[i].2.uC,[]++ls[i].2.gU.map λw=>iH (dz os) w 0⟩]=(acc++[mB os ls[i].2]).map IN.av:=by simp[mB]
     rw[ea];exact A6 hn os ho ls hl hg B Z0 C1 C2 C3 d (i+1) m _ (acc++[mB os ls[i].2]) (by omega) (by omega) (by simp;omega)
    ·rw[if_neg ic,if_neg ic];rfl
   ·rw[if_neg (by omega),if_pos hlen];rfl
  ·rw[if_neg hp,if_pos hp,dA (by omega)];exact A6 hn os ho ls hl hg B Z0 C1 C2 C3 d (i+1) m M acc (by omega) (by omega) (by omega)
end
section
variable {n:Nat}
theorem BS(hn:1001<=n)(os:List OP)(is:List IN)(hx:∀x∈is,x.ar.length<=1000)(ms:List MN):eL.F n (os.map OP.av) (is.map IN.av) (ms.map MN.av)=some (fC os is ms):=by
 by_cases hb:os.length>24\/is.length>40\/ms.length>6
 ·obtain⟨m,rfl⟩:∃m,n=m+1:=⟨n - 1,by omega⟩;unfold eL.F eL.e fC;simp only[af,eL.q9];unfold eL.r2;simp only[mi,ab,xv hn,eT,af];have c1:decide (((os.length:Nat):Int)>24)=decide (os.length>24):=by rw[b8];omega
  have c2:decide (((is.length:Nat):Int)>40)=decide (is.length>40):=by rw[b8];omega
  have c3:decide (((ms.length:Nat):Int)>6)=decide (ms.length>6):=by rw[b8];omega
  rw[c1,c2,c3];by_cases h1:os.length>24
  ·simp[h1]
  ·by_cases h2:is.length>40
   ·simp[h1,h2]
   ·have h3:ms.length>6:=by omega
    simp[h1,h2,h3]
 ·exact wm hn os (by omega) is (by omega) hx ms (by omega)
end
theorem sW(nI:Nat):∀(r b:List OP),(l6 nI b r).2≠0->∃k:Nat,(l6 nI b r).1=(k:Int)/\b.length<=k/\k<b.length+r.length
 | [],b,h=>absurd rfl h
 | o::r,b,h=>by
  rw[lE]at h ⊢;by_cases h0:w6 b o nI≠0
  ·rw[if_pos h0];exact⟨b.length,rfl,aJ _,by simp⟩
  ·rw[if_neg h0]at h ⊢;obtain⟨k,k1,k2,k3⟩:=sW nI r (b++[o]) h;simp at k2 k3;exact⟨k,k1,by omega,by simp;omega⟩
theorem tF(os:List OP):∀(r:List IN) (i:Nat),(rm os r i).2≠0->∃k:Nat,(rm os r i).1=(k:Int)/\i<=k/\k<i+r.length
 | [],i,h=>absurd rfl h
 | x::r,i,h=>by
  rw[qc]at h ⊢;by_cases h0:nc os x≠0
  ·rw[if_pos h0];exact⟨i,rfl,aJ _,by simp⟩
  ·rw[if_neg h0]at h ⊢;obtain⟨k,k1,k2,k3⟩:=tF os r (i+1) h;exact⟨k,k1,by omega,by simp;omega⟩
theorem tn(nI:Nat):∀(r:List MN) (i:Nat),(rj nI r i).2≠0->∃k:Nat,(rj nI r i).1=(k:Int)/\i<=k/\k<i+r.length
 | [],i,h=>absurd rfl h
 | x::r,i,h=>by
  rw[pZ]at h ⊢;by_cases h0:mG nI x≠0
  ·rw[if_pos h0];exact⟨i,rfl,aJ _,by simp⟩
  ·rw[if_neg h0]at h ⊢;obtain⟨k,k1,k2,k3⟩:=tn nI r (i+1) h;exact⟨k,k1,by omega,by simp;omega⟩
theorem xK(os:List OP)(is:List IN)(ms:List MN)(h:(fC os is ms).2.2≠0):((fC os is ms).1=0/\(fC os is ms).2.1=0)\/∃k:Nat,(fC os is ms).2.1=(k:Int)/\(((fC os is ms).1=1/\k<os.length)\/((fC os is ms).1=2/\k<is.length)\/((fC os is ms).1=3/\k<ms.length)):=by
 unfold fC at h ⊢;split
 ·exact .inl ⟨rfl,rfl⟩
 rename_i h1;rw[if_neg h1]at h;split
 ·exact .inl ⟨rfl,rfl⟩
 rename_i h2;rw[if_neg h2]at h;split
 ·rename_i h3;obtain⟨k,k1,_,k3⟩:=sW is.length os [] h3;exact .inr ⟨k,k1,.inl ⟨rfl,by simpa using k3⟩⟩
 rename_i h3;rw[if_neg h3]at h;split
 ·exact .inl ⟨rfl,rfl⟩
 rename_i h4;rw[if_neg h4]at h;unfold xM at h ⊢;split
 ·rename_i h5;obtain⟨k,k1,_,k3⟩:=tF os is 0 h5;exact .inr ⟨k,k1,.inr (.inl ⟨rfl,by simpa using k3⟩)⟩
 rename_i h5;rw[if_neg h5]at h;unfold xL at h ⊢;split
 ·rename_i h6;obtain⟨k,k1,_,k3⟩:=tn is.length ms 0 h6;exact .inr ⟨k,k1,.inr (.inr ⟨rfl,by simpa using k3⟩)⟩
 ·exact .inl ⟨rfl,rfl⟩
theorem pV:∀ls:List (Nat × LN),(fT 1 ls).length=(opsOf ls).length
 | []=>rfl
 | x::r=>by
  unfold fT opsOf;split
  ·simp[pV r]
  ·exact pV r
theorem pU:∀ls:List (Nat × LN),(fT 3 ls).length=(iu ls).length
 | []=>rfl
 | x::r=>by
  unfold fT iu;split
  ·simp[pU r]
  ·exact pU r
theorem tD(os:List OP):∀(ls:List (Nat × LN)) (acc is:List IN),me os ls acc=.inr is->is.length=acc.length+(fT 2 ls).length
 | [],acc,is,h=>by
  cases h;rfl
 | x::r,acc,is,h=>by
  unfold me at h;unfold fT;by_cases hp:x.2.pt=2
  ·rw[if_neg (λh=>h hp)]at h;rw[if_pos hp];split at h
   ·cases h
   split at h
   ·have:=tD os r _ is h;rw[this];simp;omega
   ·cases h
  ·rw[if_pos hp]at h;rw[if_neg hp];exact tD os r acc is h
theorem xn(os:List OP):∀(ls:List (Nat × LN)) (acc is:List IN),(∀x∈ls,fX x.2)->(∀x∈acc,x.ar.length<=3)->me os ls acc=.inr is->∀x∈is,x.ar.length<=3
 | [],acc,is,_,ha,h=>by
  cases h;exact ha
 | x::r,acc,is,hg,ha,h=>by
  unfold me at h;by_cases hp:x.2.pt=2
  ·rw[if_neg (λh=>h hp)]at h;split at h
   ·cases h
   rename_i hlen;split at h
   ·refine xn os r _ is (λy hy=>hg y (bM _ hy)) ?_ h;intro y hy;rw[aK]at hy;rcases hy with hy|hy
    ·exact ha y hy
    ·rw[bh]at hy;rw[hy];have:=pz ((hg x bU).NY hp);unfold mB;simp only[af];omega
   ·cases h
  ·rw[if_pos hp]at h;exact xn os r acc is (λy hy=>hg y (bM _ hy)) ha h
theorem Jc{o:OP}(h:B9 o):8<=(yR o).length:=by
 have qV:=iw h.name;rw[Cy h];unfold yQ P2 kT;cases h with
 | FW hk nm ty v ba of tg=>rcases hk with hk|hk<;>simp[hk]<;>omega
 | IH hk nm ty vn vx ba of tg=>rcases hk with hk|hk<;>simp[hk]<;>omega
 | ptr hk nm k l s vn vx ba of tg=>simp[hk]
 | Jn hk nm k l s vn vx ba of tg=>simp[hk]
theorem Cv:∀(ls:List (Nat × LN)),(∀x∈ls,fX x.2)->10*(opsOf ls).length<=(flat (ls.map λx=>kA x.2)).length
 | [],_=>cr _
 | x::r,hg=>by
  have ih:=Cv r (λy hy=>hg y (bM _ hy));have X0:=hg x bU;rw[bd];unfold flat opsOf;rw[ag,ag];split
  ·rename_i hp;have:8<=(kA x.2).length:=by
    generalize x.2=L at *;cases X0 with
    | op o h=>exact Jc h
    | ins _ _ _ _=>cases hp
    | LL _ _ _ _ _=>cases hp
   simp;omega
  ·omega
section
variable {n:Nat}
theorem J9(b:ByteArray):(b==b)=true:=by
 cases b with
 | mk a=>
  show(a==a)=true;simp
theorem Kr(n:Nat)(os:List OP)(ho:os.length<=100000)(a2 a3 b2 b3:List AV):∀(d i m:Nat),i+d=os.length->gj.l n (m+d+1) (.z4 ((i:Nat):Int) (os.map OP.av) a2 a3 (os.map OP.av) b2 b3)=gj.l n m (.z9 0 (os.map OP.av) a2 a3 (os.map OP.av) b2 b3)
 | 0,i,m,h=>by
  rw[bQ,gj.Ai];unfold gj.r4;simp only[af];rw[cT (by omega)]
 | d+1,i,m,h=>by
  have hi:i<os.length:=by omega
  rw[show m+(d+1)+1=(m+d+1)+1 by omega,gj.Ai];unfold gj.r4;simp only[af];rw[cS (by omega),c8 hi,ak,ai,dn OP.av hi];simp only[OP.av,dc,cO,cW,cY];rw[ak];simp only[cO,cW,cY,beq_self_eq_true,J9,Bool.and_self,aC,cond_false];rw[dA (by omega)];exact Kr n os ho a2 a3 b2 b3 d (i+1) m (by omega)
theorem Kt(hn:100001<=n)(is:List IN)(hl:is.length<=100000)(hx:∀x∈is,x.ar.length<=3)(a1 a3 b1 b3:List AV):∀(d i m:Nat),i+d=is.length->gj.l n (m+d+1) (.z9 ((i:Nat):Int) a1 (is.map IN.av) a3 b1 (is.map IN.av) b3)=gj.l n m (.dQ 0 a1 (is.map IN.av) a3 b1 (is.map IN.av) b3)
 | 0,i,m,h=>by
  rw[bQ,gj.at9];unfold gj.r9;simp only[af];rw[cT (by omega)]
 | d+1,i,m,h=>by
  have hi:i<is.length:=by omega
  have Xl:=hx _ (aX hi);rw[show m+(d+1)+1=(m+d+1)+1 by omega,gj.at9];unfold gj.r9;simp only[af];rw[cS (by omega),c8 hi,ak,ai,dn IN.av hi];simp only[IN.av,dc,cO,cW,ak,bP,aU,c_];rw[eT,if_pos rfl,DU _ (by omega) hn,ab,aC,cond_false,dA (by omega)];exact Kt hn is hl hx a1 a3 b1 b3 d (i+1) m (by omega)
theorem Ks(n:Nat)(ms:List MN)(hl:ms.length<=100000)(a1 a2 b1 b2:List AV):∀(d i m:Nat),i+d=ms.length->gj.l n (m+d+1) (.dQ ((i:Nat):Int) a1 a2 (ms.map MN.av) b1 b2 (ms.map MN.av))=some true
 | 0,i,m,h=>by
  rw[bQ,gj.HZ];unfold gj.As;simp only[af];rw[cT (by omega)]
 | d+1,i,m,h=>by
  have hi:i<ms.length:=by omega
  rw[show m+(d+1)+1=(m+d+1)+1 by omega,gj.HZ];unfold gj.As;simp only[af];rw[cS (by omega),c8 hi,ak,ai,dn MN.av hi];simp only[MN.av,dc,cO,cW,ak,beq_self_eq_true,Bool.and_self,aC,cond_false];rw[dA (by omega)];exact Ks n ms hl a1 a2 b1 b2 d (i+1) m (by omega)
theorem Dv(hn:1000002<=n)(os:List OP)(ho:os.length<=100000)(is:List IN)(hl:is.length<=100000)(hx:∀x∈is,x.ar.length<=3)(ms:List MN)(hm:ms.length<=100000):gj.F n (os.map OP.av) (is.map IN.av) (ms.map MN.av) (os.map OP.av) (is.map IN.av) (ms.map MN.av)=some true:=by
 unfold gj.F gj.e;simp only[af];rw[eT,if_pos rfl,eT,if_pos rfl,eT,if_pos rfl];obtain⟨q,rfl⟩:∃q,n=q+ms.length+1+is.length+1+os.length+1:=⟨n - 3 - ms.length - is.length - os.length,by omega⟩;have e1:=Kr (q+ms.length+1+is.length+1+os.length+1) os ho (is.map IN.av) (ms.map MN.av) (is.map IN.av) (ms.map MN.av) os.length 0 (q+ms.length+1+is.length+1) (by omega);have e2:=Kt (show 100001<=q+ms.length+1+is.length+1+os.length+1 by omega) is hl hx (os.map OP.av) (ms.map MN.av) (os.map OP.av) (ms.map MN.av) is.length 0 (q+ms.length+1) (by omega);have e3:=Ks (q+ms.length+1+is.length+1+os.length+1) ms hm (os.map OP.av) (is.map IN.av) (os.map OP.av) (is.map IN.av) ms.length 0 q (by omega);exact e1.trans (e2.trans e3)
def HC(ls:List (Nat × LN))(os:List OP)(is:List IN)(ms:List MN):PR:=
 if(fC os is ms).2.2=0 then(os.map OP.av,is.map IN.av,ms.map MN.av,0,0)
 else([],[],[],(if(fC os is ms).1=0 then 0 else(fT (fC os is ms).1 ls).getD (fC os is ms).2.1.toNat 0),(fC os is ms).2.2)
theorem Fs{l:List Int}{k:Nat}(h:k<l.length):((l.map vi).getD k AV.undef).cells=[vi (l.getD k 0)]:=by
 rw[dn vi h];have:l.getD k 0=l[k]:=by simp[ah,h]
 rw[this];rfl
theorem JZ(hn:1000002<=n)(ls:List (Nat × LN))(os:List OP)(is:List IN)(ms:List MN)(Ax:os=opsOf ls)(XJ:ms=iu ls)(XV:is.length=(fT 2 ls).length)(hx:∀x∈is,x.ar.length<=3)(m:Nat)(NU:List AV)(len:Nat) :
  dw.l n (m+2) (.dQ NU ((len:Nat):Int) ((len:Nat):Int) (os.map OP.av) (is.map IN.av) (ms.map MN.av) [vi 0] ((fT 1 ls).map vi) ((fT 2 ls).map vi) ((fT 3 ls).map vi))=some (HC ls os is ms):=by
 have X_:=BS (n:=n) (by omega) os is (λx h=>by have:=hx x h;omega) ms;rw[dw.HZ];unfold dw.As;rw[cT (by omega),X_,ab,eT];unfold HC;by_cases h0:(fC os is ms).2.2=0
 ·rw[if_pos h0,if_pos h0]
 ·rw[if_neg h0,if_neg h0,dw.TB];unfold dw.NH;rcases xK os is ms h0 with⟨p1,p2⟩|⟨k,p2,hp⟩
  ·rw[p1,p2,if_pos rfl];rfl
  ·rcases hp with⟨p1,hk⟩|⟨p1,hk⟩|⟨p1,hk⟩
   ·have tK:k<(fT 1 ls).length:=by rw[pV,<-Ax];exact hk
    rw[p1,p2,if_neg (by decide),dD (by decide),show jV ((1:Int).toNat*1) [AV.sl ⟨true,3,false⟩ 1 [vi 0],.sl ⟨true,3,false⟩ 1 ((fT 1 ls).map vi),.sl ⟨true,3,false⟩ 1 ((fT 2 ls).map vi),.sl ⟨true,3,false⟩ 1 ((fT 3 ls).map vi)]=.sl ⟨true,3,false⟩ 1 ((fT 1 ls).map vi)::[.sl ⟨true,3,false⟩ 1 ((fT 2 ls).map vi),.sl ⟨true,3,false⟩ 1 ((fT 3 ls).map vi)]from rfl,cO,c_,af,c8 tK,ak,ai,Fs tK,cO,cW]
   ·have tK:k<(fT 2 ls).length:=by rw[<-XV];exact hk
    rw[p1,p2,if_neg (by decide),dD (by decide),show jV ((2:Int).toNat*1) [AV.sl ⟨true,3,false⟩ 1 [vi 0],.sl ⟨true,3,false⟩ 1 ((fT 1 ls).map vi),.sl ⟨true,3,false⟩ 1 ((fT 2 ls).map vi),.sl ⟨true,3,false⟩ 1 ((fT 3 ls).map vi)]=.sl ⟨true,3,false⟩ 1 ((fT 2 ls).map vi)::[.sl ⟨true,3,false⟩ 1 ((fT 3 ls).map vi)]from rfl,cO,c_,af,c8 tK,ak,ai,Fs tK,cO,cW]
   ·have tK:k<(fT 3 ls).length:=by rw[pU,<-XJ];exact hk
    rw[p1,p2,if_neg (by decide),dD (by decide),show jV ((3:Int).toNat*1) [AV.sl ⟨true,3,false⟩ 1 [vi 0],.sl ⟨true,3,false⟩ 1 ((fT 1 ls).map vi),.sl ⟨true,3,false⟩ 1 ((fT 2 ls).map vi),.sl ⟨true,3,false⟩ 1 ((fT 3 ls).map vi)]=.sl ⟨true,3,false⟩ 1 ((fT 3 ls).map vi)::[]from rfl,cO,c_,af,c8 tK,ak,ai,Fs tK,cO,cW]
end
theorem vB:∀ls:List (Nat × LN),(opsOf ls).length<=ls.length
 | []=>aJ _
 | x::r=>by
  have:=vB r;unfold opsOf;split<;>simp<;>omega
theorem tE(os:List OP):∀(ls:List (Nat × LN)) (acc:List IN) (x:Nat × Int),me os ls acc=.inl x->x.2≠0
 | [],acc,x,h=>by cases h
 | y::r,acc,x,h=>by
  unfold me at h;split at h
  ·exact tE os r acc x h
  split at h
  ·cases h;show(37:Int)≠0;decide
  split at h
  ·exact tE os r _ x h
  ·cases h;show(11:Int)≠0;decide
section
variable {n:Nat}
theorem atEnd(T:List UInt8)(hT:T.length<=6000)(part:Int)(acc:List (Nat × LN))(m:Nat):je.l n (m+1) (.z5 (bs T) ((T.length:Nat):Int) part (acc.map mK))=dw.F n (acc.map mK):=by
 rw[je.Nf];unfold je.r5;simp only[cU];rw[cT (by omega)];exact JY _
theorem LO(hn:1000002<=n)(T:List UInt8)(hT:T.length<=6000):∀(N at' : Nat) (part:Int) (acc:List (Nat × LN)) (m:Nat),at'<=T.length->T.length - at'<=N->N+2<=m->acc.length<=at'->
  (∃off:Nat,je.l n m (.z5 (bs T) ((at' : Nat):Int) part (acc.map mK))=some ([],[],[],((off:Nat):Int),8))\/
  (∃ls:List (Nat × LN),je.l n m (.z5 (bs T) ((at' : Nat):Int) part (acc.map mK))=dw.F n ((acc++ls).map mK)/\(∀x∈ls,fX x.2)/\T.drop at'=flat (ls.map λx=>kA x.2)/\PB part ls/\acc.length+ls.length<=T.length):=by
 intro N;have fin:∀(part:Int) (acc:List (Nat × LN)) (m:Nat),1<=m->acc.length<=T.length->(∃ls:List (Nat × LN),je.l n m (.z5 (bs T) ((T.length:Nat):Int) part (acc.map mK))=dw.F n ((acc++ls).map mK)/\(∀x∈ls,fX x.2)/\T.drop T.length=flat (ls.map λx=>kA x.2)/\PB part ls/\acc.length+ls.length<=T.length):=by
  intro part acc m hm ha;obtain⟨m,rfl⟩:∃q,m=q+1:=⟨m - 1,by omega⟩;refine⟨[],?_,λx hx=>(by cases hx),?_,trivial,by simp;exact ha⟩
  ·rw[atEnd T hT,bf]
  ·rw[aH (aJ _)];rfl
 induction N with
 | zero=>
  intro at' part acc m qY hN hm ha;have:at'=T.length:=by omega
  subst this;exact .inr (fin part acc m (by omega) ha)
 | succ N ih=>
  intro at' part acc m qY hN hm ha;by_cases he:at'=T.length
  ·subst he;exact .inr (fin part acc m (by omega) ha)
  have eG:at'<T.length:=by omega
  obtain⟨m,rfl⟩:∃q,m=q+2:=⟨m - 2,by omega⟩;rcases Ek (T.drop at')with⟨l,r,hd,hl⟩|⟨ow,vS⟩
  ·have hlen:=congrArg List.length hd;rw[aM,ag,aw,aw]at hlen;obtain⟨L,ok,e1,e3⟩:=yG hn l (by omega);have hP:=yH (n:=n) T hT at' hd hl part (acc.map mK) (by rw[af];omega) m e1;rw[hP];cases ok with
   | false=>
    rw[if_neg (by simp)];exact .inl ⟨at',rfl⟩
   | true=>
    obtain⟨g1,g2⟩:=e3 rfl;by_cases hp:part<=L.pt
    ·rw[if_pos ⟨rfl,hp⟩];have ap:acc.map mK++[mK (at',L)]=(acc++[(at',L)]).map mK:=by simp
     rw[ap];rcases ih (at'+l.length+2) L.pt (acc++[(at',L)]) (m+1) (by omega) (by omega) (by omega) (by simp;omega)with h|⟨ls,k2,k4,k5,k6,k7⟩
     ·exact .inl h
     ·refine .inr ⟨(at',L)::ls,?_,?_,?_,⟨hp,k6⟩,?_⟩
      ·rw[k2];simp
      ·intro x hx;rcases br.1 hx with rfl|hx
       ·exact g1
       ·exact k4 x hx
      ·rw[hd,bd];show _=kA L++[59,10]++flat (ls.map λx=>kA x.2);rw[g2,<-k5];have:T.drop (at'+l.length+2)=r:=by
        rw[show at'+l.length+2=at'+(l.length+2) by omega,<-bZ,hd,<-bZ,cA];rfl
       rw[this];simp
      ·simp at k7 ⊢;omega
    ·rw[if_neg (λh=>hp h.2)];exact .inl ⟨at',rfl⟩
  ·exact .inl ⟨at',I5 hn T hT at' eG vS part _ m⟩
def places:Nat->List LN->List (Nat × LN)
 | _,[]=>[]
 | k,L::r=>(k,L)::places (k+(kA L).length+2) r
def um:Int->List LN->Prop
 | _,[]=>True
 | p,L::r=>p<=L.pt/\um L.pt r
theorem Gu(hn:1000002<=n)(T:List UInt8)(hT:T.length<=6000):∀(Ls:List LN) (at' : Nat) (part:Int) (acc:List (Nat × LN)) (m:Nat),(∀L∈Ls,fX L)->um part Ls->at'<=T.length->T.drop at'=flat (Ls.map kA)->Ls.length+2<=m->acc.length<=at'->
  je.l n m (.z5 (bs T) ((at' : Nat):Int) part (acc.map mK))=dw.F n ((acc++places at' Ls).map mK)
 | [],at',part,acc,m,_,_,qY,hd,hm,ha=>by
  have:at'=T.length:=by
   have:=congrArg List.length hd;rw[aM]at this;simp[flat]at this;omega
  subst this;obtain⟨m,rfl⟩:∃q,m=q+1:=⟨m - 1,by omega⟩;rw[atEnd T hT];simp[places]
 | L::r,at',part,acc,m,hg,OI,qY,hd,hm,ha=>by
  obtain⟨m,rfl⟩:∃q,m=q+2:=⟨m - 2,by omega⟩;have E6 : T.drop at'=kA L++59::10::flat (r.map kA):=by rw[hd,bd];simp[flat]
  have hlen:=congrArg List.length E6;rw[aM,ag,aw,aw]at hlen;have gL:=hg L (by simp);have hr:=F8 hn gL (by omega);rw[yH (n:=n) T hT at' E6 (yY gL) part (acc.map mK) (by rw[af];omega) m hr,if_pos ⟨rfl,OI.1⟩];have ap:acc.map mK++[mK (at',L)]=(acc++[(at',L)]).map mK:=by simp
  simp only[aw]at hm;rw[ap,Gu hn T hT r (at'+(kA L).length+2) L.pt (acc++[(at',L)]) (m+1) (λx hx=>hg x (by simp[hx])) OI.2 (by omega) (by
   rw[show at'+(kA L).length+2=at'+((kA L).length+2) by omega,<-bZ,E6,<-bZ,cA];rfl) (by omega) (by simp;omega)]
  simp[places]
def o4(ls:List (Nat × LN)):PR:=match me (opsOf ls) ls []with
 | .inl x=>([],[],[],((x.1:Nat):Int),x.2)
 | .inr is=>HC ls (opsOf ls) is (iu ls)
theorem vr(hn:1000002<=n)(ls:List (Nat × LN))(hl:ls.length<=6000)(k4:∀x∈ls,fX x.2)(ho:(opsOf ls).length<=1000):dw.F n (ls.map mK)=some (o4 ls):=by
 obtain⟨q,hq⟩:∃q,n=(q+1)+4*ls.length:=⟨n - 1 - 4*ls.length,by omega⟩;have p1:=wZ n ls (by omega) k4 ls.length 0 (q+1) [] [] [] [] [] (by omega) (by simp) (by simp) (by simp) (by simp) (by simp);rw[<-hq]at p1;simp only[aU,bn]at p1;have p2:dw.F n (ls.map mK)=dw.l n q (.dQ (ls.map mK) ((ls.length:Nat):Int) ((0:Nat):Int) ((opsOf ls).map OP.av) [] ((iu ls).map MN.av) [vi 0] ((fT 1 ls).map vi) ((fT 2 ls).map vi) ((fT 3 ls).map vi)):=by
  unfold dw.F dw.e;rw[af];refine Eq.trans p1 ?_;show dw.l n (q+1) (.z4 (ls.map mK) (ls.map mK) ((ls.length:Nat):Int) ((ls.length:Nat):Int) _ _ _ _ _ _)=_;rw[dw.Ai];unfold dw.r4;rw[cT (by omega),af];rfl
 have p3:=A6 (by omega:1001<=n) (opsOf ls) ho ls (by omega) k4 ((iu ls).map MN.av) [vi 0] ((fT 1 ls).map vi) ((fT 2 ls).map vi) ((fT 3 ls).map vi) ls.length 0 2 q [] (by omega) (by omega) (by simp);rw[aU]at p3;rw[p2];unfold o4;cases hI:me (opsOf ls) ls []with
 | inl x=>
  rw[hI]at p3;exact p3
 | inr is=>
  rw[hI]at p3;obtain⟨m1,g1,g2⟩:=p3;have hlen:=tD _ _ _ _ hI;rw[aF,b6]at hlen;have SG:=xn _ _ _ _ k4 (λx hx=>by cases hx) hI;obtain⟨m1,rfl⟩:∃q,m1=q+2:=⟨m1 - 2,by omega⟩;exact Eq.trans g2 (JZ hn ls (opsOf ls) is (iu ls) rfl rfl hlen SG m1 (ls.map mK) ls.length)
theorem I7(hn:1000002<=n)(T:List UInt8):∃r,je.F n (bs T)=some r/\((r.2.2.2.2≠0/\r.1=[]/\r.2.1=[]/\r.2.2.1=[])\/∃(ls:List (Nat × LN)) (is:List IN),(∀x∈ls,fX x.2)/\T=flat (ls.map λx=>kA x.2)/\PB 1 ls/\me (opsOf ls) ls []=.inr is/\(fC (opsOf ls) is (iu ls)).2.2=0/\T.length<=6000/\r=((opsOf ls).map OP.av,is.map IN.av,(iu ls).map MN.av,0,0)):=by
 unfold je.F je.e;simp only[cU];by_cases hT:T.length<=6000
 ·rw[cT (by omega)];rcases LO hn T hT T.length 0 1 [] n (by omega) (by omega) (by omega) (by simp)with⟨off,h1⟩|⟨ls,k2,k4,k5,k6,k7⟩
  ·exact⟨_,h1,.inl ⟨show(8:Int)≠0 by decide,rfl,rfl,rfl⟩⟩
  ·rw[bn]at k2;rw[aU]at k5;simp only[aF,b6]at k7;have Sr:=Cv ls k4;rw[<-k5]at Sr;have kp:je.l n n (.z5 (bs T) 0 1 [])=dw.F n (ls.map mK):=k2;rw[kp,vr hn ls (by omega) k4 (by omega)];refine⟨_,rfl,?_⟩;unfold o4;cases hI:me (opsOf ls) ls []with
   | inl x=>exact .inl ⟨tE _ _ _ _ hI,rfl,rfl,rfl⟩
   | inr is=>
    simp only;unfold HC;by_cases h0:(fC (opsOf ls) is (iu ls)).2.2=0
    ·rw[if_pos h0];exact .inr ⟨ls,is,k4,k5,k6,hI,h0,hT,rfl⟩
    ·rw[if_neg h0];exact .inl ⟨h0,rfl,rfl,rfl⟩
 ·rw[cS (by omega)];exact⟨_,rfl,.inl ⟨by decide,rfl,rfl,rfl⟩⟩
theorem I8(hn:1000002<=n)(Ls:List LN)(hg:∀L∈Ls,fX L)(ha:um 1 Ls)(hT:(flat (Ls.map kA)).length<=6000)(hl:Ls.length<=1000):je.F n (bs (flat (Ls.map kA)))=some (o4 (places 0 Ls)):=by
 have pI:∀(Ls:List LN) k,(places k Ls).length=Ls.length:=by
  intro Ls;induction Ls with
  | nil=>intro k;rfl
  | cons L r ih=>intro k;simp[places,ih]
 have XC:∀(Ls:List LN) k,(∀L∈Ls,fX L)->∀x∈places k Ls,fX x.2:=by
  intro Ls;induction Ls with
  | nil=>intro k _ x hx;cases hx
  | cons L r ih=>
   intro k hg x hx;rcases br.1 hx with rfl|hx
   ·exact hg L (by simp)
   ·exact ih _ (λL hL=>hg L (by simp[hL])) x hx
 unfold je.F je.e;simp only[cU];rw[cT (by omega)];have k2:=Gu hn (flat (Ls.map kA)) hT Ls 0 1 [] n hg ha (by omega) rfl (by omega) (by simp);rw[bn]at k2;have kp:je.l n n (.z5 (bs (flat (Ls.map kA))) 0 1 [])=dw.F n ((places 0 Ls).map mK):=k2;rw[kp,vr hn _ (by rw[pI];omega) (XC Ls 0 hg) (by have:=vB (places 0 Ls);rw[pI]at this;omega)]
end
theorem Am(os:List OP)(ar:List Int)(a:Int):gK os (ar++[a])=gK os ar++[(os.getD a.toNat nw).nm]:=by unfold gK;rw[List.map_append];rfl
theorem r_(a:List (List UInt8))(w:List UInt8):Ws a++[vs (bs w)]=Ws (a++[w]):=by simp[Ws]
def Hy(L:List (List UInt8)):ByteArray × Int:=if(flat L).length>6000 then(⟨#[]⟩,2)else(bs (flat L),0)
def Nc(o:OP):Prop:=o.nm.length<=100/\o.ba.length<=100/\o.vx.length<=600
theorem ur{os:List OP}(hf:∀o∈os,Nc o)(ar:List Int):∀w∈gK os ar,w.length<=100:=by
 intro w hw;obtain⟨a,_,rfl⟩:=bz.1 hw;by_cases h:a.toNat<os.length
 ·rw[ah,aP h,cj];exact(hf _ (aX h)).1
 ·rw[ah,List.getElem?_eq_none (by omega),Option.getD_none];simp[nw]
theorem GN{os:List OP}(hf:∀o∈os,Nc o){x:IN}(h:nc os x=0):(rl os x).length<=400:=by
 have h1:=mc h;have h2:=Cz h1.1;have h3:=H5 (B:=100) _ (ur hf x.ar);have h4:(gK os x.ar).length=x.ar.length:=by simp[gK]
 unfold rl;rw[ag];rw[h4]at h3;have:(100+1)*x.ar.length<=101*3:=Nat.mul_le_mul_left _ h1.2.1;omega
section
variable {n:Nat}
theorem UW(hn:1001<=n){nI:Nat}(hI:nI<=1000)(ms:List MN)(ou : ms.length<=100)(gJ:∀m∈ms,mG nI m=0):∀(d i m:Nat) (L:List (List UInt8)),i+d=ms.length->d<m->L≠[]->L.length+d<=1000->(∀l∈L,l.length<=4000)->
  gC.l n m (.z22 (ms.map MN.av) ms.length i (Ws L))=some (Hy (L++(ms.drop i).map lF))
 | _,_,0,_,_,h,_,_,_=>absurd h (by omega)
 | 0,i,m+1,L,h,_,fN,hL,hB=>by
  rw[gC.Py];unfold gC.ML;rw[cT (by omega),aH (by omega),List.map_nil,bf,xe];cases L with
  | nil=>exact absurd rfl fN
  | cons w r=>
   have lq:=zO (B:=4000) (w::r) hB;have h4:(4000+2)*(w::r).length<=4002*1000:=Nat.mul_le_mul_left _ (by omega);have hj:=vX r w;have M5:(Lib.join (w::r) [59,10]).length+2=(flat (w::r)).length:=by rw[<-hj];simp
   rw[join_eq (w::r) [59,10] (by omega) (by omega),ab,dP (by rw[cU];omega),dh,hj];simp only[cU];unfold Hy;by_cases h6:(flat (w::r)).length>6000
   ·rw[cS (by omega),if_pos h6]
   ·rw[cT (by omega),if_neg h6]
 | d+1,i,m+1,L,h,hm,fN,hL,hB=>by
  have hi:i<ms.length:=by omega
  have kD:eR=1000000000:=rfl;have ho:=gJ _ (aX hi);have ih:=UW hn hI ms ou gJ d (i+1) m (L++[lF ms[i]]) (by omega) (by omega) (by simp) (by simp;omega) (λl hl=>by
   rcases aK.1 hl with hl|hl
   ·exact hB l hl
   ·rw[bh]at hl;subst hl;have:=Gr hI ho;omega)
  rw[gC.Py];unfold gC.ML;simp(disch:=omega)only[ab,au,ak,cond_false,aC,aE,af,c7,cU,c8,dv,dA,ai,dn,dj,dc,dp,cO,cW,cY,cX,c_,cS,cT,MN.av];rw[Bj hn hI ho,ab,cS (by simp;omega),r_,ih,aG hi,bd];simp only[bH,cL,b9,bn]
theorem UY(hn:1001<=n)(os:List OP)(ho:os.length<=100)(x:IN)(hx:∀a∈x.ar,0<=a/\a<=(os.length:Int) - 1)(eF:0<=x.op/\x.op<=18)(It:x.ar.length<=100)(hf:∀o∈os,Nc o)(z1:List AV)(z2:Int)(i' : Nat)(k8 : i'<=1000)(z8 z9:List AV)(L:List (List UInt8))(hL:L.length<=1000)(z12:List AV)(K:Option (ByteArray × Int))(M:Nat)
  (hK:∀m,M<=m->gC.l n m (.dO z1 z2 ((i'+1:Nat):Int) (os.map OP.av) z8 z9 (Ws (L++[rl os x])))=K):∀(d i m:Nat),i+d=x.ar.length->d+M<m->
  gC.l n m (.dR z1 z2 (i' : Int) (x.ar.map vi) x.ar.length i (os.map OP.av) z8 z9 (Ws L) x.op z12 (Ws (gK os (x.ar.take i))))=K
 | _,_,0,_,h=>absurd h (by omega)
 | 0,i,m+1,h,hm=>by
  have kD:eR=1000000000:=rfl;rw[gC.EK];unfold gC.rI;have UM:(gK os x.ar).length=x.ar.length:=by simp[gK]
  rw[cT (by omega),b_ (by omega),Bx eF _ (by omega) (ur hf _),ab,c7,cS (by simp;omega),r_,dA (by omega)];exact hK m (by omega)
 | d+1,i,m+1,h,hm=>by
  have hi:i<x.ar.length:=by omega
  have kD:eR=1000000000:=rfl;have hr:=hx _ (aX hi);have ih:=UY hn os ho x hx eF It hf z1 z2 i' k8 z8 z9 L hL z12 K M hK d (i+1) m (by omega) (by omega);have UM:(gK os (x.ar.take i)).length=i:=by simp[gK];omega
  rw[gC.EK];unfold gC.rI;simp(disch:=omega)only[ab,au,ak,cond_false,aC,aE,af,c7,cU,c8,dv,dA,ai,dn,dj,dc,dp,cO,cW,cY,cX,c_,cS,cT];have eG:x.ar[i].toNat<os.length:=by omega
  have Md:os.getD x.ar[i].toNat nw=os[x.ar[i].toNat]:=by rw[ah,aP eG,cj]
  rw[dD (Q6 hr)];simp(disch:=omega)only[ab,au,ak,cond_false,aC,aE,af,c7,cU,c8,dv,dA,ai,dn,dj,dc,dp,cO,cW,cY,cX,c_,cS,cT,OP.av];rw[UM,cS (by simp;omega),r_];rw[bR hi]at ih;rw[Am,Md]at ih;exact ih
theorem UX(hn:1001<=n)(os:List OP)(ho:os.length<=100)(hf:∀o∈os,Nc o)(is:List IN)(k8 : is.length<=100)(gJ:∀x∈is,nc os x=0)(ms:List MN)(ou : ms.length<=100)(Oo:∀m∈ms,mG is.length m=0):∀(d i m:Nat) (L:List (List UInt8)),i+d=is.length->200*d+300<m->1<=L.length+d->L.length+d<=800->(∀l∈L,l.length<=4000)->
  gC.l n m (.dO (is.map IN.av) is.length i (os.map OP.av) (is.map IN.av) (ms.map MN.av) (Ws L))=some (Hy (L++(is.drop i).map (rl os)++ms.map lF))
 | _,_,0,_,_,h,_,_,_=>absurd h (by omega)
 | 0,i,m+1,L,h,hm,fN,hL,hB=>by
  rw[gC.PA];unfold gC.EX;rw[cT (by omega),aH (by omega),List.map_nil,bf,af];have:=UW (n:=n) hn (nI:=is.length) (by omega) ms ou Oo ms.length 0 m L (by omega) (by omega) (by intro e;rw[e]at fN;simp at fN) (by omega) hB;rw[aU]at this;exact this
 | d+1,i,m+1,L,h,hm,fN,hL,hB=>by
  have hi:i<is.length:=by omega
  have hx:=gJ _ (aX hi);have N4:=mc hx;rw[gC.PA];unfold gC.EX;simp(disch:=omega)only[ab,au,ak,cond_false,aC,aE,af,c7,cU,c8,dv,dA,ai,dn,dj,dc,dp,cO,cW,cY,cX,c_,cS,cT,IN.av];have:=UY (n:=n) hn os ho is[i] N4.2.2 N4.1 (by omega) hf (is.map IN.av) is.length i (by omega) (is.map IN.av) (ms.map MN.av) L (by omega) (is[i].ar.map vi) (some (Hy (L++(is.drop i).map (rl os)++ms.map lF))) (200*d+301) (λq hq=>by
   have ih:=UX hn os ho hf is k8 gJ ms ou Oo d (i+1) q (L++[rl os is[i]]) (by omega) (by omega) (by rw[ag,bw];omega) (by rw[ag,bw];omega) (λl hl=>by
    rcases aK.1 hl with hl|hl
    ·exact hB l hl
    ·rw[bh]at hl;subst hl;have:=GN hf hx;omega)
   rw[ih,aG hi,bd];simp only[bH,cL,b9,bn]) is[i].ar.length 0 m (by omega) (by omega)
  exact this
theorem UU(hn:1000002<=n)(os:List OP)(ho:os.length<=100)(hf:∀o∈os,Nc o)(is:List IN)(k8 : is.length<=100)(Qd:1<=is.length)(eF:∀o∈os,EV is.length o)(gJ:∀x∈is,nc os x=0)(ms:List MN)(ou : ms.length<=100)(Oo:∀m∈ms,mG is.length m=0):∀(d i m:Nat) (L:List (List UInt8)),i+d=os.length->d+30000<m->L.length+d<=200->(∀l∈L,l.length<=4000)->
  gC.l n m (.z6 (os.map OP.av) os.length i (os.map OP.av) (is.map IN.av) (ms.map MN.av) (Ws L))=some (Hy (L++(os.drop i).map yR++is.map (rl os)++ms.map lF))
 | _,_,0,_,_,h,_,_=>absurd h (by omega)
 | 0,i,m+1,L,h,hm,hL,hB=>by
  rw[gC.My];unfold gC.r6;rw[cT (by omega),aH (by omega),List.map_nil,bf,af];have:=UX (n:=n) (by omega) os ho hf is k8 gJ ms ou Oo is.length 0 m L (by omega) (by omega) (by omega) (by omega) hB;rw[aU]at this;exact this
 | d+1,i,m+1,L,h,hm,hL,hB=>by
  have hi:i<os.length:=by omega
  have kD:eR=1000000000:=rfl;have Sl:=hf _ (aX hi);obtain⟨e1,_,e3⟩:=DH hn (by omega) os[i] (eF _ (aX hi)) Sl.1 Sl.2.1 Sl.2.2;have ih:=UU hn os ho hf is k8 Qd eF gJ ms ou Oo d (i+1) m (L++[yR os[i]]) (by omega) (by omega) (by simp;omega) (λl hl=>by
   rcases aK.1 hl with hl|hl
   ·exact hB l hl
   ·rw[bh]at hl;subst hl;exact e3)
  rw[gC.My];unfold gC.r6;simp(disch:=omega)only[ab,au,ak,cond_false,aC,aE,af,c7,cU,c8,dv,dA,ai,dn,dj,dc,dp,cO,cW,cY,cX,c_,cS,cT,OP.av];rw[e1,ab,cS (by simp;omega),r_,ih,aG hi,bd];simp only[bH,cL,b9,bn]
end
section
variable {n:Nat}
def xu(os:List OP)(is:List IN)(ms:List MN):List UInt8:=flat (os.map yR++is.map (rl os)++ms.map lF)
theorem Mn{os:List OP}{is:List IN}{ms:List MN}(h:uW os is ms=true):∀o∈os,Nc o:=λo ho=>(vY h).2.2.2.1 o ho
theorem tP(hn:1000002<=n){os:List OP}{is:List IN}{ms:List MN}(h:uW os is ms=true):gC.F n (os.map OP.av) (is.map IN.av) (ms.map MN.av)=some (if xy os is ms≠0 then(⟨#[]⟩,xy os is ms)else if(xu os is ms).length>6000 then(⟨#[]⟩,2)else(bs (xu os is ms),0)):=by
 obtain⟨h1,h2,h3,h4⟩:=K7 h;unfold gC.F gC.e;rw[uN (by omega) os h1 is h2 h4 ms h3,ab,eT];by_cases he:xy os is ms=0
 ·have ok:=xx he;rw[if_pos he,if_neg (not_not_intro he),af];have:=UU hn os (by omega) (Mn h) is h2 ok.lens.2.1 (oe os [] ok.ops (λo ho=>by cases ho)) ok.ins ms h3 ok.Ud os.length 0 n [] (by omega) (by omega) (by simp;omega) (by simp);rw[aU,bn]at this;exact this
 ·rw[if_neg he,if_pos he]
end
theorem vC{b:List OP}{o:OP}{nI:Nat}(h:w6 b o nI=0):gI o.nm=true/\(dz b).contains o.nm=false/\(0<=o.kd/\o.kd<=5)/\extra o=false/\(hH o.kd=true->kH o.k o.l o.s=0/\o.k≠4)/\(o.kd=0\/o.kd=4->ly o.k o.l o.vn o.vx=0)/\(o.kd=1\/o.kd=2->Mx b o=0)/\(o.kd=5->0<=o.tg/\o.tg<=(nI:Int) - 1):=by
 unfold w6 at h;split at h
 ·cases h
 rename_i h1;split at h
 ·cases h
 rename_i h2;split at h
 ·cases h
 rename_i h3;split at h
 ·cases h
 rename_i h4;split at h
 ·rename_i h5;exact absurd h h5.2
 rename_i h5;split at h
 ·cases h
 rename_i h6;refine⟨by simpa using h1,by simpa using h2,bD.1 h3,by simpa using h4,λhd=>⟨?_,λh4=>h6 ⟨hd,h4⟩⟩,λhk=>?_,λhk=>?_,λhk=>?_⟩
 ·by_cases hc:kH o.k o.l o.s=0
  ·exact hc
  ·exact absurd ⟨hd,hc⟩ h5
 ·rw[if_pos hk]at h;exact h
 ·rw[if_neg (by omega),if_pos hk]at h;exact h
 ·rw[if_neg (by omega),if_neg (by omega),if_pos hk]at h;split at h
  ·assumption
  ·cases h
theorem Jd{b:List OP}{o:OP}{nI:Nat}(h:w6 b o nI=0)(hb:∀x∈b,gI x.nm=true)(hI:nI<=1000)(hO:EV nI o):B9 o/\o.vx.length<=256:=by
 obtain⟨f1,f2,f3,f4,f5,f6,f7,f8⟩:=vC h;unfold extra at f4;have gt:hH o.kd=true->GT o.k o.l o.s:=by
  intro hd;obtain⟨c1,c2⟩:=f5 hd;have:=kG c1 c2;refine⟨this.1,by omega,?_,λh0=>?_⟩
  ·rcases this.1 with h0|h0|h0|h0
   ·unfold kH at c1;rw[if_pos h0]at c1;split at c1
    ·cases c1
    split at c1
    ·cases c1
    omega
   all_goals (have:=this.2.2.2 (by omega);omega)
  ·unfold kH at c1;rw[if_pos h0]at c1;split at c1
   ·cases c1
   split at c1
   ·cases c1
   omega
 by_cases k0:o.kd=0\/o.kd=4
 ·rw[if_pos k0]at f4;have hd:hH o.kd=true:=by unfold hH;rcases k0 with k|k<;>simp[k]
  obtain⟨c1,c2⟩:=f5 hd;have sc:=kG c1 c2;have v:=f6 k0;simp only[Mr,K_,aZ,Bool.not_eq_false',ae,az]at f4;unfold ly at v;by_cases hk:o.k=0
  ·rw[if_pos hk]at v;split at v
   ·cases v
   split at v
   ·cases v
   refine⟨.FW k0 f1 (gt hd) ?_ f4.1.1 f4.1.2 f4.2,by omega⟩;unfold nT;rw[if_pos hk];omega
  ·rw[if_neg hk]at v;split at v
   ·cases v
   rename_i zn;have zn:=bD.1 zn;split at v
   ·rename_i hv;cases v
   rename_i hv;have hv:=bD.1 hv;have uE:o.vn.natAbs<10 ^ 15:=by
    have hl:=sc.2.2.2 hk;have hp:10 ^ o.l.toNat<=10 ^ 15:=bS (by omega) (by omega);unfold kY at hv;have hq:0<10 ^ o.l.toNat:=Nat.pow_pos (by omega);omega
   refine⟨.FW k0 f1 (gt hd) ?_ f4.1.1 f4.1.2 f4.2,by rw[zn];simp⟩;unfold nT;rw[if_neg hk];exact⟨zn,uE,(sc.2.2.2 hk).2⟩
 rw[if_neg k0]at f4;by_cases k1:o.kd=1\/o.kd=2
 ·rw[if_pos k1]at f4;have hd:hH o.kd=true:=by unfold hH;rcases k1 with k|k<;>simp[k]
  simp only[Mq,K_,aZ,Bool.not_eq_false',ae,az]at f4;have ba:=f7 k1;unfold Mx at ba;split at ba
  ·cases ba
  rename_i hc;have hc:(dz b).contains o.ba=true:=by simpa using hc
  have zC:gI o.ba=true:=by
   rw[bV,az]at hc;obtain⟨x,hx,e⟩:=bz.1 hc;rw[<-e];exact hb x hx
  have CZ:=hO.of k1;exact⟨.IH k1 f1 (gt hd) f4.1.1 f4.1.2 zC (by omega) f4.2,by rw[f4.1.2];simp⟩
 rw[if_neg k1]at f4;by_cases k3:o.kd=3
 ·rw[if_pos k3]at f4;simp only[Pk,Mq,Mr,K_,aZ,Bool.not_eq_false',ae,az]at f4;exact⟨.ptr k3 f1 f4.1.1 f4.1.2.1 f4.1.2.2 f4.2.1.1 f4.2.1.2 f4.2.2.1.1 f4.2.2.1.2 f4.2.2.2,by rw[f4.2.1.2];simp⟩
 ·rw[if_neg k3]at f4;have k5:o.kd=5:=by omega
  simp only[Pk,Mq,Mr,K_,aZ,Bool.not_eq_false',ae,az]at f4;have:=f8 k5;exact⟨.Jn k5 f1 f4.1.1 f4.1.2.1 f4.1.2.2 f4.2.1.1 f4.2.1.2 f4.2.2.1 f4.2.2.2 (by omega),by rw[f4.2.1.2];simp⟩
theorem yP{nI:Nat}(hI:nI<=1000):∀(r b:List OP),(l6 nI b r).2=0->Jf b->(∀x∈b,gI x.nm=true)->(dz b).Nodup->(∀o∈r,B9 o/\o.vx.length<=256)/\(dz (b++r)).Nodup
 | [],b,_,_,_,hn=>by rw[bf];exact⟨(λ_ ho=>by cases ho),hn⟩
 | o::r,b,h,h1,hb,hn=>by
  have hR:=oe (o::r) b h h1;rw[lE]at h;by_cases h0:w6 b o nI=0
  ·rw[if_neg (not_not_intro h0)]at h;have hf:=vC h0;obtain⟨k1,k2⟩:=yP hI r (b++[o]) h (λx hx=>by
    rcases aK.1 hx with hx|hx
    ·exact h1 x hx
    ·rw[bh]at hx;subst hx;exact(s6 h0).1) (λx hx=>by
    rcases aK.1 hx with hx|hx
    ·exact hb x hx
    ·rw[bh]at hx;subst hx;exact hf.1) (by
    unfold dz at hn ⊢;rw[List.map_append,List.nodup_append];refine⟨hn,by simp,?_⟩;intro a ha c hc e;rw[List.map_singleton,bh]at hc;subst hc e;have:=hf.2.1;rw[bV]at this;exact absurd ha (of_decide_eq_false this))
   refine⟨λx hx=>?_,by simpa using k2⟩;rcases br.1 hx with rfl|hx
   ·exact Jd h0 hb hI (hR x (by simp))
   ·exact k1 x hx
  ·rw[if_pos h0]at h;exact absurd h h0
theorem Cl{os:List OP}{is:List IN}{ms:List MN}(h:(fC os is ms).2.2=0):TC os is ms/\(∀o∈os,B9 o/\o.vx.length<=256)/\(dz os).Nodup:=by
 have ok:=xx h;have:=yP (nI:=is.length) (by have:=ok.lens;omega) os [] ok.ops (λx hx=>by cases hx) (λx hx=>by cases hx) (by simp[dz]);exact⟨ok,this.1,by simpa using this.2⟩
theorem DS{os:List OP}(h:(dz os).Nodup){i:Nat}(hi:i<os.length):iH (dz os) os[i].nm 0=(i:Int):=by
 have hc:(dz os).contains os[i].nm=true:=by
  rw[bV,az];exact List.mem_map_of_mem (aX hi)
 obtain⟨k,h1,h2,h3⟩:=p_ (dz os) os[i].nm 0 hc;rw[h2,b6];obtain⟨hk,e⟩:=aB.1 h3;have e2:(dz os)[k]=(dz os)[i]'(by rw[fG];exact hi):=by rw[e,s8 hi]
 have k8 : i<(dz os).length:=by rw[fG];exact hi
 have hp:=List.pairwise_iff_getElem.1 h;rcases Nat.lt_trichotomy k i with eG|heq|Sj
 ·exact absurd e2 (hp k i hk k8 eG)
 ·rw[heq]
 ·exact absurd e2.symm (hp i k k8 hk Sj)
theorem JU{os:List OP}{is:List IN}{ms:List MN}(ok:TC os is ms)(h:∀o∈os,B9 o/\o.vx.length<=256):uW os is ms=true:=by
 have hl:=ok.lens;have h1:∀o∈os,o.nm.length<=100/\o.ba.length<=100/\o.vx.length<=600:=by
  intro o ho;obtain⟨d,v⟩:=h o ho;have:=iw d.name;refine⟨by omega,?_,by omega⟩;cases d with
  | FW hk nm ty v ba of tg=>rw[ba];simp
  | IH hk nm ty vn vx ba of tg=>have:=iw ba;omega
  | ptr hk nm k l s vn vx ba of tg=>rw[ba];simp
  | Jn hk nm k l s vn vx ba of tg=>rw[ba];simp
 have h2:∀x∈is,x.ar.length<=6:=λx hx=>by have:=mc (ok.ins x hx);omega
 unfold uW Hz BM;simp only[ae,az,ay];refine⟨⟨⟨by omega,by omega⟩,by omega⟩,λo ho=>?_,λx hx=>h2 x hx⟩;have:=h1 o ho;simp only[Bool.not_eq_true',aZ,bJ];exact⟨⟨by omega,by omega⟩,by omega⟩
def MP(o:OP):LN:=⟨1,o,0,[],wJ⟩
def kC(os:List OP)(x:IN):LN:=⟨2,nw,x.op,gK os x.ar,wJ⟩
def MS(m:MN):LN:=⟨3,nw,0,[],m⟩
def gv(os:List OP)(is:List IN)(ms:List MN):List LN:=os.map MP++is.map (kC os)++ms.map MS
def opsL(Ls:List LN):List OP:=Ls.filterMap λL=>if L.pt=1 then some L.o else none
def pY(Ls:List LN):List MN:=Ls.filterMap λL=>if L.pt=3 then some L.mo else none
def kS(Ls:List LN):List LN:=Ls.filter λL=>decide (L.pt=2)
theorem w5:∀ls:List (Nat × LN),opsOf ls=opsL (ls.map Prod.snd)
 | []=>rfl
 | x::r=>by
  have ih:=w5 r;unfold opsOf opsL;rw[bd,List.filterMap_cons];by_cases h:x.2.pt=1
  ·rw[if_pos h,if_pos h,ih];rfl
  ·rw[if_neg h,if_neg h,ih];rfl
theorem xa:∀ls:List (Nat × LN),iu ls=pY (ls.map Prod.snd)
 | []=>rfl
 | x::r=>by
  have ih:=xa r;unfold iu pY;rw[bd,List.filterMap_cons];by_cases h:x.2.pt=3
  ·rw[if_pos h,if_pos h,ih];rfl
  ·rw[if_neg h,if_neg h,ih];rfl
theorem kx:∀(Ls:List LN) (k:Nat),(places k Ls).map Prod.snd=Ls
 | [],_=>rfl
 | L::r,k=>by simp[places,kx r]
theorem ze(os:List OP):∀(ls:List (Nat × LN)) (acc:List IN),(∀L∈ls.map Prod.snd,L.pt=2->L.gU.length=(cls L.uC).length/\∀w∈L.gU,(dz os).contains w=true)->me os ls acc=.inr (acc++(kS (ls.map Prod.snd)).map (mB os))
 | [],acc,_=>by simp[me,kS]
 | x::r,acc,h=>by
  have ih:=λacc=>ze os r acc (λL hL=>h L (by simp only[bd,br];exact .inr hL));unfold me;by_cases h2:x.2.pt=2
  ·obtain⟨h3,h4⟩:=h x.2 (by simp) h2;rw[if_neg (not_not_intro h2),if_neg (not_not_intro h3),if_pos (ay.2 h4),ih];simp[kS,h2]
  ·rw[if_pos h2,ih];simp[kS,h2]
theorem qb(os:List OP):∀(ls:List (Nat × LN)) (acc is:List IN),me os ls acc=.inr is->is=acc++(kS (ls.map Prod.snd)).map (mB os)/\∀L∈ls.map Prod.snd,L.pt=2->∀w∈L.gU,(dz os).contains w=true
 | [],acc,is,h=>by
  cases h;exact⟨by simp[kS],λL hL=>by cases hL⟩
 | x::r,acc,is,h=>by
  unfold me at h;by_cases h2:x.2.pt=2
  ·rw[if_neg (not_not_intro h2)]at h;split at h
   ·cases h
   split at h
   ·rename_i h4;obtain⟨k1,k2⟩:=qb os r _ is h;refine⟨by rw[k1];simp[kS,h2],λL hL hp=>?_⟩;rcases br.1 hL with rfl|hL
    ·exact ay.1 h4
    ·exact k2 L hL hp
   ·cases h
  ·rw[if_pos h2]at h;obtain⟨k1,k2⟩:=qb os r _ is h;refine⟨by rw[k1];simp[kS,h2],λL hL hp=>?_⟩;rcases br.1 hL with rfl|hL
   ·exact absurd hp h2
   ·exact k2 L hL hp
theorem Lb:∀(p:Int) (ls:List (Nat × LN)),PB p ls->um p (ls.map Prod.snd)
 | _,[],_=>trivial
 | _,x::r,h=>⟨h.1,Lb _ r h.2⟩
theorem Aj:∀(p:Int) (Ls:List LN),um p Ls->∀L∈Ls,p<=L.pt
 | _,[],_=>λ_ h=>by cases h
 | p,L::r,h=>λK hK=>by
  rcases br.1 hK with rfl|hK
  ·exact h.1
  ·have:=Aj _ r h.2 K hK;have:=h.1;omega
theorem qH:∀(p:Int) (Ls:List LN),um p Ls->(∀L∈Ls,fX L)->Ls.map kA=(opsL Ls).map yR++(kS Ls).map kA++(pY Ls).map lF
 | _,[],_,_=>rfl
 | p,L::r,h,hg=>by
  have ih:=qH L.pt r h.2 (λK hK=>hg K (by simp[hK]));have low:=Aj L.pt r h.2;have o0:L.pt≠1->opsL (L::r)=[]:=by
   intro h1;refine cB.2 λK hK=>?_;have hp:=(hg L (by simp)).Rq;rcases br.1 hK with rfl|hK
   ·rw[if_neg h1]
   ·have:=low K hK;rw[if_neg (by omega)]
  have i0:L.pt=3->kS (L::r)=[]:=by
   intro h3;refine List.filter_eq_nil_iff.2 λK hK=>?_;rcases br.1 hK with rfl|hK
   ·simp[h3]
   ·have:=low K hK;simp;omega
  rcases(hg L (by simp)).Rq with h1|h1|h1
  ·have e1:opsL (L::r)=L.o::opsL r:=by simp[opsL,h1]
   have e2:kS (L::r)=kS r:=by simp[kS,h1]
   have e3:pY (L::r)=pY r:=by simp[pY,h1]
   rw[e1,e2,e3,bd,ih];simp[kA,h1]
  ·have e2:kS (L::r)=L::kS r:=by simp[kS,h1]
   have e3:pY (L::r)=pY r:=by simp[pY,h1]
   have e4:opsL r=[]:=by
    have:=o0 (by omega);simpa[opsL,h1]using this
   rw[e4]at ih;rw[o0 (by omega),e2,e3,bd,ih];simp
  ·have e3:pY (L::r)=L.mo::pY r:=by simp[pY,h1]
   have e4:opsL r=[]:=by
    have:=o0 (by omega);simpa[opsL,h1]using this
   have e5:kS r=[]:=by
    have:=i0 h1;simpa[kS,h1]using this
   rw[e4,e5]at ih;rw[o0 (by omega),i0 h1,e3,bd,ih];simp[kA,h1]
theorem Gz{os:List OP}{L:LN}(h2:L.pt=2)(h:∀w∈L.gU,(dz os).contains w=true):kA L=rl os (mB os L):=by
 have e:gK os (L.gU.map λw=>iH (dz os) w 0)=L.gU:=by
  unfold gK;rw[ch]
  conv=>rhs;rw[<-List.map_id L.gU]
  refine bW λw hw=>?_;obtain⟨k,k1,k2,k3⟩:=p_ (dz os) w 0 (h w hw);show(os.getD (iH (dz os) w 0).toNat nw).nm=w;rw[fG]at k1;rw[k2,b6,ai,ah,aP k1,cj];unfold dz at k3;rw[aL,aP k1]at k3;simpa using k3
 unfold kA rl mB;rw[h2,if_neg (by decide),if_pos rfl,e]
theorem GM{os:List OP}(hn:(dz os).Nodup){x:IN}(h:∀a∈x.ar,0<=a/\a<=(os.length:Int) - 1):mB os (kC os x)=x:=by
 unfold mB kC gK;rw[ch];have:(x.ar.map ((λw=>iH (dz os) w 0) ∘ λa=>(os.getD a.toNat nw).nm))=x.ar:=by
  conv=>rhs;rw[<-List.map_id x.ar]
  refine bW λa ha=>?_;have:=h a ha;have hi:a.toNat<os.length:=by omega
  show iH (dz os) (os.getD a.toNat nw).nm 0=a;rw[ah,aP hi,cj,DS hn hi];omega
 simp only[this]
section
variable {n:Nat}
theorem tw(os:List OP)(is:List IN)(ms:List MN):flat ((gv os is ms).map kA)=xu os is ms:=by
 unfold gv xu;have e1:(os.map MP).map kA=os.map yR:=by rw[ch];rfl
 have e2:(is.map (kC os)).map kA=is.map (rl os):=by rw[ch];rfl
 have e3:(ms.map MS).map kA=ms.map lF:=by rw[ch];rfl
 rw[List.map_append,List.map_append,e1,e2,e3]
theorem uk:∀(A B:List LN) (p q:Int),um p A->(∀L∈A,L.pt<=q)->p<=q->um q B->um p (A++B)
 | [],[],_,_,_,_,_,_=>trivial
 | [],L::B,p,q,_,_,h,hB=>⟨by have:=hB.1;omega,hB.2⟩
 | L::A,B,p,q,hA,h1,h,hB=>⟨hA.1,uk A B L.pt q hA.2 (λK hK=>h1 K (by simp[hK])) (h1 L (by simp)) hB⟩
theorem pB{α:Type}(f:α->LN)(p:Int)(hf:∀x,(f x).pt=p):∀l:List α,um p (l.map f)
 | []=>trivial
 | x::r=>⟨by rw[hf];omega,by rw[hf];exact pB f p hf r⟩
theorem HV(hn:1000002<=n){os:List OP}{is:List IN}{ms:List MN}(h:(fC os is ms).2.2=0)(h6:(xu os is ms).length<=6000):je.F n (bs (xu os is ms))=some (os.map OP.av,is.map IN.av,ms.map MN.av,0,0):=by
 obtain⟨ok,hd,Ay⟩:=Cl h;have hl:=ok.lens;have W2:∀i,(hi:i<os.length)->gI os[i].nm=true:=λi hi=>(hd _ (aX hi)).1.name;have hg:∀L∈gv os is ms,fX L:=by
  intro L hL;unfold gv at hL;rcases aK.1 hL with hL|hL
  ·rcases aK.1 hL with hL|hL
   ·obtain⟨o,ho,rfl⟩:=bz.1 hL;exact .op o (hd o ho).1
   ·obtain⟨x,hx,rfl⟩:=bz.1 hL;obtain⟨k1,k2,k3⟩:=mc (ok.ins x hx);refine .ins x.op _ k1 λw hw=>?_;obtain⟨a,ha,rfl⟩:=bz.1 hw;have:=k3 a ha;have hi:a.toNat<os.length:=by omega
    rw[ah,aP hi,cj];exact W2 _ hi
  ·obtain⟨m,hm,rfl⟩:=bz.1 hL;have:=xb (ok.Ud m hm);refine .LL m ?_ ?_ ?_ ?_<;>(unfold Rg;omega)
 have ha:um 1 (gv os is ms):=by
  unfold gv;refine uk _ _ 1 3 (uk _ _ 1 2 (pB MP 1 (λ_=>rfl) os) (λL hL=>by obtain⟨o,_,rfl⟩:=bz.1 hL;show(1:Int)<=2;decide) (by decide) (pB (kC os) 2 (λ_=>rfl) is)) (λL hL=>?_) (by decide) (pB MS 3 (λ_=>rfl) ms);rcases aK.1 hL with hL|hL
  ·obtain⟨o,_,rfl⟩:=bz.1 hL;show(1:Int)<=3;decide
  ·obtain⟨o,_,rfl⟩:=bz.1 hL;show(2:Int)<=3;decide
 have p:=I8 hn (gv os is ms) hg ha (by rw[tw];exact h6) (by unfold gv;simp;omega);rw[tw]at p;rw[p];have eo:opsOf (places 0 (gv os is ms))=os:=by
  rw[w5,kx];unfold opsL gv;rw[List.filterMap_append,List.filterMap_append,cG,cG,cG];have z1:is.filterMap ((λL:LN=>if L.pt=1 then some L.o else none) ∘ kC os)=[]:=cB.2 λx _=>rfl;have z2:ms.filterMap ((λL:LN=>if L.pt=1 then some L.o else none) ∘ MS)=[]:=cB.2 λx _=>rfl;rw[z1,z2,bf,bf];exact List.filterMap_some
 have em:iu (places 0 (gv os is ms))=ms:=by
  rw[xa,kx];unfold pY gv;rw[List.filterMap_append,List.filterMap_append,cG,cG,cG];have z1:is.filterMap ((λL:LN=>if L.pt=3 then some L.mo else none) ∘ kC os)=[]:=cB.2 λx _=>rfl;have z2:os.filterMap ((λL:LN=>if L.pt=3 then some L.mo else none) ∘ MP)=[]:=cB.2 λx _=>rfl;rw[z1,z2,bf,bn];exact List.filterMap_some
 have ei:kS (gv os is ms)=is.map (kC os):=by
  unfold kS gv;rw[List.filter_append,List.filter_append];have z1:(os.map MP).filter (λL=>decide (L.pt=2))=[]:=List.filter_eq_nil_iff.2 λL hL=>by obtain⟨o,_,rfl⟩:=bz.1 hL;simp[MP]
  have z2:(ms.map MS).filter (λL=>decide (L.pt=2))=[]:=List.filter_eq_nil_iff.2 λL hL=>by obtain⟨o,_,rfl⟩:=bz.1 hL;simp[MS]
  have z3:(is.map (kC os)).filter (λL=>decide (L.pt=2))=is.map (kC os):=List.filter_eq_self.2 λL hL=>by obtain⟨o,_,rfl⟩:=bz.1 hL;simp[kC]
  rw[z1,z2,z3,bn,bf]
 unfold o4;rw[eo,em,ze os _ [] (by
  rw[kx];intro L hL hp;have UQ:L∈kS (gv os is ms):=cE.2 ⟨hL,by simp[hp]⟩;rw[ei]at UQ;obtain⟨x,hx,rfl⟩:=bz.1 UQ;have hX:=ok.ins x hx;obtain⟨k1,k2,k3⟩:=mc hX;refine⟨?_,λw hw=>?_⟩
  ·unfold nc at hX;split at hX
   ·cases hX
   split at hX
   ·cases hX
   rename_i h9;show(gK os x.ar).length=(cls x.op).length;unfold gK;rw[af];exact bD.1 h9
  ·obtain⟨a,ha,rfl⟩:=bz.1 hw;have:=k3 a ha;have hi:a.toNat<os.length:=by omega
   rw[ah,aP hi,cj,bV,az];exact List.mem_map_of_mem (aX hi)),kx,ei,bn,ch]
 have e9:is.map (mB os ∘ kC os)=is:=by
  conv=>rhs;rw[<-List.map_id is]
  exact bW λx hx=>GM Ay (mc (ok.ins x hx)).2.2
 rw[e9];simp only;unfold HC;rw[if_pos h]
theorem IV(hn:1000002<=n)(T:List UInt8):((je.F n (bs T)).bind λp8=>
 bif p8.2.2.2.2 != 0 then((If.F n p8.1 p8.2.1 p8.2.2.1).bind λp9=>
 some p9)else((gC.F n p8.1 p8.2.1 p8.2.2.1).bind λoG=>
 bif oG.2==0 then(some (oG.1.toList==(bs T).toList))else(some false)))=some true:=by
 obtain⟨r,h1,h2⟩:=I7 hn T;rw[h1,ab,eT];rcases h2 with⟨k1,k2,k3,k4⟩|⟨ls,is,k1,k2,k3,k4,k5,k6,rfl⟩
 ·rw[if_neg k1,k2,k3,k4];rfl
 ·rw[if_pos rfl];obtain⟨ok,hd,Ay⟩:=Cl k5;rw[tP hn (JU ok hd)];obtain⟨i1,i2⟩:=qb _ _ _ _ k4;have e:xu (opsOf ls) is (iu ls)=T:=by
   rw[k2];unfold xu;have hg:∀L∈ls.map Prod.snd,fX L:=λL hL=>by obtain⟨x,hx,rfl⟩:=bz.1 hL;exact k1 x hx
   have st:=qH 1 (ls.map Prod.snd) (Lb 1 ls k3) hg;have e0:(ls.map λx=>kA x.2)=(ls.map Prod.snd).map kA:=by rw[ch];rfl
   have e1:is.map (rl (opsOf ls))=(kS (ls.map Prod.snd)).map kA:=by
    rw[i1,bn,ch];refine bW λL hL=>?_;obtain⟨m1,m2⟩:=cE.1 hL;have hp:L.pt=2:=by simpa using m2
    exact(Gz hp (i2 L m1 hp)).symm
   rw[e0,st,<-w5,<-xa,e1]
  have hz:¬ (xy (opsOf ls) is (iu ls)≠0):=not_not_intro k5;rw[if_neg hz,e,if_neg (by omega),ab];show(bif(0:Int)==0 then some ((bs T).toList==(bs T).toList)else some false)=some true;rw[beq_self_eq_true,beq_self_eq_true];rfl
theorem BY(hn:1000002<=n)(os:List OP)(is:List IN)(ms:List MN)(text:ByteArray):n6.F n (os.map OP.av) (is.map IN.av) (ms.map MN.av) text=some true:=by
 obtain⟨T,rfl⟩:∃T:List UInt8,text=bs T:=⟨text.data.toList,by cases text;rfl⟩;have tl:=IV hn T;unfold n6.F n6.e;rw[HX,ab,Mo (by omega),ab,nK,if_neg (by simp),nK];cases h:uW os is ms with
 | false=>rfl
 | true=>
  obtain⟨h1,h2,h3,h4⟩:=K7 h;rw[if_neg (by simp)];simp only;cases decide ((((bs T).size:Nat):Int)>6100)with
  | true=>rfl
  | false=>
   rw[cond_false,LH (by omega) os (by omega) is (by omega) h4 ms (by omega),ab];simp only;rw[tP hn h];by_cases he:xy os is ms=0
   ·rw[if_neg (not_not_intro he)];by_cases h6:(xu os is ms).length>6000
    ·rw[if_pos h6,ab];exact tl
    ·rw[if_neg h6,ab];simp only;rw[beq_self_eq_true,ak,HV hn he (by omega),ab];simp only;have hx:∀x∈is,x.ar.length<=3:=λx hx=>(mc ((xx he).ins x hx)).2.1;have hs:=Dv (n:=n) hn os (by omega) is (by omega) hx ms (by omega);rw[show((0:Int) != 0)=false from rfl,cond_false,cond_false,hs,ab,aC,cond_false];exact tl
   ·rw[if_pos he,ab];have h0:(xy os is ms==0)=false:=by rw[kg];exact a_ he
    simp only;rw[h0,cond_false];exact tl
end
end Go.Proofs.YtnoldakbllfmnaaGreatDoor.Ev
end