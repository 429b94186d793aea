import Derived.Test.YtnoldakbllfmnaaGreatDoorDYd
set_option linter.all false
noncomputable section
namespace Go.Proofs.YtnoldakbllfmnaaGreatDoor.Ev
open Go Go.Proofs Go.Proofs.Ev
def opsOf:List (Nat × LN)->List OP
 | []=>[]
 | x::r=>if x.2.pt=1 then x.2.o::opsOf r else opsOf r
def jg:List (Nat × LN)->List MN
 | []=>[]
 | x::r=>if x.2.pt=3 then x.2.mo::jg r else jg r
def eL(k:Int):List (Nat × LN)->List Int
 | []=>[]
 | x::r=>if x.2.pt=k then((x.1:Nat):Int)::eL k r else eL k r
theorem iG.Yc{L:LN}(h:iG L):L.pt=1\/L.pt=2\/L.pt=3:=by
 cases h with
 | op o h=>exact .inl rfl
 | ins _ _ _ _=>exact .inr (.inl rfl)
 | NF _ _ _ _ _=>exact .inr (.inr rfl)
section
variable {n:Nat}
abbrev zP(ls:List (Nat × LN))(i:Nat)(A B C1 C2 C3:List AV):dI.Z:=.z4 (ls.map th) (ls.map th) ((ls.length:Nat):Int) ((i:Nat):Int) A B [vi 0] C1 C2 C3
theorem Aa(n:Nat)(ls:List (Nat × LN))(hl:ls.length<=100000)(hg:∀x∈ls,iG x.2):∀(d i m:Nat) (A B C1 C2 C3:List AV),i+d=ls.length->A.length<=i->B.length<=i->C1.length<=i->C2.length<=i->C3.length<=i->
  dI.l n (m+4*d) (zP ls i A B C1 C2 C3)=dI.l n m (zP ls ls.length (A++(opsOf (ls.drop i)).map OP.av) (B++(jg (ls.drop i)).map MN.av) (C1++(eL 1 (ls.drop i)).map vi) (C2++(eL 2 (ls.drop i)).map vi) (C3++(eL 3 (ls.drop i)).map vi))
 | 0,i,m,A,B,C1,C2,C3,h,_,_,_,_,_=>by
  have:i=ls.length:=by omega
  subst this;rw[aF (aH _)];show dI.l n m _=dI.l n m (zP ls ls.length (A++[]) (B++[]) (C1++[]) (C2++[]) (C3++[]));simp only[bc]
 | d+1,i,m,A,B,C1,C2,C3,h,hA,hB,h1,h2,h3=>by
  have hi:i<ls.length:=by omega
  have lO:fe=1000000000:=rfl;have hd:=aC hi;have Pl:=hg _ (aZ hi);rw[show m+4*(d+1)=((((m+4*d)+1)+1)+1)+1 by omega];show dI.l n (((((m+4*d)+1)+1)+1)+1) (.z4 (ls.map th) (ls.map th) ((ls.length:Nat):Int) ((i:Nat):Int) A B [vi 0] C1 C2 C3)=_;rw[dI.tj];unfold dI.r4;rw[cU (by omega),aj,de hi,ak,au,dR th hi];simp only[th,dA,cZ,dh,dn,dx];rw[dI.FT];unfold dI.r6;rcases Pl.Yc with hp|hp|hp
  ·rw[hp,cV (by decide),cV (by decide),cU (by decide),cU (by simp;omega),dI.zi];unfold dI.r7;rw[dD,ag rfl];simp only;rw[cU (by simp;omega),dI.EG];unfold dI.ry;rw[dY (by omega)];have ih:=Aa n ls hl hg d (i+1) m (A++[ls[i].2.o.av]) B (C1++[vi ((ls[i].1:Nat):Int)]) C2 C3 (by omega) (by simp;omega) (by omega) (by simp;omega) (by omega) (by omega);refine cM ih ?_;rw[hd];simp[opsOf,jg,eL,hp]
  ·rw[hp,cV (by decide),cU (by decide),cU (by simp;omega),dI.zi];unfold dI.r7;rw[dD,af (by decide),dD,af (by decide),dI.EG];unfold dI.ry;rw[dY (by omega)];have ih:=Aa n ls hl hg d (i+1) m A B C1 (C2++[vi ((ls[i].1:Nat):Int)]) C3 (by omega) (by omega) (by omega) (by omega) (by simp;omega) (by omega);refine cM ih ?_;rw[hd];simp[opsOf,jg,eL,hp]
  ·rw[hp,cU (by decide),cU (by simp;omega),dI.zi];unfold dI.r7;rw[dD,af (by decide),dD,ag rfl];simp only;rw[cU (by simp;omega),dI.EG];unfold dI.ry;rw[dY (by omega)];have ih:=Aa n ls hl hg d (i+1) m A (B++[ls[i].2.mo.av]) C1 C2 (C3++[vi ((ls[i].1:Nat):Int)]) (by omega) (by omega) (by simp;omega) (by omega) (by omega) (by simp;omega);refine cM ih ?_;rw[hd];simp[opsOf,jg,eL,hp]
abbrev zR(ls:List (Nat × LN))(i:Nat)(A B C1 C2 C3:List AV):dN.Z:=.z21 ((i:Nat):Int) (ls.map u7) A B [] C1 C2 C3
theorem uP(n:Nat)(ls:List (Nat × LN))(hl:ls.length<=100000)(hg:∀x∈ls,iG x.2):∀(d i m:Nat) (A B C1 C2 C3:List AV),i+d=ls.length->A.length<=i->B.length<=i->C1.length<=i->C2.length<=i->C3.length<=i->
  dN.l n (m+4*d) (zR ls i A B C1 C2 C3)=dN.l n m (zR ls ls.length (A++(opsOf (ls.drop i)).map OP.av) (B++(jg (ls.drop i)).map MN.av) (C1++(eL 1 (ls.drop i)).map vi) (C2++(eL 2 (ls.drop i)).map vi) (C3++(eL 3 (ls.drop i)).map vi))
 | 0,i,m,A,B,C1,C2,C3,h,_,_,_,_,_=>by
  have:i=ls.length:=by omega
  subst this;rw[aF (aH _)];show dN.l n m _=dN.l n m (zR ls ls.length (A++[]) (B++[]) (C1++[]) (C2++[]) (C3++[]));simp only[bc]
 | d+1,i,m,A,B,C1,C2,C3,h,hA,hB,h1,h2,h3=>by
  have hi:i<ls.length:=by omega
  have lO:fe=1000000000:=rfl;have hd:=aC hi;have Pl:=hg _ (aZ hi);rw[show m+4*(d+1)=((((m+4*d)+1)+1)+1)+1 by omega];show dN.l n (((((m+4*d)+1)+1)+1)+1) (.z21 ((i:Nat):Int) (ls.map u7) A B [] C1 C2 C3)=_;rw[dN.CY];unfold dN.qw;simp only[aj];rw[cU (by omega),de hi,ak,au,dR u7 hi];simp only[u7,dA,cZ,dh,dn,dx];rw[dN.EF];unfold dN.qW;rcases Pl.Yc with hp|hp|hp
  ·rw[hp,cV (by decide),cV (by decide),cU (by decide),cU (by simp;omega),dN.KO];unfold dN.IZ;rw[dD,ag rfl];simp only;rw[cU (by simp;omega),dN.PV];unfold dN.LL;rw[dY (by omega)];have ih:=uP n ls hl hg d (i+1) m (A++[ls[i].2.o.av]) B (C1++[vi ((ls[i].1:Nat):Int)]) C2 C3 (by omega) (by simp;omega) (by omega) (by simp;omega) (by omega) (by omega);refine cM ih ?_;rw[hd];simp[opsOf,jg,eL,hp]
  ·rw[hp,cV (by decide),cU (by decide),cU (by simp;omega),dN.KO];unfold dN.IZ;rw[dD,af (by decide),dD,af (by decide),dN.PV];unfold dN.LL;rw[dY (by omega)];have ih:=uP n ls hl hg d (i+1) m A B C1 (C2++[vi ((ls[i].1:Nat):Int)]) C3 (by omega) (by omega) (by omega) (by omega) (by simp;omega) (by omega);refine cM ih ?_;rw[hd];simp[opsOf,jg,eL,hp]
  ·rw[hp,cU (by decide),cU (by simp;omega),dN.KO];unfold dN.IZ;rw[dD,af (by decide),dD,ag rfl];simp only;rw[cU (by simp;omega),dN.PV];unfold dN.LL;rw[dY (by omega)];have ih:=uP n ls hl hg d (i+1) m A (B++[ls[i].2.mo.av]) C1 C2 (C3++[vi ((ls[i].1:Nat):Int)]) (by omega) (by omega) (by simp;omega) (by omega) (by omega) (by simp;omega);refine cM ih ?_;rw[hd];simp[opsOf,jg,eL,hp]
end
def tT(os:List OP)(L:LN):IN:=⟨L.p_,L.fW.map λw=>gA (dH os) w 0⟩
def rO(os:List OP):List (Nat × LN)->List IN->(Nat × Int) ⊕ List IN
 | [],acc=>.inr acc
 | x::r,acc=>if x.2.pt≠2 then rO os r acc else if x.2.fW.length≠(cls x.2.p_).length then .inl (x.1,37)
  else if(x.2.fW.all λw=>(dH os).contains w)=true then rO os r (acc++[tT os x.2])else .inl (x.1,11)
theorem Fp(ws:List (List UInt8))(w:List UInt8):(gA ws w 0<0↔ws.contains w=false)/\(gA ws w 0=-1↔ws.contains w=false):=by
 have h:=pN ws w 0;have hl:=pM ws w 0;cases hc:ws.contains w with
 | true=>
  rw[hc,ay]at h;constructor
  ·constructor
   ·intro h2;omega
   ·intro h2;cases h2
  ·constructor
   ·intro h2;omega
   ·intro h2;cases h2
 | false=>
  rw[hc,bH]at h;constructor
  ·exact⟨λ_=>rfl,λ_=>by omega⟩
  ·exact⟨λ_=>rfl,λ_=>by omega⟩
theorem iG.O4{L:LN}(h:iG L)(hp:L.pt=2):0<=L.p_/\L.p_<=18:=by
 cases h with
 | op o h=>cases hp
 | ins _ _ h _=>exact h
 | NF _ _ _ _ _=>cases hp
section
variable {n:Nat}
theorem Jk(hn:1001<=n)(os:List OP)(ho:os.length<=1000)(fW:List (List UInt8))(kL:fW.length<=100)(HQ:List AV)(len i:Int)(IA B Z0 C1 C2 C3:List AV)(WT:IA.length<=100000)(dG dE dS dJ dO z20 z21 z24 z25 z26 z28 iD jx z31 ng:Int)(dM z22 z23:ByteArray)(fD:List AV):∀(d j M:Nat) (acc:List Int),j+d=fW.length->d+1<=M->acc.length<=j->
  dI.l n M (.z21 HQ len i (Ws fW) ((fW.length:Nat):Int) ((j:Nat):Int) (os.map OP.av) IA B Z0 C1 C2 C3 dG dE dM dS dJ dO z20 z21 z22 z23 z24 z25 z26 fD z28 iD jx z31 ng (acc.map vi))=if((fW.drop j).all λw=>(dH os).contains w)=true then dI.l n (M - (d+1)) (.dG HQ len (IntKind.i64.wrap (i+1)) (os.map OP.av) (IA++[IN.av ⟨ng,acc++(fW.drop j).map λw=>gA (dH os) w 0⟩]) B Z0 C1 C2 C3)else some ([],[],[],dG,11)
 | _,_,0,_,_,h,_=>absurd h (by omega)
 | 0,j,M+1,acc,h,_,ha=>by
  have lO:fe=1000000000:=rfl;rw[dI.CY];unfold dI.qw;rw[cV (by omega),aF (by omega),List.all_nil,ag rfl];simp only;rw[cU (by simp;omega)];simp[IN.av]
 | d+1,j,M+1,acc,h,hM,ha=>by
  have hj:j<fW.length:=by omega
  have lO:fe=1000000000:=rfl;rw[dI.CY];unfold dI.qw;rw[cU (by omega),dq,de hj,ak,sk hj];simp only[dZ,cZ,dn];rw[rE hn os ho,ab,aC hj,bo];obtain⟨h1,_⟩:=Fp (dH os) fW[j];cases hc:(dH os).contains fW[j]with
  | false=>
   rw[cU (h1.2 hc),af (by simp)]
  | true=>
   rw[cV (λe=>by rw[h1.1 e]at hc;cases hc),cU (by rw[aj];simp;omega),dY (by omega)];have em:acc.map vi++[vi (gA (dH os) fW[j] 0)]=(acc++[gA (dH os) fW[j] 0]).map vi:=by simp
   rw[em,Jk hn os ho fW kL HQ len i IA B Z0 C1 C2 C3 WT dG dE dS dJ dO z20 z21 z24 z25 z26 z28 iD jx z31 ng dM z22 z23 fD d (j+1) M (acc++[gA (dH os) fW[j] 0]) (by omega) (by omega) (by simp;omega),ct,show M+1 - (d+1+1)=M - (d+1) by omega,bx,bz,List.singleton_append]
theorem Jj(hn:1001<=n)(os:List OP)(ho:os.length<=1000)(fW:List (List UInt8))(kL:fW.length<=100)(HQ:List AV)(i:Nat)(hi:i<=100000)(IA B Z0 C1 C2 C3:List AV)(WT:IA.length<=100000)(dp z12 dG dE dM dS dJ z21 z22 z23 z25 z26 fD z28 iD:Int)(dC dO z20:ByteArray):∀(d j M:Nat) (acc:List Int),j+d=fW.length->d+1<=M->acc.length<=j->
  dN.l n M (.H_ Z0 C1 C2 C3 ((i:Nat):Int) ((j:Nat):Int) HQ (os.map OP.av) IA B dp z12 dC dG dE dM dS dJ dO z20 z21 z22 z23 (Ws fW) z25 z26 fD z28 iD (acc.map vi))=if((fW.drop j).all λw=>(dH os).contains w)=true then dN.l n (M - (d+1)) (.z31 Z0 C1 C2 C3 ((i+1:Nat):Int) HQ (os.map OP.av) (IA++[IN.av ⟨iD,acc++(fW.drop j).map λw=>gA (dH os) w 0⟩]) B)else some ([],[],[],z12,11)
 | _,_,0,_,_,h,_=>absurd h (by omega)
 | 0,j,M+1,acc,h,_,ha=>by
  have lO:fe=1000000000:=rfl;rw[dN.Tt];unfold dN.LJ;simp only[dq];rw[cV (by omega),aF (by omega),List.all_nil,ag rfl,cU (by simp;omega),dY (by omega)];simp[IN.av]
 | d+1,j,M+1,acc,h,hM,ha=>by
  have hj:j<fW.length:=by omega
  have lO:fe=1000000000:=rfl;rw[dN.Tt];unfold dN.LJ;simp only[dq];rw[cU (by omega),de hj,ak,sk hj];simp only[dZ,cZ,dn];rw[KN hn os ho,ab,aC hj,bo,dD];obtain⟨_,h1⟩:=Fp (dH os) fW[j];cases hc:(dH os).contains fW[j]with
  | false=>
   rw[ag (h1.2 hc),af (by simp)]
  | true=>
   rw[af (λe=>by rw[h1.1 e]at hc;cases hc),cU (by rw[aj];simp;omega),dY (by omega)];have em:acc.map vi++[vi (gA (dH os) fW[j] 0)]=(acc++[gA (dH os) fW[j] 0]).map vi:=by simp
   rw[em,Jj hn os ho fW kL HQ i hi IA B Z0 C1 C2 C3 WT dp z12 dG dE dM dS dJ z21 z22 z23 z25 z26 fD z28 iD dC dO z20 d (j+1) M (acc++[gA (dH os) fW[j] 0]) (by omega) (by omega) (by simp;omega),ct,show M+1 - (d+1+1)=M - (d+1) by omega,bx,bz,List.singleton_append]
def M3(a:Option PR)(b:List IN->Nat->Option PR)(m:Nat):(Nat × Int) ⊕ List IN->Prop
 | .inl x=>a=some ([],[],[],((x.1:Nat):Int),x.2)
 | .inr is=>∃m',m<=m'/\a=b is m'
theorem DI(hn:1001<=n)(os:List OP)(ho:os.length<=1000)(ls:List (Nat × LN))(hl:ls.length<=100000)(hg:∀x∈ls,iG x.2)(B Z0 C1 C2 C3:List AV):∀(d i m M:Nat) (acc:List IN),i+d=ls.length->m+5*d<=M->acc.length<=i->
  M3 (dI.l n M (.dG (ls.map th) ((ls.length:Nat):Int) ((i:Nat):Int) (os.map OP.av) (acc.map IN.av) B Z0 C1 C2 C3)) (λis m'=>dI.l n m' (.dG (ls.map th) ((ls.length:Nat):Int) ((ls.length:Nat):Int) (os.map OP.av) (is.map IN.av) B Z0 C1 C2 C3)) m (rO os (ls.drop i) acc)
 | 0,i,m,M,acc,h,hM,_=>by
  have:i=ls.length:=by omega
  subst this;rw[aF (aH _)];exact⟨M,by omega,rfl⟩
 | d+1,i,m,M,acc,h,hM,ha=>by
  have hi:i<ls.length:=by omega
  have hd:=aC hi;have Pl:=hg _ (aZ hi);obtain⟨M,rfl⟩:∃q,M=q+1:=⟨M - 1,by omega⟩;rw[hd,dI.KQ];unfold dI.xk;rw[cU (by omega),aj,de hi,ak,au,dR th hi];simp only[th,dA,cZ,dh,dn,dx];rw[eG];unfold rO;by_cases hp:ls[i].2.pt=2
  ·rw[ag hp,af (λh=>h hp)];have e_:=Pl.O4 hp;obtain⟨r,hr⟩:=w3 e_;have ic:=mT e_;rw[dX (by rw[ae,ay,ay];omega),hr,cZ,dx];simp only[dq,aj];rw[eG];by_cases hlen:ls[i].2.fW.length=(cls ls[i].2.p_).length
   ·rw[ag (by omega),af (λh=>h hlen)];have hN:=Jk hn os ho ls[i].2.fW (by omega) (ls.map th) ((ls.length:Nat):Int) ((i:Nat):Int) (acc.map IN.av) B Z0 C1 C2 C3 (by rw[aj];omega) ((ls[i].1:Nat):Int) ls[i].2.pt ls[i].2.o.kd ls[i].2.o.k ls[i].2.o.l ls[i].2.o.s ls[i].2.o.vn ls[i].2.o.of ls[i].2.o.tg ls[i].2.p_ ls[i].2.mo.fr ls[i].2.mo.tt ls[i].2.mo.ex ls[i].2.mo.hd ls[i].2.p_ (bs ls[i].2.o.nm) (bs ls[i].2.o.vx) (bs ls[i].2.o.ba) (Ws ls[i].2.fW) ls[i].2.fW.length 0 M [] (by omega) (by omega) (by simp);rw[aW]at hN;refine oa (P:=λq=>M3 q _ m _) hN ?_;by_cases ig:(ls[i].2.fW.all λw=>(dH os).contains w)=true
    ·rw[ag ig,ag ig,dY (by omega)];have ea:acc.map IN.av++[IN.av ⟨ls[i].2.p_,[]++ls[i].2.fW.map λw=>gA (dH os) w 0⟩]=(acc++[tT os ls[i].2]).map IN.av:=by simp[tT]
     rw[ea];exact DI hn os ho ls hl hg B Z0 C1 C2 C3 d (i+1) m _ (acc++[tT os ls[i].2]) (by omega) (by omega) (by simp;omega)
    ·rw[af ig,af ig];rfl
   ·rw[af (by omega),ag hlen];rfl
  ·rw[af hp,ag hp,dY (by omega)];exact DI hn os ho ls hl hg B Z0 C1 C2 C3 d (i+1) m M acc (by omega) (by omega) (by omega)
theorem KR(hn:1001<=n){op:Int}(h:0<=op/\op<=18):uf.F n op=some (((cls op).length:Nat):Int):=by
 unfold uf.F uf.e;rw[By hn h,ab,aj]
theorem z_(hn:1001<=n)(os:List OP)(ho:os.length<=1000)(ls:List (Nat × LN))(hl:ls.length<=100000)(hg:∀x∈ls,iG x.2)(B Z0 C1 C2 C3:List AV):∀(d i m M:Nat) (acc:List IN),i+d=ls.length->m+5*d<=M->acc.length<=i->
  M3 (dN.l n M (.z31 Z0 C1 C2 C3 ((i:Nat):Int) (ls.map u7) (os.map OP.av) (acc.map IN.av) B)) (λis m'=>dN.l n m' (.z31 Z0 C1 C2 C3 ((ls.length:Nat):Int) (ls.map u7) (os.map OP.av) (is.map IN.av) B)) m (rO os (ls.drop i) acc)
 | 0,i,m,M,acc,h,hM,_=>by
  have:i=ls.length:=by omega
  subst this;rw[aF (aH _)];exact⟨M,by omega,rfl⟩
 | d+1,i,m,M,acc,h,hM,ha=>by
  have hi:i<ls.length:=by omega
  have hd:=aC hi;have Pl:=hg _ (aZ hi);obtain⟨M,rfl⟩:∃q,M=q+1:=⟨M - 1,by omega⟩;rw[hd,dN.Tu];unfold dN.TS;simp only[aj];rw[cU (by omega),de hi,ak,au,dR u7 hi];simp only[u7,dA,cZ,dh,dn,dx];rw[eG];unfold rO;by_cases hp:ls[i].2.pt=2
  ·rw[ag hp,af (λh=>h hp)];have e_:=Pl.O4 hp;have ic:=mT e_;rw[KR hn e_,ab];simp only[dq];rw[eG];by_cases hlen:ls[i].2.fW.length=(cls ls[i].2.p_).length
   ·rw[ag (by omega),af (λh=>h hlen)];have hN:=Jj hn os ho ls[i].2.fW (by omega) (ls.map u7) i (by omega) (acc.map IN.av) B Z0 C1 C2 C3 (by rw[aj];omega) ls[i].2.pt ((ls[i].1:Nat):Int) ls[i].2.o.kd ls[i].2.o.k ls[i].2.o.l ls[i].2.o.s ls[i].2.o.vn ls[i].2.o.of ls[i].2.o.tg ls[i].2.p_ ls[i].2.mo.fr ls[i].2.mo.tt ls[i].2.mo.ex ls[i].2.mo.hd ls[i].2.p_ (bs ls[i].2.o.nm) (bs ls[i].2.o.vx) (bs ls[i].2.o.ba) ls[i].2.fW.length 0 M [] (by omega) (by omega) (by simp);rw[aW]at hN;refine oa (P:=λq=>M3 q _ m _) hN ?_;by_cases ig:(ls[i].2.fW.all λw=>(dH os).contains w)=true
    ·rw[ag ig,ag ig];have ea:acc.map IN.av++[IN.av ⟨ls[i].2.p_,[]++ls[i].2.fW.map λw=>gA (dH os) w 0⟩]=(acc++[tT os ls[i].2]).map IN.av:=by simp[tT]
     rw[ea];exact z_ hn os ho ls hl hg B Z0 C1 C2 C3 d (i+1) m _ (acc++[tT os ls[i].2]) (by omega) (by omega) (by simp;omega)
    ·rw[af ig,af ig];rfl
   ·rw[af (by omega),ag hlen];rfl
  ·rw[af hp,ag hp,dY (by omega)];exact z_ hn os ho ls hl hg B Z0 C1 C2 C3 d (i+1) m M acc (by omega) (by omega) (by omega)
end
section
variable {n:Nat}
theorem Ew(hn:1001<=n)(os:List OP)(is:List IN)(hx:∀x∈is,x.ar.length<=1000)(ms:List MN):eP.F n (os.map OP.av) (is.map IN.av) (ms.map MN.av)=some (gh os is ms):=by
 by_cases hb:os.length>24\/is.length>40\/ms.length>6
 ·obtain⟨m,rfl⟩:∃m,n=m+1:=⟨n - 1,by omega⟩;unfold eP.F eP.e gh;simp only[aj,eP.oE];unfold eP.r2;simp only[n_,ab,AH hn,eG,aj];have c1:decide (((os.length:Nat):Int)>24)=decide (os.length>24):=by rw[bA];omega
  have c2:decide (((is.length:Nat):Int)>40)=decide (is.length>40):=by rw[bA];omega
  have c3:decide (((ms.length:Nat):Int)>6)=decide (ms.length>6):=by rw[bA];omega
  rw[c1,c2,c3];by_cases h1:os.length>24
  ·simp[h1]
  ·by_cases h2:is.length>40
   ·simp[h1,h2]
   ·have h3:ms.length>6:=by omega
    simp[h1,h2,h3]
 ·exact Ho hn os (by omega) is (by omega) hx ms (by omega)
theorem Eu(hn:1001<=n)(os:List OP)(is:List IN)(hx:∀x∈is,x.ar.length<=1000)(ms:List MN):gL.F n (os.map OP.av) (is.map IN.av) (ms.map MN.av)=some (gh os is ms):=by
 by_cases hb:os.length>24\/is.length>40\/ms.length>6
 ·obtain⟨m,rfl⟩:∃m,n=m+1:=⟨n - 1,by omega⟩;unfold gL.F gL.e gh;have SN : gL.l (m+1) (m+1) (.z2 0 0)=some (0,0,2):=rfl;simp only[aj,SN];have c1:decide (((os.length:Nat):Int)>24)=decide (os.length>24):=by rw[bA];omega
  have c2:decide (((is.length:Nat):Int)>40)=decide (is.length>40):=by rw[bA];omega
  have c3:decide (((ms.length:Nat):Int)>6)=decide (ms.length>6):=by rw[bA];omega
  rw[c1,c2,c3];by_cases h1:os.length>24
  ·simp[h1]
  ·by_cases h2:is.length>40
   ·simp[h1,h2]
   ·have h3:ms.length>6:=by omega
    simp[h1,h2,h3]
 ·exact Et hn os (by omega) is (by omega) hx ms (by omega)
end
theorem vW(nI:Nat):∀(r b:List OP),(mA nI b r).2≠0->∃k:Nat,(mA nI b r).1=(k:Int)/\b.length<=k/\k<b.length+r.length
 | [],b,h=>absurd rfl h
 | o::r,b,h=>by
  rw[pD]at h ⊢;by_cases h0:DQ b o nI≠0
  ·rw[ag h0];exact⟨b.length,rfl,aH _,by simp⟩
  ·rw[af h0]at h ⊢;obtain⟨k,k1,k2,k3⟩:=vW nI r (b++[o]) h;simp at k2 k3;exact⟨k,k1,by omega,by simp;omega⟩
theorem wB(os:List OP):∀(r:List IN) (i:Nat),(rP os r i).2≠0->∃k:Nat,(rP os r i).1=(k:Int)/\i<=k/\k<i+r.length
 | [],i,h=>absurd rfl h
 | x::r,i,h=>by
  rw[sR]at h ⊢;by_cases h0:wy os x≠0
  ·rw[ag h0];exact⟨i,rfl,aH _,by simp⟩
  ·rw[af h0]at h ⊢;obtain⟨k,k1,k2,k3⟩:=wB os r (i+1) h;exact⟨k,k1,by omega,by simp;omega⟩
theorem wc(nI:Nat):∀(r:List MN) (i:Nat),(rG nI r i).2≠0->∃k:Nat,(rG nI r i).1=(k:Int)/\i<=k/\k<i+r.length
 | [],i,h=>absurd rfl h
 | x::r,i,h=>by
  rw[sP]at h ⊢;by_cases h0:Aj nI x≠0
  ·rw[ag h0];exact⟨i,rfl,aH _,by simp⟩
  ·rw[af h0]at h ⊢;obtain⟨k,k1,k2,k3⟩:=wc nI r (i+1) h;exact⟨k,k1,by omega,by simp;omega⟩
theorem sf(os:List OP)(is:List IN)(ms:List MN)(h:(gh os is ms).2.2≠0):((gh os is ms).1=0/\(gh os is ms).2.1=0)\/∃k:Nat,(gh os is ms).2.1=(k:Int)/\(((gh os is ms).1=1/\k<os.length)\/((gh os is ms).1=2/\k<is.length)\/((gh os is ms).1=3/\k<ms.length)):=by
 unfold gh at h ⊢;split
 ·exact .inl ⟨rfl,rfl⟩
 rename_i h1;rw[af h1]at h;split
 ·exact .inl ⟨rfl,rfl⟩
 rename_i h2;rw[af h2]at h;split
 ·rename_i h3;obtain⟨k,k1,_,k3⟩:=vW is.length os [] h3;exact .inr ⟨k,k1,.inl ⟨rfl,by simpa using k3⟩⟩
 rename_i h3;rw[af h3]at h;split
 ·exact .inl ⟨rfl,rfl⟩
 rename_i h4;rw[af h4]at h;unfold AY at h ⊢;split
 ·rename_i h5;obtain⟨k,k1,_,k3⟩:=wB os is 0 h5;exact .inr ⟨k,k1,.inr (.inl ⟨rfl,by simpa using k3⟩)⟩
 rename_i h5;rw[af h5]at h;unfold AX at h ⊢;split
 ·rename_i h6;obtain⟨k,k1,_,k3⟩:=wc is.length ms 0 h6;exact .inr ⟨k,k1,.inr (.inr ⟨rfl,by simpa using k3⟩)⟩
 ·exact .inl ⟨rfl,rfl⟩
theorem pI:∀ls:List (Nat × LN),(eL 1 ls).length=(opsOf ls).length
 | []=>rfl
 | x::r=>by
  unfold eL opsOf;split
  ·simp[pI r]
  ·exact pI r
theorem pH:∀ls:List (Nat × LN),(eL 3 ls).length=(jg ls).length
 | []=>rfl
 | x::r=>by
  unfold eL jg;split
  ·simp[pH r]
  ·exact pH r
theorem wz(os:List OP):∀(ls:List (Nat × LN)) (acc is:List IN),rO os ls acc=.inr is->is.length=acc.length+(eL 2 ls).length
 | [],acc,is,h=>by
  cases h;rfl
 | x::r,acc,is,h=>by
  unfold rO at h;unfold eL;by_cases hp:x.2.pt=2
  ·rw[af (λh=>h hp)]at h;rw[ag hp];split at h
   ·cases h
   split at h
   ·have:=wz os r _ is h;rw[this];simp;omega
   ·cases h
  ·rw[ag hp]at h;rw[af hp];exact wz os r acc is h
theorem Aw(os:List OP):∀(ls:List (Nat × LN)) (acc is:List IN),(∀x∈ls,iG x.2)->(∀x∈acc,x.ar.length<=3)->rO os ls acc=.inr is->∀x∈is,x.ar.length<=3
 | [],acc,is,_,ha,h=>by
  cases h;exact ha
 | x::r,acc,is,hg,ha,h=>by
  unfold rO at h;by_cases hp:x.2.pt=2
  ·rw[af (λh=>h hp)]at h;split at h
   ·cases h
   rename_i hlen;split at h
   ·refine Aw os r _ is (λy hy=>hg y (bS _ hy)) ?_ h;intro y hy;rw[aS]at hy;rcases hy with hy|hy
    ·exact ha y hy
    ·rw[bG]at hy;rw[hy];have:=mT ((hg x bZ).O4 hp);unfold tT;simp only[aj];omega
   ·cases h
  ·rw[ag hp]at h;exact Aw os r acc is (λy hy=>hg y (bS _ hy)) ha h
theorem LY{o:OP}(h:HE o):8<=(LZ o).length:=by
 have kL:=iv h.name;rw[yw h];unfold nW Qp gX;cases h with
 | IF hk nm ty v ba of tg=>rcases hk with hk|hk<;>simp[hk]<;>omega
 | K7 hk nm ty vn vx ba of tg=>rcases hk with hk|hk<;>simp[hk]<;>omega
 | ptr hk nm k l s vn vx ba of tg=>simp[hk]
 | Ma hk nm k l s vn vx ba of tg=>simp[hk]
theorem E_:∀(ls:List (Nat × LN)),(∀x∈ls,iG x.2)->10*(opsOf ls).length<=(flat (ls.map λx=>qF x.2)).length
 | [],_=>cB _
 | x::r,hg=>by
  have ih:=E_ r (λy hy=>hg y (bS _ hy));have hgx:=hg x bZ;rw[bx];unfold flat opsOf;rw[ai,ai];split
  ·rename_i hp;have:8<=(qF x.2).length:=by
    generalize x.2=L at *;cases hgx with
    | op o h=>exact LY h
    | ins _ _ _ _=>cases hp
    | NF _ _ _ _ _=>cases hp
   simp;omega
  ·omega
section
variable {n:Nat}
theorem MV(b:ByteArray):(b==b)=true:=by
 cases b with
 | mk a=>
  show(a==a)=true;simp
theorem Nh(n:Nat)(os:List OP)(ho:os.length<=100000)(a2 a3 b2 b3:List AV):∀(d i m:Nat),i+d=os.length->gg.l n (m+d+1) (.z4 ((i:Nat):Int) (os.map OP.av) a2 a3 (os.map OP.av) b2 b3)=gg.l n m (.z9 0 (os.map OP.av) a2 a3 (os.map OP.av) b2 b3)
 | 0,i,m,h=>by
  rw[bE,gg.tj];unfold gg.r4;simp only[aj];rw[cV (by omega)]
 | d+1,i,m,h=>by
  have hi:i<os.length:=by omega
  rw[show m+(d+1)+1=(m+d+1)+1 by omega,gg.tj];unfold gg.r4;simp only[aj];rw[cU (by omega),de hi,ak,au,dR OP.av hi];simp only[OP.av,dA,cZ,dh,dn];rw[ak];simp only[cZ,dh,dn,beq_self_eq_true,MV,Bool.and_self,aI,cond_false];rw[dY (by omega)];exact Nh n os ho a2 a3 b2 b3 d (i+1) m (by omega)
theorem Nj(hn:100001<=n)(is:List IN)(hl:is.length<=100000)(hx:∀x∈is,x.ar.length<=3)(a1 a3 b1 b3:List AV):∀(d i m:Nat),i+d=is.length->gg.l n (m+d+1) (.z9 ((i:Nat):Int) a1 (is.map IN.av) a3 b1 (is.map IN.av) b3)=gg.l n m (.dG 0 a1 (is.map IN.av) a3 b1 (is.map IN.av) b3)
 | 0,i,m,h=>by
  rw[bE,gg.at9];unfold gg.r9;simp only[aj];rw[cV (by omega)]
 | d+1,i,m,h=>by
  have hi:i<is.length:=by omega
  have hxi:=hx _ (aZ hi);rw[show m+(d+1)+1=(m+d+1)+1 by omega,gg.at9];unfold gg.r9;simp only[aj];rw[cU (by omega),de hi,ak,au,dR IN.av hi];simp only[IN.av,dA,cZ,dh,ak,ca,aW,dx];rw[eG,ag rfl,Gz _ (by omega) hn,ab,aI,cond_false,dY (by omega)];exact Nj hn is hl hx a1 a3 b1 b3 d (i+1) m (by omega)
theorem Ni(n:Nat)(ms:List MN)(hl:ms.length<=100000)(a1 a2 b1 b2:List AV):∀(d i m:Nat),i+d=ms.length->gg.l n (m+d+1) (.dG ((i:Nat):Int) a1 a2 (ms.map MN.av) b1 b2 (ms.map MN.av))=some true
 | 0,i,m,h=>by
  rw[bE,gg.KQ];unfold gg.xk;simp only[aj];rw[cV (by omega)]
 | d+1,i,m,h=>by
  have hi:i<ms.length:=by omega
  rw[show m+(d+1)+1=(m+d+1)+1 by omega,gg.KQ];unfold gg.xk;simp only[aj];rw[cU (by omega),de hi,ak,au,dR MN.av hi];simp only[MN.av,dA,cZ,dh,ak,beq_self_eq_true,Bool.and_self,aI,cond_false];rw[dY (by omega)];exact Ni n ms hl a1 a2 b1 b2 d (i+1) m (by omega)
theorem yg(hn:1000002<=n)(os:List OP)(ho:os.length<=100000)(is:List IN)(hl:is.length<=100000)(hx:∀x∈is,x.ar.length<=3)(ms:List MN)(hm:ms.length<=100000):gg.F n (os.map OP.av) (is.map IN.av) (ms.map MN.av) (os.map OP.av) (is.map IN.av) (ms.map MN.av)=some true:=by
 unfold gg.F gg.e;simp only[aj];rw[eG,ag rfl,eG,ag rfl,eG,ag rfl];obtain⟨q,rfl⟩:∃q,n=q+ms.length+1+is.length+1+os.length+1:=⟨n - 3 - ms.length - is.length - os.length,by omega⟩;have e1:=Nh (q+ms.length+1+is.length+1+os.length+1) os ho (is.map IN.av) (ms.map MN.av) (is.map IN.av) (ms.map MN.av) os.length 0 (q+ms.length+1+is.length+1) (by omega);have e2:=Nj (show 100001<=q+ms.length+1+is.length+1+os.length+1 by omega) is hl hx (os.map OP.av) (ms.map MN.av) (os.map OP.av) (ms.map MN.av) is.length 0 (q+ms.length+1) (by omega);have e3:=Ni (q+ms.length+1+is.length+1+os.length+1) ms hm (os.map OP.av) (is.map IN.av) (os.map OP.av) (is.map IN.av) ms.length 0 q (by omega);exact e1.trans (e2.trans e3)
theorem II(hn:1000002<=n):gg.F n [] [] [] [] [] []=some true:=yg hn [] (by simp) [] (by simp) (λx hx=>by cases hx) [] (by simp)
def Kt(ls:List (Nat × LN))(os:List OP)(is:List IN)(ms:List MN):PR:=
 if(gh os is ms).2.2=0 then(os.map OP.av,is.map IN.av,ms.map MN.av,0,0)
 else([],[],[],(if(gh os is ms).1=0 then 0 else(eL (gh os is ms).1 ls).getD (gh os is ms).2.1.toNat 0),(gh os is ms).2.2)
theorem xT{l:List Int}{k:Nat}(h:k<l.length):((l.map vi).getD k AV.undef).cells=[vi (l.getD k 0)]:=by
 rw[dR vi h];have:l.getD k 0=l[k]:=by simp[ah,h]
 rw[this];rfl
theorem MM(hn:1000002<=n)(ls:List (Nat × LN))(os:List OP)(is:List IN)(ms:List MN)(A5:os=opsOf ls)(Wb:ms=jg ls)(Wm:is.length=(eL 2 ls).length)(hx:∀x∈is,x.ar.length<=3)(m:Nat)(HQ:List AV)(len:Nat) :
  dI.l n (m+2) (.dG HQ ((len:Nat):Int) ((len:Nat):Int) (os.map OP.av) (is.map IN.av) (ms.map MN.av) [vi 0] ((eL 1 ls).map vi) ((eL 2 ls).map vi) ((eL 3 ls).map vi))=some (Kt ls os is ms):=by
 have WI:=Ew (n:=n) (by omega) os is (λx h=>by have:=hx x h;omega) ms;rw[dI.KQ];unfold dI.xk;rw[cV (by omega),WI,ab,eG];unfold Kt;by_cases h0:(gh os is ms).2.2=0
 ·rw[ag h0,ag h0]
 ·rw[af h0,af h0,dI.XK];unfold dI.LK;rcases sf os is ms h0 with⟨p1,p2⟩|⟨k,p2,hp⟩
  ·rw[p1,p2,ag rfl];rfl
  ·rcases hp with⟨p1,hk⟩|⟨p1,hk⟩|⟨p1,hk⟩
   ·have nz:k<(eL 1 ls).length:=by rw[pI,<-A5];exact hk
    rw[p1,p2,af (by decide),dX (by decide),show kO ((1:Int).toNat*1) [AV.sl ⟨true,3,false⟩ 1 [vi 0],.sl ⟨true,3,false⟩ 1 ((eL 1 ls).map vi),.sl ⟨true,3,false⟩ 1 ((eL 2 ls).map vi),.sl ⟨true,3,false⟩ 1 ((eL 3 ls).map vi)]=.sl ⟨true,3,false⟩ 1 ((eL 1 ls).map vi)::[.sl ⟨true,3,false⟩ 1 ((eL 2 ls).map vi),.sl ⟨true,3,false⟩ 1 ((eL 3 ls).map vi)]from rfl,cZ,dx,aj,de nz,ak,au,xT nz,cZ,dh]
   ·have nz:k<(eL 2 ls).length:=by rw[<-Wm];exact hk
    rw[p1,p2,af (by decide),dX (by decide),show kO ((2:Int).toNat*1) [AV.sl ⟨true,3,false⟩ 1 [vi 0],.sl ⟨true,3,false⟩ 1 ((eL 1 ls).map vi),.sl ⟨true,3,false⟩ 1 ((eL 2 ls).map vi),.sl ⟨true,3,false⟩ 1 ((eL 3 ls).map vi)]=.sl ⟨true,3,false⟩ 1 ((eL 2 ls).map vi)::[.sl ⟨true,3,false⟩ 1 ((eL 3 ls).map vi)]from rfl,cZ,dx,aj,de nz,ak,au,xT nz,cZ,dh]
   ·have nz:k<(eL 3 ls).length:=by rw[pH,<-Wb];exact hk
    rw[p1,p2,af (by decide),dX (by decide),show kO ((3:Int).toNat*1) [AV.sl ⟨true,3,false⟩ 1 [vi 0],.sl ⟨true,3,false⟩ 1 ((eL 1 ls).map vi),.sl ⟨true,3,false⟩ 1 ((eL 2 ls).map vi),.sl ⟨true,3,false⟩ 1 ((eL 3 ls).map vi)]=.sl ⟨true,3,false⟩ 1 ((eL 3 ls).map vi)::[]from rfl,cZ,dx,aj,de nz,ak,au,xT nz,cZ,dh]
theorem MK(hn:1000002<=n)(ls:List (Nat × LN))(os:List OP)(is:List IN)(ms:List MN)(A5:os=opsOf ls)(Wb:ms=jg ls)(Wm:is.length=(eL 2 ls).length)(hx:∀x∈is,x.ar.length<=3)(m:Nat)(HQ:List AV) :
  dN.l n (m+1) (.z31 [] ((eL 1 ls).map vi) ((eL 2 ls).map vi) ((eL 3 ls).map vi) ((HQ.length:Nat):Int) HQ (os.map OP.av) (is.map IN.av) (ms.map MN.av))=some (Kt ls os is ms):=by
 have WI:=Eu (n:=n) (by omega) os is (λx h=>by have:=hx x h;omega) ms;rw[dN.Tu];unfold dN.TS;simp only;rw[cV (by omega),WI,ab,eG];unfold Kt;by_cases h0:(gh os is ms).2.2=0
 ·rw[ag h0,ag h0]
 ·rw[af h0,af h0,dD];rcases sf os is ms h0 with⟨p1,p2⟩|⟨k,p2,hp⟩
  ·rw[ag p1,ag p1]
  ·rcases hp with⟨p1,hk⟩|⟨p1,hk⟩|⟨p1,hk⟩
   ·have nz:k<(eL 1 ls).length:=by rw[pI,<-A5];exact hk
    rw[p1,p2,af (by decide),af (by decide),dX (by decide),show kO ((1:Int).toNat*1) [AV.sl ⟨true,3,false⟩ 1 [],.sl ⟨true,3,false⟩ 1 ((eL 1 ls).map vi),.sl ⟨true,3,false⟩ 1 ((eL 2 ls).map vi),.sl ⟨true,3,false⟩ 1 ((eL 3 ls).map vi)]=.sl ⟨true,3,false⟩ 1 ((eL 1 ls).map vi)::[.sl ⟨true,3,false⟩ 1 ((eL 2 ls).map vi),.sl ⟨true,3,false⟩ 1 ((eL 3 ls).map vi)]from rfl,cZ,dx,aj,de nz,ak,au,xT nz,cZ,dh]
   ·have nz:k<(eL 2 ls).length:=by rw[<-Wm];exact hk
    rw[p1,p2,af (by decide),af (by decide),dX (by decide),show kO ((2:Int).toNat*1) [AV.sl ⟨true,3,false⟩ 1 [],.sl ⟨true,3,false⟩ 1 ((eL 1 ls).map vi),.sl ⟨true,3,false⟩ 1 ((eL 2 ls).map vi),.sl ⟨true,3,false⟩ 1 ((eL 3 ls).map vi)]=.sl ⟨true,3,false⟩ 1 ((eL 2 ls).map vi)::[.sl ⟨true,3,false⟩ 1 ((eL 3 ls).map vi)]from rfl,cZ,dx,aj,de nz,ak,au,xT nz,cZ,dh]
   ·have nz:k<(eL 3 ls).length:=by rw[pH,<-Wb];exact hk
    rw[p1,p2,af (by decide),af (by decide),dX (by decide),show kO ((3:Int).toNat*1) [AV.sl ⟨true,3,false⟩ 1 [],.sl ⟨true,3,false⟩ 1 ((eL 1 ls).map vi),.sl ⟨true,3,false⟩ 1 ((eL 2 ls).map vi),.sl ⟨true,3,false⟩ 1 ((eL 3 ls).map vi)]=.sl ⟨true,3,false⟩ 1 ((eL 3 ls).map vi)::[]from rfl,cZ,dx,aj,de nz,ak,au,xT nz,cZ,dh]
end
structure Reads(T:List UInt8)(os:List OP)(is:List IN)(ms:List MN):Prop where
 ex:∃ls:List (Nat × LN),(∀x∈ls,iG x.2)/\T=flat (ls.map λx=>qF x.2)/\Uj 1 ls/\os=opsOf ls/\ms=jg ls/\rO os ls []=.inr is
 ok:(gh os is ms).2.2=0
 Uf:os.length<=100000/\is.length<=100000/\ms.length<=100000/\∀x∈is,x.ar.length<=3
def PZ(T:List UInt8)(r:PR):Prop:=(r.2.2.2.2≠0/\r.1=[]/\r.2.1=[]/\r.2.2.1=[])\/∃os is ms,r=(os.map OP.av,is.map IN.av,ms.map MN.av,0,0)/\Reads T os is ms
theorem yu:∀ls:List (Nat × LN),(opsOf ls).length<=ls.length
 | []=>aH _
 | x::r=>by
  have:=yu r;unfold opsOf;split<;>simp<;>omega
theorem yC:∀ls:List (Nat × LN),(jg ls).length<=ls.length
 | []=>aH _
 | x::r=>by
  have:=yC r;unfold jg;split<;>simp<;>omega
theorem BN(k:Int):∀ls:List (Nat × LN),(eL k ls).length<=ls.length
 | []=>aH _
 | x::r=>by
  have:=BN k r;unfold eL;split<;>simp<;>omega
theorem wA(os:List OP):∀(ls:List (Nat × LN)) (acc:List IN) (x:Nat × Int),rO os ls acc=.inl x->x.2≠0
 | [],acc,x,h=>by cases h
 | y::r,acc,x,h=>by
  unfold rO at h;split at h
  ·exact wA os r acc x h
  split at h
  ·cases h;show(37:Int)≠0;decide
  split at h
  ·exact wA os r _ x h
  ·cases h;show(11:Int)≠0;decide
section
variable {n:Nat}
theorem DK(hn:1000002<=n)(T:List UInt8):∃r,jz.F n (bs T)=some r/\dN.F n (bs T)=some r/\PZ T r:=by
 unfold jz.F jz.e dN.F dN.e;simp only[cY];by_cases hT:T.length<=6000
 ·rw[cV (by omega),cV (by omega)];have hL:=loops hn T hT T.length 0 1 [] n n 200000 (by omega) (by omega) (by omega) (by omega) (by simp);rcases hL with⟨off,h1,h2⟩|⟨ls,m3,k1,k2,k3,k4,k5,k6,k7⟩
  ·exact⟨_,h1,h2,.inl ⟨show(8:Int)≠0 by decide,rfl,rfl,rfl⟩⟩
  ·rw[bF]at k2 k3;rw[aW]at k5;simp only[aJ,bO]at k7;have Wx:=E_ ls k4;rw[<-k5]at Wx;have ho:(opsOf ls).length<=1000:=by omega
   have hol:=yu ls;have hml:=yC ls
   -- F4 program
   obtain⟨q,hq⟩:∃q,n=(q+1)+4*ls.length:=⟨n - 1 - 4*ls.length,by omega⟩;have p1:=Aa n ls (by omega) k4 ls.length 0 (q+1) [] [] [] [] [] (by omega) (by simp) (by simp) (by simp) (by simp) (by simp);rw[<-hq]at p1;simp only[aW,bF]at p1;have p2:dI.F n (ls.map th)=dI.l n q (.dG (ls.map th) ((ls.length:Nat):Int) ((0:Nat):Int) ((opsOf ls).map OP.av) [] ((jg ls).map MN.av) [vi 0] ((eL 1 ls).map vi) ((eL 2 ls).map vi) ((eL 3 ls).map vi)):=by
    unfold dI.F dI.e;rw[aj];refine cM p1 ?_;show dI.l n (q+1) (.z4 (ls.map th) (ls.map th) ((ls.length:Nat):Int) ((ls.length:Nat):Int) _ _ _ _ _ _)=_;rw[dI.tj];unfold dI.r4;rw[cV (by omega),aj];rfl
   have p3:=DI (by omega:1001<=n) (opsOf ls) ho ls (by omega) k4 ((jg ls).map MN.av) [vi 0] ((eL 1 ls).map vi) ((eL 2 ls).map vi) ((eL 3 ls).map vi) ls.length 0 2 q [] (by omega) (by omega) (by simp)
   -- F4 reference
   obtain⟨q2,rfl⟩:∃q2,m3=(q2+1)+4*ls.length:=⟨m3 - 1 - 4*ls.length,by omega⟩;have r1:=uP n ls (by omega) k4 ls.length 0 (q2+1) [] [] [] [] [] (by omega) (by simp) (by simp) (by simp) (by simp) (by simp);simp only[aW,bF]at r1;have r2:dN.l n (q2+1+4*ls.length) (.z21 0 (ls.map u7) [] [] [] [] [] [])=dN.l n q2 (.z31 [] ((eL 1 ls).map vi) ((eL 2 ls).map vi) ((eL 3 ls).map vi) ((0:Nat):Int) (ls.map u7) ((opsOf ls).map OP.av) [] ((jg ls).map MN.av)):=by
    refine cM r1 ?_;show dN.l n (q2+1) (.z21 ((ls.length:Nat):Int) (ls.map u7) _ _ _ _ _ _)=_;rw[dN.CY];unfold dN.qw;simp only[aj];rw[cV (by omega)];rfl
   have r3:=z_ (by omega:1001<=n) (opsOf ls) ho ls (by omega) k4 ((jg ls).map MN.av) [] ((eL 1 ls).map vi) ((eL 2 ls).map vi) ((eL 3 ls).map vi) ls.length 0 2 q2 [] (by omega) (by omega) (by simp);rw[aW]at p3 r3;have kp:jz.l n n (.z5 (bs T) 0 1 [])=dI.F n (ls.map th):=k2;have kr:dN.l n n (.z6 (bs T) 1 0 [])=dN.l n (q2+1+4*ls.length) (.z21 0 (ls.map u7) [] [] [] [] [] []):=k3;rw[kp,kr,p2,r2];cases hI:rO (opsOf ls) ls []with
   | inl x=>
    rw[hI]at p3 r3;exact⟨_,p3,r3,.inl ⟨wA _ _ _ _ hI,rfl,rfl,rfl⟩⟩
   | inr is=>
    rw[hI]at p3 r3;obtain⟨m1,g1,g2⟩:=p3;obtain⟨m2,g3,g4⟩:=r3;have hlen:=wz _ _ _ _ hI;rw[aJ,bO]at hlen;have Pt:=Aw _ _ _ _ k4 (λx hx=>by cases hx) hI;obtain⟨m1,rfl⟩:∃q,m1=q+2:=⟨m1 - 2,by omega⟩;obtain⟨m2,rfl⟩:∃q,m2=q+1:=⟨m2 - 1,by omega⟩;have e1:=MM hn ls (opsOf ls) is (jg ls) rfl rfl hlen Pt m1 (ls.map th) ls.length;have e2:=MK hn ls (opsOf ls) is (jg ls) rfl rfl hlen Pt m2 (ls.map u7);rw[aj]at e2;have aak:=BN 2 ls;refine⟨_,cM g2 e1,cM g4 e2,?_⟩;unfold Kt;by_cases h0:(gh (opsOf ls) is (jg ls)).2.2=0
    ·rw[ag h0];exact .inr ⟨_,_,_,rfl,⟨ls,k4,k5,k6,rfl,rfl,hI⟩,h0,by omega,by omega,by omega,Pt⟩
    ·rw[af h0];exact .inl ⟨h0,rfl,rfl,rfl⟩
 ·rw[cU (by omega),cU (by omega)];exact⟨_,rfl,rfl,.inl ⟨by decide,rfl,rfl,rfl⟩⟩
theorem DJ(hn:1000002<=n)(text:ByteArray):ml.F n text=some true:=by
 obtain⟨T,rfl⟩:∃T:List UInt8,text=bs T:=⟨text.data.toList,by cases text;rfl⟩;obtain⟨r,e1,e2,hr⟩:=DK hn T;have hs:gg.F n r.1 r.2.1 r.2.2.1 r.1 r.2.1 r.2.2.1=some true:=by
  rcases hr with⟨_,a,b,c⟩|⟨os,is,ms,rfl,h⟩
  ·rw[a,b,c];exact II hn
  ·exact yg hn os h.Uf.1 is h.Uf.2.1 h.Uf.2.2.2 ms h.Uf.2.2.1
 obtain⟨m,rfl⟩:∃m,n=m+1:=⟨n - 1,by omega⟩;have h4:ml.l (m+1) (m+1) .z4=some true:=rfl;unfold ml.F ml.e;rw[KM,ab,aI,cond_false,e1,e2,h4];simp only[ab,beq_self_eq_true,ak,hs];cases decide ((((bs T).size:Nat):Int)>1500)<;>cases decide ((((bs T).size:Nat):Int)<=6000)<;>cases decide ((((bs T).size:Nat):Int)>6100)<;>rfl
end
end Go.Proofs.YtnoldakbllfmnaaGreatDoor.Ev
end