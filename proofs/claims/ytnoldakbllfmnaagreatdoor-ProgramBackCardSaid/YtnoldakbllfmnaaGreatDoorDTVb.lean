import Derived.Test.YtnoldakbllfmnaaGreatDoorDTVa
import Derived.ChangeAgain
set_option linter.all false
noncomputable section
namespace Go.Proofs.Ev
open Go Go.RowKit
section
variable {R:Type} {P:Program} {G:eH} {o:Oper} {a:Act} {w w' : World} {W0:eC} {F0 U F:Nat->Prop} {id:Nat} {L L' : AV->Value->Prop} {K:AV->Mem->Option R} {r:R} {m:Mem} {μ:Mu} {S:List AV}
theorem Cb:∀i,(U i\/i=id)->U8 U id i:=by
 rintro i (hi|rfl)
 ·exact .inl hi
 ·exact .inr ⟨aJ _,by omega⟩
theorem yB{b o n off sz:Nat}{xs:List AV}{C:Array Value}{w:World}{F:Nat->Prop}(hs:∀x∈xs,x.cells.length=sz)(tJ:off<=xs.length)(zv:o+xs.length*sz<=C.size)
  (hr:∀j c,(df xs)[j]?=some c->Rel w F c (C.getD (o+j) undef)) :
  ∃olds:List Value,olds.length=(xs.drop off).length*sz/\(∀j v,olds[j]?=some v->v=C.getD (o+off*sz+j) undef/\o+off*sz+j<C.size)/\
   ∀j c,(df (xs.drop off))[j]?=some c->Rel w F c (olds.getD j undef)/\Rel w F c (C.getD (o+off*sz+j) undef):=by
 have hb:(xs.drop off).length=xs.length - off:=by simp
 have h1:off*sz<=xs.length*sz:=aV _ tJ;have h2:(xs.length - off)*sz+off*sz=xs.length*sz:=by rw[<-bG,Nat.sub_add_cancel tJ]
 refine⟨(List.range ((xs.drop off).length*sz)).map λj=>C.getD (o+off*sz+j) undef,by simp,?_,?_⟩
 ·intro j v hj;have eG:j<(xs.drop off).length*sz:=by have:=(aB.1 hj).1;simpa using this
  simp only[aL,List.getElem?_range eG,cz,aY]at hj;exact⟨hj.symm,by rw[hb]at eG;omega⟩
 ·intro j c hj;have xV : ∀x∈xs.drop off,x.cells.length=sz:=λx hx=>hs x (aW hx);have eG:=(aB.1 hj).1;rw[(dW sz _ xV).1]at eG;rw[fU sz off xs hs,bg]at hj;have:=hr _ c hj;rw[<-Nat.add_assoc]at this;refine⟨?_,this⟩;rw[ah,aL,List.getElem?_range eG];exact this
theorem lv{vs:List Value}{C:Array Value}{o j:Nat}(hj:j<vs.length)(hC:o+vs.length<=C.size):(j_ C o vs).getD (o+j) undef=vs.getD j undef:=by
 rw[oN vs C o j hj hC,ah,aP hj];rfl
theorem tZ{t u e:TypeId}{ei:TI}{x y:Operand}{c:Call}(hT:nr P e ei)(hd:P.underlying t=some (.slice e))(ho:o.op=.call c)(hc:c.callee=.builtin .append)(ha:c.args=#[x,y])(qY:c.argTypes=#[t,u])
  (h:de W0 F0 U m L w μ F) (hid:∀j,j<8->¬ U (id+j)) {j off:Nat} {xs ys:List AV} {news:List Value} (hb:ei.bytes<=4096)
  (hx:eB w F μ m U (.own j off none) (a.eval x)) (hj:m j=some (.row ei.flat ei.size xs))
  (hY:Yields P w F e ei.size ei.flat u (a.eval y) ys news) (hm:(xs.drop off).length+ys.length<=eR)
  (hK:K (.own id 0 none) ((m.fJ j none).fJ id (some (.row ei.flat ei.size (xs.drop off++ys))))=some r):j0 P o a w W0 F0 U id L K r:=by
 obtain⟨i,hi,_,jH,M_,z,hz,uR,MW⟩:=hT.iq w;obtain⟨_,hu,hp⟩:=hx;obtain⟨ad,cap,hv,jg,hlen,dT⟩:=hp _ _ xs hj;obtain⟨hs,lq,gE⟩:=h.j7 j _ hj;simp only[lenOf]at hv jg hlen;have Hd:(xs.drop off).length=xs.length - off:=by simp
 have tJ:off<=xs.length:=by omega
 have E6:=h.drop j;have tL:¬ U id:=hid 0 (by omega);have JH:∀x∈xs.drop off,x.cells.length=ei.size:=λx hx=>hs x (aW hx);have Ol:∀c∈df (xs.drop off),uB ei.flat c:=by
  intro c hc;simp only[df,aS]at hc;obtain⟨y,hy,hc⟩:=hc;exact lq c (by simp only[df,aS];exact⟨y,aW hy,hc⟩)
 have uV:∀x∈xs.drop off++ys,x.cells.length=ei.size:=by
  intro v hv;rcases aK.1 hv with hv|hv
  ·exact JH v hv
  ·exact hY.cells v hv
 have Ax:∀x∈df (xs.drop off++ys),uB ei.flat x:=by
  intro v hv;rw[fS]at hv;rcases aK.1 hv with hv|hv
  ·exact Ol v hv
  ·exact hY.ok v hv
 have M3:=hY.src.newsLen;rw[<-Hd]at hv jg
 -- nothing QZ there
 by_cases G3:ys.length=0
 ·have:ys=[]:=aT.1 G3;subst this;have R2:news=[]:=aT.1 (by rw[M3];simp);subst R2;rw[bf]at hK uV Ax;have eV:=hY.src.nothing t o.type i hd hi jH G3 ad (xs.drop off).length cap jg;have hex:=k9 ho hc ha qY (by rw[hv];exact eV);refine⟨.own id 0 none,_,_,w,.inl hex,hK,?_⟩;rcases gE with⟨uT,eN⟩|⟨b,o',C,f,eN,hh,zv,nG,hr⟩
  ·have E5:xs.drop off=[]:=by rw[uT];simp
   have OK:ad=none/\cap=0:=by
    rcases dT with dT|⟨b,_,_,_,dG,_⟩
    ·exact dT
    ·rw[eN]at dG;cases dG
   obtain⟨rfl,rfl⟩:=OK;refine⟨_,F,(E6.wF (L':=λy u=>L y u\/(y=.own id 0 none/\u=.slice none (xs.drop off).length 0)) (q:=none) tL E6.below (aJ _) (λ_ _ _=>rfl) (by intro _ _ _ h;cases h) ?_ ?_).wider Cb⟩
   ·exact⟨uV,Ax,.inl ⟨E5,by simp⟩⟩
   ·rintro y v (hy|⟨rfl,rfl⟩)
    ·exact .inl hy
    ·refine .inr ⟨λ_=>rfl,.inr rfl,λgk im mO hx=>?_⟩;rw[Mem.dx]at hx;cases hx;exact⟨none,0,by simp[lenOf],by simp[lenOf,E5],by simp[lenOf],.inl ⟨rfl,rfl⟩⟩
  ·have fc:=h.own j _ b o' C.size hj eN;refine⟨_,F,(E6.wF (L':=λy u=>L y u\/(y=.own id 0 none/\u=.slice ad (xs.drop off).length cap)) (q:=some (b,o'+off*ei.size,C.size)) tL E6.below (aJ _) (λ_ _ _=>rfl) ?_ ?_ ?_).wider Cb⟩
   ·intro b1 o1 n1 e1;cases e1;refine⟨fc.1,fc.2.1,fc.2.2,λi' y' o2 n2 nf ia=>?_⟩;by_cases e:i'=j
    ·subst e;rw[Mem.dx]at nf;cases nf
    ·rw[Mem.dk _ _ e]at nf;exact e (h.inj i' j y' _ b o2 n2 o' C.size nf hj ia eN)
   ·have h1:off*ei.size<=xs.length*ei.size:=aV _ tJ;have h2:(xs.length - off)*ei.size+off*ei.size=xs.length*ei.size:=by rw[<-bG,Nat.sub_add_cancel tJ]
    refine⟨uV,Ax,.inr ⟨b,o'+off*ei.size,C,f,by simp,hh,by rw[Hd];omega,nG,λk c hk=>?_⟩⟩;rw[fU ei.size off xs hs,bg]at hk;have:=hr _ c hk;rwa[<-Nat.add_assoc]at this
   ·rintro y v (hy|⟨rfl,rfl⟩)
    ·exact .inl hy
    ·refine .inr ⟨λ_=>rfl,.inr rfl,λgk im mO hx=>?_⟩;rw[Mem.dx]at hx;cases hx;refine⟨ad,cap,by simp[lenOf],by simpa[lenOf]using jg,by simp[lenOf],?_⟩;rcases dT with dT|⟨b',DJ,nn,xR,dG,rfl,AA,dT⟩
     ·exact .inl dT
     ·rw[eN]at dG;simp only[aY,bF]at dG;obtain⟨rfl,rfl,rfl⟩:=dG;refine .inr ⟨b,o'+off*ei.size,C.size,xR,by simp,rfl,AA,?_⟩;rcases dT with dT|⟨e1,e2⟩
      ·exact .inl dT
      ·refine .inr ⟨by rw[e1];simp,?_⟩;rw[bG]at e2;simp;omega
 ·by_cases vQ:(xs.drop off).length+ys.length<=cap
  ·-- there is room
   rcases dT with⟨rfl,rfl⟩|⟨b,o',nn,xR,eN,rfl,AA,dT⟩
   ·omega
   rcases dT with rfl|⟨rfl,D_⟩
   ·omega
   rcases gE with⟨_,dG⟩|⟨b',DJ,C,f,dG,hh,zv,nG,hr⟩
   ·rw[eN]at dG;cases dG
   rw[eN]at dG;simp only[aY,bF]at dG;obtain⟨rfl,rfl,rfl⟩:=dG;have fc:=h.own j _ b o' C.size hj eN;have P_:news.length=ys.length*ei.size:=M3;have UI:o'+off*ei.size+((xs.drop off).length*ei.size+news.length)<=C.size:=by
    have:=aV ei.size vQ;rw[bG]at this;rw[bG]at D_;omega
   have eV:=hY.src.room t o.type i hd hi jH b (o'+off*ei.size) (xs.drop off).length cap vQ
    (by intro k hk;rw[jH,cell_of hh (by omega)];rfl)
    (by
     intro k hk;rw[jH];have:=nG.at (o'+off*ei.size+(xs.drop off).length*ei.size+k) (by omega);have e:(xs.drop off).length*ei.size=(xs.length - off)*ei.size:=by rw[Hd]
     simp[World.frozen?,hh];intro hle;omega)
   have hex:=k9 ho hc ha qY (by rw[hv];exact eV);rw[jH]at hex;have hw:∀k,k≠b->(w.setCells b (o'+off*ei.size+(xs.drop off).length*ei.size) news).heap[k]?=w.heap[k]?:=λk hk=>eO b _ _ _ k hk;obtain⟨olds,NP,Ua,RC⟩:=yB (n:=0) (b:=b) hs tJ zv hr;refine⟨.own id 0 none,_,_,_,.inl hex,hK,_,F,(E6.wF (L':=λy u=>L y u\/(y=.own id 0 none/\u=.slice (some ⟨b,o'+off*ei.size,none⟩) ((xs.drop off).length+ys.length) cap)) (q:=some (b,o'+off*ei.size,C.size)) tL
    (gQ b _ _ _ h.below fc.1) (by rw[setCells_size];exact aJ _) (λk _ hk=>hw k (λe=>by subst e;exact hk _ _ rfl)) ?_ ?_ ?_).wider Cb⟩
   ·intro b1 o1 n1 e1;cases e1;refine⟨fc.1,by rw[setCells_size];exact fc.2.1,fc.2.2,λi' y' o2 n2 nf ia=>?_⟩;by_cases e:i'=j
    ·subst e;rw[Mem.dx]at nf;cases nf
    ·rw[Mem.dk _ _ e]at nf;exact e (h.inj i' j y' _ b o2 n2 o' C.size nf hj ia eN)
   ·refine⟨uV,Ax,.inr ⟨b,o'+off*ei.size,j_ C (o'+off*ei.size+(xs.drop off).length*ei.size) news,f,by simp[d_],gG b _ _ _ _ _ _ hh,?_,by rw[d_];exact nG,λk c hk=>?_⟩⟩
    ·rw[d_,ag,bG];omega
    ·have hF:∀{v},Rel w F c v->Rel (w.setCells b (o'+off*ei.size+(xs.drop off).length*ei.size) news) F c v:=λhv=>hv.mono (λ_ hb=>hb) (λk hk=>hw k (λe=>fc.2.2 (e ▸ hk)));have e1:=(dW ei.size _ JH).1;rw[fS]at hk;by_cases uU:k<(xs.drop off).length*ei.size
     ·rw[aN (by omega)]at hk;rw[gb _ _ _ _ (.inl (by omega))];exact hF (RC k c hk).2
     ·rw[aQ (by omega),e1]at hk;have eG:=(aB.1 hk).1;rw[(dW ei.size _ hY.cells).1]at eG;have:=lv (vs:=news) (C:=C) (o:=o'+off*ei.size+(xs.drop off).length*ei.size) (j:=k - (xs.drop off).length*ei.size) (by omega) (by omega);rw[show o'+off*ei.size+(xs.drop off).length*ei.size+(k - (xs.drop off).length*ei.size)=o'+off*ei.size+k by omega]at this;rw[this];exact hF (hY.rel _ c hk)
   ·rintro y v (hy|⟨rfl,rfl⟩)
    ·exact .inl hy
    ·refine .inr ⟨λ_=>rfl,.inr rfl,λgk im mO hx=>?_⟩;rw[Mem.dx]at hx;cases hx;refine⟨some ⟨b,o'+off*ei.size,none⟩,cap,by simp[lenOf],by simpa[lenOf]using vQ,by simp[lenOf],.inr ⟨b,o'+off*ei.size,C.size,⟨b,o'+off*ei.size,none⟩,by simp,rfl,rfl,.inr ⟨by simp,?_⟩⟩⟩;rw[bG]at D_;simp;omega
  ·-- there is none
   have zz:cap<(xs.drop off).length+ys.length:=by omega
   rcases gE with⟨uT,eN⟩|⟨b,o',C,f,eN,hh,zv,nG,hr⟩
   ·have E5:xs.drop off=[]:=by rw[uT];simp
    have OK:ad=none/\cap=0:=by
     rcases dT with dT|⟨b,_,_,_,dG,_⟩
     ·exact dT
     ·rw[eN]at dG;cases dG
    obtain⟨rfl,rfl⟩:=OK;exact jU hT hd ho hc ha qY E6 hid hb hv JH Ol (olds:=[]) (by rw[E5];simp) (by rw[E5];simp[df]) (run_firstCells_none _ _ _ _ _) hY (by omega) zz hm hK
   ·obtain⟨olds,NP,Ua,RC⟩:=yB (n:=0) (b:=b) hs tJ zv hr;refine jU hT hd ho hc ha qY E6 hid hb hv JH Ol NP (λk c hk=>(RC k c hk).1) ?_ hY (by omega) zz hm hK;rcases dT with⟨rfl,rfl⟩|⟨b',DJ,nn,xR,dG,rfl,AA,dT⟩
    ·have h0:(xs.drop off).length=0:=by omega
     have:olds=[]:=aT.1 (by rw[NP,h0];simp);subst this;exact run_firstCells_none _ _ _ _ _
    ·rw[eN]at dG;simp only[aY,bF]at dG;obtain⟨rfl,rfl,rfl⟩:=dG;refine run_firstCells_some _ _ _ _ _ _ _ NP (λk v hk=>?_);rcases dT with rfl|⟨rfl,D_⟩
     ·have h0:(xs.drop off).length=0:=by omega
      have:olds=[]:=aT.1 (by rw[NP,h0];simp);subst this;simp at hk
     ·obtain⟨e1,e2⟩:=Ua k v hk;rw[iz,e1];show w.cell? _=_;exact cell_of hh e2
theorem BO(hG:dK P G){c:Call}(ho:o.op=.call c)(hc:c.callee=.builtin .append)(h:de W0 F0 U m L w μ F)(hE:Env G S a L)(hid:∀j,j<8->¬ U (id+j))(hK:eU G o.op S m id K=some r) :
  j0 P o a w W0 F0 U id L K r:=by
 rw[ho]at hK;simp only[eU,hc]at hK;split at hK
 ·rename_i t u x y ht uS;have ha:c.args=#[x,y]:=by rw[<-uS]
  have qY:c.argTypes=#[t,u]:=by rw[<-ht]
  obtain⟨ti,ko,dY⟩:=cN hK;clear hK;obtain⟨ui,Xt,hK⟩:=cN dY;clear dY;obtain⟨d,hd,hk⟩:=(hG.ti t ti ko).rF;obtain⟨du,Sw,K0⟩:=(hG.ti u ui Xt).rF;split at hK
  ·rename_i e fv;rw[fv]at hk;cases d<;>simp[e8]at hk;subst hk;obtain⟨ei,qj,dY⟩:=cN hK;clear hK;have hT:=hG.ti _ ei qj;obtain⟨hb,hK⟩:=cV dY;clear dY;simp only[ae]at hb;have N_:=aD hb.2;have hb:=aD hb.1.1;have hx:=hE.rel h x;have hy:=hE.rel h y;have fin:∀(ys:List AV) (news:List Value),Yields P w F e ei.size ei.flat u (a.eval y) ys news->
     (match ev G S x with
      | .v (.slice none 0 0)=>bif decide (ys.length<=eR)then K (.own id 0 none) (m.fJ id (some (.row ei.flat ei.size ys)))else none
      | .own j off none=>cR (m j) fun
       | .row fl sz xs=>bif fl==ei.flat&&Nat.beq sz ei.size then
         bif decide ((jV off xs).length+ys.length<=eR)then K (.own id 0 none) ((m.fJ j none).fJ id (some (.row fl sz (jV off xs++ys))))else none
        else none
       | _=>none
      | _=>none)=some r->j0 P o a w W0 F0 U id L K r:=by
    intro ys news hY hK;generalize hX:ev G S x=X at hK hx;split at hK
    ·obtain⟨hm,hK⟩:=cV hK;have hm:ys.length<=eR:=by simpa using hm
     have hv:=(dF hx).1;by_cases h0:ys.length=0
     ·have:ys=[]:=aT.1 h0;subst this;have R2:news=[]:=aT.1 (by rw[hY.src.newsLen];simp);subst R2;obtain⟨i,hi,_,jH,_⟩:=hT.iq w;have eV:=hY.src.nothing t o.type i hd hi jH h0 none 0 0 (aJ _);have hex:=k9 ho hc ha qY (by rw[hv];exact eV);refine⟨.own id 0 none,_,_,w,.inl hex,hK,_,F,(h.wF (L':=λy u=>L y u\/(y=.own id 0 none/\u=.slice none 0 0)) (q:=none) (show ¬ U id from hid 0 (by omega)) h.below (aJ _) (λ_ _ _=>rfl) (by intro _ _ _ h;cases h) ?_ ?_).wider Cb⟩
      ·exact⟨by simp,by simp[df],.inl ⟨rfl,by simp⟩⟩
      ·rintro y v (hy|⟨rfl,rfl⟩)
       ·exact .inl hy
       ·refine .inr ⟨λ_=>rfl,.inr rfl,λgk im mO hx=>?_⟩;rw[Mem.dx]at hx;cases hx;exact⟨none,0,by simp[lenOf],by simp[lenOf],by simp[lenOf],.inl ⟨rfl,rfl⟩⟩
     ·exact jU hT hd ho hc ha qY h hid hb (base:=none) (xs:=[]) (cap:=0) (olds:=[]) hv (by simp) (by simp[df]) (by simp) (by simp[df]) (run_firstCells_none _ _ _ _ _) hY (by omega) (by simp;omega) (by simpa using hm) hK
    ·rename_i j off;obtain⟨bl,hj,dY⟩:=cN hK;clear hK;cases bl with
     | box _ _=>cases dY
     | row fl sz xs=>
      simp only at dY;obtain⟨zB,hK⟩:=cV dY;clear dY;rw[ae]at zB;have e1:fl=ei.flat:=by simpa using zB.1
      have e2:=aj zB.2;subst e1;subst e2;obtain⟨hm,dY⟩:=cV hK;clear hK;rw[iR]at hm dY;exact tZ hT hd ho hc ha qY h hid hb hx hj hY (by simpa using hm) dY
    ·cases hK
   split at hK
   ·rename_i G2;rw[G2]at K0;cases du<;>simp[e8]at K0;obtain⟨h1,dY⟩:=cV hK;clear hK;obtain⟨s,hs,hK⟩:=gp dY;rw[hs]at hy;exact fin _ _ (by rw[(dF hy).1];exact uH (e:=e) Sw (aj h1)) hK
   ·rename_i e' G2;rw[G2]at K0;cases du<;>simp[e8]at K0;obtain⟨gk,sz,ys,news,hK,hY⟩:=wL (e:=e) Sw h hy hK;exact fin _ _ hY hK
   ·rename_i kk G2;rw[G2]at K0;cases du<;>simp[e8]at K0;obtain⟨n,hn,dY⟩:=gr hK;clear hK;obtain⟨vS,hK⟩:=cV dY;rw[ae,az,az]at vS;obtain⟨k,rfl⟩:=Int.eq_ofNat_of_zero_le vS.1;have XU:k<=1000000000:=by have:=vS.2;simp[eR]at this;omega
    rw[hn]at hy;obtain⟨news,hY⟩:=wK (w:=w) (F:=F) Sw hT hb N_ k XU;exact fin _ _ (by rw[(dF hy).1];exact hY) hK
   ·cases hK
  ·cases hK
 ·cases hK
end
section
variable {R:Type} {P:Program} {G:eH} {o:Oper} {a:Act} {w w' : World} {W0:eC} {F0 U F:Nat->Prop} {id:Nat} {L L' : AV->Value->Prop} {K:AV->Mem->Option R} {r:R} {m:Mem} {μ:Mu} {S:List AV}
theorem zS{ei:TI}(h:de W0 F0 U m L w μ F)(hE:Env G S a L)(I:List Nat):∀(parts:List (Nat × Operand)) (i0:Nat) (C:Array Value) (xs:List AV),
  tv i0 (parts.map fun(i,x)=>(i,ev G S x))=true->kB m ei (parts.map fun(_,x)=>ev G S x)=some xs->(∀i∈(parts.map fun(_,x)=>ev G S x).flatMap h_,i∈I)->
  (i0+parts.length)*ei.size<=C.size->
  ∃C',Instr.fill (λi=>some (i*ei.size,ei.size)) C (parts.map fun(i,x)=>(i,a.eval x))=some C'/\C'.size=C.size/\(∀k,k<i0*ei.size->C'.getD k undef=C.getD k undef)/\
   xs.length=parts.length/\(∀x∈xs,x.cells.length=ei.size)/\(∀c∈df xs,uB ei.flat c)/\
   ∀j c,(df xs)[j]?=some c->Rel w (λb=>F b\/eh μ m I b) c (C'.getD (i0*ei.size+j) undef)
 | [],i0,C,xs,hl,hk,hI,hC=>by
  simp[kB]at hk;subst hk;exact⟨C,rfl,rfl,λ_ _=>rfl,rfl,by simp,by simp[df],by simp[df]⟩
 | (i,x)::parts,i0,C,xs,hl,hk,hI,hC=>by
  simp only[bd,tv,ae]at hl;obtain⟨hi,hl⟩:=hl;have hi:=aj hi;subst hi;simp only[bd,kB]at hk;split at hk
  ·rename_i y s hy hs;cases hk;have hX:=hE.rel h x;obtain⟨k1,k2,k3,k4⟩:=vM h hX hy I (λj hj=>hI j (by simp only[bd,bC,aK];exact .inl hj));obtain⟨h1,h2,h3⟩:=vp k1 k3;have xp:(a.eval x).cells.toList.length=ei.size:=by rw[bo,h1,k2]
   have jH:(a.eval x).cells.size=ei.size:=by rw[h1,k2]
   simp only[aw]at hC;have Yn:(i0+1+parts.length)*ei.size<=C.size:=by rw[show i0+1+parts.length=i0+(parts.length+1) by omega];exact hC
   have Zs:i0*ei.size+ei.size<=C.size:=by
    have:(i0+1)*ei.size<=(i0+1+parts.length)*ei.size:=aV _ (by omega);rw[cd]at this;omega
   obtain⟨C',e1,e2,e3,e4,e5,e6,e7⟩:=zS h hE I parts (i0+1) (j_ C (i0*ei.size) (a.eval x).cells.toList) s hl hs (λj hj=>hI j (by simp only[bd,bC,aK];exact .inr hj)) (by rw[d_];exact Yn);have lq:df (y::s)=y.cells++df s:=by simp[df]
   refine⟨C',?_,by rw[e2,d_],?_,by simp[e4],?_,?_,?_⟩
   ·simp only[bd,Instr.fill];rw[if_neg (by simp[jH];omega),nj];exact e1
   ·intro k hk;rw[e3 k (by rw[cd];omega),gb _ _ _ _ (.inl hk)]
   ·intro z hz;rcases br.1 hz with rfl|hz
    ·exact k2
    ·exact e5 z hz
   ·intro c hc;rw[lq]at hc;rcases aK.1 hc with hc|hc
    ·exact⟨ay.1 k3 c hc,λhf=>k4 hf c hc⟩
    ·exact e6 c hc
   ·intro j c hj;rw[lq]at hj;by_cases eG:j<ei.size
    ·rw[aN (by omega)]at hj;have:=h2 j c hj;rw[e3 _ (by rw[cd];omega)];have e:=lv (vs:=(a.eval x).cells.toList) (C:=C) (o:=i0*ei.size) (j:=j) (by omega) (by omega);rw[e];have e' : (a.eval x).cells.toList.getD j undef=(a.eval x).cells.getD j undef:=by simp[ah,aI]
     rw[e'];exact this
    ·rw[aQ (by omega),k2]at hj;have:=e7 _ c hj;rw[show(i0+1)*ei.size+(j - ei.size)=i0*ei.size+j by rw[cd];omega]at this;exact this
  ·cases hk
theorem zT{ei:TI}(h1:ei.size=1)(h:de W0 F0 U m L w μ F)(hE:Env G S a L):∀(parts:List (Nat × Operand)) (i0:Nat) (C:Array Value),
  tv i0 (parts.map fun(i,x)=>(i,ev G S x))=true->(parts.map fun(_,x)=>ev G S x).all AV.Uc=true->i0+parts.length<=C.size->
  ∃C',Instr.fill (λi=>some (i*ei.size,ei.size)) C (parts.map fun(i,x)=>(i,a.eval x))=some C'/\C'.size=C.size/\(∀k,k<i0->C'.getD k undef=C.getD k undef)/\
   ∀j c,(parts.map fun(_,x)=>ev G S x)[j]?=some c->eS w F μ m U c (C'.getD (i0+j) undef)
 | [],i0,C,hl,hk,hC=>⟨C,rfl,rfl,λ_ _=>rfl,by simp⟩
 | (i,x)::parts,i0,C,hl,hk,hC=>by
  simp only[bd,tv,ae]at hl;obtain⟨hi,hl⟩:=hl;have hi:=aj hi;subst hi;simp only[bd,bE,ae]at hk;have fZ:(ev G S x).cells=[ev G S x]/\(ev G S x).nD=true:=by
   have:=hk.1;cases hX:ev G S x<;>rw[hX]at this<;>first|(cases this;done)|exact⟨rfl,rfl⟩
  obtain⟨q1,q2,_⟩:=nJ (hE.rel h x) (by rw[fZ.1];simp[fZ.2]);rw[fZ.1]at q1 q2;have q1:(a.eval x).cells.size=1:=q1;have q3:=q2 0 _ rfl;have xp:(a.eval x).cells.toList.length=1:=by rw[bo,q1]
  simp only[aw]at hC;obtain⟨C',e1,e2,e3,e4⟩:=zT h1 h hE parts (i0+1) (j_ C i0 (a.eval x).cells.toList) hl hk.2 (by rw[d_];omega);refine⟨C',?_,by rw[e2,d_],λk hk=>?_,λj c hj=>?_⟩
  ·simp only[bd,Instr.fill];rw[if_neg (by simp[q1,h1];omega),nj,h1,Nat.mul_one];rw[h1]at e1;exact e1
  ·rw[e3 k (by omega),gb _ _ _ _ (.inl hk)]
  ·cases j with
   | zero=>
    simp only[bd,List.getElem?_cons_zero,aY]at hj;subst hj;rw[e3 _ (by omega)];have e:=lv (vs:=(a.eval x).cells.toList) (C:=C) (o:=i0) (j:=0) (by omega) (by omega);rw[e];have e' : (a.eval x).cells.toList.getD 0 undef=(a.eval x).cells.getD 0 undef:=by simp[ah,aI]
    rw[e'];exact q3
   | succ j=>
    have:=e4 j c (by simpa using hj);rw[show i0+(j+1)=i0+1+j by omega];exact this
theorem tY(hG:dK P G){t:TypeId}{len:Nat}{parts:Array (Nat × Operand)}(ho:o.op=.buildSlice t len parts)(h:de W0 F0 U m L w μ F)(hE:Env G S a L)(hid:∀j,j<8->¬ U (id+j))(hK:eU G o.op S m id K=some r) :
  j0 P o a w W0 F0 U id L K r:=by
 rw[ho]at hK;simp only[eU]at hK;obtain⟨ti,ko,dY⟩:=cN hK;clear hK;obtain⟨d,hd,hk⟩:=(hG.ti t ti ko).rF;split at dY
 ·rename_i e fv;rw[fv]at hk;cases d<;>simp[e8]at hk;subst hk;obtain⟨ei,qj,hK⟩:=cN dY;clear dY;have hT:=hG.ti _ ei qj;cases Uu:rR ei.kd with
  | true=>
   rw[Uu,ak]at hK;obtain⟨hc,dY⟩:=cV hK;clear hK;simp only[ae]at hc;obtain⟨⟨⟨⟨c1,c2⟩,c3⟩,c4⟩,c5⟩:=hc;have c1:=aj c1;have c3:=aD c3;have c4:=aj c4;obtain⟨i,hi,_,jH,M_,z,hz,uR,MW⟩:=hT.iq w;have pI:parts.toList.length=len:=by rw[bo,c1]
   have go:∀C:Array Value,C.size=len*ei.size->(∀C',Instr.fill (λi=>some (i*ei.size,ei.size)) C (parts.toList.map fun(i,x)=>(i,a.eval x))=some C'->
     (Instr.buildSlice t len (parts.map fun(i,x)=>(i,a.eval x))).run P w=.ok (.slice (some ⟨w.heap.size,0,none⟩) len len) (w.alloc (.cells C' e)))->j0 P o a w W0 F0 U id L K r:=by
    intro C hC eV;obtain⟨C',e1,e2,e3,e4⟩:=zT c4 h hE parts.toList 0 C c2 c5 (by rw[pI,hC,c4];omega);have eV:=eV C' e1;have UA:(parts.toList.map fun(_,x)=>ev G S x).length=len:=by rw[af,pI]
    refine .bs (C:=C') (t:=e) h hid (by rw[UA];simp[execOp,ho,eV]) (by rw[UA,e2,hC,c4];omega) (λj c hj=>by have:=e4 j c hj;rw[b6]at this;exact this) dY
   by_cases h0:len*ei.size=0
   ·refine go #[] (by simp[h0]) (λC' JK=>?_);simp[Instr.buildSlice,bx hd,sizeOf,typeInfo,hi,jH,h0,JK,newRow,Array.range_zero']
   ·refine go (madeCells z.cells (len*ei.size)) (size_madeCells _ _) (λC' JK=>?_);have:¬ (16777216<len*ei.size):=by omega
    simp only[madeCells]at JK;simp[Instr.buildSlice,bx hd,sizeOf,typeInfo,zeroValue,hi,hz,jH,this,h0,JK,newRow]
  | false=>
  rw[Uu,cond_false]at hK;obtain⟨hc,dY⟩:=cV hK;clear hK;simp only[ae]at hc;obtain⟨⟨⟨c1,c2⟩,c3⟩,c4⟩:=hc;have c1:=aj c1;have c3:=aD c3;obtain⟨xs,uS,hK⟩:=cN dY;clear dY;obtain⟨i,hi,_,jH,M_,z,hz,uR,MW⟩:=hT.iq w;have pI:parts.toList.length=len:=by rw[bo,c1]
  obtain⟨I,hI⟩:∃I,I=(parts.toList.map fun(_,x)=>ev G S x).flatMap h_:=⟨_,rfl⟩;have go:∀C:Array Value,C.size=len*ei.size->(∀C',Instr.fill (λi=>some (i*ei.size,ei.size)) C (parts.toList.map fun(i,x)=>(i,a.eval x))=some C'->
    (Instr.buildSlice t len (parts.map fun(i,x)=>(i,a.eval x))).run P w=.ok (.slice (some ⟨w.heap.size,0,none⟩) len len) (w.alloc (.cells C' e)))->j0 P o a w W0 F0 U id L K r:=by
   intro C hC eV;obtain⟨C',e1,e2,e3,e4,e5,e6,e7⟩:=zS h hE I parts.toList 0 C xs c2 uS (λj hj=>by rw[hI];exact hj) (by rw[pI,hC];simp);have eV:=eV C' e1;rw[<-hI]at hK;refine .row (C:=C') (t:=e) (ht:=hT.tid) (f:=(0,0)) (cap:=len) (h.freeze I) hid (by rw[e4,pI];simp[execOp,ho,eV]) (jL w _) (iM w _) (.inl rfl) e5 e6 (by omega) (by rw[e2,hC];exact aJ _) (λj c hj=>by simpa using e7 j c hj) hK
  by_cases h0:len*ei.size=0
  ·refine go #[] (by simp[h0]) (λC' JK=>?_);simp[Instr.buildSlice,bx hd,sizeOf,typeInfo,hi,jH,h0,JK,newRow,Array.range_zero']
  ·refine go (madeCells z.cells (len*ei.size)) (size_madeCells _ _) (λC' JK=>?_);have:¬ (16777216<len*ei.size):=by omega
   simp only[madeCells]at JK;simp[Instr.buildSlice,bx hd,sizeOf,typeInfo,zeroValue,hi,hz,jH,this,h0,JK,newRow]
 ·cases dY
theorem Mem.sv{m:Mem}{j:Nat}{x:oK}(h:m j=some x):m.fJ j (some x)=m:=by
 funext i;by_cases e:i=j
 ·subst e;rw[Mem.dx,h]
 ·rw[Mem.dk _ _ e]
theorem Es(hG:dK P G){c:Call}(ho:o.op=.call c)(hc:c.callee=.builtin .clear)(h:de W0 F0 U m L w μ F)(hE:Env G S a L)(hK:eU G o.op S m id K=some r) :
  j0 P o a w W0 F0 U id L K r:=by
 rw[ho]at hK;simp only[eU,hc]at hK;split at hK
 ·rename_i t x ht uS;have ha:c.args=#[x]:=by rw[<-uS]
  have qY:c.argTypes=#[t]:=by rw[<-ht]
  obtain⟨ti,ko,dY⟩:=cN hK;clear hK;obtain⟨d,hd,hk⟩:=(hG.ti t ti ko).rF;split at dY
  ·rename_i e fv;rw[fv]at hk;cases d<;>simp[e8]at hk;subst hk;obtain⟨ei,qj,hK⟩:=cN dY;clear dY;have hT:=hG.ti _ ei qj;have hx:=hE.rel h x;generalize hX:ev G S x=X at hK hx;split at hK
   ·rename_i j off l;obtain⟨bl,hj,dY⟩:=cN hK;clear hK;cases bl with
    | box _ _=>cases dY
    | row fl sz xs=>
     simp only at dY;obtain⟨Jx,hK⟩:=cV dY;clear dY;have Jx:=aj Jx;subst Jx;obtain⟨i,hi,_,jH,M_,z,hz,uR,MW⟩:=hT.iq w;obtain⟨_,hu,hp⟩:=hx;obtain⟨ad,cap,hv,jg,hlen,dT⟩:=hp _ _ xs hj;obtain⟨hs,lq,gE⟩:=h.j7 j _ hj;change K .undef (m.fJ j (some (.row fl ei.size (xs.take off++List.replicate (lenOf xs.length off l) ei.AH++xs.drop (lenOf xs.length off l+off)))))=some r at hK;generalize hn:lenOf xs.length off l=n at *;have Is:z.cells.size=ei.size:=by rw[<-bo,uR,hT.Kp]
     have ex:∀w',(Builtin.clear_ #[t] o.type #[a.eval x]).run P w=.ok (.tuple #[]) w'->(execOp a.eval o).run P w=.ok (.value (.tuple #[])) w':=by
      intro w' hr;simp[execOp,ho,resolve,hc,ha,qY,invoke,builtin,hr]
     by_cases Ux:n=0
     ·subst Ux;have e1:xs.take off++List.replicate 0 ei.AH++xs.drop (0+off)=xs:=by simp
      rw[e1,Mem.sv hj]at hK;refine .calc h (v:=.tuple #[]) (ex w ?_) hK ⟨λh=>by simp[AV.nD]at h,.undef _⟩
      rw[hv];cases ad<;>simp[Builtin.clear_,bx hd]
     ·rcases dT with⟨rfl,rfl⟩|⟨b,o',nn,xR,eN,rfl,AA,dT⟩
      ·omega
      rcases dT with rfl|⟨rfl,D_⟩
      ·omega
      rcases gE with⟨_,dG⟩|⟨b',DJ,C,f,dG,hh,zv,nG,hr⟩
      ·rw[eN]at dG;cases dG
      rw[eN]at dG;simp only[aY,bF]at dG;obtain⟨rfl,rfl,rfl⟩:=dG;have fc:=h.own j _ b o' C.size hj eN;have Zg:(Builtin.zeroCells z.cells n).toList.length=n*ei.size:=by rw[bo,size_zeroCells,Is]
      have R9:o'+off*ei.size+n*ei.size<=C.size:=by
       have:=aV ei.size hlen;rw[bG]at this;omega
      have KR:∀k,k<n*ei.size->∃v,ei.zero[k % ei.size]?=some v/\(Builtin.zeroCells z.cells n).toList[k]?=some v:=by
       intro k hk;have h0:0<ei.size:=by
        rcases Nat.eq_zero_or_pos ei.size with h|h
        ·rw[h]at hk;omega
        ·exact h
       have hm:=Nat.mod_lt k h0;have eG:k % ei.size<z.cells.size:=by omega
       refine⟨z.cells[k % ei.size],by rw[<-uR];simp[eG],?_⟩;have h3:z.cells[k % ei.size]! = z.cells[k % ei.size]:=by rw[getElem!_def,Array.getElem?_eq_getElem eG]
       simp[Builtin.zeroCells,Is,hk,h3]
      have G0:∀v∈(Builtin.zeroCells z.cells n).toList,v.oneCell'=true:=by
       intro v hv;obtain⟨k,hk,rfl⟩:=List.getElem_of_mem hv;obtain⟨v',D1,MY⟩:=KR k (by omega);rw[aP hk]at MY;cases MY;rw[jE];exact ay.1 hT.w7 _ (aO D1)
      have rq:=run_storeCells_cells (P:=P) b (o'+off*ei.size) (Builtin.zeroCells z.cells n).toList 0 w
       (by intro k hk;rw[bQ,cell_of hh (by omega)];rfl)
       (by
        intro k hk;have:=nG.at (o'+off*ei.size+0+k) (by omega);simp[World.frozen?,hh];intro hle;simp only[bQ]at this;omega)
       G0
      rw[bQ]at rq;have hw:∀k,k≠b->(w.setCells b (o'+off*ei.size) (Builtin.zeroCells z.cells n).toList).heap[k]?=w.heap[k]?:=λk hk=>eO b _ _ _ k hk;have DZ:ei.AH.cells.length=ei.size:=by rw[jn hT];simp[TI.qy,hT.Kp]
      have tJ:off<=xs.length:=by omega
      have uV:∀x∈xs.take off++List.replicate n ei.AH++xs.drop (n+off),x.cells.length=ei.size:=by
       intro v hv;rcases aK.1 hv with hv|hv
       ·rcases aK.1 hv with hv|hv
        ·exact hs v (aR hv)
        ·rw[(bT.1 hv).2];exact DZ
       ·exact hs v (aW hv)
      have Ot:(xs.take off++List.replicate n ei.AH++xs.drop (n+off)).length=xs.length:=by simp;omega
      have hinv:=h.store (w':=w.setCells b (o'+off*ei.size) (Builtin.zeroCells z.cells n).toList) hj eN (x':=.row fl ei.size (xs.take off++List.replicate n ei.AH++xs.drop (n+off))) ⟨rfl,Ot⟩
       (gQ b _ _ _ h.below fc.1) (setCells_size b _ _ _) hw ?_
      ·refine⟨.undef,_,.tuple #[],w.setCells b (o'+off*ei.size) (Builtin.zeroCells z.cells n).toList,.inl (ex _ ?_),hK,μ,F,?_⟩
       ·rw[hv];cases n with
        | zero=>exact absurd rfl Ux
        | succ n=>simp[Builtin.clear_,bx hd,zeroValue,typeInfo,hi,hz,rq]
       ·have h':=hinv.wider (U':=U8 U id) (λi hi=>.inl hi);exact{ h' with
         dB:=by
          rintro y u (hy|⟨rfl,rfl⟩)
          ·exact h'.dB y u hy
          ·exact⟨λh=>by simp[AV.nD]at h,.undef _⟩ }
      ·refine⟨uV,?_,.inr ⟨b,o',j_ C (o'+off*ei.size) (Builtin.zeroCells z.cells n).toList,f,by rw[d_];exact eN,gG b _ _ _ _ _ _ hh,by rw[d_,Ot];exact zv,by rw[d_];exact nG,?_⟩⟩
       ·intro v hv;simp only[df,aS]at hv;obtain⟨u,hu,hv⟩:=hv;rcases aK.1 hu with hu|hu
        ·rcases aK.1 hu with hu|hu
         ·exact lq v (by simp only[df,aS];exact⟨u,aR hu,hv⟩)
         ·rw[(bT.1 hu).2]at hv;exact wI hT v hv
        ·exact lq v (by simp only[df,aS];exact⟨u,aW hu,hv⟩)
       ·intro k q hk;have hF:∀{v},Rel w F q v->Rel (w.setCells b (o'+off*ei.size) (Builtin.zeroCells z.cells n).toList) F q v:=λhv=>hv.mono (λ_ hb=>hb) (λk hk=>hw k (λe=>fc.2.2 (e ▸ hk)));have e1:(df (xs.take off)).length=off*ei.size:=by rw[(dW ei.size _ (λx hx=>hs x (aR hx))).1,bu,Nat.min_eq_left tJ]
        have e2:(df (List.replicate n ei.AH)).length=n*ei.size:=by rw[(dW ei.size _ (λx hx=>by rw[(bT.1 hx).2];exact DZ)).1];simp
        rw[fS,fS]at hk;by_cases uU:k<off*ei.size
        ·rw[aN (by rw[ag];omega),aN (by omega)]at hk;rw[gb _ _ _ _ (.inl (by omega))];exact hF (hr k q (fg ei.size off xs k q hk))
        ·by_cases tK:k<off*ei.size+n*ei.size
         ·rw[aN (by rw[ag];omega),aQ (by omega),e1]at hk;have L7:=tR hk;rw[DZ,jn hT]at L7;simp only[TI.qy,aL,aA]at L7;obtain⟨v,D1,rfl⟩:=L7;obtain⟨v',MY,Xr⟩:=KR (k - off*ei.size) (by omega);rw[D1]at MY;cases MY;have:=lv (vs:=(Builtin.zeroCells z.cells n).toList) (C:=C) (o:=o'+off*ei.size) (j:=k - off*ei.size) (by omega) (by omega);rw[show o'+off*ei.size+(k - off*ei.size)=o'+k by omega,ah,Xr]at this;rw[this];exact .v _ (ay.1 hT.w7 _ (aO D1))
         ·rw[aQ (by rw[ag];omega),ag,e1,e2,fU ei.size _ xs hs,bg]at hk;rw[gb _ _ _ _ (.inr (by omega))];have:(n+off)*ei.size+(k - (off*ei.size+n*ei.size))=k:=by rw[bG];omega
          rw[this]at hk;exact hF (hr k q hk)
   ·cases hK
  ·cases dY
 ·cases hK
theorem Ka{x:AV}{v:Value}{K:Fl->Nat->List AV->Option R}(h:de W0 F0 U m L w μ F)(hx:eB w F μ m U x v)(hK:ig m x K=some r) :
  ∃fl sz ys,K fl sz ys=some r/\(∀y∈ys,y.cells.length=sz)/\(∀c∈df ys,uB fl c)/\
   ((ys=[]/\∃c,v=.slice none 0 c)\/∃ad cap,∃f:Nat->Value,v=.slice (some ad) ys.length cap/\(∀j,j<(df ys).length->w.cell? (ad.add j)=some (f j))/\∀j c,(df ys)[j]?=some c->Rel w F c (f j)):=by
 unfold ig at hK;split at hK
 ·have:=(dF hx).1;subst this;exact⟨_,_,_,hK,by simp,by simp[df],.inl ⟨rfl,0,rfl⟩⟩
 ·rename_i gk sz xs;obtain⟨_,hx⟩:=hx;cases hx with
  | uL=>exact⟨_,_,_,hK,by simp,by simp[df],.inl ⟨rfl,0,rfl⟩⟩
  | sl _ _ _ ad cap f hF Mf hs hf jl hr=>exact⟨_,_,_,hK,hs,hf,.inr ⟨ad,cap,f,rfl,jl,hr⟩⟩
 ·rename_i j off l;split at hK
  ·rename_i gk sz xs hm;obtain⟨_,L3,hx⟩:=hx;obtain⟨ad,cap,rfl,jg,hlen,hp⟩:=hx gk sz xs hm;obtain⟨hs,lq,gE⟩:=h.j7 j _ hm;have qe:=lD off l xs;generalize hn:lenOf xs.length off l=n at *;generalize hY:rowOf off l xs=ys at *;have hl:ys.length=n:=by rw[qe];simp;omega
   have xV : ∀x∈ys,x.cells.length=sz:=λx hx=>hs x (aW (aR (by rwa[qe]at hx)));have xq : ∀x∈df ys,uB gk x:=by
    intro x hx;rw[qe]at hx;simp only[df,aS]at hx;obtain⟨y,hy,hx⟩:=hx;exact lq x (by simp only[df,aS];exact⟨y,aW (aR hy),hx⟩)
   rcases hp with⟨rfl,rfl⟩|⟨b,o,nn,ad,eN,rfl,hb,dT⟩
   ·have h0:n=0:=by omega
    subst h0;have:ys=[]:=aT.1 hl;subst this;exact⟨_,_,_,hK,by simp,by simp[df],.inl ⟨rfl,0,rfl⟩⟩
   ·by_cases h0:n=0
    ·subst h0;have:ys=[]:=aT.1 hl;subst this;exact⟨_,_,_,hK,by simp,by simp[df],.inr ⟨ad,cap,λ_=>undef,rfl,by simp[df],by simp[df]⟩⟩
    ·rcases dT with rfl|⟨rfl,D_⟩
     ·omega
     ·rcases gE with⟨rfl,dG⟩|⟨b',o',C,f,dG,hh,hC,nG,hr⟩
      ·rw[eN]at dG;cases dG
      ·rw[eN]at dG;simp only[aY,bF]at dG;obtain⟨rfl,rfl,rfl⟩:=dG;refine⟨_,_,_,hK,xV,xq,.inr ⟨⟨b,o+off*sz,none⟩,cap,λj=>C.getD (o+(off*sz+j)) undef,by rw[hl],λj hj=>?_,λj c hj=>?_⟩⟩
       ·rw[(dW sz _ xV).1,hl]at hj;rw[iz];have h1:(off+n)*sz<=xs.length*sz:=aV _ hlen;rw[bG]at h1;rw[show o+off*sz+j=o+(off*sz+j) by omega];exact cell_of hh (by omega)
       ·rw[qe]at hj;have hj:=fg sz n _ j c hj;rw[fU sz off xs hs,bg]at hj;exact hr _ c hj
  ·cases hK
 ·cases hK
theorem HJ(hG:dK P G){c:Call}(ho:o.op=.call c)(hc:c.callee=.builtin .copy)(h:de W0 F0 U m L w μ F)(hE:Env G S a L)(hK:eU G o.op S m id K=some r) :
  j0 P o a w W0 F0 U id L K r:=by
 rw[ho]at hK;simp only[eU,hc]at hK;split at hK
 ·rename_i t u x y ht uS;have ha:c.args=#[x,y]:=by rw[<-uS]
  have qY:c.argTypes=#[t,u]:=by rw[<-ht]
  obtain⟨ti,ko,dY⟩:=cN hK;clear hK;obtain⟨d,hd,hk⟩:=(hG.ti t ti ko).rF;split at dY
  ·rename_i e fv;rw[fv]at hk;cases d<;>simp[e8]at hk;subst hk;obtain⟨ei,qj,hK⟩:=cN dY;clear dY;have hT:=hG.ti _ ei qj;have hx:=hE.rel h x;have hy:=hE.rel h y;generalize hX:ev G S x=X at hK hx;split at hK
   ·rename_i j off l;obtain⟨bl,hj,dY⟩:=cN hK;clear hK;cases bl with
    | box _ _=>cases dY
    | row fl sz xs=>
     simp only at dY;obtain⟨Jx,hK⟩:=cV dY;clear dY;have Jx:=aj Jx;subst Jx;obtain⟨gk,im,ys,dY,qe,L1,P4⟩:=Ka h hy hK;clear hK;obtain⟨zB,hK⟩:=cV dY;clear dY;rw[ae]at zB;have Hg:=aj zB.2;have SD:gk=fl:=by simpa using zB.1
     subst Hg;subst SD;obtain⟨_,hu,hp⟩:=hx;obtain⟨ad,cap,hv,jg,hlen,dT⟩:=hp _ _ xs hj;obtain⟨hs,lq,gE⟩:=h.j7 j _ hj;generalize hn:lenOf xs.length off l=n at *;generalize Zm:min n ys.length=k at *;have XR:k<=n:=by omega
     have UB:k<=ys.length:=by omega
     have ex:∀w' v,(Builtin.copy_ #[t,u] o.type #[a.eval x,a.eval y]).run P w=.ok v w'->(execOp a.eval o).run P w=.ok (.value v) w':=by
      intro w' v hr;simp[execOp,ho,resolve,hc,ha,qY,invoke,builtin,hr]
     have UC:Nat.min ys.length n=k:=by show min ys.length n=k;omega
     have RV:=hT.iY w;by_cases G3:k=0
     ·subst G3;have e1:xs.take off++ys.take 0++xs.drop (0+off)=xs:=by simp
      rw[e1,Mem.sv hj]at hK;refine .calc h (v:=goInt 0) (ex w _ ?_) hK ⟨λ_=>rfl,.v _ rfl⟩
      rw[hv];rcases P4 with⟨rfl,q,e2⟩|⟨Qs,Ty,f,e2,_,_⟩
      ·rw[e2];cases ad<;>simp[Builtin.copy_,bx hd,Builtin.lenOf,Builtin.firstCells,RV,storeCells]
      ·rw[e2];have R_:(loadCells Qs 0).run P w=.ok #[] w:=rfl;cases ad<;>simp[Builtin.copy_,bx hd,Builtin.lenOf,Builtin.firstCells,RV,storeCells,R_,UC]
     ·rcases P4 with⟨rfl,q,e2⟩|⟨Qs,Ty,f,e2,jl,lh⟩
      ·simp at UB;omega
      rcases dT with⟨rfl,rfl⟩|⟨b,o',nn,xR,eN,rfl,AA,dT⟩
      ·omega
      rcases dT with rfl|⟨rfl,D_⟩
      ·omega
      rcases gE with⟨_,dG⟩|⟨b',DJ,C,ff,dG,hh,zv,nG,hr⟩
      ·rw[eN]at dG;cases dG
      rw[eN]at dG;simp only[aY,bF]at dG;obtain⟨rfl,rfl,rfl⟩:=dG;have fc:=h.own j _ b o' C.size hj eN;have Zo:=(dW ei.size _ qe).1;have OD:∀q,q<k*ei.size->q<(df ys).length:=by
       intro q hq;have:=aV ei.size UB;omega
      obtain⟨cs,uV⟩:∃cs,cs=(List.range (k*ei.size)).map f:=⟨_,rfl⟩;have fZ:cs.length=k*ei.size:=by rw[uV];simp
      have SC:∀q,q<k*ei.size->cs[q]?=some (f q):=by intro q hq;rw[uV];simp[hq]
      have XK:(loadCells Qs (k*ei.size)).run P w=.ok cs.toArray w:=by
       rw[<-fZ];refine run_loadCells_list (P:=P) w Qs cs (λq v hq=>?_);have eG:q<k*ei.size:=by have:=(aB.1 hq).1;omega
       rw[SC q eG]at hq;cases hq;exact jl q (OD q eG)
      have R9:o'+off*ei.size+k*ei.size<=C.size:=by
       have h1:=aV ei.size hlen;have h2:=aV ei.size XR;rw[bG]at h1;omega
      have G0:∀v∈cs,v.oneCell'=true:=by
       intro v hv;obtain⟨q,hq,rfl⟩:=List.getElem_of_mem hv;have eG:q<k*ei.size:=by omega
       have e3:=SC q eG;rw[aP hq]at e3;have e3:=cD e3;rw[jE,e3];have hg:=aP (OD q eG);exact(lh q _ hg).lg (L1 _ (aX _)).1
      have rq:=run_storeCells_cells (P:=P) b (o'+off*ei.size) cs 0 w
       (by intro q hq;rw[bQ,cell_of hh (by omega)];rfl)
       (by
        intro q hq;have:=nG.at (o'+off*ei.size+0+q) (by omega);simp[World.frozen?,hh];intro hle;simp only[bQ]at this;omega)
       G0
      rw[bQ]at rq;have hw:∀q,q≠b->(w.setCells b (o'+off*ei.size) cs).heap[q]?=w.heap[q]?:=λq hq=>eO b _ _ _ q hq;have tJ:off<=xs.length:=by omega
      have P7:(ys.take k).length=k:=by simp;omega
      have Sz : ∀x∈xs.take off++ys.take k++xs.drop (k+off),x.cells.length=ei.size:=by
       intro v hv;rcases aK.1 hv with hv|hv
       ·rcases aK.1 hv with hv|hv
        ·exact hs v (aR hv)
        ·exact qe v (aR hv)
       ·exact hs v (aW hv)
      have Ot:(xs.take off++ys.take k++xs.drop (k+off)).length=xs.length:=by simp;omega
      have hinv:=h.store (w':=w.setCells b (o'+off*ei.size) cs) hj eN (x':=.row gk ei.size (xs.take off++ys.take k++xs.drop (k+off))) ⟨rfl,Ot⟩
       (gQ b _ _ _ h.below fc.1) (setCells_size b _ _ _) hw ?_
      ·refine⟨vi k,_,goInt k,w.setCells b (o'+off*ei.size) cs,.inl (ex _ _ ?_),hK,μ,F,?_⟩
       ·rw[hv,e2];simp[Builtin.copy_,bx hd,Builtin.lenOf,Builtin.firstCells,RV,UC,XK,rq]
       ·have h':=hinv.wider (U':=U8 U id) (λi hi=>.inl hi);exact{ h' with
         dB:=by
          rintro y u (hy|⟨rfl,rfl⟩)
          ·exact h'.dB y u hy
          ·exact⟨λ_=>rfl,.v _ rfl⟩ }
      ·refine⟨Sz,?_,.inr ⟨b,o',j_ C (o'+off*ei.size) cs,ff,by rw[d_];exact eN,gG b _ _ _ _ _ _ hh,by rw[d_,Ot];exact zv,by rw[d_];exact nG,?_⟩⟩
       ·intro v hv;simp only[df,aS]at hv;obtain⟨u,hu,hv⟩:=hv;rcases aK.1 hu with hu|hu
        ·rcases aK.1 hu with hu|hu
         ·exact lq v (by simp only[df,aS];exact⟨u,aR hu,hv⟩)
         ·exact L1 v (by simp only[df,aS];exact⟨u,aR hu,hv⟩)
        ·exact lq v (by simp only[df,aS];exact⟨u,aW hu,hv⟩)
       ·intro z q hz;have hF:∀{v},Rel w F q v->Rel (w.setCells b (o'+off*ei.size) cs) F q v:=λhv=>hv.mono (λ_ hb=>hb) (λk hk=>hw k (λe=>fc.2.2 (e ▸ hk)));have e1:(df (xs.take off)).length=off*ei.size:=by rw[(dW ei.size _ (λx hx=>hs x (aR hx))).1,bu,Nat.min_eq_left tJ]
        have e2:(df (ys.take k)).length=k*ei.size:=by rw[(dW ei.size _ (λx hx=>qe x (aR hx))).1,P7]
        rw[fS,fS]at hz;by_cases uU:z<off*ei.size
        ·rw[aN (by rw[ag];omega),aN (by omega)]at hz;rw[gb _ _ _ _ (.inl (by omega))];exact hF (hr z q (fg ei.size off xs z q hz))
        ·by_cases tK:z<off*ei.size+k*ei.size
         ·rw[aN (by rw[ag];omega),aQ (by omega),e1]at hz;have hz:=fg ei.size k ys _ q hz;have:=lv (vs:=cs) (C:=C) (o:=o'+off*ei.size) (j:=z - off*ei.size) (by omega) (by omega);rw[show o'+off*ei.size+(z - off*ei.size)=o'+z by omega,ah,SC _ (by omega)]at this;rw[this];exact hF (lh _ q hz)
         ·rw[aQ (by rw[ag];omega),ag,e1,e2,fU ei.size _ xs hs,bg]at hz;rw[gb _ _ _ _ (.inr (by omega))];have:(k+off)*ei.size+(z - (off*ei.size+k*ei.size))=z:=by rw[bG];omega
          rw[this]at hz;exact hF (hr z q hz)
   ·cases hK
  ·cases dY
 ·cases hK
end
section
variable {R:Type} {P:Program} {G:eH} {o:Oper} {a:Act} {w w' : World} {W0:eC} {F0 U F:Nat->Prop} {id:Nat} {L L' : AV->Value->Prop} {K:AV->Mem->Option R} {r:R} {m:Mem} {μ:Mu} {S:List AV}
theorem xB(hG:dK P G)(h:de W0 F0 U m L w μ F)(hE:Env G S a L)(hid:∀j,j<8->¬ U (id+j))(hK:eU G o.op S m id K=some r):j0 P o a w W0 F0 U id L K r:=by
 cases eF:o.op with
 | move x=>exact zX (.inl eF) h hE (by rw[eF]at hK;exact hK)
 | assign x=>exact zX (.inr eF) h hE (by rw[eF]at hK;exact hK)
 | pick c x y=>exact HG eF h hE hK
 | alloc t=>exact Ey hG eF h hid hK
 | box t x=>exact J3 eF h hE hid hK
 | build t parts=>exact Ew hG eF h hE hK
 | buildSlice t len parts=>exact tY hG eF h hE hid hK
 | load t x=>exact HI hG eF h hE hK
 | store t x y=>exact En hG eF h hE hK
 | nilCheck x=>exact xC eF h hE hK
 | binOp op t x y yt=>exact Ex hG eF h hE hK
 | unOp op t x=>exact HF eF h hE hK
 | convert s d x=>exact zZ hG eF h hE hid hK
 | makeInterface t x=>exact pw hG eF h hE hK
 | makeFunc f fst fj=>exact xD eF h hE hK
 | makeSlice t l c=>exact uX hG eF h hE hid hK
 | slice t x lo hi mx=>exact Eo hG eF h hE hK
 | fieldAddr s x f=>exact uZ hG eF h hE hK
 | field s x f=>exact Er hG eF h hE hK
 | indexAddr t x i=>exact uY hG eF h hE hK
 | index t x i=>exact Ep hG eF h hE hK
 | extract x i=>exact zY eF h hE hK
 | call c=>
  cases hc:c.callee with
  | builtin b=>
   cases b with
   | len=>exact J2 hG eF hc h hE hK
   | append=>exact BO hG eF hc h hE hid hK
   | clear=>exact Es hG eF hc h hE hK
   | copy=>exact HJ hG eF hc h hE hK
   | min=>exact J0 eF hc h hE hK
   | max=>exact J1 eF hc h hE hK
   | _=>rw[eF]at hK;simp[eU,hc]at hK
  | _=>rw[eF]at hK;simp[eU,hc]at hK
 | _=>rw[eF]at hK;simp[eU]at hK
end
structure Came(w w' : World)(F F' : Nat->Prop)(β:Mu):Prop where
 below:Below w.heap.size w w'
 sub:∀b,F b->F' b
 new:∀b,F' b->b<w'.heap.size/\(F b\/w.heap.size<=b)
 own:∀k b o n,β k=some (b,o,n)->w.heap.size<=b/\b<w'.heap.size/\¬ F' b
 inj:∀k k' b o n o' n',β k=some (b,o,n)->β k'=some (b,o',n')->k=k'
structure Dg(B:eC)(w' : World)(F F' : Nat->Prop)(β:Mu):Prop where
 below:iT B w'
 sub:∀b,F b->F' b
 new:∀b,F' b->b<w'.heap.size/\(F b\/¬ B.N b)
 own:∀k b o n,β k=some (b,o,n)->¬ B.N b/\b<w'.heap.size/\¬ F' b
 inj:∀k k' b o n o' n',β k=some (b,o,n)->β k'=some (b,o',n')->k=k'
theorem Dg.plain{r w w' : World}{hr:Below r.heap.size r w}{F F' : Nat->Prop}{β:Mu}(h:Dg (eC.of r w hr) w' F F' β):Came w w' F F' β:=
 ⟨h.below.below,h.sub,λb hb=>⟨(h.new b hb).1,(h.new b hb).2.imp id (λhN=>Nat.le_of_not_lt hN)⟩,λk b o n hk=>⟨Nat.le_of_not_lt (h.own k b o n hk).1,(h.own k b o n hk).2⟩,h.inj⟩
def EZ:AV->Nat
 | .fr _ _ _=>1
 | _=>0
def DM:List AV->Nat
 | []=>0
 | x::r=>EZ x+DM r
def Gm:AV->Nat
 | .agg cs=>DM cs
 | x=>EZ x
def rA(w:World)(F:Nat->Prop)(β:Mu)(k:Nat)(x:AV)(v:Value):Prop:=
 match x with
 | .fr fl sz xs=>Holds w F β (λ_=>none) (λ_=>False) k (.row fl sz xs)/\∃ad cap,v=.slice ad xs.length cap/\xs.length<=cap/\
  ((ad=none/\cap=0)\/∃b o n xR,β k=some (b,o,n)/\ad=some xR/\xR.block=b/\(cap=0\/(xR=⟨b,o,none⟩/\o+cap*sz<=n)))
 | x=>Rel w F x v
def ES(w:World)(F:Nat->Prop)(β:Mu):Nat->List AV->(Nat->Value)->Prop
 | _,[],_=>True
 | k,x::r,u=>rA w F β k x (u 0)/\ES w F β (k+EZ x) r (λj=>u (j+1))
def Ap(w:World)(F:Nat->Prop)(β:Mu)(k:Nat)(x:AV)(v:Value):Prop:=
 match x with
 | .agg cs=>∃vs:Array Value,v=.agg vs/\vs.size=cs.length/\ES w F β k cs (λj=>vs.getD j undef)
 | x=>rA w F β k x v
def wG(w:World)(F:Nat->Prop)(β:Mu):Nat->List AV->(Nat->Value)->Prop
 | _,[],_=>True
 | k,x::r,u=>Ap w F β k x (u 0)/\wG w F β (k+Gm x) r (λj=>u (j+1))
def AB(w:World)(F:Nat->Prop)(β:Mu)(x:AV)(v:Value):Prop:=
 match x with
 | .dU xs=>∃vs:Array Value,v=.tuple vs/\vs.size=xs.length/\wG w F β 0 xs (λj=>vs.getD j undef)
 | x=>Ap w F β 0 x v
def MB(P:Program)(f:FuncId)(vals:Array Value)(w:World)(R:Ending->World->Prop):Prop:=
 ((callFunc f vals).run P w=.ok (.enter f vals) w/\Calls P f vals w R)\/∃v w',(callFunc f vals).run P w=.ok (.value v) w'/\R (.returned v) w'
def jA(fw:List AV):Bool:=match fw.getLast? with
 | some (.dU _)=>true
 | _=>false
def MD(P:Program)(R0:World)(f:FuncId)(args bs:List AV)(y:AV)(os:List AV):Prop:=
 ∀(B:eC) (F:Nat->Prop) (vals:Array Value) (μ:Mu),B.root=R0->vals.size=args.length->
  de B F (λi=>i<8*bs.length) (Mem.gg bs) (λc v=>∃j,args[j]?=some c/\v=vals.getD j undef) B.w μ F->
  (∀i,i<kR bs->∃n,μ i=some (B.bk i,0,n))->
  MB P f vals B.w λe w'=>match e with
   | .returned v=>∃F' eM,de B F (λi=>i<os.length) (Mem.gg os) (λc u=>c=y/\u=v) w' eM F'/\∀i,i<kR bs->∃n,eM i=some (B.bk i,0,n)
   | _=>False
def MC(P:Program)(R0:World)(f:FuncId)(fw:List AV)(x:AV):Prop:=
 ∀(w:World) (F:Nat->Prop) (vals:Array Value),Below R0.heap.size R0 w->(∀b,F b->b<w.heap.size)->(∀b,b<R0.heap.size->F b)->vals.size=fw.length->(∀j c,fw[j]?=some c->Rel w F c (vals.getD j undef))->
  MB P f vals w λe w'=>match e with
   | .returned v=>∃F' β,Came w w' F F' β/\AB w' F' β x v
   | _=>False
def ME(P:Program)(R0:World)(f:FuncId)(args bs:List AV)(y b:AV):Prop:=
 ∀(B:eC) (F:Nat->Prop) (vals:Array Value) (μ:Mu),B.root=R0->vals.size=args.length->
  de B F (λi=>i<8*bs.length) (Mem.gg bs) (λc v=>∃j,args[j]?=some c/\v=vals.getD j undef) B.w μ F->
  MB P f vals B.w λe w'=>match e with
   | .returned v=>de B F (λi=>i<8*bs.length) (Mem.gg [b]) (λc u=>c=y/\u=v) w' μ F
   | _=>False
def iD(P:Program)(R0:World)(f:FuncId)(fw:List AV)(x:AV):Prop:=
 (jA fw=false->MC P R0 f fw x)/\(∀args bs y os,fw=args++[.dU bs]->x=.dU [y,.dU os]->MD P R0 f args bs y os)/\
  ∀args fl sz xs y gk im ys,fw=args++[.dU [.fr fl sz xs]]->x=.dU [y,.fr gk im ys]->ys.length=xs.length/\ME P R0 f args [.fr fl sz xs] y (.fr gk im ys)
def mE(G:eH)(R0:World):Prop:=∀g cs,G.Eb g=some cs->Rel R0 (λb=>b<R0.heap.size) (.rd cs) (.pointer (some ⟨g,0,none⟩))
class dH (P:Program) where
 Q:World->Prop
 opened:∀w,Q w->w.ShapedOpen P
 below:∀w w',Q w->Below w.heap.size w w'->Q w'
def ux(P:Program)[dH P](f:FuncId)(fw:List AV)(x:AV):Prop:=∀R0:World,dH.Q P R0->iD P R0 f fw x
theorem Below.shaped{P:Program}{w w' : World}(h:w.ShapedOpen P)(hB:Below w.heap.size w w'):w'.ShapedOpen P:=
 h.keptBut (hB.frame (λ_=>False)) (λ_ h=>h.elim)
def Uk(U:Nat->Prop)(id c:Nat):Nat->Prop:=λi=>U i\/(id<=i/\i<id+c)
def IC(β:Mu)(N c:Nat)(m:Mem)(μ:Mu):Prop:=∀i y b o n,m i=some y->μ i=some (b,o,n)->b<N\/∃k o' n',k<c/\β k=some (b,o',n')
section
variable {R:Type} {P:Program} {G:eH} {o:Oper} {a:Act} {w w' : World} {W0:eC} {F0 U F:Nat->Prop} {id:Nat} {L L' : AV->Value->Prop} {K:AV->Mem->Option R} {r:R} {m:Mem} {μ β:Mu} {S:List AV}
theorem de.PC(h:de W0 F0 U m L w μ F){x:AV}{v:Value}(hx:eB w F μ m U x v):de W0 F0 U m (λa b=>L a b\/(a=x/\b=v)) w μ F:=
 { h with dB:=by rintro y u (hy|⟨rfl,rfl⟩);exact h.dB y u hy;exact hx }
theorem CQ{N c c' : Nat}{m' : Mem}{x y:AV}{v:Value}(e:rn id c m x=(y,c',m'))(hc:c'<=8)(hid:∀j,j<8->¬ U (id+j))(hN:W0.w.heap.size<=N)
  (h:de W0 F0 (Uk U id c) m L w μ F) (hd:IC β N c m μ) (fc:∀k b o n,β k=some (b,o,n)->N<=b/\b<w.heap.size/\¬ F b)
  (qh:∀k k' b o n o' n',β k=some (b,o,n)->β k'=some (b,o',n')->k=k') (hr:rA w F β c x v) :
  c'=c+EZ x/\∃eM,de W0 F0 (Uk U id c') m' (λa b=>L a b\/(a=y/\b=v)) w eM F/\IC β N c' m' eM/\((∃i o l,y=.own i o l)\/Rel w F y v):=by
 have same:(y,c',m')=(x,c,m)->EZ x=0->Rel w F x v->c'=c+EZ x/\∃eM,de W0 F0 (Uk U id c') m' (λa b=>L a b\/(a=y/\b=v)) w eM F/\IC β N c' m' eM/\((∃i o l,y=.own i o l)\/Rel w F y v):=by
  intro e h0 hx;cases e;exact⟨by omega,μ,h.PC (dI (dE (eE hx))),hd,.inr hx⟩
 cases x with
 | fr fl sz xs=>
  simp only[rn]at e;cases e;obtain⟨⟨r1,r2,r3⟩,ad,cap,rfl,jg,dT⟩:=hr;have R3:¬ (Uk U id c) (id+c):=by
   rintro(hu|hu)
   ·exact hid c (by omega) hu
   ·omega
  refine⟨rfl,_,(h.wF (q:=β c) R3 h.below (aJ _) (λ_ _ _=>rfl) ?_ ?_ (L':=λa b=>L a b\/(a=.own (id+c) 0 none/\b=.slice ad xs.length cap)) ?_).wider ?_,?_,.inl ⟨_,_,_,rfl⟩⟩
  ·intro b o n hq;obtain⟨h1,h2,h3⟩:=fc c b o n hq;refine⟨λhN=>by have:=W0.lt _ hN;omega,h2,h3,λi y o' n' hy hb=>?_⟩;rcases hd i y b o' n' hy hb with eG|⟨k,DJ,NS,hk,ia⟩
   ·omega
   ·have:=qh c k b o n DJ NS hq ia;omega
  ·refine⟨r1,r2,?_⟩;rcases r3 with⟨e1,e2⟩|⟨b,o,C,f,e1,e2⟩
   ·exact .inl ⟨e1,by simp[e2]⟩
   ·exact .inr ⟨b,o,C,f,by simp[e1],e2⟩
  ·rintro y v (hy|⟨rfl,rfl⟩)
   ·exact .inl hy
   ·refine .inr ⟨λ_=>rfl,.inr rfl,λgk im mO hx=>?_⟩;rw[Mem.dx]at hx;cases hx;refine⟨ad,cap,by simp[lenOf],by simpa[lenOf]using jg,by simp[lenOf],?_⟩;rcases dT with dT|⟨b,o,n,xR,e1,e2,e3,e4⟩
    ·exact .inl dT
    ·refine .inr ⟨b,o,n,xR,by simp[e1],e2,e3,?_⟩;simpa using e4
  ·rintro i ((hi|hi)|rfl)
   ·exact .inl hi
   ·exact .inr ⟨hi.1,by omega⟩
   ·exact .inr ⟨by omega,by omega⟩
  ·intro i y b o n hy hb;by_cases e:i=id+c
   ·subst e;simp only[cb]at hb;exact .inr ⟨c,o,n,by omega,hb⟩
   ·rw[Mem.dk _ _ e]at hy;simp only[e,bI]at hb;rcases hd i y b o n hy hb with eG|⟨k,o',n',hk,ia⟩
    ·exact .inl eG
    ·exact .inr ⟨k,o',n',by omega,ia⟩
 | _=>exact same e.symm rfl hr
theorem vq(h:de W0 F0 U m L w μ F){y:AV}{v:Value}(hy:L y v)(he:(∃i o l,y=.own i o l)\/Rel w F y v):eS w F μ m U y v:=by
 rcases he with⟨i,o,l,rfl⟩|he
 ·exact h.dB _ _ hy
 ·exact eE he
theorem CR{N:Nat}(hid:∀j,j<8->¬ U (id+j))(hN:W0.w.heap.size<=N)(fc:∀k b o n,β k=some (b,o,n)->N<=b/\b<w.heap.size/\¬ F b)
  (qh:∀k k' b o n o' n',β k=some (b,o,n)->β k'=some (b,o',n')->k=k'):∀(xs ys:List AV) (c c' : Nat) (m m' : Mem) (μ:Mu) (L:AV->Value->Prop) (u:Nat->Value),
  oq id c m xs=(ys,c',m')->c'<=8->de W0 F0 (Uk U id c) m L w μ F->IC β N c m μ->ES w F β c xs u->
  c'=c+DM xs/\ys.length=xs.length/\∃eM,de W0 F0 (Uk U id c') m' (λa b=>L a b\/∃j,ys[j]?=some a/\b=u j) w eM F/\IC β N c' m' eM/\∀j y,ys[j]?=some y->(∃i o l,y=.own i o l)\/Rel w F y (u j)
 | [],ys,c,c',m,m',μ,L,u,e,hc,h,hd,hr=>by
  simp only[oq]at e;cases e;exact⟨rfl,rfl,μ,{ h with dB:=by rintro y v (hy|⟨j,hj,_⟩);exact h.dB y v hy;simp at hj },hd,by simp⟩
 | x::xs,ys,c,c',m,m',μ,L,u,e,hc,h,hd,hr=>by
  simp only[oq]at e;generalize h1:rn id c m x=q1 at e;obtain⟨y,c1,m1⟩:=q1;simp only at e;generalize h2:oq id c1 m1 xs=q2 at e;obtain⟨s,c2,m2⟩:=q2;cases e;have mono:∀(xs:List AV) (c:Nat) (m:Mem),c<=(oq id c m xs).2.1:=by
   intro xs;induction xs with
   | nil=>intro c m;exact aJ _
   | cons x xs ih=>
    intro c m;simp only[oq];refine cf ?_ (ih _ _);cases x<;>simp[rn]
  have hle:=mono xs c1 m1;rw[h2]at hle;obtain⟨e1,Ik,i1,d1,Ts⟩:=CQ h1 (cf hle hc) hid hN h hd fc qh hr.1;subst e1;obtain⟨e2,l2,Qt,i2,d2,Tr⟩:=CR hid hN fc qh xs s _ c2 m1 m2 Ik _ (λj=>u (j+1)) h2 hc i1 d1 hr.2;refine⟨by simp only[DM];omega,by simp[l2],Qt,{ i2 with dB:=?_ },d2,?_⟩
  ·rintro z v (hz|⟨j,hj,rfl⟩)
   ·exact i2.dB z v (.inl (.inl hz))
   ·cases j with
    | zero=>simp at hj;subst hj;exact i2.dB _ _ (.inl (.inr ⟨rfl,rfl⟩))
    | succ j=>exact i2.dB _ _ (.inr ⟨j,by simpa using hj,rfl⟩)
  ·intro j z hj;cases j with
   | zero=>simp at hj;subst hj;exact Ts
   | succ j=>exact Tr j z (by simpa using hj)
theorem CS{N c c' : Nat}{m' : Mem}{x y:AV}{v:Value}(e:ot id c m x=(y,c',m'))(hc:c'<=8)(hid:∀j,j<8->¬ U (id+j))(hN:W0.w.heap.size<=N)
  (h:de W0 F0 (Uk U id c) m L w μ F) (hd:IC β N c m μ) (fc:∀k b o n,β k=some (b,o,n)->N<=b/\b<w.heap.size/\¬ F b)
  (qh:∀k k' b o n o' n',β k=some (b,o,n)->β k'=some (b,o',n')->k=k') (hr:Ap w F β c x v) :
  c'=c+Gm x/\∃eM,de W0 F0 (Uk U id c') m' (λa b=>L a b\/(a=y/\b=v)) w eM F/\IC β N c' m' eM/\((∃cs,y=.agg cs)\/(∃i o l,y=.own i o l)\/Rel w F y v):=by
 have other:Gm x=EZ x->rn id c m x=(y,c',m')->rA w F β c x v->c'=c+Gm x/\∃eM,de W0 F0 (Uk U id c') m' (λa b=>L a b\/(a=y/\b=v)) w eM F/\IC β N c' m' eM/\((∃cs,y=.agg cs)\/(∃i o l,y=.own i o l)\/Rel w F y v):=by
  intro h0 e hr;obtain⟨e1,eM,i1,d1,el⟩:=CQ e hc hid hN h hd fc qh hr;exact⟨by omega,eM,i1,d1,.inr el⟩
 cases x with
 | agg cs=>
  simp only[ot]at e;generalize h1:oq id c m cs=q1 at e;obtain⟨s,c1,m1⟩:=q1;cases e;obtain⟨vs,rfl,hl,hr⟩:=hr;obtain⟨e1,l1,eM,i1,d1,el⟩:=CR hid hN fc qh cs s c _ m _ μ L _ h1 hc h hd hr;refine⟨e1,eM,{ i1 with dB:=?_ },d1,.inl ⟨s,rfl⟩⟩;rintro z v (hz|⟨rfl,rfl⟩)
  ·exact i1.dB z v (.inl hz)
  ·exact⟨vs,rfl,hl.trans l1.symm,λj q hj=>vq i1 (.inr ⟨j,hj,rfl⟩) (el j q hj)⟩
 | _=>exact other rfl e hr
theorem DC(h:de W0 F0 U m L w μ F){y:AV}{v:Value}(hy:L y v)(he:(∃cs,y=.agg cs)\/(∃i o l,y=.own i o l)\/Rel w F y v):kJ w F μ m U y v:=by
 rcases he with⟨cs,rfl⟩|he
 ·exact h.dB _ _ hy
 ·exact dE (vq h hy he)
theorem zk{N:Nat}(hid:∀j,j<8->¬ U (id+j))(hN:W0.w.heap.size<=N)(fc:∀k b o n,β k=some (b,o,n)->N<=b/\b<w.heap.size/\¬ F b)
  (qh:∀k k' b o n o' n',β k=some (b,o,n)->β k'=some (b,o',n')->k=k'):∀(xs ys:List AV) (c c' : Nat) (m m' : Mem) (μ:Mu) (L:AV->Value->Prop) (u:Nat->Value),
  lH id c m xs=(ys,c',m')->c'<=8->de W0 F0 (Uk U id c) m L w μ F->IC β N c m μ->wG w F β c xs u->
  ys.length=xs.length/\∃eM,de W0 F0 (Uk U id c') m' (λa b=>L a b\/∃j,ys[j]?=some a/\b=u j) w eM F/\∀j y,ys[j]?=some y->(∃cs,y=.agg cs)\/(∃i o l,y=.own i o l)\/Rel w F y (u j)
 | [],ys,c,c',m,m',μ,L,u,e,hc,h,hd,hr=>by
  simp only[lH]at e;cases e;exact⟨rfl,μ,{ h with dB:=by rintro y v (hy|⟨j,hj,_⟩);exact h.dB y v hy;simp at hj },by simp⟩
 | x::xs,ys,c,c',m,m',μ,L,u,e,hc,h,hd,hr=>by
  simp only[lH]at e;generalize h1:ot id c m x=q1 at e;obtain⟨y,c1,m1⟩:=q1;simp only at e;generalize h2:lH id c1 m1 xs=q2 at e;obtain⟨s,c2,m2⟩:=q2;cases e;have NT:∀(xs:List AV) (c:Nat) (m:Mem),c<=(oq id c m xs).2.1:=by
   intro xs;induction xs with
   | nil=>intro c m;exact aJ _
   | cons x xs ih=>
    intro c m;simp only[oq];refine cf ?_ (ih _ _);cases x<;>simp[rn]
  have mono:∀(xs:List AV) (c:Nat) (m:Mem),c<=(lH id c m xs).2.1:=by
   intro xs;induction xs with
   | nil=>intro c m;exact aJ _
   | cons x xs ih=>
    intro c m;simp only[lH];refine cf ?_ (ih _ _);cases x<;>simp[ot,rn];exact NT _ _ _
  have hle:=mono xs c1 m1;rw[h2]at hle;obtain⟨e1,Ik,i1,d1,Ts⟩:=CS h1 (cf hle hc) hid hN h hd fc qh hr.1;subst e1;obtain⟨l2,Qt,i2,Tr⟩:=zk hid hN fc qh xs s _ c2 m1 m2 Ik _ (λj=>u (j+1)) h2 hc i1 d1 hr.2;refine⟨by simp[l2],Qt,{ i2 with dB:=?_ },?_⟩
  ·rintro z v (hz|⟨j,hj,rfl⟩)
   ·exact i2.dB z v (.inl (.inl hz))
   ·cases j with
    | zero=>simp at hj;subst hj;exact i2.dB _ _ (.inl (.inr ⟨rfl,rfl⟩))
    | succ j=>exact i2.dB _ _ (.inr ⟨j,by simpa using hj,rfl⟩)
  ·intro j z hj;cases j with
   | zero=>simp at hj;subst hj;exact Ts
   | succ j=>exact Tr j z (by simpa using hj)
theorem GP{c:Nat}{m' : Mem}{x y:AV}{v:Value}(e:imp id m x=(y,c,m'))(hc:c<=8)(hid:∀j,j<8->¬ U (id+j))
  (h:de W0 F0 U m L w μ F) {N:Nat} (hN:W0.w.heap.size<=N) (hd:∀i y b o n,m i=some y->μ i=some (b,o,n)->b<N) (fc:∀k b o n,β k=some (b,o,n)->N<=b/\b<w.heap.size/\¬ F b)
  (qh:∀k k' b o n o' n',β k=some (b,o,n)->β k'=some (b,o',n')->k=k') (hr:AB w F β x v) :
  ∃eM,de W0 F0 (U8 U id) m' (λa b=>L a b\/(a=y/\b=v)) w eM F:=by
 have h0:de W0 F0 (Uk U id 0) m L w μ F:=h.wider (λi hi=>.inl hi);have E5:IC β N 0 m μ:=λi y b o n hy hb=>.inl (hd i y b o n hy hb);have up:∀i,Uk U id c i->U8 U id i:=by
  rintro i (hi|hi)
  ·exact .inl hi
  ·exact .inr ⟨hi.1,by omega⟩
 have other:ot id 0 m x=(y,c,m')->Ap w F β 0 x v->∃eM,de W0 F0 (U8 U id) m' (λa b=>L a b\/(a=y/\b=v)) w eM F:=by
  intro e hr;obtain⟨_,eM,i1,_⟩:=CS e hc hid hN h0 E5 fc qh hr;exact⟨eM,i1.wider up⟩
 cases x with
 | dU xs=>
  simp only[imp]at e;generalize h1:lH id 0 m xs=q1 at e;obtain⟨s,c1,m1⟩:=q1;cases e;obtain⟨vs,rfl,hl,hr⟩:=hr;obtain⟨l1,eM,i1,el⟩:=zk hid hN fc qh xs s 0 _ m _ μ L _ h1 hc h0 E5 hr;refine⟨eM,de.wider (h:={ i1 with dB:=?_ }) up⟩;rintro z v (hz|⟨rfl,rfl⟩)
  ·exact i1.dB z v (.inl hz)
  ·exact⟨vs,rfl,hl.trans l1.symm,λj q hj=>DC i1 (.inr ⟨j,hj,rfl⟩) (el j q hj)⟩
 | _=>exact other e hr
end
def Good(m:Mem)(ord:List Nat):Prop:=ord.Nodup/\∀i∈ord,m i≠none
theorem ni{m:Mem}{ord:List Nat}{id:Nat}{b:oK}(h:Good m ord)(hc:ord.contains id=false)(hm:m id=some b):Good m (ord++[id]):=by
 have hn:id ∉ ord:=by simpa using hc
 refine⟨?_,?_⟩
 ·rw[List.nodup_append];refine⟨h.1,by simp,?_⟩;intro a ha b hb;simp at hb;subst hb;exact λe=>hn (e ▸ ha)
 ·intro i hi;simp at hi;rcases hi with hi|rfl
  ·exact h.2 i hi
  ·simp[hm]
theorem iJ{m:Mem}{f:List Nat->AV->List Nat}(hf:∀ord x,Good m ord->Good m (f ord x)):∀(cs:List AV) (ord:List Nat),Good m ord->Good m (cs.foldl f ord)
 | [],_,h=>h
 | c::cs,ord,h=>iJ hf cs _ (hf ord c h)
theorem lS{m:Mem}:∀(n:Nat) (ord:List Nat) (x:AV),Good m ord->Good m (visit n m ord x)
 | 0,_,_,h=>h
 | n+1,ord,x,h=>by
  have ih:=λord x=>lS (m:=m) n ord x;have one:∀id,Good m (bif ord.contains id then ord else match m id with | .some _=>ord++[id] | .none=>ord):=by
   intro id;cases hc:ord.contains id with
   | true=>exact h
   | false=>
    simp only[cond_false];split
    ·rename_i b hb;exact ni h hc hb
    ·exact h
  unfold visit;split
  ·exact one _
  ·exact one _
  ·rename_i id off;cases hc:ord.contains id with
   | true=>exact h
   | false=>
    simp only[cond_false];split
    ·rename_i cs hb;exact iJ ih _ _ (ni h hc hb)
    ·rename_i hb;exact ni h hc hb
    ·exact h
  ·rename_i id;cases hc:ord.contains id with
   | true=>exact h
   | false=>
    simp only[cond_false];split
    ·rename_i cs hb;exact iJ ih _ _ (ni h hc hb)
    ·rename_i hb;exact ni h hc hb
    ·exact h
  ·exact iJ ih _ _ h
  ·exact iJ ih _ _ h
  ·exact iJ ih _ _ h
  ·exact h
theorem vK{m:Mem}{tm:List AV}:∀(keep:List Tmp) (ord:List Nat),Good m ord->Good m (keep.foldl (λord t=>visit 6 m ord (tm.getD t .undef)) ord)
 | [],_,h=>h
 | t::keep,ord,h=>vK keep _ (lS 6 ord _ h)
theorem gz{ord:List Nat}{id j:Nat}(h:gZ ord id=some j):ord[j]?=some id:=by
 unfold gZ at h;rw[List.findIdx?_eq_some_iff_getElem]at h;obtain⟨hj,he,_⟩:=h;rw[aP hj,aj he]
section
variable {R:Type} {P:Program} {G:eH} {a:Act} {w w' : World} {W0:eC} {F0 U F F' : Nat->Prop} {id:Nat} {L L' : AV->Value->Prop} {r:R} {m m' : Mem} {μ eM β:Mu} {S:List AV}
theorem jo{v:Value}{μ:Mu}{m:Mem}{U:Nat->Prop}:ij w F μ m U .undef v:=⟨λh=>by simp[AV.nD]at h,.undef _⟩
theorem wV{ord:List Nat}:∀(n:Nat) (x:AV) (v:Value),Rel w F x v->Rel w F (uA n ord x) v
 | 0,_,v,_=>.undef v
 | n+1,x,v,h=>by
  cases h with
  | v _ h=>exact .v _ h
  | undef _=>exact .undef _
  | oB=>exact .oB
  | nR t x=>exact .nR _ _
  | uL fl sz=>exact .uL fl sz
  | sl fl sz xs ad cap u h1 h2 h3 h4 h5 h6 h7=>exact .sl fl sz xs ad cap u h1 h2 h3 h4 h5 h6 h7
  | rd cs ad u h1 h2 h3=>exact .rd cs ad u h1 h2 h3
  | agg cs vs hl hr=>
   refine .agg _ vs (by simp[hl]) (λj c hj=>?_);simp only[aL,aA]at hj;obtain⟨y,hy,rfl⟩:=hj;exact wV n y _ (hr j y hy)
  | fn f cs vs v hv hl hr=>
   refine .fn f _ vs _ hv (by simp[hl]) (λj c hj=>?_);simp only[aL,aA]at hj;obtain⟨y,hy,rfl⟩:=hj;exact wV n y _ (hr j y hy)
structure MF(ord:List Nat)(m m' : Mem)(μ eM : Mu)(U' : Nat->Prop):Prop where
 mem:∀j id,ord[j]?=some id->m' j=none\/∃b,m id=some b/\m' j=some (jr ord (some b))
 mu:∀j id,ord[j]?=some id->eM j=μ id
 used:∀j id,ord[j]?=some id->U' j
theorem Kx{ord:List Nat}{U' : Nat->Prop}(hc:MF ord m m' μ eM U')(n:Nat){x:AV}{v:Value}(h:ij w F μ m U x v):ij w F eM m' U' (uA n ord x) v:=by
 cases n with
 | zero=>exact jo
 | succ n=>
  obtain⟨h1,h⟩:=h;have fu:Rel w F x v->ij w F eM m' U' (uA (n+1) ord x) v:=λh=>iP (wV (n+1) x v h);cases x with
  | own id off l=>
   simp only[uA];split
   ·rename_i j hj;have hj:=gz hj;refine⟨λ_=>h1 rfl,hc.used j id hj,λfl sz xs hx=>?_⟩;rcases hc.mem j id hj with hm|⟨b,hb,hm⟩
    ·rw[hm]at hx;cases hx
    ·rw[hm]at hx;cases b with
     | box tb cs=>cases hx
     | row gk im mO=>
      cases hx;rw[hc.mu j id hj];exact h.2 _ _ _ hb
   ·exact jo
  | qt id i off=>
   simp only[uA];split
   ·rename_i j hj;have hj:=gz hj;refine⟨λ_=>h1 rfl,hc.used j id hj,λfl sz xs hx=>?_⟩;rcases hc.mem j id hj with hm|⟨b,hb,hm⟩
    ·rw[hm]at hx;cases hx
    ·rw[hm]at hx;cases b with
     | box tb cs=>cases hx
     | row gk im mO=>
      cases hx;rw[hc.mu j id hj];exact h.2 _ _ _ hb
   ·exact jo
  | ptr id off=>
   simp only[uA];split
   ·rename_i j hj;have hj:=gz hj;refine⟨λ_=>h1 rfl,hc.used j id hj,λtb cs hx=>?_⟩;rcases hc.mem j id hj with hm|⟨b,hb,hm⟩
    ·rw[hm]at hx;cases hx
    ·rw[hm]at hx;cases b with
     | box uJ jh=>rw[hc.mu j id hj];cases hx;exact h.2 _ _ hb
     | row gk im mO=>cases hx
   ·exact jo
  | bs id=>
   simp only[uA];split
   ·rename_i j hj;have hj:=gz hj;refine⟨λ_=>h1 rfl,hc.used j id hj,λtb cs hx=>?_⟩;rcases hc.mem j id hj with hm|⟨b,hb,hm⟩
    ·rw[hm]at hx;cases hx
    ·rw[hm]at hx;cases b with
     | box uJ jh=>rw[hc.mu j id hj];cases hx;rw[af];exact h.2 _ _ hb
     | row gk im mO=>cases hx
   ·exact jo
  | fr _ _ _=>exact h.elim
  | v _=>exact fu h
  | sl _ _ _=>exact fu h
  | rd _=>exact fu h
  | agg _=>exact fu h
  | dU _=>exact fu h
  | fn _ _=>exact fu h
  | err _=>exact fu h
  | undef=>exact fu h
theorem yF{ord:List Nat}{U' : Nat->Prop}(hc:MF ord m m' μ eM U')(n:Nat){x:AV}{v:Value}(h:eS w F μ m U x v):eS w F eM m' U' (uA n ord x) v:=by
 cases n with
 | zero=>exact fk jo
 | succ n=>
  cases x
  case fn f cs=>
   obtain⟨vs,e,hl,hr⟩:=h;refine⟨vs,e,by simp[hl],λj c hj=>?_⟩;simp only[aL,aA]at hj;obtain⟨y,hy,rfl⟩:=hj;exact Kx hc n (hr j y hy)
  all_goals exact fk (Kx (U:=U) hc (n+1) h)
theorem Ky{ord:List Nat}{U' : Nat->Prop}(hc:MF ord m m' μ eM U')(n:Nat){x:AV}{v:Value}(h:kJ w F μ m U x v):kJ w F eM m' U' (uA n ord x) v:=by
 cases n with
 | zero=>exact dE (fk jo)
 | succ n=>
  cases x
  case agg cs=>
   obtain⟨vs,e,hl,hr⟩:=h;refine⟨vs,e,by simp[hl],λj c hj=>?_⟩;simp only[aL,aA]at hj;obtain⟨y,hy,rfl⟩:=hj;exact yF hc n (hr j y hy)
  all_goals exact dE (yF (U:=U) hc (n+1) h)
theorem F5{ord:List Nat}{U' : Nat->Prop}(hc:MF ord m m' μ eM U')(n:Nat){x:AV}{v:Value}(h:eB w F μ m U x v):eB w F eM m' U' (uA n ord x) v:=by
 cases n with
 | zero=>exact dI (dE (fk jo))
 | succ n=>
  cases x
  case dU cs=>
   obtain⟨vs,e,hl,hr⟩:=h;refine⟨vs,e,by simp[hl],λj c hj=>?_⟩;simp only[aL,aA]at hj;obtain⟨y,hy,rfl⟩:=hj;exact Ky hc n (hr j y hy)
  all_goals exact dI (Ky (U:=U) hc (n+1) h)
end
def Ii{R:Type}(P:Program)(o:Oper)(a:Act)(w:World)(W0:eC)(F0 U:Nat->Prop)(id:Nat)(L:AV->Value->Prop)(K:AV->Mem->Option R)(r:R):Prop:=
 ∀(next:Act->World->Prop) (Q:Exit->Act->World->Prop),
  (∀x m' v w',K x m'=some r->Inv W0 F0 (U8 U id) m' (λy u=>L y u\/(y=x/\u=v)) w'->next (a.put o.dst v) w')->o.wp P a w next Q
section
variable {R:Type} {P:Program} {G:eH} {o:Oper} {a:Act} {w w' : World} {W0:eC} {F0 U F F' : Nat->Prop} {id:Nat} {L L' : AV->Value->Prop} {K:AV->Mem->Option R} {r:R} {m:Mem} {μ β:Mu} {S:List AV}
theorem j0.PN(h:j0 P o a w W0 F0 U id L K r):Ii P o a w W0 F0 U id L K r:=by
 obtain⟨x,m',v,w',hr,hK,hI⟩:=h;intro next Q hn
 unfold Oper.wp;rcases hr with hr|⟨hr,rfl⟩
 ·rw[hr];exact hn x m' v w' hK hI
 ·rw[hr];exact hn x m' _ w' hK hI
theorem de.more(h:de W0 F0 U m L w μ F)(hs:∀b,F b->F' b)(hn:∀b,F' b->b<w.heap.size/\(F b\/(¬ W0.N b/\∀i y o n,m i=some y->μ i≠some (b,o,n)))):de W0 F0 U m L w μ F' where
 below:=h.below
 dC:=λb hb=>⟨(hn b hb).1,by
  rcases(hn b hb).2 with h1|h1
  ·exact(h.dC b h1).2
  ·exact .inr h1.1⟩
 sub:=λb hb=>hs b (h.sub b hb)
 gl:=λb hb=>hs b (h.gl b hb)
 used:=h.used
 j7:=λi x hx=>(h.j7 i x hx).mono hs (λ_ _=>rfl) (λ_ hi=>hi) (λi _=>⟨.refl _,λ_=>rfl⟩) rfl (λ_ _ _ _=>rfl)
 own:=λi x b o n hx hb=>⟨(h.own i x b o n hx hb).1,(h.own i x b o n hx hb).2.1,λhF=>by
  rcases(hn b hF).2 with h1|h1
  ·exact(h.own i x b o n hx hb).2.2 h1
  ·exact h1.2 i x o n hx hb⟩
 inj:=h.inj
 dB:=λx v hx=>(h.dB x v hx).mono hs (λ_ _=>rfl) (λ_ hi=>hi) (λi _=>⟨.refl _,λ_=>rfl⟩)
theorem sK{k:Nat}{x:AV}{v:Value}(hc:xJ x=true)(h:rA w F' β k x v):rA w F β k x v:=by
 cases x with
 | v y=>cases h with | v _ h=>exact .v _ h
 | err b=>cases h with | oB=>exact .oB | nR t x=>exact .nR t x
 | fr fl sz xs=>
  have hf:fl.b=true:=hc;obtain⟨⟨h1,h2,h3⟩,h4⟩:=h;refine⟨⟨h1,h2,?_⟩,h4⟩;rcases h3 with h3|⟨b,o,C,f,e1,e2,e3,e4,e5⟩
  ·exact .inl h3
  ·refine .inr ⟨b,o,C,f,e1,e2,e3,e4,λj c hj=>?_⟩;have h5:=e5 j c hj;have h6:=(h2 c (aO hj)).2 hf;cases c<;>first|(cases h6;done)|skip
   cases h5 with | v _ h=>exact .v _ h
 | _=>cases hc
theorem sL:∀(xs:List AV) (k:Nat) (u:Nat->Value),xs.all xJ=true->ES w F' β k xs u->ES w F β k xs u
 | [],_,_,_,_=>trivial
 | x::xs,k,u,hc,h=>by
  simp only[bE,ae]at hc;exact⟨sK hc.1 h.1,sL xs _ _ hc.2 h.2⟩
theorem sM{k:Nat}{x:AV}{v:Value}(hc:ua x=true)(h:Ap w F' β k x v):Ap w F β k x v:=by
 cases x with
 | agg cs=>obtain⟨vs,e,hl,hr⟩:=h;exact⟨vs,e,hl,sL cs _ _ hc hr⟩
 | _=>
  simp only[Ap,ua]at h hc ⊢;exact sK hc h
theorem qJ:∀(xs:List AV) (k:Nat) (u:Nat->Value),xs.all ua=true->wG w F' β k xs u->wG w F β k xs u
 | [],_,_,_,_=>trivial
 | x::xs,k,u,hc,h=>by
  simp only[bE,ae]at hc;exact⟨sM hc.1 h.1,qJ xs _ _ hc.2 h.2⟩
theorem Dz{x:AV}{v:Value}(hc:lk x=true)(h:AB w F' β x v):AB w F β x v:=by
 cases x with
 | dU xs=>obtain⟨vs,e,hl,hr⟩:=h;exact⟨vs,e,hl,qJ xs _ _ hc hr⟩
 | _=>
  simp only[AB,lk]at h hc ⊢;exact sM hc h
theorem vF{k:SK}{x y:AV}{v:Value}(e:ta k x=some y)(h:Rel w F x v):Rel w F y v:=by
 cases k with
 | slice fl sz=>
  simp only[ta]at e;split at e
  ·cases e;cases h;exact .uL _ _
  ·obtain⟨h1,e⟩:=cV e;rw[ae]at h1;have e1:=eq_of_beq h1.1;have e2:=aj h1.2;subst e1;subst e2;cases e;exact h
  ·cases e
 | any=>
  simp only[ta]at e;split at e
  ·cases e;cases h;exact .oB
  ·cases e;cases h;exact .nR _ _
  ·cases e;exact h
 | _=>simp only[ta]at e;cases e;exact h
theorem pW:∀(ks:List SK) (xs ys:List AV) (u:Nat->Value),th ks xs=some ys->(∀j c,xs[j]?=some c->Rel w F c (u j))->ys.length<=xs.length/\ys.length=ks.length/\∀j c,ys[j]?=some c->Rel w F c (u j)
 | [],xs,ys,u,e,h=>by simp[th]at e;subst e;exact⟨cr _,rfl,by simp⟩
 | k::ks,[],ys,u,e,h=>by simp[th]at e
 | k::ks,x::xs,ys,u,e,h=>by
  simp only[th]at e;split at e
  ·rename_i y s hy hs;cases e;obtain⟨l1,l2,h2⟩:=pW ks xs s (λj=>u (j+1)) hs (λj c hj=>h (j+1) c (by simpa using hj));refine⟨by simpa using l1,by simp[l2],λj c hj=>?_⟩;cases j with
   | zero=>simp at hj;subst hj;exact vF hy (h 0 x rfl)
   | succ j=>exact h2 j c (by simpa using hj)
  ·cases e
theorem pX{t:TypeId}{x y:AV}{v:Value}(hG:dK P G)(e:vG G t x=some y)(h:Rel w F x v):Rel w F y v:=by
 unfold vG at e;split at e
 ·rename_i ti ko;have hT:=hG.ti t ti ko;split at e
  ·rename_i cs;obtain⟨h1,e⟩:=cV e;have h1:=aj h1;rw[aA]at e;obtain⟨ys,hy,rfl⟩:=e;cases h with|agg cs vs hl hr=>
   obtain⟨l1,l2,h2⟩:=pW _ _ _ _ hy hr;exact .agg ys vs (by rw[hl,l2,hT.NB,h1]) h2
  ·rename_i cs;split at e
   ·split at e
    ·rename_i ei qj;rw[aA]at e;obtain⟨ys,hy,rfl⟩:=e;cases h with|rd cs ad u hF hc hr=>
     obtain⟨l1,l2,h2⟩:=pW _ _ _ _ hy hr;exact .rd ys ad u hF (λj hj=>hc j (by omega)) h2
    ·cases e
   ·cases e
  ·split at e
   ·exact vF e h
   ·cases e
 ·cases e
theorem tj(hG:dK P G):∀(ts:List TypeId) (xs ys:List AV) (u:Nat->Value),jt G ts xs=some ys->(∀j c,xs[j]?=some c->Rel w F c (u j))->ys.length=xs.length/\∀j c,ys[j]?=some c->Rel w F c (u j)
 | [],[],ys,u,e,h=>by simp[jt]at e;subst e;exact⟨rfl,by simp⟩
 | [],_::_,ys,u,e,h=>by simp[jt]at e
 | _::_,[],ys,u,e,h=>by simp[jt]at e
 | t::ts,x::xs,ys,u,e,h=>by
  simp only[jt]at e;split at e
  ·rename_i y s hy hs;cases e;obtain⟨l1,h2⟩:=tj hG ts xs s (λj=>u (j+1)) hs (λj c hj=>h (j+1) c (by simpa using hj));refine⟨by simp[l1],λj c hj=>?_⟩;cases j with
   | zero=>simp at hj;subst hj;exact pX hG hy (h 0 x rfl)
   | succ j=>exact h2 j c (by simpa using hj)
  ·cases e
end
theorem Ah(b:oK):La (ix b)=some b:=by cases b<;>rfl
theorem o5(ord:List Nat)(f:Nat->oK)(j:Nat):Mem.gg (ord.map λi=>ix (f i)) j=(ord[j]?).map f:=by
 unfold Mem.gg;simp only[aL];cases ord[j]? with
 | none=>rfl
 | some i=>exact Ah _
theorem ye{m:Mem}(xs:List AV):Good m (xs.foldl (visit 6 m) []):=iJ (λord x h=>lS 6 ord x h) xs [] ⟨by simp,by simp⟩
theorem vA(m:Mem)(xs:List AV):Good m (iU m xs):=by
 obtain⟨h1,h2⟩:=ye (m:=m) xs;unfold iU;refine⟨?_,λi hi=>?_⟩
 ·rw[List.nodup_append];refine⟨h1.filter _,h1.filter _,?_⟩;intro a ha b hb e;subst e;simp only[cE]at ha hb;have:=hb.2;rw[ha.2]at this;cases this
 ·rcases aK.1 hi with hi|hi
  ·exact h2 i (cE.1 hi).1
  ·exact h2 i (cE.1 hi).1
theorem sV(m:Mem)(xs:List AV):(iU m xs).filter (λi=>mH (m i))=(xs.foldl (visit 6 m) []).filter (λi=>mH (m i)):=by
 unfold iU;rw[List.filter_append,List.filter_filter,List.filter_filter];simp
theorem yO(m:Mem)(xs:List AV){j:Nat}(hj:j<((iU m xs).filter λi=>mH (m i)).length):∃id tb cs,(iU m xs)[j]?=some id/\m id=some (.box tb cs):=by
 rw[sV]at hj;obtain⟨id,hid⟩:∃id,((xs.foldl (visit 6 m) []).filter λi=>mH (m i))[j]?=some id:=⟨_,aP hj⟩;have hb:=(cE.1 (aO hid)).2;refine⟨id,?_⟩;have e:(iU m xs)[j]?=some id:=by
  unfold iU;rw[aN hj];exact hid
 cases hm:m id with
 | none=>rw[hm]at hb;cases hb
 | some b=>
  cases b with
  | box tb cs=>exact⟨tb,cs,e,rfl⟩
  | row fl sz ys=>rw[hm]at hb;cases hb
theorem Ge(m:Mem)(xs:List AV){j id:Nat}(hj:((iU m xs).filter λi=>mH (m i)).length<=j)(h:(iU m xs)[j]?=some id):mH (m id)=false:=by
 rw[sV]at hj;unfold iU at h;rw[aQ hj]at h;have:=(cE.1 (aO h)).2;simpa using this
theorem CE:∀(bs:List AV) (k:Nat),(∀j c,bs[j]?=some c->j<k->∃tb cs,c=.fn tb cs)->(∀c,bs[k]?=some c->∀tb cs,c≠.fn tb cs)->k<=bs.length->kR bs=k
 | [],k,_,_,h=>by
  have:k=0:=by simpa using h
  subst this;rfl
 | x::bs,0,_,h2,_=>by
  have:=h2 x rfl;cases x<;>first|rfl|exact absurd rfl (this _ _)
 | x::bs,k+1,h1,h2,h3=>by
  obtain⟨tb,cs,rfl⟩:=h1 0 x rfl (by omega);simp only[kR];rw[CE bs k (λj c hj hk=>h1 (j+1) c (by simpa using hj) (by omega)) (λc hc=>h2 c (by simpa using hc)) (by simpa using h3)]
theorem DO(m:Mem)(xs:List AV):kR ((iU m xs).map λi=>ix (jr (iU m xs) (m i)))=((iU m xs).filter λi=>mH (m i)).length:=by
 apply CE
 ·intro j c hj hk;obtain⟨id,tb,cs,h1,h2⟩:=yO m xs hk;rw[aL,h1]at hj;simp only[cz,aY,h2]at hj;exact⟨_,_,hj.symm⟩
 ·intro c hc tb cs;rw[aL]at hc;cases h:(iU m xs)[((iU m xs).filter λi=>mH (m i)).length]? with
  | none=>rw[h]at hc;cases hc
  | some id=>
   rw[h]at hc;have hb:=Ge m xs (aJ _) h;have fN:=(vA m xs).2 id (aO h);simp only[cz,aY]at hc;cases hm:m id with
   | none=>exact absurd hm fN
   | some b=>
    cases b with
    | box tb cs=>rw[hm]at hb;cases hb
    | row fl sz ys=>
     rw[hm]at hc;rw[<-hc];intro e;cases e
 ·rw[af];exact List.length_filter_le _ _
section
variable {R:Type} {P:Program} {G:eH} {o:Oper} {a:Act} {w w' : World} {W0:eC} {F0 U F F' : Nat->Prop} {id:Nat} {L L' : AV->Value->Prop} {K:AV->Mem->Option R} {r:R} {m m' : Mem} {μ eM β:Mu} {S:List AV}
def ET(w:World)(F:Nat->Prop)(μ:Mu)(m:Mem)(U:Nat->Prop)(x:AV)(v:Value):Prop:=
 match x with
 | .ptr _ _ | .fn _ _=>eB w F μ m U x v
 | x=>Rel w F x v
theorem ET.s{x:AV}{v:Value}(h:ET w F μ m U x v):eB w F μ m U x v:=by
 cases x<;>first|exact h|exact dI (dE (eE h))
theorem zJ(h:de W0 F0 U m L w μ F)(I:List Nat){x:AV}{v:Value}(hx:eB w F μ m U x v):eB w (λb=>F b\/eh μ m I b) μ (lJ m I) U x v:=by
 refine hx.mono (λ_ h=>.inl h) (λ_ _=>rfl) (λ_ h=>h) (λi _=>⟨?_,λ_=>rfl⟩);rw[gF];split
 ·cases m i with | none=>trivial | some y=>cases y<;>trivial
 ·exact .refl _
theorem wo(h:de W0 F0 U m L w μ F)(I:List Nat):∀(cs ys:List AV) (u:Nat->Value),Ad m cs=some ys->(∀j c,cs[j]?=some c->ij w F μ m U c (u j))->(∀i∈cs.flatMap jT,i∈I)->
  ys.length=cs.length/\∀j c,ys[j]?=some c->ij w (λb=>F b\/eh μ m I b) μ (lJ m I) U c (u j)
 | [],ys,u,hv,_,_=>by simp[Ad]at hv;subst hv;exact⟨rfl,by simp⟩
 | x::r,ys,u,hv,hr,hI=>by
  simp only[Ad]at hv;split at hv
  ·rename_i y s hy hs;cases hv;obtain⟨l2,r2⟩:=wo h I r s (λj=>u (j+1)) hs (λj c hj=>hr (j+1) c (by simpa using hj)) (λi hi=>hI i (by simp only[bC,aK];exact .inr hi));refine⟨by simp[l2],λj c hj=>?_⟩;cases j with
   | succ j=>exact r2 j c (by simpa using hj)
   | zero=>
    simp at hj;subst hj;have hx:=hr 0 x rfl;have Xs : lx m x=some y->ij w (λb=>F b\/eh μ m I b) μ (lJ m I) U y (u 0):=λhy=>
     iP (oO h (fk hx) hy I (λi hi=>hI i (by simp only[bC,aK];exact .inl hi)))
    cases x with
    | ptr id off=>
     simp at hy;subst hy;have:=zJ h I (dI (dE (fk hx)));exact this
    | _=>exact Xs hy
  ·cases hv
theorem H6(h:de W0 F0 U m L w μ F)(I:List Nat){x y:AV}{v:Value}(hx:eB w F μ m U x v)(hv:Kc m x=some y)(hI:∀i∈xo m x,i∈I) :
  ET w (λb=>F b\/eh μ m I b) μ (lJ m I) U y v:=by
 have other:fa m x=some y->(∀i∈gS m x,i∈I)->(∀f cs,x≠.fn f cs)->(∀id off,x≠.ptr id off)->ET w (λb=>F b\/eh μ m I b) μ (lJ m I) U y v:=by
  intro hv hI h1 h2;have hr:=oQ h hx hv I hI;cases y with
  | ptr=>cases hr
  | fn g cs=>
   exfalso;cases x<;>simp only[fa,sr,lx,ig]at hv<;>first|(cases hv;done)|exact h1 _ _ rfl|exact h2 _ _ rfl|(simp at hv;done)|(split at hv<;>cases hv)|skip
  | _=>exact hr
 cases x with
 | ptr id off=>
  simp only[Kc,aY]at hv;subst hv;exact zJ h I hx
 | fn f fj=>
  simp only[Kc,aA]at hv;obtain⟨ys,qe,rfl⟩:=hv;obtain⟨vs,CV,hl,hr⟩:=hx;obtain⟨l1,r1⟩:=wo h I fj ys (λj=>vs.getD j undef) qe hr hI;exact⟨vs,CV,by rw[l1,hl],r1⟩
 | _=>exact other hv hI (by simp) (by simp)
theorem wB(h:de W0 F0 U m L w μ F)(I:List Nat):∀(xs ys:List AV) (u:Nat->Value),wC m xs=some ys->(∀j c,xs[j]?=some c->eB w F μ m U c (u j))->(∀i∈xs.flatMap (xo m),i∈I)->
  ys.length=xs.length/\∀j c,ys[j]?=some c->ET w (λb=>F b\/eh μ m I b) μ (lJ m I) U c (u j)
 | [],ys,u,hv,_,_=>by simp[wC]at hv;subst hv;exact⟨rfl,by simp⟩
 | x::r,ys,u,hv,hr,hI=>by
  simp only[wC]at hv;split at hv
  ·rename_i y s hy hs;cases hv;obtain⟨l2,r2⟩:=wB h I r s (λj=>u (j+1)) hs (λj c hj=>hr (j+1) c (by simpa using hj)) (λi hi=>hI i (by simp only[bC,aK];exact .inr hi));refine⟨by simp[l2],λj c hj=>?_⟩;cases j with
   | zero=>simp at hj;subst hj;exact H6 h I (hr 0 x rfl) hy (λi hi=>hI i (by simp only[bC,aK];exact .inl hi))
   | succ j=>exact r2 j c (by simpa using hj)
  ·cases hv
theorem tc(hG:dK P G):∀(ts:List TypeId) (xs ys:List AV) (u:Nat->Value),oh G ts xs=some ys->(∀j c,xs[j]?=some c->ET w F μ m U c (u j))->ys.length=xs.length/\∀j c,ys[j]?=some c->eB w F μ m U c (u j)
 | [],xs,ys,u,e,h=>by simp[oh]at e;subst e;exact⟨rfl,λj c hj=>(h j c hj).s⟩
 | _::_,[],ys,u,e,h=>by simp[oh]at e
 | t::ts,x::xs,ys,u,e,h=>by
  simp only[oh]at e;split at e
  ·rename_i y s hy hs;cases e;obtain⟨l2,r2⟩:=tc hG ts xs s (λj=>u (j+1)) hs (λj c hj=>h (j+1) c (by simpa using hj));refine⟨by simp[l2],λj c hj=>?_⟩;cases j with
   | succ j=>exact r2 j c (by simpa using hj)
   | zero=>
    simp at hj;subst hj;have hx:=h 0 x rfl;cases x<;>simp only[KG]at hy<;>first|(cases hy;exact hx.s)|exact dI (dE (eE (pX hG hy hx)))
  ·cases e
theorem tu{f:Nat->Nat}:∀(n:Nat) (x:AV) (v:Value),Rel w F x v->Rel w F (xc n f x) v
 | 0,_,v,_=>.undef v
 | n+1,x,v,h=>by
  cases h with
  | v _ h=>exact .v _ h
  | undef _=>exact .undef _
  | oB=>exact .oB
  | nR t x=>exact .nR _ _
  | uL fl sz=>exact .uL fl sz
  | sl fl sz xs ad cap u h1 h2 h3 h4 h5 h6 h7=>exact .sl fl sz xs ad cap u h1 h2 h3 h4 h5 h6 h7
  | rd cs ad u h1 h2 h3=>exact .rd cs ad u h1 h2 h3
  | agg cs vs hl hr=>
   refine .agg _ vs (by simp[hl]) (λj c hj=>?_);simp only[aL,aA]at hj;obtain⟨y,hy,rfl⟩:=hj;exact tu n y _ (hr j y hy)
  | fn g cs vs v hv hl hr=>
   refine .fn g _ vs _ hv (by simp[hl]) (λj c hj=>?_);simp only[aL,aA]at hj;obtain⟨y,hy,rfl⟩:=hj;exact tu n y _ (hr j y hy)
structure Ig(f:Nat->Nat)(m m' : Mem)(μ eM : Mu)(U U' : Nat->Prop):Prop where
 mem:∀j,U j->m' (f j)≠none->∃b,m j=some b/\m' (f j)=l8 f (some b)
 mu:∀j,U j->m' (f j)≠none->eM (f j)=μ j
 used:∀j,U j->m' (f j)≠none->U' (f j)
 gone:∀j,U j->m' (f j)=none->U' (f j)
theorem Gt{f:Nat->Nat}{U' : Nat->Prop}(hc:Ig f m m' μ eM U U')(n:Nat){x:AV}{v:Value}(h:ij w F μ m U x v):ij w F eM m' U' (xc n f x) v:=by
 cases n with
 | zero=>exact jo
 | succ n=>
  obtain⟨h1,h⟩:=h;have fu:Rel w F x v->ij w F eM m' U' (xc (n+1) f x) v:=λh=>iP (tu (n+1) x v h);have PL:∀j,U j->U' (f j):=λj hj=>by
   by_cases e:m' (f j)=none
   ·exact hc.gone j hj e
   ·exact hc.used j hj e
  cases x with
  | own id off l=>
   refine⟨λ_=>h1 rfl,PL _ h.1,λfl sz xs hx=>?_⟩;have fN:m' (f id)≠none:=by rw[hx];simp
   obtain⟨b,hb,ia⟩:=hc.mem id h.1 fN;rw[hx]at ia;rw[hc.mu id h.1 fN];cases b with
   | box tb cs=>cases ia
   | row gk im mO=>cases ia;exact h.2 _ _ _ hb
  | qt id i off=>
   refine⟨λ_=>h1 rfl,PL _ h.1,λfl sz xs hx=>?_⟩;have fN:m' (f id)≠none:=by rw[hx];simp
   obtain⟨b,hb,ia⟩:=hc.mem id h.1 fN;rw[hx]at ia;rw[hc.mu id h.1 fN];cases b with
   | box tb cs=>cases ia
   | row gk im mO=>cases ia;exact h.2 _ _ _ hb
  | ptr id off=>
   refine⟨λ_=>h1 rfl,PL _ h.1,λtb cs hx=>?_⟩;have fN:m' (f id)≠none:=by rw[hx];simp
   obtain⟨b,hb,ia⟩:=hc.mem id h.1 fN;rw[hc.mu id h.1 fN];cases b with
   | box uJ jh=>exact h.2 _ _ hb
   | row gk im mO=>rw[hx]at ia;cases ia
  | bs id=>
   refine⟨λ_=>h1 rfl,PL _ h.1,λtb cs hx=>?_⟩;have fN:m' (f id)≠none:=by rw[hx];simp
   obtain⟨b,hb,ia⟩:=hc.mem id h.1 fN;rw[hc.mu id h.1 fN];rw[hx]at ia;cases b with
   | box uJ jh=>cases ia;rw[af];exact h.2 _ _ hb
   | row gk im mO=>cases ia
  | fr _ _ _=>exact h.elim
  | v _=>exact fu h
  | sl _ _ _=>exact fu h
  | rd _=>exact fu h
  | agg _=>exact fu h
  | dU _=>exact fu h
  | fn _ _=>exact fu h
  | err _=>exact fu h
  | undef=>exact fu h
theorem LM{f:Nat->Nat}{U' : Nat->Prop}(hc:Ig f m m' μ eM U U')(n:Nat){x:AV}{v:Value}(h:eS w F μ m U x v):eS w F eM m' U' (xc n f x) v:=by
 cases n with
 | zero=>exact fk jo
 | succ n=>
  cases x
  case fn g cs=>
   obtain⟨vs,e,hl,hr⟩:=h;refine⟨vs,e,by simp[hl],λj c hj=>?_⟩;simp only[aL,aA]at hj;obtain⟨y,hy,rfl⟩:=hj;exact Gt hc n (hr j y hy)
  all_goals exact fk (Gt (U:=U) hc (n+1) h)
theorem sQ{x:AV}{v:Value}{w1:World}{F1:Nat->Prop}{Ik:Mu}{m1:Mem}{U1:Nat->Prop}(hp:wY x=true)(h:eB w F μ m U x v):eB w1 F1 Ik m1 U1 x v:=by
 have hS:∀{x:AV} {v:Value},oc x=true->eS w F μ m U x v->eS w1 F1 Ik m1 U1 x v:=by
  intro x v hp h;cases x with
  | v y=>obtain⟨h1,h2⟩:=h;cases h2 with|v _ h3=>exact⟨h1,.v _ h3⟩
  | err b=>obtain⟨h1,h2⟩:=h;cases h2 with|oB=>exact⟨h1,.oB⟩|nR t y=>exact⟨h1,.nR t y⟩
  | _=>cases hp
 have hA:∀{x:AV} {v:Value},pQ x=true->kJ w F μ m U x v->kJ w1 F1 Ik m1 U1 x v:=by
  intro x v hp h;cases x
  case agg cs=>
   obtain⟨vs,e,hl,hr⟩:=h;exact⟨vs,e,hl,λj c hj=>hS (ay.1 hp c (aO hj)) (hr j c hj)⟩
  all_goals exact dE (hS hp h)
 cases x
 case dU cs=>
  obtain⟨vs,e,hl,hr⟩:=h;exact⟨vs,e,hl,λj c hj=>hA (ay.1 hp c (aO hj)) (hr j c hj)⟩
 all_goals exact dI (hA hp h)
end
section
variable {R:Type} {P:Program} {G:eH} {o:Oper} {a:Act} {w w' : World} {W0:eC} {F0 U F F' : Nat->Prop} {id:Nat} {L L' : AV->Value->Prop} {K:AV->Mem->Option R} {r:R} {m m' : Mem} {μ eM β:Mu} {S:List AV}
def Ao(m m' : Mem)(μ eM : Mu)(i:Nat):Prop:=
 (ec (m i) (m' i)/\(m' i≠none->eM i=μ i))\/∃tb cs uJ jh b n n',m i=some (.box tb cs)/\m' i=some (.box uJ jh)/\μ i=some (b,0,n)/\eM i=some (b,0,n')/\jh.length=cs.length
theorem ij.mY{U' : Nat->Prop}{x:AV}{v:Value}(h:ij w F μ m U x v)(hF:∀b,F b->F' b)(hw:∀b,F b->w'.heap[b]?=w.heap[b]?)(hU:∀i,U i->U' i)(hm:∀i,U i->Ao m m' μ eM i):ij w' F' eM m' U' x v:=by
 have fu:Rel w F x v->ij w' F' eM m' U' x v:=λh=>iP (h.mono hF hw);have one:∀i,U i->(ec (m i) (m' i)/\(m' i≠none->eM i=μ i))->(x=.own i 0 none->True)->(∀j,(∃o l,x=.own j o l)\/(∃a b,x=.qt j a b)\/(∃o,x=.ptr j o)\/x=.bs j->j=i)->ij w' F' eM m' U' x v:=by
  intro i hi hs _ hx;have h0:=h;obtain⟨h1,h2⟩:=h;cases x with
  | own id off l=>
   obtain rfl:=hx id (.inl ⟨off,l,rfl⟩);exact ij.mono (U:=λj=>j=id) (m:=m) (μ:=μ) (F:=F) (w:=w) ⟨h1,rfl,h2.2⟩ hF hw (λj hj=>by subst hj;exact hU _ hi) (λj hj=>by subst hj;exact hs)
  | qt id a b=>
   obtain rfl:=hx id (.inr (.inl ⟨a,b,rfl⟩));exact ij.mono (U:=λj=>j=id) (m:=m) (μ:=μ) (F:=F) (w:=w) ⟨h1,rfl,h2.2⟩ hF hw (λj hj=>by subst hj;exact hU _ hi) (λj hj=>by subst hj;exact hs)
  | ptr id off=>
   obtain rfl:=hx id (.inr (.inr (.inl ⟨off,rfl⟩)));exact ij.mono (U:=λj=>j=id) (m:=m) (μ:=μ) (F:=F) (w:=w) ⟨h1,rfl,h2.2⟩ hF hw (λj hj=>by subst hj;exact hU _ hi) (λj hj=>by subst hj;exact hs)
  | bs id=>
   obtain rfl:=hx id (.inr (.inr (.inr rfl)));exact ij.mono (U:=λj=>j=id) (m:=m) (μ:=μ) (F:=F) (w:=w) ⟨h1,rfl,h2.2⟩ hF hw (λj hj=>by subst hj;exact hU _ hi) (λj hj=>by subst hj;exact hs)
  | fr _ _ _=>exact h2.elim
  | v _=>exact fu h2
  | sl _ _ _=>exact fu h2
  | rd _=>exact fu h2
  | agg _=>exact fu h2
  | dU _=>exact fu h2
  | fn _ _=>exact fu h2
  | err _=>exact fu h2
  | undef=>exact fu h2
 have h0:=h;obtain⟨h1,h2⟩:=h;cases x with
 | own id off l=>
  rcases hm id h2.1 with hs|⟨tb,cs,uJ,jh,b,n,n',e1,e2,e3,e4,e5⟩
  ·exact one id h2.1 hs (λ_=>trivial) (λj hj=>by rcases hj with⟨_,_,hj⟩|⟨_,_,hj⟩|⟨_,hj⟩|hj<;>cases hj;rfl)
  ·exact⟨h1,hU _ h2.1,λfl sz xs hx=>by rw[e2]at hx;cases hx⟩
 | qt id i off=>
  rcases hm id h2.1 with hs|⟨tb,cs,uJ,jh,b,n,n',e1,e2,e3,e4,e5⟩
  ·exact one id h2.1 hs (λ_=>trivial) (λj hj=>by rcases hj with⟨_,_,hj⟩|⟨_,_,hj⟩|⟨_,hj⟩|hj<;>cases hj;rfl)
  ·exact⟨h1,hU _ h2.1,λfl sz xs hx=>by rw[e2]at hx;cases hx⟩
 | ptr id off=>
  rcases hm id h2.1 with hs|⟨tb,cs,uJ,jh,b,n,n',e1,e2,e3,e4,e5⟩
  ·exact one id h2.1 hs (λ_=>trivial) (λj hj=>by rcases hj with⟨_,_,hj⟩|⟨_,_,hj⟩|⟨_,hj⟩|hj<;>cases hj;rfl)
  ·refine⟨h1,hU _ h2.1,λTT Mv hx=>?_⟩;obtain⟨b0,n0,g1,g2⟩:=h2.2 tb cs e1;rw[e3]at g1;cases g1;exact⟨b,n',e4,g2⟩
 | bs id=>
  rcases hm id h2.1 with hs|⟨tb,cs,uJ,jh,b,n,n',e1,e2,e3,e4,e5⟩
  ·exact one id h2.1 hs (λ_=>trivial) (λj hj=>by rcases hj with⟨_,_,hj⟩|⟨_,_,hj⟩|⟨_,hj⟩|hj<;>cases hj;rfl)
  ·refine⟨h1,hU _ h2.1,λTT Mv hx=>?_⟩;obtain⟨b0,n0,g1,g2⟩:=h2.2 tb cs e1;rw[e3]at g1;cases g1;rw[e2]at hx;cases hx;rw[e5];exact⟨b,n',e4,g2⟩
 | fr _ _ _=>exact h2.elim
 | v _=>exact fu h2
 | sl _ _ _=>exact fu h2
 | rd _=>exact fu h2
 | agg _=>exact fu h2
 | dU _=>exact fu h2
 | fn _ _=>exact fu h2
 | err _=>exact fu h2
 | undef=>exact fu h2
theorem eS.mY{U' : Nat->Prop}{x:AV}{v:Value}(h:eS w F μ m U x v)(hF:∀b,F b->F' b)(hw:∀b,F b->w'.heap[b]?=w.heap[b]?)(hU:∀i,U i->U' i)(hm:∀i,U i->Ao m m' μ eM i):eS w' F' eM m' U' x v:=by
 cases x
 case fn f cs=>obtain⟨vs,e,hl,h⟩:=h;exact⟨vs,e,hl,λj c hc=>(h j c hc).mY hF hw hU hm⟩
 all_goals exact fk (ij.mY (U:=U) h hF hw hU hm)
theorem kJ.mY{U' : Nat->Prop}{x:AV}{v:Value}(h:kJ w F μ m U x v)(hF:∀b,F b->F' b)(hw:∀b,F b->w'.heap[b]?=w.heap[b]?)(hU:∀i,U i->U' i)(hm:∀i,U i->Ao m m' μ eM i):kJ w' F' eM m' U' x v:=by
 cases x
 case agg cs=>obtain⟨vs,e,hl,h⟩:=h;exact⟨vs,e,hl,λj c hc=>(h j c hc).mY hF hw hU hm⟩
 all_goals exact dE (eS.mY (U:=U) h hF hw hU hm)
theorem eB.mY{U' : Nat->Prop}{x:AV}{v:Value}(h:eB w F μ m U x v)(hF:∀b,F b->F' b)(hw:∀b,F b->w'.heap[b]?=w.heap[b]?)(hU:∀i,U i->U' i)(hm:∀i,U i->Ao m m' μ eM i):eB w' F' eM m' U' x v:=by
 cases x
 case dU cs=>obtain⟨vs,e,hl,h⟩:=h;exact⟨vs,e,hl,λj c hc=>(h j c hc).mY hF hw hU hm⟩
 all_goals exact dI (kJ.mY (U:=U) h hF hw hU hm)
def handed(ord:List Nat)(μ:Mu)(b:Nat):Prop:=∃(j id o n:Nat),ord[j]?=some id/\μ id=some (b,o,n)
def eC.sub(W0:eC)(ord:List Nat)(μ:Mu)(w:World)(hk:iT W0 w)(hn:∀b,handed ord μ b->¬ W0.N b):eC where
 root:=W0.root
 w:=w
 N:=λb=>b<w.heap.size/\¬ handed ord μ b
 lt:=λb h=>h.1
 F2:=λb hb=>⟨bA hb hk.root.size,λh=>hn b h (W0.F2 b hb)⟩
 sJ:=hk.root
 bk:=λi=>(((ord[i]?).bind μ).map (·.1)).getD 0
theorem de.handOver(h:de W0 F0 U m L w μ F){ord:List Nat}(hg:Good m ord)(hn:∀b,handed ord μ b->¬ W0.N b){L' : AV->Value->Prop}(hL:∀c v,L' c v->∃n x,c=uA n ord x/\eB w F μ m U x v) :
  de (W0.sub ord μ w h.below hn) F (λi=>i<8*ord.length) (Mem.gg (ord.map λi=>ix (jr ord (m i)))) L' w (λj=>(ord[j]?).bind μ) F:=by
 have kE:∀j b',Mem.gg (ord.map λi=>ix (jr ord (m i))) j=some b'->∃id b,ord[j]?=some id/\m id=some b/\b'=jr ord (some b):=by
  intro j b' hj;rw[o5,aA]at hj;obtain⟨id,hid,rfl⟩:=hj;cases hm:m id with
  | none=>exact absurd hm (hg.2 id (aO hid))
  | some b=>exact⟨id,b,hid,hm,rfl⟩
 have eG:∀(j id:Nat),ord[j]?=some id->j<ord.length:=λj id hj=>(aB.1 hj).1;have hc:MF ord m (Mem.gg (ord.map λi=>ix (jr ord (m i)))) μ (λj=>(ord[j]?).bind μ) (λi=>i<8*ord.length):=by
  refine⟨λj id hj=>?_,λj id hj=>by simp[hj],λj id hj=>by have:=eG j id hj;show j<8*ord.length;omega⟩;cases hm:m id with
  | none=>exact absurd hm (hg.2 id (aO hj))
  | some b=>exact .inr ⟨b,rfl,by rw[o5,hj,cz,hm]⟩
 refine{ below:=iT.refl _,dC:=λb hb=>⟨(h.dC b hb).1,.inl hb⟩,sub:=λ_ hb=>hb,gl:=λb hb=>h.gl b hb,used:=?_,j7:=?_,own:=?_,inj:=?_,dB:=?_ }
 ·intro j b' hj;obtain⟨id,b,hid,_,_⟩:=kE j b' hj;exact hc.used j id hid
 ·intro j b' hj;obtain⟨id,b,hid,hb,rfl⟩:=kE j b' hj;have hB:=h.j7 id b hb;cases b with
  | box tb cs=>
   obtain⟨b,C,f,e1,e2,e3,e4,e5⟩:=hB;refine⟨b,C,f,by simp[hid,e1],e2,by simpa using e3,e4,λk c hk=>?_⟩;simp only[aL,aA]at hk;obtain⟨y,hy,rfl⟩:=hk;exact yF hc 3 (e5 k y hy)
  | row fl sz xs=>
   obtain⟨e1,e2,e3⟩:=hB;refine⟨e1,e2,?_⟩;simpa[hid]using e3
 ·intro j b' b o n hj hb;obtain⟨id,b1,hid,ow,rfl⟩:=kE j b' hj;simp only[hid,ab]at hb;obtain⟨_,h2,h3⟩:=h.own id b1 b o n ow hb;exact⟨λhN=>hN.2 ⟨j,id,o,n,hid,hb⟩,h2,h3⟩
 ·intro j j' b1 b2 b o n o' n' hj kZ hb ia;obtain⟨id,c1,hid,zB,rfl⟩:=kE j b1 hj;obtain⟨rp,c2,zw,Hg,rfl⟩:=kE j' b2 kZ;simp only[hid,ab]at hb;simp only[zw,ab]at ia;have e:=h.inj id rp c1 c2 b o n o' n' zB Hg hb ia;subst e;exact(List.getElem?_inj (eG j _ hid) hg.1).1 (hid.trans zw.symm)
 ·intro c v Sy;obtain⟨n,x,rfl,hx⟩:=hL c v Sy;exact F5 hc n hx
theorem tG{ord:List Nat}{id:Nat}(h:gZ ord id=none):id ∉ ord:=by
 intro hm;unfold gZ at h;rw[List.findIdx?_eq_none_iff]at h;have:=h id hm;simp at this
theorem de.FH(h:de W0 F0 U m L w μ F){ord I:List Nat}{kb:Nat}(hg:Good m ord)(D8:∀i∈ord,i ∉ I)(hn:∀b,handed ord μ b->¬ W0.N b)(hid:∀j,j<8->¬ U (id+j))
  (oH:∀j,j<kb->∃i tb cs,ord[j]?=some i/\m i=some (.box tb cs)) {os:List AV} (Ax:CC m ord kb os=true) {y:AV} {v:Value} (hp:wY y=true)
  (hI:de (W0.sub ord μ w h.below hn) (λb=>F b\/eh μ m I b) (λi=>i<os.length) (Mem.gg os) (λc u=>c=y/\u=v) w' eM F')
  (Hh:∀j,j<kb->∃n,eM j=some ((W0.sub ord μ w h.below hn).bk j,0,n)) :
  ∃Le ,de W0 F0 (U8 U id) (lf m ord kb id I os) (λc u=>L c u\/(c=y/\u=v)) w' Le F':=by
 obtain⟨⟨Zi,M2⟩,XD⟩:(kb<=os.length/\os.length - kb<=8)/\_:=by
  unfold CC at Ax;rw[ae,ae]at Ax;exact⟨⟨aD Ax.1.1,aD Ax.1.2⟩,Ax.2⟩
 have SF:∀j,j<kb->∃i tb cs jh,ord[j]?=some i/\m i=some (.box tb cs)/\os[j]?=some (.fn tb jh)/\jh.length=cs.length:=by
  intro j hj;obtain⟨i,tb,cs,h1,h2⟩:=oH j hj;have:=ay.1 XD j (bK.2 hj);rw[ah,h1,cj,h2]at this;split at this
  ·rename_i uJ jh TT Mv e1 e2;cases e2;rw[ae]at this;obtain rfl:=aj this.2;exact⟨i,_,cs,jh,h1,h2,e1,aj this.1⟩
  ·cases this
 have eG:∀(j i:Nat),ord[j]?=some i->j<ord.length:=λj id hj=>(aB.1 hj).1;have zr:∀j i,ord[j]?=some i->U i:=λj i hj=>by
  cases hm:m i with
  | none=>exact absurd hm (hg.2 i (aO hj))
  | some b=>exact h.used i b hm
 have Bd:∀i,U i->¬ (id<=i/\i<id+8):=λi hi hr=>hid (i - id) (by omega) (by rw[show id+(i - id)=i by omega];exact hi)
 -- FD new memory,by cases
 have A9:∀j,kb<=j->j<os.length->lf m ord kb id I os (id+(j - kb))=l8 (lZ ord kb id) (Mem.gg os j):=by
  intro j h1 h2;have e:(Nat.ble id (id+(j - kb))&&Nat.blt (id+(j - kb)) (id+(os.length - kb)))=true:=by
   rw[ae];exact⟨bX (by omega),bX (by show id+(j - kb)+1<=_;omega)⟩
  unfold lf;rw[e,ak];rw[show kb+(id+(j - kb) - id)=j by omega]
 have A8:∀i,U i->lf m ord kb id I os i=match gZ ord i with
   | some j=>bif Nat.blt j kb then l8 (lZ ord kb id) (Mem.gg os j)else none
   | none=>bif I.contains i then none else m i:=by
  intro i hi;have e:(Nat.ble id i&&Nat.blt i (id+(os.length - kb)))=false:=by
   rw[<-bm,ae];rintro⟨h1,h2⟩;have h1:=aD h1;have h2:i+1<=_:=aD h2;exact Bd i hi (by omega)
  unfold lf;rw[e];rfl
 have By:∀j i,ord[j]?=some i->gZ ord i=some j:=by
  intro j i hj;cases hx:gZ ord i with
  | none=>exact absurd (aO hj) (tG hx)
  | some j'=>
   have h1:=gz hx;rw[(List.getElem?_inj (eG j' i h1) hg.1).1 (h1.trans hj.symm)]
 have w3:∀j i,j<kb->ord[j]?=some i->lf m ord kb id I os i=l8 (lZ ord kb id) (Mem.gg os j):=by
  intro j i h1 h2;rw[A8 i (zr j i h2),By j i h2];have:Nat.blt j kb=true:=bX h1;simp only[this,ak]
 have Gd:∀j i,kb<=j->ord[j]?=some i->lf m ord kb id I os i=none:=by
  intro j i h1 h2;rw[A8 i (zr j i h2),By j i h2];have:Nat.blt j kb=false:=by rw[<-bm];exact λe=>by have:j+1<=kb:=aD e;omega
  simp only[this,cond_false]
 have Ja:∀i,U i->i ∉ ord->lf m ord kb id I os i=lJ m I i:=by
  intro i hi D3;rw[A8 i hi,gF];cases hx:gZ ord i with
  | some j=>exact absurd (aO (gz hx)) D3
  | none=>
   simp only;by_cases Iy : i∈I
   ·rw[if_pos Iy];have:I.contains i=true:=by simpa using Iy
    rw[this];rfl
   ·rw[if_neg Iy];have:I.contains i=false:=by simpa using Iy
    rw[this];rfl
 -- Nu ids there U6
 have ids:∀i b,lf m ord kb id I os i=some b->(∃j,kb<=j/\j<os.length/\i=id+(j - kb))\/(∃j,j<kb/\ord[j]?=some i)\/(i ∉ ord/\i ∉ I/\m i=some b/\¬ (id<=i/\i<id+(os.length - kb))):=by
  intro i b hi;by_cases hr:id<=i/\i<id+(os.length - kb)
  ·exact .inl ⟨kb+(i - id),by omega,by omega,by omega⟩
  ·right;have e:(Nat.ble id i&&Nat.blt i (id+(os.length - kb)))=false:=by
    rw[<-bm,ae];rintro⟨h1,h2⟩;have h1:=aD h1;have h2:i+1<=_:=aD h2;exact hr ⟨h1,h2⟩
   unfold lf at hi;rw[e,cond_false]at hi;cases hx:gZ ord i with
   | some j=>
    rw[hx]at hi;simp only at hi;cases hb:Nat.blt j kb with
    | true=>exact .inl ⟨j,aD hb,gz hx⟩
    | false=>rw[hb]at hi;cases hi
   | none=>
    rw[hx]at hi;simp only at hi;cases hc:I.contains i with
    | true=>rw[hc]at hi;cases hi
    | false=>rw[hc]at hi;exact .inr ⟨tG hx,by simpa using hc,hi,hr⟩
 obtain⟨ν,RI⟩:∃ν:Mu,ν=λi=>if id<=i/\i<id+(os.length - kb)then eM (kb+(i - id))else(match gZ ord i with|some j=>if j<kb then eM j else μ i|none=>μ i):=⟨_,rfl⟩
 have Fj:∀j,kb<=j->j<os.length->ν (id+(j - kb))=eM j:=by
  intro j h1 h2;rw[RI];simp only;rw[if_pos (by omega),show kb+(id+(j - kb) - id)=j by omega]
 have B_:∀j i,j<kb->ord[j]?=some i->ν i=eM j:=by
  intro j i h1 h2;rw[RI];simp only;rw[if_neg (λhr=>Bd i (zr j i h2) (by omega)),By j i h2];simp only[h1,cb]
 have wH:∀i,U i->i ∉ ord->ν i=μ i:=by
  intro i hi D3;rw[RI];simp only;rw[if_neg (λhr=>Bd i hi (by omega))];cases hx:gZ ord i with
  | some j=>exact absurd (aO (gz hx)) D3
  | none=>rfl
 -- FD MJ stay in TQ blocks
 have Pv:∀j i,j<kb->ord[j]?=some i->∃tb cs jh b n n',m i=some (.box tb cs)/\os[j]?=some (.fn tb jh)/\jh.length=cs.length/\μ i=some (b,0,n)/\eM j=some (b,0,n'):=by
  intro j i hj hi;obtain⟨i',tb,cs,jh,h1,h2,h3,h4⟩:=SF j hj;rw[hi]at h1;cases h1;obtain⟨b,C,f,e1,e2,_⟩:=h.j7 i _ h2;obtain⟨n,Qa⟩:=Hh j hj;have eb:(W0.sub ord μ w h.below hn).bk j=b:=by
   show(((ord[j]?).bind μ).map (·.1)).getD 0=b;rw[hi];simp[e1]
  rw[eb]at Qa;exact⟨tb,cs,jh,b,_,n,h2,h3,h4,e1,Qa⟩
 have GG:∀b,b<w.heap.size->¬ handed ord μ b->w'.heap[b]?=w.heap[b]?:=λb h1 h2=>hI.below.block b ⟨h1,h2⟩;have US:∀b,(F b\/eh μ m I b)->b<w.heap.size/\¬ handed ord μ b:=by
  intro b hb;refine⟨?_,?_⟩
  ·rcases hb with hb|⟨i,_,hi,o,n,e⟩
   ·exact(h.dC b hb).1
   ·cases hm:m i with
    | none=>exact absurd hm hi
    | some x=>exact(h.own i x b o n hm e).2.1
  ·rintro⟨j,i,o,n,hj,eN⟩;cases hm:m i with
   | none=>exact absurd hm (hg.2 i (aO hj))
   | some x=>
    rcases hb with hb|⟨i',k8,D4,o',n',e'⟩
    ·exact(h.own i x b o n hm eN).2.2 hb
    ·cases ou : m i' with
     | none=>exact absurd ou D4
     | some x'=>
      have:=h.inj i i' x x' b o n o' n' hm ou eN e';subst this;exact D8 i (aO hj) k8
 have N6 : ∀b,(F b\/eh μ m I b)->w'.heap[b]?=w.heap[b]?:=λb hb=>GG b (US b hb).1 (US b hb).2;have GW:∀b,(F b\/eh μ m I b)->F' b:=hI.sub
 -- Lm FD Pr values lead to
 have hz:=h.freeze I;have KV:∀i,U i->Ao (lJ m I) (lf m ord kb id I os) μ ν i:=by
  intro i hi;by_cases qW:i∈ord
  ·obtain⟨j,hj⟩:=List.getElem?_of_mem qW;have Ix:lJ m I i=m i:=by rw[gF,if_neg (D8 i qW)]
   by_cases K2:j<kb
   ·obtain⟨tb,cs,jh,b,n,n',e1,e2,e3,e4,e5⟩:=Pv j i K2 hj;refine .inr ⟨tb,cs,tb,jh.map (xc 3 (lZ ord kb id)),b,n,n',by rw[Ix];exact e1,?_,e4,by rw[B_ j i K2 hj];exact e5,by rw[af];exact e3⟩;rw[w3 j i K2 hj];unfold Mem.gg;rw[e2];rfl
   ·refine .inl ⟨?_,λfN=>absurd (Gd j i (by omega) hj) fN⟩;rw[Gd j i (by omega) hj];cases lJ m I i with | none=>trivial | some b=>cases b<;>trivial
  ·refine .inl ⟨?_,λ_=>wH i hi qW⟩;rw[Ja i hi qW];exact .refl _
 -- ids of FD callee,as FD caller has VV
 have A0:∀j,kb<=j->lZ ord kb id j=id+(j - kb):=by
  intro j hj;have:Nat.blt j kb=false:=by rw[<-bm];exact λe=>by have:j+1<=kb:=aD e;omega
  simp[lZ,this]
 have A1:∀j i,j<kb->ord[j]?=some i->lZ ord kb id j=i:=by
  intro j i hj hi;have:Nat.blt j kb=true:=bX hj;simp[lZ,this,ah,hi]
 have L_:Ig (lZ ord kb id) (Mem.gg os) (lf m ord kb id I os) eM ν (λi=>i<os.length) (U8 U id):=by
  have Ji:∀j,j<os.length->lf m ord kb id I os (lZ ord kb id j)=l8 (lZ ord kb id) (Mem.gg os j)/\ν (lZ ord kb id j)=eM j/\U8 U id (lZ ord kb id j):=by
   intro j hj;by_cases K2:j<kb
   ·obtain⟨i,tb,cs,h1,h2⟩:=oH j K2;rw[A1 j i K2 h1];exact⟨w3 j i K2 h1,B_ j i K2 h1,.inl (zr j i h1)⟩
   ·rw[A0 j (by omega)];exact⟨A9 j (by omega) hj,Fj j (by omega) hj,.inr (by omega)⟩
  refine⟨λj hj fN=>?_,λj hj _=>(Ji j hj).2.1,λj hj _=>(Ji j hj).2.2,λj hj _=>(Ji j hj).2.2⟩;have h1:=(Ji j hj).1;cases hb:Mem.gg os j with
  | none=>rw[hb]at h1;exact absurd h1 fN
  | some b=>exact⟨b,rfl,by rw[h1,hb]⟩
 have holdsNew:∀j i b',lZ ord kb id j=i->ν i=eM j->lf m ord kb id I os i=l8 (lZ ord kb id) (Mem.gg os j)->lf m ord kb id I os i=some b'->Holds w' F' ν (lf m ord kb id I os) (U8 U id) i b':=by
  intro j i b' hr R5 ho ia;cases hb:Mem.gg os j with
  | none=>rw[hb]at ho;rw[ho]at ia;cases ia
  | some b=>
   have hB:=hI.j7 j b hb;rw[ho,hb]at ia;cases b with
   | box tb cs=>
    cases ia;obtain⟨b,C,f,e1,e2,e3,e4,e5⟩:=hB;refine⟨b,C,f,by rw[R5];exact e1,e2,by simpa using e3,e4,λk c hk=>?_⟩;simp only[aL,aA]at hk;obtain⟨z,hz,rfl⟩:=hk;exact LM L_ 3 (e5 k z hz)
   | row fl sz xs=>
    cases ia;obtain⟨e1,e2,e3⟩:=hB;refine⟨e1,e2,?_⟩;rw[R5];exact e3
 have FR:∀j i b',lf m ord kb id I os i=l8 (lZ ord kb id) (Mem.gg os j)->lf m ord kb id I os i=some b'->∃b,Mem.gg os j=some b:=by
  intro j i b' h1 h2;cases hb:Mem.gg os j with
  | none=>rw[hb]at h1;rw[h1]at h2;cases h2
  | some b=>exact⟨b,rfl⟩
 -- each Xd block: in FD Ps TS,or one Nx VT not PM
 have src:∀i b',lf m ord kb id I os i=some b'->∀b o n,ν i=some (b,o,n)->(∃j c,Mem.gg os j=some c/\eM j=some (b,o,n)/\lZ ord kb id j=i)\/(i ∉ ord/\i ∉ I/\m i=some b'/\μ i=some (b,o,n)):=by
  intro i b' hi b o n hb;rcases ids i b' hi with⟨j,h1,h2,rfl⟩|⟨j,h1,h2⟩|⟨h1,h2,h3,h4⟩
  ·obtain⟨c,hc⟩:=FR j _ b' (A9 j h1 h2) hi;exact .inl ⟨j,c,hc,by rw[<-Fj j h1 h2];exact hb,A0 j h1⟩
  ·obtain⟨c,hc⟩:=FR j _ b' (w3 j i h1 h2) hi;exact .inl ⟨j,c,hc,by rw[<-B_ j i h1 h2];exact hb,A1 j i h1 h2⟩
  ·exact .inr ⟨h1,h2,h3,by rw[<-wH i (h.used i b' h3) h1];exact hb⟩
 have yC:∀i x b o n,i ∉ ord->m i=some x->μ i=some (b,o,n)->b<w.heap.size/\¬ handed ord μ b:=by
  intro i x b o n D3 hm eN;refine⟨(h.own i x b o n hm eN).2.1,?_⟩;rintro⟨j,i',o',n',hj,dG⟩;cases ou : m i' with
  | none=>exact absurd ou (hg.2 i' (aO hj))
  | some x'=>
   have:=h.inj i i' x x' b o n o' n' hm ou eN dG;subst this;exact D3 (aO hj)
 have Lt:∀b,W0.N b->(W0.sub ord μ w h.below hn).N b:=λb hb=>⟨bA (W0.lt b hb) h.below.size,λhh=>hn b hh hb⟩;refine⟨ν,{ below:=?_,dC:=?_,sub:=λb hb=>GW b (.inl (h.sub b hb)),gl:=λb hb=>GW b (.inl (h.gl b hb)),used:=?_,j7:=?_,own:=?_,inj:=?_,dB:=?_ }⟩
 ·exact⟨hI.below.os.trans h.below.os,hI.below.tape.trans h.below.tape,hI.below.output.trans h.below.output,cf h.below.size hI.below.size,λb hb=>(hI.below.block b (Lt b hb)).trans (h.below.block b hb)⟩
 ·intro b hb;obtain⟨h1,h2⟩:=hI.dC b hb;refine⟨h1,?_⟩;rcases h2 with h2|h2
  ·exact(hz.dC b h2).2
  ·exact .inr (λhN=>h2 (Lt b hN))
 ·intro i b' hi;rcases ids i b' hi with⟨j,h1,h2,rfl⟩|⟨j,h1,h2⟩|⟨h1,h2,h3,h4⟩
  ·exact .inr (by omega)
  ·exact .inl (zr j i h2)
  ·exact .inl (h.used i b' h3)
 ·intro i b' hi;rcases ids i b' hi with⟨j,h1,h2,rfl⟩|⟨j,h1,h2⟩|⟨h1,h2,h3,h4⟩
  ·exact holdsNew j _ b' (A0 j h1) (Fj j h1 h2) (A9 j h1 h2) hi
  ·exact holdsNew j _ b' (A1 j i h1 h2) (B_ j i h1 h2) (w3 j i h1 h2) hi
  ·have Ix:lJ m I i=some b':=by rw[gF,if_neg h2];exact h3
   have hB:=hz.j7 i b' Ix;have UN:=h.used i b' h3;cases b' with
   | box tb cs=>
    obtain⟨b,C,f,e1,e2,e3,e4,e5⟩:=hB;obtain⟨r1,r2⟩:=yC i _ b _ _ h1 h3 e1;exact⟨b,C,f,by rw[wH i UN h1];exact e1,by rw[GG b r1 r2];exact e2,e3,e4,λk c hk=>(e5 k c hk).mY GW N6 (λi hi=>.inl hi) KV⟩
   | row fl sz xs=>
    obtain⟨e1,e2,e3⟩:=hB;refine⟨e1,e2,?_⟩;rw[wH i UN h1];rcases e3 with e3|⟨b,o,C,f,g1,g2,g3,g4,g5⟩
    ·exact .inl e3
    ·obtain⟨r1,r2⟩:=yC i _ b _ _ h1 h3 g1;exact .inr ⟨b,o,C,f,g1,by rw[GG b r1 r2];exact g2,g3,g4,λk c hk=>(g5 k c hk).mono GW N6⟩
 ·intro i b' b o n hi hb;rcases src i b' hi b o n hb with⟨j,c,hc,eN,_⟩|⟨h1,h2,h3,eN⟩
  ·obtain⟨g1,g2,g3⟩:=hI.own j c b o n hc eN;exact⟨λhN=>g1 (Lt b hN),g2,g3⟩
  ·obtain⟨g1,g2,g3⟩:=h.own i b' b o n h3 eN;obtain⟨r1,r2⟩:=yC i _ b _ _ h1 h3 eN;refine⟨g1,bA g2 hI.below.size,λYm=>?_⟩;rcases(hI.dC b Ym).2 with q|q
   ·rcases q with q|⟨i',k8,D4,o',n',e'⟩
    ·exact g3 q
    ·cases ou : m i' with
     | none=>exact absurd ou D4
     | some x'=>
      have:=h.inj i i' b' x' b o n o' n' h3 ou eN e';subst this;exact h2 k8
   ·exact q ⟨r1,r2⟩
 ·intro i i' x x' b o n o' n' hi k8 hb ia;rcases src i x hi b o n hb with⟨j,c,hc,eN,hr⟩|⟨h1,h2,h3,eN⟩
  ·rcases src i' x' k8 b o' n' ia with⟨j',c',OE,dG,KW⟩|⟨Qm,YS,Td,dG⟩
   ·have:=hI.inj j j' c c' b o n o' n' hc OE eN dG;subst this;rw[<-hr,<-KW]
   ·obtain⟨r1,r2⟩:=yC i' _ b _ _ Qm Td dG;exact absurd ⟨r1,r2⟩ (hI.own j c b o n hc eN).1
  ·rcases src i' x' k8 b o' n' ia with⟨j',c',OE,dG,KW⟩|⟨Qm,YS,Td,dG⟩
   ·obtain⟨r1,r2⟩:=yC i _ b _ _ h1 h3 eN;exact absurd ⟨r1,r2⟩ (hI.own j' c' b o' n' OE dG).1
   ·exact h.inj i i' x x' b o n o' n' h3 Td eN dG
 ·rintro c u (hc|⟨rfl,rfl⟩)
  ·exact(hz.dB c u hc).mY GW N6 (λi hi=>.inl hi) KV
  ·exact sQ hp (hI.dB _ _ ⟨rfl,rfl⟩)
end
section
variable {R:Type} {P:Program} {G:eH} {o:Oper} {a:Act} {w w' : World} {W0:eC} {F0 U F F' : Nat->Prop} {id:Nat} {L L' : AV->Value->Prop} {K:AV->Mem->Option R} {r:R} {m:Mem} {μ β:Mu} {S:List AV}
theorem l_(xs:List AV)(bs:List AV):jA (xs++[.dU bs])=true:=by simp[jA]
theorem HP{b:Bool}{x:AV}{bs:List AV}(h:(bif b then some x else none)=some (.dU bs)):x=.dU bs:=by cases b<;>simp at h;exact h
theorem mX(G:eH):∀(ts:List TypeId) (xs ys:List AV),jt G ts xs=some ys->(∀y∈xs,∀bs,y≠.dU bs)->∀y∈ys,∀bs,y≠.dU bs
 | [],[],ys,e,h=>by simp[jt]at e;subst e;simp
 | [],_::_,ys,e,h=>by simp[jt]at e
 | _::_,[],ys,e,h=>by simp[jt]at e
 | t::ts,x::xs,ys,e,h=>by
  simp only[jt]at e;split at e
  ·rename_i y s hy hs;cases e;intro z hz bs;rcases br.1 hz with rfl|hz
   ·have hx:=h x (by simp);intro e;subst e;unfold vG at hy;split at hy
    ·split at hy
     ·rename_i cs;cases hb:Nat.beq cs.length _<;>rw[hb]at hy
      ·cases hy
      ·simp only[ak,aA]at hy;obtain⟨_,_,hy⟩:=hy;cases hy
     ·split at hy
      ·split at hy
       ·simp only[aA]at hy;obtain⟨_,_,hy⟩:=hy;cases hy
       ·cases hy
      ·cases hy
     ·split at hy
      ·rename_i k _;cases k<;>simp only[ta]at hy<;>(try (cases hy;exact hx _ rfl))
       ·split at hy
        ·cases hy
        ·exact absurd (HP hy) (by simp)
        ·cases hy
       ·split at hy
        ·cases hy
        ·cases hy
        ·cases hy;exact hx _ rfl
      ·cases hy
    ·cases hy
   ·exact mX G ts xs s hs (λy hy=>h y (by simp[hy])) z hz bs
  ·cases e
theorem n8(m:Mem):∀(xs ys:List AV),j5 m xs=some ys->∀y∈ys,∀bs,y≠.dU bs
 | [],ys,e=>by simp[j5]at e;subst e;simp
 | x::xs,ys,e=>by
  simp only[j5]at e;split at e
  ·rename_i y s hy hs;cases e;intro z hz bs;rcases br.1 hz with rfl|hz
   ·intro e;subst e;cases x<;>simp only[fa,sr,lx,ig]at hy<;>first|(cases hy;done)|(simp at hy;done)|skip
    all_goals (repeat' split at hy)
    all_goals first|(cases hy;done)|(simp at hy;done)
   ·exact n8 m xs s hs z hz bs
  ·cases e
theorem vH(h:de W0 F0 U m L w μ F)(I:List Nat):∀(us ys:List AV) (u:Nat->Value),j5 m us=some ys->(∀j c,us[j]?=some c->eB w F μ m U c (u j))->(∀i∈us.flatMap (gS m),i∈I)->
  (mZ us ys).length=ys.length/\∀j c,(mZ us ys)[j]?=some c->Rel w (λb=>F b\/eh μ m I b) c (u j)
 | [],ys,u,hv,_,_=>by simp[j5]at hv;subst hv;exact⟨rfl,by simp[mZ]⟩
 | x::r,ys,u,hv,hr,hI=>by
  simp only[j5]at hv;split at hv
  ·rename_i y s hy hs;cases hv;obtain⟨l2,r2⟩:=vH h I r s (λj=>u (j+1)) hs (λj c hj=>hr (j+1) c (by simpa using hj)) (λi hi=>hI i (by simp only[bC,aK];exact .inr hi));have hx:=hr 0 x rfl;have Na:∀i∈gS m x,i∈I:=λi hi=>hI i (by simp only[bC,aK];exact .inl hi);have h0:Rel w (λb=>F b\/eh μ m I b) (match(generalizing:=false) x,y with | .own _ _ _,.sl fl sz xs=>.sl ⟨fl.b,fl.te,true⟩ sz xs|_,y=>y) (u 0):=by
    have N3:=oQ h hx hy I Na;split
    ·rename_i id off l fl sz xs;simp only[fa,sr,lx,ig]at hy;split at hy
     ·rename_i gk im mO hm;cases hy;exact De true h hx hm I (Na id (by simp[gS,tH,jT]))
     ·cases hy
    ·exact N3
   refine⟨by simp only[mZ,aw,l2],λj c hj=>?_⟩;cases j with
   | zero=>simp only[mZ,List.getElem?_cons_zero,aY]at hj;subst hj;exact h0
   | succ j=>exact r2 j c (by simpa[mZ]using hj)
  ·cases hv
theorem qN(hG:dK P G):∀(ts:List TypeId) (xs ys:List AV) (u:Nat->Value),iA G ts xs=some ys->(∀j c,xs[j]?=some c->Rel w F c (u j))->ys.length=xs.length/\∀j c,ys[j]?=some c->Rel w F c (u j)
 | [],[],ys,u,e,h=>by simp[iA]at e;subst e;exact⟨rfl,by simp⟩
 | [],_::_,ys,u,e,h=>by simp[iA]at e
 | _::_,[],ys,u,e,h=>by simp[iA]at e
 | t::ts,x::xs,ys,u,e,h=>by
  simp only[iA]at e;split at e
  ·rename_i y s hy hs;cases e;obtain⟨l1,h2⟩:=qN hG ts xs s (λj=>u (j+1)) hs (λj c hj=>h (j+1) c (by simpa using hj));refine⟨by simp[l1],λj c hj=>?_⟩;cases j with
   | succ j=>exact h2 j c (by simpa using hj)
   | zero=>
    simp at hj;subst hj;have hx:=h 0 x rfl;unfold Bf at hy;split at hy
    ·(repeat' split at hy)<;>first|(cases hy;done)|(obtain⟨_,hy⟩:=cV hy;cases hy;exact hx)
    ·exact pX hG hy hx
  ·cases e
theorem o6(G:eH):∀(ts:List TypeId) (xs ys:List AV),iA G ts xs=some ys->(∀y∈xs,∀bs,y≠.dU bs)->∀y∈ys,∀bs,y≠.dU bs
 | [],[],ys,e,h=>by simp[iA]at e;subst e;simp
 | [],_::_,ys,e,h=>by simp[iA]at e
 | _::_,[],ys,e,h=>by simp[iA]at e
 | t::ts,x::xs,ys,e,h=>by
  simp only[iA]at e;split at e
  ·rename_i y s hy hs;cases e;intro z hz bs;rcases br.1 hz with rfl|hz
   ·unfold Bf at hy;split at hy
    ·(repeat' split at hy)<;>first|(cases hy;done)|(obtain⟨_,hy⟩:=cV hy;cases hy;simp)
    ·refine mX G [t] [x] [z] ?_ (λy hy=>h y (by simp at hy;simp[hy])) z (by simp) bs;simp only[jt,hy]
   ·exact o6 G ts xs s hs (λy hy=>h y (by simp[hy])) z hz bs
  ·cases e
theorem tr:∀(us ys:List AV),(∀y∈ys,∀bs,y≠.dU bs)->∀y∈mZ us ys,∀bs,y≠.dU bs
 | [],ys,h=>by cases ys<;>exact h
 | _::_,[],h=>by simp[mZ]
 | x::r,y::s,h=>by
  intro z hz bs;unfold mZ at hz;rcases br.1 hz with rfl|hz
  ·split
   ·simp
   ·exact h y (by simp) bs
  ·exact tr r s (λy hy=>h y (by simp[hy])) z hz bs
theorem DK(hG:dK P G)(h:de W0 F0 U m L w μ F)(I:List Nat){g:FuncId}{us Kb fw:List AV}{u:Nat->Value}(hv:j5 m us=some Kb)(hr:∀j c,us[j]?=some c->eB w F μ m U c (u j))(hI:∀i∈us.flatMap (gS m),i∈I)(e:yU G g us Kb=some fw) :
  fw.length=Kb.length/\∀j c,fw[j]?=some c->Rel w (λb=>F b\/eh μ m I b) c (u j):=by
 unfold yU at e;cases hg:G.rows g with
 | false=>
  rw[hg]at e;exact tj hG _ _ _ _ e (pL h I _ _ u hv hr hI).2
 | true=>
  rw[hg]at e;obtain⟨l1,r1⟩:=vH h I us Kb u hv hr hI;obtain⟨l2,r2⟩:=qN hG _ _ _ _ e r1;exact⟨l2.trans l1,r2⟩
theorem Be{g:FuncId}{us Kb fw:List AV}(hv:j5 m us=some Kb)(e:yU G g us Kb=some fw):∀y∈fw,∀bs,y≠.dU bs:=by
 unfold yU at e;cases hg:G.rows g with
 | false=>rw[hg]at e;exact mX G _ _ _ e (n8 m _ _ hv)
 | true=>rw[hg]at e;exact o6 G _ _ _ e (tr us Kb (n8 m _ _ hv))
theorem Br{ys:List AV}(h:∀y∈ys,∀bs,y≠.dU bs):jA ys=false:=by
 unfold jA;split
 ·rename_i bs e;exact absurd rfl (h _ (List.mem_of_getLast? e) bs)
 ·rfl
theorem Ag{xs ys:List AV}{us vs:Array Value}(hl:us.size=xs.length)(h1:∀j q,xs[j]?=some q->eB w F μ m U q (us.getD j undef))(h2:∀j q,ys[j]?=some q->eB w F μ m U q (vs.getD j undef)) :
  ∀j q,(xs++ys)[j]?=some q->eB w F μ m U q ((us++vs).getD j undef):=by
 intro j q hj;by_cases eG:j<us.size
 ·rw[aN (by omega)]at hj;rw[aI,Array.getElem?_append_left eG,<-aI];exact h1 j q hj
 ·rw[aQ (by omega)]at hj;rw[aI,Array.getElem?_append_right (by omega),<-aI,hl];exact h2 _ q hj
theorem Et(hG:dK P G){C:FuncId->List AV->(AV->Option R)->Option R}(hC:∀g fw (K:AV->Option R) r,C g fw K=some r->∃x,K x=some r/\iD P W0.root g fw x)
  {g:FuncId} {us:List AV} {vals:Array Value} (tM:(execOp a.eval o).run P w=(callFunc g vals).run P w) (GU:vals.size=us.length) (pr:∀j q,us[j]?=some q->eB w F μ m U q (vals.getD j undef))
  (h:de W0 F0 U m L w μ F) (hid:∀j,j<8->¬ U (id+j)) (hK:q8 G C g us m id K=some r) :
  Ii P o a w W0 F0 U id L K r:=by
 unfold q8 at hK;obtain⟨QG,RL,dY⟩:=cN hK;clear hK;obtain⟨xs,uS,hK⟩:=cN dY;clear dY;obtain⟨I,hI⟩:∃I,I=us.flatMap (xo m):=⟨_,rfl⟩;rw[<-hI]at hK;obtain⟨ord,rr⟩:∃ord,ord=iU m xs:=⟨_,rfl⟩;rw[<-rr]at hK;have D8:∀i∈ord,i ∉ I:=by
  intro i hi XY;have:(ord.any λi=>I.contains i)=true:=bL.2 ⟨i,hi,by simpa using XY⟩;rw[this]at hK;cases hK
 have JJ:∀{b:Bool} {A:Option R},(bif b then none else A)=some r->A=some r:=by intro b A h;cases b<;>first|exact h|cases h
 replace hK:=JJ hK;obtain⟨x,dY,tO⟩:=hC _ _ _ _ hK;clear hK;split at dY
 ·rename_i y os;obtain⟨KX,hK⟩:=cV dY;rw[ae]at KX;have hM:=tO.2.1 _ _ _ _ rfl rfl;obtain⟨l0,r0⟩:=wB h I _ _ (λj=>vals.getD j undef) RL pr (λi hi=>by rw[hI];exact hi);obtain⟨l1,r1⟩:=tc hG _ _ _ _ uS r0;have hz:=h.freeze I;have Ix:∀i∈ord,lJ m I i=m i:=λi hi=>by rw[gF,if_neg (D8 i hi)]
  have Qf:Good m ord:=by rw[rr];exact vA m xs
  have hg:Good (lJ m I) ord:=⟨Qf.1,λi hi=>by rw[Ix i hi];exact Qf.2 i hi⟩;have hn:∀b,handed ord μ b->¬ W0.N b:=by
   rintro b ⟨j,i,o,n,hj,eN⟩;have hi:=aO hj;cases hm:m i with
   | none=>exact absurd hm (Qf.2 i hi)
   | some x=>exact(h.own i x b o n hm eN).1
  -- FD values Nx U6 handed over,in memory as it VT (frozen ids U6 none of TP)
  have zq:=hz.handOver (ord:=ord) hg hn (L':=λc v=>∃j,(xs.map (uA 4 ord))[j]?=some c/\v=vals.getD j undef) (by
   rintro c v ⟨j,hj,rfl⟩;rw[aL,aA]at hj;obtain⟨x,hx,rfl⟩:=hj;exact⟨4,x,rfl,r1 j x hx⟩)
  have YZ:(ord.map λi=>ix (jr ord (lJ m I i)))=ord.map λi=>ix (jr ord (m i)):=bW λi hi=>by rw[Ix i hi]
  rw[YZ]at zq;have U0:kR (ord.map λi=>ix (jr ord (m i)))=(ord.filter λi=>mH (m i)).length:=by rw[rr];exact DO m xs
  have oH:∀j,j<(ord.filter λi=>mH (m i)).length->∃i tb cs,ord[j]?=some i/\m i=some (.box tb cs):=by
   intro j hj;rw[rr]at hj ⊢;exact yO m xs hj
  have jH:vals.size=(xs.map (uA 4 ord)).length:=by rw[af,l1,l0,GU]
  have Hh:∀i,i<kR (ord.map λi=>ix (jr ord (m i)))->∃n,(ord[i]?).bind μ=some ((W0.sub ord μ w h.below hn).bk i,0,n):=by
   intro j hj;rw[U0]at hj;obtain⟨i,tb,cs,h1,h2⟩:=oH j hj;obtain⟨b,C,f,e1,_⟩:=h.j7 i _ h2;refine⟨C.size,?_⟩;show(ord[j]?).bind μ=some ((((ord[j]?).bind μ).map (·.1)).getD 0,0,C.size);rw[h1];simp[e1]
  have eV:=hM (W0.sub ord μ w h.below hn) (λb=>F b\/eh μ m I b) vals (λj=>(ord[j]?).bind μ) rfl jH (by
   have:(ord.map λi=>ix (jr ord (m i))).length=ord.length:=af ..;rw[this];exact zq) Hh
  have key:∀(v:Value) (w' : World),(∃F' eM,de (W0.sub ord μ w h.below hn) (λb=>F b\/eh μ m I b) (λi=>i<os.length) (Mem.gg os) (λc u=>c=y/\u=v) w' eM F'/\
    ∀i,i<kR (ord.map λi=>ix (jr ord (m i)))->∃n,eM i=some ((W0.sub ord μ w h.below hn).bk i,0,n))->
    ∃m',K y m'=some r/\Inv W0 F0 (U8 U id) m' (λc u=>L c u\/(c=y/\u=v)) w':=by
   rintro v w' ⟨F',eM,Iy,ia⟩;rw[U0]at ia;obtain⟨Le,ov⟩:=h.FH Qf D8 hn hid oH KX.2 KX.1 Iy ia;exact⟨_,hK,Le,F',ov⟩
  intro next Q zt
  unfold Oper.wp;rw[tM];rcases eV with⟨e,tN⟩|⟨v,w',e,hv⟩
  ·have e' : (callFunc g vals).run P w=.ok (.enter g vals) w:=e;rw[e'];refine Calls.mono tN λen w' he=>?_;cases en with
   | returned v=>
    obtain⟨m',hK,hI⟩:=key v w' he;exact zt y m' v w' hK hI
   | panicked _=>exact he.elim
   | outgrown=>exact he.elim
  ·have e' : (callFunc g vals).run P w=.ok (.value v) w':=e;rw[e'];obtain⟨m',hK,hI⟩:=key v w' hv;exact zt y m' v w' hK hI
 ·cases dY
theorem de.I3(h:de W0 F0 U m L w μ F){j:Nat}{fl:Fl}{sz:Nat}{xs ys:List AV}(hm:m j=some (.row fl sz xs))(hn:∀b,handed [j] μ b->¬ W0.N b)(hl:ys.length=xs.length){y z:AV}{v:Value}(hz:HW j y=some z)
  (hE:de (W0.sub [j] μ w h.below hn) F (λi=>i<8) (Mem.gg [.fr fl sz ys]) (λc u=>c=y/\u=v) w' (λk=>(([j]:List Nat)[k]?).bind μ) F) :
  de W0 F0 U (m.fJ j (some (.row fl sz ys))) (λc u=>L c u\/(c=z/\u=v)) w' μ F:=by
 have hd:∀b,handed [j] μ b->∃o n,μ j=some (b,o,n):=by
  rintro b ⟨k,i,o,n,hk,hb⟩;cases k with
  | zero=>simp at hk;subst hk;exact⟨o,n,hb⟩
  | succ k=>simp at hk
 have XH:∀b,handed [j] μ b->¬ F b:=λb hb=>by
  obtain⟨o,n,e⟩:=hd b hb;exact(h.own j _ b o n hm e).2.2
 have hw:∀b,F b->w'.heap[b]?=w.heap[b]?:=λb hb=>hE.below.block b ⟨(h.dC b hb).1,λhh=>XH b hh hb⟩;have jH:w.heap.size<=w'.heap.size:=hE.below.size;have qf:∀i,U i->ec (m i) ((m.fJ j (some (.row fl sz ys))) i)/\((m.fJ j (some (.row fl sz ys))) i≠none->μ i=μ i):=by
  intro i _;refine⟨?_,λ_=>rfl⟩;by_cases e:i=j
  ·subst e;rw[Mem.dx,hm];exact⟨rfl,hl⟩
  ·rw[Mem.dk _ _ e];exact .refl _
 refine{
  below:=⟨hE.below.os.trans h.below.os,hE.below.tape.trans h.below.tape,hE.below.output.trans h.below.output,cf h.below.size jH,λk hk=>?_⟩
  dC:=λb hb=>⟨(hE.dC b hb).1,(h.dC b hb).2⟩
  sub:=h.sub
  gl:=h.gl
  used:=λi x hx=>?_
  j7:=λi x hx=>?_
  own:=λi x b o n hx hb=>?_
  inj:=λi i' x x' b o n o' n' hx CU hb ia=>?_
  dB:=?_ }
 ·have eG:k<w.heap.size:=bA (W0.lt k hk) h.below.size;exact(hE.below.block k ⟨eG,λhh=>hn k hh hk⟩).trans (h.below.block k hk)
 ·by_cases e:i=j
  ·subst e;exact h.used i _ hm
  ·rw[Mem.dk _ _ e]at hx;exact h.used i x hx
 ·by_cases e:i=j
  ·subst e;rw[Mem.dx]at hx;cases hx;have h0:=hE.j7 0 (.row fl sz ys) rfl;obtain⟨a1,a2,a3⟩:=h0;refine⟨a1,a2,?_⟩;simpa using a3
  ·rw[Mem.dk _ _ e]at hx;refine(h.j7 i x hx).mono (λ_ hb=>hb) hw (λ_ hi=>hi) qf rfl (λb o n hb=>?_);refine hE.below.block b ⟨(h.own i x b o n hx hb).2.1,λhh=>?_⟩;obtain⟨o',n',e'⟩:=hd b hh;exact e (h.inj i j _ _ b o n o' n' hx hm hb e')
 ·by_cases e:i=j
  ·subst e;have:=h.own i _ b o n hm hb;exact⟨this.1,bA this.2.1 jH,this.2.2⟩
  ·rw[Mem.dk _ _ e]at hx;have:=h.own i x b o n hx hb;exact⟨this.1,bA this.2.1 jH,this.2.2⟩
 ·have ex:∀i x,(m.fJ j (some (.row fl sz ys))) i=some x->∃x',m i=some x':=by
   intro i x hx;by_cases e:i=j
   ·subst e;exact⟨_,hm⟩
   ·rw[Mem.dk _ _ e]at hx;exact⟨x,hx⟩
  obtain⟨q,hq⟩:=ex i x hx;obtain⟨q',pk⟩:=ex i' x' CU;exact h.inj i i' q q' b o n o' n' hq pk hb ia
 ·rintro x u (hx|⟨rfl,rfl⟩)
  ·exact(h.dB x u hx).mono (λ_ hb=>hb) hw (λ_ hi=>hi) qf
  ·have h0:=hE.dB y u ⟨rfl,rfl⟩;unfold HW at hz;split at hz
   ·rename_i off l;cases hz;have h0:ij w' F (λk=>(([j]:List Nat)[k]?).bind μ) (Mem.gg [.fr fl sz ys]) (λi=>i<8) (.own 0 off l) u:=h0;obtain⟨h1,h2,h3⟩:=h0;refine⟨λ_=>h1 rfl,h.used j _ hm,λgk im mO hx=>?_⟩;rw[Mem.dx]at hx;cases hx;have:=h3 fl sz ys rfl;simpa using this
   ·cases hz;obtain⟨vs,e,hl,hr⟩:=h0;exact⟨vs,e,hl,by simp⟩
   ·cases hz
theorem Eu{C:FuncId->List AV->(AV->Option R)->Option R}(hC:∀g fw (K:AV->Option R) r,C g fw K=some r->∃x,K x=some r/\iD P W0.root g fw x)
  {g:FuncId} {us:List AV} {vals:Array Value} (tM:(execOp a.eval o).run P w=(callFunc g vals).run P w) (GU:vals.size=us.length) (pr:∀j q,us[j]?=some q->eB w F μ m U q (vals.getD j undef))
  (h:de W0 F0 U m L w μ F) (hid:∀j,j<8->¬ U (id+j)) (hK:nZ C g us m K=some r) :
  Ii P o a w W0 F0 U id L K r:=by
 unfold nZ at hK;split at hK
 ·rename_i j off l rest;obtain⟨b,hm,hK⟩:=cN hK;split at hK
  ·rename_i fl sz xs;obtain⟨hv,hK⟩:=cV hK;obtain⟨x,dY,tO⟩:=hC _ _ _ _ hK;clear hK;split at dY
   ·rename_i y gk im ys;obtain⟨hq,hK⟩:=cV dY;obtain⟨z,hz,hK⟩:=cN hK;rw[ae]at hq;have e1:=eq_of_beq hq.1;have e2:=aj hq.2;subst e1 e2;have hn:∀b,handed [j] μ b->¬ W0.N b:=by
     rintro b ⟨k,i,o,n,hk,hb⟩;cases k with
     | zero=>simp at hk;subst hk;exact(h.own j _ b o n hm hb).1
     | succ k=>simp at hk
    have hg:Good m [j]:=⟨by simp,λi hi=>by simp at hi;subst hi;rw[hm];simp⟩;obtain⟨e3,hM⟩:=tO.2.2 _ _ _ _ _ _ _ _ rfl rfl;have zq:=h.handOver (ord:=[j]) hg hn (L':=λc v=>∃k,(AV.own 0 off l::rest)[k]?=some c/\v=vals.getD k undef) (by
     rintro c v ⟨k,hk,rfl⟩;refine⟨1,(AV.own j off l::rest).getD k .undef,?_,?_⟩
     ·cases k with
      | zero=>simp at hk;subst hk;simp[uA,gZ,List.findIdx?_cons]
      | succ k=>
       simp at hk;have Xq:=ay.1 hv c (aO hk);rw[List.getD_cons_succ,ah,hk];cases c<;>first|rfl|(cases Xq;done)
     ·cases k with
      | zero=>exact pr 0 _ rfl
      | succ k=>
       simp at hk;rw[List.getD_cons_succ,ah,hk];exact pr (k+1) c (by simpa using hk))
    have SE:([j]:List Nat).map (λi=>ix (jr [j] (m i)))=[AV.fr gk im xs]:=by simp[hm,jr,ix]
    rw[SE]at zq;have eV:=hM (W0.sub [j] μ w h.below hn) F vals (λk=>(([j]:List Nat)[k]?).bind μ) rfl (by simpa using GU) zq;have key:∀(v:Value) (w' : World),de (W0.sub [j] μ w h.below hn) F (λi=>i<8*[AV.fr gk im xs].length) (Mem.gg [.fr gk im ys]) (λc u=>c=y/\u=v) w' (λk=>(([j]:List Nat)[k]?).bind μ) F->
      Inv W0 F0 (U8 U id) (m.fJ j (some (.row gk im ys))) (λc u=>L c u\/(c=z/\u=v)) w':=by
     intro v w' Iy;exact⟨μ,F,(h.I3 hm hn e3 hz Iy).wider (λi hi=>.inl hi)⟩
    intro next Q zt
    unfold Oper.wp;rw[tM];rcases eV with⟨e,tN⟩|⟨v,w',e,hv⟩
    ·have e' : (callFunc g vals).run P w=.ok (.enter g vals) w:=e;rw[e'];refine Calls.mono tN λen w' he=>?_;cases en with
     | returned v=>exact zt z _ v w' hK (key v w' he)
     | panicked _=>exact he.elim
     | outgrown=>exact he.elim
    ·have e' : (callFunc g vals).run P w=.ok (.value v) w':=e;rw[e'];exact zt z _ v w' hK (key v w' hv)
   ·cases dY
  ·cases hK
 ·cases hK
theorem z_(hG:dK P G){C:FuncId->List AV->(AV->Option R)->Option R}(hC:∀g fw (K:AV->Option R) r,C g fw K=some r->∃x,K x=some r/\iD P W0.root g fw x)
  {g:FuncId} {us:List AV} {vals:Array Value} (tM:(execOp a.eval o).run P w=(callFunc g vals).run P w) (GU:vals.size=us.length) (pr:∀j q,us[j]?=some q->eB w F μ m U q (vals.getD j undef))
  (h:de W0 F0 U m L w μ F) (hid:∀j,j<8->¬ U (id+j)) {dr:Bool} (hK:fW G C dr g us m id K=some r) :
  Ii P o a w W0 F0 U id L K r:=by
 unfold fW at hK;cases Oj:us.any ja with
 | true=>
  rw[Oj,ak]at hK;cases dr with
  | true=>cases hK
  | false=>exact Et hG hC tM GU pr h hid hK
 | false=>
 rw[Oj,cond_false]at hK;cases Aw:G.refs g with
 | true=>
  rw[Aw,ak]at hK;cases dr with
  | true=>cases hK
  | false=>exact Eu hC tM GU pr h hid hK
 | false=>
 rw[Aw,cond_false]at hK;have JJ:∀{b:Bool} {A:Option R},(bif b then none else A)=some r->A=some r:=by intro b A h;cases b<;>first|exact h|cases h
 obtain⟨Kb,Mi,dY⟩:=cN hK;clear hK;obtain⟨fw,has,hK⟩:=cN dY;clear dY;obtain⟨x,dY,tO⟩:=hC _ _ _ _ hK;clear hK;obtain⟨I,hI⟩:∃I,I=us.flatMap (gS m):=⟨_,rfl⟩;obtain⟨l0,r0⟩:=pL h I _ _ (λj=>vals.getD j undef) Mi pr (λi hi=>by rw[hI];exact hi);obtain⟨l1,r1⟩:=DK hG h I Mi pr (λi hi=>by rw[hI];exact hi) has;have hz:=h.freeze I;have jH:vals.size=fw.length:=by rw[l1,l0,GU]
 have key:∀(v:Value) (w' : World),(∃F' β,Came w w' (λb=>F b\/eh μ m I b) F' β/\AB w' F' β x v)->∃x' m',K x' m'=some r/\Inv W0 F0 (U8 U id) m' (λy u=>L y u\/(y=x'/\u=v)) w':=by
  rintro v w' ⟨F',β,jI,Jy⟩;have hs:=h.below.size;cases fZ:lk x with
  | true=>
   rw[fZ]at dY;simp only[ak]at dY;generalize hq:imp id m x=q at dY;obtain⟨y,cc,m'⟩:=q;obtain⟨zA,hK⟩:=cV dY;obtain⟨eM,hinv⟩:=GP hq (aD zA) hid (h.world jI.below) (N:=w.heap.size) hs (λi y b o n hy hb=>(h.own i y b o n hy hb).2.1)
    (λk b o n hb=>⟨(jI.own k b o n hb).1,(jI.own k b o n hb).2.1,λhF=>(jI.own k b o n hb).2.2 (jI.sub b (.inl hF))⟩) jI.inj (Dz fZ Jy)
   exact⟨y,m',hK,eM,F,hinv⟩
  | false=>
   rw[fZ]at dY;simp only[cond_false]at dY
   ·replace dY:=JJ dY;rw[<-hI]at dY;generalize hq:imp id (lJ m I) x=q at dY;obtain⟨y,cc,m'⟩:=q;obtain⟨zA,hK⟩:=cV dY;have Av:=(hz.world jI.below).more (F':=F') jI.sub (λb hb=>⟨(jI.new b hb).1,by
     rcases(jI.new b hb).2 with h1|h1
     ·exact .inl h1
     ·refine .inr ⟨W0.new h.below h1,λi y o n hy ia=>?_⟩;have:=(hz.own i y b o n hy ia).2.1;omega⟩)
    obtain⟨eM,hinv⟩:=GP hq (aD zA) hid Av (N:=w.heap.size) hs (λi y b o n hy hb=>(hz.own i y b o n hy hb).2.1) (λk b o n hb=>jI.own k b o n hb) jI.inj Jy;exact⟨y,m',hK,eM,F',hinv⟩
 intro next Q hn
 have eV:=tO.1 (Br (Be Mi has)) w (λb=>F b\/eh μ m I b) vals h.below.root (λb hb=>(hz.dC b hb).1) (λb hb=>.inl (h.gl b hb)) jH r1;unfold Oper.wp;rw[tM];rcases eV with⟨e,tN⟩|⟨v,w',e,hv⟩
 ·rw[e];refine Calls.mono tN λen w' he=>?_;cases en with
  | returned v=>
   obtain⟨x',m',hK,hI⟩:=key v w' he;exact hn x' m' v w' hK hI
  | panicked _=>exact he.elim
  | outgrown=>exact he.elim
 ·rw[e];obtain⟨x',m',hK,hI⟩:=key v w' hv;exact hn x' m' v w' hK hI
theorem HH(hG:dK P G){C:FuncId->List AV->(AV->Option R)->Option R}(hC:∀g fw (K:AV->Option R) r,C g fw K=some r->∃x,K x=some r/\iD P W0.root g fw x)
  (h:de W0 F0 U m L w μ F) (hE:Env G S a L) (hid:∀j,j<8->¬ U (id+j)) {dr:Bool} (hK:er G C dr o S m id K=some r):Ii P o a w W0 F0 U id L K r:=by
 unfold er at hK;split at hK
 ·rename_i c eF;split at hK
  ·rename_i f hc;split at hK
   ·rename_i g fj hf;have JJ:∀{b:Bool} {A:Option R},(bif b then none else A)=some r->A=some r:=by intro b A h;cases b<;>first|exact h|cases h
    replace hK:=JJ hK;have E4:=hE.rel h f;rw[hf]at E4;obtain⟨vs,MX,GU,Xp⟩:=E4;have ra:∀j q,(c.args.toList.map (ev G S))[j]?=some q->eB w F μ m U q ((c.args.map a.eval).getD j undef):=by
     intro j q hj;simp only[aL,cm,aA]at hj;obtain⟨y,hy,rfl⟩:=hj;have e:(c.args.map a.eval).getD j undef=a.eval y:=by
      rw[aI];simp[hy]
     rw[e];exact hE.rel h y
    have rc:∀j q,fj[j]?=some q->eB w F μ m U q (vs.getD j undef):=λj q hj=>dI (dE (fk (Xp j q hj)));cases hb:Nat.blt g uF with
    | true=>
     rw[hb,ak]at hK;have MX:a.eval f=.func (.func g) #[] vs:=by rw[MX,IB,hb];rfl
     exact z_ hG hC (vals:=c.args.map a.eval++vs) (by simp[execOp,eF,resolve,hc,MX,Deferred.ofValue,invoke]) (by simp[GU]) (Ag (by simp) ra rc) h hid hK
    | false=>
     rw[hb,cond_false]at hK;have MX:a.eval f=.func (.func (g - uF)) vs #[]:=by rw[MX,IB,hb];rfl
     exact z_ hG hC (vals:=vs++c.args.map a.eval) (by simp[execOp,eF,resolve,hc,MX,Deferred.ofValue,invoke]) (by simp[GU]) (Ag GU rc ra) h hid hK
   ·cases hK
  ·exact(xB hG h hE hid hK).PN
 ·rename_i t p x eF;have JJ:∀{b:Bool} {A:Option R},(bif b then none else A)=some r->A=some r:=by intro b A h;cases b<;>first|exact h|cases h
  have dY:=JJ hK;rw[<-eF]at dY;exact(xB hG h hE hid dY).PN
 ·rename_i t n parts eF;have JJ:∀{b:Bool} {A:Option R},(bif b then none else A)=some r->A=some r:=by intro b A h;cases b<;>first|exact h|cases h
  have dY:=JJ hK;rw[<-eF]at dY;exact(xB hG h hE hid dY).PN
 ·exact(xB hG h hE hid hK).PN
end
def TD(G:eH)(W0:eC)(x:AV)(v:Value):Prop:=
 (∃g cs,G.Eb g=some cs/\x=.rd cs/\v=.pointer (some ⟨g,0,none⟩))\/∃i,i<G.kb/\x=.ptr i 0/\v=.pointer (some ⟨W0.bk i,0,none⟩)
def u_(G:eH)(W0:eC)(S:List AV)(a:Act)(x:AV)(v:Value):Prop:=
 (∃t,x=S.getD t .undef/\v=a.tmps.getD t undef)\/TD G W0 x v
structure kh(G:eH)(W0:eC)(F0 U:Nat->Prop)(m:Mem)(S:List AV)(a:Act)(w:World):Prop where
 defers:a.defers=[]
 len:S.length<=a.tmps.size
 inv:Inv W0 F0 U m (u_ G W0 S a) w
section
variable {R:Type} {P:Program} {G:eH} {o:Oper} {a:Act} {w w' : World} {W0:eC} {F0 U F F' : Nat->Prop} {id:Nat} {L L' : AV->Value->Prop} {r:R} {m:Mem} {μ β:Mu} {S:List AV}
theorem Pn:Env G S a (u_ G W0 S a):=⟨λt=>.inl ⟨t,rfl,rfl⟩,λg cs h=>.inr (.inl ⟨g,cs,h,rfl,rfl⟩)⟩
theorem zH(S:List AV)(d t:Nat)(x:AV):(S.set d x).getD t .undef=if t=d/\d<S.length then x else S.getD t .undef:=by
 simp only[ah,List.getElem?_set];by_cases e:d=t
 ·subst e;by_cases h:d<S.length
  ·simp[h]
  ·simp[h]
 ·have:¬ t=d:=λh=>e h.symm;simp[e,this]
theorem FC(C:Array Value)(d t:Nat)(v:Value):(C.setIfInBounds d v).getD t undef=if t=d/\d<C.size then v else C.getD t undef:=by
 simp only[aI,Array.getElem?_setIfInBounds];by_cases e:d=t
 ·subst e;by_cases h:d<C.size
  ·simp[h]
  ·simp[h]
 ·have:¬ t=d:=λh=>e h.symm;simp[e,this]
theorem kh.put(h:kh G W0 F0 U m S a w){d:Option Tmp}{x:AV}{v:Value}{m' : Mem}{U' : Nat->Prop}(hI:Inv W0 F0 U' m' (λy u=>u_ G W0 S a y u\/(y=x/\u=v)) w'):kh G W0 F0 U' m' (put S d x) (a.put d v) w':=by
 cases d with
 | none=>exact⟨h.defers,h.len,hI.weaken (λx v hx=>.inl hx)⟩
 | some d=>
  refine⟨h.defers,by simpa[Ev.put,Act.put]using h.len,?_⟩;obtain⟨μ,F,hI⟩:=hI;refine⟨μ,F,{ hI with dB:=?_ }⟩;rintro y u (⟨t,rfl,rfl⟩|hg)
  ·simp only[Ev.put,Act.put,zH,FC];have hlen:=h.len;by_cases e:t=d
   ·subst e;by_cases h1:t<S.length
    ·have h2:t<a.tmps.size:=by omega
     simp only[h1,h2,and_self,cb];exact hI.dB _ _ (.inr ⟨rfl,rfl⟩)
    ·have h3:S.getD t .undef=.undef:=by rw[ah,List.getElem?_eq_none (Nat.le_of_not_lt h1)];rfl
     simp only[h1,and_false,bI,h3];exact⟨λh=>by simp[AV.nD]at h,.undef _⟩
   ·simp only[e,false_and,bI];exact hI.dB _ _ (.inl (.inl ⟨t,rfl,rfl⟩))
  ·exact hI.dB _ _ (.inl (.inr hg))
theorem kh.same(h:kh G W0 F0 U m S a w){S' : List AV}(hl:S'.length=S.length)(hs:∀t,S'.getD t .undef=S.getD t .undef):kh G W0 F0 U m S' a w:=by
 refine⟨h.defers,by rw[hl];exact h.len,h.inv.weaken ?_⟩;rintro x v (⟨t,rfl,rfl⟩|hx)
 ·exact .inl ⟨t,hs t,rfl⟩
 ·exact .inr hx
theorem kh.Cj(h:kh G W0 F0 U m S a w){d:Nat}{x:AV}(hx:S.getD d .undef=x):kh G W0 F0 U m (S.set d x) a w:=by
 refine h.same (by simp) (λt=>?_);rw[zH];by_cases e:t=d
 ·subst e;by_cases h1:t<S.length
  ·rw[if_pos ⟨rfl,h1⟩];exact hx.symm
  ·simp[h1]
 ·simp[e]
theorem kh.undef(h:kh G W0 F0 U m S a w){d:Option Tmp}{U' : Nat->Prop}(hU:∀i,U i->U' i):kh G W0 F0 U' m (Ev.put S d (.dU [])) (a.put d Go.undef) w:=by
 refine h.put ?_;obtain⟨μ,F,hI⟩:=h.inv;have hx:eB w F μ m U (.dU []) Go.undef:=⟨#[],rfl,rfl,by simp⟩;exact⟨μ,F,(hI.PC hx).wider hU⟩
theorem step_ok(hG:dK P G){C:FuncId->List AV->(AV->Option R)->Option R}(hC:∀g fw (K:AV->Option R) r,C g fw K=some r->∃x,K x=some r/\iD P W0.root g fw x)
  {ops:Array Oper} {n i:Nat} {K:List AV->Mem->Option R} (h:kh G W0 F0 U m S a w) (hid:∀j,j<8->¬ U (8*(n+i)+j)) {dr:Bool} (hK:j6 G C dr ops.toList n i S m K=some r)
  {next:Act->World->Prop} {Q:Exit->Act->World->Prop} (hn:∀S' m' a' w',K S' m'=some r->kh G W0 F0 (U8 U (8*(n+i))) m' S' a' w'->next a' w'):wpOp P ops Q i next a w:=by
 unfold j6 at hK;split at hK
 ·rename_i o ho;have L9 : ops[i]?=some o:=by rw[<-ho];simp
  -- FD operation RG
  have run:∀{S1:List AV},kh G W0 F0 U m S1 a w->er G C dr o S1 m (8*(n+i)) (λx m=>K (put S1 o.dst x) m)=some r->o.wp P a w next Q:=by
   intro S1 h1 hK;obtain⟨μ,F,hI⟩:=h1.inv;exact HH hG hC hI Pn hid hK next Q (λx m' v w' Yg Yj=>hn _ m' _ w' Yg (h1.put Yj))
  split at hK
  ·rename_i hg;have hw:Region.wanted o (yielded ops a.tmps)=true:=by simp[Region.wanted,hg]
   simp only[wpOp,L9,hw,cb];exact .inl (run h hK)
  ·rename_i g want hg;split at hK
   ·rename_i og P9;have Jz : ops[g]?=some og:=by rw[<-P9];simp
    split at hK
    ·rename_i d hd;split at hK
     ·rename_i hp;have GZ:a.tmps.getD d Go.undef=.tuple #[]:=by
       obtain⟨μ,F,hI⟩:=h.inv;have:=hI.dB _ _ (.inl ⟨d,rfl,rfl⟩);rw[hp]at this;obtain⟨vs,e,hl,_⟩:=this;rw[e,Array.size_eq_zero_iff.1 hl]
      have hy:yielded ops a.tmps g=none:=by
       unfold yielded;simp only[Jz,ab,hd];rw[aI]at GZ;cases hq:a.tmps[d]? with
       | none=>rfl
       | some q=>rw[hq]at GZ;simp at GZ;rw[GZ]
      have GS:Region.wanted o (yielded ops a.tmps)=false:=by
       simp only[Region.wanted,hg,hy];cases want<;>rfl
      simp only[wpOp,L9,GS];exact hn _ _ _ _ hK (h.undef (λi hi=>.inl hi))
     obtain⟨p,hp,hK⟩:=jy hK;have GZ:a.tmps.getD d Go.undef=.bool p:=by
      obtain⟨μ,F,hI⟩:=h.inv;have:=hI.dB _ _ (.inl ⟨d,rfl,rfl⟩);rw[hp]at this;exact(dF this).1
     have hy:yielded ops a.tmps g=some p:=by
      unfold yielded;simp only[Jz,ab,hd];rw[aI]at GZ;cases hq:a.tmps[d]? with
      | none=>rw[hq]at GZ;cases GZ
      | some q=>rw[hq]at GZ;simp at GZ;rw[GZ]
     have hS:=h.Cj (x:=vb p) hp;have GS:Region.wanted o (yielded ops a.tmps)=(p==want):=by
      simp only[Region.wanted,hg,hy];cases p<;>cases want<;>rfl
     simp only[wpOp,L9,GS];cases p<;>cases want
     ·exact .inl (run hS hK)
     ·exact hn _ _ _ _ hK (hS.undef (λi hi=>.inl hi))
     ·exact hn _ _ _ _ hK (hS.undef (λi hi=>.inl hi))
     ·exact .inl (run hS hK)
    ·cases hK
   ·cases hK
 ·cases hK
def Ul(U:Nat->Prop)(n:Nat)(l:List Nat):Nat->Prop:=λi=>U i\/∃k∈l,8*(n+k)<=i/\i<8*(n+k)+8
theorem Gf(hG:dK P G){C:FuncId->List AV->(AV->Option R)->Option R}(hC:∀g fw (K:AV->Option R) r,C g fw K=some r->∃x,K x=some r/\iD P W0.root g fw x)
  {ops:Array Oper} {n:Nat} {dr:Nat->Bool} {pre:Nat->List AV->Mem->Bool} {K:List AV->Mem->Option R} {Q:Exit->Act->World->Prop}:∀(l:List Nat) (U:Nat->Prop) (m:Mem) (S:List AV) (a:Act) (w:World),
  kh G W0 F0 U m S a w->(∀i∈l,∀j,j<8->¬ U (8*(n+i)+j))->l.Nodup->pS G C dr pre ops.toList n l S m K=some r->
  (∀S' m' a' w',K S' m'=some r->kh G W0 F0 (Ul U n l) m' S' a' w'->Q .normal a' w')->wpOps P ops Q l a w
 | [],U,m,S,a,w,h,_,_,hK,hn=>hn S m a w hK ⟨h.defers,h.len,by
   obtain⟨μ,F,hI⟩:=h.inv;exact⟨μ,F,hI.wider (λi hi=>.inl hi)⟩⟩
 | i::l,U,m,S,a,w,h,hid,Ay,hK,hn=>by
  rw[wpOps_cons];simp only[pS]at hK;obtain⟨_,hK⟩:=cV hK;rw[List.nodup_cons]at Ay;refine step_ok hG hC h (hid i (by simp)) hK (λS' m' a' w' fe h'=>?_);refine Gf hG hC l _ m' S' a' w' h' ?_ Ay.2 fe ?_
  ·rintro k hk j hj (hu|hu)
   ·exact hid k (by simp[hk]) j hj hu
   ·have:k≠i:=λe=>Ay.1 (e ▸ hk);omega
  ·intro S2 m2 a2 w2 gV h2;refine hn S2 m2 a2 w2 gV ⟨h2.defers,h2.len,?_⟩;obtain⟨μ,F,hI⟩:=h2.inv;refine⟨μ,F,hI.wider ?_⟩;rintro q ((hq|hq)|⟨k,hk,hq⟩)
   ·exact .inl hq
   ·exact .inr ⟨i,by simp,hq⟩
   ·exact .inr ⟨k,by simp[hk],hq⟩
def At(G:eH)(W0:eC)(F0:Nat->Prop)(S:St)(a:Act)(w:World):Prop:=kh G W0 F0 (λi=>i<8*S.kN) S.m S.tm a w
theorem DD(hG:dK P G){C:FuncId->List AV->(AV->Option R)->Option R}(hC:∀g fw (K:AV->Option R) r,C g fw K=some r->∃x,K x=some r/\iD P W0.root g fw x)
  {ops:Array Oper} {S:St} {K:St->Option R} {AZ:Nat} (h:At G W0 F0 S a w) (hK:kX G C ops false S K=some r) :
  (Code.region AZ ops false).wp P (λe a' w'=>e=.normal/\∃S',K S'=some r/\At G W0 F0 S' a' w') a w:=by
 refine wp_region (Gf hG hC (List.range ops.size) _ _ _ a w h ?_ List.nodup_range hK ?_)
 ·intro i _ j hj hu;omega
 ·intro S' m' a' w' fe h';refine⟨rfl,_,fe,h'.defers,h'.len,?_⟩;obtain⟨μ,F,hI⟩:=h'.inv;refine⟨μ,F,hI.wider ?_⟩;rintro q (hq|⟨k,hk,hq⟩)
  ·simp only;omega
  ·simp only[bK]at hk;simp only;omega
end
theorem vw{R:Type}{i:Int}{r:R}:∀(n:Nat) (K:Nat->Option R),mz i n K=some r->∃q:Nat,i=(q:Int)/\K q=some r
 | 0,K,h=>by simp[mz]at h
 | n+1,K,h=>by
  unfold mz at h;by_cases e:i=(n:Int)
  ·rw[decide_eq_true e]at h;exact⟨n,e,h⟩
  ·rw[a_ e]at h;exact vw n K h
theorem Du{R:Type}{S:St}{t c n:Nat}{K:St->Option R}{r:R}(h:splitK S t c n K=some r):K S=some r:=by
 unfold splitK at h;split at h
 ·rename_i id o _;split at h
  ·rename_i tb cs hm;split at h
   ·rename_i k x hc;obtain⟨q,rfl,hq⟩:=vw _ _ h;have hs:cs.set (o+c) (.v (.int k (q:Int)))=cs:=by
     obtain⟨eG,e⟩:=aB.1 hc;rw[<-e];exact List.set_getElem_self eG
    rw[hs]at hq;have hu:S.m.fJ id (Option.some (.box tb cs))=S.m:=Mem.sv hm;rw[hu]at hq;exact hq
   ·cases h
  ·cases h
 ·cases h
theorem ny{R:Type}{r:R}:∀(l:List (Nat × Option Nat × Fl × Nat)) (S:St) (K:St->Option R),splits l S K=some r->K S=some r
 | [],S,K,h=>h
 | (t,.some j,fl,n)::l,S,K,h=>by
  unfold splits at h;cases hb:Nat.ble 2000000 j with
  | true=>rw[hb,ak]at h;exact ny l S K (Du h)
  | false=>rw[hb,cond_false]at h;exact ny l S K h
 | (_,.none,_,_)::l,S,K,h=>ny l S K h
def Ends(P:Program)(b:Frame)(cs:List Frame)(a:Act)(todo:List Item)(w:World)(T:Value->World->Prop):Prop:=
 ∃v w' fr,T v w'/\Steps P (lone (b.at a todo) cs w) (lone fr cs w')/\fr.fn=b.fn/\fr.leaving P w' (.returned v)
theorem Ends.step{P:Program}{b:Frame}{cs:List Frame}{a a' : Act}{todo Ko : List Item}{w w' : World}{T:Value->World->Prop}(h:Steps P (lone (b.at a todo) cs w) (lone (b.at a' Ko) cs w'))(h' : Ends P b cs a' Ko w' T) :
  Ends P b cs a todo w T:=by
 obtain⟨v,w1,fr,hT,hs,hf,hl⟩:=h';exact⟨v,w1,fr,hT,.trans h hs,hf,hl⟩
section
variable {R:Type} {P:Program} {G:eH} {a:Act} {w w' : World} {W0:eC} {F0 U F F' : Nat->Prop} {id:Nat} {L L' : AV->Value->Prop} {r:R} {m:Mem} {μ β:Mu} {S:List AV}
theorem At.cond{S:St}(h:At G W0 F0 S a w){c:Operand}{p:Bool}(hc:ev G S.tm c=vb p):a.eval c=.bool p/\At G W0 F0 { S with tm:=refine c p S.tm } a w:=by
 obtain⟨μ,F,hI⟩:=h.inv;have hv:=Pn.rel hI c;rw[hc]at hv;refine⟨(dF hv).1,?_⟩;cases c with
 | tmp t=>exact kh.Cj (S:=S.tm) h hc
 | _=>exact h
variable (hG:dK P G) {C:FuncId->List AV->(AV->Option R)->Option R} (hC:∀g fw (K:AV->Option R) r,C g fw K=some r->∃x,K x=some r/\iD P W0.root g fw x)
 {b:Frame} {cs:List Frame} {fn:Func} (hb:b.kind=.normal) (hf:P.funcs[b.fn]?=some fn) {T:R->Value->World->Prop}
 {cut:Nat->Option kK} {fin:St->Option R} (ov:∀S a w r,fin S=some r->At G W0 F0 S a w->∃v,(results fn a.tmps).run P w=.ok v w/\T r v w)
 (nh:∀AZ ops draw (S:St) (K:St->Option R) a w r,At G W0 F0 S a w->kX G C ops draw S K=some r->(Code.region AZ ops draw).wp P (λe a' w'=>e=.normal/\∃S',K S'=some r/\At G W0 F0 S' a' w') a w)
include hb hf ov in
theorem Hx{S:St}{a:Act}{w:World}{r:R}(hK:fin S=some r)(h:At G W0 F0 S a w){todo:List Item}:∃v,T r v w/\({ b.at a todo with mode:=.returning }:Frame).leaving P w (.returned v):=by
 obtain⟨v,hr,hT⟩:=ov S a w r hK h;exact⟨v,hT,rfl,h.defers,hb,fn,hf,hr⟩
include hb hf ov nh in
theorem C5{rec:List Item->St->Option R}(Oh:∀todo S a w r keep,rec todo (clean G.kb keep S)=some r->there G.kb (keep.gM.foldl wU S).m=true->At G W0 F0 S a w->Ends P b cs a todo w (T r)):∀(n:Nat) (todo:List Item) (S:St) (a:Act) (w:World) (r:R),
  qZ G C cut fin rec n todo S=some r->At G W0 F0 S a w->Ends P b cs a todo w (T r)
 | 0,todo,S,a,w,r,hK,h=>by simp[qZ]at hK
 | n+1,todo,S,a,w,r,hK,h=>by
  have ih:=λtodo S a w r=>C5 Oh n todo S a w r;unfold qZ at hK;split at hK
  ·obtain⟨v,hT,hl⟩:=Hx hb hf ov hK h (todo:=[]);exact⟨v,w,_,hT,.one step_end,rfl,hl⟩
  ·exact .step (.one step_inBlock) (ih _ _ _ _ _ hK h)
  ·exact .step (.one step_inLoop) (ih _ _ _ _ _ hK h)
  ·rename_i c k;split at hK
   ·exact .step (.one step_skip) (ih _ _ _ _ _ hK h)
   ·exact .step (.one step_label) (ih _ _ _ _ _ hK h)
   ·exact .step (.one step_seq) (ih _ _ _ _ _ hK h)
   ·rename_i c t e;obtain⟨p,hp,hK⟩:=jy hK;obtain⟨hv,hA⟩:=h.cond hp;have hs:=step_cond (P:=P) (b:=b) (k:=k) (cs:=cs) (w:=w) (x:=t) (y:=e) hv;cases p with
    | true=>exact .step (.one (by simpa using hs)) (ih _ _ _ _ _ hK hA)
    | false=>exact .step (.one (by simpa using hs)) (ih _ _ _ _ _ hK hA)
   ·exact .step (.one step_block) (ih _ _ _ _ _ hK h)
   ·exact .step (.one step_loop) (ih _ _ _ _ _ hK h)
   ·obtain⟨k',rU,hK⟩:=cN hK;exact .step (.one (step_exit rU)) (ih _ _ _ _ _ hK h)
   ·obtain⟨v,hT,hl⟩:=Hx hb hf ov hK h (todo:=k);exact⟨v,w,_,hT,.one step_ret,rfl,hl⟩
   ·rename_i AZ ops draw;split at hK
    ·obtain⟨ht,hK⟩:=cV hK;exact Oh _ _ _ _ _ _ hK ht h
    ·obtain⟨e,a',w',⟨rfl,S',fe,hA⟩,Mj⟩:=nh AZ ops draw S _ a w r h hK b k cs;exact .step Mj (ih _ _ _ _ _ fe hA)
   ·cases hK
  ·cases hK
include hb hf ov nh in
theorem AW(He:∀keep S a w,there G.kb (keep.gM.foldl wU S).m=true->At G W0 F0 S a w->At G W0 F0 (clean G.kb keep S) a w):∀(n:Nat) (todo:List Item) (S:St) (a:Act) (w:World) (r:R),
  runK G C cut fin n todo S=some r->At G W0 F0 S a w->Ends P b cs a todo w (T r)
 | 0,todo,S,a,w,r,hK,h=>by simp[runK]at hK
 | n+1,todo,S,a,w,r,hK,h=>by
  simp only[runK]at hK;unfold B1 at hK;split at hK
  ·rename_i AZ ops draw k;have hK:=ny _ _ _ hK;obtain⟨e,a',w',⟨rfl,S',fe,hA⟩,Mj⟩:=nh AZ ops draw S _ a w r h hK b k cs;exact .step Mj (C5 hb hf ov nh (λtodo S a w r keep hK ht h=>AW He n todo _ a w r hK (He keep S a w ht h)) 1000 _ _ _ _ _ fe hA)
  ·cases hK
end
theorem pb(keep:List Tmp)(ord:List Nat):∀(xs:List AV) (i:Nat),(pd keep ord i xs).length=xs.length
 | [],_=>rfl
 | x::xs,i=>by simp[pd,pb keep ord xs]
theorem vL(keep:List Tmp)(ord:List Nat):∀(xs:List AV) (i t:Nat),(pd keep ord i xs).getD t .undef=.undef\/(pd keep ord i xs).getD t .undef=uA 4 ord (xs.getD t .undef)
 | [],_,t=>.inl (by simp[pd])
 | x::xs,i,0=>by
  simp only[pd];cases keep.contains i with
  | true=>exact .inr rfl
  | false=>exact .inl rfl
 | x::xs,i,t+1=>vL keep ord xs (i+1) t
section
variable {R:Type} {P:Program} {G:eH} {a:Act} {w w' : World} {W0:eC} {F0 U F F' : Nat->Prop} {id:Nat} {L L' : AV->Value->Prop} {r:R} {m m' : Mem} {μ eM β:Mu} {S:List AV}
theorem sB{kb:Nat}(h:there kb m=true):Good m (List.range kb):=by
 refine⟨List.nodup_range,λi hi e=>?_⟩;have:=ay.1 h i hi;rw[e]at this;cases this
theorem Dl{m:Mem}:∀(n:Nat) (ord:List Nat) (x:AV),∃t,visit n m ord x=ord++t:=by
 intro n;induction n with
 | zero=>intro ord x;exact⟨[],by simp[visit]⟩
 | succ n ih=>
  have hl:∀(cs:List AV) (ord:List Nat),∃t,cs.foldl (visit n m) ord=ord++t:=by
   intro cs;induction cs with
   | nil=>intro ord;exact⟨[],by simp⟩
   | cons c cs Xc=>
    intro ord;obtain⟨t1,e1⟩:=ih ord c;obtain⟨t2,e2⟩:=Xc (visit n m ord c);exact⟨t1++t2,by rw[List.foldl_cons,e2,e1,bH]⟩
  intro ord x;unfold visit;split
  ·cases ord.contains _ with
   | true=>exact⟨[],by simp⟩
   | false=>simp only[cond_false];split<;>first|exact⟨_,rfl⟩|exact⟨[],by simp⟩
  ·cases ord.contains _ with
   | true=>exact⟨[],by simp⟩
   | false=>simp only[cond_false];split<;>first|exact⟨_,rfl⟩|exact⟨[],by simp⟩
  ·cases ord.contains _ with
   | true=>exact⟨[],by simp⟩
   | false=>
    simp only[cond_false];split
    ·obtain⟨t,e⟩:=hl _ (ord++[_]);exact⟨_,by rw[e,bH]⟩
    ·exact⟨_,rfl⟩
    ·exact⟨[],by simp⟩
  ·cases ord.contains _ with
   | true=>exact⟨[],by simp⟩
   | false=>
    simp only[cond_false];split
    ·obtain⟨t,e⟩:=hl _ (ord++[_]);exact⟨_,by rw[e,bH]⟩
    ·exact⟨_,rfl⟩
    ·exact⟨[],by simp⟩
  all_goals first|exact hl _ _|exact⟨[],by simp⟩
theorem lQ{α:Type}{m:Mem}{f:α->AV}:∀(l:List α) (ord:List Nat),∃t,l.foldl (λord q=>visit 6 m ord (f q)) ord=ord++t
 | [],ord=>⟨[],by simp⟩
 | q::l,ord=>by
  obtain⟨t1,e1⟩:=Dl (m:=m) 6 ord (f q);obtain⟨t2,e2⟩:=lQ (f:=f) l (visit 6 m ord (f q));exact⟨t1++t2,by rw[List.foldl_cons,e2,e1,bH]⟩
theorem Cr{kb:Nat}{ord t:List Nat}(h:ord=List.range kb++t){i:Nat}(hi:i<kb):ord[i]?=some i:=by
 rw[h,aN (by simpa using hi)];simp[hi]
theorem I6{kb:Nat}{ord t:List Nat}(h:ord=List.range kb++t)(hn:ord.Nodup){i:Nat}(hi:i<kb):gZ ord i=some i:=by
 have hg:=Cr h hi;cases e:gZ ord i with
 | none=>
  unfold gZ at e;rw[List.findIdx?_eq_none_iff]at e;have:=e i (aO hg);simp at this
 | some j=>
  have hj:=gz e;have:j<ord.length:=(aB.1 hj).1;rw[(List.getElem?_inj this hn).1 (hj.trans hg.symm)]
theorem lR{α:Type}{m:Mem}{f:α->AV}:∀(l:List α) (ord:List Nat),Good m ord->Good m (l.foldl (λord q=>visit 6 m ord (f q)) ord)
 | [],ord,h=>h
 | q::l,ord,h=>lR l _ (lS 6 ord (f q) h)
theorem EC(keep:List Tmp)(S:St)(a:Act)(w:World)(N8:there G.kb S.m=true)(h:At G W0 F0 S a w):At G W0 F0 (BQ G.kb keep S) a w:=by
 obtain⟨μ,F,hI⟩:=h.inv;obtain⟨ord,rr⟩:∃ord,ord=(List.range G.kb).foldl (λord i=>visit 6 S.m ord (boxed S.m i)) (keep.foldl (λord t=>visit 6 S.m ord (S.tm.getD t .undef)) (List.range G.kb)):=⟨_,rfl⟩;have nW:Good S.m ord:=by rw[rr];exact lR _ _ (vK keep _ (sB N8))
 obtain⟨t0,Iu⟩:∃t,ord=List.range G.kb++t:=by
  rw[rr];obtain⟨t1,e1⟩:=lQ (m:=S.m) (f:=λt=>S.tm.getD t .undef) keep (List.range G.kb);obtain⟨t2,e2⟩:=lQ (m:=S.m) (f:=boxed S.m) (List.range G.kb) (keep.foldl (λord t=>visit 6 S.m ord (S.tm.getD t .undef)) (List.range G.kb));exact⟨t1++t2,by rw[e2,e1,bH]⟩
 have fZ:BQ G.kb keep S=⟨pd keep ord 0 S.tm,Mem.ofList (ord.map λi=>jr ord (S.m i)),ord.length⟩:=by rw[rr];rfl
 have kE:∀j b',Mem.ofList (ord.map λi=>jr ord (S.m i)) j=some b'->∃id b,ord[j]?=some id/\S.m id=some b/\b'=jr ord (some b):=by
  intro j b' hj;simp only[Mem.ofList,aL,aA]at hj;obtain⟨id,hid,rfl⟩:=hj;cases hm:S.m id with
  | none=>exact absurd hm (nW.2 id (aO hid))
  | some b=>exact⟨id,b,hid,hm,rfl⟩
 have eG:∀(j id:Nat),ord[j]?=some id->j<ord.length:=λj id hj=>(aB.1 hj).1;have hc:MF ord S.m (Mem.ofList (ord.map λi=>jr ord (S.m i))) μ (λj=>(ord[j]?).bind μ) (λi=>i<8*ord.length):=by
  refine⟨λj id hj=>?_,λj id hj=>by simp[hj],λj id hj=>by have:=eG j id hj;show j<8*ord.length;omega⟩;cases hm:S.m id with
  | none=>exact absurd hm (nW.2 id (aO hj))
  | some b=>exact .inr ⟨b,rfl,by simp[Mem.ofList,hj,hm]⟩
 rw[fZ];refine⟨h.defers,by simpa[pb]using h.len,λj=>(ord[j]?).bind μ,F,?_⟩;refine{ below:=hI.below,dC:=hI.dC,sub:=hI.sub,gl:=hI.gl,used:=?_,j7:=?_,own:=?_,inj:=?_,dB:=?_ }
 ·intro j b' hj;obtain⟨id,b,hid,_,_⟩:=kE j b' hj;exact hc.used j id hid
 ·intro j b' hj;obtain⟨id,b,hid,hb,rfl⟩:=kE j b' hj;have hB:=hI.j7 id b hb;cases b with
  | box tb cs=>
   obtain⟨b,C,f,e1,e2,e3,e4,e5⟩:=hB;refine⟨b,C,f,by simp[hid,e1],e2,by simpa using e3,e4,λk c hk=>?_⟩;simp only[aL,aA]at hk;obtain⟨y,hy,rfl⟩:=hk;exact yF hc 3 (e5 k y hy)
  | row fl sz xs=>
   obtain⟨e1,e2,e3⟩:=hB;refine⟨e1,e2,?_⟩;simpa[hid]using e3
 ·intro j b' b o n hj hb;obtain⟨id,b1,hid,ow,rfl⟩:=kE j b' hj;simp only[hid,ab]at hb;exact hI.own id b1 b o n ow hb
 ·intro j j' b1 b2 b o n o' n' hj kZ hb ia;obtain⟨id,c1,hid,zB,rfl⟩:=kE j b1 hj;obtain⟨rp,c2,zw,Hg,rfl⟩:=kE j' b2 kZ;simp only[hid,ab]at hb;simp only[zw,ab]at ia;have e:=hI.inj id rp c1 c2 b o n o' n' zB Hg hb ia;subst e;exact(List.getElem?_inj (eG j _ hid) nW.1).1 (hid.trans zw.symm)
 ·rintro x v (⟨t,rfl,rfl⟩|⟨g,cs,hg,rfl,rfl⟩|⟨i,hi,rfl,rfl⟩)
  ·have hp:=hI.dB _ _ (.inl ⟨t,rfl,rfl⟩);rcases vL keep ord S.tm 0 t with e|e
   ·rw[e];exact dI (dE (fk jo))
   ·rw[e];exact F5 hc 4 hp
  ·exact hI.dB _ _ (.inr (.inl ⟨g,cs,hg,rfl,rfl⟩))
  ·have:=F5 hc 4 (hI.dB _ _ (.inr (.inr ⟨i,hi,rfl,rfl⟩)));simpa only[uA,I6 Iu nW.1 hi]using this
theorem At.Lw{S:St}(h:At G W0 F0 S a w){t:Nat}{x:AV}{n' : Nat}(hI:de W0 F0 U m' (u_ G W0 S.tm a) w μ F)(hx:eB w F μ m' U x (a.tmps.getD t Go.undef))(hU:∀i,U i->i<8*n') :
  At G W0 F0 ⟨S.tm.set t x,m',n'⟩ a w:=by
 have Iy : de W0 F0 U m' (u_ G W0 (S.tm.set t x) a) w μ F:=by
  refine{ hI with dB:=?_ };rintro y v (⟨t',rfl,rfl⟩|hg)
  ·by_cases e:t'=t
   ·subst e;by_cases eG:t'<S.tm.length
    ·simpa[ah,eG]using hx
    ·have:=hI.dB _ _ (.inl ⟨t',rfl,rfl⟩);simpa[ah,List.getElem?_set,eG]using this
   ·have:=hI.dB _ _ (.inl ⟨t',rfl,rfl⟩);simpa[ah,List.getElem?_set_ne (Ne.symm e)]using this
  ·exact hI.dB _ _ (.inr hg)
 exact⟨h.defers,by simpa using h.len,μ,F,Iy.wider hU⟩
theorem Cu{id:Nat}{fl:Fl}{sz:Nat}(hu:U id)(hm:m id=some (.row fl sz [])):eS w F μ m U (.own id 0 none) (.slice none 0 0):=by
 refine⟨λ_=>rfl,hu,λgk im xs hx=>?_⟩;rw[hm]at hx;cases hx;exact⟨none,0,by simp[lenOf],by simp[lenOf],by simp[lenOf],.inl ⟨rfl,rfl⟩⟩
theorem At.zM{S:St}(h:At G W0 F0 S a w)(fl:Fl)(sz:Nat) :
  ∃μ F,de W0 F0 (λi=>i<8*S.kN\/i=8*S.kN) (S.m.fJ (8*S.kN) (some (.row fl sz []))) (u_ G W0 S.tm a) w μ F:=by
 obtain⟨μ,F,hI⟩:=h.inv;refine⟨_,F,hI.wF (q:=none) (x:=.row fl sz []) (L':=u_ G W0 S.tm a) (by show ¬ (_<_);omega) hI.below (aJ _) (λ_ _ _=>rfl) (by simp) ⟨by simp,by simp[df],.inl ⟨rfl,by simp⟩⟩ (λy v hy=>.inl hy)⟩
theorem de.FV{S:St}(hI:de W0 F0 U m (u_ G W0 S.tm a) w μ F){id j:Nat}{tb:TypeId}{cs:List AV}{x:AV}(hid:m id=some (.box tb cs))(hx:∀v,(∃C:Array Value,v=C.getD j Go.undef/\∀k c,cs[k]?=some c->eS w F μ m U c (C.getD k Go.undef))->j<cs.length->eS w F μ m U x v) :
  de W0 F0 U (m.fJ id (some (.box tb (cs.set j x)))) (u_ G W0 S.tm a) w μ F:=by
 have qf:∀i,U i->ec (m i) (m.fJ id (some (.box tb (cs.set j x))) i)/\(m.fJ id (some (.box tb (cs.set j x))) i≠none->μ i=μ i):=by
  intro i hi;refine⟨?_,λ_=>rfl⟩;by_cases e:i=id
  ·subst e;rw[Mem.dx,hid];simp[ec]
  ·rw[Mem.dk _ _ e];exact .refl _
 have hex:∀i y,m.fJ id (some (.box tb (cs.set j x))) i=some y->∃y',m i=some y':=by
  intro i y hy;by_cases e:i=id
  ·subst e;exact⟨_,hid⟩
  ·rw[Mem.dk _ _ e]at hy;exact⟨y,hy⟩
 refine{ below:=hI.below,dC:=hI.dC,sub:=hI.sub,gl:=hI.gl,used:=?_,j7:=?_,own:=?_,inj:=?_,dB:=?_ }
 ·intro i y hy;obtain⟨y',h'⟩:=hex i y hy;exact hI.used i y' h'
 ·intro i y hy;by_cases e:i=id
  ·subst e;rw[Mem.dx]at hy;cases hy;obtain⟨b,C,f,e1,e2,e3,e4,e5⟩:=hI.j7 i _ hid;refine⟨b,C,f,e1,e2,by simpa using e3,e4,λk c hk=>?_⟩;rw[List.getElem?_set]at hk;split at hk
   ·rename_i Tt;subst Tt;split at hk
    ·rename_i eG;cases hk;exact(hx _ ⟨C,rfl,e5⟩ eG).mono (λ_ h=>h) (λ_ _=>rfl) (λ_ h=>h) qf
    ·cases hk
   ·exact(e5 k c hk).mono (λ_ h=>h) (λ_ _=>rfl) (λ_ h=>h) qf
  ·rw[Mem.dk _ _ e]at hy;exact(hI.j7 i y hy).mono (λ_ h=>h) (λ_ _=>rfl) (λ_ h=>h) qf rfl (λ_ _ _ _=>rfl)
 ·intro i y b o n hy hb;obtain⟨y',h'⟩:=hex i y hy;exact hI.own i y' b o n h' hb
 ·intro i i' y y' b o n o' n' hy nf hb ia;obtain⟨z,hz⟩:=hex i y hy;obtain⟨z',Av⟩:=hex i' y' nf;exact hI.inj i i' z z' b o n o' n' hz Av hb ia
 ·intro y v hy;exact(hI.dB y v hy).mono (λ_ h=>h) (λ_ _=>rfl) (λ_ h=>h) qf
theorem IU(S:St)(t:Nat)(h:At G W0 F0 S a w):At G W0 F0 (Lq S t) a w:=by
 unfold Lq;split
 ·rename_i y hy;obtain⟨μ,F,hI⟩:=h.inv;have hx:=hI.dB _ _ (.inl ⟨t,rfl,rfl⟩);exact h.Lw (hI.freeze _) (dI (dE (eE (oQ hI hx hy _ (λi hi=>hi))))) (λ_ hi=>hi)
 ·exact h
theorem I1(S:St)(e:Nat × Option Nat × Fl × Nat)(h:At G W0 F0 S a w):At G W0 F0 (wU S e) a w:=by
 obtain⟨t,oj,fl,sz⟩:=e;obtain⟨μ,F,hI⟩:=h.zM fl sz;have hU:∀i,(i<8*S.kN\/i=8*S.kN)->i<8*(S.kN+1):=by intro i hi;omega
 have fc:=Cu (w:=w) (F:=F) (μ:=μ) (U:=λi=>i<8*S.kN\/i=8*S.kN) (.inr rfl) (Mem.dx S.m (8*S.kN) (some (.row fl sz [])));have ht:=hI.dB _ _ (.inl ⟨t,rfl,rfl⟩);cases oj with
 | none=>
  simp only[wU];split
  ·rename_i uT;rw[uT]at ht;rw[<-(dF ht).1]at fc;exact h.Lw hI (dI (dE fc)) hU
  ·exact h
 | some j=>
  simp only[wU];cases Nat.ble 2000000 j
  case true=>exact h
  simp only[cond_false];cases Nat.ble 1000000 j
  case true=>exact IU S t h
  simp only[cond_false];split
  ·rename_i cs uV;split
   ·rename_i hj;rw[uV]at ht;obtain⟨vs,e,hl,hr⟩:=ht;refine h.Lw hI ⟨vs,e,by simpa using hl,λk c hk=>?_⟩ hU;rw[List.getElem?_set]at hk;split at hk
    ·rename_i Tt;subst Tt;split at hk
     ·cases hk;have:=hr j _ hj;rw[<-(dF (dI (dE this))).1]at fc;exact fc
     ·cases hk
    ·exact hr k c hk
   ·exact h
  ·rename_i id off hp;split
   ·rename_i tb cs hm;split
    ·rename_i hj;have eG:id<8*S.kN:=by
      obtain⟨U9,Y3,Na⟩:=h.inv;exact Na.used id _ hm
     have fN:id≠8*S.kN:=by omega
     refine⟨h.defers,h.len,μ,F,(de.FV hI (id:=id) (j:=j) (cs:=cs) (x:=.own (8*S.kN) 0 none) ?_ ?_).wider hU⟩
     ·rw[Mem.dk _ _ fN];exact hm
     ·rintro v ⟨C,rfl,hC⟩ _;have:=hC j _ hj;rw[<-(dF (dI (dE this))).1]at fc;exact fc
    ·exact h
   ·exact h
  ·exact h
theorem pA(k:kK)(S:St)(a:Act)(w:World)(ht:there G.kb (k.gM.foldl wU S).m=true)(h:At G W0 F0 S a w):At G W0 F0 (clean G.kb k S) a w:=by
 have:∀(l:List (Nat × Option Nat × Fl × Nat)) (S:St),At G W0 F0 S a w->At G W0 F0 (l.foldl wU S) a w:=by
  intro l;induction l with
  | nil=>intro S h;exact h
  | cons e l ih=>intro S h;exact ih _ (I1 S e h)
 exact EC _ _ _ _ ht (this _ _ h)
end
section
variable {R:Type} {P:Program} {G:eH} {a:Act} {w w' : World} {W0:eC} {F0 U F F' : Nat->Prop} {id:Nat} {L L' : AV->Value->Prop} {r:R} {m m' : Mem} {μ eM β:Mu} {S:List AV}
abbrev u5:=Option Nat × Option (Nat × Nat × Nat)
def KF(m:Mem)(μ:Mu)(q:u5):Prop:=(∀i,q.1=some i->m i≠none)/\∀b o n,q.2=some (b,o,n)->∃i o' n',q.1=some i/\μ i=some (b,o',n')
def u9(w:World)(F:Nat->Prop)(m:Mem)(μ:Mu)(ids ju : List Nat)(E:List u5):Prop:=
 ju=(E.filterMap (·.1)).reverse++ids/\(ids.Nodup->ju.Nodup)/\∀q∈E,KF m μ q
def Fits(β:Mu)(k:Nat)(E:List u5):Prop:=∀(t:Nat) (q:u5),E[t]?=some q->β (k+t)=q.2
theorem v7{k:SK}{x:AV}{v:Value}{ids:List Nat}{K:List Nat->AV->Option R}(h:de W0 F0 U m L w μ F)(hx:eS w F μ m U x v)(hK:Eg m ids k x K=some r) :
  ∃ju y E,K ju y=some r/\u9 w F m μ ids ju E/\E.length=EZ y/\(∀cs,y≠.dU cs)/\(∀cs,y≠.agg cs)/\∀β k,Fits β k E->rA w F β k y v:=by
 have plain:∀y,K ids y=some r->EZ y=0->(∀cs,y≠.dU cs)->(∀cs,y≠.agg cs)->(∀β k,rA w F β k y v)->∃ju y E,K ju y=some r/\u9 w F m μ ids ju E/\E.length=EZ y/\(∀cs,y≠.dU cs)/\(∀cs,y≠.agg cs)/\∀β k,Fits β k E->rA w F β k y v:=
  λy hK h0 h1 h2 hr=>⟨ids,y,[],hK,⟨rfl,λh=>h,by simp⟩,by simp[h0],h1,h2,λβ k _=>hr β k⟩
 have flat:(mP x λy=>K ids (.v y))=some r->∃ju y E,K ju y=some r/\u9 w F m μ ids ju E/\E.length=EZ y/\(∀cs,y≠.dU cs)/\(∀cs,y≠.agg cs)/\∀β k,Fits β k E->rA w F β k y v:=by
  intro hK;obtain⟨y,rfl,hK⟩:=sf hK;exact plain (.v y) hK rfl (by simp) (by simp) (λ_ _=>hx.2)
 cases k with
 | slice fl sz=>
  simp only[Eg]at hK;split at hK
  ·rename_i id off l;cases hc:ids.contains id with
   | true=>rw[hc]at hK;cases hK
   | false=>
    rw[hc]at hK;simp only[cond_false]at hK;split at hK
    ·rename_i gk im xs hm;obtain⟨h1,hK⟩:=cV hK;rw[ae]at h1;have e1:=eq_of_beq h1.1;have e2:=aj h1.2;subst e1;subst e2;have XG:id ∉ ids:=by simpa using hc
     obtain⟨_,hu,hp⟩:=hx;obtain⟨ad,cap,rfl,jg,hlen,dT⟩:=hp _ _ xs hm;obtain⟨hs,lq,gE⟩:=h.j7 id _ hm;have he:=lD off l xs;generalize rowOf off l xs=ys at hK he;generalize hn:lenOf xs.length off l=n at *;have hl:ys.length=n:=by rw[he];simp;omega
     have xV : ∀x∈ys,x.cells.length=im:=λx hx=>hs x (aW (aR (he ▸ hx)));have xq : ∀x∈df ys,uB gk x:=by
      intro x hx;rw[he]at hx;simp only[df,aS]at hx;obtain⟨y,hy,hx⟩:=hx;exact lq x (by simp only[df,aS];exact⟨y,aW (aR hy),hx⟩)
     have mk:∀B:Option (Nat × Nat × Nat),(∀b o n,B=some (b,o,n)->∃o' n',μ id=some (b,o',n'))->(∀β k,β k=B->rA w F β k (.fr gk im ys) (.slice ad n cap))->
       ∃ju y E,K ju y=some r/\u9 w F m μ ids ju E/\E.length=EZ y/\(∀cs,y≠.dU cs)/\(∀cs,y≠.agg cs)/\∀β k,Fits β k E->rA w F β k y (.slice ad n cap):=by
      intro B hB hr;refine⟨_,_,[(some id,B)],hK,⟨rfl,λAy=>?_,?_⟩,rfl,by simp,by simp,λβ k hf=>hr β k (by simpa using hf 0 _ rfl)⟩
      ·rw[List.nodup_cons];exact⟨XG,Ay⟩
      ·intro q hq;simp at hq;subst hq;refine⟨λi hi=>?_,λb o n hb=>?_⟩
       ·cases hi;simp[hm]
       ·obtain⟨o',n',h'⟩:=hB b o n hb;exact⟨id,o',n',rfl,h'⟩
     rcases dT with⟨rfl,rfl⟩|⟨b,o,N,xR,eN,rfl,AA,dT⟩
     ·have h0:n=0:=by omega
      have:ys=[]:=aT.1 (by omega);subst this;subst h0;exact mk none (by simp) (λβ k L0=>⟨⟨by simp,by simp[df],.inl ⟨rfl,L0⟩⟩,none,0,rfl,aJ _,.inl ⟨rfl,rfl⟩⟩)
     ·rcases gE with⟨_,dG⟩|⟨b',o',C,f,dG,hh,hC,nG,hr⟩
      ·rw[eN]at dG;cases dG
      rw[eN]at dG;simp only[aY,bF]at dG;obtain⟨rfl,rfl,rfl⟩:=dG;refine mk (some (b,o+off*im,C.size)) (λb1 o1 n1 e=>by cases e;exact⟨o,C.size,eN⟩) (λβ k L0=>?_);have hle:=aV im hlen;rw[bG]at hle;refine⟨⟨xV,xq,.inr ⟨b,o+off*im,C,f,L0,hh,by rw[hl];omega,nG,λj c hj=>?_⟩⟩,some xR,cap,by rw[hl],by omega,.inr ⟨b,o+off*im,C.size,xR,L0,rfl,AA,?_⟩⟩
      ·rw[he]at hj;have hj:=fg im n _ j c hj;rw[fU im off xs hs,bg]at hj;have:=hr _ c hj;rwa[<-Nat.add_assoc]at this
      ·rcases dT with dT|⟨e1,e2⟩
       ·exact .inl dT
       ·refine .inr ⟨e1,?_⟩;rw[bG]at e2;omega
    ·cases hK
  ·obtain⟨_,hx⟩:=hx;cases hx;exact⟨ids,_,[(none,none)],hK,⟨rfl,λh=>h,by simp[KF]⟩,rfl,by simp,by simp,λβ k hf=>⟨⟨by simp,by simp[df],.inl ⟨rfl,by simpa using hf 0 _ rfl⟩⟩,none,0,rfl,aJ _,.inl ⟨rfl,rfl⟩⟩⟩
  ·exact hx.2.elim
  ·cases hK
 | any=>
  simp only[Eg]at hK;split at hK
  ·obtain⟨_,hx⟩:=hx;cases hx;exact plain _ hK rfl (by simp) (by simp) (λ_ _=>.oB)
  ·obtain⟨_,hx⟩:=hx;cases hx;exact plain _ hK rfl (by simp) (by simp) (λ_ _=>.nR _ _)
  ·exact plain _ hK rfl (by simp) (by simp) (λ_ _=>hx.2)
  ·cases hK
 | _=>exact flat hK
theorem q7{ids DY DX:List Nat}{E1 E2:List u5}(h1:u9 w F m μ ids DY E1)(h2:u9 w F m μ DY DX E2):u9 w F m μ ids DX (E1++E2):=by
 obtain⟨rfl,n1,o1⟩:=h1;obtain⟨rfl,n2,o2⟩:=h2;refine⟨by simp,λh=>n2 (n1 h),λq hq=>?_⟩;rcases aK.1 hq with hq|hq
 ·exact o1 q hq
 ·exact o2 q hq
theorem q5{β:Mu}{k:Nat}{E1 E2:List u5}(h:Fits β k (E1++E2)):Fits β k E1/\Fits β (k+E1.length) E2:=by
 refine⟨λt q hq=>h t q ?_,λt q hq=>?_⟩
 ·rw[aN (aB.1 hq).1];exact hq
 ·have:=h (E1.length+t) q (by rw[aQ (by omega),Nat.add_sub_cancel_left];exact hq);rwa[<-Nat.add_assoc]at this
theorem v8(h:de W0 F0 U m L w μ F):∀(ks:List SK) (xs:List AV) (ids:List Nat) (u:Nat->Value) (K:List Nat->List AV->Option R),(∀j c,xs[j]?=some c->eS w F μ m U c (u j))->Eh m ids ks xs K=some r->
  ∃ju ys E,K ju ys=some r/\u9 w F m μ ids ju E/\E.length=DM ys/\ys.length=xs.length/\∀β k,Fits β k E->ES w F β k ys u
 | [],[],ids,u,K,hx,hK=>⟨ids,[],[],hK,⟨rfl,λh=>h,by simp⟩,rfl,rfl,λ_ _ _=>trivial⟩
 | [],_::_,ids,u,K,hx,hK=>by simp[Eh]at hK
 | _::_,[],ids,u,K,hx,hK=>by simp[Eh]at hK
 | k::ks,x::xs,ids,u,K,hx,hK=>by
  simp only[Eh]at hK;obtain⟨DY,y,E1,dY,x1,l1,_,_,r1⟩:=v7 h (hx 0 x rfl) hK;obtain⟨DX,s,E2,gV,x2,l2,l3,r2⟩:=v8 h ks xs DY (λj=>u (j+1)) _ (λj c hj=>hx (j+1) c (by simpa using hj)) dY;refine⟨DX,y::s,E1++E2,gV,q7 x1 x2,by simp[DM,l1,l2],by simp[l3],λβ k hf=>?_⟩;obtain⟨f1,f2⟩:=q5 hf;rw[l1]at f2;exact⟨r1 β k f1,r2 β _ f2⟩
theorem Ei{ti:TI}{x:AV}{v:Value}{ids:List Nat}{K:List Nat->AV->Option R}(h:de W0 F0 U m L w μ F)(hx:eB w F μ m U x v)(hK:Mp m ids ti x K=some r) :
  ∃ju y E,K ju y=some r/\u9 w F m μ ids ju E/\E.length=Gm y/\(∀cs,y≠.dU cs)/\∀β k,Fits β k E->Ap w F β k y v:=by
 unfold Mp at hK;split at hK
 ·rename_i cs;obtain⟨_,hK⟩:=cV hK;obtain⟨vs,rfl,hl,hr⟩:=hx;obtain⟨ju,ys,E,hK,x1,l1,l2,r1⟩:=v8 h _ _ ids (λj=>vs.getD j undef) _ hr hK;exact⟨ju,.agg ys,E,hK,x1,l1,by simp,λβ k hf=>⟨vs,rfl,by omega,r1 β k hf⟩⟩
 ·rename_i XI;split at hK
  ·rename_i k Ow;have Xm:eS w F μ m U x v:=by
    cases x
    case agg cs=>exact absurd rfl (XI cs)
    case dU cs=>
     cases k<;>simp[Eg,mP]at hK
    all_goals exact hx
   obtain⟨ju,y,E,hK,x1,l1,h1,h2,r1⟩:=v7 h Xm hK;refine⟨ju,y,E,hK,x1,?_,h1,λβ k hf=>?_⟩
   ·cases y<;>first|exact l1|exact absurd rfl (h2 _)
   ·have:=r1 β k hf;cases y<;>first|exact this|exact absurd rfl (h2 _)
  ·cases hK
theorem tS(hG:dK P G)(h:de W0 F0 U m L w μ F):∀(ts:List TypeId) (xs:List AV) (ids:List Nat) (u:Nat->Value) (K:List Nat->List AV->Option R),(∀j c,xs[j]?=some c->eB w F μ m U c (u j))->v_ G m ids ts xs K=some r->
  ∃ju ys E,K ju ys=some r/\u9 w F m μ ids ju E/\ys.length=xs.length/\(∀y∈ys,∀cs,y≠.dU cs)/\∀β k,Fits β k E->wG w F β k ys u
 | [],[],ids,u,K,hx,hK=>⟨ids,[],[],hK,⟨rfl,λh=>h,by simp⟩,rfl,by simp,λ_ _ _=>trivial⟩
 | [],_::_,ids,u,K,hx,hK=>by simp[v_]at hK
 | _::_,[],ids,u,K,hx,hK=>by simp[v_]at hK
 | t::ts,x::xs,ids,u,K,hx,hK=>by
  simp only[v_]at hK;obtain⟨ti,ko,hK⟩:=cN hK;obtain⟨DY,y,E1,dY,x1,l1,n1,r1⟩:=Ei h (hx 0 x rfl) hK;obtain⟨DX,s,E2,gV,x2,l3,n2,r2⟩:=tS hG h ts xs DY (λj=>u (j+1)) _ (λj c hj=>hx (j+1) c (by simpa using hj)) dY;refine⟨DX,y::s,E1++E2,gV,q7 x1 x2,by simp[l3],?_,λβ k hf=>?_⟩
  ·intro z hz;rcases br.1 hz with rfl|hz
   ·exact n1
   ·exact n2 z hz
  ·obtain⟨f1,f2⟩:=q5 hf;rw[l1]at f2;exact⟨r1 β k f1,r2 β _ f2⟩
end
section
variable {R:Type} {P:Program} {G:eH} {a:Act} {w w' : World} {W0:eC} {F0 U F F' : Nat->Prop} {id:Nat} {L L' : AV->Value->Prop} {r:R} {m m' : Mem} {μ eM β:Mu}
abbrev mT(tmps:Array Value):ResultVar->Sem Value
 | .tmp t=>pure (tmps.getD t Go.undef)
 | .cell a t=>do loadVar t (<-asAddr (tmps.getD a Go.undef))
theorem nA(hG:dK P G){S:St}(h:de W0 F0 U S.m (u_ G W0 S.tm a) w μ F):∀(rs:List ResultVar) (K:List AV->Option R),yE G S rs K=some r->
  ∃xs vs,K xs=some r/\(rs.mapM (mT a.tmps)).run P w=.ok vs w/\vs.length=xs.length/\∀j c,xs[j]?=some c->eB w F μ S.m U c (vs.getD j Go.undef)
 | [],K,hK=>⟨[],[],hK,rfl,rfl,by simp⟩
 | .tmp t::rs,K,hK=>by
  simp only[yE]at hK;obtain⟨xs,vs,hK,eV,hl,hr⟩:=nA hG h rs _ hK;refine⟨_,a.tmps.getD t Go.undef::vs,hK,by simp[List.mapM_cons,mT,eV],by simp[hl],λj c hj=>?_⟩;cases j with
  | zero=>simp at hj;subst hj;exact h.dB _ _ (.inl ⟨t,by simp,rfl⟩)
  | succ j=>exact hr j c (by simpa using hj)
 | .cell q t::rs,K,hK=>by
  simp only[yE]at hK;obtain⟨ti,ko,dY⟩:=cN hK;clear hK;have hT:=hG.ti t ti ko;have hq:=h.dB _ _ (.inl ⟨q,rfl,rfl⟩);split at dY
  ·rename_i j off hp;rw[hp]at hq;obtain⟨bl,hj,hK⟩:=cN dY;clear dY;cases bl with
   | row _ _ _=>cases hK
   | box tb cs=>
    simp only at hK;obtain⟨hle,dY⟩:=cV hK;clear hK;have hle:=aD hle;obtain⟨_,hu,RZ⟩:=hq;obtain⟨b,n,eN,hv⟩:=RZ tb cs hj;obtain⟨b',C,f,dG,hh,hl,nG,hr⟩:=h.j7 j _ hj;rw[eN]at dG;simp only[aY,bF]at dG;obtain⟨rfl,_,rfl⟩:=dG;obtain⟨r1,r2⟩:=qI (w:=w) hT ⟨b,off,none⟩ ((List.range ti.size).map λk=>C.getD (off+k) Go.undef) (by simp) (λk v hk=>by
     simp only[aL,aA]at hk;obtain⟨k',rU,rfl⟩:=hk;obtain⟨uU,rfl⟩:=aB.1 rU;have h2:k<ti.size:=by simpa using uU
     rw[iz,List.getElem_range];exact cell_of hh (by omega))
    rw[iR]at dY;have jl:∀k c,((cs.drop off).take ti.size)[k]?=some c->eS w F μ S.m U c (C.getD (off+k) Go.undef):=by
     intro k c hk;have eG:k<ti.size:=by have:=(aB.1 hk).1;simp at this;omega
     rw[bN eG,bg]at hk;exact hr _ c hk
    have hlen:((cs.drop off).take ti.size).length=ti.size:=by simp;omega
    have fin:∀x v,(loadVar t ⟨b,off,none⟩).run P w=.ok v w->eB w F μ S.m U x v->(yE G S rs λxs=>K (x::xs))=some r->
      ∃xs vs,K xs=some r/\((ResultVar.cell q t::rs).mapM (mT a.tmps)).run P w=.ok vs w/\vs.length=xs.length/\∀j c,xs[j]?=some c->eB w F μ S.m U c (vs.getD j Go.undef):=by
     intro x v Oe lh hK;obtain⟨xs,vs,hK,eV,hl,hr⟩:=nA hG h rs _ hK;refine⟨_,v::vs,hK,by simp[List.mapM_cons,mT,eV,hv,asAddr,Oe],by simp[hl],λj c hj=>?_⟩;cases j with
     | zero=>simp at hj;subst hj;simpa using lh
     | succ j=>exact hr j c (by simpa using hj)
    rcases uh dY with⟨ha,hK⟩|⟨ha,c,hc,hK⟩
    ·refine fin (.agg ((cs.drop off).take ti.size)) _ (r1 ha) ⟨_,rfl,by simp;omega,λk c hk=>?_⟩ hK;have eG:k<ti.size:=by have:=(aB.1 hk).1;omega
     have e:((List.range ti.size).map λk=>C.getD (off+k) Go.undef).toArray.getD k Go.undef=C.getD (off+k) Go.undef:=by simp[aI,eG]
     rw[e];exact jl k c hk
    ·have h1:=hT.Lr ha;refine fin c _ (r2 ha _ (by rw[h1];rfl)) (dI (dE (jl 0 c (by rw[hc];rfl)))) hK
  ·cases dY
theorem ri{E:List u5}(h:(E.filterMap (·.1)).Nodup):∀(k k' i:Nat) (q q' : u5),E[k]?=some q->E[k']?=some q'->q.1=some i->q'.1=some i->k=k':=by
 induction E with
 | nil=>intro k k' i q q' h1;simp at h1
 | cons e E ih=>
  have Ay:(E.filterMap (·.1)).Nodup:=by
   cases he:e.1 with
   | none=>simpa[List.filterMap_cons,he]using h
   | some j=>rw[List.filterMap_cons,he]at h;exact(List.nodup_cons.1 h).2
  have kE:∀(k i:Nat) (q:u5),E[k]?=some q->q.1=some i->i∈E.filterMap (·.1):=λk i q hk hq=>List.mem_filterMap.2 ⟨q,aO hk,hq⟩;have D3:∀(k i:Nat) (q:u5),E[k]?=some q->q.1=some i->e.1=some i->False:=by
   intro k i q hk hq he;rw[List.filterMap_cons,he]at h;exact(List.nodup_cons.1 h).1 (kE k i q hk hq)
  intro k k' i q q' h1 h2 h3 h4;cases k with
  | zero=>
   cases k' with
   | zero=>rfl
   | succ k'=>simp at h1;subst h1;exact(D3 k' i q' (by simpa using h2) h4 h3).elim
  | succ k=>
   cases k' with
   | zero=>simp at h2;subst h2;exact(D3 k i q (by simpa using h1) h3 h4).elim
   | succ k'=>rw[ih Ay k k' i q q' (by simpa using h1) (by simpa using h2) h3 h4]
theorem JT(hG:dK P G){fn:Func}{S:St}{K:AV->Option R}(h:At G W0 F0 S a w)(hK:lK G fn.resultTypes.toList fn.results.toList S K=some r) :
  ∃v x,(results fn a.tmps).run P w=.ok v w/\K x=some r/\∃F' β,Dg W0 w F0 F' β/\AB w F' β x v:=by
 obtain⟨μ,F,hI⟩:=h.inv;unfold lK at hK;obtain⟨xs,vs,dY,eV,hl,hr⟩:=nA hG hI _ _ hK;obtain⟨ids,ys,E,gV,⟨e1,e2,e3⟩,l1,n1,r1⟩:=tS hG hI _ _ [] (λj=>vs.getD j Go.undef) _ hr dY;have Ay:(E.filterMap (·.1)).Nodup:=by
  have:=e2 (by simp);rw[e1,bf]at this;exact(List.pairwise_reverse.1 this).imp (λh=>h.symm)
 obtain⟨β,L0⟩:∃β:Mu,β=λk=>(E[k]?).bind (·.2):=⟨_,rfl⟩;have BD:Fits β 0 E:=by intro t q hq;rw[L0];simp[hq]
 have jI:Dg W0 w F0 F β:=by
  have src:∀k b o n,β k=some (b,o,n)->∃q i o' n',E[k]?=some q/\q.1=some i/\S.m i≠none/\μ i=some (b,o',n'):=by
   intro k b o n hk;rw[L0]at hk;simp only[cv]at hk;obtain⟨q,hq,hk⟩:=hk;obtain⟨s1,s2⟩:=e3 q (aO hq);obtain⟨i,o',n',hi,hm⟩:=s2 b o n hk;exact⟨q,i,o',n',hq,hi,s1 i hi,hm⟩
  refine⟨hI.below,hI.sub,hI.dC,?_,?_⟩
  ·intro k b o n hk;obtain⟨q,i,o',n',hq,hi,hm,eN⟩:=src k b o n hk;cases qg:S.m i with
   | none=>exact absurd qg hm
   | some y=>exact hI.own i y b o' n' qg eN
  ·intro k k' b o n o2 n2 hk rU;obtain⟨q,i,o',n',hq,hi,hm,eN⟩:=src k b o n hk;obtain⟨q',i',DJ,NS,pk,k8,ou,dG⟩:=src k' b o2 n2 rU;cases qg:S.m i with
   | none=>exact absurd qg hm
   | some y=>
    cases D4 : S.m i' with
    | none=>exact absurd D4 ou
    | some y'=>
     have:=hI.inj i i' y y' b o' n' DJ NS qg D4 eN dG;subst this;exact ri Ay k k' i q q' hq pk hi k8
 have GY : (results fn a.tmps).run P w=.ok (if h:vs.toArray.size=1 then vs.toArray[0]else .tuple vs.toArray) w:=by
  have:(fn.results.mapM (mT a.tmps)).run P w=.ok vs.toArray w:=by
   rw[Array.mapM_eq_mapM_toList];simp[eV]
  have e:results fn a.tmps=(fn.results.mapM (mT a.tmps) >>= λvs=>pure (if h:vs.size=1 then vs[0]else .tuple vs)):=by
   unfold results;refine congrArg (λm=>m >>= _) ?_;congr 1
  rw[e,cg,this];rfl
 have res:=r1 β 0 BD;refine⟨_,(match ys with | [y]=>y | ys=>.dU ys),GY,?_,F,β,jI,?_⟩
 ·rcases ys with _|⟨y,_|⟨z,zs⟩⟩<;>exact gV
 ·split
  ·rename_i y;have D1:vs.length=1:=by rw[hl,<-l1];rfl
   obtain⟨v,rfl⟩:=ca.1 D1;have:=res.1;have hn:=n1 y (by simp);cases y<;>first|exact this|exact absurd rfl (hn _)
  ·rename_i fN;have D1:¬ vs.toArray.size=1:=by
    intro h1;have:ys.length=1:=by rw[l1,<-hl];simpa using h1
    obtain⟨y,hy⟩:=ca.1 this;exact fN y hy
   rw[dif_neg D1];exact⟨vs.toArray,rfl,by simp[hl,l1],by simpa using res⟩
theorem FP{R0:World}(hB:Below R0.heap.size R0 w){fn:Func}{args:List AV}{vals:Array Value}(jk:mE G R0)(oH:G.kb=0)(hF:∀b,F b->b<w.heap.size)(Qg:∀b,b<R0.heap.size->F b)(hl:vals.size=args.length)(hr:∀j c,args[j]?=some c->Rel w F c (vals.getD j Go.undef)) :
  At G (eC.of R0 w hB) F (start fn args) { tmps:=vals++Array.replicate (fn.ntmps - vals.size) Go.undef,defers:=[] } w:=by
 refine⟨rfl,by simp[start,hl],λ_=>none,F,?_⟩;refine{ below:=iT.refl _,dC:=λb hb=>⟨hF b hb,.inl hb⟩,sub:=λ_ h=>h,gl:=Qg,used:=by simp[start],j7:=by simp[start],own:=by simp[start],inj:=by simp[start],dB:=?_ };rintro x v (⟨t,rfl,rfl⟩|⟨g,cs,hg,rfl,rfl⟩|⟨i,hi,_⟩)
 ·by_cases ht:t<args.length
  ·have e1:(start fn args).tm.getD t .undef=args[t]:=by simp[start,ah,aN ht,ht]
   have e2:(vals++Array.replicate (fn.ntmps - vals.size) Go.undef).getD t Go.undef=vals.getD t Go.undef:=by
    rw[aI,Array.getElem?_append_left (by omega),aI]
   rw[e1,e2];exact dI (dE (eE (hr t _ (aP ht))))
  ·have e1:(start fn args).tm.getD t .undef=.undef:=by
    simp only[start,ah];rw[aQ (by omega),List.getElem?_replicate];split<;>rfl
   rw[e1];exact dI (dE (fk jo))
 ·exact dI (dE (eE ((jk g cs hg).mono Qg λb hb=>hB.block b hb)))
 ·rw[oH]at hi;exact absurd hi (Nat.not_lt_zero _)
def fD(P:Program)[dH P](f:FuncId)(fw:List AV)(x:AV):Prop:=
 ∀(R0 w:World) (F:Nat->Prop) (vals:Array Value),dH.Q P R0->Below R0.heap.size R0 w->(∀b,F b->b<w.heap.size)->(∀b,b<R0.heap.size->F b)->vals.size=fw.length->(∀j c,fw[j]?=some c->Rel w F c (vals.getD j undef))->
  (callFunc f vals).run P w=.ok (.enter f vals) w/\Calls P f vals w λe w'=>match e with
   | .returned v=>∃F' β,Came w w' F F' β/\AB w' F' β x v
   | _=>False
theorem fD.cZ[dH P]{f:FuncId}{fw:List AV}{x:AV}(h:fD P f fw x)(hl:jA fw=false):ux P f fw x:=
 λR0 hQ=>⟨λ_ w F vals hB h1 h2 h3 h4=>.inl (h R0 w F vals hQ hB h1 h2 h3 h4),λargs bs _ _ e _=>(by rw[e,l_]at hl;cases hl),λargs _ _ _ _ _ _ _ e _=>(by rw[e,l_]at hl;cases hl)⟩
theorem Mm[dH P](hG:dK P G)(jk:∀R0,dH.Q P R0->mE G R0)(oH:G.kb=0){C:FuncId->List AV->(AV->Option R)->Option R}(hC:∀g fw (K:AV->Option R) r,C g fw K=some r->∃x,K x=some r/\ux P g fw x)
  {cut : Nat → Option kK} {f : FuncId} {fn : Func} {args : List AV} {x : AV} {n : Nat} (hf : P.funcs[f]? = some fn) (gm : (fn.name == "runtime.NumGoroutine") = false) (gn : fn.body.isNone = false)
  (nh:∀(W0:eC) (F0:Nat->Prop),dH.Q P W0.root->∀AZ ops draw (S:St) (K:St->Option R) a w r,At G W0 F0 S a w->kX G C ops draw S K=some r->(Code.region AZ ops draw).wp P (λe a' w'=>e=.normal/\∃S',K S'=some r/\At G W0 F0 S' a' w') a w)
  {K:AV->Option R} {r:R} (hx:∀y,K y=some r->y=x) (hK:Ef G C cut fn n args K=some r):fD P f args x:=by
 intro R0 w F vals hQ hB hF Qg hl hr;have n1 : ¬ fn.name = "runtime.NumGoroutine" := by simpa using gm
 have n2:¬ fn.body=none:=by intro e;simp[e]at gn
 refine⟨by simp[callFunc,hf,n1,n2],?_⟩;unfold Ef at hK;split at hK
 ·rename_i c hc;intro cs;obtain⟨b,hb⟩:∃b:Frame,b={ (default:Frame)with fn:=f,kind:=.normal }:=⟨_,rfl⟩;have BF:Frame.enter P f vals .normal=b.at { tmps:=vals++Array.replicate (fn.ntmps - vals.size) Go.undef,defers:=[] } [.code c]:=by
   simp[Frame.enter,Frame.at,hf,hc,hb]
  have rq:=FP (G:=G) hB (fn:=fn) (jk R0 hQ) oH hF Qg hl hr;have ov:∀(S:St) (a:Act) (w' : World) (r:R),lK G fn.resultTypes.toList fn.results.toList S K=some r->At G (eC.of R0 w hB) F S a w'->∃v,(results fn a.tmps).run P w'=.ok v w'/\(∃y,K y=some r/\∃F' β,Came w w' F F' β/\AB w' F' β y v):=by
   intro S a w' r hK hA;obtain⟨v,x,h1,h2,h3⟩:=JT hG hA hK;obtain⟨F',β,h4,h5⟩:=h3;exact⟨v,h1,x,h2,F',β,h4.plain,h5⟩
  have:=C5 (P:=P) (G:=G) (C:=C) (b:=b) (cs:=cs) (fn:=fn) (T:=λr v w'=>∃y,K y=some r/\∃F' β,Came w w' F F' β/\AB w' F' β y v) (cut:=cut) (W0:=eC.of R0 w hB) (F0:=F) (by rw[hb]) (by rw[hb];exact hf) ov (nh _ F hQ)
   (λtodo S a ww r keep hK ht h=>AW (P:=P) (G:=G) (C:=C) (b:=b) (cs:=cs) (fn:=fn) (T:=λr v w'=>∃y,K y=some r/\∃F' β,Came w w' F F' β/\AB w' F' β y v) (cut:=cut) (by rw[hb]) (by rw[hb];exact hf) ov (nh _ F hQ) pA n todo _ a ww r hK (pA keep S a ww ht h))
   1000 _ _ _ _ _ hK rq
  obtain⟨v,w',fr,⟨y,hy,hT⟩,hs,E4,Ou⟩:=this;rw[hx y hy]at hT;rw[<-BF]at hs;exact⟨.returned v,w',fr,hT,hs,by rw[E4,hb],Ou⟩
 ·cases hK
end
section
variable {R R' : Type} {G:eH} {S:List AV} {m:Mem} {id:Nat}
theorem iy{c:Bool}{A:Option R'}{k:R'->Option R}:(bif c then A else none).bind k=bif c then A.bind k else none:=by cases c<;>rfl
theorem ez{c:Bool}{A B:Option R'}{k:R'->Option R}:(bif c then A else B).bind k=bif c then A.bind k else B.bind k:=by cases c<;>rfl
theorem dq{α:Type}{x:Option α}{F:α->Option R'}{k:R'->Option R}:(cR x F).bind k=cR x λy=>(F y).bind k:=by cases x<;>rfl
theorem sh{x:AV}{F:Value->Option R'}{k:R'->Option R}:(mP x F).bind k=mP x λy=>(F y).bind k:=by cases x<;>rfl
theorem iV{q:IntKind}{x:AV}{F:Int->Option R'}{k:R'->Option R}:(cQ q x F).bind k=cQ q x λy=>(F y).bind k:=by
 cases x with
 | v y=>cases y with
  | int k' n=>simp only[cQ];cases decide (k'=q)<;>rfl
  | _=>rfl
 | _=>rfl
theorem fF{x:AV}{F:IntKind->Int->Option R'}{k:R'->Option R}:(fy x F).bind k=fy x λq y=>(F q y).bind k:=by
 cases x with
 | v y=>cases y<;>rfl
 | _=>rfl
theorem ld{x:AV}{F:Bool->Option R'}{k:R'->Option R}:(fA x F).bind k=fA x λy=>(F y).bind k:=by
 cases x with
 | v y=>cases y<;>rfl
 | _=>rfl
theorem e_{x:AV}{F:ByteArray->Option R'}{k:R'->Option R}:(dm x F).bind k=dm x λy=>(F y).bind k:=by
 cases x with
 | v y=>cases y<;>rfl
 | _=>rfl
theorem ka{n:Nat}{i:Int}{F:Nat->Option R'}{k:R'->Option R}:(kU n i F).bind k=kU n i λy=>(F y).bind k:=iy
theorem uI{cs:List AV}{F:AV->List AV->Option R'}{k:R'->Option R}:(cM cs F).bind k=cM cs λc r=>(F c r).bind k:=by cases cs<;>rfl
theorem yc{fl:Fl}{sz:Nat}{x:AV}{F:List AV->Option R'}{k:R'->Option R}:(gq fl sz x F).bind k=gq fl sz x λy=>(F y).bind k:=by
 unfold gq;split
 ·rfl
 ·exact iy
 ·rfl
theorem EA{q:SK}{x:AV}{F:AV->Option R'}{k:R'->Option R}:(qu q x F).bind k=qu q x λy=>(F y).bind k:=by
 cases q<;>simp only[qu,iV,ld,e_,yc]
theorem qv{k:R'->Option R}:∀(qs:List SK) (cs:List AV) (F:List AV->Option R'),(u3 qs cs F).bind k=u3 qs cs λy=>(F y).bind k
 | [],_,_=>rfl
 | q::qs,cs,F=>by
  simp only[u3,uI,EA];congr 1;funext c r;congr 1;funext c';exact qv qs r _
theorem uj{t:TI}{cs:List AV}{F:AV->Option R'}{k:R'->Option R}:(E7 t cs F).bind k=E7 t cs λy=>(F y).bind k:=by
 unfold E7;rw[ez];congr 1;split<;>rfl
theorem sH{x:AV}{F:Nat->Option R'}{k:R'->Option R}:(mw m x F).bind k=mw m x λy=>(F y).bind k:=by
 unfold mw;split<;>first|rfl|(split<;>rfl)
theorem l5{i:Int}{F:Nat->Option R'}{k:R'->Option R}:∀{n:Nat},(mz i n F).bind k=mz i n λy=>(F y).bind k
 | 0=>rfl
 | n+1=>by
  simp only[mz];rw[ez,l5]
theorem sS{n:Nat}{i:Int}{F:Nat->Option R'}{k:R'->Option R}:(vy n i F).bind k=vy n i λy=>(F y).bind k:=by
 unfold vy;rw[ez,l5,ka]
theorem wy{x:AV}{F:Fl->Nat->List AV->Option R'}{k:R'->Option R}:(ig m x F).bind k=ig m x λa b c=>(F a b c).bind k:=by
 unfold ig;split<;>first|rfl|(split<;>rfl)
theorem m_{x:Option AV}{h:Int}{F:Int->Option R'}{k:R'->Option R}:(Bm x h F).bind k=Bm x h λy=>(F y).bind k:=by
 cases x with
 | none=>rfl
 | some x=>simp only[Bm,fF,iy]
theorem ng{x:Option AV}{h:Int}{F:Int->Option R'}{N:Option R'}{k:R'->Option R}:(JE x h F N).bind k=JE x h (λy=>(F y).bind k) (N.bind k):=by
 cases x with
 | none=>rfl
 | some x=>simp only[JE,fF,iy]
theorem tT{op:BinOp}{b:Bool}{F:Bool->Option R'}{k:R'->Option R}:(nX op b F).bind k=nX op b λy=>(F y).bind k:=by cases op<;>rfl
theorem HB{k:R'->Option R}:∀(qs:List SK) (xs ys:List AV) (F:Bool->Option R'),(Nd qs xs ys F).bind k=Nd qs xs ys λy=>(F y).bind k:=by
 intro qs xs ys F;rw[xz,xz,Option.bind_assoc]
theorem ym{op:UnOp}{x:AV}{F:AV->Option R'}{k:R'->Option R}:(Nw op x F).bind k=Nw op x λy=>(F y).bind k:=by
 unfold Nw;split<;>rfl
theorem EH{op:BinOp}{x y:Value}{F:Value->Option R'}{k:R'->Option R}:(BW op x y F).bind k=BW op x y λz=>(F z).bind k:=by
 unfold BW;split
 ·split
  ·exact iy
  ·exact iy
  ·rw[iy];congr 1;split<;>first|rfl|exact ez
 ·split<;>first|rfl|exact iy
 ·rfl
theorem wv{op:BinOp}{t:TypeId}{c:Bool}{x y:AV}{F:AV->Option R'}{k:R'->Option R}:(HU G op t c x y F).bind k=HU G op t c x y λz=>(F z).bind k:=by
 unfold HU;split<;>first|rfl|(rw[iy,tT])|exact EH|skip
 split
 ·rw[iy,HB];congr 1;congr 1;funext c;exact tT
 ·rfl
theorem CB(o:Op)(K:AV->Mem->Option R):eU G o S m id K=(eU G o S m id λx m=>some (x,m)).bind λq=>K q.1 q.2:=by
 cases o<;>simp only[eU]
 all_goals repeat' first
  | with_reducible rfl
  | (simp only[dq,sh,iV,fF,ld,e_,ka,l5,sS,qv,uj,sH,wy,m_,ng,ym,wv,ez,ab,au])
  | (refine congrArg (cR _) (funext λ_=>?_))
  | (refine congrArg (fA _) (funext λ_=>?_))
  | (refine congrArg (dm _) (funext λ_=>?_))
  | (refine congrArg (mP _) (funext λ_=>?_))
  | (refine congrArg (cQ _ _) (funext λ_=>?_))
  | (refine congrArg (fy _) (funext λ_=>funext λ_=>?_))
  | (refine congrArg (ig _ _) (funext λ_=>funext λ_=>funext λ_=>?_))
  | (refine congrArg (λz=>bif _ then z else none) ?_)
  | split
end
section
variable {R R' : Type} {G:eH} {S S' : List AV} {m m' : Mem} {id:Nat}
theorem qM{parts:Array (Nat × Operand)}(h:∀x∈parts.map (·.2),ev G S x=ev G S' x):(parts.toList.map fun(i,x)=>(i,ev G S x))=parts.toList.map fun(i,x)=>(i,ev G S' x):=by
 refine bW λp hp=>?_;obtain⟨i,x⟩:=p;have e:=h x (Array.mem_map.2 ⟨(i,x),by simpa using hp,rfl⟩);simp only[e]
theorem w0{parts:Array (Nat × Operand)}(h:∀x∈parts.map (·.2),ev G S x=ev G S' x):(parts.toList.map fun(_,x)=>ev G S x)=parts.toList.map fun(_,x)=>ev G S' x:=by
 refine bW λp hp=>?_;obtain⟨i,x⟩:=p;exact h x (Array.mem_map.2 ⟨(i,x),by simpa using hp,rfl⟩)
theorem mn{xs:Array Operand}(h:∀x∈xs,ev G S x=ev G S' x):xs.toList.map (ev G S)=xs.toList.map (ev G S'):=
 bW λx hx=>h x (by simpa using hx)
theorem nC(o:Op)(K:AV->Mem->Option R)(h:∀x∈o.operands,ev G S x=ev G S' x):eU G o S m id K=eU G o S' m id K:=by
 cases o<;>simp only[Op.operands]at h
 case build t ps=>simp only[eU,qM (S:=S) (S':=S') λx hx=>h x (by simpa using hx)]
 case buildSlice t n ps=>simp only[eU,qM (S:=S) (S':=S') λx hx=>h x (by simpa using hx),w0 (S:=S) (S':=S') λx hx=>h x (by simpa using hx)]
 case makeFunc fn first captured=>
  have e:captured.toList.map (ev G S)=captured.toList.map (ev G S'):=mn λx hx=>h x (by simp[hx]);have e2:first.toList.map (ev G S)=first.toList.map (ev G S'):=mn λx hx=>h x (by simp[hx])
  simp only[eU,e,e2]
 case slice t x lo hi mx=>cases lo<;>cases hi<;>cases mx<;>simp_all [eU]
 case call c=>
  have ha:∀x∈c.args.toList,ev G S x=ev G S' x:=λx hx=>h x (by simp[Call.operands];exact .inr (by simpa using hx));simp only[eU];split
  ·split
   ·rename_i h1 h2;rw[ha _ (by rw[h2];simp)]
   ·rfl
  ·split
   ·rename_i h1 h2;rw[ha _ (by rw[h2];simp),ha _ (by rw[h2];simp)]
   ·rfl
  ·split
   ·rename_i h1 h2;rw[ha _ (by rw[h2];simp)]
   ·rfl
  ·split
   ·rename_i h1 h2;rw[ha _ (by rw[h2];simp),ha _ (by rw[h2];simp)]
   ·rfl
  ·split
   ·rename_i h2;rw[ha _ (by rw[h2];simp),ha _ (by rw[h2];simp)]
   ·rfl
  ·split
   ·rename_i h2;rw[ha _ (by rw[h2];simp),ha _ (by rw[h2];simp)]
   ·rfl
  ·rfl
 all_goals first|rfl|(simp_all [eU];done)
end
section
variable {R R' : Type} {G:eH} {S S' : List AV} {m m' m2:Mem} {id:Nat}
theorem yS(o:Op)(K:AV->Mem->Option R)(h:gH o=true):eU G o S m id K=(eU G o S m2 id λx _=>some x).bind λx=>K x m:=by
 cases o<;>simp only[gH]at h
 case call c=>
  split at h
  ·rename_i hc;simp only[eU,hc];split<;>simp only[fF,iV,ab,au]
  ·rename_i hc;simp only[eU,hc];split<;>simp only[fF,iV,ab,au]
  ·cases h
 all_goals first|(cases h;done)|skip
 all_goals simp only[eU]
 all_goals repeat' first
  | with_reducible rfl
  | (simp only[dq,sh,fF,ld,e_,ka,uj,ym,wv,ez,ab,au])
  | (refine congrArg (cR _) (funext λ_=>?_))
  | (refine congrArg (fA _) (funext λ_=>?_))
  | (refine congrArg (dm _) (funext λ_=>?_))
  | (refine congrArg (mP _) (funext λ_=>?_))
  | (refine congrArg (cQ _ _) (funext λ_=>?_))
  | (refine congrArg (fy _) (funext λ_=>funext λ_=>?_))
  | (refine congrArg (λz=>bif _ then z else none) ?_)
  | split
theorem yy{x:AV}{F:Nat->Option R}(h:∀j∈dM x,m2 j=m j):mw m x F=mw m2 x F:=by
 cases x
 case own id off l=>simp only[mw,h id (by simp[dM])]
 case bs id=>simp only[mw,h id (by simp[dM])]
 case v x=>
  by_cases hx:x=.slice none 0 0
  ·subst hx;rfl
  ·have:∀m,mw m (.v x) F=none:=by
    intro m;unfold mw;split<;>simp_all
   rw[this,this]
 all_goals rfl
theorem o3(o:Op)(K:AV->Mem->Option R)(h:fK o=true)(hm:∀x∈o.operands,∀j∈dM (ev G S x),m2 j=m j) :
  eU G o S m id K=(eU G o S m2 id λx _=>some x).bind λx=>K x m:=by
 cases o<;>simp only[fK]at h
 case call c=>
  split at h
  ·rename_i hc;simp only[eU,hc];split
   ·rename_i t x h1 h2;have hx:=hm x (by
     have:x∈c.args.toList:=by rw[h2];simp
     simp only[Op.operands,Call.operands];exact Array.mem_append.2 (.inr (by simpa using this)))
    simp only[dq];refine congrArg (cR _) (funext λti=>?_);split
    ·simp only[e_,ab]
    ·rw[yy hx];simp only[sH,ab]
    ·rfl
   ·rfl
  ·cases h
 all_goals first|(cases h;done)|skip
 all_goals simp only[Op.operands]at hm
 case load t a=>
  have ha:=hm a (by simp);simp only[eU];generalize ev G S a=X at ha;cases X<;>(try simp only[dM,bh,forall_eq]at ha)<;>simp only[dq]<;>refine congrArg (cR _) (funext λti=>?_)<;>(try simp only[ha])<;>repeat' first
   | with_reducible rfl
   | (simp only[qv,uj,ez,ab,au])
   | (refine congrArg (cR _) (funext λ_=>?_))
   | split
 case nilCheck a=>
  have ha:=hm a (by simp);simp only[eU];generalize ev G S a=X at ha;cases X<;>(try simp only[dM,bh,forall_eq]at ha)<;>(try simp only[ha])<;>repeat' first
   | with_reducible rfl
   | (simp only[dq,ab,au])
   | (refine congrArg (cR _) (funext λ_=>?_))
   | split
 case fieldAddr t a f=>
  have ha:=hm a (by simp);simp only[eU];generalize ev G S a=X at ha;cases X<;>(try simp only[dM,bh,forall_eq]at ha)<;>simp only[dq]<;>refine congrArg (cR _) (funext λti=>?_)<;>(try simp only[ha])<;>repeat' first
   | with_reducible rfl
   | (simp only[dq,ez,ab,au])
   | (refine congrArg (cR _) (funext λ_=>?_))
   | (refine congrArg (λz=>bif _ then z else none) ?_)
   | split
 case indexAddr t a i=>
  have ha:=hm a (by simp);simp only[eU];generalize ev G S a=X at ha;cases X<;>(try simp only[dM,bh,forall_eq]at ha)<;>simp only[dq]<;>refine congrArg (cR _) (funext λti=>?_)<;>(try simp only[ha])<;>repeat' first
   | with_reducible rfl
   | (simp only[dq,fF,ka,l5,sS,ez,ab,au])
   | (refine congrArg (cR _) (funext λ_=>?_))
   | (refine congrArg (fy _) (funext λ_=>funext λ_=>?_))
   | (refine congrArg (λz=>bif _ then z else none) ?_)
   | split
 case slice t a lo hi mx=>
  have ha:=hm a (by simp);have key:∀X,(∀j∈dM X,m2 j=m j)->(∀x:Value,X=.v x->x=.slice none 0 0\/∀a n c,x≠.slice a n c)->ev G S a=X->eU G (.slice t a lo hi mx) S m id K=(eU G (.slice t a lo hi mx) S m2 id λx _=>some x).bind λx=>K x m:=by
   intro X ha hv hX;simp only[eU,hX];rcases X with x|_|⟨j,off,n⟩|_|_|_|cs|_|_|_|_|_|_
   case v=>
    rcases hv x rfl with rfl|fN
    ·simp only[ez,dq,au];refine congrArg (λz=>bif _ then z else none) ?_;refine congrArg (cR _) (funext λti=>?_)
     repeat' first
      | with_reducible rfl
      | (simp only[dq,e_,m_,ng,ab,au])
      | (refine congrArg (cR _) (funext λ_=>?_))
      | split
    ·simp only[ez,dq,au];refine congrArg (λz=>bif _ then z else none) ?_;refine congrArg (cR _) (funext λti=>?_);cases x
     case slice a n c=>exact absurd rfl (fN a n c)
     all_goals repeat' first
      | with_reducible rfl
      | (simp only[dq,e_,m_,ng,ab,au])
      | (refine congrArg (cR _) (funext λ_=>?_))
      | split
   case own=>
    have ha:=ha j (by simp[dM]);simp only[ez,dq,au];refine congrArg (λz=>bif _ then z else none) ?_;refine congrArg (cR _) (funext λti=>?_)
    repeat' first
     | with_reducible rfl
     | (rw[ha])
     | (simp only[dq,e_,m_,ng,ez,ab,au])
     | (refine congrArg (cR _) (funext λ_=>?_))
     | (refine congrArg (λz=>bif _ then z else none) ?_)
     | split
   all_goals simp only[ez,dq,au]
   all_goals refine congrArg (λz=>bif _ then z else none) ?_
   all_goals refine congrArg (cR _) (funext λti=>?_)
   all_goals repeat' first
    | with_reducible rfl
    | (simp only[dq,e_,m_,ng,ez,ab,au])
    | (refine congrArg (cR _) (funext λ_=>?_))
    | (refine congrArg (λz=>bif _ then z else none) ?_)
    | split
  by_cases OH:∃p n c,ev G S a=.v (.slice p n c)/\¬ (p=none/\n=0/\c=0)
  ·obtain⟨p,n,c,hX,fN⟩:=OH;have KH:∀(m:Mem) {R:Type} (K:AV->Mem->Option R),eU G (.slice t a lo hi mx) S m id K=none:=by
    intro m R K;simp only[eU,hX];cases mx.isNone
    ·rfl
    ·cases G.fP t with
     | none=>rfl
     | some ti=>
      simp only[ak,cR];split
      ·rfl
      ·rename_i e _;cases G.fP e with
       | none=>rfl
       | some ei=>
        cases p<;>cases n<;>cases c<;>first|rfl|exact absurd ⟨rfl,rfl,rfl⟩ fN
      ·rename_i n' e _;cases G.fP e with
       | none=>rfl
       | some ei=>rfl
      ·rfl
   rw[KH,KH];rfl
  ·refine key _ ha (λx hx=>?_) rfl;by_cases hs:∃p n c,x=.slice p n c
   ·obtain⟨p,n,c,rfl⟩:=hs;by_cases h0:p=none/\n=0/\c=0
    ·obtain⟨rfl,rfl,rfl⟩:=h0;exact .inl rfl
    ·exact absurd ⟨p,n,c,hx,h0⟩ OH
   ·exact .inr (λp n c e=>hs ⟨p,n,c,e⟩)
end
section
variable {R R' : Type} {G:eH} {S S' : List AV} {m m' m2:Mem} {id:Nat}
theorem Mem.oS(m:Mem)(id:Nat):m.fJ id (m id)=m:=by
 funext j;by_cases e:j=id
 ·subst e;rw[Mem.dx]
 ·rw[Mem.dk _ _ e]
theorem uo{x:AV}{F:Fl->Nat->List AV->Option R}(h:∀j∈dM x,m2 j=m j):ig m x F=ig m2 x F:=by
 cases x
 case own id off l=>simp only[ig,h id (by simp[dM])]
 case v x=>
  by_cases hx:x=.slice none 0 0
  ·subst hx;rfl
  ·have:∀m,ig m (.v x) F=none:=by
    intro m;unfold ig;split<;>simp_all
   rw[this,this]
 all_goals rfl
def Local(G:eH)(o:Op)(S:List AV)(m m2:Mem)(id:Nat):Prop:=
 ∀{R:Type} (K:AV->Mem->Option R),eU G o S m id K=(eU G o S m2 id λx m'=>some (x,m' id)).bind λq=>K q.1 (m.fJ id q.2)
theorem Bk{o:Op}(h:fK o=true)(hm:∀x∈o.operands,∀j∈dM (ev G S x),m2 j=m j)(hid:m2 id=m id):Local G o S m m2 id:=by
 intro R K;rw[o3 (m2:=m2) o K h hm,o3 (m:=m2) (m2:=m2) o (λx m'=>some (x,m' id)) h (λ_ _ _ _=>rfl),Option.bind_assoc];congr 1;funext x;simp only[ab,hid,Mem.oS]
theorem Bl{o:Op}(h:l9 o=true)(hm:∀x∈o.operands,∀j∈dM (ev G S x),m2 j=m j)(hid:m2 id=m id):Local G o S m m2 id:=by
 intro R K;cases o<;>simp only[l9]at h
 all_goals first|(cases h;done)|skip
 case convert s d x=>
  have hx:=hm x (by simp[Op.operands]);simp only[eU,dq];refine congrArg (cR _) (funext λsi=>?_);refine congrArg (cR _) (funext λdi=>?_);split
  ·simp only[fF,ab,hid,Mem.oS]
  ·simp only[e_,ab,hid,Mem.oS]
  ·simp only[dq];refine congrArg (cR _) (funext λei=>?_);split
   ·simp only[e_,ab,Mem.dx]
   ·rfl
  ·simp only[ez,dq,au];refine congrArg (λz=>bif _ then z else none) ?_;refine congrArg (cR _) (funext λei=>?_);split
   ·generalize hX:ev G S x=X at hx;split
    ·rename_i j;simp only[dq,hx j (by simp[dM])];refine congrArg (cR _) (funext λbl=>?_);split
     ·simp only[ab,hid,Mem.oS]
     ·rfl
    ·rfl
   ·rfl
  ·simp only[dq];refine congrArg (cR _) (funext λei=>?_);split
   ·rw[uo hx];simp only[wy,dq,ab,hid,Mem.oS]
   ·rfl
  ·rfl
 all_goals simp only[eU]
 all_goals repeat' first
  | with_reducible rfl
  | (simp only[dq,iV,ez,ab,au,Mem.dx])
  | (refine congrArg (cR _) (funext λ_=>?_))
  | split
theorem so{c:AV}(h:jT c=[]):lx m c=lx m2 c:=by
 cases c<;>first|rfl|(simp[jT]at h;done)
theorem su:∀(cs:List AV),cs.flatMap jT=[]->nN m cs=nN m2 cs
 | [],_=>rfl
 | c::cs,h=>by
  rw[bC,List.append_eq_nil_iff]at h;simp only[nN,so (m:=m) (m2:=m2) h.1,su cs h.2]
theorem qS{ti:TI}{x:AV}(h:h_ x=[]):lG m ti x=lG m2 ti x:=by
 have:ly m x=ly m2 x:=by
  cases x
  case agg cs=>simp only[ly,su (m:=m) (m2:=m2) cs h]
  all_goals (have h':=h;simp only[h_]at h';exact so (m:=m) (m2:=m2) h')
 simp only[lG,this]
theorem qQ{ti:TI}:∀(xs:List AV),xs.flatMap h_=[]->kB m ti xs=kB m2 ti xs
 | [],_=>rfl
 | x::xs,h=>by
  rw[bC,List.append_eq_nil_iff]at h;simp only[kB,qS (m:=m) (m2:=m2) h.1,qQ xs h.2]
theorem yX{t:TypeId}{len:Nat}{parts:Array (Nat × Operand)}(h:((parts.toList.map fun(_,x)=>ev G S x).flatMap h_)=[]):Local G (.buildSlice t len parts) S m m2 id:=by
 intro R K;simp only[eU,h,lJ,List.foldl_nil];simp only[dq];refine congrArg (cR _) (funext λti=>?_);split
 ·simp only[dq];refine congrArg (cR _) (funext λei=>?_);cases rR ei.kd
  case true=>simp only[ak,ez,ab,au,Mem.dx]
  simp only[cond_false];rw[ez,qQ (m:=m) (m2:=m2) _ h];simp only[dq,ab,au,Mem.dx]
 ·rfl
end
def over(m:Mem)(id:Nat)(f:Mem):Mem:=λj=>bif Nat.ble id j&&Nat.blt j (id+8)then f j else m j
section
variable {R:Type} {G:eH} {S S' : List AV} {m m' m2:Mem} {id:Nat} {C:FuncId->List AV->(AV->Option R)->Option R} {dr:Bool} {o:Oper} {r:R}
def ga(C:FuncId->List AV->(AV->Option R)->Option R):Prop:=
 ∀g fw (K:AV->Option R) r,C g fw K=some r->∃x,K x=some r/\∀(K' : AV->Option R) r',K' x=some r'->C g fw K'=some r'
def vc(G:eH)(C:FuncId->List AV->(AV->Option R)->Option R)(dr:Bool)(o:Oper)(S:List AV)(m:Mem)(id:Nat)(x:AV)(m' : Mem):Prop:=
 ∀(K:AV->Mem->Option R) r,K x m'=some r->er G C dr o S m id K=some r
theorem rK{op:Op}{K:AV->Mem->Option R}(h:eU G op S m id K=some r):∃x m',K x m'=some r/\∀(K' : AV->Mem->Option R) r',K' x m'=some r'->eU G op S m id K'=some r':=by
 rw[CB]at h;rw[cv]at h;obtain⟨⟨x,m'⟩,h1,h2⟩:=h;refine⟨x,m',h2,λK' r' fe=>?_⟩;rw[CB,h1];exact fe
theorem EF(hC:ga C){f:FuncId}{args:List AV}{K:AV->Mem->Option R}(h:nZ C f args m K=some r) :
  ∃x m',K x m'=some r/\∀(K' : AV->Mem->Option R) r',K' x m'=some r'->nZ C f args m K'=some r':=by
 unfold nZ at h;split at h
 ·rename_i j off l rest;obtain⟨b,hm,h⟩:=cN h;split at h
  ·rename_i fl sz xs;obtain⟨hv,h⟩:=cV h;obtain⟨y,h3,h4⟩:=hC _ _ _ _ h;split at h3
   ·rename_i z gk im ys;obtain⟨hq,h3⟩:=cV h3;obtain⟨z',hz,h3⟩:=cN h3;refine⟨_,_,h3,λK' r' fe=>?_⟩;unfold nZ;simp only[hm,cR,hv,ak];refine h4 _ _ ?_;simp only[hq,ak,hz];exact fe
   ·cases h3
  ·cases h
 ·cases h
theorem wu(hC:ga C){f:FuncId}{args:List AV}{K:AV->Mem->Option R}(h:fW G C dr f args m id K=some r) :
  ∃x m',K x m'=some r/\∀(K' : AV->Mem->Option R) r',K' x m'=some r'->fW G C dr f args m id K'=some r':=by
 unfold fW at h;cases hp:args.any ja with
 | true=>
  rw[hp]at h;cases dr with
  | true=>cases h
  | false=>
   simp only[ak,cond_false]at h;unfold q8 at h;obtain⟨QG,KS,h⟩:=cN h;obtain⟨xs,CT,h⟩:=cN h;cases ha:((iU m xs).any λi=>(args.flatMap (xo m)).contains i)with
   | true=>rw[ha]at h;cases h
   | false=>
    rw[ha]at h;simp only[cond_false]at h;obtain⟨y,h3,h4⟩:=hC _ _ _ _ h;split at h3
    ·rename_i z os;obtain⟨Iw,h3⟩:=cV h3;refine⟨_,_,h3,λK' r' fe=>?_⟩;unfold fW q8;rw[hp];simp only[ak,cond_false,KS,CT,cR,ha];refine h4 _ _ ?_;simp only[Iw,ak];exact fe
    ·cases h3
 | false=>
  rw[hp]at h;simp only[cond_false]at h;cases Aw:G.refs f with
  | true=>
   rw[Aw]at h;cases dr with
   | true=>cases h
   | false=>
    simp only[ak,cond_false]at h;obtain⟨x,m',h1,h2⟩:=EF hC h;refine⟨x,m',h1,λK' r' fe=>?_⟩;unfold fW;rw[hp,Aw];simp only[ak,cond_false];exact h2 K' r' fe
  | false=>
  rw[Aw]at h;simp only[cond_false]at h;obtain⟨fw,h1,h⟩:=cN h;obtain⟨PD,h2,h⟩:=cN h;obtain⟨y,h3,h4⟩:=hC _ _ _ _ h;have fin:∀(K' : AV->Mem->Option R) r',(bif lk y then(match imp id m y with|(x,c,m')=>bif Nat.ble c 8 then K' x m' else none)
    else bif dr&&!(args.flatMap (gS m)).isEmpty then none
    else(match imp id (lJ m (args.flatMap (gS m))) y with | (x,c,m')=>bif Nat.ble c 8 then K' x m' else none))=some r'->fW G C dr f args m id K'=some r':=by
   intro K' r' h;unfold fW;rw[hp,Aw];simp only[cond_false,h1,h2,cR];exact h4 _ _ h
  cases fZ:lk y with
  | true=>
   rw[fZ]at h3;simp only[ak]at h3;obtain⟨zA,h3⟩:=cV h3;refine⟨_,_,h3,λK' r' fe=>fin K' r' ?_⟩;rw[fZ];simp only[ak,zA];exact fe
  | false=>
   rw[fZ]at h3;simp only[cond_false]at h3;cases hq:(dr&&!(args.flatMap (gS m)).isEmpty)with
   | true=>rw[hq]at h3;cases h3
   | false=>
    rw[hq]at h3;simp only[cond_false]at h3;obtain⟨zA,h3⟩:=cV h3;refine⟨_,_,h3,λK' r' fe=>fin K' r' ?_⟩;rw[fZ,hq];simp only[cond_false,zA,ak];exact fe
theorem js(hC:ga C){K:AV->Mem->Option R}(h:er G C dr o S m id K=some r):∃x m',K x m'=some r/\vc G C dr o S m id x m':=by
 unfold er at h;unfold vc er;split at h
 ·split at h
  ·split at h
   ·rename_i g fj hf;cases hb:(dr&&!(fj.all AV.okB))with
    | true=>rw[hb]at h;cases h
    | false=>
     rw[hb]at h;cases hg:Nat.blt g uF with
     | true=>
      rw[hg]at h;obtain⟨x,m',h1,h2⟩:=wu hC h;exact⟨x,m',h1,λK' r' fe=>h2 K' r' fe⟩
     | false=>
      rw[hg]at h;obtain⟨x,m',h1,h2⟩:=wu hC h;exact⟨x,m',h1,λK' r' fe=>h2 K' r' fe⟩
   ·cases h
  ·rename_i hn;obtain⟨x,m',h1,h2⟩:=rK h;exact⟨x,m',h1,λK' r' fe=>h2 K' r' fe⟩
 ·rename_i t p x eF;cases hb:(dr&&!((qU (ev G S p)&&(h_ (ev G S x)).isEmpty)||Bu (ev G S p)))with
  | true=>rw[hb]at h;cases h
  | false=>
   rw[hb]at h;rw[cond_false]at h;obtain⟨x,m',h1,h2⟩:=rK h;exact⟨x,m',h1,λK' r' fe=>by rw[cond_false];exact h2 K' r' fe⟩
 ·rename_i t n parts eF;cases hb:(dr&&!(y_ G t||((parts.toList.map fun(_,x)=>ev G S x).flatMap h_).isEmpty))with
  | true=>rw[hb]at h;cases h
  | false=>
   rw[hb]at h;rw[cond_false]at h;obtain⟨x,m',h1,h2⟩:=rK h;exact⟨x,m',h1,λK' r' fe=>by rw[cond_false];exact h2 K' r' fe⟩
 ·obtain⟨x,m',h1,h2⟩:=rK h;exact⟨x,m',h1,λK' r' fe=>h2 K' r' fe⟩
theorem eI{K:AV->Mem->Option R}(h:∀x∈o.op.operands,ev G S x=ev G S' x):er G C dr o S m id K=er G C dr o S' m id K:=by
 unfold er;cases eF:o.op
 case call c=>
  rw[eF]at h;simp only;split
  ·rename_i f hc;have hf:ev G S f=ev G S' f:=h f (by simp[Op.operands,Call.operands,hc]);have ha:c.args.toList.map (ev G S)=c.args.toList.map (ev G S'):=mn λx hx=>h x (by simp only[Op.operands,Call.operands];exact Array.mem_append.2 (.inr hx));rw[hf,ha]
  ·exact nC _ K h
 case store t p x=>
  rw[eF]at h;have e1:ev G S p=ev G S' p:=h p (by simp[Op.operands]);have e2:ev G S x=ev G S' x:=h x (by simp[Op.operands]);simp only[e1,e2,nC (.store t p x) K h]
 case buildSlice t n parts=>
  rw[eF]at h;have e:(parts.toList.map fun(_,x)=>ev G S x)=parts.toList.map fun(_,x)=>ev G S' x:=bW λp hp=>h p.2 (by
   show p.2∈(parts.toList.map (·.2)).toArray;exact List.mem_toArray.2 (bz.2 ⟨p,hp,rfl⟩))
  simp only[e,nC (.buildSlice t n parts) K h]
 all_goals exact nC _ K (by rw[eF]at h;exact h)
end
section
variable {id:Nat}
def H9(lo hi:Nat)(m m' m2 Ue : Mem):Prop:=∀j,(lo<=j/\j<hi->Ue j=m' j)/\(¬ (lo<=j/\j<hi)->m' j=m j/\Ue j=m2 j)
theorem H9.trans{a b c:Nat}{m m1 m2 n n1 n2:Mem}(Ye:a<=b)(Zp:b<=c)(h1:H9 a b m m1 n n1)(h2:H9 b c m1 m2 n1 n2):H9 a c m m2 n n2:=by
 intro j;refine⟨λhj=>?_,λhj=>?_⟩
 ·by_cases hb:b<=j
  ·exact(h2 j).1 ⟨hb,hj.2⟩
  ·obtain⟨e1,e2⟩:=(h2 j).2 (by omega);rw[e1,e2];exact(h1 j).1 ⟨hj.1,by omega⟩
 ·obtain⟨e1,e2⟩:=(h2 j).2 (by omega);obtain⟨e3,e4⟩:=(h1 j).2 (by omega);exact⟨e1.trans e3,e2.trans e4⟩
theorem zh(x:AV)(c:Nat)(m n:Mem):∃c' y m' n',rn id c m x=(y,c',m')/\rn id c n x=(y,c',n')/\c<=c'/\H9 (id+c) (id+c') m m' n n':=by
 cases x with
 | fr fl sz xs=>
  refine⟨c+1,_,_,_,rfl,rfl,by omega,λj=>⟨λhj=>?_,λhj=>?_⟩⟩
  ·have:j=id+c:=by omega
   subst this;rw[Mem.dx,Mem.dx]
  ·have:j≠id+c:=by omega
   exact⟨Mem.dk _ _ this,Mem.dk _ _ this⟩
 | _=>exact⟨c,_,_,_,rfl,rfl,aJ _,λj=>⟨λhj=>by omega,λ_=>⟨rfl,rfl⟩⟩⟩
theorem zi:∀(xs:List AV) (c:Nat) (m n:Mem),∃c' ys m' n',oq id c m xs=(ys,c',m')/\oq id c n xs=(ys,c',n')/\c<=c'/\H9 (id+c) (id+c') m m' n n'
 | [],c,m,n=>⟨c,[],m,n,rfl,rfl,aJ _,λj=>⟨λhj=>by omega,λ_=>⟨rfl,rfl⟩⟩⟩
 | x::xs,c,m,n=>by
  obtain⟨c1,y,m1,n1,e1,e2,h1,u1⟩:=zh (id:=id) x c m n;obtain⟨c2,ys,m2,n2,e3,e4,h2,u2⟩:=zi xs c1 m1 n1;exact⟨c2,y::ys,m2,n2,by simp only[oq,e1,e3],by simp only[oq,e2,e4],by omega,u1.trans (by omega) (by omega) u2⟩
theorem zj(x:AV)(c:Nat)(m n:Mem):∃c' y m' n',ot id c m x=(y,c',m')/\ot id c n x=(y,c',n')/\c<=c'/\H9 (id+c) (id+c') m m' n n':=by
 have other:∀x,(∀m,ot id c m x=rn id c m x)->∃c' y m' n',ot id c m x=(y,c',m')/\ot id c n x=(y,c',n')/\c<=c'/\H9 (id+c) (id+c') m m' n n':=by
  intro x h;rw[h,h];exact zh x c m n
 cases x with
 | agg cs=>
  obtain⟨c1,ys,m1,n1,e1,e2,h1,u1⟩:=zi (id:=id) cs c m n;exact⟨c1,.agg ys,m1,n1,by simp only[ot,e1],by simp only[ot,e2],h1,u1⟩
 | _=>exact other _ (λ_=>rfl)
theorem vP:∀(xs:List AV) (c:Nat) (m n:Mem),∃c' ys m' n',lH id c m xs=(ys,c',m')/\lH id c n xs=(ys,c',n')/\c<=c'/\H9 (id+c) (id+c') m m' n n'
 | [],c,m,n=>⟨c,[],m,n,rfl,rfl,aJ _,λj=>⟨λhj=>by omega,λ_=>⟨rfl,rfl⟩⟩⟩
 | x::xs,c,m,n=>by
  obtain⟨c1,y,m1,n1,e1,e2,h1,u1⟩:=zj (id:=id) x c m n;obtain⟨c2,ys,m2,n2,e3,e4,h2,u2⟩:=vP xs c1 m1 n1;exact⟨c2,y::ys,m2,n2,by simp only[lH,e1,e3],by simp only[lH,e2,e4],by omega,u1.trans (by omega) (by omega) u2⟩
theorem Jv(x:AV)(m n:Mem):∃c y m' n',imp id m x=(y,c,m')/\imp id n x=(y,c,n')/\H9 id (id+c) m m' n n':=by
 have other:∀x,(∀m,imp id m x=ot id 0 m x)->∃c y m' n',imp id m x=(y,c,m')/\imp id n x=(y,c,n')/\H9 id (id+c) m m' n n':=by
  intro x h;rw[h,h];obtain⟨c1,y,m1,n1,e1,e2,h1,u1⟩:=zj (id:=id) x 0 m n;exact⟨c1,y,m1,n1,e1,e2,u1⟩
 cases x with
 | dU xs=>
  obtain⟨c1,ys,m1,n1,e1,e2,h1,u1⟩:=vP (id:=id) xs 0 m n;exact⟨c1,.dU ys,m1,n1,by simp only[imp,e1],by simp only[imp,e2],u1⟩
 | _=>exact other _ (λ_=>rfl)
theorem pj{x y:AV}{c:Nat}{m m' m2:Mem}(h:imp id m x=(y,c,m'))(hc:c<=8)(hm:∀j,id<=j->j<id+8->m2 j=m j):m'=over m id m'/\imp id m2 x=(y,c,over m2 id m'):=by
 obtain⟨c1,y1,m1,n1,e1,e2,u⟩:=Jv (id:=id) x m m2;rw[e1]at h;cases h;have hb:∀j,(Nat.ble id j&&Nat.blt j (id+8))=true↔id<=j/\j<id+8:=by
  intro j;rw[ae];constructor
  ·intro h;exact⟨aD h.1,by simpa using h.2⟩
  ·intro h;exact⟨bX h.1,by simpa using h.2⟩
 have h1:m'=over m id m':=by
  funext j;unfold over;cases hj:(Nat.ble id j&&Nat.blt j (id+8))with
  | true=>rfl
  | false=>
   have:¬ (id<=j/\j<id+8):=λh=>by rw[(hb j).2 h]at hj;cases hj
   exact((u j).2 (by omega)).1
 have h2:n1=over m2 id m':=by
  funext j;unfold over;cases hj:(Nat.ble id j&&Nat.blt j (id+8))with
  | true=>
   have hr:=(hb j).1 hj;by_cases hk:id<=j/\j<id+c
   ·exact(u j).1 hk
   ·obtain⟨e3,e4⟩:=(u j).2 hk;show n1 j=m' j;rw[e3,e4];exact hm j hr.1 hr.2
  | false=>
   have:¬ (id<=j/\j<id+8):=λh=>by rw[(hb j).2 h]at hj;cases hj
   exact((u j).2 (by omega)).2
 exact⟨h1,by rw[e2,<-h2]⟩
end
end Go.Proofs.Ev
end