import Derived.Test.YtnoldakbllfmnaaGreatDoorDYVa
import Derived.ChangeAgain
set_option linter.all false
noncomputable section
namespace Go.Proofs.Ev
open Go Go.RowKit
section
variable {R:Type} {P:Program} {G:fv} {o:Oper} {a:Act} {w w' : World} {W0:fh} {F0 U F:Nat->Prop} {id:Nat} {L L' : AV->Value->Prop} {K:AV->Mem->Option R} {r:R} {m:Mem} {μ:Mu} {S:List AV}
theorem ET:∀i,(U i\/i=id)->U8 U id i:=by
 rintro i (hi|rfl)
 ·exact .inl hi
 ·exact .inr ⟨aH _,by omega⟩
theorem Bx{b o n off sz:Nat}{xs:List AV}{C:Array Value}{w:World}{F:Nat->Prop}(hs:∀x∈xs,x.cells.length=sz)(wG:off<=xs.length)(Ck:o+xs.length*sz<=C.size)
  (hr:∀j c,(dm xs)[j]?=some c->Rel w F c (C.getD (o+j) undef)) :
  ∃olds:List Value,olds.length=(xs.drop off).length*sz/\(∀j v,olds[j]?=some v->v=C.getD (o+off*sz+j) undef/\o+off*sz+j<C.size)/\
   ∀j c,(dm (xs.drop off))[j]?=some c->Rel w F c (olds.getD j undef)/\Rel w F c (C.getD (o+off*sz+j) undef):=by
 have hb:(xs.drop off).length=xs.length - off:=by simp
 have h1:off*sz<=xs.length*sz:=bf _ wG;have h2:(xs.length - off)*sz+off*sz=xs.length*sz:=by rw[<-bK,Nat.sub_add_cancel wG]
 refine⟨(List.range ((xs.drop off).length*sz)).map λj=>C.getD (o+off*sz+j) undef,by simp,?_,?_⟩
 ·intro j v hj;have eT:j<(xs.drop off).length*sz:=by have:=(aE.1 hj).1;simpa using this
  simp only[aP,List.getElem?_range eT,cE,bh]at hj;exact⟨hj.symm,by rw[hb]at eT;omega⟩
 ·intro j c hj;have tU : ∀x∈xs.drop off,x.cells.length=sz:=λx hx=>hs x (bg hx);have eT:=(aE.1 hj).1;rw[(eJ sz _ tU).1]at eT;rw[gW sz off xs hs,bm]at hj;have:=hr _ c hj;rw[<-Nat.add_assoc]at this;refine⟨?_,this⟩;rw[ah,aP,List.getElem?_range eT];exact this
theorem nk{vs:List Value}{C:Array Value}{o j:Nat}(hj:j<vs.length)(hC:o+vs.length<=C.size):(lV C o vs).getD (o+j) undef=vs.getD j undef:=by
 rw[rh vs C o j hj hC,ah,aN hj];rfl
theorem wX{t u e:TypeId}{ei:TI}{x y:Operand}{c:Call}(hT:pv P e ei)(hd:P.underlying t=some (.slice e))(ho:o.op=.call c)(hc:c.callee=.builtin .append)(ha:c.args=#[x,y])(tV:c.argTypes=#[t,u])
  (h:dj W0 F0 U m L w μ F) (hid:∀j,j<8->¬ U (id+j)) {j off:Nat} {xs ys:List AV} {news:List Value} (hb:ei.bytes<=4096)
  (hx:fg w F μ m U (.own j off none) (a.eval x)) (hj:m j=some (.row ei.flat ei.size xs))
  (hY:Yields P w F e ei.size ei.flat u (a.eval y) ys news) (hm:(xs.drop off).length+ys.length<=fe)
  (hK:K (.own id 0 none) ((m.gB j none).gB id (some (.row ei.flat ei.size (xs.drop off++ys))))=some r):lK P o a w W0 F0 U id L K r:=by
 obtain⟨i,hi,_,lv,QF,z,hz,xB,Qs⟩:=hT.jM w;obtain⟨_,hu,hp⟩:=hx;obtain⟨ad,cap,hv,kM,hlen,eI⟩:=hp _ _ xs hj;obtain⟨hs,nc,iR⟩:=h.lQ j _ hj;simp only[lenOf]at hv kM hlen;have J_:(xs.drop off).length=xs.length - off:=by simp
 have wG:off<=xs.length:=by omega
 have N6:=h.drop j;have wI:¬ U id:=hid 0 (by omega);have Ms:∀x∈xs.drop off,x.cells.length=ei.size:=λx hx=>hs x (bg hx);have R8:∀c∈dm (xs.drop off),xl ei.flat c:=by
  intro c hc;simp only[dm,aY]at hc;obtain⟨y,hy,hc⟩:=hc;exact nc c (by simp only[dm,aY];exact⟨y,bg hy,hc⟩)
 have xF:∀x∈xs.drop off++ys,x.cells.length=ei.size:=by
  intro v hv;rcases aS.1 hv with hv|hv
  ·exact Ms v hv
  ·exact hY.cells v hv
 have A5:∀x∈dm (xs.drop off++ys),xl ei.flat x:=by
  intro v hv;rw[gS]at hv;rcases aS.1 hv with hv|hv
  ·exact R8 v hv
  ·exact hY.ok v hv
 have N1:=hY.src.newsLen;rw[<-J_]at hv kM
 -- nothing U9 there
 by_cases FF:ys.length=0
 ·have:ys=[]:=aV.1 FF;subst this;have V8:news=[]:=aV.1 (by rw[N1];simp);subst V8;rw[bc]at hK xF A5;have fN:=hY.src.nothing t o.type i hd hi lv FF ad (xs.drop off).length cap kM;have hex:=mS ho hc ha tV (by rw[hv];exact fN);refine⟨.own id 0 none,_,_,w,.inl hex,hK,?_⟩;rcases iR with⟨xD,fG⟩|⟨b,o',C,f,fG,hh,Ck,ni,hr⟩
  ·have FG:xs.drop off=[]:=by rw[xD];simp
   have WR:ad=none/\cap=0:=by
    rcases eI with eI|⟨b,_,_,_,eh,_⟩
    ·exact eI
    ·rw[fG]at eh;cases eh
   obtain⟨rfl,rfl⟩:=WR;refine⟨_,F,(N6.zr (L':=λy u=>L y u\/(y=.own id 0 none/\u=.slice none (xs.drop off).length 0)) (q:=none) wI N6.below (aH _) (λ_ _ _=>rfl) (by intro _ _ _ h;cases h) ?_ ?_).wider ET⟩
   ·exact⟨xF,A5,.inl ⟨FG,by simp⟩⟩
   ·rintro y v (hy|⟨rfl,rfl⟩)
    ·exact .inl hy
    ·refine .inr ⟨λ_=>rfl,.inr rfl,λiA jL oN hx=>?_⟩;rw[Mem.dQ]at hx;cases hx;exact⟨none,0,by simp[lenOf],by simp[lenOf,FG],by simp[lenOf],.inl ⟨rfl,rfl⟩⟩
  ·have fX:=h.own j _ b o' C.size hj fG;refine⟨_,F,(N6.zr (L':=λy u=>L y u\/(y=.own id 0 none/\u=.slice ad (xs.drop off).length cap)) (q:=some (b,o'+off*ei.size,C.size)) wI N6.below (aH _) (λ_ _ _=>rfl) ?_ ?_ ?_).wider ET⟩
   ·intro b1 o1 n1 e1;cases e1;refine⟨fX.1,fX.2.1,fX.2.2,λi' y' o2 n2 pg jP=>?_⟩;by_cases e:i'=j
    ·subst e;rw[Mem.dQ]at pg;cases pg
    ·rw[Mem.dy _ _ e]at pg;exact e (h.inj i' j y' _ b o2 n2 o' C.size pg hj jP fG)
   ·have h1:off*ei.size<=xs.length*ei.size:=bf _ wG;have h2:(xs.length - off)*ei.size+off*ei.size=xs.length*ei.size:=by rw[<-bK,Nat.sub_add_cancel wG]
    refine⟨xF,A5,.inr ⟨b,o'+off*ei.size,C,f,by simp,hh,by rw[J_];omega,ni,λk c hk=>?_⟩⟩;rw[gW ei.size off xs hs,bm]at hk;have:=hr _ c hk;rwa[<-Nat.add_assoc]at this
   ·rintro y v (hy|⟨rfl,rfl⟩)
    ·exact .inl hy
    ·refine .inr ⟨λ_=>rfl,.inr rfl,λiA jL oN hx=>?_⟩;rw[Mem.dQ]at hx;cases hx;refine⟨ad,cap,by simp[lenOf],by simpa[lenOf]using kM,by simp[lenOf],?_⟩;rcases eI with eI|⟨b',Gn,nn,A1,eh,rfl,Cp,eI⟩
     ·exact .inl eI
     ·rw[fG]at eh;simp only[bh,bI]at eh;obtain⟨rfl,rfl,rfl⟩:=eh;refine .inr ⟨b,o'+off*ei.size,C.size,A1,by simp,rfl,Cp,?_⟩;rcases eI with eI|⟨e1,e2⟩
      ·exact .inl eI
      ·refine .inr ⟨by rw[e1];simp,?_⟩;rw[bK]at e2;simp;omega
 ·by_cases yN:(xs.drop off).length+ys.length<=cap
  ·-- there is room
   rcases eI with⟨rfl,rfl⟩|⟨b,o',nn,A1,fG,rfl,Cp,eI⟩
   ·omega
   rcases eI with rfl|⟨rfl,Ei⟩
   ·omega
   rcases iR with⟨_,eh⟩|⟨b',Gn,C,f,eh,hh,Ck,ni,hr⟩
   ·rw[fG]at eh;cases eh
   rw[fG]at eh;simp only[bh,bI]at eh;obtain⟨rfl,rfl,rfl⟩:=eh;have fX:=h.own j _ b o' C.size hj fG;have NY:news.length=ys.length*ei.size:=N1;have YI:o'+off*ei.size+((xs.drop off).length*ei.size+news.length)<=C.size:=by
    have:=bf ei.size yN;rw[bK]at this;rw[bK]at Ei;omega
   have fN:=hY.src.room t o.type i hd hi lv b (o'+off*ei.size) (xs.drop off).length cap yN
    (by intro k hk;rw[lv,cell_of hh (by omega)];rfl)
    (by
     intro k hk;rw[lv];have:=ni.at (o'+off*ei.size+(xs.drop off).length*ei.size+k) (by omega);have e:(xs.drop off).length*ei.size=(xs.length - off)*ei.size:=by rw[J_]
     simp[World.frozen?,hh];intro hle;omega)
   have hex:=mS ho hc ha tV (by rw[hv];exact fN);rw[lv]at hex;have hw:∀k,k≠b->(w.setCells b (o'+off*ei.size+(xs.drop off).length*ei.size) news).heap[k]?=w.heap[k]?:=λk hk=>fH b _ _ _ k hk;obtain⟨olds,RB,Yi,VM⟩:=Bx (n:=0) (b:=b) hs wG Ck hr;refine⟨.own id 0 none,_,_,_,.inl hex,hK,_,F,(N6.zr (L':=λy u=>L y u\/(y=.own id 0 none/\u=.slice (some ⟨b,o'+off*ei.size,none⟩) ((xs.drop off).length+ys.length) cap)) (q:=some (b,o'+off*ei.size,C.size)) wI
    (jl b _ _ _ h.below fX.1) (by rw[setCells_size];exact aH _) (λk _ hk=>hw k (λe=>by subst e;exact hk _ _ rfl)) ?_ ?_ ?_).wider ET⟩
   ·intro b1 o1 n1 e1;cases e1;refine⟨fX.1,by rw[setCells_size];exact fX.2.1,fX.2.2,λi' y' o2 n2 pg jP=>?_⟩;by_cases e:i'=j
    ·subst e;rw[Mem.dQ]at pg;cases pg
    ·rw[Mem.dy _ _ e]at pg;exact e (h.inj i' j y' _ b o2 n2 o' C.size pg hj jP fG)
   ·refine⟨xF,A5,.inr ⟨b,o'+off*ei.size,lV C (o'+off*ei.size+(xs.drop off).length*ei.size) news,f,by simp[eN],iX b _ _ _ _ _ _ hh,?_,by rw[eN];exact ni,λk c hk=>?_⟩⟩
    ·rw[eN,ai,bK];omega
    ·have hF:∀{v},Rel w F c v->Rel (w.setCells b (o'+off*ei.size+(xs.drop off).length*ei.size) news) F c v:=λhv=>hv.mono (λ_ hb=>hb) (λk hk=>hw k (λe=>fX.2.2 (e ▸ hk)));have e1:=(eJ ei.size _ Ms).1;rw[gS]at hk;by_cases wH:k<(xs.drop off).length*ei.size
     ·rw[aO (by omega)]at hk;rw[il _ _ _ _ (.inl (by omega))];exact hF (VM k c hk).2
     ·rw[aR (by omega),e1]at hk;have eT:=(aE.1 hk).1;rw[(eJ ei.size _ hY.cells).1]at eT;have:=nk (vs:=news) (C:=C) (o:=o'+off*ei.size+(xs.drop off).length*ei.size) (j:=k - (xs.drop off).length*ei.size) (by omega) (by omega);rw[show o'+off*ei.size+(xs.drop off).length*ei.size+(k - (xs.drop off).length*ei.size)=o'+off*ei.size+k by omega]at this;rw[this];exact hF (hY.rel _ c hk)
   ·rintro y v (hy|⟨rfl,rfl⟩)
    ·exact .inl hy
    ·refine .inr ⟨λ_=>rfl,.inr rfl,λiA jL oN hx=>?_⟩;rw[Mem.dQ]at hx;cases hx;refine⟨some ⟨b,o'+off*ei.size,none⟩,cap,by simp[lenOf],by simpa[lenOf]using yN,by simp[lenOf],.inr ⟨b,o'+off*ei.size,C.size,⟨b,o'+off*ei.size,none⟩,by simp,rfl,rfl,.inr ⟨by simp,?_⟩⟩⟩;rw[bK]at Ei;simp;omega
  ·-- there is none
   have Cm:cap<(xs.drop off).length+ys.length:=by omega
   rcases iR with⟨xD,fG⟩|⟨b,o',C,f,fG,hh,Ck,ni,hr⟩
   ·have FG:xs.drop off=[]:=by rw[xD];simp
    have WR:ad=none/\cap=0:=by
     rcases eI with eI|⟨b,_,_,_,eh,_⟩
     ·exact eI
     ·rw[fG]at eh;cases eh
    obtain⟨rfl,rfl⟩:=WR;exact lJ hT hd ho hc ha tV N6 hid hb hv Ms R8 (olds:=[]) (by rw[FG];simp) (by rw[FG];simp[dm]) (run_firstCells_none _ _ _ _ _) hY (by omega) Cm hm hK
   ·obtain⟨olds,RB,Yi,VM⟩:=Bx (n:=0) (b:=b) hs wG Ck hr;refine lJ hT hd ho hc ha tV N6 hid hb hv Ms R8 RB (λk c hk=>(VM k c hk).1) ?_ hY (by omega) Cm hm hK;rcases eI with⟨rfl,rfl⟩|⟨b',Gn,nn,A1,eh,rfl,Cp,eI⟩
    ·have h0:(xs.drop off).length=0:=by omega
     have:olds=[]:=aV.1 (by rw[RB,h0];simp);subst this;exact run_firstCells_none _ _ _ _ _
    ·rw[fG]at eh;simp only[bh,bI]at eh;obtain⟨rfl,rfl,rfl⟩:=eh;refine run_firstCells_some _ _ _ _ _ _ _ RB (λk v hk=>?_);rcases eI with rfl|⟨rfl,Ei⟩
     ·have h0:(xs.drop off).length=0:=by omega
      have:olds=[]:=aV.1 (by rw[RB,h0];simp);subst this;simp at hk
     ·obtain⟨e1,e2⟩:=Yi k v hk;rw[jS,e1];show w.cell? _=_;exact cell_of hh e2
theorem Ep(hG:et P G){c:Call}(ho:o.op=.call c)(hc:c.callee=.builtin .append)(h:dj W0 F0 U m L w μ F)(hE:Env G S a L)(hid:∀j,j<8->¬ U (id+j))(hK:fM G o.op S m id K=some r) :
  lK P o a w W0 F0 U id L K r:=by
 rw[ho]at hK;simp only[fM,hc]at hK;split at hK
 ·rename_i t u x y ht xC;have ha:c.args=#[x,y]:=by rw[<-xC]
  have tV:c.argTypes=#[t,u]:=by rw[<-ht]
  obtain⟨ti,mr,eM⟩:=cS hK;clear hK;obtain⟨ui,hui,hK⟩:=cS eM;clear eM;obtain⟨d,hd,hk⟩:=(hG.ti t ti mr).uJ;obtain⟨du,WB,N2⟩:=(hG.ti u ui hui).uJ;split at hK
  ·rename_i e fT;rw[fT]at hk;cases d<;>simp[fR]at hk;subst hk;obtain⟨ei,sZ,eM⟩:=cS hK;clear hK;have hT:=hG.ti _ ei sZ;obtain⟨hb,hK⟩:=c_ eM;clear eM;simp only[ae]at hb;have RW:=aG hb.2;have hb:=aG hb.1.1;have hx:=hE.rel h x;have hy:=hE.rel h y;have fin:∀(ys:List AV) (news:List Value),Yields P w F e ei.size ei.flat u (a.eval y) ys news->
     (match ev G S x with
      | .v (.slice none 0 0)=>bif decide (ys.length<=fe)then K (.own id 0 none) (m.gB id (some (.row ei.flat ei.size ys)))else none
      | .own j off none=>cX (m j) fun
       | .row fl sz xs=>bif fl==ei.flat&&Nat.beq sz ei.size then
         bif decide ((kO off xs).length+ys.length<=fe)then K (.own id 0 none) ((m.gB j none).gB id (some (.row fl sz (kO off xs++ys))))else none
        else none
       | _=>none
      | _=>none)=some r->lK P o a w W0 F0 U id L K r:=by
    intro ys news hY hK;generalize hX:ev G S x=X at hK hx;split at hK
    ·obtain⟨hm,hK⟩:=c_ hK;have hm:ys.length<=fe:=by simpa using hm
     have hv:=(eg hx).1;by_cases h0:ys.length=0
     ·have:ys=[]:=aV.1 h0;subst this;have V8:news=[]:=aV.1 (by rw[hY.src.newsLen];simp);subst V8;obtain⟨i,hi,_,lv,_⟩:=hT.jM w;have fN:=hY.src.nothing t o.type i hd hi lv h0 none 0 0 (aH _);have hex:=mS ho hc ha tV (by rw[hv];exact fN);refine⟨.own id 0 none,_,_,w,.inl hex,hK,_,F,(h.zr (L':=λy u=>L y u\/(y=.own id 0 none/\u=.slice none 0 0)) (q:=none) (show ¬ U id from hid 0 (by omega)) h.below (aH _) (λ_ _ _=>rfl) (by intro _ _ _ h;cases h) ?_ ?_).wider ET⟩
      ·exact⟨by simp,by simp[dm],.inl ⟨rfl,by simp⟩⟩
      ·rintro y v (hy|⟨rfl,rfl⟩)
       ·exact .inl hy
       ·refine .inr ⟨λ_=>rfl,.inr rfl,λiA jL oN hx=>?_⟩;rw[Mem.dQ]at hx;cases hx;exact⟨none,0,by simp[lenOf],by simp[lenOf],by simp[lenOf],.inl ⟨rfl,rfl⟩⟩
     ·exact lJ hT hd ho hc ha tV h hid hb (base:=none) (xs:=[]) (cap:=0) (olds:=[]) hv (by simp) (by simp[dm]) (by simp) (by simp[dm]) (run_firstCells_none _ _ _ _ _) hY (by omega) (by simp;omega) (by simpa using hm) hK
    ·rename_i j off;obtain⟨bl,hj,eM⟩:=cS hK;clear hK;cases bl with
     | box _ _=>cases eM
     | row fl sz xs=>
      simp only at eM;obtain⟨Co,hK⟩:=c_ eM;clear eM;rw[ae]at Co;have e1:fl=ei.flat:=by simpa using Co.1
      have e2:=aw Co.2;subst e1;subst e2;obtain⟨hm,eM⟩:=c_ hK;clear hK;rw[kh]at hm eM;exact wX hT hd ho hc ha tV h hid hb hx hj hY (by simpa using hm) eM
    ·cases hK
   split at hK
   ·rename_i JY;rw[JY]at N2;cases du<;>simp[fR]at N2;obtain⟨h1,eM⟩:=c_ hK;clear hK;obtain⟨s,hs,hK⟩:=iH eM;rw[hs]at hy;exact fin _ _ (by rw[(eg hy).1];exact xo (e:=e) WB (aw h1)) hK
   ·rename_i e' JY;rw[JY]at N2;cases du<;>simp[fR]at N2;obtain⟨iA,sz,ys,news,hK,hY⟩:=zB (e:=e) WB h hy hK;exact fin _ _ hY hK
   ·rename_i kk JY;rw[JY]at N2;cases du<;>simp[fR]at N2;obtain⟨n,hn,eM⟩:=iI hK;clear hK;obtain⟨yP,hK⟩:=c_ eM;rw[ae,ay,ay]at yP;obtain⟨k,rfl⟩:=Int.eq_ofNat_of_zero_le yP.1;have hk9:k<=1000000000:=by have:=yP.2;simp[fe]at this;omega
    rw[hn]at hy;obtain⟨news,hY⟩:=zA (w:=w) (F:=F) WB hT hb RW k hk9;exact fin _ _ (by rw[(eg hy).1];exact hY) hK
   ·cases hK
  ·cases hK
 ·cases hK
end
section
variable {R:Type} {P:Program} {G:fv} {o:Oper} {a:Act} {w w' : World} {W0:fh} {F0 U F:Nat->Prop} {id:Nat} {L L' : AV->Value->Prop} {K:AV->Mem->Option R} {r:R} {m:Mem} {μ:Mu} {S:List AV}
theorem CJ{ei:TI}(h:dj W0 F0 U m L w μ F)(hE:Env G S a L)(I:List Nat):∀(parts:List (Nat × Operand)) (i0:Nat) (C:Array Value) (xs:List AV),
  wi i0 (parts.map fun(i,x)=>(i,ev G S x))=true->mD m ei (parts.map fun(_,x)=>ev G S x)=some xs->(∀i∈(parts.map fun(_,x)=>ev G S x).flatMap jD,i∈I)->
  (i0+parts.length)*ei.size<=C.size->
  ∃C',Instr.fill (λi=>some (i*ei.size,ei.size)) C (parts.map fun(i,x)=>(i,a.eval x))=some C'/\C'.size=C.size/\(∀k,k<i0*ei.size->C'.getD k undef=C.getD k undef)/\
   xs.length=parts.length/\(∀x∈xs,x.cells.length=ei.size)/\(∀c∈dm xs,xl ei.flat c)/\
   ∀j c,(dm xs)[j]?=some c->Rel w (λb=>F b\/eS μ m I b) c (C'.getD (i0*ei.size+j) undef)
 | [],i0,C,xs,hl,hk,hI,hC=>by
  simp[mD]at hk;subst hk;exact⟨C,rfl,rfl,λ_ _=>rfl,rfl,by simp,by simp[dm],by simp[dm]⟩
 | (i,x)::parts,i0,C,xs,hl,hk,hI,hC=>by
  simp only[bx,wi,ae]at hl;obtain⟨hi,hl⟩:=hl;have hi:=aw hi;subst hi;simp only[bx,mD]at hk;split at hk
  ·rename_i y s hy hs;cases hk;have hX:=hE.rel h x;obtain⟨k1,k2,k3,k4⟩:=yH h hX hy I (λj hj=>hI j (by simp only[bx,bD,aS];exact .inl hj));obtain⟨h1,h2,h3⟩:=yh k1 k3;have Az:(a.eval x).cells.toList.length=ei.size:=by rw[br,h1,k2]
   have lv:(a.eval x).cells.size=ei.size:=by rw[h1,k2]
   simp only[az]at hC;have hC1:(i0+1+parts.length)*ei.size<=C.size:=by rw[show i0+1+parts.length=i0+(parts.length+1) by omega];exact hC
   have hC2:i0*ei.size+ei.size<=C.size:=by
    have:(i0+1)*ei.size<=(i0+1+parts.length)*ei.size:=bf _ (by omega);rw[cn]at this;omega
   obtain⟨C',e1,e2,e3,e4,e5,e6,e7⟩:=CJ h hE I parts (i0+1) (lV C (i0*ei.size) (a.eval x).cells.toList) s hl hs (λj hj=>hI j (by simp only[bx,bD,aS];exact .inr hj)) (by rw[eN];exact hC1);have nc:dm (y::s)=y.cells++dm s:=by simp[dm]
   refine⟨C',?_,by rw[e2,eN],?_,by simp[e4],?_,?_,?_⟩
   ·simp only[bx,Instr.fill];rw[af (by simp[lv];omega),po];exact e1
   ·intro k hk;rw[e3 k (by rw[cn];omega),il _ _ _ _ (.inl hk)]
   ·intro z hz;rcases cj.1 hz with rfl|hz
    ·exact k2
    ·exact e5 z hz
   ·intro c hc;rw[nc]at hc;rcases aS.1 hc with hc|hc
    ·exact⟨aA.1 k3 c hc,λhf=>k4 hf c hc⟩
    ·exact e6 c hc
   ·intro j c hj;rw[nc]at hj;by_cases eT:j<ei.size
    ·rw[aO (by omega)]at hj;have:=h2 j c hj;rw[e3 _ (by rw[cn];omega)];have e:=nk (vs:=(a.eval x).cells.toList) (C:=C) (o:=i0*ei.size) (j:=j) (by omega) (by omega);rw[e];have e' : (a.eval x).cells.toList.getD j undef=(a.eval x).cells.getD j undef:=by simp[ah,aK]
     rw[e'];exact this
    ·rw[aR (by omega),k2]at hj;have:=e7 _ c hj;rw[show(i0+1)*ei.size+(j - ei.size)=i0*ei.size+j by rw[cn];omega]at this;exact this
  ·cases hk
theorem CK{ei:TI}(h1:ei.size=1)(h:dj W0 F0 U m L w μ F)(hE:Env G S a L):∀(parts:List (Nat × Operand)) (i0:Nat) (C:Array Value),
  wi i0 (parts.map fun(i,x)=>(i,ev G S x))=true->(parts.map fun(_,x)=>ev G S x).all AV.Yj=true->i0+parts.length<=C.size->
  ∃C',Instr.fill (λi=>some (i*ei.size,ei.size)) C (parts.map fun(i,x)=>(i,a.eval x))=some C'/\C'.size=C.size/\(∀k,k<i0->C'.getD k undef=C.getD k undef)/\
   ∀j c,(parts.map fun(_,x)=>ev G S x)[j]?=some c->fL w F μ m U c (C'.getD (i0+j) undef)
 | [],i0,C,hl,hk,hC=>⟨C,rfl,rfl,λ_ _=>rfl,by simp⟩
 | (i,x)::parts,i0,C,hl,hk,hC=>by
  simp only[bx,wi,ae]at hl;obtain⟨hi,hl⟩:=hl;have hi:=aw hi;subst hi;simp only[bx,bo,ae]at hk;have ic:(ev G S x).cells=[ev G S x]/\(ev G S x).pG=true:=by
   have:=hk.1;cases hX:ev G S x<;>rw[hX]at this<;>first|(cases this;done)|exact⟨rfl,rfl⟩
  obtain⟨q1,q2,_⟩:=pT (hE.rel h x) (by rw[ic.1];simp[ic.2]);rw[ic.1]at q1 q2;have q1:(a.eval x).cells.size=1:=q1;have q3:=q2 0 _ rfl;have Az:(a.eval x).cells.toList.length=1:=by rw[br,q1]
  simp only[az]at hC;obtain⟨C',e1,e2,e3,e4⟩:=CK h1 h hE parts (i0+1) (lV C i0 (a.eval x).cells.toList) hl hk.2 (by rw[eN];omega);refine⟨C',?_,by rw[e2,eN],λk hk=>?_,λj c hj=>?_⟩
  ·simp only[bx,Instr.fill];rw[af (by simp[q1,h1];omega),po,h1,Nat.mul_one];rw[h1]at e1;exact e1
  ·rw[e3 k (by omega),il _ _ _ _ (.inl hk)]
  ·cases j with
   | zero=>
    simp only[bx,List.getElem?_cons_zero,bh]at hj;subst hj;rw[e3 _ (by omega)];have e:=nk (vs:=(a.eval x).cells.toList) (C:=C) (o:=i0) (j:=0) (by omega) (by omega);rw[e];have e' : (a.eval x).cells.toList.getD 0 undef=(a.eval x).cells.getD 0 undef:=by simp[ah,aK]
    rw[e'];exact q3
   | succ j=>
    have:=e4 j c (by simpa using hj);rw[show i0+(j+1)=i0+1+j by omega];exact this
theorem wW(hG:et P G){t:TypeId}{len:Nat}{parts:Array (Nat × Operand)}(ho:o.op=.buildSlice t len parts)(h:dj W0 F0 U m L w μ F)(hE:Env G S a L)(hid:∀j,j<8->¬ U (id+j))(hK:fM G o.op S m id K=some r) :
  lK P o a w W0 F0 U id L K r:=by
 rw[ho]at hK;simp only[fM]at hK;obtain⟨ti,mr,eM⟩:=cS hK;clear hK;obtain⟨d,hd,hk⟩:=(hG.ti t ti mr).uJ;split at eM
 ·rename_i e fT;rw[fT]at hk;cases d<;>simp[fR]at hk;subst hk;obtain⟨ei,sZ,hK⟩:=cS eM;clear eM;have hT:=hG.ti _ ei sZ;cases Yu:uY ei.kd with
  | true=>
   rw[Yu,ak]at hK;obtain⟨hc,eM⟩:=c_ hK;clear hK;simp only[ae]at hc;obtain⟨⟨⟨⟨c1,c2⟩,c3⟩,c4⟩,c5⟩:=hc;have c1:=aw c1;have c3:=aG c3;have c4:=aw c4;obtain⟨i,hi,_,lv,QF,z,hz,xB,Qs⟩:=hT.jM w;have oK:parts.toList.length=len:=by rw[br,c1]
   have go:∀C:Array Value,C.size=len*ei.size->(∀C',Instr.fill (λi=>some (i*ei.size,ei.size)) C (parts.toList.map fun(i,x)=>(i,a.eval x))=some C'->
     (Instr.buildSlice t len (parts.map fun(i,x)=>(i,a.eval x))).run P w=.ok (.slice (some ⟨w.heap.size,0,none⟩) len len) (w.alloc (.cells C' e)))->lK P o a w W0 F0 U id L K r:=by
    intro C hC fN;obtain⟨C',e1,e2,e3,e4⟩:=CK c4 h hE parts.toList 0 C c2 c5 (by rw[oK,hC,c4];omega);have fN:=fN C' e1;have YA:(parts.toList.map fun(_,x)=>ev G S x).length=len:=by rw[aj,oK]
    refine .bs (C:=C') (t:=e) h hid (by rw[YA];simp[execOp,ho,fN]) (by rw[YA,e2,hC,c4];omega) (λj c hj=>by have:=e4 j c hj;rw[bO]at this;exact this) eM
   by_cases h0:len*ei.size=0
   ·refine go #[] (by simp[h0]) (λC' Mx=>?_);simp[Instr.buildSlice,bu hd,sizeOf,typeInfo,hi,lv,h0,Mx,newRow,Array.range_zero']
   ·refine go (madeCells z.cells (len*ei.size)) (size_madeCells _ _) (λC' Mx=>?_);have:¬ (16777216<len*ei.size):=by omega
    simp only[madeCells]at Mx;simp[Instr.buildSlice,bu hd,sizeOf,typeInfo,zeroValue,hi,hz,lv,this,h0,Mx,newRow]
  | false=>
  rw[Yu,cond_false]at hK;obtain⟨hc,eM⟩:=c_ hK;clear hK;simp only[ae]at hc;obtain⟨⟨⟨c1,c2⟩,c3⟩,c4⟩:=hc;have c1:=aw c1;have c3:=aG c3;obtain⟨xs,xC,hK⟩:=cS eM;clear eM;obtain⟨i,hi,_,lv,QF,z,hz,xB,Qs⟩:=hT.jM w;have oK:parts.toList.length=len:=by rw[br,c1]
  obtain⟨I,hI⟩:∃I,I=(parts.toList.map fun(_,x)=>ev G S x).flatMap jD:=⟨_,rfl⟩;have go:∀C:Array Value,C.size=len*ei.size->(∀C',Instr.fill (λi=>some (i*ei.size,ei.size)) C (parts.toList.map fun(i,x)=>(i,a.eval x))=some C'->
    (Instr.buildSlice t len (parts.map fun(i,x)=>(i,a.eval x))).run P w=.ok (.slice (some ⟨w.heap.size,0,none⟩) len len) (w.alloc (.cells C' e)))->lK P o a w W0 F0 U id L K r:=by
   intro C hC fN;obtain⟨C',e1,e2,e3,e4,e5,e6,e7⟩:=CJ h hE I parts.toList 0 C xs c2 xC (λj hj=>by rw[hI];exact hj) (by rw[oK,hC];simp);have fN:=fN C' e1;rw[<-hI]at hK;refine .row (C:=C') (t:=e) (ht:=hT.tid) (f:=(0,0)) (cap:=len) (h.freeze I) hid (by rw[e4,oK];simp[execOp,ho,fN]) (lA w _) (j9 w _) (.inl rfl) e5 e6 (by omega) (by rw[e2,hC];exact aH _) (λj c hj=>by simpa using e7 j c hj) hK
  by_cases h0:len*ei.size=0
  ·refine go #[] (by simp[h0]) (λC' Mx=>?_);simp[Instr.buildSlice,bu hd,sizeOf,typeInfo,hi,lv,h0,Mx,newRow,Array.range_zero']
  ·refine go (madeCells z.cells (len*ei.size)) (size_madeCells _ _) (λC' Mx=>?_);have:¬ (16777216<len*ei.size):=by omega
   simp only[madeCells]at Mx;simp[Instr.buildSlice,bu hd,sizeOf,typeInfo,zeroValue,hi,hz,lv,this,h0,Mx,newRow]
 ·cases eM
theorem Mem.vo{m:Mem}{j:Nat}{x:sv}(h:m j=some x):m.gB j (some x)=m:=by
 funext i;by_cases e:i=j
 ·subst e;rw[Mem.dQ,h]
 ·rw[Mem.dy _ _ e]
theorem Hd(hG:et P G){c:Call}(ho:o.op=.call c)(hc:c.callee=.builtin .clear)(h:dj W0 F0 U m L w μ F)(hE:Env G S a L)(hK:fM G o.op S m id K=some r) :
  lK P o a w W0 F0 U id L K r:=by
 rw[ho]at hK;simp only[fM,hc]at hK;split at hK
 ·rename_i t x ht xC;have ha:c.args=#[x]:=by rw[<-xC]
  have tV:c.argTypes=#[t]:=by rw[<-ht]
  obtain⟨ti,mr,eM⟩:=cS hK;clear hK;obtain⟨d,hd,hk⟩:=(hG.ti t ti mr).uJ;split at eM
  ·rename_i e fT;rw[fT]at hk;cases d<;>simp[fR]at hk;subst hk;obtain⟨ei,sZ,hK⟩:=cS eM;clear eM;have hT:=hG.ti _ ei sZ;have hx:=hE.rel h x;generalize hX:ev G S x=X at hK hx;split at hK
   ·rename_i j off l;obtain⟨bl,hj,eM⟩:=cS hK;clear hK;cases bl with
    | box _ _=>cases eM
    | row fl sz xs=>
     simp only at eM;obtain⟨Mh,hK⟩:=c_ eM;clear eM;have Mh:=aw Mh;subst Mh;obtain⟨i,hi,_,lv,QF,z,hz,xB,Qs⟩:=hT.jM w;obtain⟨_,hu,hp⟩:=hx;obtain⟨ad,cap,hv,kM,hlen,eI⟩:=hp _ _ xs hj;obtain⟨hs,nc,iR⟩:=h.lQ j _ hj;change K .undef (m.gB j (some (.row fl ei.size (xs.take off++List.replicate (lenOf xs.length off l) ei.Dm++xs.drop (lenOf xs.length off l+off)))))=some r at hK;generalize hn:lenOf xs.length off l=n at *;have K_:z.cells.size=ei.size:=by rw[<-br,xB,hT.Nc]
     have ex:∀w',(Builtin.clear_ #[t] o.type #[a.eval x]).run P w=.ok (.tuple #[]) w'->(execOp a.eval o).run P w=.ok (.value (.tuple #[])) w':=by
      intro w' hr;simp[execOp,ho,resolve,hc,ha,tV,invoke,builtin,hr]
     by_cases Yx:n=0
     ·subst Yx;have e1:xs.take off++List.replicate 0 ei.Dm++xs.drop (0+off)=xs:=by simp
      rw[e1,Mem.vo hj]at hK;refine .calc h (v:=.tuple #[]) (ex w ?_) hK ⟨λh=>by simp[AV.pG]at h,.undef _⟩
      rw[hv];cases ad<;>simp[Builtin.clear_,bu hd]
     ·rcases eI with⟨rfl,rfl⟩|⟨b,o',nn,A1,fG,rfl,Cp,eI⟩
      ·omega
      rcases eI with rfl|⟨rfl,Ei⟩
      ·omega
      rcases iR with⟨_,eh⟩|⟨b',Gn,C,f,eh,hh,Ck,ni,hr⟩
      ·rw[fG]at eh;cases eh
      rw[fG]at eh;simp only[bh,bI]at eh;obtain⟨rfl,rfl,rfl⟩:=eh;have fX:=h.own j _ b o' C.size hj fG;have hzn:(Builtin.zeroCells z.cells n).toList.length=n*ei.size:=by rw[br,size_zeroCells,K_]
      have Wf:o'+off*ei.size+n*ei.size<=C.size:=by
       have:=bf ei.size hlen;rw[bK]at this;omega
      have NP:∀k,k<n*ei.size->∃v,ei.zero[k % ei.size]?=some v/\(Builtin.zeroCells z.cells n).toList[k]?=some v:=by
       intro k hk;have h0:0<ei.size:=by
        rcases Nat.eq_zero_or_pos ei.size with h|h
        ·rw[h]at hk;omega
        ·exact h
       have hm:=Nat.mod_lt k h0;have eT:k % ei.size<z.cells.size:=by omega
       refine⟨z.cells[k % ei.size],by rw[<-xB];simp[eT],?_⟩;have h3:z.cells[k % ei.size]! = z.cells[k % ei.size]:=by rw[getElem!_def,Array.getElem?_eq_getElem eT]
       simp[Builtin.zeroCells,K_,hk,h3]
      have JW:∀v∈(Builtin.zeroCells z.cells n).toList,v.oneCell'=true:=by
       intro v hv;obtain⟨k,hk,rfl⟩:=List.getElem_of_mem hv;obtain⟨v',GH,Qu⟩:=NP k (by omega);rw[aN hk]at Qu;cases Qu;rw[lq];exact aA.1 hT.Ag _ (aT GH)
      have rT:=run_storeCells_cells (P:=P) b (o'+off*ei.size) (Builtin.zeroCells z.cells n).toList 0 w
       (by intro k hk;rw[bE,cell_of hh (by omega)];rfl)
       (by
        intro k hk;have:=ni.at (o'+off*ei.size+0+k) (by omega);simp[World.frozen?,hh];intro hle;simp only[bE]at this;omega)
       JW
      rw[bE]at rT;have hw:∀k,k≠b->(w.setCells b (o'+off*ei.size) (Builtin.zeroCells z.cells n).toList).heap[k]?=w.heap[k]?:=λk hk=>fH b _ _ _ k hk;have GF:ei.Dm.cells.length=ei.size:=by rw[kX hT];simp[TI.tv,hT.Nc]
      have wG:off<=xs.length:=by omega
      have xF:∀x∈xs.take off++List.replicate n ei.Dm++xs.drop (n+off),x.cells.length=ei.size:=by
       intro v hv;rcases aS.1 hv with hv|hv
       ·rcases aS.1 hv with hv|hv
        ·exact hs v (aX hv)
        ·rw[(bY.1 hv).2];exact GF
       ·exact hs v (bg hv)
      have Sb:(xs.take off++List.replicate n ei.Dm++xs.drop (n+off)).length=xs.length:=by simp;omega
      have hinv:=h.store (w':=w.setCells b (o'+off*ei.size) (Builtin.zeroCells z.cells n).toList) hj fG (x':=.row fl ei.size (xs.take off++List.replicate n ei.Dm++xs.drop (n+off))) ⟨rfl,Sb⟩
       (jl b _ _ _ h.below fX.1) (setCells_size b _ _ _) hw ?_
      ·refine⟨.undef,_,.tuple #[],w.setCells b (o'+off*ei.size) (Builtin.zeroCells z.cells n).toList,.inl (ex _ ?_),hK,μ,F,?_⟩
       ·rw[hv];cases n with
        | zero=>exact absurd rfl Yx
        | succ n=>simp[Builtin.clear_,bu hd,zeroValue,typeInfo,hi,hz,rT]
       ·have h':=hinv.wider (U':=U8 U id) (λi hi=>.inl hi);exact{ h' with
         dT:=by
          rintro y u (hy|⟨rfl,rfl⟩)
          ·exact h'.dT y u hy
          ·exact⟨λh=>by simp[AV.pG]at h,.undef _⟩ }
      ·refine⟨xF,?_,.inr ⟨b,o',lV C (o'+off*ei.size) (Builtin.zeroCells z.cells n).toList,f,by rw[eN];exact fG,iX b _ _ _ _ _ _ hh,by rw[eN,Sb];exact Ck,by rw[eN];exact ni,?_⟩⟩
       ·intro v hv;simp only[dm,aY]at hv;obtain⟨u,hu,hv⟩:=hv;rcases aS.1 hu with hu|hu
        ·rcases aS.1 hu with hu|hu
         ·exact nc v (by simp only[dm,aY];exact⟨u,aX hu,hv⟩)
         ·rw[(bY.1 hu).2]at hv;exact zw hT v hv
        ·exact nc v (by simp only[dm,aY];exact⟨u,bg hu,hv⟩)
       ·intro k q hk;have hF:∀{v},Rel w F q v->Rel (w.setCells b (o'+off*ei.size) (Builtin.zeroCells z.cells n).toList) F q v:=λhv=>hv.mono (λ_ hb=>hb) (λk hk=>hw k (λe=>fX.2.2 (e ▸ hk)));have e1:(dm (xs.take off)).length=off*ei.size:=by rw[(eJ ei.size _ (λx hx=>hs x (aX hx))).1,bd,Nat.min_eq_left wG]
        have e2:(dm (List.replicate n ei.Dm)).length=n*ei.size:=by rw[(eJ ei.size _ (λx hx=>by rw[(bY.1 hx).2];exact GF)).1];simp
        rw[gS,gS]at hk;by_cases wH:k<off*ei.size
        ·rw[aO (by rw[ai];omega),aO (by omega)]at hk;rw[il _ _ _ _ (.inl (by omega))];exact hF (hr k q (fZ ei.size off xs k q hk))
        ·by_cases nz:k<off*ei.size+n*ei.size
         ·rw[aO (by rw[ai];omega),aR (by omega),e1]at hk;have Pb:=wO hk;rw[GF,kX hT]at Pb;simp only[TI.tv,aP,aD]at Pb;obtain⟨v,GH,rfl⟩:=Pb;obtain⟨v',Qu,hv3⟩:=NP (k - off*ei.size) (by omega);rw[GH]at Qu;cases Qu;have:=nk (vs:=(Builtin.zeroCells z.cells n).toList) (C:=C) (o:=o'+off*ei.size) (j:=k - off*ei.size) (by omega) (by omega);rw[show o'+off*ei.size+(k - off*ei.size)=o'+k by omega,ah,hv3]at this;rw[this];exact .v _ (aA.1 hT.Ag _ (aT GH))
         ·rw[aR (by rw[ai];omega),ai,e1,e2,gW ei.size _ xs hs,bm]at hk;rw[il _ _ _ _ (.inr (by omega))];have:(n+off)*ei.size+(k - (off*ei.size+n*ei.size))=k:=by rw[bK];omega
          rw[this]at hk;exact hF (hr k q hk)
   ·cases hK
  ·cases eM
 ·cases hK
theorem M0{x:AV}{v:Value}{K:Fl->Nat->List AV->Option R}(h:dj W0 F0 U m L w μ F)(hx:fg w F μ m U x v)(hK:jF m x K=some r) :
  ∃fl sz ys,K fl sz ys=some r/\(∀y∈ys,y.cells.length=sz)/\(∀c∈dm ys,xl fl c)/\
   ((ys=[]/\∃c,v=.slice none 0 c)\/∃ad cap,∃f:Nat->Value,v=.slice (some ad) ys.length cap/\(∀j,j<(dm ys).length->w.cell? (ad.add j)=some (f j))/\∀j c,(dm ys)[j]?=some c->Rel w F c (f j)):=by
 unfold jF at hK;split at hK
 ·have:=(eg hx).1;subst this;exact⟨_,_,_,hK,by simp,by simp[dm],.inl ⟨rfl,0,rfl⟩⟩
 ·rename_i iA sz xs;obtain⟨_,hx⟩:=hx;cases hx with
  | xt=>exact⟨_,_,_,hK,by simp,by simp[dm],.inl ⟨rfl,0,rfl⟩⟩
  | sl _ _ _ ad cap f hF Po hs hf kS hr=>exact⟨_,_,_,hK,hs,hf,.inr ⟨ad,cap,f,rfl,kS,hr⟩⟩
 ·rename_i j off l;split at hK
  ·rename_i iA sz xs hm;obtain⟨_,O_,hx⟩:=hx;obtain⟨ad,cap,rfl,kM,hlen,hp⟩:=hx iA sz xs hm;obtain⟨hs,nc,iR⟩:=h.lQ j _ hm;have sS:=nt off l xs;generalize hn:lenOf xs.length off l=n at *;generalize hY:rowOf off l xs=ys at *;have hl:ys.length=n:=by rw[sS];simp;omega
   have tU : ∀x∈ys,x.cells.length=sz:=λx hx=>hs x (bg (aX (by rwa[sS]at hx)));have xE : ∀x∈dm ys,xl iA x:=by
    intro x hx;rw[sS]at hx;simp only[dm,aY]at hx;obtain⟨y,hy,hx⟩:=hx;exact nc x (by simp only[dm,aY];exact⟨y,bg (aX hy),hx⟩)
   rcases hp with⟨rfl,rfl⟩|⟨b,o,nn,ad,fG,rfl,hb,eI⟩
   ·have h0:n=0:=by omega
    subst h0;have:ys=[]:=aV.1 hl;subst this;exact⟨_,_,_,hK,by simp,by simp[dm],.inl ⟨rfl,0,rfl⟩⟩
   ·by_cases h0:n=0
    ·subst h0;have:ys=[]:=aV.1 hl;subst this;exact⟨_,_,_,hK,by simp,by simp[dm],.inr ⟨ad,cap,λ_=>undef,rfl,by simp[dm],by simp[dm]⟩⟩
    ·rcases eI with rfl|⟨rfl,Ei⟩
     ·omega
     ·rcases iR with⟨rfl,eh⟩|⟨b',o',C,f,eh,hh,hC,ni,hr⟩
      ·rw[fG]at eh;cases eh
      ·rw[fG]at eh;simp only[bh,bI]at eh;obtain⟨rfl,rfl,rfl⟩:=eh;refine⟨_,_,_,hK,tU,xE,.inr ⟨⟨b,o+off*sz,none⟩,cap,λj=>C.getD (o+(off*sz+j)) undef,by rw[hl],λj hj=>?_,λj c hj=>?_⟩⟩
       ·rw[(eJ sz _ tU).1,hl]at hj;rw[jS];have h1:(off+n)*sz<=xs.length*sz:=bf _ hlen;rw[bK]at h1;rw[show o+off*sz+j=o+(off*sz+j) by omega];exact cell_of hh (by omega)
       ·rw[sS]at hj;have hj:=fZ sz n _ j c hj;rw[gW sz off xs hs,bm]at hj;exact hr _ c hj
  ·cases hK
 ·cases hK
theorem KA(hG:et P G){c:Call}(ho:o.op=.call c)(hc:c.callee=.builtin .copy)(h:dj W0 F0 U m L w μ F)(hE:Env G S a L)(hK:fM G o.op S m id K=some r) :
  lK P o a w W0 F0 U id L K r:=by
 rw[ho]at hK;simp only[fM,hc]at hK;split at hK
 ·rename_i t u x y ht xC;have ha:c.args=#[x,y]:=by rw[<-xC]
  have tV:c.argTypes=#[t,u]:=by rw[<-ht]
  obtain⟨ti,mr,eM⟩:=cS hK;clear hK;obtain⟨d,hd,hk⟩:=(hG.ti t ti mr).uJ;split at eM
  ·rename_i e fT;rw[fT]at hk;cases d<;>simp[fR]at hk;subst hk;obtain⟨ei,sZ,hK⟩:=cS eM;clear eM;have hT:=hG.ti _ ei sZ;have hx:=hE.rel h x;have hy:=hE.rel h y;generalize hX:ev G S x=X at hK hx;split at hK
   ·rename_i j off l;obtain⟨bl,hj,eM⟩:=cS hK;clear hK;cases bl with
    | box _ _=>cases eM
    | row fl sz xs=>
     simp only at eM;obtain⟨Mh,hK⟩:=c_ eM;clear eM;have Mh:=aw Mh;subst Mh;obtain⟨iA,jL,ys,eM,sS,O8,TV⟩:=M0 h hy hK;clear hK;obtain⟨Co,hK⟩:=c_ eM;clear eM;rw[ae]at Co;have Kc:=aw Co.2;have WM:iA=fl:=by simpa using Co.1
     subst Kc;subst WM;obtain⟨_,hu,hp⟩:=hx;obtain⟨ad,cap,hv,kM,hlen,eI⟩:=hp _ _ xs hj;obtain⟨hs,nc,iR⟩:=h.lQ j _ hj;generalize hn:lenOf xs.length off l=n at *;generalize hkk:min n ys.length=k at *;have hkn:k<=n:=by omega
     have YB:k<=ys.length:=by omega
     have ex:∀w' v,(Builtin.copy_ #[t,u] o.type #[a.eval x,a.eval y]).run P w=.ok v w'->(execOp a.eval o).run P w=.ok (.value v) w':=by
      intro w' v hr;simp[execOp,ho,resolve,hc,ha,tV,invoke,builtin,hr]
     have YC:Nat.min ys.length n=k:=by show min ys.length n=k;omega
     have V3:=hT.kD w;by_cases FF:k=0
     ·subst FF;have e1:xs.take off++ys.take 0++xs.drop (0+off)=xs:=by simp
      rw[e1,Mem.vo hj]at hK;refine .calc h (v:=goInt 0) (ex w _ ?_) hK ⟨λ_=>rfl,.v _ rfl⟩
      rw[hv];rcases TV with⟨rfl,q,e2⟩|⟨Un,XI,f,e2,_,_⟩
      ·rw[e2];cases ad<;>simp[Builtin.copy_,bu hd,Builtin.lenOf,Builtin.firstCells,V3,storeCells]
      ·rw[e2];have Wg:(loadCells Un 0).run P w=.ok #[] w:=rfl;cases ad<;>simp[Builtin.copy_,bu hd,Builtin.lenOf,Builtin.firstCells,V3,storeCells,Wg,YC]
     ·rcases TV with⟨rfl,q,e2⟩|⟨Un,XI,f,e2,kS,nb⟩
      ·simp at YB;omega
      rcases eI with⟨rfl,rfl⟩|⟨b,o',nn,A1,fG,rfl,Cp,eI⟩
      ·omega
      rcases eI with rfl|⟨rfl,Ei⟩
      ·omega
      rcases iR with⟨_,eh⟩|⟨b',Gn,C,ff,eh,hh,Ck,ni,hr⟩
      ·rw[fG]at eh;cases eh
      rw[fG]at eh;simp only[bh,bI]at eh;obtain⟨rfl,rfl,rfl⟩:=eh;have fX:=h.own j _ b o' C.size hj fG;have hfy:=(eJ ei.size _ sS).1;have Sp:∀q,q<k*ei.size->q<(dm ys).length:=by
       intro q hq;have:=bf ei.size YB;omega
      obtain⟨cs,xF⟩:∃cs,cs=(List.range (k*ei.size)).map f:=⟨_,rfl⟩;have ic:cs.length=k*ei.size:=by rw[xF];simp
      have WJ:∀q,q<k*ei.size->cs[q]?=some (f q):=by intro q hq;rw[xF];simp[hq]
      have hld:(loadCells Un (k*ei.size)).run P w=.ok cs.toArray w:=by
       rw[<-ic];refine run_loadCells_list (P:=P) w Un cs (λq v hq=>?_);have eT:q<k*ei.size:=by have:=(aE.1 hq).1;omega
       rw[WJ q eT]at hq;cases hq;exact kS q (Sp q eT)
      have Wf:o'+off*ei.size+k*ei.size<=C.size:=by
       have h1:=bf ei.size hlen;have h2:=bf ei.size hkn;rw[bK]at h1;omega
      have JW:∀v∈cs,v.oneCell'=true:=by
       intro v hv;obtain⟨q,hq,rfl⟩:=List.getElem_of_mem hv;have eT:q<k*ei.size:=by omega
       have e3:=WJ q eT;rw[aN hq]at e3;have e3:=bQ e3;rw[lq,e3];have hg:=aN (Sp q eT);exact(nb q _ hg).na (O8 _ (aZ _)).1
      have rT:=run_storeCells_cells (P:=P) b (o'+off*ei.size) cs 0 w
       (by intro q hq;rw[bE,cell_of hh (by omega)];rfl)
       (by
        intro q hq;have:=ni.at (o'+off*ei.size+0+q) (by omega);simp[World.frozen?,hh];intro hle;simp only[bE]at this;omega)
       JW
      rw[bE]at rT;have hw:∀q,q≠b->(w.setCells b (o'+off*ei.size) cs).heap[q]?=w.heap[q]?:=λq hq=>fH b _ _ _ q hq;have wG:off<=xs.length:=by omega
      have GI:(ys.take k).length=k:=by simp;omega
      have WE : ∀x∈xs.take off++ys.take k++xs.drop (k+off),x.cells.length=ei.size:=by
       intro v hv;rcases aS.1 hv with hv|hv
       ·rcases aS.1 hv with hv|hv
        ·exact hs v (aX hv)
        ·exact sS v (aX hv)
       ·exact hs v (bg hv)
      have Sb:(xs.take off++ys.take k++xs.drop (k+off)).length=xs.length:=by simp;omega
      have hinv:=h.store (w':=w.setCells b (o'+off*ei.size) cs) hj fG (x':=.row iA ei.size (xs.take off++ys.take k++xs.drop (k+off))) ⟨rfl,Sb⟩
       (jl b _ _ _ h.below fX.1) (setCells_size b _ _ _) hw ?_
      ·refine⟨vi k,_,goInt k,w.setCells b (o'+off*ei.size) cs,.inl (ex _ _ ?_),hK,μ,F,?_⟩
       ·rw[hv,e2];simp[Builtin.copy_,bu hd,Builtin.lenOf,Builtin.firstCells,V3,YC,hld,rT]
       ·have h':=hinv.wider (U':=U8 U id) (λi hi=>.inl hi);exact{ h' with
         dT:=by
          rintro y u (hy|⟨rfl,rfl⟩)
          ·exact h'.dT y u hy
          ·exact⟨λ_=>rfl,.v _ rfl⟩ }
      ·refine⟨WE,?_,.inr ⟨b,o',lV C (o'+off*ei.size) cs,ff,by rw[eN];exact fG,iX b _ _ _ _ _ _ hh,by rw[eN,Sb];exact Ck,by rw[eN];exact ni,?_⟩⟩
       ·intro v hv;simp only[dm,aY]at hv;obtain⟨u,hu,hv⟩:=hv;rcases aS.1 hu with hu|hu
        ·rcases aS.1 hu with hu|hu
         ·exact nc v (by simp only[dm,aY];exact⟨u,aX hu,hv⟩)
         ·exact O8 v (by simp only[dm,aY];exact⟨u,aX hu,hv⟩)
        ·exact nc v (by simp only[dm,aY];exact⟨u,bg hu,hv⟩)
       ·intro z q hz;have hF:∀{v},Rel w F q v->Rel (w.setCells b (o'+off*ei.size) cs) F q v:=λhv=>hv.mono (λ_ hb=>hb) (λk hk=>hw k (λe=>fX.2.2 (e ▸ hk)));have e1:(dm (xs.take off)).length=off*ei.size:=by rw[(eJ ei.size _ (λx hx=>hs x (aX hx))).1,bd,Nat.min_eq_left wG]
        have e2:(dm (ys.take k)).length=k*ei.size:=by rw[(eJ ei.size _ (λx hx=>sS x (aX hx))).1,GI]
        rw[gS,gS]at hz;by_cases wH:z<off*ei.size
        ·rw[aO (by rw[ai];omega),aO (by omega)]at hz;rw[il _ _ _ _ (.inl (by omega))];exact hF (hr z q (fZ ei.size off xs z q hz))
        ·by_cases nz:z<off*ei.size+k*ei.size
         ·rw[aO (by rw[ai];omega),aR (by omega),e1]at hz;have hz:=fZ ei.size k ys _ q hz;have:=nk (vs:=cs) (C:=C) (o:=o'+off*ei.size) (j:=z - off*ei.size) (by omega) (by omega);rw[show o'+off*ei.size+(z - off*ei.size)=o'+z by omega,ah,WJ _ (by omega)]at this;rw[this];exact hF (nb _ q hz)
         ·rw[aR (by rw[ai];omega),ai,e1,e2,gW ei.size _ xs hs,bm]at hz;rw[il _ _ _ _ (.inr (by omega))];have:(k+off)*ei.size+(z - (off*ei.size+k*ei.size))=z:=by rw[bK];omega
          rw[this]at hz;exact hF (hr z q hz)
   ·cases hK
  ·cases eM
 ·cases hK
end
section
variable {R:Type} {P:Program} {G:fv} {o:Oper} {a:Act} {w w' : World} {W0:fh} {F0 U F:Nat->Prop} {id:Nat} {L L' : AV->Value->Prop} {K:AV->Mem->Option R} {r:R} {m:Mem} {μ:Mu} {S:List AV}
theorem AN(hG:et P G)(h:dj W0 F0 U m L w μ F)(hE:Env G S a L)(hid:∀j,j<8->¬ U (id+j))(hK:fM G o.op S m id K=some r):lK P o a w W0 F0 U id L K r:=by
 cases e_:o.op with
 | move x=>exact CO (.inl e_) h hE (by rw[e_]at hK;exact hK)
 | assign x=>exact CO (.inr e_) h hE (by rw[e_]at hK;exact hK)
 | pick c x y=>exact Kx e_ h hE hK
 | alloc t=>exact Hi hG e_ h hid hK
 | box t x=>exact MR e_ h hE hid hK
 | build t parts=>exact Hg hG e_ h hE hK
 | buildSlice t len parts=>exact wW hG e_ h hE hid hK
 | load t x=>exact Kz hG e_ h hE hK
 | store t x y=>exact G_ hG e_ h hE hK
 | nilCheck x=>exact AO e_ h hE hK
 | binOp op t x y yt=>exact Hh hG e_ h hE hK
 | unOp op t x=>exact Kw e_ h hE hK
 | convert s d x=>exact CQ hG e_ h hE hid hK
 | makeInterface t x=>exact sb hG e_ h hE hK
 | makeFunc f fst f_=>exact AP e_ h hE hK
 | makeSlice t l c=>exact xH hG e_ h hE hid hK
 | slice t x lo hi mx=>exact Ha hG e_ h hE hK
 | fieldAddr s x f=>exact xJ hG e_ h hE hK
 | field s x f=>exact Hc hG e_ h hE hK
 | indexAddr t x i=>exact xI hG e_ h hE hK
 | index t x i=>exact Hb hG e_ h hE hK
 | extract x i=>exact CP e_ h hE hK
 | call c=>
  cases hc:c.callee with
  | builtin b=>
   cases b with
   | len=>exact MQ hG e_ hc h hE hK
   | append=>exact Ep hG e_ hc h hE hid hK
   | clear=>exact Hd hG e_ hc h hE hK
   | copy=>exact KA hG e_ hc h hE hK
   | min=>exact MO e_ hc h hE hK
   | max=>exact MP e_ hc h hE hK
   | _=>rw[e_]at hK;simp[fM,hc]at hK
  | _=>rw[e_]at hK;simp[fM,hc]at hK
 | _=>rw[e_]at hK;simp[fM]at hK
end
structure Came(w w' : World)(F F' : Nat->Prop)(β:Mu):Prop where
 below:Below w.heap.size w w'
 sub:∀b,F b->F' b
 new:∀b,F' b->b<w'.heap.size/\(F b\/w.heap.size<=b)
 own:∀k b o n,β k=some (b,o,n)->w.heap.size<=b/\b<w'.heap.size/\¬ F' b
 inj:∀k k' b o n o' n',β k=some (b,o,n)->β k'=some (b,o',n')->k=k'
structure FW(B:fh)(w' : World)(F F' : Nat->Prop)(β:Mu):Prop where
 below:kt B w'
 sub:∀b,F b->F' b
 new:∀b,F' b->b<w'.heap.size/\(F b\/¬ B.N b)
 own:∀k b o n,β k=some (b,o,n)->¬ B.N b/\b<w'.heap.size/\¬ F' b
 inj:∀k k' b o n o' n',β k=some (b,o,n)->β k'=some (b,o',n')->k=k'
theorem FW.plain{r w w' : World}{hr:Below r.heap.size r w}{F F' : Nat->Prop}{β:Mu}(h:FW (fh.of r w hr) w' F F' β):Came w w' F F' β:=
 ⟨h.below.below,h.sub,λb hb=>⟨(h.new b hb).1,(h.new b hb).2.imp id (λhN=>Nat.le_of_not_lt hN)⟩,λk b o n hk=>⟨Nat.le_of_not_lt (h.own k b o n hk).1,(h.own k b o n hk).2⟩,h.inj⟩
def HP:AV->Nat
 | .fr _ _ _=>1
 | _=>0
def Gq:List AV->Nat
 | []=>0
 | x::r=>HP x+Gq r
def Jg:AV->Nat
 | .agg cs=>Gq cs
 | x=>HP x
def uB(w:World)(F:Nat->Prop)(β:Mu)(k:Nat)(x:AV)(v:Value):Prop:=
 match x with
 | .fr fl sz xs=>Holds w F β (λ_=>none) (λ_=>False) k (.row fl sz xs)/\∃ad cap,v=.slice ad xs.length cap/\xs.length<=cap/\
  ((ad=none/\cap=0)\/∃b o n A1,β k=some (b,o,n)/\ad=some A1/\A1.block=b/\(cap=0\/(A1=⟨b,o,none⟩/\o+cap*sz<=n)))
 | x=>Rel w F x v
def HA(w:World)(F:Nat->Prop)(β:Mu):Nat->List AV->(Nat->Value)->Prop
 | _,[],_=>True
 | k,x::r,u=>uB w F β k x (u 0)/\HA w F β (k+HP x) r (λj=>u (j+1))
def C8(w:World)(F:Nat->Prop)(β:Mu)(k:Nat)(x:AV)(v:Value):Prop:=
 match x with
 | .agg cs=>∃vs:Array Value,v=.agg vs/\vs.size=cs.length/\HA w F β k cs (λj=>vs.getD j undef)
 | x=>uB w F β k x v
def zt(w:World)(F:Nat->Prop)(β:Mu):Nat->List AV->(Nat->Value)->Prop
 | _,[],_=>True
 | k,x::r,u=>C8 w F β k x (u 0)/\zt w F β (k+Jg x) r (λj=>u (j+1))
def Dh(w:World)(F:Nat->Prop)(β:Mu)(x:AV)(v:Value):Prop:=
 match x with
 | .eC xs=>∃vs:Array Value,v=.tuple vs/\vs.size=xs.length/\zt w F β 0 xs (λj=>vs.getD j undef)
 | x=>C8 w F β 0 x v
def PY(P:Program)(f:FuncId)(vals:Array Value)(w:World)(R:Ending->World->Prop):Prop:=
 ((callFunc f vals).run P w=.ok (.enter f vals) w/\Calls P f vals w R)\/∃v w',(callFunc f vals).run P w=.ok (.value v) w'/\R (.returned v) w'
def l9(gi:List AV):Bool:=match gi.getLast? with
 | some (.eC _)=>true
 | _=>false
def P1(P:Program)(R0:World)(f:FuncId)(args bs:List AV)(y:AV)(os:List AV):Prop:=
 ∀(B:fh) (F:Nat->Prop) (vals:Array Value) (μ:Mu),B.root=R0->vals.size=args.length->
  dj B F (λi=>i<8*bs.length) (Mem.iu bs) (λc v=>∃j,args[j]?=some c/\v=vals.getD j undef) B.w μ F->
  (∀i,i<nv bs->∃n,μ i=some (B.bk i,0,n))->
  PY P f vals B.w λe w'=>match e with
   | .returned v=>∃F' fC,dj B F (λi=>i<os.length) (Mem.iu os) (λc u=>c=y/\u=v) w' fC F'/\∀i,i<nv bs->∃n,fC i=some (B.bk i,0,n)
   | _=>False
def P0(P:Program)(R0:World)(f:FuncId)(gi:List AV)(x:AV):Prop:=
 ∀(w:World) (F:Nat->Prop) (vals:Array Value),Below R0.heap.size R0 w->(∀b,F b->b<w.heap.size)->(∀b,b<R0.heap.size->F b)->vals.size=gi.length->(∀j c,gi[j]?=some c->Rel w F c (vals.getD j undef))->
  PY P f vals w λe w'=>match e with
   | .returned v=>∃F' β,Came w w' F F' β/\Dh w' F' β x v
   | _=>False
def P2(P:Program)(R0:World)(f:FuncId)(args bs:List AV)(y b:AV):Prop:=
 ∀(B:fh) (F:Nat->Prop) (vals:Array Value) (μ:Mu),B.root=R0->vals.size=args.length->
  dj B F (λi=>i<8*bs.length) (Mem.iu bs) (λc v=>∃j,args[j]?=some c/\v=vals.getD j undef) B.w μ F->
  PY P f vals B.w λe w'=>match e with
   | .returned v=>dj B F (λi=>i<8*bs.length) (Mem.iu [b]) (λc u=>c=y/\u=v) w' μ F
   | _=>False
def jZ(P:Program)(R0:World)(f:FuncId)(gi:List AV)(x:AV):Prop:=
 (l9 gi=false->P0 P R0 f gi x)/\(∀args bs y os,gi=args++[.eC bs]->x=.eC [y,.eC os]->P1 P R0 f args bs y os)/\
  ∀args fl sz xs y iA jL ys,gi=args++[.eC [.fr fl sz xs]]->x=.eC [y,.fr iA jL ys]->ys.length=xs.length/\P2 P R0 f args [.fr fl sz xs] y (.fr iA jL ys)
def mX(G:fv)(R0:World):Prop:=∀g cs,G.GX g=some cs->Rel R0 (λb=>b<R0.heap.size) (.rd cs) (.pointer (some ⟨g,0,none⟩))
class eE (P:Program) where
 Q:World->Prop
 opened:∀w,Q w->w.ShapedOpen P
 below:∀w w',Q w->Below w.heap.size w w'->Q w'
def xh(P:Program)[eE P](f:FuncId)(gi:List AV)(x:AV):Prop:=∀R0:World,eE.Q P R0->jZ P R0 f gi x
theorem Below.shaped{P:Program}{w w' : World}(h:w.ShapedOpen P)(hB:Below w.heap.size w w'):w'.ShapedOpen P:=
 h.keptBut (hB.frame (λ_=>False)) (λ_ h=>h.elim)
def Uk(U:Nat->Prop)(id c:Nat):Nat->Prop:=λi=>U i\/(id<=i/\i<id+c)
def Lh(β:Mu)(N c:Nat)(m:Mem)(μ:Mu):Prop:=∀i y b o n,m i=some y->μ i=some (b,o,n)->b<N\/∃k o' n',k<c/\β k=some (b,o',n')
section
variable {R:Type} {P:Program} {G:fv} {o:Oper} {a:Act} {w w' : World} {W0:fh} {F0 U F:Nat->Prop} {id:Nat} {L L' : AV->Value->Prop} {K:AV->Mem->Option R} {r:R} {m:Mem} {μ β:Mu} {S:List AV}
theorem dj.Tw(h:dj W0 F0 U m L w μ F){x:AV}{v:Value}(hx:fg w F μ m U x v):dj W0 F0 U m (λa b=>L a b\/(a=x/\b=v)) w μ F:=
 { h with dT:=by rintro y u (hy|⟨rfl,rfl⟩);exact h.dT y u hy;exact hx }
theorem Fu{N c c' : Nat}{m' : Mem}{x y:AV}{v:Value}(e:um id c m x=(y,c',m'))(hc:c'<=8)(hid:∀j,j<8->¬ U (id+j))(hN:W0.w.heap.size<=N)
  (h:dj W0 F0 (Uk U id c) m L w μ F) (hd:Lh β N c m μ) (fX:∀k b o n,β k=some (b,o,n)->N<=b/\b<w.heap.size/\¬ F b)
  (sW:∀k k' b o n o' n',β k=some (b,o,n)->β k'=some (b,o',n')->k=k') (hr:uB w F β c x v) :
  c'=c+HP x/\∃fC,dj W0 F0 (Uk U id c') m' (λa b=>L a b\/(a=y/\b=v)) w fC F/\Lh β N c' m' fC/\((∃i o l,y=.own i o l)\/Rel w F y v):=by
 have same:(y,c',m')=(x,c,m)->HP x=0->Rel w F x v->c'=c+HP x/\∃fC,dj W0 F0 (Uk U id c') m' (λa b=>L a b\/(a=y/\b=v)) w fC F/\Lh β N c' m' fC/\((∃i o l,y=.own i o l)\/Rel w F y v):=by
  intro e h0 hx;cases e;exact⟨by omega,μ,h.Tw (ej (ef (fm hx))),hd,.inr hx⟩
 cases x with
 | fr fl sz xs=>
  simp only[um]at e;cases e;obtain⟨⟨r1,r2,r3⟩,ad,cap,rfl,kM,eI⟩:=hr;have V9:¬ (Uk U id c) (id+c):=by
   rintro(hu|hu)
   ·exact hid c (by omega) hu
   ·omega
  refine⟨rfl,_,(h.zr (q:=β c) V9 h.below (aH _) (λ_ _ _=>rfl) ?_ ?_ (L':=λa b=>L a b\/(a=.own (id+c) 0 none/\b=.slice ad xs.length cap)) ?_).wider ?_,?_,.inl ⟨_,_,_,rfl⟩⟩
  ·intro b o n hq;obtain⟨h1,h2,h3⟩:=fX c b o n hq;refine⟨λhN=>by have:=W0.lt _ hN;omega,h2,h3,λi y o' n' hy hb=>?_⟩;rcases hd i y b o' n' hy hb with eT|⟨k,Gn,RD,hk,jP⟩
   ·omega
   ·have:=sW c k b o n Gn RD hq jP;omega
  ·refine⟨r1,r2,?_⟩;rcases r3 with⟨e1,e2⟩|⟨b,o,C,f,e1,e2⟩
   ·exact .inl ⟨e1,by simp[e2]⟩
   ·exact .inr ⟨b,o,C,f,by simp[e1],e2⟩
  ·rintro y v (hy|⟨rfl,rfl⟩)
   ·exact .inl hy
   ·refine .inr ⟨λ_=>rfl,.inr rfl,λiA jL oN hx=>?_⟩;rw[Mem.dQ]at hx;cases hx;refine⟨ad,cap,by simp[lenOf],by simpa[lenOf]using kM,by simp[lenOf],?_⟩;rcases eI with eI|⟨b,o,n,A1,e1,e2,e3,e4⟩
    ·exact .inl eI
    ·refine .inr ⟨b,o,n,A1,by simp[e1],e2,e3,?_⟩;simpa using e4
  ·rintro i ((hi|hi)|rfl)
   ·exact .inl hi
   ·exact .inr ⟨hi.1,by omega⟩
   ·exact .inr ⟨by omega,by omega⟩
  ·intro i y b o n hy hb;by_cases e:i=id+c
   ·subst e;simp only[ck]at hb;exact .inr ⟨c,o,n,by omega,hb⟩
   ·rw[Mem.dy _ _ e]at hy;simp only[e,if_false]at hb;rcases hd i y b o n hy hb with eT|⟨k,o',n',hk,jP⟩
    ·exact .inl eT
    ·exact .inr ⟨k,o',n',by omega,jP⟩
 | _=>exact same e.symm rfl hr
theorem yi(h:dj W0 F0 U m L w μ F){y:AV}{v:Value}(hy:L y v)(he:(∃i o l,y=.own i o l)\/Rel w F y v):fL w F μ m U y v:=by
 rcases he with⟨i,o,l,rfl⟩|he
 ·exact h.dT _ _ hy
 ·exact fm he
theorem Fv{N:Nat}(hid:∀j,j<8->¬ U (id+j))(hN:W0.w.heap.size<=N)(fX:∀k b o n,β k=some (b,o,n)->N<=b/\b<w.heap.size/\¬ F b)
  (sW:∀k k' b o n o' n',β k=some (b,o,n)->β k'=some (b,o',n')->k=k'):∀(xs ys:List AV) (c c' : Nat) (m m' : Mem) (μ:Mu) (L:AV->Value->Prop) (u:Nat->Value),
  qJ id c m xs=(ys,c',m')->c'<=8->dj W0 F0 (Uk U id c) m L w μ F->Lh β N c m μ->HA w F β c xs u->
  c'=c+Gq xs/\ys.length=xs.length/\∃fC,dj W0 F0 (Uk U id c') m' (λa b=>L a b\/∃j,ys[j]?=some a/\b=u j) w fC F/\Lh β N c' m' fC/\∀j y,ys[j]?=some y->(∃i o l,y=.own i o l)\/Rel w F y (u j)
 | [],ys,c,c',m,m',μ,L,u,e,hc,h,hd,hr=>by
  simp only[qJ]at e;cases e;exact⟨rfl,rfl,μ,{ h with dT:=by rintro y v (hy|⟨j,hj,_⟩);exact h.dT y v hy;simp at hj },hd,by simp⟩
 | x::xs,ys,c,c',m,m',μ,L,u,e,hc,h,hd,hr=>by
  simp only[qJ]at e;generalize h1:um id c m x=q1 at e;obtain⟨y,c1,m1⟩:=q1;simp only at e;generalize h2:qJ id c1 m1 xs=q2 at e;obtain⟨s,c2,m2⟩:=q2;cases e;have mono:∀(xs:List AV) (c:Nat) (m:Mem),c<=(qJ id c m xs).2.1:=by
   intro xs;induction xs with
   | nil=>intro c m;exact aH _
   | cons x xs ih=>
    intro c m;simp only[qJ];refine cr ?_ (ih _ _);cases x<;>simp[um]
  have hle:=mono xs c1 m1;rw[h2]at hle;obtain⟨e1,K4,i1,d1,XD⟩:=Fu h1 (cr hle hc) hid hN h hd fX sW hr.1;subst e1;obtain⟨e2,l2,Uo,i2,d2,XC⟩:=Fv hid hN fX sW xs s _ c2 m1 m2 K4 _ (λj=>u (j+1)) h2 hc i1 d1 hr.2;refine⟨by simp only[Gq];omega,by simp[l2],Uo,{ i2 with dT:=?_ },d2,?_⟩
  ·rintro z v (hz|⟨j,hj,rfl⟩)
   ·exact i2.dT z v (.inl (.inl hz))
   ·cases j with
    | zero=>simp at hj;subst hj;exact i2.dT _ _ (.inl (.inr ⟨rfl,rfl⟩))
    | succ j=>exact i2.dT _ _ (.inr ⟨j,by simpa using hj,rfl⟩)
  ·intro j z hj;cases j with
   | zero=>simp at hj;subst hj;exact XD
   | succ j=>exact XC j z (by simpa using hj)
theorem Fw{N c c' : Nat}{m' : Mem}{x y:AV}{v:Value}(e:qK id c m x=(y,c',m'))(hc:c'<=8)(hid:∀j,j<8->¬ U (id+j))(hN:W0.w.heap.size<=N)
  (h:dj W0 F0 (Uk U id c) m L w μ F) (hd:Lh β N c m μ) (fX:∀k b o n,β k=some (b,o,n)->N<=b/\b<w.heap.size/\¬ F b)
  (sW:∀k k' b o n o' n',β k=some (b,o,n)->β k'=some (b,o',n')->k=k') (hr:C8 w F β c x v) :
  c'=c+Jg x/\∃fC,dj W0 F0 (Uk U id c') m' (λa b=>L a b\/(a=y/\b=v)) w fC F/\Lh β N c' m' fC/\((∃cs,y=.agg cs)\/(∃i o l,y=.own i o l)\/Rel w F y v):=by
 have other:Jg x=HP x->um id c m x=(y,c',m')->uB w F β c x v->c'=c+Jg x/\∃fC,dj W0 F0 (Uk U id c') m' (λa b=>L a b\/(a=y/\b=v)) w fC F/\Lh β N c' m' fC/\((∃cs,y=.agg cs)\/(∃i o l,y=.own i o l)\/Rel w F y v):=by
  intro h0 e hr;obtain⟨e1,fC,i1,d1,el⟩:=Fu e hc hid hN h hd fX sW hr;exact⟨by omega,fC,i1,d1,.inr el⟩
 cases x with
 | agg cs=>
  simp only[qK]at e;generalize h1:qJ id c m cs=q1 at e;obtain⟨s,c1,m1⟩:=q1;cases e;obtain⟨vs,rfl,hl,hr⟩:=hr;obtain⟨e1,l1,fC,i1,d1,el⟩:=Fv hid hN fX sW cs s c _ m _ μ L _ h1 hc h hd hr;refine⟨e1,fC,{ i1 with dT:=?_ },d1,.inl ⟨s,rfl⟩⟩;rintro z v (hz|⟨rfl,rfl⟩)
  ·exact i1.dT z v (.inl hz)
  ·exact⟨vs,rfl,hl.trans l1.symm,λj q hj=>yi i1 (.inr ⟨j,hj,rfl⟩) (el j q hj)⟩
 | _=>exact other rfl e hr
theorem Gb(h:dj W0 F0 U m L w μ F){y:AV}{v:Value}(hy:L y v)(he:(∃cs,y=.agg cs)\/(∃i o l,y=.own i o l)\/Rel w F y v):mH w F μ m U y v:=by
 rcases he with⟨cs,rfl⟩|he
 ·exact h.dT _ _ hy
 ·exact ef (yi h hy he)
theorem Ca{N:Nat}(hid:∀j,j<8->¬ U (id+j))(hN:W0.w.heap.size<=N)(fX:∀k b o n,β k=some (b,o,n)->N<=b/\b<w.heap.size/\¬ F b)
  (sW:∀k k' b o n o' n',β k=some (b,o,n)->β k'=some (b,o',n')->k=k'):∀(xs ys:List AV) (c c' : Nat) (m m' : Mem) (μ:Mu) (L:AV->Value->Prop) (u:Nat->Value),
  ny id c m xs=(ys,c',m')->c'<=8->dj W0 F0 (Uk U id c) m L w μ F->Lh β N c m μ->zt w F β c xs u->
  ys.length=xs.length/\∃fC,dj W0 F0 (Uk U id c') m' (λa b=>L a b\/∃j,ys[j]?=some a/\b=u j) w fC F/\∀j y,ys[j]?=some y->(∃cs,y=.agg cs)\/(∃i o l,y=.own i o l)\/Rel w F y (u j)
 | [],ys,c,c',m,m',μ,L,u,e,hc,h,hd,hr=>by
  simp only[ny]at e;cases e;exact⟨rfl,μ,{ h with dT:=by rintro y v (hy|⟨j,hj,_⟩);exact h.dT y v hy;simp at hj },by simp⟩
 | x::xs,ys,c,c',m,m',μ,L,u,e,hc,h,hd,hr=>by
  simp only[ny]at e;generalize h1:qK id c m x=q1 at e;obtain⟨y,c1,m1⟩:=q1;simp only at e;generalize h2:ny id c1 m1 xs=q2 at e;obtain⟨s,c2,m2⟩:=q2;cases e;have RE:∀(xs:List AV) (c:Nat) (m:Mem),c<=(qJ id c m xs).2.1:=by
   intro xs;induction xs with
   | nil=>intro c m;exact aH _
   | cons x xs ih=>
    intro c m;simp only[qJ];refine cr ?_ (ih _ _);cases x<;>simp[um]
  have mono:∀(xs:List AV) (c:Nat) (m:Mem),c<=(ny id c m xs).2.1:=by
   intro xs;induction xs with
   | nil=>intro c m;exact aH _
   | cons x xs ih=>
    intro c m;simp only[ny];refine cr ?_ (ih _ _);cases x<;>simp[qK,um];exact RE _ _ _
  have hle:=mono xs c1 m1;rw[h2]at hle;obtain⟨e1,K4,i1,d1,XD⟩:=Fw h1 (cr hle hc) hid hN h hd fX sW hr.1;subst e1;obtain⟨l2,Uo,i2,XC⟩:=Ca hid hN fX sW xs s _ c2 m1 m2 K4 _ (λj=>u (j+1)) h2 hc i1 d1 hr.2;refine⟨by simp[l2],Uo,{ i2 with dT:=?_ },?_⟩
  ·rintro z v (hz|⟨j,hj,rfl⟩)
   ·exact i2.dT z v (.inl (.inl hz))
   ·cases j with
    | zero=>simp at hj;subst hj;exact i2.dT _ _ (.inl (.inr ⟨rfl,rfl⟩))
    | succ j=>exact i2.dT _ _ (.inr ⟨j,by simpa using hj,rfl⟩)
  ·intro j z hj;cases j with
   | zero=>simp at hj;subst hj;exact XD
   | succ j=>exact XC j z (by simpa using hj)
theorem JL{c:Nat}{m' : Mem}{x y:AV}{v:Value}(e:imp id m x=(y,c,m'))(hc:c<=8)(hid:∀j,j<8->¬ U (id+j))
  (h:dj W0 F0 U m L w μ F) {N:Nat} (hN:W0.w.heap.size<=N) (hd:∀i y b o n,m i=some y->μ i=some (b,o,n)->b<N) (fX:∀k b o n,β k=some (b,o,n)->N<=b/\b<w.heap.size/\¬ F b)
  (sW:∀k k' b o n o' n',β k=some (b,o,n)->β k'=some (b,o',n')->k=k') (hr:Dh w F β x v) :
  ∃fC,dj W0 F0 (U8 U id) m' (λa b=>L a b\/(a=y/\b=v)) w fC F:=by
 have h0:dj W0 F0 (Uk U id 0) m L w μ F:=h.wider (λi hi=>.inl hi);have FG:Lh β N 0 m μ:=λi y b o n hy hb=>.inl (hd i y b o n hy hb);have up:∀i,Uk U id c i->U8 U id i:=by
  rintro i (hi|hi)
  ·exact .inl hi
  ·exact .inr ⟨hi.1,by omega⟩
 have other:qK id 0 m x=(y,c,m')->C8 w F β 0 x v->∃fC,dj W0 F0 (U8 U id) m' (λa b=>L a b\/(a=y/\b=v)) w fC F:=by
  intro e hr;obtain⟨_,fC,i1,_⟩:=Fw e hc hid hN h0 FG fX sW hr;exact⟨fC,i1.wider up⟩
 cases x with
 | eC xs=>
  simp only[imp]at e;generalize h1:ny id 0 m xs=q1 at e;obtain⟨s,c1,m1⟩:=q1;cases e;obtain⟨vs,rfl,hl,hr⟩:=hr;obtain⟨l1,fC,i1,el⟩:=Ca hid hN fX sW xs s 0 _ m _ μ L _ h1 hc h0 FG hr;refine⟨fC,dj.wider (h:={ i1 with dT:=?_ }) up⟩;rintro z v (hz|⟨rfl,rfl⟩)
  ·exact i1.dT z v (.inl hz)
  ·exact⟨vs,rfl,hl.trans l1.symm,λj q hj=>Gb i1 (.inr ⟨j,hj,rfl⟩) (el j q hj)⟩
 | _=>exact other e hr
end
def Good(m:Mem)(ord:List Nat):Prop:=ord.Nodup/\∀i∈ord,m i≠none
theorem pn{m:Mem}{ord:List Nat}{id:Nat}{b:sv}(h:Good m ord)(hc:ord.contains id=false)(hm:m id=some b):Good m (ord++[id]):=by
 have hn:id ∉ ord:=by simpa using hc
 refine⟨?_,?_⟩
 ·rw[List.nodup_append];refine⟨h.1,by simp,?_⟩;intro a ha b hb;simp at hb;subst hb;exact λe=>hn (e ▸ ha)
 ·intro i hi;simp at hi;rcases hi with hi|rfl
  ·exact h.2 i hi
  ·simp[hm]
theorem j6{m:Mem}{f:List Nat->AV->List Nat}(hf:∀ord x,Good m ord->Good m (f ord x)):∀(cs:List AV) (ord:List Nat),Good m ord->Good m (cs.foldl f ord)
 | [],_,h=>h
 | c::cs,ord,h=>j6 hf cs _ (hf ord c h)
theorem nJ{m:Mem}:∀(n:Nat) (ord:List Nat) (x:AV),Good m ord->Good m (visit n m ord x)
 | 0,_,_,h=>h
 | n+1,ord,x,h=>by
  have ih:=λord x=>nJ (m:=m) n ord x;have one:∀id,Good m (bif ord.contains id then ord else match m id with | .some _=>ord++[id] | .none=>ord):=by
   intro id;cases hc:ord.contains id with
   | true=>exact h
   | false=>
    simp only[cond_false];split
    ·rename_i b hb;exact pn h hc hb
    ·exact h
  unfold visit;split
  ·exact one _
  ·exact one _
  ·rename_i id off;cases hc:ord.contains id with
   | true=>exact h
   | false=>
    simp only[cond_false];split
    ·rename_i cs hb;exact j6 ih _ _ (pn h hc hb)
    ·rename_i hb;exact pn h hc hb
    ·exact h
  ·rename_i id;cases hc:ord.contains id with
   | true=>exact h
   | false=>
    simp only[cond_false];split
    ·rename_i cs hb;exact j6 ih _ _ (pn h hc hb)
    ·rename_i hb;exact pn h hc hb
    ·exact h
  ·exact j6 ih _ _ h
  ·exact j6 ih _ _ h
  ·exact j6 ih _ _ h
  ·exact h
theorem yF{m:Mem}{tm:List AV}:∀(keep:List Tmp) (ord:List Nat),Good m ord->Good m (keep.foldl (λord t=>visit 6 m ord (tm.getD t .undef)) ord)
 | [],_,h=>h
 | t::keep,ord,h=>yF keep _ (nJ 6 ord _ h)
theorem iJ{ord:List Nat}{id j:Nat}(h:jy ord id=some j):ord[j]?=some id:=by
 unfold jy at h;rw[List.findIdx?_eq_some_iff_getElem]at h;obtain⟨hj,he,_⟩:=h;rw[aN hj,aw he]
section
variable {R:Type} {P:Program} {G:fv} {a:Act} {w w' : World} {W0:fh} {F0 U F F' : Nat->Prop} {id:Nat} {L L' : AV->Value->Prop} {r:R} {m m' : Mem} {μ fC β:Mu} {S:List AV}
theorem kY{v:Value}{μ:Mu}{m:Mem}{U:Nat->Prop}:jG w F μ m U .undef v:=⟨λh=>by simp[AV.pG]at h,.undef _⟩
theorem zS{ord:List Nat}:∀(n:Nat) (x:AV) (v:Value),Rel w F x v->Rel w F (xj n ord x) v
 | 0,_,v,_=>.undef v
 | n+1,x,v,h=>by
  cases h with
  | v _ h=>exact .v _ h
  | undef _=>exact .undef _
  | qO=>exact .qO
  | qc t x=>exact .qc _ _
  | xt fl sz=>exact .xt fl sz
  | sl fl sz xs ad cap u h1 h2 h3 h4 h5 h6 h7=>exact .sl fl sz xs ad cap u h1 h2 h3 h4 h5 h6 h7
  | rd cs ad u h1 h2 h3=>exact .rd cs ad u h1 h2 h3
  | agg cs vs hl hr=>
   refine .agg _ vs (by simp[hl]) (λj c hj=>?_);simp only[aP,aD]at hj;obtain⟨y,hy,rfl⟩:=hj;exact zS n y _ (hr j y hy)
  | fn f cs vs v hv hl hr=>
   refine .fn f _ vs _ hv (by simp[hl]) (λj c hj=>?_);simp only[aP,aD]at hj;obtain⟨y,hy,rfl⟩:=hj;exact zS n y _ (hr j y hy)
structure P4(ord:List Nat)(m m' : Mem)(μ fC : Mu)(U' : Nat->Prop):Prop where
 mem:∀j id,ord[j]?=some id->m' j=none\/∃b,m id=some b/\m' j=some (kZ ord (some b))
 mu:∀j id,ord[j]?=some id->fC j=μ id
 used:∀j id,ord[j]?=some id->U' j
theorem Nn{ord:List Nat}{U' : Nat->Prop}(hc:P4 ord m m' μ fC U')(n:Nat){x:AV}{v:Value}(h:jG w F μ m U x v):jG w F fC m' U' (xj n ord x) v:=by
 cases n with
 | zero=>exact kY
 | succ n=>
  obtain⟨h1,h⟩:=h;have gd:Rel w F x v->jG w F fC m' U' (xj (n+1) ord x) v:=λh=>kc (zS (n+1) x v h);cases x with
  | own id off l=>
   simp only[xj];split
   ·rename_i j hj;have hj:=iJ hj;refine⟨λ_=>h1 rfl,hc.used j id hj,λfl sz xs hx=>?_⟩;rcases hc.mem j id hj with hm|⟨b,hb,hm⟩
    ·rw[hm]at hx;cases hx
    ·rw[hm]at hx;cases b with
     | box tb cs=>cases hx
     | row iA jL oN=>
      cases hx;rw[hc.mu j id hj];exact h.2 _ _ _ hb
   ·exact kY
  | s_ id i off=>
   simp only[xj];split
   ·rename_i j hj;have hj:=iJ hj;refine⟨λ_=>h1 rfl,hc.used j id hj,λfl sz xs hx=>?_⟩;rcases hc.mem j id hj with hm|⟨b,hb,hm⟩
    ·rw[hm]at hx;cases hx
    ·rw[hm]at hx;cases b with
     | box tb cs=>cases hx
     | row iA jL oN=>
      cases hx;rw[hc.mu j id hj];exact h.2 _ _ _ hb
   ·exact kY
  | ptr id off=>
   simp only[xj];split
   ·rename_i j hj;have hj:=iJ hj;refine⟨λ_=>h1 rfl,hc.used j id hj,λtb cs hx=>?_⟩;rcases hc.mem j id hj with hm|⟨b,hb,hm⟩
    ·rw[hm]at hx;cases hx
    ·rw[hm]at hx;cases b with
     | box xq kN=>rw[hc.mu j id hj];cases hx;exact h.2 _ _ hb
     | row iA jL oN=>cases hx
   ·exact kY
  | bs id=>
   simp only[xj];split
   ·rename_i j hj;have hj:=iJ hj;refine⟨λ_=>h1 rfl,hc.used j id hj,λtb cs hx=>?_⟩;rcases hc.mem j id hj with hm|⟨b,hb,hm⟩
    ·rw[hm]at hx;cases hx
    ·rw[hm]at hx;cases b with
     | box xq kN=>rw[hc.mu j id hj];cases hx;rw[aj];exact h.2 _ _ hb
     | row iA jL oN=>cases hx
   ·exact kY
  | fr _ _ _=>exact h.elim
  | v _=>exact gd h
  | sl _ _ _=>exact gd h
  | rd _=>exact gd h
  | agg _=>exact gd h
  | eC _=>exact gd h
  | fn _ _=>exact gd h
  | err _=>exact gd h
  | undef=>exact gd h
theorem BC{ord:List Nat}{U' : Nat->Prop}(hc:P4 ord m m' μ fC U')(n:Nat){x:AV}{v:Value}(h:fL w F μ m U x v):fL w F fC m' U' (xj n ord x) v:=by
 cases n with
 | zero=>exact ga kY
 | succ n=>
  cases x
  case fn f cs=>
   obtain⟨vs,e,hl,hr⟩:=h;refine⟨vs,e,by simp[hl],λj c hj=>?_⟩;simp only[aP,aD]at hj;obtain⟨y,hy,rfl⟩:=hj;exact Nn hc n (hr j y hy)
  all_goals exact ga (Nn (U:=U) hc (n+1) h)
theorem No{ord:List Nat}{U' : Nat->Prop}(hc:P4 ord m m' μ fC U')(n:Nat){x:AV}{v:Value}(h:mH w F μ m U x v):mH w F fC m' U' (xj n ord x) v:=by
 cases n with
 | zero=>exact ef (ga kY)
 | succ n=>
  cases x
  case agg cs=>
   obtain⟨vs,e,hl,hr⟩:=h;refine⟨vs,e,by simp[hl],λj c hj=>?_⟩;simp only[aP,aD]at hj;obtain⟨y,hy,rfl⟩:=hj;exact BC hc n (hr j y hy)
  all_goals exact ef (BC (U:=U) hc (n+1) h)
theorem IS{ord:List Nat}{U' : Nat->Prop}(hc:P4 ord m m' μ fC U')(n:Nat){x:AV}{v:Value}(h:fg w F μ m U x v):fg w F fC m' U' (xj n ord x) v:=by
 cases n with
 | zero=>exact ej (ef (ga kY))
 | succ n=>
  cases x
  case eC cs=>
   obtain⟨vs,e,hl,hr⟩:=h;refine⟨vs,e,by simp[hl],λj c hj=>?_⟩;simp only[aP,aD]at hj;obtain⟨y,hy,rfl⟩:=hj;exact No hc n (hr j y hy)
  all_goals exact ej (No (U:=U) hc (n+1) h)
end
def K1{R:Type}(P:Program)(o:Oper)(a:Act)(w:World)(W0:fh)(F0 U:Nat->Prop)(id:Nat)(L:AV->Value->Prop)(K:AV->Mem->Option R)(r:R):Prop:=
 ∀(next:Act->World->Prop) (Q:Exit->Act->World->Prop),
  (∀x m' v w',K x m'=some r->Inv W0 F0 (U8 U id) m' (λy u=>L y u\/(y=x/\u=v)) w'->next (a.put o.dst v) w')->o.wp P a w next Q
section
variable {R:Type} {P:Program} {G:fv} {o:Oper} {a:Act} {w w' : World} {W0:fh} {F0 U F F' : Nat->Prop} {id:Nat} {L L' : AV->Value->Prop} {K:AV->Mem->Option R} {r:R} {m:Mem} {μ β:Mu} {S:List AV}
theorem lK.TH(h:lK P o a w W0 F0 U id L K r):K1 P o a w W0 F0 U id L K r:=by
 obtain⟨x,m',v,w',hr,hK,hI⟩:=h;intro next Q hn
 unfold Oper.wp;rcases hr with hr|⟨hr,rfl⟩
 ·rw[hr];exact hn x m' v w' hK hI
 ·rw[hr];exact hn x m' _ w' hK hI
theorem dj.more(h:dj W0 F0 U m L w μ F)(hs:∀b,F b->F' b)(hn:∀b,F' b->b<w.heap.size/\(F b\/(¬ W0.N b/\∀i y o n,m i=some y->μ i≠some (b,o,n)))):dj W0 F0 U m L w μ F' where
 below:=h.below
 dW:=λb hb=>⟨(hn b hb).1,by
  rcases(hn b hb).2 with h1|h1
  ·exact(h.dW b h1).2
  ·exact .inr h1.1⟩
 sub:=λb hb=>hs b (h.sub b hb)
 gl:=λb hb=>hs b (h.gl b hb)
 used:=h.used
 lQ:=λi x hx=>(h.lQ i x hx).mono hs (λ_ _=>rfl) (λ_ hi=>hi) (λi _=>⟨.refl _,λ_=>rfl⟩) rfl (λ_ _ _ _=>rfl)
 own:=λi x b o n hx hb=>⟨(h.own i x b o n hx hb).1,(h.own i x b o n hx hb).2.1,λhF=>by
  rcases(hn b hF).2 with h1|h1
  ·exact(h.own i x b o n hx hb).2.2 h1
  ·exact h1.2 i x o n hx hb⟩
 inj:=h.inj
 dT:=λx v hx=>(h.dT x v hx).mono hs (λ_ _=>rfl) (λ_ hi=>hi) (λi _=>⟨.refl _,λ_=>rfl⟩)
theorem vI{k:Nat}{x:AV}{v:Value}(hc:AW x=true)(h:uB w F' β k x v):uB w F β k x v:=by
 cases x with
 | v y=>cases h with | v _ h=>exact .v _ h
 | err b=>cases h with | qO=>exact .qO | qc t x=>exact .qc t x
 | fr fl sz xs=>
  have hf:fl.b=true:=hc;obtain⟨⟨h1,h2,h3⟩,h4⟩:=h;refine⟨⟨h1,h2,?_⟩,h4⟩;rcases h3 with h3|⟨b,o,C,f,e1,e2,e3,e4,e5⟩
  ·exact .inl h3
  ·refine .inr ⟨b,o,C,f,e1,e2,e3,e4,λj c hj=>?_⟩;have h5:=e5 j c hj;have h6:=(h2 c (aT hj)).2 hf;cases c<;>first|(cases h6;done)|skip
   cases h5 with | v _ h=>exact .v _ h
 | _=>cases hc
theorem vJ:∀(xs:List AV) (k:Nat) (u:Nat->Value),xs.all AW=true->HA w F' β k xs u->HA w F β k xs u
 | [],_,_,_,_=>trivial
 | x::xs,k,u,hc,h=>by
  simp only[bo,ae]at hc;exact⟨vI hc.1 h.1,vJ xs _ _ hc.2 h.2⟩
theorem vK{k:Nat}{x:AV}{v:Value}(hc:w0 x=true)(h:C8 w F' β k x v):C8 w F β k x v:=by
 cases x with
 | agg cs=>obtain⟨vs,e,hl,hr⟩:=h;exact⟨vs,e,hl,vJ cs _ _ hc hr⟩
 | _=>
  simp only[C8,w0]at h hc ⊢;exact vI hc h
theorem tG:∀(xs:List AV) (k:Nat) (u:Nat->Value),xs.all w0=true->zt w F' β k xs u->zt w F β k xs u
 | [],_,_,_,_=>trivial
 | x::xs,k,u,hc,h=>by
  simp only[bo,ae]at hc;exact⟨vK hc.1 h.1,tG xs _ _ hc.2 h.2⟩
theorem F9{x:AV}{v:Value}(hc:nf x=true)(h:Dh w F' β x v):Dh w F β x v:=by
 cases x with
 | eC xs=>obtain⟨vs,e,hl,hr⟩:=h;exact⟨vs,e,hl,tG xs _ _ hc hr⟩
 | _=>
  simp only[Dh,nf]at h hc ⊢;exact vK hc h
theorem yz{k:SK}{x y:AV}{v:Value}(e:v7 k x=some y)(h:Rel w F x v):Rel w F y v:=by
 cases k with
 | slice fl sz=>
  simp only[v7]at e;split at e
  ·cases e;cases h;exact .xt _ _
  ·obtain⟨h1,e⟩:=c_ e;rw[ae]at h1;have e1:=eq_of_beq h1.1;have e2:=aw h1.2;subst e1;subst e2;cases e;exact h
  ·cases e
 | any=>
  simp only[v7]at e;split at e
  ·cases e;cases h;exact .qO
  ·cases e;cases h;exact .qc _ _
  ·cases e;exact h
 | _=>simp only[v7]at e;cases e;exact h
theorem sN:∀(ks:List SK) (xs ys:List AV) (u:Nat->Value),v_ ks xs=some ys->(∀j c,xs[j]?=some c->Rel w F c (u j))->ys.length<=xs.length/\ys.length=ks.length/\∀j c,ys[j]?=some c->Rel w F c (u j)
 | [],xs,ys,u,e,h=>by simp[v_]at e;subst e;exact⟨cB _,rfl,by simp⟩
 | k::ks,[],ys,u,e,h=>by simp[v_]at e
 | k::ks,x::xs,ys,u,e,h=>by
  simp only[v_]at e;split at e
  ·rename_i y s hy hs;cases e;obtain⟨l1,l2,h2⟩:=sN ks xs s (λj=>u (j+1)) hs (λj c hj=>h (j+1) c (by simpa using hj));refine⟨by simpa using l1,by simp[l2],λj c hj=>?_⟩;cases j with
   | zero=>simp at hj;subst hj;exact yz hy (h 0 x rfl)
   | succ j=>exact h2 j c (by simpa using hj)
  ·cases e
theorem sO{t:TypeId}{x y:AV}{v:Value}(hG:et P G)(e:yA G t x=some y)(h:Rel w F x v):Rel w F y v:=by
 unfold yA at e;split at e
 ·rename_i ti mr;have hT:=hG.ti t ti mr;split at e
  ·rename_i cs;obtain⟨h1,e⟩:=c_ e;have h1:=aw h1;rw[aD]at e;obtain⟨ys,hy,rfl⟩:=e;cases h with|agg cs vs hl hr=>
   obtain⟨l1,l2,h2⟩:=sN _ _ _ _ hy hr;exact .agg ys vs (by rw[hl,l2,hT.Ra,h1]) h2
  ·rename_i cs;split at e
   ·split at e
    ·rename_i ei sZ;rw[aD]at e;obtain⟨ys,hy,rfl⟩:=e;cases h with|rd cs ad u hF hc hr=>
     obtain⟨l1,l2,h2⟩:=sN _ _ _ _ hy hr;exact .rd ys ad u hF (λj hj=>hc j (by omega)) h2
    ·cases e
   ·cases e
  ·split at e
   ·exact yz e h
   ·cases e
 ·cases e
theorem wa(hG:et P G):∀(ts:List TypeId) (xs ys:List AV) (u:Nat->Value),k9 G ts xs=some ys->(∀j c,xs[j]?=some c->Rel w F c (u j))->ys.length=xs.length/\∀j c,ys[j]?=some c->Rel w F c (u j)
 | [],[],ys,u,e,h=>by simp[k9]at e;subst e;exact⟨rfl,by simp⟩
 | [],_::_,ys,u,e,h=>by simp[k9]at e
 | _::_,[],ys,u,e,h=>by simp[k9]at e
 | t::ts,x::xs,ys,u,e,h=>by
  simp only[k9]at e;split at e
  ·rename_i y s hy hs;cases e;obtain⟨l1,h2⟩:=wa hG ts xs s (λj=>u (j+1)) hs (λj c hj=>h (j+1) c (by simpa using hj));refine⟨by simp[l1],λj c hj=>?_⟩;cases j with
   | zero=>simp at hj;subst hj;exact sO hG hy (h 0 x rfl)
   | succ j=>exact h2 j c (by simpa using hj)
  ·cases e
end
theorem CX(b:sv):N9 (jQ b)=some b:=by cases b<;>rfl
theorem rB(ord:List Nat)(f:Nat->sv)(j:Nat):Mem.iu (ord.map λi=>jQ (f i)) j=(ord[j]?).map f:=by
 unfold Mem.iu;simp only[aP];cases ord[j]? with
 | none=>rfl
 | some i=>exact CX _
theorem Bb{m:Mem}(xs:List AV):Good m (xs.foldl (visit 6 m) []):=j6 (λord x h=>nJ 6 ord x h) xs [] ⟨by simp,by simp⟩
theorem yr(m:Mem)(xs:List AV):Good m (kv m xs):=by
 obtain⟨h1,h2⟩:=Bb (m:=m) xs;unfold kv;refine⟨?_,λi hi=>?_⟩
 ·rw[List.nodup_append];refine⟨h1.filter _,h1.filter _,?_⟩;intro a ha b hb e;subst e;simp only[List.mem_filter]at ha hb;have:=hb.2;rw[ha.2]at this;cases this
 ·rcases aS.1 hi with hi|hi
  ·exact h2 i (List.mem_filter.1 hi).1
  ·exact h2 i (List.mem_filter.1 hi).1
theorem vV(m:Mem)(xs:List AV):(kv m xs).filter (λi=>oB (m i))=(xs.foldl (visit 6 m) []).filter (λi=>oB (m i)):=by
 unfold kv;rw[List.filter_append,List.filter_filter,List.filter_filter];simp
theorem BL(m:Mem)(xs:List AV){j:Nat}(hj:j<((kv m xs).filter λi=>oB (m i)).length):∃id tb cs,(kv m xs)[j]?=some id/\m id=some (.box tb cs):=by
 rw[vV]at hj;obtain⟨id,hid⟩:∃id,((xs.foldl (visit 6 m) []).filter λi=>oB (m i))[j]?=some id:=⟨_,aN hj⟩;have hb:=(List.mem_filter.1 (aT hid)).2;refine⟨id,?_⟩;have e:(kv m xs)[j]?=some id:=by
  unfold kv;rw[aO hj];exact hid
 cases hm:m id with
 | none=>rw[hm]at hb;cases hb
 | some b=>
  cases b with
  | box tb cs=>exact⟨tb,cs,e,rfl⟩
  | row fl sz ys=>rw[hm]at hb;cases hb
theorem I7(m:Mem)(xs:List AV){j id:Nat}(hj:((kv m xs).filter λi=>oB (m i)).length<=j)(h:(kv m xs)[j]?=some id):oB (m id)=false:=by
 rw[vV]at hj;unfold kv at h;rw[aR hj]at h;have:=(List.mem_filter.1 (aT h)).2;simpa using this
theorem Fg:∀(bs:List AV) (k:Nat),(∀j c,bs[j]?=some c->j<k->∃tb cs,c=.fn tb cs)->(∀c,bs[k]?=some c->∀tb cs,c≠.fn tb cs)->k<=bs.length->nv bs=k
 | [],k,_,_,h=>by
  have:k=0:=by simpa using h
  subst this;rfl
 | x::bs,0,_,h2,_=>by
  have:=h2 x rfl;cases x<;>first|rfl|exact absurd rfl (this _ _)
 | x::bs,k+1,h1,h2,h3=>by
  obtain⟨tb,cs,rfl⟩:=h1 0 x rfl (by omega);simp only[nv];rw[Fg bs k (λj c hj hk=>h1 (j+1) c (by simpa using hj) (by omega)) (λc hc=>h2 c (by simpa using hc)) (by simpa using h3)]
theorem Gs(m:Mem)(xs:List AV):nv ((kv m xs).map λi=>jQ (kZ (kv m xs) (m i)))=((kv m xs).filter λi=>oB (m i)).length:=by
 apply Fg
 ·intro j c hj hk;obtain⟨id,tb,cs,h1,h2⟩:=BL m xs hk;rw[aP,h1]at hj;simp only[cE,bh,h2]at hj;exact⟨_,_,hj.symm⟩
 ·intro c hc tb cs;rw[aP]at hc;cases h:(kv m xs)[((kv m xs).filter λi=>oB (m i)).length]? with
  | none=>rw[h]at hc;cases hc
  | some id=>
   rw[h]at hc;have hb:=I7 m xs (aH _) h;have gN:=(yr m xs).2 id (aT h);simp only[cE,bh]at hc;cases hm:m id with
   | none=>exact absurd hm gN
   | some b=>
    cases b with
    | box tb cs=>rw[hm]at hb;cases hb
    | row fl sz ys=>
     rw[hm]at hc;rw[<-hc];intro e;cases e
 ·rw[aj];exact List.length_filter_le _ _
section
variable {R:Type} {P:Program} {G:fv} {o:Oper} {a:Act} {w w' : World} {W0:fh} {F0 U F F' : Nat->Prop} {id:Nat} {L L' : AV->Value->Prop} {K:AV->Mem->Option R} {r:R} {m m' : Mem} {μ fC β:Mu} {S:List AV}
def HB(w:World)(F:Nat->Prop)(μ:Mu)(m:Mem)(U:Nat->Prop)(x:AV)(v:Value):Prop:=
 match x with
 | .ptr _ _ | .fn _ _=>fg w F μ m U x v
 | x=>Rel w F x v
theorem HB.s{x:AV}{v:Value}(h:HB w F μ m U x v):fg w F μ m U x v:=by
 cases x<;>first|exact h|exact ej (ef (fm h))
theorem CC(h:dj W0 F0 U m L w μ F)(I:List Nat){x:AV}{v:Value}(hx:fg w F μ m U x v):fg w (λb=>F b\/eS μ m I b) μ (nA m I) U x v:=by
 refine hx.mono (λ_ h=>.inl h) (λ_ _=>rfl) (λ_ h=>h) (λi _=>⟨?_,λ_=>rfl⟩);rw[iV];split
 ·cases m i with | none=>trivial | some y=>cases y<;>trivial
 ·exact .refl _
theorem ze(h:dj W0 F0 U m L w μ F)(I:List Nat):∀(cs ys:List AV) (u:Nat->Value),CU m cs=some ys->(∀j c,cs[j]?=some c->jG w F μ m U c (u j))->(∀i∈cs.flatMap lG,i∈I)->
  ys.length=cs.length/\∀j c,ys[j]?=some c->jG w (λb=>F b\/eS μ m I b) μ (nA m I) U c (u j)
 | [],ys,u,hv,_,_=>by simp[CU]at hv;subst hv;exact⟨rfl,by simp⟩
 | x::r,ys,u,hv,hr,hI=>by
  simp only[CU]at hv;split at hv
  ·rename_i y s hy hs;cases hv;obtain⟨l2,r2⟩:=ze h I r s (λj=>u (j+1)) hs (λj c hj=>hr (j+1) c (by simpa using hj)) (λi hi=>hI i (by simp only[bD,aS];exact .inr hi));refine⟨by simp[l2],λj c hj=>?_⟩;cases j with
   | succ j=>exact r2 j c (by simpa using hj)
   | zero=>
    simp at hj;subst hj;have hx:=hr 0 x rfl;have hv' : nl m x=some y->jG w (λb=>F b\/eS μ m I b) μ (nA m I) U y (u 0):=λhy=>
     kc (ri h (ga hx) hy I (λi hi=>hI i (by simp only[bD,aS];exact .inl hi)))
    cases x with
    | ptr id off=>
     simp at hy;subst hy;have:=CC h I (ej (ef (ga hx)));exact this
    | _=>exact hv' hy
  ·cases hv
theorem KT(h:dj W0 F0 U m L w μ F)(I:List Nat){x y:AV}{v:Value}(hx:fg w F μ m U x v)(hv:M2 m x=some y)(hI:∀i∈Ay m x,i∈I) :
  HB w (λb=>F b\/eS μ m I b) μ (nA m I) U y v:=by
 have other:fc m x=some y->(∀i∈jn m x,i∈I)->(∀f cs,x≠.fn f cs)->(∀id off,x≠.ptr id off)->HB w (λb=>F b\/eS μ m I b) μ (nA m I) U y v:=by
  intro hv hI h1 h2;have hr:=rl h hx hv I hI;cases y with
  | ptr=>cases hr
  | fn g cs=>
   exfalso;cases x<;>simp only[fc,vk,nl,jF]at hv<;>first|(cases hv;done)|exact h1 _ _ rfl|exact h2 _ _ rfl|(simp at hv;done)|(split at hv<;>cases hv)|skip
  | _=>exact hr
 cases x with
 | ptr id off=>
  simp only[M2,bh]at hv;subst hv;exact CC h I hx
 | fn f f_=>
  simp only[M2,aD]at hv;obtain⟨ys,sS,rfl⟩:=hv;obtain⟨vs,Fy,hl,hr⟩:=hx;obtain⟨l1,r1⟩:=ze h I f_ ys (λj=>vs.getD j undef) sS hr hI;exact⟨vs,Fy,by rw[l1,hl],r1⟩
 | _=>exact other hv hI (by simp) (by simp)
theorem zm(h:dj W0 F0 U m L w μ F)(I:List Nat):∀(xs ys:List AV) (u:Nat->Value),zn m xs=some ys->(∀j c,xs[j]?=some c->fg w F μ m U c (u j))->(∀i∈xs.flatMap (Ay m),i∈I)->
  ys.length=xs.length/\∀j c,ys[j]?=some c->HB w (λb=>F b\/eS μ m I b) μ (nA m I) U c (u j)
 | [],ys,u,hv,_,_=>by simp[zn]at hv;subst hv;exact⟨rfl,by simp⟩
 | x::r,ys,u,hv,hr,hI=>by
  simp only[zn]at hv;split at hv
  ·rename_i y s hy hs;cases hv;obtain⟨l2,r2⟩:=zm h I r s (λj=>u (j+1)) hs (λj c hj=>hr (j+1) c (by simpa using hj)) (λi hi=>hI i (by simp only[bD,aS];exact .inr hi));refine⟨by simp[l2],λj c hj=>?_⟩;cases j with
   | zero=>simp at hj;subst hj;exact KT h I (hr 0 x rfl) hy (λi hi=>hI i (by simp only[bD,aS];exact .inl hi))
   | succ j=>exact r2 j c (by simpa using hj)
  ·cases hv
theorem v8(hG:et P G):∀(ts:List TypeId) (xs ys:List AV) (u:Nat->Value),qE G ts xs=some ys->(∀j c,xs[j]?=some c->HB w F μ m U c (u j))->ys.length=xs.length/\∀j c,ys[j]?=some c->fg w F μ m U c (u j)
 | [],xs,ys,u,e,h=>by simp[qE]at e;subst e;exact⟨rfl,λj c hj=>(h j c hj).s⟩
 | _::_,[],ys,u,e,h=>by simp[qE]at e
 | t::ts,x::xs,ys,u,e,h=>by
  simp only[qE]at e;split at e
  ·rename_i y s hy hs;cases e;obtain⟨l2,r2⟩:=v8 hG ts xs s (λj=>u (j+1)) hs (λj c hj=>h (j+1) c (by simpa using hj));refine⟨by simp[l2],λj c hj=>?_⟩;cases j with
   | succ j=>exact r2 j c (by simpa using hj)
   | zero=>
    simp at hj;subst hj;have hx:=h 0 x rfl;cases x<;>simp only[Nz]at hy<;>first|(cases hy;exact hx.s)|exact ej (ef (fm (sO hG hy hx)))
  ·cases e
theorem wh{f:Nat->Nat}:∀(n:Nat) (x:AV) (v:Value),Rel w F x v->Rel w F (Ak n f x) v
 | 0,_,v,_=>.undef v
 | n+1,x,v,h=>by
  cases h with
  | v _ h=>exact .v _ h
  | undef _=>exact .undef _
  | qO=>exact .qO
  | qc t x=>exact .qc _ _
  | xt fl sz=>exact .xt fl sz
  | sl fl sz xs ad cap u h1 h2 h3 h4 h5 h6 h7=>exact .sl fl sz xs ad cap u h1 h2 h3 h4 h5 h6 h7
  | rd cs ad u h1 h2 h3=>exact .rd cs ad u h1 h2 h3
  | agg cs vs hl hr=>
   refine .agg _ vs (by simp[hl]) (λj c hj=>?_);simp only[aP,aD]at hj;obtain⟨y,hy,rfl⟩:=hj;exact wh n y _ (hr j y hy)
  | fn g cs vs v hv hl hr=>
   refine .fn g _ vs _ hv (by simp[hl]) (λj c hj=>?_);simp only[aP,aD]at hj;obtain⟨y,hy,rfl⟩:=hj;exact wh n y _ (hr j y hy)
structure KZ(f:Nat->Nat)(m m' : Mem)(μ fC : Mu)(U U' : Nat->Prop):Prop where
 mem:∀j,U j->m' (f j)≠none->∃b,m j=some b/\m' (f j)=nZ f (some b)
 mu:∀j,U j->m' (f j)≠none->fC (f j)=μ j
 used:∀j,U j->m' (f j)≠none->U' (f j)
 gone:∀j,U j->m' (f j)=none->U' (f j)
theorem Jn{f:Nat->Nat}{U' : Nat->Prop}(hc:KZ f m m' μ fC U U')(n:Nat){x:AV}{v:Value}(h:jG w F μ m U x v):jG w F fC m' U' (Ak n f x) v:=by
 cases n with
 | zero=>exact kY
 | succ n=>
  obtain⟨h1,h⟩:=h;have gd:Rel w F x v->jG w F fC m' U' (Ak (n+1) f x) v:=λh=>kc (wh (n+1) x v h);have TF:∀j,U j->U' (f j):=λj hj=>by
   by_cases e:m' (f j)=none
   ·exact hc.gone j hj e
   ·exact hc.used j hj e
  cases x with
  | own id off l=>
   refine⟨λ_=>h1 rfl,TF _ h.1,λfl sz xs hx=>?_⟩;have gN:m' (f id)≠none:=by rw[hx];simp
   obtain⟨b,hb,jP⟩:=hc.mem id h.1 gN;rw[hx]at jP;rw[hc.mu id h.1 gN];cases b with
   | box tb cs=>cases jP
   | row iA jL oN=>cases jP;exact h.2 _ _ _ hb
  | s_ id i off=>
   refine⟨λ_=>h1 rfl,TF _ h.1,λfl sz xs hx=>?_⟩;have gN:m' (f id)≠none:=by rw[hx];simp
   obtain⟨b,hb,jP⟩:=hc.mem id h.1 gN;rw[hx]at jP;rw[hc.mu id h.1 gN];cases b with
   | box tb cs=>cases jP
   | row iA jL oN=>cases jP;exact h.2 _ _ _ hb
  | ptr id off=>
   refine⟨λ_=>h1 rfl,TF _ h.1,λtb cs hx=>?_⟩;have gN:m' (f id)≠none:=by rw[hx];simp
   obtain⟨b,hb,jP⟩:=hc.mem id h.1 gN;rw[hc.mu id h.1 gN];cases b with
   | box xq kN=>exact h.2 _ _ hb
   | row iA jL oN=>rw[hx]at jP;cases jP
  | bs id=>
   refine⟨λ_=>h1 rfl,TF _ h.1,λtb cs hx=>?_⟩;have gN:m' (f id)≠none:=by rw[hx];simp
   obtain⟨b,hb,jP⟩:=hc.mem id h.1 gN;rw[hc.mu id h.1 gN];rw[hx]at jP;cases b with
   | box xq kN=>cases jP;rw[aj];exact h.2 _ _ hb
   | row iA jL oN=>cases jP
  | fr _ _ _=>exact h.elim
  | v _=>exact gd h
  | sl _ _ _=>exact gd h
  | rd _=>exact gd h
  | agg _=>exact gd h
  | eC _=>exact gd h
  | fn _ _=>exact gd h
  | err _=>exact gd h
  | undef=>exact gd h
theorem OW{f:Nat->Nat}{U' : Nat->Prop}(hc:KZ f m m' μ fC U U')(n:Nat){x:AV}{v:Value}(h:fL w F μ m U x v):fL w F fC m' U' (Ak n f x) v:=by
 cases n with
 | zero=>exact ga kY
 | succ n=>
  cases x
  case fn g cs=>
   obtain⟨vs,e,hl,hr⟩:=h;refine⟨vs,e,by simp[hl],λj c hj=>?_⟩;simp only[aP,aD]at hj;obtain⟨y,hy,rfl⟩:=hj;exact Jn hc n (hr j y hy)
  all_goals exact ga (Jn (U:=U) hc (n+1) h)
theorem vQ{x:AV}{v:Value}{w1:World}{F1:Nat->Prop}{K4:Mu}{m1:Mem}{U1:Nat->Prop}(hp:zZ x=true)(h:fg w F μ m U x v):fg w1 F1 K4 m1 U1 x v:=by
 have hS:∀{x:AV} {v:Value},qz x=true->fL w F μ m U x v->fL w1 F1 K4 m1 U1 x v:=by
  intro x v hp h;cases x with
  | v y=>obtain⟨h1,h2⟩:=h;cases h2 with|v _ h3=>exact⟨h1,.v _ h3⟩
  | err b=>obtain⟨h1,h2⟩:=h;cases h2 with|qO=>exact⟨h1,.qO⟩|qc t y=>exact⟨h1,.qc t y⟩
  | _=>cases hp
 have hA:∀{x:AV} {v:Value},sH x=true->mH w F μ m U x v->mH w1 F1 K4 m1 U1 x v:=by
  intro x v hp h;cases x
  case agg cs=>
   obtain⟨vs,e,hl,hr⟩:=h;exact⟨vs,e,hl,λj c hj=>hS (aA.1 hp c (aT hj)) (hr j c hj)⟩
  all_goals exact ef (hS hp h)
 cases x
 case eC cs=>
  obtain⟨vs,e,hl,hr⟩:=h;exact⟨vs,e,hl,λj c hj=>hA (aA.1 hp c (aT hj)) (hr j c hj)⟩
 all_goals exact ej (hA hp h)
end
section
variable {R:Type} {P:Program} {G:fv} {o:Oper} {a:Act} {w w' : World} {W0:fh} {F0 U F F' : Nat->Prop} {id:Nat} {L L' : AV->Value->Prop} {K:AV->Mem->Option R} {r:R} {m m' : Mem} {μ fC β:Mu} {S:List AV}
def C7(m m' : Mem)(μ fC : Mu)(i:Nat):Prop:=
 (eO (m i) (m' i)/\(m' i≠none->fC i=μ i))\/∃tb cs xq kN b n n',m i=some (.box tb cs)/\m' i=some (.box xq kN)/\μ i=some (b,0,n)/\fC i=some (b,0,n')/\kN.length=cs.length
theorem jG.o0{U' : Nat->Prop}{x:AV}{v:Value}(h:jG w F μ m U x v)(hF:∀b,F b->F' b)(hw:∀b,F b->w'.heap[b]?=w.heap[b]?)(hU:∀i,U i->U' i)(hm:∀i,U i->C7 m m' μ fC i):jG w' F' fC m' U' x v:=by
 have gd:Rel w F x v->jG w' F' fC m' U' x v:=λh=>kc (h.mono hF hw);have one:∀i,U i->(eO (m i) (m' i)/\(m' i≠none->fC i=μ i))->(x=.own i 0 none->True)->(∀j,(∃o l,x=.own j o l)\/(∃a b,x=.s_ j a b)\/(∃o,x=.ptr j o)\/x=.bs j->j=i)->jG w' F' fC m' U' x v:=by
  intro i hi hs _ hx;have h0:=h;obtain⟨h1,h2⟩:=h;cases x with
  | own id off l=>
   obtain rfl:=hx id (.inl ⟨off,l,rfl⟩);exact jG.mono (U:=λj=>j=id) (m:=m) (μ:=μ) (F:=F) (w:=w) ⟨h1,rfl,h2.2⟩ hF hw (λj hj=>by subst hj;exact hU _ hi) (λj hj=>by subst hj;exact hs)
  | s_ id a b=>
   obtain rfl:=hx id (.inr (.inl ⟨a,b,rfl⟩));exact jG.mono (U:=λj=>j=id) (m:=m) (μ:=μ) (F:=F) (w:=w) ⟨h1,rfl,h2.2⟩ hF hw (λj hj=>by subst hj;exact hU _ hi) (λj hj=>by subst hj;exact hs)
  | ptr id off=>
   obtain rfl:=hx id (.inr (.inr (.inl ⟨off,rfl⟩)));exact jG.mono (U:=λj=>j=id) (m:=m) (μ:=μ) (F:=F) (w:=w) ⟨h1,rfl,h2.2⟩ hF hw (λj hj=>by subst hj;exact hU _ hi) (λj hj=>by subst hj;exact hs)
  | bs id=>
   obtain rfl:=hx id (.inr (.inr (.inr rfl)));exact jG.mono (U:=λj=>j=id) (m:=m) (μ:=μ) (F:=F) (w:=w) ⟨h1,rfl,h2.2⟩ hF hw (λj hj=>by subst hj;exact hU _ hi) (λj hj=>by subst hj;exact hs)
  | fr _ _ _=>exact h2.elim
  | v _=>exact gd h2
  | sl _ _ _=>exact gd h2
  | rd _=>exact gd h2
  | agg _=>exact gd h2
  | eC _=>exact gd h2
  | fn _ _=>exact gd h2
  | err _=>exact gd h2
  | undef=>exact gd h2
 have h0:=h;obtain⟨h1,h2⟩:=h;cases x with
 | own id off l=>
  rcases hm id h2.1 with hs|⟨tb,cs,xq,kN,b,n,n',e1,e2,e3,e4,e5⟩
  ·exact one id h2.1 hs (λ_=>trivial) (λj hj=>by rcases hj with⟨_,_,hj⟩|⟨_,_,hj⟩|⟨_,hj⟩|hj<;>cases hj;rfl)
  ·exact⟨h1,hU _ h2.1,λfl sz xs hx=>by rw[e2]at hx;cases hx⟩
 | s_ id i off=>
  rcases hm id h2.1 with hs|⟨tb,cs,xq,kN,b,n,n',e1,e2,e3,e4,e5⟩
  ·exact one id h2.1 hs (λ_=>trivial) (λj hj=>by rcases hj with⟨_,_,hj⟩|⟨_,_,hj⟩|⟨_,hj⟩|hj<;>cases hj;rfl)
  ·exact⟨h1,hU _ h2.1,λfl sz xs hx=>by rw[e2]at hx;cases hx⟩
 | ptr id off=>
  rcases hm id h2.1 with hs|⟨tb,cs,xq,kN,b,n,n',e1,e2,e3,e4,e5⟩
  ·exact one id h2.1 hs (λ_=>trivial) (λj hj=>by rcases hj with⟨_,_,hj⟩|⟨_,_,hj⟩|⟨_,hj⟩|hj<;>cases hj;rfl)
  ·refine⟨h1,hU _ h2.1,λX3 PO hx=>?_⟩;obtain⟨b0,n0,g1,g2⟩:=h2.2 tb cs e1;rw[e3]at g1;cases g1;exact⟨b,n',e4,g2⟩
 | bs id=>
  rcases hm id h2.1 with hs|⟨tb,cs,xq,kN,b,n,n',e1,e2,e3,e4,e5⟩
  ·exact one id h2.1 hs (λ_=>trivial) (λj hj=>by rcases hj with⟨_,_,hj⟩|⟨_,_,hj⟩|⟨_,hj⟩|hj<;>cases hj;rfl)
  ·refine⟨h1,hU _ h2.1,λX3 PO hx=>?_⟩;obtain⟨b0,n0,g1,g2⟩:=h2.2 tb cs e1;rw[e3]at g1;cases g1;rw[e2]at hx;cases hx;rw[e5];exact⟨b,n',e4,g2⟩
 | fr _ _ _=>exact h2.elim
 | v _=>exact gd h2
 | sl _ _ _=>exact gd h2
 | rd _=>exact gd h2
 | agg _=>exact gd h2
 | eC _=>exact gd h2
 | fn _ _=>exact gd h2
 | err _=>exact gd h2
 | undef=>exact gd h2
theorem fL.o0{U' : Nat->Prop}{x:AV}{v:Value}(h:fL w F μ m U x v)(hF:∀b,F b->F' b)(hw:∀b,F b->w'.heap[b]?=w.heap[b]?)(hU:∀i,U i->U' i)(hm:∀i,U i->C7 m m' μ fC i):fL w' F' fC m' U' x v:=by
 cases x
 case fn f cs=>obtain⟨vs,e,hl,h⟩:=h;exact⟨vs,e,hl,λj c hc=>(h j c hc).o0 hF hw hU hm⟩
 all_goals exact ga (jG.o0 (U:=U) h hF hw hU hm)
theorem mH.o0{U' : Nat->Prop}{x:AV}{v:Value}(h:mH w F μ m U x v)(hF:∀b,F b->F' b)(hw:∀b,F b->w'.heap[b]?=w.heap[b]?)(hU:∀i,U i->U' i)(hm:∀i,U i->C7 m m' μ fC i):mH w' F' fC m' U' x v:=by
 cases x
 case agg cs=>obtain⟨vs,e,hl,h⟩:=h;exact⟨vs,e,hl,λj c hc=>(h j c hc).o0 hF hw hU hm⟩
 all_goals exact ef (fL.o0 (U:=U) h hF hw hU hm)
theorem fg.o0{U' : Nat->Prop}{x:AV}{v:Value}(h:fg w F μ m U x v)(hF:∀b,F b->F' b)(hw:∀b,F b->w'.heap[b]?=w.heap[b]?)(hU:∀i,U i->U' i)(hm:∀i,U i->C7 m m' μ fC i):fg w' F' fC m' U' x v:=by
 cases x
 case eC cs=>obtain⟨vs,e,hl,h⟩:=h;exact⟨vs,e,hl,λj c hc=>(h j c hc).o0 hF hw hU hm⟩
 all_goals exact ej (mH.o0 (U:=U) h hF hw hU hm)
def handed(ord:List Nat)(μ:Mu)(b:Nat):Prop:=∃(j id o n:Nat),ord[j]?=some id/\μ id=some (b,o,n)
def fh.sub(W0:fh)(ord:List Nat)(μ:Mu)(w:World)(hk:kt W0 w)(hn:∀b,handed ord μ b->¬ W0.N b):fh where
 root:=W0.root
 w:=w
 N:=λb=>b<w.heap.size/\¬ handed ord μ b
 lt:=λb h=>h.1
 IK:=λb hb=>⟨bB hb hk.root.size,λh=>hn b h (W0.IK b hb)⟩
 vH:=hk.root
 bk:=λi=>(((ord[i]?).bind μ).map (·.1)).getD 0
theorem dj.handOver(h:dj W0 F0 U m L w μ F){ord:List Nat}(hg:Good m ord)(hn:∀b,handed ord μ b->¬ W0.N b){L' : AV->Value->Prop}(hL:∀c v,L' c v->∃n x,c=xj n ord x/\fg w F μ m U x v) :
  dj (W0.sub ord μ w h.below hn) F (λi=>i<8*ord.length) (Mem.iu (ord.map λi=>jQ (kZ ord (m i)))) L' w (λj=>(ord[j]?).bind μ) F:=by
 have lH:∀j b',Mem.iu (ord.map λi=>jQ (kZ ord (m i))) j=some b'->∃id b,ord[j]?=some id/\m id=some b/\b'=kZ ord (some b):=by
  intro j b' hj;rw[rB,aD]at hj;obtain⟨id,hid,rfl⟩:=hj;cases hm:m id with
  | none=>exact absurd hm (hg.2 id (aT hid))
  | some b=>exact⟨id,b,hid,hm,rfl⟩
 have eT:∀(j id:Nat),ord[j]?=some id->j<ord.length:=λj id hj=>(aE.1 hj).1;have hc:P4 ord m (Mem.iu (ord.map λi=>jQ (kZ ord (m i)))) μ (λj=>(ord[j]?).bind μ) (λi=>i<8*ord.length):=by
  refine⟨λj id hj=>?_,λj id hj=>by simp[hj],λj id hj=>by have:=eT j id hj;show j<8*ord.length;omega⟩;cases hm:m id with
  | none=>exact absurd hm (hg.2 id (aT hj))
  | some b=>exact .inr ⟨b,rfl,by rw[rB,hj,cE,hm]⟩
 refine{ below:=kt.refl _,dW:=λb hb=>⟨(h.dW b hb).1,.inl hb⟩,sub:=λ_ hb=>hb,gl:=λb hb=>h.gl b hb,used:=?_,lQ:=?_,own:=?_,inj:=?_,dT:=?_ }
 ·intro j b' hj;obtain⟨id,b,hid,_,_⟩:=lH j b' hj;exact hc.used j id hid
 ·intro j b' hj;obtain⟨id,b,hid,hb,rfl⟩:=lH j b' hj;have hB:=h.lQ id b hb;cases b with
  | box tb cs=>
   obtain⟨b,C,f,e1,e2,e3,e4,e5⟩:=hB;refine⟨b,C,f,by simp[hid,e1],e2,by simpa using e3,e4,λk c hk=>?_⟩;simp only[aP,aD]at hk;obtain⟨y,hy,rfl⟩:=hk;exact BC hc 3 (e5 k y hy)
  | row fl sz xs=>
   obtain⟨e1,e2,e3⟩:=hB;refine⟨e1,e2,?_⟩;simpa[hid]using e3
 ·intro j b' b o n hj hb;obtain⟨id,b1,hid,pR,rfl⟩:=lH j b' hj;simp only[hid,ab]at hb;obtain⟨_,h2,h3⟩:=h.own id b1 b o n pR hb;exact⟨λhN=>hN.2 ⟨j,id,o,n,hid,hb⟩,h2,h3⟩
 ·intro j j' b1 b2 b o n o' n' hj mK hb jP;obtain⟨id,c1,hid,Co,rfl⟩:=lH j b1 hj;obtain⟨uo,c2,Cl,Kc,rfl⟩:=lH j' b2 mK;simp only[hid,ab]at hb;simp only[Cl,ab]at jP;have e:=h.inj id uo c1 c2 b o n o' n' Co Kc hb jP;subst e;exact(List.getElem?_inj (eT j _ hid) hg.1).1 (hid.trans Cl.symm)
 ·intro c v WD;obtain⟨n,x,rfl,hx⟩:=hL c v WD;exact IS hc n hx
theorem wC{ord:List Nat}{id:Nat}(h:jy ord id=none):id ∉ ord:=by
 intro hm;unfold jy at h;rw[List.findIdx?_eq_none_iff]at h;have:=h id hm;simp at this
theorem dj.Iu(h:dj W0 F0 U m L w μ F){ord I:List Nat}{kb:Nat}(hg:Good m ord)(GQ:∀i∈ord,i ∉ I)(hn:∀b,handed ord μ b->¬ W0.N b)(hid:∀j,j<8->¬ U (id+j))
  (qa:∀j,j<kb->∃i tb cs,ord[j]?=some i/\m i=some (.box tb cs)) {os:List AV} (A5:Fc m ord kb os=true) {y:AV} {v:Value} (hp:zZ y=true)
  (hI:dj (W0.sub ord μ w h.below hn) (λb=>F b\/eS μ m I b) (λi=>i<os.length) (Mem.iu os) (λc u=>c=y/\u=v) w' fC F')
  (Kd:∀j,j<kb->∃n,fC j=some ((W0.sub ord μ w h.below hn).bk j,0,n)) :
  ∃Ob ,dj W0 F0 (U8 U id) (m_ m ord kb id I os) (λc u=>L c u\/(c=y/\u=v)) w' Ob F':=by
 obtain⟨⟨ho1,Qy⟩,ho3⟩:(kb<=os.length/\os.length - kb<=8)/\_:=by
  unfold Fc at A5;rw[ae,ae]at A5;exact⟨⟨aG A5.1.1,aG A5.1.2⟩,A5.2⟩
 have WO:∀j,j<kb->∃i tb cs kN,ord[j]?=some i/\m i=some (.box tb cs)/\os[j]?=some (.fn tb kN)/\kN.length=cs.length:=by
  intro j hj;obtain⟨i,tb,cs,h1,h2⟩:=qa j hj;have:=aA.1 ho3 j (bM.2 hj);rw[ah,h1,Option.getD_some,h2]at this;split at this
  ·rename_i xq kN X3 PO e1 e2;cases e2;rw[ae]at this;obtain rfl:=aw this.2;exact⟨i,_,cs,kN,h1,h2,e1,aw this.1⟩
  ·cases this
 have eT:∀(j i:Nat),ord[j]?=some i->j<ord.length:=λj id hj=>(aE.1 hj).1;have Cg:∀j i,ord[j]?=some i->U i:=λj i hj=>by
  cases hm:m i with
  | none=>exact absurd hm (hg.2 i (aT hj))
  | some b=>exact h.used i b hm
 have DS:∀i,U i->¬ (id<=i/\i<id+8):=λi hi hr=>hid (i - id) (by omega) (by rw[show id+(i - id)=i by omega];exact hi)
 -- F4 new memory,by cases
 have DO:∀j,kb<=j->j<os.length->m_ m ord kb id I os (id+(j - kb))=nZ (nR ord kb id) (Mem.iu os j):=by
  intro j h1 h2;have e:(Nat.ble id (id+(j - kb))&&Nat.blt (id+(j - kb)) (id+(os.length - kb)))=true:=by
   rw[ae];exact⟨cb (by omega),cb (by show id+(j - kb)+1<=_;omega)⟩
  unfold m_;rw[e,ak];rw[show kb+(id+(j - kb) - id)=j by omega]
 have DN:∀i,U i->m_ m ord kb id I os i=match jy ord i with
   | some j=>bif Nat.blt j kb then nZ (nR ord kb id) (Mem.iu os j)else none
   | none=>bif I.contains i then none else m i:=by
  intro i hi;have e:(Nat.ble id i&&Nat.blt i (id+(os.length - kb)))=false:=by
   rw[<-a_,ae];rintro⟨h1,h2⟩;have h1:=aG h1;have h2:i+1<=_:=aG h2;exact DS i hi (by omega)
  unfold m_;rw[e];rfl
 have D_:∀j i,ord[j]?=some i->jy ord i=some j:=by
  intro j i hj;cases hx:jy ord i with
  | none=>exact absurd (aT hj) (wC hx)
  | some j'=>
   have h1:=iJ hx;rw[(List.getElem?_inj (eT j' i h1) hg.1).1 (h1.trans hj.symm)]
 have Ad:∀j i,j<kb->ord[j]?=some i->m_ m ord kb id I os i=nZ (nR ord kb id) (Mem.iu os j):=by
  intro j i h1 h2;rw[DN i (Cg j i h2),D_ j i h2];have:Nat.blt j kb=true:=cb h1;simp only[this,ak]
 have I6:∀j i,kb<=j->ord[j]?=some i->m_ m ord kb id I os i=none:=by
  intro j i h1 h2;rw[DN i (Cg j i h2),D_ j i h2];have:Nat.blt j kb=false:=by rw[<-a_];exact λe=>by have:j+1<=kb:=aG e;omega
  simp only[this,cond_false]
 have LW:∀i,U i->i ∉ ord->m_ m ord kb id I os i=nA m I i:=by
  intro i hi Ch;rw[DN i hi,iV];cases hx:jy ord i with
  | some j=>exact absurd (aT (iJ hx)) Ch
  | none=>
   simp only;by_cases Lf : i∈I
   ·rw[ag Lf];have:I.contains i=true:=by simpa using Lf
    rw[this];rfl
   ·rw[af Lf];have:I.contains i=false:=by simpa using Lf
    rw[this];rfl
 -- Q6 ids there Y1
 have ids:∀i b,m_ m ord kb id I os i=some b->(∃j,kb<=j/\j<os.length/\i=id+(j - kb))\/(∃j,j<kb/\ord[j]?=some i)\/(i ∉ ord/\i ∉ I/\m i=some b/\¬ (id<=i/\i<id+(os.length - kb))):=by
  intro i b hi;by_cases hr:id<=i/\i<id+(os.length - kb)
  ·exact .inl ⟨kb+(i - id),by omega,by omega,by omega⟩
  ·right;have e:(Nat.ble id i&&Nat.blt i (id+(os.length - kb)))=false:=by
    rw[<-a_,ae];rintro⟨h1,h2⟩;have h1:=aG h1;have h2:i+1<=_:=aG h2;exact hr ⟨h1,h2⟩
   unfold m_ at hi;rw[e,cond_false]at hi;cases hx:jy ord i with
   | some j=>
    rw[hx]at hi;simp only at hi;cases hb:Nat.blt j kb with
    | true=>exact .inl ⟨j,aG hb,iJ hx⟩
    | false=>rw[hb]at hi;cases hi
   | none=>
    rw[hx]at hi;simp only at hi;cases hc:I.contains i with
    | true=>rw[hc]at hi;cases hi
    | false=>rw[hc]at hi;exact .inr ⟨wC hx,by simpa using hc,hi,hr⟩
 obtain⟨ν,VT⟩:∃ν:Mu,ν=λi=>if id<=i/\i<id+(os.length - kb)then fC (kb+(i - id))else(match jy ord i with|some j=>if j<kb then fC j else μ i|none=>μ i):=⟨_,rfl⟩
 have H8:∀j,kb<=j->j<os.length->ν (id+(j - kb))=fC j:=by
  intro j h1 h2;rw[VT];simp only;rw[ag (by omega),show kb+(id+(j - kb) - id)=j by omega]
 have EL:∀j i,j<kb->ord[j]?=some i->ν i=fC j:=by
  intro j i h1 h2;rw[VT];simp only;rw[af (λhr=>DS i (Cg j i h2) (by omega)),D_ j i h2];simp only[h1,ck]
 have zv:∀i,U i->i ∉ ord->ν i=μ i:=by
  intro i hi Ch;rw[VT];simp only;rw[af (λhr=>DS i hi (by omega))];cases hx:jy ord i with
  | some j=>exact absurd (aT (iJ hx)) Ch
  | none=>rfl
 -- F4 Qc stay in X0 blocks
 have Tr:∀j i,j<kb->ord[j]?=some i->∃tb cs kN b n n',m i=some (.box tb cs)/\os[j]?=some (.fn tb kN)/\kN.length=cs.length/\μ i=some (b,0,n)/\fC j=some (b,0,n'):=by
  intro j i hj hi;obtain⟨i',tb,cs,kN,h1,h2,h3,h4⟩:=WO j hj;rw[hi]at h1;cases h1;obtain⟨b,C,f,e1,e2,_⟩:=h.lQ i _ h2;obtain⟨n,T3⟩:=Kd j hj;have eb:(W0.sub ord μ w h.below hn).bk j=b:=by
   show(((ord[j]?).bind μ).map (·.1)).getD 0=b;rw[hi];simp[e1]
  rw[eb]at T3;exact⟨tb,cs,kN,b,_,n,h2,h3,h4,e1,T3⟩
 have Jz:∀b,b<w.heap.size->¬ handed ord μ b->w'.heap[b]?=w.heap[b]?:=λb h1 h2=>hI.below.block b ⟨h1,h2⟩;have YT:∀b,(F b\/eS μ m I b)->b<w.heap.size/\¬ handed ord μ b:=by
  intro b hb;refine⟨?_,?_⟩
  ·rcases hb with hb|⟨i,_,hi,o,n,e⟩
   ·exact(h.dW b hb).1
   ·cases hm:m i with
    | none=>exact absurd hm hi
    | some x=>exact(h.own i x b o n hm e).2.1
  ·rintro⟨j,i,o,n,hj,fG⟩;cases hm:m i with
   | none=>exact absurd hm (hg.2 i (aT hj))
   | some x=>
    rcases hb with hb|⟨i',mL,GL,o',n',e'⟩
    ·exact(h.own i x b o n hm fG).2.2 hb
    ·cases qZ : m i' with
     | none=>exact absurd qZ GL
     | some x'=>
      have:=h.inj i i' x x' b o n o' n' hm qZ fG e';subst this;exact GQ i (aT hj) mL
 have RR : ∀b,(F b\/eS μ m I b)->w'.heap[b]?=w.heap[b]?:=λb hb=>Jz b (YT b hb).1 (YT b hb).2;have JQ:∀b,(F b\/eS μ m I b)->F' b:=hI.sub
 -- Oi F4 Tn values lead to
 have hz:=h.freeze I;have NU:∀i,U i->C7 (nA m I) (m_ m ord kb id I os) μ ν i:=by
  intro i hi;by_cases u3:i∈ord
  ·obtain⟨j,hj⟩:=List.getElem?_of_mem u3;have Le:nA m I i=m i:=by rw[iV,af (GQ i u3)]
   by_cases N4:j<kb
   ·obtain⟨tb,cs,kN,b,n,n',e1,e2,e3,e4,e5⟩:=Tr j i N4 hj;refine .inr ⟨tb,cs,tb,kN.map (Ak 3 (nR ord kb id)),b,n,n',by rw[Le];exact e1,?_,e4,by rw[EL j i N4 hj];exact e5,by rw[aj];exact e3⟩;rw[Ad j i N4 hj];unfold Mem.iu;rw[e2];rfl
   ·refine .inl ⟨?_,λgN=>absurd (I6 j i (by omega) hj) gN⟩;rw[I6 j i (by omega) hj];cases nA m I i with | none=>trivial | some b=>cases b<;>trivial
  ·refine .inl ⟨?_,λ_=>zv i hi u3⟩;rw[LW i hi u3];exact .refl _
 -- ids of F4 callee,as F4 caller has ZM
 have Dz:∀j,kb<=j->nR ord kb id j=id+(j - kb):=by
  intro j hj;have:Nat.blt j kb=false:=by rw[<-a_];exact λe=>by have:j+1<=kb:=aG e;omega
  simp[nR,this]
 have DA:∀j i,j<kb->ord[j]?=some i->nR ord kb id j=i:=by
  intro j i hj hi;have:Nat.blt j kb=true:=cb hj;simp[nR,this,ah,hi]
 have Pf:KZ (nR ord kb id) (Mem.iu os) (m_ m ord kb id I os) fC ν (λi=>i<os.length) (U8 U id):=by
  have L6:∀j,j<os.length->m_ m ord kb id I os (nR ord kb id j)=nZ (nR ord kb id) (Mem.iu os j)/\ν (nR ord kb id j)=fC j/\U8 U id (nR ord kb id j):=by
   intro j hj;by_cases N4:j<kb
   ·obtain⟨i,tb,cs,h1,h2⟩:=qa j N4;rw[DA j i N4 h1];exact⟨Ad j i N4 h1,EL j i N4 h1,.inl (Cg j i h1)⟩
   ·rw[Dz j (by omega)];exact⟨DO j (by omega) hj,H8 j (by omega) hj,.inr (by omega)⟩
  refine⟨λj hj gN=>?_,λj hj _=>(L6 j hj).2.1,λj hj _=>(L6 j hj).2.2,λj hj _=>(L6 j hj).2.2⟩;have h1:=(L6 j hj).1;cases hb:Mem.iu os j with
  | none=>rw[hb]at h1;exact absurd h1 gN
  | some b=>exact⟨b,rfl,by rw[h1,hb]⟩
 have holdsNew:∀j i b',nR ord kb id j=i->ν i=fC j->m_ m ord kb id I os i=nZ (nR ord kb id) (Mem.iu os j)->m_ m ord kb id I os i=some b'->Holds w' F' ν (m_ m ord kb id I os) (U8 U id) i b':=by
  intro j i b' hr Sa ho jP;cases hb:Mem.iu os j with
  | none=>rw[hb]at ho;rw[ho]at jP;cases jP
  | some b=>
   have hB:=hI.lQ j b hb;rw[ho,hb]at jP;cases b with
   | box tb cs=>
    cases jP;obtain⟨b,C,f,e1,e2,e3,e4,e5⟩:=hB;refine⟨b,C,f,by rw[Sa];exact e1,e2,by simpa using e3,e4,λk c hk=>?_⟩;simp only[aP,aD]at hk;obtain⟨z,hz,rfl⟩:=hk;exact OW Pf 3 (e5 k z hz)
   | row fl sz xs=>
    cases jP;obtain⟨e1,e2,e3⟩:=hB;refine⟨e1,e2,?_⟩;rw[Sa];exact e3
 have IC:∀j i b',m_ m ord kb id I os i=nZ (nR ord kb id) (Mem.iu os j)->m_ m ord kb id I os i=some b'->∃b,Mem.iu os j=some b:=by
  intro j i b' h1 h2;cases hb:Mem.iu os j with
  | none=>rw[hb]at h1;rw[h1]at h2;cases h2
  | some b=>exact⟨b,rfl⟩
 -- each aaj block: in F4 To X2,or one Q_ ZJ not TG
 have src:∀i b',m_ m ord kb id I os i=some b'->∀b o n,ν i=some (b,o,n)->(∃j c,Mem.iu os j=some c/\fC j=some (b,o,n)/\nR ord kb id j=i)\/(i ∉ ord/\i ∉ I/\m i=some b'/\μ i=some (b,o,n)):=by
  intro i b' hi b o n hb;rcases ids i b' hi with⟨j,h1,h2,rfl⟩|⟨j,h1,h2⟩|⟨h1,h2,h3,h4⟩
  ·obtain⟨c,hc⟩:=IC j _ b' (DO j h1 h2) hi;exact .inl ⟨j,c,hc,by rw[<-H8 j h1 h2];exact hb,Dz j h1⟩
  ·obtain⟨c,hc⟩:=IC j _ b' (Ad j i h1 h2) hi;exact .inl ⟨j,c,hc,by rw[<-EL j i h1 h2];exact hb,DA j i h1 h2⟩
  ·exact .inr ⟨h1,h2,h3,by rw[<-zv i (h.used i b' h3) h1];exact hb⟩
 have Bz:∀i x b o n,i ∉ ord->m i=some x->μ i=some (b,o,n)->b<w.heap.size/\¬ handed ord μ b:=by
  intro i x b o n Ch hm fG;refine⟨(h.own i x b o n hm fG).2.1,?_⟩;rintro⟨j,i',o',n',hj,eh⟩;cases qZ : m i' with
  | none=>exact absurd qZ (hg.2 i' (aT hj))
  | some x'=>
   have:=h.inj i i' x x' b o n o' n' hm qZ fG eh;subst this;exact Ch (aT hj)
 have Ou:∀b,W0.N b->(W0.sub ord μ w h.below hn).N b:=λb hb=>⟨bB (W0.lt b hb) h.below.size,λhh=>hn b hh hb⟩;refine⟨ν,{ below:=?_,dW:=?_,sub:=λb hb=>JQ b (.inl (h.sub b hb)),gl:=λb hb=>JQ b (.inl (h.gl b hb)),used:=?_,lQ:=?_,own:=?_,inj:=?_,dT:=?_ }⟩
 ·exact⟨hI.below.os.trans h.below.os,hI.below.tape.trans h.below.tape,hI.below.output.trans h.below.output,cr h.below.size hI.below.size,λb hb=>(hI.below.block b (Ou b hb)).trans (h.below.block b hb)⟩
 ·intro b hb;obtain⟨h1,h2⟩:=hI.dW b hb;refine⟨h1,?_⟩;rcases h2 with h2|h2
  ·exact(hz.dW b h2).2
  ·exact .inr (λhN=>h2 (Ou b hN))
 ·intro i b' hi;rcases ids i b' hi with⟨j,h1,h2,rfl⟩|⟨j,h1,h2⟩|⟨h1,h2,h3,h4⟩
  ·exact .inr (by omega)
  ·exact .inl (Cg j i h2)
  ·exact .inl (h.used i b' h3)
 ·intro i b' hi;rcases ids i b' hi with⟨j,h1,h2,rfl⟩|⟨j,h1,h2⟩|⟨h1,h2,h3,h4⟩
  ·exact holdsNew j _ b' (Dz j h1) (H8 j h1 h2) (DO j h1 h2) hi
  ·exact holdsNew j _ b' (DA j i h1 h2) (EL j i h1 h2) (Ad j i h1 h2) hi
  ·have Le:nA m I i=some b':=by rw[iV,af h2];exact h3
   have hB:=hz.lQ i b' Le;have YP:=h.used i b' h3;cases b' with
   | box tb cs=>
    obtain⟨b,C,f,e1,e2,e3,e4,e5⟩:=hB;obtain⟨r1,r2⟩:=Bz i _ b _ _ h1 h3 e1;exact⟨b,C,f,by rw[zv i YP h1];exact e1,by rw[Jz b r1 r2];exact e2,e3,e4,λk c hk=>(e5 k c hk).o0 JQ RR (λi hi=>.inl hi) NU⟩
   | row fl sz xs=>
    obtain⟨e1,e2,e3⟩:=hB;refine⟨e1,e2,?_⟩;rw[zv i YP h1];rcases e3 with e3|⟨b,o,C,f,g1,g2,g3,g4,g5⟩
    ·exact .inl e3
    ·obtain⟨r1,r2⟩:=Bz i _ b _ _ h1 h3 g1;exact .inr ⟨b,o,C,f,g1,by rw[Jz b r1 r2];exact g2,g3,g4,λk c hk=>(g5 k c hk).mono JQ RR⟩
 ·intro i b' b o n hi hb;rcases src i b' hi b o n hb with⟨j,c,hc,fG,_⟩|⟨h1,h2,h3,fG⟩
  ·obtain⟨g1,g2,g3⟩:=hI.own j c b o n hc fG;exact⟨λhN=>g1 (Ou b hN),g2,g3⟩
  ·obtain⟨g1,g2,g3⟩:=h.own i b' b o n h3 fG;obtain⟨r1,r2⟩:=Bz i _ b _ _ h1 h3 fG;refine⟨g1,bB g2 hI.below.size,λhF'=>?_⟩;rcases(hI.dW b hF').2 with q|q
   ·rcases q with q|⟨i',mL,GL,o',n',e'⟩
    ·exact g3 q
    ·cases qZ : m i' with
     | none=>exact absurd qZ GL
     | some x'=>
      have:=h.inj i i' b' x' b o n o' n' h3 qZ fG e';subst this;exact h2 mL
   ·exact q ⟨r1,r2⟩
 ·intro i i' x x' b o n o' n' hi mL hb jP;rcases src i x hi b o n hb with⟨j,c,hc,fG,hr⟩|⟨h1,h2,h3,fG⟩
  ·rcases src i' x' mL b o' n' jP with⟨j',c',Eh,eh,HU⟩|⟨Ue,SN,W_,eh⟩
   ·have:=hI.inj j j' c c' b o n o' n' hc Eh fG eh;subst this;rw[<-hr,<-HU]
   ·obtain⟨r1,r2⟩:=Bz i' _ b _ _ Ue W_ eh;exact absurd ⟨r1,r2⟩ (hI.own j c b o n hc fG).1
  ·rcases src i' x' mL b o' n' jP with⟨j',c',Eh,eh,HU⟩|⟨Ue,SN,W_,eh⟩
   ·obtain⟨r1,r2⟩:=Bz i _ b _ _ h1 h3 fG;exact absurd ⟨r1,r2⟩ (hI.own j' c' b o' n' Eh eh).1
   ·exact h.inj i i' x x' b o n o' n' h3 W_ fG eh
 ·rintro c u (hc|⟨rfl,rfl⟩)
  ·exact(hz.dT c u hc).o0 JQ RR (λi hi=>.inl hi) NU
  ·exact vQ hp (hI.dT _ _ ⟨rfl,rfl⟩)
end
section
variable {R:Type} {P:Program} {G:fv} {o:Oper} {a:Act} {w w' : World} {W0:fh} {F0 U F F' : Nat->Prop} {id:Nat} {L L' : AV->Value->Prop} {K:AV->Mem->Option R} {r:R} {m:Mem} {μ β:Mu} {S:List AV}
theorem n6(xs:List AV)(bs:List AV):l9 (xs++[.eC bs])=true:=by simp[l9]
theorem KF{b:Bool}{x:AV}{bs:List AV}(h:(bif b then some x else none)=some (.eC bs)):x=.eC bs:=by cases b<;>simp at h;exact h
theorem oZ(G:fv):∀(ts:List TypeId) (xs ys:List AV),k9 G ts xs=some ys->(∀y∈xs,∀bs,y≠.eC bs)->∀y∈ys,∀bs,y≠.eC bs
 | [],[],ys,e,h=>by simp[k9]at e;subst e;simp
 | [],_::_,ys,e,h=>by simp[k9]at e
 | _::_,[],ys,e,h=>by simp[k9]at e
 | t::ts,x::xs,ys,e,h=>by
  simp only[k9]at e;split at e
  ·rename_i y s hy hs;cases e;intro z hz bs;rcases cj.1 hz with rfl|hz
   ·have hx:=h x (by simp);intro e;subst e;unfold yA at hy;split at hy
    ·split at hy
     ·rename_i cs;cases hb:Nat.beq cs.length _<;>rw[hb]at hy
      ·cases hy
      ·simp only[ak,aD]at hy;obtain⟨_,_,hy⟩:=hy;cases hy
     ·split at hy
      ·split at hy
       ·simp only[aD]at hy;obtain⟨_,_,hy⟩:=hy;cases hy
       ·cases hy
      ·cases hy
     ·split at hy
      ·rename_i k _;cases k<;>simp only[v7]at hy<;>(try (cases hy;exact hx _ rfl))
       ·split at hy
        ·cases hy
        ·exact absurd (KF hy) (by simp)
        ·cases hy
       ·split at hy
        ·cases hy
        ·cases hy
        ·cases hy;exact hx _ rfl
      ·cases hy
    ·cases hy
   ·exact oZ G ts xs s hs (λy hy=>h y (by simp[hy])) z hz bs
  ·cases e
theorem qp(m:Mem):∀(xs ys:List AV),lL m xs=some ys->∀y∈ys,∀bs,y≠.eC bs
 | [],ys,e=>by simp[lL]at e;subst e;simp
 | x::xs,ys,e=>by
  simp only[lL]at e;split at e
  ·rename_i y s hy hs;cases e;intro z hz bs;rcases cj.1 hz with rfl|hz
   ·intro e;subst e;cases x<;>simp only[fc,vk,nl,jF]at hy<;>first|(cases hy;done)|(simp at hy;done)|skip
    all_goals (repeat' split at hy)
    all_goals first|(cases hy;done)|(simp at hy;done)
   ·exact qp m xs s hs z hz bs
  ·cases e
theorem yD(h:dj W0 F0 U m L w μ F)(I:List Nat):∀(us ys:List AV) (u:Nat->Value),lL m us=some ys->(∀j c,us[j]?=some c->fg w F μ m U c (u j))->(∀i∈us.flatMap (jn m),i∈I)->
  (o_ us ys).length=ys.length/\∀j c,(o_ us ys)[j]?=some c->Rel w (λb=>F b\/eS μ m I b) c (u j)
 | [],ys,u,hv,_,_=>by simp[lL]at hv;subst hv;exact⟨rfl,by simp[o_]⟩
 | x::r,ys,u,hv,hr,hI=>by
  simp only[lL]at hv;split at hv
  ·rename_i y s hy hs;cases hv;obtain⟨l2,r2⟩:=yD h I r s (λj=>u (j+1)) hs (λj c hj=>hr (j+1) c (by simpa using hj)) (λi hi=>hI i (by simp only[bD,aS];exact .inr hi));have hx:=hr 0 x rfl;have QH:∀i∈jn m x,i∈I:=λi hi=>hI i (by simp only[bD,aS];exact .inl hi);have h0:Rel w (λb=>F b\/eS μ m I b) (match(generalizing:=false) x,y with | .own _ _ _,.sl fl sz xs=>.sl ⟨fl.b,fl.te,true⟩ sz xs|_,y=>y) (u 0):=by
    have RP:=rl h hx hy I QH;split
    ·rename_i id off l fl sz xs;simp only[fc,vk,nl,jF]at hy;split at hy
     ·rename_i iA jL oN hm;cases hy;exact FU true h hx hm I (QH id (by simp[jn,wD,lG]))
     ·cases hy
    ·exact RP
   refine⟨by simp only[o_,az,l2],λj c hj=>?_⟩;cases j with
   | zero=>simp only[o_,List.getElem?_cons_zero,bh]at hj;subst hj;exact h0
   | succ j=>exact r2 j c (by simpa[o_]using hj)
  ·cases hv
theorem tK(hG:et P G):∀(ts:List TypeId) (xs ys:List AV) (u:Nat->Value),jV G ts xs=some ys->(∀j c,xs[j]?=some c->Rel w F c (u j))->ys.length=xs.length/\∀j c,ys[j]?=some c->Rel w F c (u j)
 | [],[],ys,u,e,h=>by simp[jV]at e;subst e;exact⟨rfl,by simp⟩
 | [],_::_,ys,u,e,h=>by simp[jV]at e
 | _::_,[],ys,u,e,h=>by simp[jV]at e
 | t::ts,x::xs,ys,u,e,h=>by
  simp only[jV]at e;split at e
  ·rename_i y s hy hs;cases e;obtain⟨l1,h2⟩:=tK hG ts xs s (λj=>u (j+1)) hs (λj c hj=>h (j+1) c (by simpa using hj));refine⟨by simp[l1],λj c hj=>?_⟩;cases j with
   | succ j=>exact h2 j c (by simpa using hj)
   | zero=>
    simp at hj;subst hj;have hx:=h 0 x rfl;unfold DU at hy;split at hy
    ·(repeat' split at hy)<;>first|(cases hy;done)|(obtain⟨_,hy⟩:=c_ hy;cases hy;exact hx)
    ·exact sO hG hy hx
  ·cases e
theorem rC(G:fv):∀(ts:List TypeId) (xs ys:List AV),jV G ts xs=some ys->(∀y∈xs,∀bs,y≠.eC bs)->∀y∈ys,∀bs,y≠.eC bs
 | [],[],ys,e,h=>by simp[jV]at e;subst e;simp
 | [],_::_,ys,e,h=>by simp[jV]at e
 | _::_,[],ys,e,h=>by simp[jV]at e
 | t::ts,x::xs,ys,e,h=>by
  simp only[jV]at e;split at e
  ·rename_i y s hy hs;cases e;intro z hz bs;rcases cj.1 hz with rfl|hz
   ·unfold DU at hy;split at hy
    ·(repeat' split at hy)<;>first|(cases hy;done)|(obtain⟨_,hy⟩:=c_ hy;cases hy;simp)
    ·refine oZ G [t] [x] [z] ?_ (λy hy=>h y (by simp at hy;simp[hy])) z (by simp) bs;simp only[k9,hy]
   ·exact rC G ts xs s hs (λy hy=>h y (by simp[hy])) z hz bs
  ·cases e
theorem wg:∀(us ys:List AV),(∀y∈ys,∀bs,y≠.eC bs)->∀y∈o_ us ys,∀bs,y≠.eC bs
 | [],ys,h=>by cases ys<;>exact h
 | _::_,[],h=>by simp[o_]
 | x::r,y::s,h=>by
  intro z hz bs;unfold o_ at hz;rcases cj.1 hz with rfl|hz
  ·split
   ·simp
   ·exact h y (by simp) bs
  ·exact wg r s (λy hy=>h y (by simp[hy])) z hz bs
theorem Gp(hG:et P G)(h:dj W0 F0 U m L w μ F)(I:List Nat){g:FuncId}{us M1 gi:List AV}{u:Nat->Value}(hv:lL m us=some M1)(hr:∀j c,us[j]?=some c->fg w F μ m U c (u j))(hI:∀i∈us.flatMap (jn m),i∈I)(e:BR G g us M1=some gi) :
  gi.length=M1.length/\∀j c,gi[j]?=some c->Rel w (λb=>F b\/eS μ m I b) c (u j):=by
 unfold BR at e;cases hg:G.rows g with
 | false=>
  rw[hg]at e;exact wa hG _ _ _ _ e (sB h I _ _ u hv hr hI).2
 | true=>
  rw[hg]at e;obtain⟨l1,r1⟩:=yD h I us M1 u hv hr hI;obtain⟨l2,r2⟩:=tK hG _ _ _ _ e r1;exact⟨l2.trans l1,r2⟩
theorem DT{g:FuncId}{us M1 gi:List AV}(hv:lL m us=some M1)(e:BR G g us M1=some gi):∀y∈gi,∀bs,y≠.eC bs:=by
 unfold BR at e;cases hg:G.rows g with
 | false=>rw[hg]at e;exact oZ G _ _ _ e (qp m _ _ hv)
 | true=>rw[hg]at e;exact rC G _ _ _ e (wg us M1 (qp m _ _ hv))
theorem D2{ys:List AV}(h:∀y∈ys,∀bs,y≠.eC bs):l9 ys=false:=by
 unfold l9;split
 ·rename_i bs e;exact absurd rfl (h _ (List.mem_of_getLast? e) bs)
 ·rfl
theorem CW{xs ys:List AV}{us vs:Array Value}(hl:us.size=xs.length)(h1:∀j q,xs[j]?=some q->fg w F μ m U q (us.getD j undef))(h2:∀j q,ys[j]?=some q->fg w F μ m U q (vs.getD j undef)) :
  ∀j q,(xs++ys)[j]?=some q->fg w F μ m U q ((us++vs).getD j undef):=by
 intro j q hj;by_cases eT:j<us.size
 ·rw[aO (by omega)]at hj;rw[aK,Array.getElem?_append_left eT,<-aK];exact h1 j q hj
 ·rw[aR (by omega)]at hj;rw[aK,Array.getElem?_append_right (by omega),<-aK,hl];exact h2 _ q hj
theorem He(hG:et P G){C:FuncId->List AV->(AV->Option R)->Option R}(hC:∀g gi (K:AV->Option R) r,C g gi K=some r->∃x,K x=some r/\jZ P W0.root g gi x)
  {g:FuncId} {us:List AV} {vals:Array Value} (wJ:(execOp a.eval o).run P w=(callFunc g vals).run P w) (JP:vals.size=us.length) (r_:∀j q,us[j]?=some q->fg w F μ m U q (vals.getD j undef))
  (h:dj W0 F0 U m L w μ F) (hid:∀j,j<8->¬ U (id+j)) (hK:t_ G C g us m id K=some r) :
  K1 P o a w W0 F0 U id L K r:=by
 unfold t_ at hK;obtain⟨UE,VV,eM⟩:=cS hK;clear hK;obtain⟨xs,xC,hK⟩:=cS eM;clear eM;obtain⟨I,hI⟩:∃I,I=us.flatMap (Ay m):=⟨_,rfl⟩;rw[<-hI]at hK;obtain⟨ord,uq⟩:∃ord,ord=kv m xs:=⟨_,rfl⟩;rw[<-uq]at hK;have GQ:∀i∈ord,i ∉ I:=by
  intro i hi hiI;have:(ord.any λi=>I.contains i)=true:=bR.2 ⟨i,hi,by simpa using hiI⟩;rw[this]at hK;cases hK
 have Mw:∀{b:Bool} {A:Option R},(bif b then none else A)=some r->A=some r:=by intro b A h;cases b<;>first|exact h|cases h
 replace hK:=Mw hK;obtain⟨x,eM,wM⟩:=hC _ _ _ _ hK;clear hK;split at eM
 ·rename_i y os;obtain⟨NW,hK⟩:=c_ eM;rw[ae]at NW;have hM:=wM.2.1 _ _ _ _ rfl rfl;obtain⟨l0,r0⟩:=zm h I _ _ (λj=>vals.getD j undef) VV r_ (λi hi=>by rw[hI];exact hi);obtain⟨l1,r1⟩:=v8 hG _ _ _ _ xC r0;have hz:=h.freeze I;have Le:∀i∈ord,nA m I i=m i:=λi hi=>by rw[iV,af (GQ i hi)]
  have T7:Good m ord:=by rw[uq];exact yr m xs
  have hg:Good (nA m I) ord:=⟨T7.1,λi hi=>by rw[Le i hi];exact T7.2 i hi⟩;have hn:∀b,handed ord μ b->¬ W0.N b:=by
   rintro b ⟨j,i,o,n,hj,fG⟩;have hi:=aT hj;cases hm:m i with
   | none=>exact absurd hm (T7.2 i hi)
   | some x=>exact(h.own i x b o n hm fG).1
  -- F4 values Q_ Y1 handed over,in memory as it ZJ (frozen ids Y1 none of XZ)
  have Cf:=hz.handOver (ord:=ord) hg hn (L':=λc v=>∃j,(xs.map (xj 4 ord))[j]?=some c/\v=vals.getD j undef) (by
   rintro c v ⟨j,hj,rfl⟩;rw[aP,aD]at hj;obtain⟨x,hx,rfl⟩:=hj;exact⟨4,x,rfl,r1 j x hx⟩)
  have ebs:(ord.map λi=>jQ (kZ ord (nA m I i)))=ord.map λi=>jQ (kZ ord (m i)):=List.map_congr_left λi hi=>by rw[Le i hi]
  rw[ebs]at Cf;have YW:nv (ord.map λi=>jQ (kZ ord (m i)))=(ord.filter λi=>oB (m i)).length:=by rw[uq];exact Gs m xs
  have qa:∀j,j<(ord.filter λi=>oB (m i)).length->∃i tb cs,ord[j]?=some i/\m i=some (.box tb cs):=by
   intro j hj;rw[uq]at hj ⊢;exact BL m xs hj
  have lv:vals.size=(xs.map (xj 4 ord)).length:=by rw[aj,l1,l0,JP]
  have Kd:∀i,i<nv (ord.map λi=>jQ (kZ ord (m i)))->∃n,(ord[i]?).bind μ=some ((W0.sub ord μ w h.below hn).bk i,0,n):=by
   intro j hj;rw[YW]at hj;obtain⟨i,tb,cs,h1,h2⟩:=qa j hj;obtain⟨b,C,f,e1,_⟩:=h.lQ i _ h2;refine⟨C.size,?_⟩;show(ord[j]?).bind μ=some ((((ord[j]?).bind μ).map (·.1)).getD 0,0,C.size);rw[h1];simp[e1]
  have fN:=hM (W0.sub ord μ w h.below hn) (λb=>F b\/eS μ m I b) vals (λj=>(ord[j]?).bind μ) rfl lv (by
   have:(ord.map λi=>jQ (kZ ord (m i))).length=ord.length:=aj ..;rw[this];exact Cf) Kd
  have key:∀(v:Value) (w' : World),(∃F' fC,dj (W0.sub ord μ w h.below hn) (λb=>F b\/eS μ m I b) (λi=>i<os.length) (Mem.iu os) (λc u=>c=y/\u=v) w' fC F'/\
    ∀i,i<nv (ord.map λi=>jQ (kZ ord (m i)))->∃n,fC i=some ((W0.sub ord μ w h.below hn).bk i,0,n))->
    ∃m',K y m'=some r/\Inv W0 F0 (U8 U id) m' (λc u=>L c u\/(c=y/\u=v)) w':=by
   rintro v w' ⟨F',fC,Lf,jP⟩;rw[YW]at jP;obtain⟨Ob,qM⟩:=h.Iu T7 GQ hn hid qa NW.2 NW.1 Lf jP;exact⟨_,hK,Ob,F',qM⟩
  intro next Q Ci
  unfold Oper.wp;rw[wJ];rcases fN with⟨e,wL⟩|⟨v,w',e,hv⟩
  ·have e' : (callFunc g vals).run P w=.ok (.enter g vals) w:=e;rw[e'];refine Calls.mono wL λen w' he=>?_;cases en with
   | returned v=>
    obtain⟨m',hK,hI⟩:=key v w' he;exact Ci y m' v w' hK hI
   | panicked _=>exact he.elim
   | outgrown=>exact he.elim
  ·have e' : (callFunc g vals).run P w=.ok (.value v) w':=e;rw[e'];obtain⟨m',hK,hI⟩:=key v w' hv;exact Ci y m' v w' hK hI
 ·cases eM
theorem dj.LF(h:dj W0 F0 U m L w μ F){j:Nat}{fl:Fl}{sz:Nat}{xs ys:List AV}(hm:m j=some (.row fl sz xs))(hn:∀b,handed [j] μ b->¬ W0.N b)(hl:ys.length=xs.length){y z:AV}{v:Value}(hz:KL j y=some z)
  (hE:dj (W0.sub [j] μ w h.below hn) F (λi=>i<8) (Mem.iu [.fr fl sz ys]) (λc u=>c=y/\u=v) w' (λk=>(([j]:List Nat)[k]?).bind μ) F) :
  dj W0 F0 U (m.gB j (some (.row fl sz ys))) (λc u=>L c u\/(c=z/\u=v)) w' μ F:=by
 have hd:∀b,handed [j] μ b->∃o n,μ j=some (b,o,n):=by
  rintro b ⟨k,i,o,n,hk,hb⟩;cases k with
  | zero=>simp at hk;subst hk;exact⟨o,n,hb⟩
  | succ k=>simp at hk
 have hnf:∀b,handed [j] μ b->¬ F b:=λb hb=>by
  obtain⟨o,n,e⟩:=hd b hb;exact(h.own j _ b o n hm e).2.2
 have hw:∀b,F b->w'.heap[b]?=w.heap[b]?:=λb hb=>hE.below.block b ⟨(h.dW b hb).1,λhh=>hnf b hh hb⟩;have lv:w.heap.size<=w'.heap.size:=hE.below.size;have sT:∀i,U i->eO (m i) ((m.gB j (some (.row fl sz ys))) i)/\((m.gB j (some (.row fl sz ys))) i≠none->μ i=μ i):=by
  intro i _;refine⟨?_,λ_=>rfl⟩;by_cases e:i=j
  ·subst e;rw[Mem.dQ,hm];exact⟨rfl,hl⟩
  ·rw[Mem.dy _ _ e];exact .refl _
 refine{
  below:=⟨hE.below.os.trans h.below.os,hE.below.tape.trans h.below.tape,hE.below.output.trans h.below.output,cr h.below.size lv,λk hk=>?_⟩
  dW:=λb hb=>⟨(hE.dW b hb).1,(h.dW b hb).2⟩
  sub:=h.sub
  gl:=h.gl
  used:=λi x hx=>?_
  lQ:=λi x hx=>?_
  own:=λi x b o n hx hb=>?_
  inj:=λi i' x x' b o n o' n' hx Fx hb jP=>?_
  dT:=?_ }
 ·have eT:k<w.heap.size:=bB (W0.lt k hk) h.below.size;exact(hE.below.block k ⟨eT,λhh=>hn k hh hk⟩).trans (h.below.block k hk)
 ·by_cases e:i=j
  ·subst e;exact h.used i _ hm
  ·rw[Mem.dy _ _ e]at hx;exact h.used i x hx
 ·by_cases e:i=j
  ·subst e;rw[Mem.dQ]at hx;cases hx;have h0:=hE.lQ 0 (.row fl sz ys) rfl;obtain⟨a1,a2,a3⟩:=h0;refine⟨a1,a2,?_⟩;simpa using a3
  ·rw[Mem.dy _ _ e]at hx;refine(h.lQ i x hx).mono (λ_ hb=>hb) hw (λ_ hi=>hi) sT rfl (λb o n hb=>?_);refine hE.below.block b ⟨(h.own i x b o n hx hb).2.1,λhh=>?_⟩;obtain⟨o',n',e'⟩:=hd b hh;exact e (h.inj i j _ _ b o n o' n' hx hm hb e')
 ·by_cases e:i=j
  ·subst e;have:=h.own i _ b o n hm hb;exact⟨this.1,bB this.2.1 lv,this.2.2⟩
  ·rw[Mem.dy _ _ e]at hx;have:=h.own i x b o n hx hb;exact⟨this.1,bB this.2.1 lv,this.2.2⟩
 ·have ex:∀i x,(m.gB j (some (.row fl sz ys))) i=some x->∃x',m i=some x':=by
   intro i x hx;by_cases e:i=j
   ·subst e;exact⟨_,hm⟩
   ·rw[Mem.dy _ _ e]at hx;exact⟨x,hx⟩
  obtain⟨q,hq⟩:=ex i x hx;obtain⟨q',qY⟩:=ex i' x' Fx;exact h.inj i i' q q' b o n o' n' hq qY hb jP
 ·rintro x u (hx|⟨rfl,rfl⟩)
  ·exact(h.dT x u hx).mono (λ_ hb=>hb) hw (λ_ hi=>hi) sT
  ·have h0:=hE.dT y u ⟨rfl,rfl⟩;unfold KL at hz;split at hz
   ·rename_i off l;cases hz;have h0:jG w' F (λk=>(([j]:List Nat)[k]?).bind μ) (Mem.iu [.fr fl sz ys]) (λi=>i<8) (.own 0 off l) u:=h0;obtain⟨h1,h2,h3⟩:=h0;refine⟨λ_=>h1 rfl,h.used j _ hm,λiA jL oN hx=>?_⟩;rw[Mem.dQ]at hx;cases hx;have:=h3 fl sz ys rfl;simpa using this
   ·cases hz;obtain⟨vs,e,hl,hr⟩:=h0;exact⟨vs,e,hl,by simp⟩
   ·cases hz
theorem Hf{C:FuncId->List AV->(AV->Option R)->Option R}(hC:∀g gi (K:AV->Option R) r,C g gi K=some r->∃x,K x=some r/\jZ P W0.root g gi x)
  {g:FuncId} {us:List AV} {vals:Array Value} (wJ:(execOp a.eval o).run P w=(callFunc g vals).run P w) (JP:vals.size=us.length) (r_:∀j q,us[j]?=some q->fg w F μ m U q (vals.getD j undef))
  (h:dj W0 F0 U m L w μ F) (hid:∀j,j<8->¬ U (id+j)) (hK:ql C g us m K=some r) :
  K1 P o a w W0 F0 U id L K r:=by
 unfold ql at hK;split at hK
 ·rename_i j off l rest;obtain⟨b,hm,hK⟩:=cS hK;split at hK
  ·rename_i fl sz xs;obtain⟨hv,hK⟩:=c_ hK;obtain⟨x,eM,wM⟩:=hC _ _ _ _ hK;clear hK;split at eM
   ·rename_i y iA jL ys;obtain⟨hq,hK⟩:=c_ eM;obtain⟨z,hz,hK⟩:=cS hK;rw[ae]at hq;have e1:=eq_of_beq hq.1;have e2:=aw hq.2;subst e1 e2;have hn:∀b,handed [j] μ b->¬ W0.N b:=by
     rintro b ⟨k,i,o,n,hk,hb⟩;cases k with
     | zero=>simp at hk;subst hk;exact(h.own j _ b o n hm hb).1
     | succ k=>simp at hk
    have hg:Good m [j]:=⟨by simp,λi hi=>by simp at hi;subst hi;rw[hm];simp⟩;obtain⟨e3,hM⟩:=wM.2.2 _ _ _ _ _ _ _ _ rfl rfl;have Cf:=h.handOver (ord:=[j]) hg hn (L':=λc v=>∃k,(AV.own 0 off l::rest)[k]?=some c/\v=vals.getD k undef) (by
     rintro c v ⟨k,hk,rfl⟩;refine⟨1,(AV.own j off l::rest).getD k .undef,?_,?_⟩
     ·cases k with
      | zero=>simp at hk;subst hk;simp[xj,jy,List.findIdx?_cons]
      | succ k=>
       simp at hk;have hvk:=aA.1 hv c (aT hk);rw[List.getD_cons_succ,ah,hk];cases c<;>first|rfl|(cases hvk;done)
     ·cases k with
      | zero=>exact r_ 0 _ rfl
      | succ k=>
       simp at hk;rw[List.getD_cons_succ,ah,hk];exact r_ (k+1) c (by simpa using hk))
    have WN:([j]:List Nat).map (λi=>jQ (kZ [j] (m i)))=[AV.fr iA jL xs]:=by simp[hm,kZ,jQ]
    rw[WN]at Cf;have fN:=hM (W0.sub [j] μ w h.below hn) F vals (λk=>(([j]:List Nat)[k]?).bind μ) rfl (by simpa using JP) Cf;have key:∀(v:Value) (w' : World),dj (W0.sub [j] μ w h.below hn) F (λi=>i<8*[AV.fr iA jL xs].length) (Mem.iu [.fr iA jL ys]) (λc u=>c=y/\u=v) w' (λk=>(([j]:List Nat)[k]?).bind μ) F->
      Inv W0 F0 (U8 U id) (m.gB j (some (.row iA jL ys))) (λc u=>L c u\/(c=z/\u=v)) w':=by
     intro v w' Lf;exact⟨μ,F,(h.LF hm hn e3 hz Lf).wider (λi hi=>.inl hi)⟩
    intro next Q Ci
    unfold Oper.wp;rw[wJ];rcases fN with⟨e,wL⟩|⟨v,w',e,hv⟩
    ·have e' : (callFunc g vals).run P w=.ok (.enter g vals) w:=e;rw[e'];refine Calls.mono wL λen w' he=>?_;cases en with
     | returned v=>exact Ci z _ v w' hK (key v w' he)
     | panicked _=>exact he.elim
     | outgrown=>exact he.elim
    ·have e' : (callFunc g vals).run P w=.ok (.value v) w':=e;rw[e'];exact Ci z _ v w' hK (key v w' hv)
   ·cases eM
  ·cases hK
 ·cases hK
theorem CR(hG:et P G){C:FuncId->List AV->(AV->Option R)->Option R}(hC:∀g gi (K:AV->Option R) r,C g gi K=some r->∃x,K x=some r/\jZ P W0.root g gi x)
  {g:FuncId} {us:List AV} {vals:Array Value} (wJ:(execOp a.eval o).run P w=(callFunc g vals).run P w) (JP:vals.size=us.length) (r_:∀j q,us[j]?=some q->fg w F μ m U q (vals.getD j undef))
  (h:dj W0 F0 U m L w μ F) (hid:∀j,j<8->¬ U (id+j)) {dr:Bool} (hK:gZ G C dr g us m id K=some r) :
  K1 P o a w W0 F0 U id L K r:=by
 unfold gZ at hK;cases R7:us.any kG with
 | true=>
  rw[R7,ak]at hK;cases dr with
  | true=>cases hK
  | false=>exact He hG hC wJ JP r_ h hid hK
 | false=>
 rw[R7,cond_false]at hK;cases Dd:G.refs g with
 | true=>
  rw[Dd,ak]at hK;cases dr with
  | true=>cases hK
  | false=>exact Hf hC wJ JP r_ h hid hK
 | false=>
 rw[Dd,cond_false]at hK;have Mw:∀{b:Bool} {A:Option R},(bif b then none else A)=some r->A=some r:=by intro b A h;cases b<;>first|exact h|cases h
 obtain⟨M1,Pr,eM⟩:=cS hK;clear hK;obtain⟨gi,has,hK⟩:=cS eM;clear eM;obtain⟨x,eM,wM⟩:=hC _ _ _ _ hK;clear hK;obtain⟨I,hI⟩:∃I,I=us.flatMap (jn m):=⟨_,rfl⟩;obtain⟨l0,r0⟩:=sB h I _ _ (λj=>vals.getD j undef) Pr r_ (λi hi=>by rw[hI];exact hi);obtain⟨l1,r1⟩:=Gp hG h I Pr r_ (λi hi=>by rw[hI];exact hi) has;have hz:=h.freeze I;have lv:vals.size=gi.length:=by rw[l1,l0,JP]
 have key:∀(v:Value) (w' : World),(∃F' β,Came w w' (λb=>F b\/eS μ m I b) F' β/\Dh w' F' β x v)->∃x' m',K x' m'=some r/\Inv W0 F0 (U8 U id) m' (λy u=>L y u\/(y=x'/\u=v)) w':=by
  rintro v w' ⟨F',β,lx,Mi⟩;have hs:=h.below.size;cases ic:nf x with
  | true=>
   rw[ic]at eM;simp only[ak]at eM;generalize hq:imp id m x=q at eM;obtain⟨y,cc,m'⟩:=q;obtain⟨Cn,hK⟩:=c_ eM;obtain⟨fC,hinv⟩:=JL hq (aG Cn) hid (h.world lx.below) (N:=w.heap.size) hs (λi y b o n hy hb=>(h.own i y b o n hy hb).2.1)
    (λk b o n hb=>⟨(lx.own k b o n hb).1,(lx.own k b o n hb).2.1,λhF=>(lx.own k b o n hb).2.2 (lx.sub b (.inl hF))⟩) lx.inj (F9 ic Mi)
   exact⟨y,m',hK,fC,F,hinv⟩
  | false=>
   rw[ic]at eM;simp only[cond_false]at eM
   ·replace eM:=Mw eM;rw[<-hI]at eM;generalize hq:imp id (nA m I) x=q at eM;obtain⟨y,cc,m'⟩:=q;obtain⟨Cn,hK⟩:=c_ eM;have Dc:=(hz.world lx.below).more (F':=F') lx.sub (λb hb=>⟨(lx.new b hb).1,by
     rcases(lx.new b hb).2 with h1|h1
     ·exact .inl h1
     ·refine .inr ⟨W0.new h.below h1,λi y o n hy jP=>?_⟩;have:=(hz.own i y b o n hy jP).2.1;omega⟩)
    obtain⟨fC,hinv⟩:=JL hq (aG Cn) hid Dc (N:=w.heap.size) hs (λi y b o n hy hb=>(hz.own i y b o n hy hb).2.1) (λk b o n hb=>lx.own k b o n hb) lx.inj Mi;exact⟨y,m',hK,fC,F',hinv⟩
 intro next Q hn
 have fN:=wM.1 (D2 (DT Pr has)) w (λb=>F b\/eS μ m I b) vals h.below.root (λb hb=>(hz.dW b hb).1) (λb hb=>.inl (h.gl b hb)) lv r1;unfold Oper.wp;rw[wJ];rcases fN with⟨e,wL⟩|⟨v,w',e,hv⟩
 ·rw[e];refine Calls.mono wL λen w' he=>?_;cases en with
  | returned v=>
   obtain⟨x',m',hK,hI⟩:=key v w' he;exact hn x' m' v w' hK hI
  | panicked _=>exact he.elim
  | outgrown=>exact he.elim
 ·rw[e];obtain⟨x',m',hK,hI⟩:=key v w' hv;exact hn x' m' v w' hK hI
theorem Ky(hG:et P G){C:FuncId->List AV->(AV->Option R)->Option R}(hC:∀g gi (K:AV->Option R) r,C g gi K=some r->∃x,K x=some r/\jZ P W0.root g gi x)
  (h:dj W0 F0 U m L w μ F) (hE:Env G S a L) (hid:∀j,j<8->¬ U (id+j)) {dr:Bool} (hK:eZ G C dr o S m id K=some r):K1 P o a w W0 F0 U id L K r:=by
 unfold eZ at hK;split at hK
 ·rename_i c e_;split at hK
  ·rename_i f hc;split at hK
   ·rename_i g f_ hf;have Mw:∀{b:Bool} {A:Option R},(bif b then none else A)=some r->A=some r:=by intro b A h;cases b<;>first|exact h|cases h
    replace hK:=Mw hK;have HW:=hE.rel h f;rw[hf]at HW;obtain⟨vs,Qt,JP,hvr⟩:=HW;have ra:∀j q,(c.args.toList.map (ev G S))[j]?=some q->fg w F μ m U q ((c.args.map a.eval).getD j undef):=by
     intro j q hj;simp only[aP,cw,aD]at hj;obtain⟨y,hy,rfl⟩:=hj;have e:(c.args.map a.eval).getD j undef=a.eval y:=by
      rw[aK];simp[hy]
     rw[e];exact hE.rel h y
    have rc:∀j q,f_[j]?=some q->fg w F μ m U q (vs.getD j undef):=λj q hj=>ej (ef (ga (hvr j q hj)));cases hb:Nat.blt g xn with
    | true=>
     rw[hb,ak]at hK;have Qt:a.eval f=.func (.func g) #[] vs:=by rw[Qt,Lg,hb];rfl
     exact CR hG hC (vals:=c.args.map a.eval++vs) (by simp[execOp,e_,resolve,hc,Qt,Deferred.ofValue,invoke]) (by simp[JP]) (CW (by simp) ra rc) h hid hK
    | false=>
     rw[hb,cond_false]at hK;have Qt:a.eval f=.func (.func (g - xn)) vs #[]:=by rw[Qt,Lg,hb];rfl
     exact CR hG hC (vals:=vs++c.args.map a.eval) (by simp[execOp,e_,resolve,hc,Qt,Deferred.ofValue,invoke]) (by simp[JP]) (CW JP rc ra) h hid hK
   ·cases hK
  ·exact(AN hG h hE hid hK).TH
 ·rename_i t p x e_;have Mw:∀{b:Bool} {A:Option R},(bif b then none else A)=some r->A=some r:=by intro b A h;cases b<;>first|exact h|cases h
  have eM:=Mw hK;rw[<-e_]at eM;exact(AN hG h hE hid eM).TH
 ·rename_i t n parts e_;have Mw:∀{b:Bool} {A:Option R},(bif b then none else A)=some r->A=some r:=by intro b A h;cases b<;>first|exact h|cases h
  have eM:=Mw hK;rw[<-e_]at eM;exact(AN hG h hE hid eM).TH
 ·exact(AN hG h hE hid hK).TH
end
def XP(G:fv)(W0:fh)(x:AV)(v:Value):Prop:=
 (∃g cs,G.GX g=some cs/\x=.rd cs/\v=.pointer (some ⟨g,0,none⟩))\/∃i,i<G.kb/\x=.ptr i 0/\v=.pointer (some ⟨W0.bk i,0,none⟩)
def xQ(G:fv)(W0:fh)(S:List AV)(a:Act)(x:AV)(v:Value):Prop:=
 (∃t,x=S.getD t .undef/\v=a.tmps.getD t undef)\/XP G W0 x v
structure mg(G:fv)(W0:fh)(F0 U:Nat->Prop)(m:Mem)(S:List AV)(a:Act)(w:World):Prop where
 defers:a.defers=[]
 len:S.length<=a.tmps.size
 inv:Inv W0 F0 U m (xQ G W0 S a) w
section
variable {R:Type} {P:Program} {G:fv} {o:Oper} {a:Act} {w w' : World} {W0:fh} {F0 U F F' : Nat->Prop} {id:Nat} {L L' : AV->Value->Prop} {r:R} {m:Mem} {μ β:Mu} {S:List AV}
theorem Tj:Env G S a (xQ G W0 S a):=⟨λt=>.inl ⟨t,rfl,rfl⟩,λg cs h=>.inr (.inl ⟨g,cs,h,rfl,rfl⟩)⟩
theorem Cz(S:List AV)(d t:Nat)(x:AV):(S.set d x).getD t .undef=if t=d/\d<S.length then x else S.getD t .undef:=by
 simp only[ah,List.getElem?_set];by_cases e:d=t
 ·subst e;by_cases h:d<S.length
  ·simp[h]
  ·simp[h]
 ·have:¬ t=d:=λh=>e h.symm;simp[e,this]
theorem Ir(C:Array Value)(d t:Nat)(v:Value):(C.setIfInBounds d v).getD t undef=if t=d/\d<C.size then v else C.getD t undef:=by
 simp only[aK,Array.getElem?_setIfInBounds];by_cases e:d=t
 ·subst e;by_cases h:d<C.size
  ·simp[h]
  ·simp[h]
 ·have:¬ t=d:=λh=>e h.symm;simp[e,this]
theorem mg.put(h:mg G W0 F0 U m S a w){d:Option Tmp}{x:AV}{v:Value}{m' : Mem}{U' : Nat->Prop}(hI:Inv W0 F0 U' m' (λy u=>xQ G W0 S a y u\/(y=x/\u=v)) w'):mg G W0 F0 U' m' (put S d x) (a.put d v) w':=by
 cases d with
 | none=>exact⟨h.defers,h.len,hI.weaken (λx v hx=>.inl hx)⟩
 | some d=>
  refine⟨h.defers,by simpa[Ev.put,Act.put]using h.len,?_⟩;obtain⟨μ,F,hI⟩:=hI;refine⟨μ,F,{ hI with dT:=?_ }⟩;rintro y u (⟨t,rfl,rfl⟩|hg)
  ·simp only[Ev.put,Act.put,Cz,Ir];have hlen:=h.len;by_cases e:t=d
   ·subst e;by_cases h1:t<S.length
    ·have h2:t<a.tmps.size:=by omega
     simp only[h1,h2,and_self,ck];exact hI.dT _ _ (.inr ⟨rfl,rfl⟩)
    ·have h3:S.getD t .undef=.undef:=by rw[ah,List.getElem?_eq_none (Nat.le_of_not_lt h1)];rfl
     simp only[h1,and_false,if_false,h3];exact⟨λh=>by simp[AV.pG]at h,.undef _⟩
   ·simp only[e,false_and,if_false];exact hI.dT _ _ (.inl (.inl ⟨t,rfl,rfl⟩))
  ·exact hI.dT _ _ (.inl (.inr hg))
theorem mg.same(h:mg G W0 F0 U m S a w){S' : List AV}(hl:S'.length=S.length)(hs:∀t,S'.getD t .undef=S.getD t .undef):mg G W0 F0 U m S' a w:=by
 refine⟨h.defers,by rw[hl];exact h.len,h.inv.weaken ?_⟩;rintro x v (⟨t,rfl,rfl⟩|hx)
 ·exact .inl ⟨t,hs t,rfl⟩
 ·exact .inr hx
theorem mg.EZ(h:mg G W0 F0 U m S a w){d:Nat}{x:AV}(hx:S.getD d .undef=x):mg G W0 F0 U m (S.set d x) a w:=by
 refine h.same (by simp) (λt=>?_);rw[Cz];by_cases e:t=d
 ·subst e;by_cases h1:t<S.length
  ·rw[ag ⟨rfl,h1⟩];exact hx.symm
  ·simp[h1]
 ·simp[e]
theorem mg.undef(h:mg G W0 F0 U m S a w){d:Option Tmp}{U' : Nat->Prop}(hU:∀i,U i->U' i):mg G W0 F0 U' m (Ev.put S d (.eC [])) (a.put d Go.undef) w:=by
 refine h.put ?_;obtain⟨μ,F,hI⟩:=h.inv;have hx:fg w F μ m U (.eC []) Go.undef:=⟨#[],rfl,rfl,by simp⟩;exact⟨μ,F,(hI.Tw hx).wider hU⟩
theorem step_ok(hG:et P G){C:FuncId->List AV->(AV->Option R)->Option R}(hC:∀g gi (K:AV->Option R) r,C g gi K=some r->∃x,K x=some r/\jZ P W0.root g gi x)
  {ops:Array Oper} {n i:Nat} {K:List AV->Mem->Option R} (h:mg G W0 F0 U m S a w) (hid:∀j,j<8->¬ U (8*(n+i)+j)) {dr:Bool} (hK:lM G C dr ops.toList n i S m K=some r)
  {next:Act->World->Prop} {Q:Exit->Act->World->Prop} (hn:∀S' m' a' w',K S' m'=some r->mg G W0 F0 (U8 U (8*(n+i))) m' S' a' w'->next a' w'):wpOp P ops Q i next a w:=by
 unfold lM at hK;split at hK
 ·rename_i o ho;have Pd : ops[i]?=some o:=by rw[<-ho];simp
  -- F4 operation VR
  have run:∀{S1:List AV},mg G W0 F0 U m S1 a w->eZ G C dr o S1 m (8*(n+i)) (λx m=>K (put S1 o.dst x) m)=some r->o.wp P a w next Q:=by
   intro S1 h1 hK;obtain⟨μ,F,hI⟩:=h1.inv;exact Ky hG hC hI Tj hid hK next Q (λx m' v w' hKx hIx=>hn _ m' _ w' hKx (h1.put hIx))
  split at hK
  ·rename_i hg;have hw:Region.wanted o (yielded ops a.tmps)=true:=by simp[Region.wanted,hg]
   simp only[wpOp,Pd,hw,ck];exact .inl (run h hK)
  ·rename_i g want hg;split at hK
   ·rename_i og T2;have Mj : ops[g]?=some og:=by rw[<-T2];simp
    split at hK
    ·rename_i d hd;split at hK
     ·rename_i hp;have JU:a.tmps.getD d Go.undef=.tuple #[]:=by
       obtain⟨μ,F,hI⟩:=h.inv;have:=hI.dT _ _ (.inl ⟨d,rfl,rfl⟩);rw[hp]at this;obtain⟨vs,e,hl,_⟩:=this;rw[e,Array.size_eq_zero_iff.1 hl]
      have hy:yielded ops a.tmps g=none:=by
       unfold yielded;simp only[Mj,ab,hd];rw[aK]at JU;cases hq:a.tmps[d]? with
       | none=>rfl
       | some q=>rw[hq]at JU;simp at JU;rw[JU]
      have JO:Region.wanted o (yielded ops a.tmps)=false:=by
       simp only[Region.wanted,hg,hy];cases want<;>rfl
      simp only[wpOp,Pd,JO];exact hn _ _ _ _ hK (h.undef (λi hi=>.inl hi))
     obtain⟨p,hp,hK⟩:=lf hK;have JU:a.tmps.getD d Go.undef=.bool p:=by
      obtain⟨μ,F,hI⟩:=h.inv;have:=hI.dT _ _ (.inl ⟨d,rfl,rfl⟩);rw[hp]at this;exact(eg this).1
     have hy:yielded ops a.tmps g=some p:=by
      unfold yielded;simp only[Mj,ab,hd];rw[aK]at JU;cases hq:a.tmps[d]? with
      | none=>rw[hq]at JU;cases JU
      | some q=>rw[hq]at JU;simp at JU;rw[JU]
     have hS:=h.EZ (x:=vb p) hp;have JO:Region.wanted o (yielded ops a.tmps)=(p==want):=by
      simp only[Region.wanted,hg,hy];cases p<;>cases want<;>rfl
     simp only[wpOp,Pd,JO];cases p<;>cases want
     ·exact .inl (run hS hK)
     ·exact hn _ _ _ _ hK (hS.undef (λi hi=>.inl hi))
     ·exact hn _ _ _ _ hK (hS.undef (λi hi=>.inl hi))
     ·exact .inl (run hS hK)
    ·cases hK
   ·cases hK
 ·cases hK
def Ul(U:Nat->Prop)(n:Nat)(l:List Nat):Nat->Prop:=λi=>U i\/∃k∈l,8*(n+k)<=i/\i<8*(n+k)+8
theorem I8(hG:et P G){C:FuncId->List AV->(AV->Option R)->Option R}(hC:∀g gi (K:AV->Option R) r,C g gi K=some r->∃x,K x=some r/\jZ P W0.root g gi x)
  {ops:Array Oper} {n:Nat} {dr:Nat->Bool} {pre:Nat->List AV->Mem->Bool} {K:List AV->Mem->Option R} {Q:Exit->Act->World->Prop}:∀(l:List Nat) (U:Nat->Prop) (m:Mem) (S:List AV) (a:Act) (w:World),
  mg G W0 F0 U m S a w->(∀i∈l,∀j,j<8->¬ U (8*(n+i)+j))->l.Nodup->sJ G C dr pre ops.toList n l S m K=some r->
  (∀S' m' a' w',K S' m'=some r->mg G W0 F0 (Ul U n l) m' S' a' w'->Q .normal a' w')->wpOps P ops Q l a w
 | [],U,m,S,a,w,h,_,_,hK,hn=>hn S m a w hK ⟨h.defers,h.len,by
   obtain⟨μ,F,hI⟩:=h.inv;exact⟨μ,F,hI.wider (λi hi=>.inl hi)⟩⟩
 | i::l,U,m,S,a,w,h,hid,GK,hK,hn=>by
  rw[wpOps_cons];simp only[sJ]at hK;obtain⟨_,hK⟩:=c_ hK;rw[List.nodup_cons]at GK;refine step_ok hG hC h (hid i (by simp)) hK (λS' m' a' w' fY h'=>?_);refine I8 hG hC l _ m' S' a' w' h' ?_ GK.2 fY ?_
  ·rintro k hk j hj (hu|hu)
   ·exact hid k (by simp[hk]) j hj hu
   ·have:k≠i:=λe=>GK.1 (e ▸ hk);omega
  ·intro S2 m2 a2 w2 jr h2;refine hn S2 m2 a2 w2 jr ⟨h2.defers,h2.len,?_⟩;obtain⟨μ,F,hI⟩:=h2.inv;refine⟨μ,F,hI.wider ?_⟩;rintro q ((hq|hq)|⟨k,hk,hq⟩)
   ·exact .inl hq
   ·exact .inr ⟨i,by simp,hq⟩
   ·exact .inr ⟨k,by simp[hk],hq⟩
def At(G:fv)(W0:fh)(F0:Nat->Prop)(S:St)(a:Act)(w:World):Prop:=mg G W0 F0 (λi=>i<8*S.mI) S.m S.tm a w
theorem Gc(hG:et P G){C:FuncId->List AV->(AV->Option R)->Option R}(hC:∀g gi (K:AV->Option R) r,C g gi K=some r->∃x,K x=some r/\jZ P W0.root g gi x)
  {ops:Array Oper} {S:St} {K:St->Option R} {Dy:Nat} (h:At G W0 F0 S a w) (hK:mQ G C ops false S K=some r) :
  (Code.region Dy ops false).wp P (λe a' w'=>e=.normal/\∃S',K S'=some r/\At G W0 F0 S' a' w') a w:=by
 refine wp_region (I8 hG hC (List.range ops.size) _ _ _ a w h ?_ List.nodup_range hK ?_)
 ·intro i _ j hj hu;omega
 ·intro S' m' a' w' fY h';refine⟨rfl,_,fY,h'.defers,h'.len,?_⟩;obtain⟨μ,F,hI⟩:=h'.inv;refine⟨μ,F,hI.wider ?_⟩;rintro q (hq|⟨k,hk,hq⟩)
  ·simp only;omega
  ·simp only[bM]at hk;simp only;omega
end
theorem ym{R:Type}{i:Int}{r:R}:∀(n:Nat) (K:Nat->Option R),ou i n K=some r->∃q:Nat,i=(q:Int)/\K q=some r
 | 0,K,h=>by simp[ou]at h
 | n+1,K,h=>by
  unfold ou at h;by_cases e:i=(n:Int)
  ·rw[decide_eq_true e]at h;exact⟨n,e,h⟩
  ·rw[aU e]at h;exact ym n K h
theorem F7{R:Type}{S:St}{t c n:Nat}{K:St->Option R}{r:R}(h:splitK S t c n K=some r):K S=some r:=by
 unfold splitK at h;split at h
 ·rename_i id o _;split at h
  ·rename_i tb cs hm;split at h
   ·rename_i k x hc;obtain⟨q,rfl,hq⟩:=ym _ _ h;have hs:cs.set (o+c) (.v (.int k (q:Int)))=cs:=by
     obtain⟨eT,e⟩:=aE.1 hc;rw[<-e];exact List.set_getElem_self eT
    rw[hs]at hq;have hu:S.m.gB id (Option.some (.box tb cs))=S.m:=Mem.vo hm;rw[hu]at hq;exact hq
   ·cases h
  ·cases h
 ·cases h
theorem pz{R:Type}{r:R}:∀(l:List (Nat × Option Nat × Fl × Nat)) (S:St) (K:St->Option R),splits l S K=some r->K S=some r
 | [],S,K,h=>h
 | (t,.some j,fl,n)::l,S,K,h=>by
  unfold splits at h;cases hb:Nat.ble 2000000 j with
  | true=>rw[hb,ak]at h;exact pz l S K (F7 h)
  | false=>rw[hb,cond_false]at h;exact pz l S K h
 | (_,.none,_,_)::l,S,K,h=>pz l S K h
def Ends(P:Program)(b:Frame)(cs:List Frame)(a:Act)(todo:List Item)(w:World)(T:Value->World->Prop):Prop:=
 ∃v w' fr,T v w'/\Steps P (lone (b.at a todo) cs w) (lone fr cs w')/\fr.fn=b.fn/\fr.leaving P w' (.returned v)
theorem Ends.step{P:Program}{b:Frame}{cs:List Frame}{a a' : Act}{todo Nb : List Item}{w w' : World}{T:Value->World->Prop}(h:Steps P (lone (b.at a todo) cs w) (lone (b.at a' Nb) cs w'))(h' : Ends P b cs a' Nb w' T) :
  Ends P b cs a todo w T:=by
 obtain⟨v,w1,fr,hT,hs,hf,hl⟩:=h';exact⟨v,w1,fr,hT,.trans h hs,hf,hl⟩
section
variable {R:Type} {P:Program} {G:fv} {a:Act} {w w' : World} {W0:fh} {F0 U F F' : Nat->Prop} {id:Nat} {L L' : AV->Value->Prop} {r:R} {m:Mem} {μ β:Mu} {S:List AV}
theorem At.cond{S:St}(h:At G W0 F0 S a w){c:Operand}{p:Bool}(hc:ev G S.tm c=vb p):a.eval c=.bool p/\At G W0 F0 { S with tm:=refine c p S.tm } a w:=by
 obtain⟨μ,F,hI⟩:=h.inv;have hv:=Tj.rel hI c;rw[hc]at hv;refine⟨(eg hv).1,?_⟩;cases c with
 | tmp t=>exact mg.EZ (S:=S.tm) h hc
 | _=>exact h
variable (hG:et P G) {C:FuncId->List AV->(AV->Option R)->Option R} (hC:∀g gi (K:AV->Option R) r,C g gi K=some r->∃x,K x=some r/\jZ P W0.root g gi x)
 {b:Frame} {cs:List Frame} {fn:Func} (hb:b.kind=.normal) (hf:P.funcs[b.fn]?=some fn) {T:R->Value->World->Prop}
 {cut:Nat->Option dP} {fin:St->Option R} (qM:∀S a w r,fin S=some r->At G W0 F0 S a w->∃v,(results fn a.tmps).run P w=.ok v w/\T r v w)
 (pk:∀Dy ops draw (S:St) (K:St->Option R) a w r,At G W0 F0 S a w->mQ G C ops draw S K=some r->(Code.region Dy ops draw).wp P (λe a' w'=>e=.normal/\∃S',K S'=some r/\At G W0 F0 S' a' w') a w)
include hb hf qM in
theorem Kq{S:St}{a:Act}{w:World}{r:R}(hK:fin S=some r)(h:At G W0 F0 S a w){todo:List Item}:∃v,T r v w/\({ b.at a todo with mode:=.returning }:Frame).leaving P w (.returned v):=by
 obtain⟨v,hr,hT⟩:=qM S a w r hK h;exact⟨v,hT,rfl,h.defers,hb,fn,hf,hr⟩
include hb hf qM pk in
theorem FI{rec:List Item->St->Option R}(R5:∀todo S a w r keep,rec todo (clean G.kb keep S)=some r->there G.kb (keep.fS.foldl zQ S).m=true->At G W0 F0 S a w->Ends P b cs a todo w (T r)):∀(n:Nat) (todo:List Item) (S:St) (a:Act) (w:World) (r:R),
  tW G C cut fin rec n todo S=some r->At G W0 F0 S a w->Ends P b cs a todo w (T r)
 | 0,todo,S,a,w,r,hK,h=>by simp[tW]at hK
 | n+1,todo,S,a,w,r,hK,h=>by
  have ih:=λtodo S a w r=>FI R5 n todo S a w r;unfold tW at hK;split at hK
  ·obtain⟨v,hT,hl⟩:=Kq hb hf qM hK h (todo:=[]);exact⟨v,w,_,hT,.one step_end,rfl,hl⟩
  ·exact .step (.one step_inBlock) (ih _ _ _ _ _ hK h)
  ·exact .step (.one step_inLoop) (ih _ _ _ _ _ hK h)
  ·rename_i c k;split at hK
   ·exact .step (.one step_skip) (ih _ _ _ _ _ hK h)
   ·exact .step (.one step_label) (ih _ _ _ _ _ hK h)
   ·exact .step (.one step_seq) (ih _ _ _ _ _ hK h)
   ·rename_i c t e;obtain⟨p,hp,hK⟩:=lf hK;obtain⟨hv,hA⟩:=h.cond hp;have hs:=step_cond (P:=P) (b:=b) (k:=k) (cs:=cs) (w:=w) (x:=t) (y:=e) hv;cases p with
    | true=>exact .step (.one (by simpa using hs)) (ih _ _ _ _ _ hK hA)
    | false=>exact .step (.one (by simpa using hs)) (ih _ _ _ _ _ hK hA)
   ·exact .step (.one step_block) (ih _ _ _ _ _ hK h)
   ·exact .step (.one step_loop) (ih _ _ _ _ _ hK h)
   ·obtain⟨k',sV,hK⟩:=cS hK;exact .step (.one (step_exit sV)) (ih _ _ _ _ _ hK h)
   ·obtain⟨v,hT,hl⟩:=Kq hb hf qM hK h (todo:=k);exact⟨v,w,_,hT,.one step_ret,rfl,hl⟩
   ·rename_i Dy ops draw;split at hK
    ·obtain⟨ht,hK⟩:=c_ hK;exact R5 _ _ _ _ _ _ hK ht h
    ·obtain⟨e,a',w',⟨rfl,S',fY,hA⟩,Ps⟩:=pk Dy ops draw S _ a w r h hK b k cs;exact .step Ps (ih _ _ _ _ _ fY hA)
   ·cases hK
  ·cases hK
include hb hf qM pk in
theorem Du(Ka:∀keep S a w,there G.kb (keep.fS.foldl zQ S).m=true->At G W0 F0 S a w->At G W0 F0 (clean G.kb keep S) a w):∀(n:Nat) (todo:List Item) (S:St) (a:Act) (w:World) (r:R),
  runK G C cut fin n todo S=some r->At G W0 F0 S a w->Ends P b cs a todo w (T r)
 | 0,todo,S,a,w,r,hK,h=>by simp[runK]at hK
 | n+1,todo,S,a,w,r,hK,h=>by
  simp only[runK]at hK;unfold uz at hK;split at hK
  ·rename_i Dy ops draw k;have hK:=pz _ _ _ hK;obtain⟨e,a',w',⟨rfl,S',fY,hA⟩,Ps⟩:=pk Dy ops draw S _ a w r h hK b k cs;exact .step Ps (FI hb hf qM pk (λtodo S a w r keep hK ht h=>Du Ka n todo _ a w r hK (Ka keep S a w ht h)) 1000 _ _ _ _ _ fY hA)
  ·cases hK
end
theorem rK(keep:List Tmp)(ord:List Nat):∀(xs:List AV) (i:Nat),(rL keep ord i xs).length=xs.length
 | [],_=>rfl
 | x::xs,i=>by simp[rL,rK keep ord xs]
theorem yG(keep:List Tmp)(ord:List Nat):∀(xs:List AV) (i t:Nat),(rL keep ord i xs).getD t .undef=.undef\/(rL keep ord i xs).getD t .undef=xj 4 ord (xs.getD t .undef)
 | [],_,t=>.inl (by simp[rL])
 | x::xs,i,0=>by
  simp only[rL];cases keep.contains i with
  | true=>exact .inr rfl
  | false=>exact .inl rfl
 | x::xs,i,t+1=>yG keep ord xs (i+1) t
section
variable {R:Type} {P:Program} {G:fv} {a:Act} {w w' : World} {W0:fh} {F0 U F F' : Nat->Prop} {id:Nat} {L L' : AV->Value->Prop} {r:R} {m m' : Mem} {μ fC β:Mu} {S:List AV}
theorem vA{kb:Nat}(h:there kb m=true):Good m (List.range kb):=by
 refine⟨List.nodup_range,λi hi e=>?_⟩;have:=aA.1 h i hi;rw[e]at this;cases this
theorem F2{m:Mem}:∀(n:Nat) (ord:List Nat) (x:AV),∃t,visit n m ord x=ord++t:=by
 intro n;induction n with
 | zero=>intro ord x;exact⟨[],by simp[visit]⟩
 | succ n ih=>
  have hl:∀(cs:List AV) (ord:List Nat),∃t,cs.foldl (visit n m) ord=ord++t:=by
   intro cs;induction cs with
   | nil=>intro ord;exact⟨[],by simp⟩
   | cons c cs ih2=>
    intro ord;obtain⟨t1,e1⟩:=ih ord c;obtain⟨t2,e2⟩:=ih2 (visit n m ord c);exact⟨t1++t2,by rw[List.foldl_cons,e2,e1,bz]⟩
  intro ord x;unfold visit;split
  ·cases ord.contains _ with
   | true=>exact⟨[],by simp⟩
   | false=>simp only[cond_false];split<;>first|exact⟨_,rfl⟩|exact⟨[],by simp⟩
  ·cases ord.contains _ with
   | true=>exact⟨[],by simp⟩
   | false=>simp only[cond_false];split<;>first|exact⟨_,rfl⟩|exact⟨[],by simp⟩
  ·cases ord.contains _ with
   | true=>exact⟨[],by simp⟩
   | false=>
    simp only[cond_false];split
    ·obtain⟨t,e⟩:=hl _ (ord++[_]);exact⟨_,by rw[e,bz]⟩
    ·exact⟨_,rfl⟩
    ·exact⟨[],by simp⟩
  ·cases ord.contains _ with
   | true=>exact⟨[],by simp⟩
   | false=>
    simp only[cond_false];split
    ·obtain⟨t,e⟩:=hl _ (ord++[_]);exact⟨_,by rw[e,bz]⟩
    ·exact⟨_,rfl⟩
    ·exact⟨[],by simp⟩
  all_goals first|exact hl _ _|exact⟨[],by simp⟩
theorem nG{α:Type}{m:Mem}{f:α->AV}:∀(l:List α) (ord:List Nat),∃t,l.foldl (λord q=>visit 6 m ord (f q)) ord=ord++t
 | [],ord=>⟨[],by simp⟩
 | q::l,ord=>by
  obtain⟨t1,e1⟩:=F2 (m:=m) 6 ord (f q);obtain⟨t2,e2⟩:=nG (f:=f) l (visit 6 m ord (f q));exact⟨t1++t2,by rw[List.foldl_cons,e2,e1,bz]⟩
theorem E6{kb:Nat}{ord t:List Nat}(h:ord=List.range kb++t){i:Nat}(hi:i<kb):ord[i]?=some i:=by
 rw[h,aO (by simpa using hi)];simp[hi]
theorem LP{kb:Nat}{ord t:List Nat}(h:ord=List.range kb++t)(hn:ord.Nodup){i:Nat}(hi:i<kb):jy ord i=some i:=by
 have hg:=E6 h hi;cases e:jy ord i with
 | none=>
  unfold jy at e;rw[List.findIdx?_eq_none_iff]at e;have:=e i (aT hg);simp at this
 | some j=>
  have hj:=iJ e;have:j<ord.length:=(aE.1 hj).1;rw[(List.getElem?_inj this hn).1 (hj.trans hg.symm)]
theorem nH{α:Type}{m:Mem}{f:α->AV}:∀(l:List α) (ord:List Nat),Good m ord->Good m (l.foldl (λord q=>visit 6 m ord (f q)) ord)
 | [],ord,h=>h
 | q::l,ord,h=>nH l _ (nJ 6 ord (f q) h)
theorem Hn(keep:List Tmp)(S:St)(a:Act)(w:World)(RT:there G.kb S.m=true)(h:At G W0 F0 S a w):At G W0 F0 (Es G.kb keep S) a w:=by
 obtain⟨μ,F,hI⟩:=h.inv;obtain⟨ord,uq⟩:∃ord,ord=(List.range G.kb).foldl (λord i=>visit 6 S.m ord (boxed S.m i)) (keep.foldl (λord t=>visit 6 S.m ord (S.tm.getD t .undef)) (List.range G.kb)):=⟨_,rfl⟩;have qh:Good S.m ord:=by rw[uq];exact nH _ _ (yF keep _ (vA RT))
 obtain⟨t0,Lb⟩:∃t,ord=List.range G.kb++t:=by
  rw[uq];obtain⟨t1,e1⟩:=nG (m:=S.m) (f:=λt=>S.tm.getD t .undef) keep (List.range G.kb);obtain⟨t2,e2⟩:=nG (m:=S.m) (f:=boxed S.m) (List.range G.kb) (keep.foldl (λord t=>visit 6 S.m ord (S.tm.getD t .undef)) (List.range G.kb));exact⟨t1++t2,by rw[e2,e1,bz]⟩
 have ic:Es G.kb keep S=⟨rL keep ord 0 S.tm,Mem.ofList (ord.map λi=>kZ ord (S.m i)),ord.length⟩:=by rw[uq];rfl
 have lH:∀j b',Mem.ofList (ord.map λi=>kZ ord (S.m i)) j=some b'->∃id b,ord[j]?=some id/\S.m id=some b/\b'=kZ ord (some b):=by
  intro j b' hj;simp only[Mem.ofList,aP,aD]at hj;obtain⟨id,hid,rfl⟩:=hj;cases hm:S.m id with
  | none=>exact absurd hm (qh.2 id (aT hid))
  | some b=>exact⟨id,b,hid,hm,rfl⟩
 have eT:∀(j id:Nat),ord[j]?=some id->j<ord.length:=λj id hj=>(aE.1 hj).1;have hc:P4 ord S.m (Mem.ofList (ord.map λi=>kZ ord (S.m i))) μ (λj=>(ord[j]?).bind μ) (λi=>i<8*ord.length):=by
  refine⟨λj id hj=>?_,λj id hj=>by simp[hj],λj id hj=>by have:=eT j id hj;show j<8*ord.length;omega⟩;cases hm:S.m id with
  | none=>exact absurd hm (qh.2 id (aT hj))
  | some b=>exact .inr ⟨b,rfl,by simp[Mem.ofList,hj,hm]⟩
 rw[ic];refine⟨h.defers,by simpa[rK]using h.len,λj=>(ord[j]?).bind μ,F,?_⟩;refine{ below:=hI.below,dW:=hI.dW,sub:=hI.sub,gl:=hI.gl,used:=?_,lQ:=?_,own:=?_,inj:=?_,dT:=?_ }
 ·intro j b' hj;obtain⟨id,b,hid,_,_⟩:=lH j b' hj;exact hc.used j id hid
 ·intro j b' hj;obtain⟨id,b,hid,hb,rfl⟩:=lH j b' hj;have hB:=hI.lQ id b hb;cases b with
  | box tb cs=>
   obtain⟨b,C,f,e1,e2,e3,e4,e5⟩:=hB;refine⟨b,C,f,by simp[hid,e1],e2,by simpa using e3,e4,λk c hk=>?_⟩;simp only[aP,aD]at hk;obtain⟨y,hy,rfl⟩:=hk;exact BC hc 3 (e5 k y hy)
  | row fl sz xs=>
   obtain⟨e1,e2,e3⟩:=hB;refine⟨e1,e2,?_⟩;simpa[hid]using e3
 ·intro j b' b o n hj hb;obtain⟨id,b1,hid,pR,rfl⟩:=lH j b' hj;simp only[hid,ab]at hb;exact hI.own id b1 b o n pR hb
 ·intro j j' b1 b2 b o n o' n' hj mK hb jP;obtain⟨id,c1,hid,Co,rfl⟩:=lH j b1 hj;obtain⟨uo,c2,Cl,Kc,rfl⟩:=lH j' b2 mK;simp only[hid,ab]at hb;simp only[Cl,ab]at jP;have e:=hI.inj id uo c1 c2 b o n o' n' Co Kc hb jP;subst e;exact(List.getElem?_inj (eT j _ hid) qh.1).1 (hid.trans Cl.symm)
 ·rintro x v (⟨t,rfl,rfl⟩|⟨g,cs,hg,rfl,rfl⟩|⟨i,hi,rfl,rfl⟩)
  ·have hp:=hI.dT _ _ (.inl ⟨t,rfl,rfl⟩);rcases yG keep ord S.tm 0 t with e|e
   ·rw[e];exact ej (ef (ga kY))
   ·rw[e];exact IS hc 4 hp
  ·exact hI.dT _ _ (.inr (.inl ⟨g,cs,hg,rfl,rfl⟩))
  ·have:=IS hc 4 (hI.dT _ _ (.inr (.inr ⟨i,hi,rfl,rfl⟩)));simpa only[xj,LP Lb qh.1 hi]using this
theorem At.Ox{S:St}(h:At G W0 F0 S a w){t:Nat}{x:AV}{n' : Nat}(hI:dj W0 F0 U m' (xQ G W0 S.tm a) w μ F)(hx:fg w F μ m' U x (a.tmps.getD t Go.undef))(hU:∀i,U i->i<8*n') :
  At G W0 F0 ⟨S.tm.set t x,m',n'⟩ a w:=by
 have Lf : dj W0 F0 U m' (xQ G W0 (S.tm.set t x) a) w μ F:=by
  refine{ hI with dT:=?_ };rintro y v (⟨t',rfl,rfl⟩|hg)
  ·by_cases e:t'=t
   ·subst e;by_cases eT:t'<S.tm.length
    ·simpa[ah,eT]using hx
    ·have:=hI.dT _ _ (.inl ⟨t',rfl,rfl⟩);simpa[ah,List.getElem?_set,eT]using this
   ·have:=hI.dT _ _ (.inl ⟨t',rfl,rfl⟩);simpa[ah,List.getElem?_set_ne (Ne.symm e)]using this
  ·exact hI.dT _ _ (.inr hg)
 exact⟨h.defers,by simpa using h.len,μ,F,Lf.wider hU⟩
theorem E8{id:Nat}{fl:Fl}{sz:Nat}(hu:U id)(hm:m id=some (.row fl sz [])):fL w F μ m U (.own id 0 none) (.slice none 0 0):=by
 refine⟨λ_=>rfl,hu,λiA jL xs hx=>?_⟩;rw[hm]at hx;cases hx;exact⟨none,0,by simp[lenOf],by simp[lenOf],by simp[lenOf],.inl ⟨rfl,rfl⟩⟩
theorem At.CF{S:St}(h:At G W0 F0 S a w)(fl:Fl)(sz:Nat) :
  ∃μ F,dj W0 F0 (λi=>i<8*S.mI\/i=8*S.mI) (S.m.gB (8*S.mI) (some (.row fl sz []))) (xQ G W0 S.tm a) w μ F:=by
 obtain⟨μ,F,hI⟩:=h.inv;refine⟨_,F,hI.zr (q:=none) (x:=.row fl sz []) (L':=xQ G W0 S.tm a) (by show ¬ (_<_);omega) hI.below (aH _) (λ_ _ _=>rfl) (by simp) ⟨by simp,by simp[dm],.inl ⟨rfl,by simp⟩⟩ (λy v hy=>.inl hy)⟩
theorem dj.IE{S:St}(hI:dj W0 F0 U m (xQ G W0 S.tm a) w μ F){id j:Nat}{tb:TypeId}{cs:List AV}{x:AV}(hid:m id=some (.box tb cs))(hx:∀v,(∃C:Array Value,v=C.getD j Go.undef/\∀k c,cs[k]?=some c->fL w F μ m U c (C.getD k Go.undef))->j<cs.length->fL w F μ m U x v) :
  dj W0 F0 U (m.gB id (some (.box tb (cs.set j x)))) (xQ G W0 S.tm a) w μ F:=by
 have sT:∀i,U i->eO (m i) (m.gB id (some (.box tb (cs.set j x))) i)/\(m.gB id (some (.box tb (cs.set j x))) i≠none->μ i=μ i):=by
  intro i hi;refine⟨?_,λ_=>rfl⟩;by_cases e:i=id
  ·subst e;rw[Mem.dQ,hid];simp[eO]
  ·rw[Mem.dy _ _ e];exact .refl _
 have hex:∀i y,m.gB id (some (.box tb (cs.set j x))) i=some y->∃y',m i=some y':=by
  intro i y hy;by_cases e:i=id
  ·subst e;exact⟨_,hid⟩
  ·rw[Mem.dy _ _ e]at hy;exact⟨y,hy⟩
 refine{ below:=hI.below,dW:=hI.dW,sub:=hI.sub,gl:=hI.gl,used:=?_,lQ:=?_,own:=?_,inj:=?_,dT:=?_ }
 ·intro i y hy;obtain⟨y',h'⟩:=hex i y hy;exact hI.used i y' h'
 ·intro i y hy;by_cases e:i=id
  ·subst e;rw[Mem.dQ]at hy;cases hy;obtain⟨b,C,f,e1,e2,e3,e4,e5⟩:=hI.lQ i _ hid;refine⟨b,C,f,e1,e2,by simpa using e3,e4,λk c hk=>?_⟩;rw[List.getElem?_set]at hk;split at hk
   ·rename_i XE;subst XE;split at hk
    ·rename_i eT;cases hk;exact(hx _ ⟨C,rfl,e5⟩ eT).mono (λ_ h=>h) (λ_ _=>rfl) (λ_ h=>h) sT
    ·cases hk
   ·exact(e5 k c hk).mono (λ_ h=>h) (λ_ _=>rfl) (λ_ h=>h) sT
  ·rw[Mem.dy _ _ e]at hy;exact(hI.lQ i y hy).mono (λ_ h=>h) (λ_ _=>rfl) (λ_ h=>h) sT rfl (λ_ _ _ _=>rfl)
 ·intro i y b o n hy hb;obtain⟨y',h'⟩:=hex i y hy;exact hI.own i y' b o n h' hb
 ·intro i i' y y' b o n o' n' hy pg hb jP;obtain⟨z,hz⟩:=hex i y hy;obtain⟨z',Dc⟩:=hex i' y' pg;exact hI.inj i i' z z' b o n o' n' hz Dc hb jP
 ·intro y v hy;exact(hI.dT y v hy).mono (λ_ h=>h) (λ_ _=>rfl) (λ_ h=>h) sT
theorem Lu(S:St)(t:Nat)(h:At G W0 F0 S a w):At G W0 F0 (Oo S t) a w:=by
 unfold Oo;split
 ·rename_i y hy;obtain⟨μ,F,hI⟩:=h.inv;have hx:=hI.dT _ _ (.inl ⟨t,rfl,rfl⟩);exact h.Ox (hI.freeze _) (ej (ef (fm (rl hI hx hy _ (λi hi=>hi))))) (λ_ hi=>hi)
 ·exact h
theorem LC(S:St)(e:Nat × Option Nat × Fl × Nat)(h:At G W0 F0 S a w):At G W0 F0 (zQ S e) a w:=by
 obtain⟨t,oj,fl,sz⟩:=e;obtain⟨μ,F,hI⟩:=h.CF fl sz;have hU:∀i,(i<8*S.mI\/i=8*S.mI)->i<8*(S.mI+1):=by intro i hi;omega
 have fX:=E8 (w:=w) (F:=F) (μ:=μ) (U:=λi=>i<8*S.mI\/i=8*S.mI) (.inr rfl) (Mem.dQ S.m (8*S.mI) (some (.row fl sz [])));have ht:=hI.dT _ _ (.inl ⟨t,rfl,rfl⟩);cases oj with
 | none=>
  simp only[zQ];split
  ·rename_i xD;rw[xD]at ht;rw[<-(eg ht).1]at fX;exact h.Ox hI (ej (ef fX)) hU
  ·exact h
 | some j=>
  simp only[zQ];cases Nat.ble 2000000 j
  case true=>exact h
  simp only[cond_false];cases Nat.ble 1000000 j
  case true=>exact Lu S t h
  simp only[cond_false];split
  ·rename_i cs xF;split
   ·rename_i hj;rw[xF]at ht;obtain⟨vs,e,hl,hr⟩:=ht;refine h.Ox hI ⟨vs,e,by simpa using hl,λk c hk=>?_⟩ hU;rw[List.getElem?_set]at hk;split at hk
    ·rename_i XE;subst XE;split at hk
     ·cases hk;have:=hr j _ hj;rw[<-(eg (ej (ef this))).1]at fX;exact fX
     ·cases hk
    ·exact hr k c hk
   ·exact h
  ·rename_i id off hp;split
   ·rename_i tb cs hm;split
    ·rename_i hj;have eT:id<8*S.mI:=by
      obtain⟨Y3,F0',QH⟩:=h.inv;exact QH.used id _ hm
     have gN:id≠8*S.mI:=by omega
     refine⟨h.defers,h.len,μ,F,(dj.IE hI (id:=id) (j:=j) (cs:=cs) (x:=.own (8*S.mI) 0 none) ?_ ?_).wider hU⟩
     ·rw[Mem.dy _ _ gN];exact hm
     ·rintro v ⟨C,rfl,hC⟩ _;have:=hC j _ hj;rw[<-(eg (ej (ef this))).1]at fX;exact fX
    ·exact h
   ·exact h
  ·exact h
theorem se(k:dP)(S:St)(a:Act)(w:World)(ht:there G.kb (k.fS.foldl zQ S).m=true)(h:At G W0 F0 S a w):At G W0 F0 (clean G.kb k S) a w:=by
 have:∀(l:List (Nat × Option Nat × Fl × Nat)) (S:St),At G W0 F0 S a w->At G W0 F0 (l.foldl zQ S) a w:=by
  intro l;induction l with
  | nil=>intro S h;exact h
  | cons e l ih=>intro S h;exact ih _ (LC S e h)
 exact Hn _ _ _ _ ht (this _ _ h)
end
section
variable {R:Type} {P:Program} {G:fv} {a:Act} {w w' : World} {W0:fh} {F0 U F F' : Nat->Prop} {id:Nat} {L L' : AV->Value->Prop} {r:R} {m m' : Mem} {μ fC β:Mu} {S:List AV}
abbrev xO:=Option Nat × Option (Nat × Nat × Nat)
def Ny(m:Mem)(μ:Mu)(q:xO):Prop:=(∀i,q.1=some i->m i≠none)/\∀b o n,q.2=some (b,o,n)->∃i o' n',q.1=some i/\μ i=some (b,o',n')
def xP(w:World)(F:Nat->Prop)(m:Mem)(μ:Mu)(ids k_ : List Nat)(E:List xO):Prop:=
 k_=(E.filterMap (·.1)).reverse++ids/\(ids.Nodup->k_.Nodup)/\∀q∈E,Ny m μ q
def Fits(β:Mu)(k:Nat)(E:List xO):Prop:=∀(t:Nat) (q:xO),E[t]?=some q->β (k+t)=q.2
theorem yV{k:SK}{x:AV}{v:Value}{ids:List Nat}{K:List Nat->AV->Option R}(h:dj W0 F0 U m L w μ F)(hx:fL w F μ m U x v)(hK:G2 m ids k x K=some r) :
  ∃k_ y E,K k_ y=some r/\xP w F m μ ids k_ E/\E.length=HP y/\(∀cs,y≠.eC cs)/\(∀cs,y≠.agg cs)/\∀β k,Fits β k E->uB w F β k y v:=by
 have plain:∀y,K ids y=some r->HP y=0->(∀cs,y≠.eC cs)->(∀cs,y≠.agg cs)->(∀β k,uB w F β k y v)->∃k_ y E,K k_ y=some r/\xP w F m μ ids k_ E/\E.length=HP y/\(∀cs,y≠.eC cs)/\(∀cs,y≠.agg cs)/\∀β k,Fits β k E->uB w F β k y v:=
  λy hK h0 h1 h2 hr=>⟨ids,y,[],hK,⟨rfl,λh=>h,by simp⟩,by simp[h0],h1,h2,λβ k _=>hr β k⟩
 have flat:(oO x λy=>K ids (.v y))=some r->∃k_ y E,K k_ y=some r/\xP w F m μ ids k_ E/\E.length=HP y/\(∀cs,y≠.eC cs)/\(∀cs,y≠.agg cs)/\∀β k,Fits β k E->uB w F β k y v:=by
  intro hK;obtain⟨y,rfl,hK⟩:=vc hK;exact plain (.v y) hK rfl (by simp) (by simp) (λ_ _=>hx.2)
 cases k with
 | slice fl sz=>
  simp only[G2]at hK;split at hK
  ·rename_i id off l;cases hc:ids.contains id with
   | true=>rw[hc]at hK;cases hK
   | false=>
    rw[hc]at hK;simp only[cond_false]at hK;split at hK
    ·rename_i iA jL xs hm;obtain⟨h1,hK⟩:=c_ hK;rw[ae]at h1;have e1:=eq_of_beq h1.1;have e2:=aw h1.2;subst e1;subst e2;have hni:id ∉ ids:=by simpa using hc
     obtain⟨_,hu,hp⟩:=hx;obtain⟨ad,cap,rfl,kM,hlen,eI⟩:=hp _ _ xs hm;obtain⟨hs,nc,iR⟩:=h.lQ id _ hm;have he:=nt off l xs;generalize rowOf off l xs=ys at hK he;generalize hn:lenOf xs.length off l=n at *;have hl:ys.length=n:=by rw[he];simp;omega
     have tU : ∀x∈ys,x.cells.length=jL:=λx hx=>hs x (bg (aX (he ▸ hx)));have xE : ∀x∈dm ys,xl iA x:=by
      intro x hx;rw[he]at hx;simp only[dm,aY]at hx;obtain⟨y,hy,hx⟩:=hx;exact nc x (by simp only[dm,aY];exact⟨y,bg (aX hy),hx⟩)
     have mk:∀B:Option (Nat × Nat × Nat),(∀b o n,B=some (b,o,n)->∃o' n',μ id=some (b,o',n'))->(∀β k,β k=B->uB w F β k (.fr iA jL ys) (.slice ad n cap))->
       ∃k_ y E,K k_ y=some r/\xP w F m μ ids k_ E/\E.length=HP y/\(∀cs,y≠.eC cs)/\(∀cs,y≠.agg cs)/\∀β k,Fits β k E->uB w F β k y (.slice ad n cap):=by
      intro B hB hr;refine⟨_,_,[(some id,B)],hK,⟨rfl,λGK=>?_,?_⟩,rfl,by simp,by simp,λβ k hf=>hr β k (by simpa using hf 0 _ rfl)⟩
      ·rw[List.nodup_cons];exact⟨hni,GK⟩
      ·intro q hq;simp at hq;subst hq;refine⟨λi hi=>?_,λb o n hb=>?_⟩
       ·cases hi;simp[hm]
       ·obtain⟨o',n',h'⟩:=hB b o n hb;exact⟨id,o',n',rfl,h'⟩
     rcases eI with⟨rfl,rfl⟩|⟨b,o,N,A1,fG,rfl,Cp,eI⟩
     ·have h0:n=0:=by omega
      have:ys=[]:=aV.1 (by omega);subst this;subst h0;exact mk none (by simp) (λβ k O7=>⟨⟨by simp,by simp[dm],.inl ⟨rfl,O7⟩⟩,none,0,rfl,aH _,.inl ⟨rfl,rfl⟩⟩)
     ·rcases iR with⟨_,eh⟩|⟨b',o',C,f,eh,hh,hC,ni,hr⟩
      ·rw[fG]at eh;cases eh
      rw[fG]at eh;simp only[bh,bI]at eh;obtain⟨rfl,rfl,rfl⟩:=eh;refine mk (some (b,o+off*jL,C.size)) (λb1 o1 n1 e=>by cases e;exact⟨o,C.size,fG⟩) (λβ k O7=>?_);have hle:=bf jL hlen;rw[bK]at hle;refine⟨⟨tU,xE,.inr ⟨b,o+off*jL,C,f,O7,hh,by rw[hl];omega,ni,λj c hj=>?_⟩⟩,some A1,cap,by rw[hl],by omega,.inr ⟨b,o+off*jL,C.size,A1,O7,rfl,Cp,?_⟩⟩
      ·rw[he]at hj;have hj:=fZ jL n _ j c hj;rw[gW jL off xs hs,bm]at hj;have:=hr _ c hj;rwa[<-Nat.add_assoc]at this
      ·rcases eI with eI|⟨e1,e2⟩
       ·exact .inl eI
       ·refine .inr ⟨e1,?_⟩;rw[bK]at e2;omega
    ·cases hK
  ·obtain⟨_,hx⟩:=hx;cases hx;exact⟨ids,_,[(none,none)],hK,⟨rfl,λh=>h,by simp[Ny]⟩,rfl,by simp,by simp,λβ k hf=>⟨⟨by simp,by simp[dm],.inl ⟨rfl,by simpa using hf 0 _ rfl⟩⟩,none,0,rfl,aH _,.inl ⟨rfl,rfl⟩⟩⟩
  ·exact hx.2.elim
  ·cases hK
 | any=>
  simp only[G2]at hK;split at hK
  ·obtain⟨_,hx⟩:=hx;cases hx;exact plain _ hK rfl (by simp) (by simp) (λ_ _=>.qO)
  ·obtain⟨_,hx⟩:=hx;cases hx;exact plain _ hK rfl (by simp) (by simp) (λ_ _=>.qc _ _)
  ·exact plain _ hK rfl (by simp) (by simp) (λ_ _=>hx.2)
  ·cases hK
 | _=>exact flat hK
theorem tY{ids GD GC:List Nat}{E1 E2:List xO}(h1:xP w F m μ ids GD E1)(h2:xP w F m μ GD GC E2):xP w F m μ ids GC (E1++E2):=by
 obtain⟨rfl,n1,o1⟩:=h1;obtain⟨rfl,n2,o2⟩:=h2;refine⟨by simp,λh=>n2 (n1 h),λq hq=>?_⟩;rcases aS.1 hq with hq|hq
 ·exact o1 q hq
 ·exact o2 q hq
theorem tX{β:Mu}{k:Nat}{E1 E2:List xO}(h:Fits β k (E1++E2)):Fits β k E1/\Fits β (k+E1.length) E2:=by
 refine⟨λt q hq=>h t q ?_,λt q hq=>?_⟩
 ·rw[aO (aE.1 hq).1];exact hq
 ·have:=h (E1.length+t) q (by rw[aR (by omega),Nat.add_sub_cancel_left];exact hq);rwa[<-Nat.add_assoc]at this
theorem yW(h:dj W0 F0 U m L w μ F):∀(ks:List SK) (xs:List AV) (ids:List Nat) (u:Nat->Value) (K:List Nat->List AV->Option R),(∀j c,xs[j]?=some c->fL w F μ m U c (u j))->G3 m ids ks xs K=some r->
  ∃k_ ys E,K k_ ys=some r/\xP w F m μ ids k_ E/\E.length=Gq ys/\ys.length=xs.length/\∀β k,Fits β k E->HA w F β k ys u
 | [],[],ids,u,K,hx,hK=>⟨ids,[],[],hK,⟨rfl,λh=>h,by simp⟩,rfl,rfl,λ_ _ _=>trivial⟩
 | [],_::_,ids,u,K,hx,hK=>by simp[G3]at hK
 | _::_,[],ids,u,K,hx,hK=>by simp[G3]at hK
 | k::ks,x::xs,ids,u,K,hx,hK=>by
  simp only[G3]at hK;obtain⟨GD,y,E1,eM,x1,l1,_,_,r1⟩:=yV h (hx 0 x rfl) hK;obtain⟨GC,s,E2,jr,x2,l2,l3,r2⟩:=yW h ks xs GD (λj=>u (j+1)) _ (λj c hj=>hx (j+1) c (by simpa using hj)) eM;refine⟨GC,y::s,E1++E2,jr,tY x1 x2,by simp[Gq,l1,l2],by simp[l3],λβ k hf=>?_⟩;obtain⟨f1,f2⟩:=tX hf;rw[l1]at f2;exact⟨r1 β k f1,r2 β _ f2⟩
theorem G4{ti:TI}{x:AV}{v:Value}{ids:List Nat}{K:List Nat->AV->Option R}(h:dj W0 F0 U m L w μ F)(hx:fg w F μ m U x v)(hK:PL m ids ti x K=some r) :
  ∃k_ y E,K k_ y=some r/\xP w F m μ ids k_ E/\E.length=Jg y/\(∀cs,y≠.eC cs)/\∀β k,Fits β k E->C8 w F β k y v:=by
 unfold PL at hK;split at hK
 ·rename_i cs;obtain⟨_,hK⟩:=c_ hK;obtain⟨vs,rfl,hl,hr⟩:=hx;obtain⟨k_,ys,E,hK,x1,l1,l2,r1⟩:=yW h _ _ ids (λj=>vs.getD j undef) _ hr hK;exact⟨k_,.agg ys,E,hK,x1,l1,by simp,λβ k hf=>⟨vs,rfl,by omega,r1 β k hf⟩⟩
 ·rename_i hna;split at hK
  ·rename_i k Se;have hxc:fL w F μ m U x v:=by
    cases x
    case agg cs=>exact absurd rfl (hna cs)
    case eC cs=>
     cases k<;>simp[G2,oO]at hK
    all_goals exact hx
   obtain⟨k_,y,E,hK,x1,l1,h1,h2,r1⟩:=yV h hxc hK;refine⟨k_,y,E,hK,x1,?_,h1,λβ k hf=>?_⟩
   ·cases y<;>first|exact l1|exact absurd rfl (h2 _)
   ·have:=r1 β k hf;cases y<;>first|exact this|exact absurd rfl (h2 _)
  ·cases hK
theorem wP(hG:et P G)(h:dj W0 F0 U m L w μ F):∀(ts:List TypeId) (xs:List AV) (ids:List Nat) (u:Nat->Value) (K:List Nat->List AV->Option R),(∀j c,xs[j]?=some c->fg w F μ m U c (u j))->yX G m ids ts xs K=some r->
  ∃k_ ys E,K k_ ys=some r/\xP w F m μ ids k_ E/\ys.length=xs.length/\(∀y∈ys,∀cs,y≠.eC cs)/\∀β k,Fits β k E->zt w F β k ys u
 | [],[],ids,u,K,hx,hK=>⟨ids,[],[],hK,⟨rfl,λh=>h,by simp⟩,rfl,by simp,λ_ _ _=>trivial⟩
 | [],_::_,ids,u,K,hx,hK=>by simp[yX]at hK
 | _::_,[],ids,u,K,hx,hK=>by simp[yX]at hK
 | t::ts,x::xs,ids,u,K,hx,hK=>by
  simp only[yX]at hK;obtain⟨ti,mr,hK⟩:=cS hK;obtain⟨GD,y,E1,eM,x1,l1,n1,r1⟩:=G4 h (hx 0 x rfl) hK;obtain⟨GC,s,E2,jr,x2,l3,n2,r2⟩:=wP hG h ts xs GD (λj=>u (j+1)) _ (λj c hj=>hx (j+1) c (by simpa using hj)) eM;refine⟨GC,y::s,E1++E2,jr,tY x1 x2,by simp[l3],?_,λβ k hf=>?_⟩
  ·intro z hz;rcases cj.1 hz with rfl|hz
   ·exact n1
   ·exact n2 z hz
  ·obtain⟨f1,f2⟩:=tX hf;rw[l1]at f2;exact⟨r1 β k f1,r2 β _ f2⟩
end
section
variable {R:Type} {P:Program} {G:fv} {a:Act} {w w' : World} {W0:fh} {F0 U F F' : Nat->Prop} {id:Nat} {L L' : AV->Value->Prop} {r:R} {m m' : Mem} {μ fC β:Mu}
abbrev oW(tmps:Array Value):ResultVar->Sem Value
 | .tmp t=>pure (tmps.getD t Go.undef)
 | .cell a t=>do loadVar t (<-asAddr (tmps.getD a Go.undef))
theorem pB(hG:et P G){S:St}(h:dj W0 F0 U S.m (xQ G W0 S.tm a) w μ F):∀(rs:List ResultVar) (K:List AV->Option R),BB G S rs K=some r->
  ∃xs vs,K xs=some r/\(rs.mapM (oW a.tmps)).run P w=.ok vs w/\vs.length=xs.length/\∀j c,xs[j]?=some c->fg w F μ S.m U c (vs.getD j Go.undef)
 | [],K,hK=>⟨[],[],hK,rfl,rfl,by simp⟩
 | .tmp t::rs,K,hK=>by
  simp only[BB]at hK;obtain⟨xs,vs,hK,fN,hl,hr⟩:=pB hG h rs _ hK;refine⟨_,a.tmps.getD t Go.undef::vs,hK,by simp[List.mapM_cons,oW,fN],by simp[hl],λj c hj=>?_⟩;cases j with
  | zero=>simp at hj;subst hj;exact h.dT _ _ (.inl ⟨t,by simp,rfl⟩)
  | succ j=>exact hr j c (by simpa using hj)
 | .cell q t::rs,K,hK=>by
  simp only[BB]at hK;obtain⟨ti,mr,eM⟩:=cS hK;clear hK;have hT:=hG.ti t ti mr;have hq:=h.dT _ _ (.inl ⟨q,rfl,rfl⟩);split at eM
  ·rename_i j off hp;rw[hp]at hq;obtain⟨bl,hj,hK⟩:=cS eM;clear eM;cases bl with
   | row _ _ _=>cases hK
   | box tb cs=>
    simp only at hK;obtain⟨hle,eM⟩:=c_ hK;clear hK;have hle:=aG hle;obtain⟨_,hu,V6⟩:=hq;obtain⟨b,n,fG,hv⟩:=V6 tb cs hj;obtain⟨b',C,f,eh,hh,hl,ni,hr⟩:=h.lQ j _ hj;rw[fG]at eh;simp only[bh,bI]at eh;obtain⟨rfl,_,rfl⟩:=eh;obtain⟨r1,r2⟩:=tF (w:=w) hT ⟨b,off,none⟩ ((List.range ti.size).map λk=>C.getD (off+k) Go.undef) (by simp) (λk v hk=>by
     simp only[aP,aD]at hk;obtain⟨k',sV,rfl⟩:=hk;obtain⟨wH,rfl⟩:=aE.1 sV;have h2:k<ti.size:=by simpa using wH
     rw[jS,List.getElem_range];exact cell_of hh (by omega))
    rw[kh]at eM;have kS:∀k c,((cs.drop off).take ti.size)[k]?=some c->fL w F μ S.m U c (C.getD (off+k) Go.undef):=by
     intro k c hk;have eT:k<ti.size:=by have:=(aE.1 hk).1;simp at this;omega
     rw[bU eT,bm]at hk;exact hr _ c hk
    have hlen:((cs.drop off).take ti.size).length=ti.size:=by simp;omega
    have fin:∀x v,(loadVar t ⟨b,off,none⟩).run P w=.ok v w->fg w F μ S.m U x v->(BB G S rs λxs=>K (x::xs))=some r->
      ∃xs vs,K xs=some r/\((ResultVar.cell q t::rs).mapM (oW a.tmps)).run P w=.ok vs w/\vs.length=xs.length/\∀j c,xs[j]?=some c->fg w F μ S.m U c (vs.getD j Go.undef):=by
     intro x v R2 nb hK;obtain⟨xs,vs,hK,fN,hl,hr⟩:=pB hG h rs _ hK;refine⟨_,v::vs,hK,by simp[List.mapM_cons,oW,fN,hv,asAddr,R2],by simp[hl],λj c hj=>?_⟩;cases j with
     | zero=>simp at hj;subst hj;simpa using nb
     | succ j=>exact hr j c (by simpa using hj)
    rcases xa eM with⟨ha,hK⟩|⟨ha,c,hc,hK⟩
    ·refine fin (.agg ((cs.drop off).take ti.size)) _ (r1 ha) ⟨_,rfl,by simp;omega,λk c hk=>?_⟩ hK;have eT:k<ti.size:=by have:=(aE.1 hk).1;omega
     have e:((List.range ti.size).map λk=>C.getD (off+k) Go.undef).toArray.getD k Go.undef=C.getD (off+k) Go.undef:=by simp[aK,eT]
     rw[e];exact kS k c hk
    ·have h1:=hT.Ot ha;refine fin c _ (r2 ha _ (by rw[h1];rfl)) (ej (ef (kS 0 c (by rw[hc];rfl)))) hK
  ·cases eM
theorem uk{E:List xO}(h:(E.filterMap (·.1)).Nodup):∀(k k' i:Nat) (q q' : xO),E[k]?=some q->E[k']?=some q'->q.1=some i->q'.1=some i->k=k':=by
 induction E with
 | nil=>intro k k' i q q' h1;simp at h1
 | cons e E ih=>
  have GK:(E.filterMap (·.1)).Nodup:=by
   cases he:e.1 with
   | none=>simpa[List.filterMap_cons,he]using h
   | some j=>rw[List.filterMap_cons,he]at h;exact(List.nodup_cons.1 h).2
  have lH:∀(k i:Nat) (q:xO),E[k]?=some q->q.1=some i->i∈E.filterMap (·.1):=λk i q hk hq=>List.mem_filterMap.2 ⟨q,aT hk,hq⟩;have Ch:∀(k i:Nat) (q:xO),E[k]?=some q->q.1=some i->e.1=some i->False:=by
   intro k i q hk hq he;rw[List.filterMap_cons,he]at h;exact(List.nodup_cons.1 h).1 (lH k i q hk hq)
  intro k k' i q q' h1 h2 h3 h4;cases k with
  | zero=>
   cases k' with
   | zero=>rfl
   | succ k'=>simp at h1;subst h1;exact(Ch k' i q' (by simpa using h2) h4 h3).elim
  | succ k=>
   cases k' with
   | zero=>simp at h2;subst h2;exact(Ch k i q (by simpa using h1) h3 h4).elim
   | succ k'=>rw[ih GK k k' i q q' (by simpa using h1) (by simpa using h2) h3 h4]
theorem MG(hG:et P G){fn:Func}{S:St}{K:AV->Option R}(h:At G W0 F0 S a w)(hK:jE G fn.resultTypes.toList fn.results.toList S K=some r) :
  ∃v x,(results fn a.tmps).run P w=.ok v w/\K x=some r/\∃F' β,FW W0 w F0 F' β/\Dh w F' β x v:=by
 obtain⟨μ,F,hI⟩:=h.inv;unfold jE at hK;obtain⟨xs,vs,eM,fN,hl,hr⟩:=pB hG hI _ _ hK;obtain⟨ids,ys,E,jr,⟨e1,e2,e3⟩,l1,n1,r1⟩:=wP hG hI _ _ [] (λj=>vs.getD j Go.undef) _ hr eM;have GK:(E.filterMap (·.1)).Nodup:=by
  have:=e2 (by simp);rw[e1,bc]at this;exact(List.pairwise_reverse.1 this).imp (λh=>h.symm)
 obtain⟨β,O7⟩:∃β:Mu,β=λk=>(E[k]?).bind (·.2):=⟨_,rfl⟩;have Ef:Fits β 0 E:=by intro t q hq;rw[O7];simp[hq]
 have lx:FW W0 w F0 F β:=by
  have src:∀k b o n,β k=some (b,o,n)->∃q i o' n',E[k]?=some q/\q.1=some i/\S.m i≠none/\μ i=some (b,o',n'):=by
   intro k b o n hk;rw[O7]at hk;simp only[aL]at hk;obtain⟨q,hq,hk⟩:=hk;obtain⟨s1,s2⟩:=e3 q (aT hq);obtain⟨i,o',n',hi,hm⟩:=s2 b o n hk;exact⟨q,i,o',n',hq,hi,s1 i hi,hm⟩
  refine⟨hI.below,hI.sub,hI.dW,?_,?_⟩
  ·intro k b o n hk;obtain⟨q,i,o',n',hq,hi,hm,fG⟩:=src k b o n hk;cases sU:S.m i with
   | none=>exact absurd sU hm
   | some y=>exact hI.own i y b o' n' sU fG
  ·intro k k' b o n o2 n2 hk sV;obtain⟨q,i,o',n',hq,hi,hm,fG⟩:=src k b o n hk;obtain⟨q',i',Gn,RD,qY,mL,qZ,eh⟩:=src k' b o2 n2 sV;cases sU:S.m i with
   | none=>exact absurd sU hm
   | some y=>
    cases GL : S.m i' with
    | none=>exact absurd GL qZ
    | some y'=>
     have:=hI.inj i i' y y' b o' n' Gn RD sU GL fG eh;subst this;exact uk GK k k' i q q' hq qY hi mL
 have JT : (results fn a.tmps).run P w=.ok (if h:vs.toArray.size=1 then vs.toArray[0]else .tuple vs.toArray) w:=by
  have:(fn.results.mapM (oW a.tmps)).run P w=.ok vs.toArray w:=by
   rw[Array.mapM_eq_mapM_toList];simp[fN]
  have e:results fn a.tmps=(fn.results.mapM (oW a.tmps) >>= λvs=>pure (if h:vs.size=1 then vs[0]else .tuple vs)):=by
   unfold results;refine congrArg (λm=>m >>= _) ?_;congr 1
  rw[e,cv,this];rfl
 have res:=r1 β 0 Ef;refine⟨_,(match ys with | [y]=>y | ys=>.eC ys),JT,?_,F,β,lx,?_⟩
 ·rcases ys with _|⟨y,_|⟨z,zs⟩⟩<;>exact jr
 ·split
  ·rename_i y;have GH:vs.length=1:=by rw[hl,<-l1];rfl
   obtain⟨v,rfl⟩:=b_.1 GH;have:=res.1;have hn:=n1 y (by simp);cases y<;>first|exact this|exact absurd rfl (hn _)
  ·rename_i gN;have GH:¬ vs.toArray.size=1:=by
    intro h1;have:ys.length=1:=by rw[l1,<-hl];simpa using h1
    obtain⟨y,hy⟩:=b_.1 this;exact gN y hy
   rw[dif_neg GH];exact⟨vs.toArray,rfl,by simp[hl,l1],by simpa using res⟩
theorem Iz{R0:World}(hB:Below R0.heap.size R0 w){fn:Func}{args:List AV}{vals:Array Value}(iT:mX G R0)(qa:G.kb=0)(hF:∀b,F b->b<w.heap.size)(T8:∀b,b<R0.heap.size->F b)(hl:vals.size=args.length)(hr:∀j c,args[j]?=some c->Rel w F c (vals.getD j Go.undef)) :
  At G (fh.of R0 w hB) F (start fn args) { tmps:=vals++Array.replicate (fn.ntmps - vals.size) Go.undef,defers:=[] } w:=by
 refine⟨rfl,by simp[start,hl],λ_=>none,F,?_⟩;refine{ below:=kt.refl _,dW:=λb hb=>⟨hF b hb,.inl hb⟩,sub:=λ_ h=>h,gl:=T8,used:=by simp[start],lQ:=by simp[start],own:=by simp[start],inj:=by simp[start],dT:=?_ };rintro x v (⟨t,rfl,rfl⟩|⟨g,cs,hg,rfl,rfl⟩|⟨i,hi,_⟩)
 ·by_cases ht:t<args.length
  ·have e1:(start fn args).tm.getD t .undef=args[t]:=by simp[start,ah,aO ht,ht]
   have e2:(vals++Array.replicate (fn.ntmps - vals.size) Go.undef).getD t Go.undef=vals.getD t Go.undef:=by
    rw[aK,Array.getElem?_append_left (by omega),aK]
   rw[e1,e2];exact ej (ef (fm (hr t _ (aN ht))))
  ·have e1:(start fn args).tm.getD t .undef=.undef:=by
    simp only[start,ah];rw[aR (by omega),List.getElem?_replicate];split<;>rfl
   rw[e1];exact ej (ef (ga kY))
 ·exact ej (ef (fm ((iT g cs hg).mono T8 λb hb=>hB.block b hb)))
 ·rw[qa]at hi;exact absurd hi (Nat.not_lt_zero _)
def dc(P:Program)[eE P](f:FuncId)(gi:List AV)(x:AV):Prop:=
 ∀(R0 w:World) (F:Nat->Prop) (vals:Array Value),eE.Q P R0->Below R0.heap.size R0 w->(∀b,F b->b<w.heap.size)->(∀b,b<R0.heap.size->F b)->vals.size=gi.length->(∀j c,gi[j]?=some c->Rel w F c (vals.getD j undef))->
  (callFunc f vals).run P w=.ok (.enter f vals) w/\Calls P f vals w λe w'=>match e with
   | .returned v=>∃F' β,Came w w' F F' β/\Dh w' F' β x v
   | _=>False
theorem dc.cW[eE P]{f:FuncId}{gi:List AV}{x:AV}(h:dc P f gi x)(hl:l9 gi=false):xh P f gi x:=
 λR0 hQ=>⟨λ_ w F vals hB h1 h2 h3 h4=>.inl (h R0 w F vals hQ hB h1 h2 h3 h4),λargs bs _ _ e _=>(by rw[e,n6]at hl;cases hl),λargs _ _ _ _ _ _ _ e _=>(by rw[e,n6]at hl;cases hl)⟩
theorem PJ[eE P](hG:et P G)(iT:∀R0,eE.Q P R0->mX G R0)(qa:G.kb=0){C:FuncId->List AV->(AV->Option R)->Option R}(hC:∀g gi (K:AV->Option R) r,C g gi K=some r->∃x,K x=some r/\xh P g gi x)
  {cut : Nat → Option dP} {f : FuncId} {fn : Func} {args : List AV} {x : AV} {n : Nat} (hf : P.funcs[f]? = some fn) (iS : (fn.name == "runtime.NumGoroutine") = false) (iU : fn.body.isNone = false)
  (pk:∀(W0:fh) (F0:Nat->Prop),eE.Q P W0.root->∀Dy ops draw (S:St) (K:St->Option R) a w r,At G W0 F0 S a w->mQ G C ops draw S K=some r->(Code.region Dy ops draw).wp P (λe a' w'=>e=.normal/\∃S',K S'=some r/\At G W0 F0 S' a' w') a w)
  {K:AV->Option R} {r:R} (hx:∀y,K y=some r->y=x) (hK:G1 G C cut fn n args K=some r):dc P f args x:=by
 intro R0 w F vals hQ hB hF T8 hl hr;have n1 : ¬ fn.name = "runtime.NumGoroutine" := by simpa using iS
 have n2:¬ fn.body=none:=by intro e;simp[e]at iU
 refine⟨by simp[callFunc,hf,n1,n2],?_⟩;unfold G1 at hK;split at hK
 ·rename_i c hc;intro cs;obtain⟨b,hb⟩:∃b:Frame,b={ (default:Frame)with fn:=f,kind:=.normal }:=⟨_,rfl⟩;have Eg:Frame.enter P f vals .normal=b.at { tmps:=vals++Array.replicate (fn.ntmps - vals.size) Go.undef,defers:=[] } [.code c]:=by
   simp[Frame.enter,Frame.at,hf,hc,hb]
  have rT:=Iz (G:=G) hB (fn:=fn) (iT R0 hQ) qa hF T8 hl hr;have qM:∀(S:St) (a:Act) (w' : World) (r:R),jE G fn.resultTypes.toList fn.results.toList S K=some r->At G (fh.of R0 w hB) F S a w'->∃v,(results fn a.tmps).run P w'=.ok v w'/\(∃y,K y=some r/\∃F' β,Came w w' F F' β/\Dh w' F' β y v):=by
   intro S a w' r hK hA;obtain⟨v,x,h1,h2,h3⟩:=MG hG hA hK;obtain⟨F',β,h4,h5⟩:=h3;exact⟨v,h1,x,h2,F',β,h4.plain,h5⟩
  have:=FI (P:=P) (G:=G) (C:=C) (b:=b) (cs:=cs) (fn:=fn) (T:=λr v w'=>∃y,K y=some r/\∃F' β,Came w w' F F' β/\Dh w' F' β y v) (cut:=cut) (W0:=fh.of R0 w hB) (F0:=F) (by rw[hb]) (by rw[hb];exact hf) qM (pk _ F hQ)
   (λtodo S a ww r keep hK ht h=>Du (P:=P) (G:=G) (C:=C) (b:=b) (cs:=cs) (fn:=fn) (T:=λr v w'=>∃y,K y=some r/\∃F' β,Came w w' F F' β/\Dh w' F' β y v) (cut:=cut) (by rw[hb]) (by rw[hb];exact hf) qM (pk _ F hQ) se n todo _ a ww r hK (se keep S a ww ht h))
   1000 _ _ _ _ _ hK rT
  obtain⟨v,w',fr,⟨y,hy,hT⟩,hs,HW,Sc⟩:=this;rw[hx y hy]at hT;rw[<-Eg]at hs;exact⟨.returned v,w',fr,hT,hs,by rw[HW,hb],Sc⟩
 ·cases hK
end
section
variable {R R' : Type} {G:fv} {S:List AV} {m:Mem} {id:Nat}
theorem jR{c:Bool}{A:Option R'}{k:R'->Option R}:(bif c then A else none).bind k=bif c then A.bind k else none:=by cases c<;>rfl
theorem fb{c:Bool}{A B:Option R'}{k:R'->Option R}:(bif c then A else B).bind k=bif c then A.bind k else B.bind k:=by cases c<;>rfl
theorem dF{α:Type}{x:Option α}{F:α->Option R'}{k:R'->Option R}:(cX x F).bind k=cX x λy=>(F y).bind k:=by cases x<;>rfl
theorem vd{x:AV}{F:Value->Option R'}{k:R'->Option R}:(oO x F).bind k=oO x λy=>(F y).bind k:=by cases x<;>rfl
theorem kB{q:IntKind}{x:AV}{F:Int->Option R'}{k:R'->Option R}:(cQ q x F).bind k=cQ q x λy=>(F y).bind k:=by
 cases x with
 | v y=>cases y with
  | int k' n=>simp only[cQ];cases decide (k'=q)<;>rfl
  | _=>rfl
 | _=>rfl
theorem gz{x:AV}{F:IntKind->Int->Option R'}{k:R'->Option R}:(gk x F).bind k=gk x λq y=>(F q y).bind k:=by
 cases x with
 | v y=>cases y<;>rfl
 | _=>rfl
theorem mZ{x:AV}{F:Bool->Option R'}{k:R'->Option R}:(gm x F).bind k=gm x λy=>(F y).bind k:=by
 cases x with
 | v y=>cases y<;>rfl
 | _=>rfl
theorem fU{x:AV}{F:ByteArray->Option R'}{k:R'->Option R}:(df x F).bind k=df x λy=>(F y).bind k:=by
 cases x with
 | v y=>cases y<;>rfl
 | _=>rfl
theorem lW{n:Nat}{i:Int}{F:Nat->Option R'}{k:R'->Option R}:(mO n i F).bind k=mO n i λy=>(F y).bind k:=jR
theorem xp{cs:List AV}{F:AV->List AV->Option R'}{k:R'->Option R}:(cN cs F).bind k=cN cs λc r=>(F c r).bind k:=by cases cs<;>rfl
theorem A_{fl:Fl}{sz:Nat}{x:AV}{F:List AV->Option R'}{k:R'->Option R}:(gU fl sz x F).bind k=gU fl sz x λy=>(F y).bind k:=by
 unfold gU;split
 ·rfl
 ·exact jR
 ·rfl
theorem Hk{q:SK}{x:AV}{F:AV->Option R'}{k:R'->Option R}:(wY q x F).bind k=wY q x λy=>(F y).bind k:=by
 cases q<;>simp only[wY,kB,mZ,fU,A_]
theorem ta{k:R'->Option R}:∀(qs:List SK) (cs:List AV) (F:List AV->Option R'),(xK qs cs F).bind k=xK qs cs λy=>(F y).bind k
 | [],_,_=>rfl
 | q::qs,cs,F=>by
  simp only[xK,xp,Hk];congr 1;funext c r;congr 1;funext c';exact ta qs r _
theorem xb{t:TI}{cs:List AV}{F:AV->Option R'}{k:R'->Option R}:(HX t cs F).bind k=HX t cs λy=>(F y).bind k:=by
 unfold HX;rw[fb];congr 1;split<;>rfl
theorem vE{x:AV}{F:Nat->Option R'}{k:R'->Option R}:(oq m x F).bind k=oq m x λy=>(F y).bind k:=by
 unfold oq;split<;>first|rfl|(split<;>rfl)
theorem nU{i:Int}{F:Nat->Option R'}{k:R'->Option R}:∀{n:Nat},(ou i n F).bind k=ou i n λy=>(F y).bind k
 | 0=>rfl
 | n+1=>by
  simp only[ou];rw[fb,nU]
theorem vS{n:Nat}{i:Int}{F:Nat->Option R'}{k:R'->Option R}:(yn n i F).bind k=yn n i λy=>(F y).bind k:=by
 unfold yn;rw[fb,nU,lW]
theorem zj{x:AV}{F:Fl->Nat->List AV->Option R'}{k:R'->Option R}:(jF m x F).bind k=jF m x λa b c=>(F a b c).bind k:=by
 unfold jF;split<;>first|rfl|(split<;>rfl)
theorem pa{x:Option AV}{h:Int}{F:Int->Option R'}{k:R'->Option R}:(D0 x h F).bind k=D0 x h λy=>(F y).bind k:=by
 cases x with
 | none=>rfl
 | some x=>simp only[D0,gz,jR]
theorem ph{x:Option AV}{h:Int}{F:Int->Option R'}{N:Option R'}{k:R'->Option R}:(Mp x h F N).bind k=Mp x h (λy=>(F y).bind k) (N.bind k):=by
 cases x with
 | none=>rfl
 | some x=>simp only[Mp,gz,jR]
theorem wQ{op:BinOp}{b:Bool}{F:Bool->Option R'}{k:R'->Option R}:(qj op b F).bind k=qj op b λy=>(F y).bind k:=by cases op<;>rfl
theorem Ks{k:R'->Option R}:∀(qs:List SK) (xs ys:List AV) (F:Bool->Option R'),(QJ qs xs ys F).bind k=QJ qs xs ys λy=>(F y).bind k:=by
 intro qs xs ys F;rw[AK,AK,Option.bind_assoc]
theorem Bl{op:UnOp}{x:AV}{F:AV->Option R'}{k:R'->Option R}:(Q8 op x F).bind k=Q8 op x λy=>(F y).bind k:=by
 unfold Q8;split<;>rfl
theorem Hs{op:BinOp}{x y:Value}{F:Value->Option R'}{k:R'->Option R}:(EB op x y F).bind k=EB op x y λz=>(F z).bind k:=by
 unfold EB;split
 ·split
  ·exact jR
  ·exact jR
  ·rw[jR];congr 1;split<;>first|rfl|exact fb
 ·split<;>first|rfl|exact jR
 ·rfl
theorem zg{op:BinOp}{t:TypeId}{c:Bool}{x y:AV}{F:AV->Option R'}{k:R'->Option R}:(KK G op t c x y F).bind k=KK G op t c x y λz=>(F z).bind k:=by
 unfold KK;split<;>first|rfl|(rw[jR,wQ])|exact Hs|skip
 split
 ·rw[jR,Ks];congr 1;congr 1;funext c;exact wQ
 ·rfl
theorem Fb(o:Op)(K:AV->Mem->Option R):fM G o S m id K=(fM G o S m id λx m=>some (x,m)).bind λq=>K q.1 q.2:=by
 cases o<;>simp only[fM]
 all_goals repeat' first
  | with_reducible rfl
  | (simp only[dF,vd,kB,gz,mZ,fU,lW,nU,vS,ta,xb,vE,zj,pa,ph,Bl,zg,fb,ab,aB])
  | (refine congrArg (cX _) (funext λ_=>?_))
  | (refine congrArg (gm _) (funext λ_=>?_))
  | (refine congrArg (df _) (funext λ_=>?_))
  | (refine congrArg (oO _) (funext λ_=>?_))
  | (refine congrArg (cQ _ _) (funext λ_=>?_))
  | (refine congrArg (gk _) (funext λ_=>funext λ_=>?_))
  | (refine congrArg (jF _ _) (funext λ_=>funext λ_=>funext λ_=>?_))
  | (refine congrArg (λz=>bif _ then z else none) ?_)
  | split
end
section
variable {R R' : Type} {G:fv} {S S' : List AV} {m m' : Mem} {id:Nat}
theorem tI{parts:Array (Nat × Operand)}(h:∀x∈parts.map (·.2),ev G S x=ev G S' x):(parts.toList.map fun(i,x)=>(i,ev G S x))=parts.toList.map fun(i,x)=>(i,ev G S' x):=by
 refine List.map_congr_left λp hp=>?_;obtain⟨i,x⟩:=p;have e:=h x (Array.mem_map.2 ⟨(i,x),by simpa using hp,rfl⟩);simp only[e]
theorem Ab{parts:Array (Nat × Operand)}(h:∀x∈parts.map (·.2),ev G S x=ev G S' x):(parts.toList.map fun(_,x)=>ev G S x)=parts.toList.map fun(_,x)=>ev G S' x:=by
 refine List.map_congr_left λp hp=>?_;obtain⟨i,x⟩:=p;exact h x (Array.mem_map.2 ⟨(i,x),by simpa using hp,rfl⟩)
theorem oe{xs:Array Operand}(h:∀x∈xs,ev G S x=ev G S' x):xs.toList.map (ev G S)=xs.toList.map (ev G S'):=
 List.map_congr_left λx hx=>h x (by simpa using hx)
theorem pF(o:Op)(K:AV->Mem->Option R)(h:∀x∈o.operands,ev G S x=ev G S' x):fM G o S m id K=fM G o S' m id K:=by
 cases o<;>simp only[Op.operands]at h
 case build t ps=>simp only[fM,tI (S:=S) (S':=S') λx hx=>h x (by simpa using hx)]
 case buildSlice t n ps=>simp only[fM,tI (S:=S) (S':=S') λx hx=>h x (by simpa using hx),Ab (S:=S) (S':=S') λx hx=>h x (by simpa using hx)]
 case makeFunc fn first captured=>
  have e:captured.toList.map (ev G S)=captured.toList.map (ev G S'):=oe λx hx=>h x (by simp[hx]);have e2:first.toList.map (ev G S)=first.toList.map (ev G S'):=oe λx hx=>h x (by simp[hx])
  simp only[fM,e,e2]
 case slice t x lo hi mx=>cases lo<;>cases hi<;>cases mx<;>simp_all [fM]
 case call c=>
  have ha:∀x∈c.args.toList,ev G S x=ev G S' x:=λx hx=>h x (by simp[Call.operands];exact .inr (by simpa using hx));simp only[fM];split
  ·split
   ·rename_i h1 h2;rw[ha _ (by rw[h2];simp)]
   ·rfl
  ·split
   ·rename_i h1 h2;rw[ha _ (by rw[h2];simp),ha _ (by rw[h2];simp)]
   ·rfl
  ·split
   ·rename_i h1 h2;rw[ha _ (by rw[h2];simp)]
   ·rfl
  ·split
   ·rename_i h1 h2;rw[ha _ (by rw[h2];simp),ha _ (by rw[h2];simp)]
   ·rfl
  ·split
   ·rename_i h2;rw[ha _ (by rw[h2];simp),ha _ (by rw[h2];simp)]
   ·rfl
  ·split
   ·rename_i h2;rw[ha _ (by rw[h2];simp),ha _ (by rw[h2];simp)]
   ·rfl
  ·rfl
 all_goals first|rfl|(simp_all [fM];done)
end
section
variable {R R' : Type} {G:fv} {S S' : List AV} {m m' m2:Mem} {id:Nat}
theorem BM(o:Op)(K:AV->Mem->Option R)(h:i_ o=true):fM G o S m id K=(fM G o S m2 id λx _=>some x).bind λx=>K x m:=by
 cases o<;>simp only[i_]at h
 case call c=>
  split at h
  ·rename_i hc;simp only[fM,hc];split<;>simp only[gz,kB,ab,aB]
  ·rename_i hc;simp only[fM,hc];split<;>simp only[gz,kB,ab,aB]
  ·cases h
 all_goals first|(cases h;done)|skip
 all_goals simp only[fM]
 all_goals repeat' first
  | with_reducible rfl
  | (simp only[dF,vd,gz,mZ,fU,lW,xb,Bl,zg,fb,ab,aB])
  | (refine congrArg (cX _) (funext λ_=>?_))
  | (refine congrArg (gm _) (funext λ_=>?_))
  | (refine congrArg (df _) (funext λ_=>?_))
  | (refine congrArg (oO _) (funext λ_=>?_))
  | (refine congrArg (cQ _ _) (funext λ_=>?_))
  | (refine congrArg (gk _) (funext λ_=>funext λ_=>?_))
  | (refine congrArg (λz=>bif _ then z else none) ?_)
  | split
theorem Bv{x:AV}{F:Nat->Option R}(h:∀j∈eD x,m2 j=m j):oq m x F=oq m2 x F:=by
 cases x
 case own id off l=>simp only[oq,h id (by simp[eD])]
 case bs id=>simp only[oq,h id (by simp[eD])]
 case v x=>
  by_cases hx:x=.slice none 0 0
  ·subst hx;rfl
  ·have:∀m,oq m (.v x) F=none:=by
    intro m;unfold oq;split<;>simp_all
   rw[this,this]
 all_goals rfl
theorem rA(o:Op)(K:AV->Mem->Option R)(h:gG o=true)(hm:∀x∈o.operands,∀j∈eD (ev G S x),m2 j=m j) :
  fM G o S m id K=(fM G o S m2 id λx _=>some x).bind λx=>K x m:=by
 cases o<;>simp only[gG]at h
 case call c=>
  split at h
  ·rename_i hc;simp only[fM,hc];split
   ·rename_i t x h1 h2;have hx:=hm x (by
     have:x∈c.args.toList:=by rw[h2];simp
     simp only[Op.operands,Call.operands];exact Array.mem_append.2 (.inr (by simpa using this)))
    simp only[dF];refine congrArg (cX _) (funext λti=>?_);split
    ·simp only[fU,ab]
    ·rw[Bv hx];simp only[vE,ab]
    ·rfl
   ·rfl
  ·cases h
 all_goals first|(cases h;done)|skip
 all_goals simp only[Op.operands]at hm
 case load t a=>
  have ha:=hm a (by simp);simp only[fM];generalize ev G S a=X at ha;cases X<;>(try simp only[eD,bG,forall_eq]at ha)<;>simp only[dF]<;>refine congrArg (cX _) (funext λti=>?_)<;>(try simp only[ha])<;>repeat' first
   | with_reducible rfl
   | (simp only[ta,xb,fb,ab,aB])
   | (refine congrArg (cX _) (funext λ_=>?_))
   | split
 case nilCheck a=>
  have ha:=hm a (by simp);simp only[fM];generalize ev G S a=X at ha;cases X<;>(try simp only[eD,bG,forall_eq]at ha)<;>(try simp only[ha])<;>repeat' first
   | with_reducible rfl
   | (simp only[dF,ab,aB])
   | (refine congrArg (cX _) (funext λ_=>?_))
   | split
 case fieldAddr t a f=>
  have ha:=hm a (by simp);simp only[fM];generalize ev G S a=X at ha;cases X<;>(try simp only[eD,bG,forall_eq]at ha)<;>simp only[dF]<;>refine congrArg (cX _) (funext λti=>?_)<;>(try simp only[ha])<;>repeat' first
   | with_reducible rfl
   | (simp only[dF,fb,ab,aB])
   | (refine congrArg (cX _) (funext λ_=>?_))
   | (refine congrArg (λz=>bif _ then z else none) ?_)
   | split
 case indexAddr t a i=>
  have ha:=hm a (by simp);simp only[fM];generalize ev G S a=X at ha;cases X<;>(try simp only[eD,bG,forall_eq]at ha)<;>simp only[dF]<;>refine congrArg (cX _) (funext λti=>?_)<;>(try simp only[ha])<;>repeat' first
   | with_reducible rfl
   | (simp only[dF,gz,lW,nU,vS,fb,ab,aB])
   | (refine congrArg (cX _) (funext λ_=>?_))
   | (refine congrArg (gk _) (funext λ_=>funext λ_=>?_))
   | (refine congrArg (λz=>bif _ then z else none) ?_)
   | split
 case slice t a lo hi mx=>
  have ha:=hm a (by simp);have key:∀X,(∀j∈eD X,m2 j=m j)->(∀x:Value,X=.v x->x=.slice none 0 0\/∀a n c,x≠.slice a n c)->ev G S a=X->fM G (.slice t a lo hi mx) S m id K=(fM G (.slice t a lo hi mx) S m2 id λx _=>some x).bind λx=>K x m:=by
   intro X ha hv hX;simp only[fM,hX];rcases X with x|_|⟨j,off,n⟩|_|_|_|cs|_|_|_|_|_|_
   case v=>
    rcases hv x rfl with rfl|gN
    ·simp only[fb,dF,aB];refine congrArg (λz=>bif _ then z else none) ?_;refine congrArg (cX _) (funext λti=>?_)
     repeat' first
      | with_reducible rfl
      | (simp only[dF,fU,pa,ph,ab,aB])
      | (refine congrArg (cX _) (funext λ_=>?_))
      | split
    ·simp only[fb,dF,aB];refine congrArg (λz=>bif _ then z else none) ?_;refine congrArg (cX _) (funext λti=>?_);cases x
     case slice a n c=>exact absurd rfl (gN a n c)
     all_goals repeat' first
      | with_reducible rfl
      | (simp only[dF,fU,pa,ph,ab,aB])
      | (refine congrArg (cX _) (funext λ_=>?_))
      | split
   case own=>
    have ha:=ha j (by simp[eD]);simp only[fb,dF,aB];refine congrArg (λz=>bif _ then z else none) ?_;refine congrArg (cX _) (funext λti=>?_)
    repeat' first
     | with_reducible rfl
     | (rw[ha])
     | (simp only[dF,fU,pa,ph,fb,ab,aB])
     | (refine congrArg (cX _) (funext λ_=>?_))
     | (refine congrArg (λz=>bif _ then z else none) ?_)
     | split
   all_goals simp only[fb,dF,aB]
   all_goals refine congrArg (λz=>bif _ then z else none) ?_
   all_goals refine congrArg (cX _) (funext λti=>?_)
   all_goals repeat' first
    | with_reducible rfl
    | (simp only[dF,fU,pa,ph,fb,ab,aB])
    | (refine congrArg (cX _) (funext λ_=>?_))
    | (refine congrArg (λz=>bif _ then z else none) ?_)
    | split
  by_cases Ss:∃p n c,ev G S a=.v (.slice p n c)/\¬ (p=none/\n=0/\c=0)
  ·obtain⟨p,n,c,hX,gN⟩:=Ss;have NA:∀(m:Mem) {R:Type} (K:AV->Mem->Option R),fM G (.slice t a lo hi mx) S m id K=none:=by
    intro m R K;simp only[fM,hX];cases mx.isNone
    ·rfl
    ·cases G.gM t with
     | none=>rfl
     | some ti=>
      simp only[ak,cX];split
      ·rfl
      ·rename_i e _;cases G.gM e with
       | none=>rfl
       | some ei=>
        cases p<;>cases n<;>cases c<;>first|rfl|exact absurd ⟨rfl,rfl,rfl⟩ gN
      ·rename_i n' e _;cases G.gM e with
       | none=>rfl
       | some ei=>rfl
      ·rfl
   rw[NA,NA];rfl
  ·refine key _ ha (λx hx=>?_) rfl;by_cases hs:∃p n c,x=.slice p n c
   ·obtain⟨p,n,c,rfl⟩:=hs;by_cases h0:p=none/\n=0/\c=0
    ·obtain⟨rfl,rfl,rfl⟩:=h0;exact .inl rfl
    ·exact absurd ⟨p,n,c,hx,h0⟩ Ss
   ·exact .inr (λp n c e=>hs ⟨p,n,c,e⟩)
end
section
variable {R R' : Type} {G:fv} {S S' : List AV} {m m' m2:Mem} {id:Nat}
theorem Mem.rm(m:Mem)(id:Nat):m.gB id (m id)=m:=by
 funext j;by_cases e:j=id
 ·subst e;rw[Mem.dQ]
 ·rw[Mem.dy _ _ e]
theorem xc{x:AV}{F:Fl->Nat->List AV->Option R}(h:∀j∈eD x,m2 j=m j):jF m x F=jF m2 x F:=by
 cases x
 case own id off l=>simp only[jF,h id (by simp[eD])]
 case v x=>
  by_cases hx:x=.slice none 0 0
  ·subst hx;rfl
  ·have:∀m,jF m (.v x) F=none:=by
    intro m;unfold jF;split<;>simp_all
   rw[this,this]
 all_goals rfl
def Local(G:fv)(o:Op)(S:List AV)(m m2:Mem)(id:Nat):Prop:=
 ∀{R:Type} (K:AV->Mem->Option R),fM G o S m id K=(fM G o S m2 id λx m'=>some (x,m' id)).bind λq=>K q.1 (m.gB id q.2)
theorem DY{o:Op}(h:gG o=true)(hm:∀x∈o.operands,∀j∈eD (ev G S x),m2 j=m j)(hid:m2 id=m id):Local G o S m m2 id:=by
 intro R K;rw[rA (m2:=m2) o K h hm,rA (m:=m2) (m2:=m2) o (λx m'=>some (x,m' id)) h (λ_ _ _ _=>rfl),Option.bind_assoc];congr 1;funext x;simp only[ab,hid,Mem.rm]
theorem DZ{o:Op}(h:n5 o=true)(hm:∀x∈o.operands,∀j∈eD (ev G S x),m2 j=m j)(hid:m2 id=m id):Local G o S m m2 id:=by
 intro R K;cases o<;>simp only[n5]at h
 all_goals first|(cases h;done)|skip
 case convert s d x=>
  have hx:=hm x (by simp[Op.operands]);simp only[fM,dF];refine congrArg (cX _) (funext λsi=>?_);refine congrArg (cX _) (funext λdi=>?_);split
  ·simp only[gz,ab,hid,Mem.rm]
  ·simp only[fU,ab,hid,Mem.rm]
  ·simp only[dF];refine congrArg (cX _) (funext λei=>?_);split
   ·simp only[fU,ab,Mem.dQ]
   ·rfl
  ·simp only[fb,dF,aB];refine congrArg (λz=>bif _ then z else none) ?_;refine congrArg (cX _) (funext λei=>?_);split
   ·generalize hX:ev G S x=X at hx;split
    ·rename_i j;simp only[dF,hx j (by simp[eD])];refine congrArg (cX _) (funext λbl=>?_);split
     ·simp only[ab,hid,Mem.rm]
     ·rfl
    ·rfl
   ·rfl
  ·simp only[dF];refine congrArg (cX _) (funext λei=>?_);split
   ·rw[xc hx];simp only[zj,dF,ab,hid,Mem.rm]
   ·rfl
  ·rfl
 all_goals simp only[fM]
 all_goals repeat' first
  | with_reducible rfl
  | (simp only[dF,kB,fb,ab,aB,Mem.dQ])
  | (refine congrArg (cX _) (funext λ_=>?_))
  | split
theorem vj{c:AV}(h:lG c=[]):nl m c=nl m2 c:=by
 cases c<;>first|rfl|(simp[lG]at h;done)
theorem vl:∀(cs:List AV),cs.flatMap lG=[]->pX m cs=pX m2 cs
 | [],_=>rfl
 | c::cs,h=>by
  rw[bD,List.append_eq_nil_iff]at h;simp only[pX,vj (m:=m) (m2:=m2) h.1,vl cs h.2]
theorem tQ{ti:TI}{x:AV}(h:jD x=[]):nw m ti x=nw m2 ti x:=by
 have:nL m x=nL m2 x:=by
  cases x
  case agg cs=>simp only[nL,vl (m:=m) (m2:=m2) cs h]
  all_goals (have h':=h;simp only[jD]at h';exact vj (m:=m) (m2:=m2) h')
 simp only[nw,this]
theorem tO{ti:TI}:∀(xs:List AV),xs.flatMap jD=[]->mD m ti xs=mD m2 ti xs
 | [],_=>rfl
 | x::xs,h=>by
  rw[bD,List.append_eq_nil_iff]at h;simp only[mD,tQ (m:=m) (m2:=m2) h.1,tO xs h.2]
theorem BU{t:TypeId}{len:Nat}{parts:Array (Nat × Operand)}(h:((parts.toList.map fun(_,x)=>ev G S x).flatMap jD)=[]):Local G (.buildSlice t len parts) S m m2 id:=by
 intro R K;simp only[fM,h,nA,List.foldl_nil];simp only[dF];refine congrArg (cX _) (funext λti=>?_);split
 ·simp only[dF];refine congrArg (cX _) (funext λei=>?_);cases uY ei.kd
  case true=>simp only[ak,fb,ab,aB,Mem.dQ]
  simp only[cond_false];rw[fb,tO (m:=m) (m2:=m2) _ h];simp only[dF,ab,aB,Mem.dQ]
 ·rfl
end
def over(m:Mem)(id:Nat)(f:Mem):Mem:=λj=>bif Nat.ble id j&&Nat.blt j (id+8)then f j else m j
section
variable {R:Type} {G:fv} {S S' : List AV} {m m' m2:Mem} {id:Nat} {C:FuncId->List AV->(AV->Option R)->Option R} {dr:Bool} {o:Oper} {r:R}
def ik(C:FuncId->List AV->(AV->Option R)->Option R):Prop:=
 ∀g gi (K:AV->Option R) r,C g gi K=some r->∃x,K x=some r/\∀(K' : AV->Option R) r',K' x=some r'->C g gi K'=some r'
def xR(G:fv)(C:FuncId->List AV->(AV->Option R)->Option R)(dr:Bool)(o:Oper)(S:List AV)(m:Mem)(id:Nat)(x:AV)(m' : Mem):Prop:=
 ∀(K:AV->Mem->Option R) r,K x m'=some r->eZ G C dr o S m id K=some r
theorem uQ{op:Op}{K:AV->Mem->Option R}(h:fM G op S m id K=some r):∃x m',K x m'=some r/\∀(K' : AV->Mem->Option R) r',K' x m'=some r'->fM G op S m id K'=some r':=by
 rw[Fb]at h;rw[aL]at h;obtain⟨⟨x,m'⟩,h1,h2⟩:=h;refine⟨x,m',h2,λK' r' fY=>?_⟩;rw[Fb,h1];exact fY
theorem Hq(hC:ik C){f:FuncId}{args:List AV}{K:AV->Mem->Option R}(h:ql C f args m K=some r) :
  ∃x m',K x m'=some r/\∀(K' : AV->Mem->Option R) r',K' x m'=some r'->ql C f args m K'=some r':=by
 unfold ql at h;split at h
 ·rename_i j off l rest;obtain⟨b,hm,h⟩:=cS h;split at h
  ·rename_i fl sz xs;obtain⟨hv,h⟩:=c_ h;obtain⟨y,h3,h4⟩:=hC _ _ _ _ h;split at h3
   ·rename_i z iA jL ys;obtain⟨hq,h3⟩:=c_ h3;obtain⟨z',hz,h3⟩:=cS h3;refine⟨_,_,h3,λK' r' fY=>?_⟩;unfold ql;simp only[hm,cX,hv,ak];refine h4 _ _ ?_;simp only[hq,ak,hz];exact fY
   ·cases h3
  ·cases h
 ·cases h
theorem zf(hC:ik C){f:FuncId}{args:List AV}{K:AV->Mem->Option R}(h:gZ G C dr f args m id K=some r) :
  ∃x m',K x m'=some r/\∀(K' : AV->Mem->Option R) r',K' x m'=some r'->gZ G C dr f args m id K'=some r':=by
 unfold gZ at h;cases hp:args.any kG with
 | true=>
  rw[hp]at h;cases dr with
  | true=>cases h
  | false=>
   simp only[ak,cond_false]at h;unfold t_ at h;obtain⟨UE,NR,h⟩:=cS h;obtain⟨xs,HR,h⟩:=cS h;cases ha:((kv m xs).any λi=>(args.flatMap (Ay m)).contains i)with
   | true=>rw[ha]at h;cases h
   | false=>
    rw[ha]at h;simp only[cond_false]at h;obtain⟨y,h3,h4⟩:=hC _ _ _ _ h;split at h3
    ·rename_i z os;obtain⟨Ld,h3⟩:=c_ h3;refine⟨_,_,h3,λK' r' fY=>?_⟩;unfold gZ t_;rw[hp];simp only[ak,cond_false,NR,HR,cX,ha];refine h4 _ _ ?_;simp only[Ld,ak];exact fY
    ·cases h3
 | false=>
  rw[hp]at h;simp only[cond_false]at h;cases Dd:G.refs f with
  | true=>
   rw[Dd]at h;cases dr with
   | true=>cases h
   | false=>
    simp only[ak,cond_false]at h;obtain⟨x,m',h1,h2⟩:=Hq hC h;refine⟨x,m',h1,λK' r' fY=>?_⟩;unfold gZ;rw[hp,Dd];simp only[ak,cond_false];exact h2 K' r' fY
  | false=>
  rw[Dd]at h;simp only[cond_false]at h;obtain⟨gi,h1,h⟩:=cS h;obtain⟨Tx,h2,h⟩:=cS h;obtain⟨y,h3,h4⟩:=hC _ _ _ _ h;have fin:∀(K' : AV->Mem->Option R) r',(bif nf y then(match imp id m y with|(x,c,m')=>bif Nat.ble c 8 then K' x m' else none)
    else bif dr&&!(args.flatMap (jn m)).isEmpty then none
    else(match imp id (nA m (args.flatMap (jn m))) y with | (x,c,m')=>bif Nat.ble c 8 then K' x m' else none))=some r'->gZ G C dr f args m id K'=some r':=by
   intro K' r' h;unfold gZ;rw[hp,Dd];simp only[cond_false,h1,h2,cX];exact h4 _ _ h
  cases ic:nf y with
  | true=>
   rw[ic]at h3;simp only[ak]at h3;obtain⟨Cn,h3⟩:=c_ h3;refine⟨_,_,h3,λK' r' fY=>fin K' r' ?_⟩;rw[ic];simp only[ak,Cn];exact fY
  | false=>
   rw[ic]at h3;simp only[cond_false]at h3;cases hq:(dr&&!(args.flatMap (jn m)).isEmpty)with
   | true=>rw[hq]at h3;cases h3
   | false=>
    rw[hq]at h3;simp only[cond_false]at h3;obtain⟨Cn,h3⟩:=c_ h3;refine⟨_,_,h3,λK' r' fY=>fin K' r' ?_⟩;rw[ic,hq];simp only[cond_false,Cn,ak];exact fY
theorem k8(hC:ik C){K:AV->Mem->Option R}(h:eZ G C dr o S m id K=some r):∃x m',K x m'=some r/\xR G C dr o S m id x m':=by
 unfold eZ at h;unfold xR eZ;split at h
 ·split at h
  ·split at h
   ·rename_i g f_ hf;cases hb:(dr&&!(f_.all AV.okB))with
    | true=>rw[hb]at h;cases h
    | false=>
     rw[hb]at h;cases hg:Nat.blt g xn with
     | true=>
      rw[hg]at h;obtain⟨x,m',h1,h2⟩:=zf hC h;exact⟨x,m',h1,λK' r' fY=>h2 K' r' fY⟩
     | false=>
      rw[hg]at h;obtain⟨x,m',h1,h2⟩:=zf hC h;exact⟨x,m',h1,λK' r' fY=>h2 K' r' fY⟩
   ·cases h
  ·rename_i hn;obtain⟨x,m',h1,h2⟩:=uQ h;exact⟨x,m',h1,λK' r' fY=>h2 K' r' fY⟩
 ·rename_i t p x e_;cases hb:(dr&&!((tS (ev G S p)&&(jD (ev G S x)).isEmpty)||D7 (ev G S p)))with
  | true=>rw[hb]at h;cases h
  | false=>
   rw[hb]at h;rw[cond_false]at h;obtain⟨x,m',h1,h2⟩:=uQ h;exact⟨x,m',h1,λK' r' fY=>by rw[cond_false];exact h2 K' r' fY⟩
 ·rename_i t n parts e_;cases hb:(dr&&!(BZ G t||((parts.toList.map fun(_,x)=>ev G S x).flatMap jD).isEmpty))with
  | true=>rw[hb]at h;cases h
  | false=>
   rw[hb]at h;rw[cond_false]at h;obtain⟨x,m',h1,h2⟩:=uQ h;exact⟨x,m',h1,λK' r' fY=>by rw[cond_false];exact h2 K' r' fY⟩
 ·obtain⟨x,m',h1,h2⟩:=uQ h;exact⟨x,m',h1,λK' r' fY=>h2 K' r' fY⟩
theorem fy{K:AV->Mem->Option R}(h:∀x∈o.op.operands,ev G S x=ev G S' x):eZ G C dr o S m id K=eZ G C dr o S' m id K:=by
 unfold eZ;cases e_:o.op
 case call c=>
  rw[e_]at h;simp only;split
  ·rename_i f hc;have hf:ev G S f=ev G S' f:=h f (by simp[Op.operands,Call.operands,hc]);have ha:c.args.toList.map (ev G S)=c.args.toList.map (ev G S'):=oe λx hx=>h x (by simp only[Op.operands,Call.operands];exact Array.mem_append.2 (.inr hx));rw[hf,ha]
  ·exact pF _ K h
 case store t p x=>
  rw[e_]at h;have e1:ev G S p=ev G S' p:=h p (by simp[Op.operands]);have e2:ev G S x=ev G S' x:=h x (by simp[Op.operands]);simp only[e1,e2,pF (.store t p x) K h]
 case buildSlice t n parts=>
  rw[e_]at h;have e:(parts.toList.map fun(_,x)=>ev G S x)=parts.toList.map fun(_,x)=>ev G S' x:=List.map_congr_left λp hp=>h p.2 (by
   show p.2∈(parts.toList.map (·.2)).toArray;exact List.mem_toArray.2 (cD.2 ⟨p,hp,rfl⟩))
  simp only[e,pF (.buildSlice t n parts) K h]
 all_goals exact pF _ K (by rw[e_]at h;exact h)
end
section
variable {id:Nat}
def KX(lo hi:Nat)(m m' m2 Yk : Mem):Prop:=∀j,(lo<=j/\j<hi->Yk j=m' j)/\(¬ (lo<=j/\j<hi)->m' j=m j/\Yk j=m2 j)
theorem KX.trans{a b c:Nat}{m m1 m2 n n1 n2:Mem}(hab:a<=b)(hbc:b<=c)(h1:KX a b m m1 n n1)(h2:KX b c m1 m2 n1 n2):KX a c m m2 n n2:=by
 intro j;refine⟨λhj=>?_,λhj=>?_⟩
 ·by_cases hb:b<=j
  ·exact(h2 j).1 ⟨hb,hj.2⟩
  ·obtain⟨e1,e2⟩:=(h2 j).2 (by omega);rw[e1,e2];exact(h1 j).1 ⟨hj.1,by omega⟩
 ·obtain⟨e1,e2⟩:=(h2 j).2 (by omega);obtain⟨e3,e4⟩:=(h1 j).2 (by omega);exact⟨e1.trans e3,e2.trans e4⟩
theorem B8(x:AV)(c:Nat)(m n:Mem):∃c' y m' n',um id c m x=(y,c',m')/\um id c n x=(y,c',n')/\c<=c'/\KX (id+c) (id+c') m m' n n':=by
 cases x with
 | fr fl sz xs=>
  refine⟨c+1,_,_,_,rfl,rfl,by omega,λj=>⟨λhj=>?_,λhj=>?_⟩⟩
  ·have:j=id+c:=by omega
   subst this;rw[Mem.dQ,Mem.dQ]
  ·have:j≠id+c:=by omega
   exact⟨Mem.dy _ _ this,Mem.dy _ _ this⟩
 | _=>exact⟨c,_,_,_,rfl,rfl,aH _,λj=>⟨λhj=>by omega,λ_=>⟨rfl,rfl⟩⟩⟩
theorem B9:∀(xs:List AV) (c:Nat) (m n:Mem),∃c' ys m' n',qJ id c m xs=(ys,c',m')/\qJ id c n xs=(ys,c',n')/\c<=c'/\KX (id+c) (id+c') m m' n n'
 | [],c,m,n=>⟨c,[],m,n,rfl,rfl,aH _,λj=>⟨λhj=>by omega,λ_=>⟨rfl,rfl⟩⟩⟩
 | x::xs,c,m,n=>by
  obtain⟨c1,y,m1,n1,e1,e2,h1,u1⟩:=B8 (id:=id) x c m n;obtain⟨c2,ys,m2,n2,e3,e4,h2,u2⟩:=B9 xs c1 m1 n1;exact⟨c2,y::ys,m2,n2,by simp only[qJ,e1,e3],by simp only[qJ,e2,e4],by omega,u1.trans (by omega) (by omega) u2⟩
theorem B_(x:AV)(c:Nat)(m n:Mem):∃c' y m' n',qK id c m x=(y,c',m')/\qK id c n x=(y,c',n')/\c<=c'/\KX (id+c) (id+c') m m' n n':=by
 have other:∀x,(∀m,qK id c m x=um id c m x)->∃c' y m' n',qK id c m x=(y,c',m')/\qK id c n x=(y,c',n')/\c<=c'/\KX (id+c) (id+c') m m' n n':=by
  intro x h;rw[h,h];exact B8 x c m n
 cases x with
 | agg cs=>
  obtain⟨c1,ys,m1,n1,e1,e2,h1,u1⟩:=B9 (id:=id) cs c m n;exact⟨c1,.agg ys,m1,n1,by simp only[qK,e1],by simp only[qK,e2],h1,u1⟩
 | _=>exact other _ (λ_=>rfl)
theorem yL:∀(xs:List AV) (c:Nat) (m n:Mem),∃c' ys m' n',ny id c m xs=(ys,c',m')/\ny id c n xs=(ys,c',n')/\c<=c'/\KX (id+c) (id+c') m m' n n'
 | [],c,m,n=>⟨c,[],m,n,rfl,rfl,aH _,λj=>⟨λhj=>by omega,λ_=>⟨rfl,rfl⟩⟩⟩
 | x::xs,c,m,n=>by
  obtain⟨c1,y,m1,n1,e1,e2,h1,u1⟩:=B_ (id:=id) x c m n;obtain⟨c2,ys,m2,n2,e3,e4,h2,u2⟩:=yL xs c1 m1 n1;exact⟨c2,y::ys,m2,n2,by simp only[ny,e1,e3],by simp only[ny,e2,e4],by omega,u1.trans (by omega) (by omega) u2⟩
theorem Mf(x:AV)(m n:Mem):∃c y m' n',imp id m x=(y,c,m')/\imp id n x=(y,c,n')/\KX id (id+c) m m' n n':=by
 have other:∀x,(∀m,imp id m x=qK id 0 m x)->∃c y m' n',imp id m x=(y,c,m')/\imp id n x=(y,c,n')/\KX id (id+c) m m' n n':=by
  intro x h;rw[h,h];obtain⟨c1,y,m1,n1,e1,e2,h1,u1⟩:=B_ (id:=id) x 0 m n;exact⟨c1,y,m1,n1,e1,e2,u1⟩
 cases x with
 | eC xs=>
  obtain⟨c1,ys,m1,n1,e1,e2,h1,u1⟩:=yL (id:=id) xs 0 m n;exact⟨c1,.eC ys,m1,n1,by simp only[imp,e1],by simp only[imp,e2],u1⟩
 | _=>exact other _ (λ_=>rfl)
theorem rS{x y:AV}{c:Nat}{m m' m2:Mem}(h:imp id m x=(y,c,m'))(hc:c<=8)(hm:∀j,id<=j->j<id+8->m2 j=m j):m'=over m id m'/\imp id m2 x=(y,c,over m2 id m'):=by
 obtain⟨c1,y1,m1,n1,e1,e2,u⟩:=Mf (id:=id) x m m2;rw[e1]at h;cases h;have hb:∀j,(Nat.ble id j&&Nat.blt j (id+8))=true↔id<=j/\j<id+8:=by
  intro j;rw[ae];constructor
  ·intro h;exact⟨aG h.1,by simpa using h.2⟩
  ·intro h;exact⟨cb h.1,by simpa using h.2⟩
 have h1:m'=over m id m':=by
  funext j;unfold over;cases hj:(Nat.ble id j&&Nat.blt j (id+8))with
  | true=>rfl
  | false=>
   have:¬ (id<=j/\j<id+8):=λh=>by rw[(hb j).2 h]at hj;cases hj
   exact((u j).2 (by omega)).1
 have h2:n1=over m2 id m':=by
  funext j;unfold over;cases hj:(Nat.ble id j&&Nat.blt j (id+8))with
  | true=>
   have hr:=(hb j).1 hj;by_cases hk:id<=j/\j<id+c
   ·exact(u j).1 hk
   ·obtain⟨e3,e4⟩:=(u j).2 hk;show n1 j=m' j;rw[e3,e4];exact hm j hr.1 hr.2
  | false=>
   have:¬ (id<=j/\j<id+8):=λh=>by rw[(hb j).2 h]at hj;cases hj
   exact((u j).2 (by omega)).2
 exact⟨h1,by rw[e2,<-h2]⟩
end
end Go.Proofs.Ev
end