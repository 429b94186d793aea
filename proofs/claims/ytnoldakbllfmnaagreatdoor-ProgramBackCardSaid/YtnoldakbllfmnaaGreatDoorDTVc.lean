import Derived.Test.YtnoldakbllfmnaaGreatDoorDTVb
import Derived.Shelf.Spec.SlicesGrow
import Derived.Shelf.SlLaysE0
import Derived.Shelf.RegionOpenPlain
import Derived.WalkKit
import Derived.Deep.LoopGhost
import Derived.Lib.Walk
import Derived.Lib.SliceRun
import Derived.Maps.AppendAt
import Derived.OpenShut
import Derived.ChangeArms
import Derived.ProofKit
import Derived.ShutString
import Derived.ChangeOld
import Derived.Below
import Derived.Carry
import Derived.SizedLaws
import Derived.HandedShaped
import Derived.Shelf.Strings.Builder1
import Derived.Shelf.Strconv.ErrVarAll
import Derived.Shelf.Strings.SlTrimAscii
import Derived.LaidLaws
import Derived.MakeChecks
import Derived.Lib.LaidTab
import Derived.Lib.ItoaNum
import Derived.Sort.Grow
import Derived.Lib.Join
import Derived.Shelf.Slices.In.SortNone
import Derived.Shelf.Slices.In.CompactI
import Derived.KernelRfl
set_option linter.all false
noncomputable section
namespace Go.Proofs.Ev
open Go Go.RowKit
section
variable {R:Type} {G:eH} {S S' : List AV} {m m' m2:Mem} {id:Nat} {C:FuncId->List AV->(AV->Option R)->Option R} {dr:Bool} {o:Oper} {r:R}
theorem lT{x:AV}(h:∀j∈dM x,m2 j=m j):lx m x=lx m2 x:=by
 cases x
 case own id off l=>
  simp only[lx];exact uo h
 all_goals rfl
theorem n7:∀(cs:List AV),(∀j∈cs.flatMap dM,m2 j=m j)->nN m cs=nN m2 cs
 | [],_=>rfl
 | x::cs,h=>by
  simp only[bC,aK]at h;simp only[nN,lT (λj hj=>h j (.inl hj)),n7 cs (λj hj=>h j (.inr hj))]
theorem AL{x:AV}(hp:∀i off,x≠.ptr i off)(h:∀j∈dM x,m2 j=m j):sr m x=sr m2 x:=by
 cases x
 case ptr i off=>exact absurd rfl (hp i off)
 case own id off l=>
  simp only[sr];exact lT h
 all_goals rfl
theorem qz:∀(cs:List AV),(cs.any fun | .ptr _ _=>true | _=>false)=false->(∀j∈cs.flatMap dM,m2 j=m j)->qA m cs=qA m2 cs
 | [],_,_=>rfl
 | x::cs,hp,h=>by
  simp only[bC,aK]at h;simp only[List.any_cons,aZ]at hp;have hx:∀i off,x≠.ptr i off:=by intro i off e;subst e;simp at hp
  simp only[qA,AL hx (λj hj=>h j (.inl hj)),qz cs hp.2 (λj hj=>h j (.inr hj))]
theorem AM{x:AV}(hp:ja x=false)(h:∀j∈dJ x,m2 j=m j):fa m x=fa m2 x:=by
 cases x
 case agg cs=>simp only[fa,n7 cs h]
 case fn f cs=>simp only[fa,qz cs hp h]
 case ptr i off=>cases hp
 case own id off l=>
  simp only[fa,sr];exact lT h
 all_goals rfl
theorem qB:∀(xs:List AV),xs.any ja=false->(∀x∈xs,∀j∈dJ x,m2 j=m j)->j5 m xs=j5 m2 xs
 | [],_,_=>rfl
 | x::xs,hp,h=>by
  simp only[List.any_cons,aZ]at hp;simp only[j5,AM hp.1 (h x (by simp)),qB xs hp.2 (λy hy=>h y (by simp[hy]))]
theorem vJ{op:Op}(loc:∀ma mb:Mem,(∀y∈op.operands,∀j∈dM (ev G S y),mb j=ma j)->mb id=ma id->Local G op S ma mb id){K:AV->Mem->Option R}(hK:eU G op S m id K=some r) :
  ∃x m',K x m'=some r/\m'=over m id m'/\∀m2,(∀y∈op.operands,∀j∈dM (ev G S y),m2 j=m j)->(∀j,id<=j->j<id+8->m2 j=m j)->
   ∀(K' : AV->Mem->Option R) r',K' x (over m2 id m')=some r'->eU G op S m2 id K'=some r':=by
 have h0:=loc m m (λ_ _ _ _=>rfl) rfl K;rw[hK]at h0;have h0:=h0.symm;rw[cv]at h0;obtain⟨⟨x,b⟩,h1,h2⟩:=h0;have ho:∀m3:Mem,(∀j,id<=j->j<id+8->m3 j=m j)->m3.fJ id b=over m3 id (m.fJ id b):=by
  intro m3 h3;funext j;unfold over;by_cases e:j=id
  ·subst e;rw[Mem.dx,Mem.dx];have:(Nat.ble j j&&Nat.blt j (j+8))=true:=by
    rw[ae];exact⟨bX (aJ _),by simp[Nat.blt]⟩
   rw[this];rfl
  ·rw[Mem.dk _ _ e,Mem.dk _ _ e];cases hj:(Nat.ble id j&&Nat.blt j (id+8))with
   | false=>rfl
   | true=>
    rw[ae]at hj;exact h3 j (aD hj.1) (by simpa using hj.2)
 refine⟨x,m.fJ id b,h2,ho m (λ_ _ _=>rfl),λm2 hr hi K' r' fe=>?_⟩;rw[loc m2 m (λy hy j hj=>(hr y hy j hj).symm) (hi id (aJ _) (by omega)).symm K',h1];simp only[ab];rw[ho m2 hi];exact fe
theorem Gw{op:Op}(h:fK op=true\/l9 op=true){K:AV->Mem->Option R}(hK:eU G op S m id K=some r) :
  ∃x m',K x m'=some r/\m'=over m id m'/\∀m2,(∀y∈op.operands,∀j∈dM (ev G S y),m2 j=m j)->(∀j,id<=j->j<id+8->m2 j=m j)->
   ∀(K' : AV->Mem->Option R) r',K' x (over m2 id m')=some r'->eU G op S m2 id K'=some r':=
 vJ (λma mb h1 h2=>by
  rcases h with h|h
  ·exact Bk h h1 h2
  ·exact Bl h h1 h2) hK
def pa(m:Mem):Option Nat->Mem
 | none=>m
 | some j=>m.fJ j none
def kill(m f:Mem)(ks:List Nat):Mem:=λj=>bif ks.contains j then f j else m j
theorem ke{m f:Mem}{ks:List Nat}{j:Nat}(h:j∈ks):kill m f ks j=f j:=by
 have:ks.contains j=true:=by simpa using h
 unfold kill;rw[this];rfl
theorem eJ{m f:Mem}{ks:List Nat}{j:Nat}(h:j ∉ ks):kill m f ks j=m j:=by
 have:ks.contains j=false:=by simpa using h
 unfold kill;rw[this];rfl
theorem za(m:Mem)(k:Option Nat):pa m k=kill m (λ_=>none) k.toList:=by
 funext j;cases k with
 | none=>rfl
 | some i=>
  show(m.fJ i none) j=_;by_cases e:j=i
  ·subst e;rw[Mem.dx,ke (by simp)]
  ·rw[Mem.dk _ _ e,eJ (by simp[e])]
def mq(ei ui:TI)(m:Mem)(y:AV)(K:List AV->Option R):Option R:=match ui.kd with
 | .string=>bif Nat.beq ei.size 1 then dm y λs=>K (s.toList.map λb=>vu b.toNat)else none
 | .slice _=>ig m y λfl sz ys=>bif(fl==ei.flat&&Nat.beq sz ei.size)||(Nat.beq sz 0&&ys.isEmpty)then K ys else none
 | .int _=>cQ .i64 y λn=>bif decide ((0:Int)<=n)&&decide (n<=eR)then K (List.replicate n.toNat (bif ei.isAgg then .agg ei.qy else ei.qy.headD .undef))else none
 | _=>none
def wE(ei:TI)(m:Mem)(id:Nat)(x:AV)(ys:List AV)(K:AV->Mem->Option R):Option R:=match x with
 | .v (.slice none 0 0)=>bif decide (ys.length<=eR)then K (.own id 0 none) (m.fJ id (Option.some (.row ei.flat ei.size ys)))else none
 | .own j off none=>cR (m j) fun
  | .row fl sz xs=>bif fl==ei.flat&&Nat.beq sz ei.size then
    bif decide ((jV off xs).length+ys.length<=eR)then K (.own id 0 none) ((m.fJ j none).fJ id (Option.some (.row fl sz (jV off xs++ys))))else none
   else none
  | _=>none
 | _=>none
theorem B4{ei ui:TI}{y:AV}{K:List AV->Option R}(h:mq ei ui m y K=some r) :
  ∃ys,K ys=some r/\∀m2,(∀j∈dM y,m2 j=m j)->∀(K' : List AV->Option R) r',K' ys=some r'->mq ei ui m2 y K'=some r':=by
 unfold mq at h;cases hk:ui.kd
 all_goals (rw[hk]at h)
 all_goals first|(cases h;done)|skip
 ·simp only at h;cases y
  case own id off l=>
   simp only[ig]at h;cases hm:m id with
   | none=>rw[hm]at h;cases h
   | some b=>
    rw[hm]at h;cases b with
    | box t cs=>cases h
    | row fl sz xs=>
     simp only at h;obtain⟨hb,h⟩:=cV h;refine⟨_,h,λm2 Oq K' r' fe=>?_⟩;unfold mq;rw[hk];simp only[ig];rw[Oq id (by simp[dM]),hm];simp only[hb,ak];exact fe
  case sl fl sz xs=>
   simp only[ig]at h;obtain⟨hb,h⟩:=cV h;refine⟨_,h,λm2 Oq K' r' fe=>?_⟩;unfold mq;rw[hk];simp only[ig,hb,ak];exact fe
  case v x=>
   by_cases hx:x=.slice none 0 0
   ·subst hx;simp only[ig]at h;obtain⟨hb,h⟩:=cV h;refine⟨_,h,λm2 Oq K' r' fe=>?_⟩;unfold mq;rw[hk];simp only[ig,hb,ak];exact fe
   ·exfalso;unfold ig at h;split at h<;>simp_all
  all_goals (exfalso;simp only[ig]at h;cases h)
 ·simp only at h;obtain⟨n,hy,h8⟩:=gr h;have h9:=cV h8;clear h h8;obtain⟨hb,h⟩:=h9;subst hy;refine⟨_,h,λm2 Oq K' r' fe=>?_⟩;unfold mq;rw[hk];simp only[cQ,decide_true,ak,hb];exact fe
 ·simp only at h;have h9:=cV h;clear h;obtain⟨hb,h⟩:=h9;cases y
  case v x=>
   cases x
   case string s=>
    simp only[dm]at h;refine⟨_,h,λm2 Oq K' r' fe=>?_⟩;unfold mq;rw[hk];simp only[dm,hb,ak];exact fe
   all_goals (exfalso;simp only[dm]at h;cases h)
  all_goals (exfalso;simp only[dm]at h;cases h)
theorem jD(m:Mem)(id:Nat)(b:Option oK)(m2:Mem)(h:∀j,id<=j->j<id+8->m2 j=m j):m2.fJ id b=over m2 id (m.fJ id b):=by
 funext j;unfold over;by_cases e:j=id
 ·subst e;rw[Mem.dx,Mem.dx];have:(Nat.ble j j&&Nat.blt j (j+8))=true:=by
   rw[ae];exact⟨bX (aJ _),by simp[Nat.blt]⟩
  rw[this];rfl
 ·rw[Mem.dk _ _ e,Mem.dk _ _ e];cases hj:(Nat.ble id j&&Nat.blt j (id+8))with
  | false=>rfl
  | true=>
   rw[ae]at hj;exact h j (aD hj.1) (by simpa using hj.2)
theorem EN{ei:TI}{x:AV}{ys:List AV}{K:AV->Mem->Option R}(h:wE ei m id x ys K=some r) :
  ∃z m' k,K z m'=some r/\m'=over (pa m k) id m'/\(∀j,k=some j->j∈dM x/\∃fl sz xs,m j=some (.row fl sz xs))/\
   ∀m2,(∀j∈dM x,m2 j=m j)->(∀j,id<=j->j<id+8->m2 j=m j)->∀(K' : AV->Mem->Option R) r',K' z (over (pa m2 k) id m')=some r'->wE ei m2 id x ys K'=some r':=by
 unfold wE at h;split at h
 ·obtain⟨hb,h⟩:=cV h;refine⟨_,_,none,h,jD m id _ m (λ_ _ _=>rfl),by simp,λm2 _ hi K' r' fe=>?_⟩;unfold wE;simp only[hb,ak];rw[jD m id _ m2 hi];exact fe
 ·rename_i j off;obtain⟨b,hm,h⟩:=cN h;cases b with
  | box t cs=>cases h
  | row fl sz xs=>
   simp only at h;obtain⟨hb,h⟩:=cV h;obtain⟨hc,h⟩:=cV h;have K0:∀m2:Mem,(∀i,id<=i->i<id+8->m2 i=m i)->∀i,id<=i->i<id+8->(pa m2 (some j)) i=(m.fJ j none) i:=by
    intro m2 hi i h1 h2;show(m2.fJ j none) i=_;by_cases e:i=j
    ·subst e;rw[Mem.dx,Mem.dx]
    ·rw[Mem.dk _ _ e,Mem.dk _ _ e];exact hi i h1 h2
   refine⟨_,_,some j,h,jD (m.fJ j none) id _ (pa m (some j)) (λ_ _ _=>rfl),?_,λm2 hr hi K' r' fe=>?_⟩
   ·intro i hi;cases hi;exact⟨by simp[dM],_,_,_,hm⟩
   ·unfold wE;have e:=hr j (by simp[dM]);simp only[e,hm,cR,hb,hc,ak];rw[show m2.fJ j none=pa m2 (some j)from rfl,jD (m.fJ j none) id _ (pa m2 (some j)) (K0 m2 hi)];exact fe
 ·cases h
theorem EM{op:Op}(rq:∀t p x,op≠.store t p x)(ha:nq op=true){K:AV->Mem->Option R}(hK:eU G op S m id K=some r) :
  ∃x m' k,K x m'=some r/\m'=over (pa m k) id m'/\(∀j,k=some j->(∃y∈op.operands,j∈dM (ev G S y))/\∃fl sz xs,m j=some (.row fl sz xs))/\
   ∀m2,(∀y∈op.operands,∀j∈dM (ev G S y),m2 j=m j)->(∀j,id<=j->j<id+8->m2 j=m j)->
    ∀(K' : AV->Mem->Option R) r',K' x (over (pa m2 k) id m')=some r'->eU G op S m2 id K'=some r':=by
 cases op<;>(try (cases ha;done))<;>(try (exact absurd rfl (rq _ _ _)));rename_i c;cases hc:c.callee<;>(try (simp[nq,hc]at ha;done));rename_i b;cases b<;>(try (simp[nq,hc]at ha;done));clear ha;have key:∀(m:Mem) (K:AV->Mem->Option R),eU G (.call c) S m id K=match c.argTypes.toList,c.args.toList with
   | [t,u],[x,y]=>cR (G.fP t) λti=>cR (G.fP u) λui=>match ti.kd with
    | .slice e=>cR (G.fP e) λei=>
     bif Nat.ble ei.bytes 4096&&Nat.ble 1 ei.bytes&&Nat.ble 1 ei.size then mq ei ui m (ev G S y) λys=>wE ei m id (ev G S x) ys K
     else none
    | _=>none
   | _,_=>none:=by
  intro m K;simp only[eU,hc];rfl
 rw[key]at hK;simp only[key];split at hK
 ·rename_i t u x y h1 h2;have hx:x∈(Op.call c).operands:=by
   simp only[Op.operands,Call.operands];exact Array.mem_append.2 (.inr (by rw[<-Array.mem_toList_iff,h2];simp))
  have hy:y∈(Op.call c).operands:=by
   simp only[Op.operands,Call.operands];exact Array.mem_append.2 (.inr (by rw[<-Array.mem_toList_iff,h2];simp))
  obtain⟨ti,e1,hK⟩:=cN hK;obtain⟨ui,e2,hK⟩:=cN hK;cases fv:ti.kd<;>rw[fv]at hK<;>(try (cases hK;done));rename_i e;simp only at hK;obtain⟨ei,e3,hK⟩:=cN hK;obtain⟨hb,hK⟩:=cV hK;obtain⟨ys,hK,hs⟩:=B4 hK;obtain⟨z,m',k,hK,ou,UD,ht⟩:=EN hK;refine⟨z,m',k,hK,ou,λj hj=>⟨⟨x,hx,(UD j hj).1⟩,(UD j hj).2⟩,λm2 hr hi K' r' fe=>?_⟩;simp only[e1,e2,e3,cR,fv,hb,ak];exact hs m2 (λj hj=>hr y hy j hj) _ _ (ht m2 (λj hj=>hr x hx j hj) hi _ _ fe)
 ·cases hK
theorem nB(m m2:Mem)(id j:Nat)(b:Option oK)(h:∀i,id<=i->i<id+8->m2 i=m i):m2.fJ j b=over (kill m2 (λ_=>b) [j]) id (m.fJ j b):=by
 have hk:kill m2 (λ_=>b) [j]=m2.fJ j b:=by
  funext i;by_cases e:i=j
  ·subst e;rw[Mem.dx,ke (by simp)]
  ·rw[Mem.dk _ _ e,eJ (by simp[e])]
 rw[hk];funext i;unfold over;cases hi:(Nat.ble id i&&Nat.blt i (id+8))with
 | false=>rfl
 | true=>
  rw[ae]at hi;show(m2.fJ j b) i=(m.fJ j b) i;by_cases e:i=j
  ·subst e;rw[Mem.dx,Mem.dx]
  ·rw[Mem.dk _ _ e,Mem.dk _ _ e];exact h i (aD hi.1) (by simpa using hi.2)
def Ih(G:eH)(S:List AV)(op:Op)(m:Mem)(id:Nat)(K:AV->Mem->Option R)(r:R)(D:AV->List Nat):Prop:=
 ∃x m' ks f,K x m'=some r/\m'=over (kill m f ks) id m'/\(∀j∈ks,(∃y∈op.operands,j∈D (ev G S y))/\gh (f j)=gh (m j)/\(gh (m j)=false\/∃t p x off,op=.store t p x/\ev G S p=.ptr j off))/\
  ∀m2,(∀y∈op.operands,∀j∈D (ev G S y),m2 j=m j)->(∀j,id<=j->j<id+8->m2 j=m j)->
   ∀(K' : AV->Mem->Option R) r',K' x (over (kill m2 f ks) id m')=some r'->eU G op S m2 id K'=some r'
theorem H7{op:Op}(ha:nq op=true)(gJ:∀t p x,op=.store t p x->(qU (ev G S p)=true/\h_ (ev G S x)=[])\/Bu (ev G S p)=true){K:AV->Mem->Option R}(hK:eU G op S m id K=some r) :
  Ih G S op m id K r dM:=by
 by_cases rq:∀t p x,op≠.store t p x
 ·obtain⟨x,m',k,h1,h2,h3,h4⟩:=EM rq ha hK;refine⟨x,m',k.toList,λ_=>none,h1,by rw[<-za];exact h2,λj hj=>?_,λm2 a b K' r' c=>h4 m2 a b K' r' (by rw[za];exact c)⟩;obtain⟨a1,fl,sz,xs,a2⟩:=h3 j (by simpa using hj);exact⟨a1,by rw[a2];rfl,.inl (by rw[a2];rfl)⟩
 ·obtain⟨t,p,x,rfl⟩:∃t p x,op=.store t p x:=by
   cases op<;>first|exact⟨_,_,_,rfl⟩|(exfalso;exact rq (λ_ _ _ h=>by cases h))
  have gJ:=gJ t p x rfl;have KX:p∈(Op.store t p x).operands:=by simp[Op.operands]
  unfold Ih;simp only[eU]at hK ⊢;obtain⟨ti,e1,hK⟩:=cN hK;cases hp:ev G S p<;>rw[hp]at hK gJ<;>(try (rcases gJ with gJ|gJ<;>simp[qU,Bu]at gJ;done))
  case ptr j off=>
   simp only at hK;obtain⟨b0,hm,hK⟩:=cN hK;cases b0 with
   | row fl sz xs=>cases hK
   | box tb cs=>
    simp only at hK;obtain⟨hb,hK⟩:=cV hK;refine⟨_,_,[j],_,hK,nB m m id j _ (λ_ _ _=>rfl),?_,λm2 hr hi K' r' fe=>?_⟩
    ·intro j' kZ;cases bh.1 kZ;exact⟨⟨p,KX,by rw[hp];simp[dM]⟩,by rw[hm];rfl,.inr ⟨t,p,x,off,rfl,hp⟩⟩
    ·have e:=hr p KX j (by rw[hp];simp[dM]);simp only[e1,cR,e,hm,hb,ak];rw[nB m m2 id j _ hi];exact fe
  case qt j i off=>
   obtain⟨_,hx⟩:qU (AV.qt j i off)=true/\h_ (ev G S x)=[]:=by
    rcases gJ with gJ|gJ
    ·exact gJ
    ·cases gJ
   simp only at hK;obtain⟨b0,hm,hK⟩:=cN hK;cases b0 with
   | box tb cs=>cases hK
   | row fl sz xs=>
    simp only at hK;obtain⟨hb,hK⟩:=cV hK;obtain⟨y,hy,hK⟩:=cN hK;rw[hx]at hK hb;refine⟨_,_,[j],_,hK,nB m m id j _ (λ_ _ _=>rfl),?_,λm2 hr hi K' r' fe=>?_⟩
    ·intro j' kZ;cases bh.1 kZ;exact⟨⟨p,KX,by rw[hp];simp[dM]⟩,by rw[hm];rfl,.inl (by rw[hm];rfl)⟩
    ·have e:=hr p KX j (by rw[hp];simp[dM]);have RJ:lG m2 ti (ev G S x)=some y:=by rw[<-hy];exact qS hx
     simp only[e1,cR,e,hm,hx,hb,ak,RJ];have e9:=nB m m2 id j (some (.row fl sz (xs.set i y))) hi;show K' _ (m2.fJ j (some (.row fl sz (xs.set i y))))=some r';rw[e9];exact fe
theorem ve{x y:AV}(h:lx m x=some y):∀j∈jT x,gh (m j)=false:=by
 intro j hj;cases x<;>(try (simp[jT]at hj;done))
 case own id off l=>
  simp only[jT,bh]at hj;subst hj;simp only[lx,ig]at h;cases hm:m j with
  | none=>rfl
  | some b=>
   rw[hm]at h;cases b with
   | box t cs=>cases h
   | row fl sz xs=>rfl
 case qt id i off=>simp[lx]at h
theorem vg:∀(cs ys:List AV),nN m cs=some ys->∀j∈cs.flatMap jT,gh (m j)=false
 | [],_,_,j,hj=>by simp at hj
 | x::cs,ys,h,j,hj=>by
  simp only[nN]at h;rw[bC,aK]at hj;cases e1:lx m x with
  | none=>rw[e1]at h;cases h
  | some y=>
   cases e2:nN m cs with
   | none=>rw[e1,e2]at h;cases h
   | some s=>
    rcases hj with hj|hj
    ·exact ve e1 j hj
    ·exact vg cs s e2 j hj
theorem tA{ti:TI}:∀(xs ys:List AV),kB m ti xs=some ys->∀j∈xs.flatMap h_,gh (m j)=false
 | [],_,_,j,hj=>by simp at hj
 | x::xs,ys,h,j,hj=>by
  simp only[kB]at h;rw[bC,aK]at hj;cases e1:lG m ti x with
  | none=>rw[e1]at h;cases h
  | some y=>
   cases e2:kB m ti xs with
   | none=>rw[e1,e2]at h;cases h
   | some s=>
    rcases hj with hj|hj
    ·unfold lG at e1;cases e3:ly m x with
     | none=>rw[e3]at e1;cases e1
     | some z=>
      cases x
      case agg cs=>
       simp only[ly,aA]at e3;obtain⟨w,e3,_⟩:=e3;exact vg cs w e3 j hj
      all_goals (simp only[ly]at e3;exact ve e3 j hj)
    ·exact tA xs s e2 j hj
theorem GQ{x:AV}{j:Nat}(h:j∈jT x):j∈dM x:=by cases x<;>first|exact h|(simp[jT]at h)
theorem DW{x:AV}{j:Nat}(h:j∈h_ x):j∈dJ x:=by
 cases x
 case agg cs=>
  obtain⟨c,hc,hj⟩:=aS.1 h;exact aS.2 ⟨c,hc,GQ hj⟩
 all_goals first|exact h|(simp[h_,jT]at h)
theorem zb{ti:TI}{x:AV}(h:∀j∈dJ x,m2 j=m j):lG m ti x=lG m2 ti x:=by
 have:ly m x=ly m2 x:=by
  cases x
  case agg cs=>simp only[ly,n7 cs h]
  all_goals (simp only[ly];exact lT (λj hj=>h j (by first|exact hj|(simp[dM]at hj))))
 simp only[lG,this]
theorem qR{ti:TI}:∀(xs:List AV),(∀x∈xs,∀j∈dJ x,m2 j=m j)->kB m ti xs=kB m2 ti xs
 | [],_=>rfl
 | x::xs,h=>by simp only[kB,zb (h x (by simp)),qR xs λy hy=>h y (by simp[hy])]
theorem zK(m:Mem)(ids:List Nat):lJ m ids=kill m (λ_=>none) ids:=by
 funext j;rw[gF];by_cases h:j∈ids
 ·rw[if_pos h,ke h]
 ·rw[if_neg h,eJ h]
theorem BV{t:TypeId}{len:Nat}{parts:Array (Nat × Operand)}{K:AV->Mem->Option R}(hK:eU G (.buildSlice t len parts) S m id K=some r):Ih G S (.buildSlice t len parts) m id K r dJ:=by
 have qW:∀x,x∈(parts.toList.map fun(_,x)=>ev G S x)->∃y∈(Op.buildSlice t len parts).operands,x=ev G S y:=by
  intro x hx;obtain⟨p,hp,rfl⟩:=bz.1 hx;refine⟨p.2,?_,rfl⟩;show p.2∈(parts.toList.map (·.2)).toArray;exact List.mem_toArray.2 (bz.2 ⟨p,hp,rfl⟩)
 unfold Ih;simp only[eU]at hK ⊢;obtain⟨ti,e1,hK⟩:=cN hK;cases fv:ti.kd<;>rw[fv]at hK<;>(try (cases hK;done));rename_i e;simp only at hK;obtain⟨ei,e2,hK⟩:=cN hK;cases ho:rR ei.kd with
 | true=>
  rw[ho,ak]at hK;obtain⟨hb,hK⟩:=cV hK;refine⟨_,_,[],λ_=>none,hK,?_,by simp,λm2 hr hi K' r' fe=>?_⟩
  ·have:kill m (λ_=>none) []=m:=by funext j;exact eJ (by simp)
   rw[this];exact jD m id _ m (λ_ _ _=>rfl)
  ·have:kill m2 (λ_=>none) []=m2:=by funext j;exact eJ (by simp)
   rw[this,<-jD m id _ m2 hi]at fe;simp only[e1,cR,fv,e2,ho,hb,ak];exact fe
 | false=>
  rw[ho,cond_false]at hK;obtain⟨hb,hK⟩:=cV hK;obtain⟨xs,hx,hK⟩:=cN hK;refine⟨_,_,(parts.toList.map fun(_,x)=>ev G S x).flatMap h_,λ_=>none,hK,?_,λj hj=>?_,λm2 hr hi K' r' fe=>?_⟩
  ·rw[<-zK];exact jD _ id _ _ (λ_ _ _=>rfl)
  ·have UJ:=tA _ _ hx j hj;obtain⟨x,CT,RM⟩:=aS.1 hj;obtain⟨y,L2,rfl⟩:=qW x CT;exact⟨⟨y,L2,DW RM⟩,by rw[UJ];rfl,.inl UJ⟩
  ·have RM:kB m2 ei (parts.toList.map fun(_,x)=>ev G S x)=some xs:=by
    rw[<-hx];refine(qR _ λx CT j hj=>?_).symm;obtain⟨y,L2,rfl⟩:=qW x CT;exact hr y L2 j hj
   simp only[e1,cR,fv,e2,ho,hb,ak,cond_false,RM];rw[<-zK]at fe;have k8 : ∀j,id<=j->j<id+8->lJ m2 ((parts.toList.map fun(_,x)=>ev G S x).flatMap h_) j=lJ m ((parts.toList.map fun(_,x)=>ev G S x).flatMap h_) j:=by
    intro j h1 h2;rw[gF,gF,hi j h1 h2]
   rw[jD (lJ m _) id _ (lJ m2 _) k8];exact fe
end
section
variable {R:Type} {G:eH} {S S' : List AV} {m m' m2:Mem} {id:Nat} {C:FuncId->List AV->(AV->Option R)->Option R} {o:Oper} {r:R}
theorem over_self(m:Mem)(id:Nat):over m id m=m:=by
 funext j;unfold over;cases(Nat.ble id j&&Nat.blt j (id+8))<;>rfl
theorem mg{f g:AV->List Nat}:∀(xs:List AV),(∀x∈xs,f x=g x)->xs.flatMap f=xs.flatMap g
 | [],_=>rfl
 | x::xs,h=>by rw[bC,bC,h x (by simp),mg xs (λy hy=>h y (by simp[hy]))]
theorem Bz{x:AV}(hp:ja x=false):gS m x=gS m2 x:=by
 have hB:∀x,(∀i off,x≠.ptr i off)->tH m x=tH m2 x:=by
  intro x hx;cases x
  case ptr i off=>exact absurd rfl (hx i off)
  all_goals rfl
 cases x
 case fn f cs=>
  simp only[gS];simp only[ja]at hp;refine mg cs λy hy=>hB y ?_;intro i off e;subst e;have:=List.any_eq_false.1 hp _ hy;simp at this
 case ptr i off=>cases hp
 all_goals rfl
theorem zm{xs:List AV}(hp:xs.any ja=false):xs.flatMap (gS m)=xs.flatMap (gS m2):=
 mg xs λx hx=>Bz (by simpa using List.any_eq_false.1 hp x hx)
theorem BT(hC:ga C){f:FuncId}{args:List AV}{K:AV->Mem->Option R}(h:fW G C true f args m id K=some r) :
  ∃x m',K x m'=some r/\m'=over m id m'/\∀m2,(∀y∈args,∀j∈dJ y,m2 j=m j)->(∀j,id<=j->j<id+8->m2 j=m j)->
   ∀(K' : AV->Mem->Option R) r',K' x (over m2 id m')=some r'->fW G C true f args m2 id K'=some r':=by
 unfold fW at h;cases hp:args.any ja with
 | true=>rw[hp]at h;cases h
 | false=>
  rw[hp]at h;rw[cond_false]at h;cases Aw:G.refs f with
  | true=>rw[Aw]at h;cases h
  | false=>
  rw[Aw]at h;simp only[cond_false,ct]at h;obtain⟨fw,h1,h⟩:=cN h;obtain⟨PD,h2,h⟩:=cN h;obtain⟨y,h3,h4⟩:=hC _ _ _ _ h;have fin:∀m2,(∀y∈args,∀j∈dJ y,m2 j=m j)->∀(K' : AV->Mem->Option R) r',(bif lk y then(match imp id m2 y with|(x,c,m')=>bif Nat.ble c 8 then K' x m' else none)
    else bif !(args.flatMap (gS m2)).isEmpty then none
    else(match imp id (lJ m2 (args.flatMap (gS m2))) y with | (x,c,m')=>bif Nat.ble c 8 then K' x m' else none))=some r'->fW G C true f args m2 id K'=some r':=by
   intro m2 hm K' r' h;unfold fW;rw[hp,Aw,<-qB args hp hm];simp only[cond_false,ct,h1,h2,cR];exact h4 _ _ h
  have same:(match imp id m y with | (x,c,m')=>bif Nat.ble c 8 then K x m' else none)=some r->(∀m2,(∀y∈args,∀j∈dJ y,m2 j=m j)->∀(K' : AV->Mem->Option R) r',(match imp id m2 y with | (x,c,m')=>bif Nat.ble c 8 then K' x m' else none)=some r'->fW G C true f args m2 id K'=some r')->
    ∃x m',K x m'=some r/\m'=over m id m'/\∀m2,(∀y∈args,∀j∈dJ y,m2 j=m j)->(∀j,id<=j->j<id+8->m2 j=m j)->
     ∀(K' : AV->Mem->Option R) r',K' x (over m2 id m')=some r'->fW G C true f args m2 id K'=some r':=by
   intro h3 hf;generalize hq:imp id m y=q at h3;obtain⟨x,c,m'⟩:=q;obtain⟨zA,h3⟩:=cV h3;refine⟨x,m',h3,(pj hq (aD zA) (λ_ _ _=>rfl)).1,λm2 hr hi K' r' fe=>hf m2 hr K' r' ?_⟩;rw[(pj hq (aD zA) hi).2];simp only[zA,ak];exact fe
  cases fZ:lk y with
  | true=>
   rw[fZ]at h3;exact same h3 (λm2 hm K' r' h=>fin m2 hm K' r' (by rw[fZ];exact h))
  | false=>
   rw[fZ]at h3;simp only[cond_false]at h3;cases hq:(args.flatMap (gS m)).isEmpty with
   | false=>rw[hq]at h3;cases h3
   | true=>
    rw[hq]at h3;have he:args.flatMap (gS m)=[]:=by simpa using hq
    rw[he]at h3;refine same h3 (λm2 hm K' r' h=>fin m2 hm K' r' ?_);rw[fZ,<-zm (m:=m) hp,he];exact h
theorem Ju{l:List Nat}{j:Nat}:kC l j=true↔j∈l:=by
 unfold kC;rw[bL];constructor
 ·rintro⟨x,hx,e⟩;rw[aj e];exact hx
 ·intro h;exact⟨j,h,Nat.beq_refl j⟩
theorem zl{ord:List Nat}{id:Nat}(h:id ∉ ord):gZ ord id=none:=by
 unfold gZ;rw[List.findIdx?_eq_none_iff];intro x hx;rw[<-bm];intro e;exact h (aj e ▸ hx)
theorem yN(m:Mem)(id:Nat)(f:Mem)(j:Nat)(hj:¬ (id<=j/\j<id+8)):over m id f j=m j:=by
 unfold over;cases hb:(Nat.ble id j&&Nat.blt j (id+8))with
 | false=>rfl
 | true=>
  rw[ae]at hb;exact absurd ⟨aD hb.1,by simpa using hb.2⟩ hj
theorem EE(hC:ga C){f:FuncId}{args:List AV}{K:AV->Mem->Option R}(h:fW G C false f args m id K=some r) :
  ∃x m',K x m'=some r/\(∀(K' : AV->Mem->Option R) r',K' x m'=some r'->fW G C false f args m id K'=some r')/\
   ∀l,lW G f args m=some l->∀j,j ∉ l->¬ (id<=j/\j<id+8)->m' j=m j:=by
 unfold fW at h;cases hp:args.any ja with
 | true=>
  rw[hp]at h;simp only[ak,cond_false]at h;unfold q8 at h;obtain⟨QG,KS,h⟩:=cN h;obtain⟨xs,CT,h⟩:=cN h;cases ha:((iU m xs).any λi=>(args.flatMap (xo m)).contains i)with
  | true=>rw[ha]at h;cases h
  | false=>
   rw[ha]at h;simp only[cond_false]at h;obtain⟨y,h3,h4⟩:=hC _ _ _ _ h;split at h3
   ·rename_i z os;obtain⟨Iw,h3⟩:=cV h3;refine⟨_,_,h3,λK' r' fe=>?_,λl hl j hj hr=>?_⟩
    ·unfold fW q8;rw[hp];simp only[ak,cond_false,KS,CT,cR,ha];refine h4 _ _ ?_;simp only[Iw,ak];exact fe
    ·unfold lW at hl;rw[hp]at hl;simp only[ak,KS,CT]at hl;cases hl;rw[aK,not_or]at hj;rw[ae]at Iw;have h8:=Iw.2;unfold CC at h8;rw[ae,ae]at h8;have h9:=aD h8.1.2;unfold lf;rw[zl hj.1];have e1:(Nat.ble id j&&Nat.blt j (id+(os.length - ((iU m xs).filter λi=>mH (m i)).length)))=false:=by
      rw[<-bm,ae];rintro⟨a1,a2⟩;have a1:=aD a1;have a2:j<id+(os.length - ((iU m xs).filter λi=>mH (m i)).length):=by simpa using a2
      omega
     have e2:(args.flatMap (xo m)).contains j=false:=by
      rw[<-bm];intro e;exact hj.2 (by simpa using e)
     rw[e1,e2];rfl
   ·cases h3
 | false=>
  rw[hp]at h;simp only[cond_false]at h;have tk:lW G f args m=some (args.flatMap (gS m)):=by unfold lW;rw[hp];rfl
  cases Aw:G.refs f with
  | true=>
   rw[Aw]at h;simp only[ak]at h;obtain⟨x,m',h1,h2,h3⟩:∃x m',K x m'=some r/\(∀(K' : AV->Mem->Option R) r',K' x m'=some r'->nZ C f args m K'=some r')/\∀j,j ∉ args.flatMap (gS m)->m' j=m j:=by
    unfold nZ at h;split at h
    ·rename_i j off l rest;obtain⟨b,hm,h⟩:=cN h;split at h
     ·rename_i fl sz xs;obtain⟨hv,h⟩:=cV h;obtain⟨y,h3,h4⟩:=hC _ _ _ _ h;split at h3
      ·rename_i z gk im ys;obtain⟨hq,h3⟩:=cV h3;obtain⟨z',hz,h3⟩:=cN h3;refine⟨_,_,h3,λK' r' fe=>?_,λi hi=>?_⟩
       ·unfold nZ;simp only[hm,cR,hv,ak];refine h4 _ _ ?_;simp only[hq,ak,hz];exact fe
       ·refine Mem.dk _ _ ?_;rintro rfl;exact hi (by simp[gS,tH,jT])
      ·cases h3
     ·cases h
    ·cases h
   refine⟨x,m',h1,λK' r' fe=>?_,λl hl j hj _=>h3 j (by rw[tk]at hl;cases hl;exact hj)⟩;unfold fW;rw[hp,Aw];simp only[ak,cond_false];exact h2 K' r' fe
  | false=>
   rw[Aw]at h;simp only[cond_false]at h;obtain⟨fw,h1,h⟩:=cN h;obtain⟨PD,h2,h⟩:=cN h;obtain⟨y,h3,h4⟩:=hC _ _ _ _ h;have fin:∀(K' : AV->Mem->Option R) r',(bif lk y then(match imp id m y with|(x,c,m')=>bif Nat.ble c 8 then K' x m' else none)
     else bif false&&!(args.flatMap (gS m)).isEmpty then none
     else(match imp id (lJ m (args.flatMap (gS m))) y with | (x,c,m')=>bif Nat.ble c 8 then K' x m' else none))=some r'->fW G C false f args m id K'=some r':=by
    intro K' r' h;unfold fW;rw[hp,Aw];simp only[cond_false,h1,h2,cR];exact h4 _ _ h
   cases fZ:lk y with
   | true=>
    rw[fZ]at h3;simp only[ak]at h3;obtain⟨zA,h3⟩:=cV h3;refine⟨_,_,h3,λK' r' fe=>fin K' r' ?_,λl hl j hj hr=>?_⟩
    ·rw[fZ];simp only[ak,zA];exact fe
    ·rw[(pj (m:=m) (x:=y) (y:=(imp id m y).1) (c:=(imp id m y).2.1) (m':=(imp id m y).2.2) rfl (aD zA) (m2:=m) (λ_ _ _=>rfl)).1];exact yN _ _ _ _ hr
   | false=>
    rw[fZ]at h3;simp only[cond_false,Bool.false_and]at h3;obtain⟨zA,h3⟩:=cV h3;refine⟨_,_,h3,λK' r' fe=>fin K' r' ?_,λl hl j hj hr=>?_⟩
    ·rw[fZ];simp only[cond_false,Bool.false_and,zA,ak];exact fe
    ·rw[tk]at hl;cases hl;rw[(pj (m:=lJ m (args.flatMap (gS m))) (x:=y) (y:=(imp id (lJ m (args.flatMap (gS m))) y).1) (c:=(imp id (lJ m (args.flatMap (gS m))) y).2.1) (m':=(imp id (lJ m (args.flatMap (gS m))) y).2.2) rfl (aD zA) (m2:=lJ m (args.flatMap (gS m))) (λ_ _ _=>rfl)).1];rw[yN _ _ _ _ hr,gF,if_neg hj]
def Ld(R:Type)(G:eH)(C:FuncId->List AV->(AV->Option R)->Option R)(dr:Bool)(o:Oper)(S:List AV)(m:Mem)(id:Nat)(J:Nat->Prop):Prop:=
 ∀(K:AV->Mem->Option R) r,er G C dr o S m id K=some r->∃x m',K x m'=some r/\vc G C dr o S m id x m'/\∀j,J j->m' j=m j
theorem zU(hC:ga C){dr:Bool}:Ld R G C dr o S m id (λ_=>False):=λK r h=>by
 obtain⟨x,m',h1,h2⟩:=js hC h;exact⟨x,m',h1,h2,λ_ h=>h.elim⟩
theorem vZ(hC:ga C){T:List Nat}{J:Nat->Prop}(hc:iL o.op=true)(hT:lV G o.op S m T=true)(hJ:∀j,J j->kC T j=false/\¬ (id<=j/\j<id+8)):Ld R G C false o S m id J:=by
 intro K r h;cases eF:o.op<;>rw[eF]at hc<;>(try (cases hc;done));rename_i c;cases fZ:c.callee with
 | builtin b=>simp[iL,fZ]at hc
 | invoke _ _=>simp[iL,fZ]at hc
 | value f=>
  cases hf:ev G S f
  case fn g fj=>
   obtain⟨g',us,ht,heq⟩:∃g' us,sy G o.op S m=lW G g' us m/\∀(K:AV->Mem->Option R),er G C false o S m id K=fW G C false g' us m id K:=by
    cases hb:Nat.blt g uF with
    | true=>exact⟨g,c.args.toList.map (ev G S)++fj,by simp only[sy,eF,fZ,hf,hb,ak],λK=>by unfold er;simp only[eF,fZ,hf,hb];rfl⟩
    | false=>exact⟨g - uF,fj++c.args.toList.map (ev G S),by simp only[sy,eF,fZ,hf,hb,cond_false],λK=>by unfold er;simp only[eF,fZ,hf,hb];rfl⟩
   rw[heq]at h;obtain⟨x,m',h1,h2,h3⟩:=EE hC h;refine⟨x,m',h1,λK' r' fe=>by rw[heq];exact h2 K' r' fe,λj hj=>?_⟩;obtain⟨j1,j2⟩:=hJ j hj;unfold lV at hT;rw[ht]at hT;cases hl:lW G g' us m with
   | some l=>
    rw[hl]at hT;refine h3 l hl j (λhm=>?_) j2;have:=ay.1 hT j hm;rw[j1]at this;cases this
   | none=>
    exfalso
    -- VW a call Y0 not Y1 to an end
    unfold lW at hl;unfold fW at h;cases hp:us.any ja with
    | false=>rw[hp]at hl;cases hl
    | true=>
     rw[hp]at hl h;simp only[ak,cond_false]at hl h;unfold q8 at h;obtain⟨QG,KS,h⟩:=cN h;obtain⟨xs,CT,h⟩:=cN h;simp only[KS,CT]at hl;cases hl
  all_goals (exfalso;unfold er at h;simp only[eF,fZ,hf]at h;cases h)
end
section
variable {R:Type} {G:eH} {S S' : List AV} {m m' m2:Mem} {id:Nat} {C:FuncId->List AV->(AV->Option R)->Option R} {o:Oper} {r:R}
theorem iN{x:AV}{j:Nat}(h:j∈dM x):j∈dJ x:=by
 cases x<;>first|exact h|(simp[dM]at h)
theorem A_(hC:ga C)(hl:jz o.op=true)(JB:jS G o.op=false){K:AV->Mem->Option R}(h:er G C true o S m id K=some r) :
  ∃x m',K x m'=some r/\m'=over m id m'/\∀m2 S',(∀y∈o.op.operands,ev G S y=ev G S' y)->(∀y∈o.op.operands,∀j∈dJ (ev G S y),m2 j=m j)->(∀j,id<=j->j<id+8->m2 j=m j)->
   vc G C true o S' m2 id x (over m2 id m'):=by
 have fin:∀{x:AV} {m' : Mem} {m2:Mem} {S' : List AV},(∀y∈o.op.operands,ev G S y=ev G S' y)->(∀(K' : AV->Mem->Option R) r',K' x (over m2 id m')=some r'->er G C true o S m2 id K'=some r')->vc G C true o S' m2 id x (over m2 id m'):=by
  intro x m' m2 S' hs hd K' r' fe;rw[<-eI hs];exact hd K' r' fe
 have ops:(fK o.op=true\/l9 o.op=true)->(∀m K,er G C true o S m id K=eU G o.op S m id K)->∃x m',K x m'=some r/\m'=over m id m'/\∀m2 S',(∀y∈o.op.operands,ev G S y=ev G S' y)->(∀y∈o.op.operands,∀j∈dJ (ev G S y),m2 j=m j)->(∀j,id<=j->j<id+8->m2 j=m j)->
   vc G C true o S' m2 id x (over m2 id m'):=by
  intro XB heq;rw[heq]at h;obtain⟨x,m',h1,h2,h3⟩:=Gw XB h;exact⟨x,m',h1,h2,λm2 S' hs hr hi=>fin hs (λK' r' fe=>by
   rw[heq];exact h3 m2 (λy hy j hj=>hr y hy j (iN hj)) hi K' r' fe)⟩
 simp only[jz,bB]at hl;cases eF:o.op
 case call c=>
  cases hc:c.callee with
  | value f=>
   cases hf:ev G S f
   case fn g fj=>
    have gJ:fj.all AV.okB=true:=by
     unfold er at h;simp only[eF,hc,hf]at h;cases hb:fj.all AV.okB with
     | true=>rfl
     | false=>rw[hb]at h;cases h
    obtain⟨g',us,has,heq⟩:∃g' us,(∀y∈us,y∈c.args.toList.map (ev G S)\/y∈fj)/\∀m K,er G C true o S m id K=fW G C true g' us m id K:=by
     cases hb:Nat.blt g uF with
     | true=>exact⟨g,_,λy hy=>aK.1 hy,λm K=>by unfold er;simp only[eF,hc,hf,gJ,hb];rfl⟩
     | false=>exact⟨g - uF,fj++c.args.toList.map (ev G S),λy hy=>(aK.1 hy).symm,λm K=>by unfold er;simp only[eF,hc,hf,gJ,hb];rfl⟩
    rw[heq]at h;obtain⟨x,m',h1,h2,h3⟩:=BT hC h;refine⟨x,m',h1,h2,λm2 S' hs hr hi=>?_⟩;rw[<-eF]at hs hr;refine fin hs (λK' r' fe=>?_);rw[heq];refine h3 m2 (λy hy j hj=>?_) hi K' r' fe;rcases has y hy with hy|hy
    ·obtain⟨q,hq,rfl⟩:=bz.1 hy;refine hr q ?_ j hj;rw[eF];simp only[Op.operands,Call.operands];exact Array.mem_append.2 (.inr (by simpa using hq))
    ·refine hr f ?_ j ?_
     ·rw[eF];simp[Op.operands,Call.operands,hc]
     ·rw[hf];have L1:=ay.1 gJ y hy;refine aS.2 ⟨y,hy,?_⟩;cases y<;>first|exact hj|(simp[AV.okB,AV.nD]at L1)
   all_goals (exfalso;unfold er at h;simp only[eF,hc,hf]at h;cases h)
  | builtin b=>
   rw[<-eF];refine ops ?_ (λm K=>by unfold er;simp only[eF,hc]);rcases hl with(hl|hl)|hl
   ·exact hl
   ·rw[eF]at hl;simp[iL,hc]at hl
   ·rw[eF]at hl;simp[ml]at hl
  | invoke _ _=>rw[eF]at hl;simp[fK,l9,iL,ml,hc]at hl
 case buildSlice t n parts=>
  have uT:((parts.toList.map fun(_,x)=>ev G S x).flatMap h_)=[]:=by
   have oH:y_ G t=false:=by
    rw[eF]at JB;unfold jS at JB;rw[aZ]at JB;exact JB.2
   unfold er at h;simp only[eF,oH,Bool.false_or]at h;cases hb:((parts.toList.map fun(_,x)=>ev G S x).flatMap h_).isEmpty with
   | true=>simpa using hb
   | false=>rw[hb]at h;cases h
  have heq:∀m K,er G C true o S m id K=eU G o.op S m id K:=by
   intro m K;unfold er;simp only[eF,uT];cases y_ G t<;>rfl
  rw[heq]at h;obtain⟨x,m',h1,h2,h3⟩:=vJ (by rw[eF];exact λma mb _ _=>yX uT) h;refine⟨x,m',h1,h2,λm2 S' hs hr hi=>fin (by rw[eF];exact hs) (λK' r' fe=>?_)⟩;rw[heq];exact h3 m2 (λy hy j hj=>hr y (by rw[eF]at hy;exact hy) j (iN hj)) hi K' r' fe
 case store t p x=>exfalso;rw[eF]at hl;simp[fK,l9,iL,ml]at hl
 all_goals
  rw[<-eF];refine ops ?_ (λm K=>by unfold er;simp only[eF]);rcases hl with(hl|hl)|hl
  ·exact hl
  ·rw[eF]at hl;simp[iL]at hl
  ·rw[eF]at hl;simp[ml]at hl
theorem s0(hC:ga C)(hl:eP o.op=true){K:AV->Mem->Option R}(h:er G C true o S m id K=some r) :
  ∃x m' ks f,K x m'=some r/\m'=over (kill m f ks) id m'/\(∀j∈ks,jS G o.op=true/\(∃y∈o.op.operands,j∈dJ (ev G S y))/\gh (f j)=gh (m j)/\(gh (m j)=false\/∃t p x off,o.op=.store t p x/\ev G S p=.ptr j off))/\
   ∀m2 S',(∀y∈o.op.operands,ev G S y=ev G S' y)->(∀y∈o.op.operands,∀j∈dJ (ev G S y),m2 j=m j)->(∀j,id<=j->j<id+8->m2 j=m j)->
   vc G C true o S' m2 id x (over (kill m2 f ks) id m'):=by
 have fin:∀{D:AV->List Nat},(∀{x:AV} {j:Nat},j∈D x->j∈dJ x)->jS G o.op=true->(∀m K,er G C true o S m id K=eU G o.op S m id K)->Ih G S o.op m id K r D->∃x m' ks f,K x m'=some r/\m'=over (kill m f ks) id m'/\(∀j∈ks,jS G o.op=true/\(∃y∈o.op.operands,j∈dJ (ev G S y))/\gh (f j)=gh (m j)/\(gh (m j)=false\/∃t p x off,o.op=.store t p x/\ev G S p=.ptr j off))/\
   ∀m2 S',(∀y∈o.op.operands,ev G S y=ev G S' y)->(∀y∈o.op.operands,∀j∈dJ (ev G S y),m2 j=m j)->(∀j,id<=j->j<id+8->m2 j=m j)->
   vc G C true o S' m2 id x (over (kill m2 f ks) id m'):=by
  intro D hD hk heq hF;obtain⟨x,m',ks,f,h1,h2,h3,h4⟩:=hF;refine⟨x,m',ks,f,h1,h2,λj hj=>?_,λm2 S' hs hr hi K' r' fe=>?_⟩
  ·obtain⟨⟨y,hy,Xk⟩,h5,h6⟩:=h3 j hj;exact⟨hk,⟨y,hy,hD Xk⟩,h5,h6⟩
  ·rw[<-eI hs,heq];exact h4 m2 (λy hy j hj=>hr y hy j (hD hj)) hi _ _ fe
 cases K1:nq o.op with
 | true=>
  have rq:∀t p x,o.op=.store t p x->(qU (ev G S p)=true/\h_ (ev G S x)=[])\/Bu (ev G S p)=true:=by
   intro t p x eF;unfold er at h;simp only[eF]at h;cases hb:((qU (ev G S p)&&(h_ (ev G S x)).isEmpty)||Bu (ev G S p))with
   | true=>
    rw[bB,ae]at hb;rcases hb with hb|hb
    ·exact .inl ⟨hb.1,by simpa using hb.2⟩
    ·exact .inr hb
   | false=>rw[hb]at h;cases h
  have heq:∀m K,er G C true o S m id K=eU G o.op S m id K:=by
   intro m K;cases eF:o.op
   case store t p x=>
    have hb:((qU (ev G S p)&&(h_ (ev G S x)).isEmpty)||Bu (ev G S p))=true:=by
     rcases rq t p x eF with⟨s1,s2⟩|s1
     ·rw[s1,s2];rfl
     ·rw[s1,Bool.or_true]
    unfold er;simp only[eF,hb];rfl
   case call c=>
    unfold er;simp only[eF];rw[eF]at K1;cases hc:c.callee
    case builtin b=>simp only
    all_goals (exfalso;simp[nq,hc]at K1)
   all_goals (exfalso;rw[eF]at K1;simp[nq]at K1)
  rw[heq]at h;exact fin iN (by unfold jS;rw[K1,Bool.true_or]) heq (H7 K1 rq h)
 | false=>
  have hl:jz o.op=true:=by
   unfold eP at hl;rw[K1,Bool.or_false]at hl;exact hl
  cases hk:jS G o.op with
  | false=>
   obtain⟨x,m',h1,h2,h3⟩:=A_ hC hl hk h;have hn:∀m:Mem,kill m (λ_=>none) []=m:=λm=>by funext j;exact eJ (by simp)
   exact⟨x,m',[],λ_=>none,h1,by rw[hn];exact h2,by simp,λm2 S' a b c=>by rw[hn];exact h3 m2 S' a b c⟩
  | true=>
   have rU:=hk;unfold jS at rU;rw[K1,Bool.false_or]at rU;cases eF:o.op<;>rw[eF]at rU<;>(try (cases rU;done));rename_i t len parts;have heq:∀m K,er G C true o S m id K=eU G o.op S m id K:=by
    intro m K;unfold er;simp only[eF,rU];rfl
   rw[heq,eF]at h;rw[<-eF];have h9:=fin (D:=dJ) (λh=>h) hk heq (by rw[eF];exact BV h);rw[hk]at h9;exact h9
end
section
variable {R:Type} {G:eH} {S S' : List AV} {m m' m2:Mem} {C:FuncId->List AV->(AV->Option R)->Option R} {dr:Bool} {o:Oper} {r:R} {all:List Oper} {n i:Nat}
def want(all:List Oper)(S:List AV)(o:Oper):Option Bool:=
 match o.guard with
 | none=>some true
 | some (g,w)=>match all[g]? with
  | some og=>match og.dst with
   | some d=>match S.getD d .undef with
    | .v (.bool p)=>some (p==w)
    | .dU []=>some false
    | _=>none
   | none=>none
  | none=>none
theorem FU{S:List AV}{d:Nat}{p:Bool}(h:S.getD d .undef=vb p):S.set d (vb p)=S:=by
 apply List.ext_getElem?;intro t;rw[List.getElem?_set];by_cases e:d=t
 ·subst e;rw[ah]at h;cases hs:S[d]? with
  | none=>rw[hs]at h;cases h
  | some y=>
   rw[hs]at h;have eG:=(aB.1 hs).1;simp at h;simp[eG,h]
 ·simp[e]
theorem dS{K:List AV->Mem->Option R}(ho:all[i]?=some o):j6 G C dr all n i S m K=match want all S o with
  | some true=>er G C dr o S m (8*(n+i)) λx m=>K (put S o.dst x) m
  | some false=>K (put S o.dst (.dU [])) m
  | none=>none:=by
 unfold j6 want;simp only[ho];cases hg:o.guard with
 | none=>simp only
 | some gw=>
  obtain⟨g,w⟩:=gw;simp only;cases P9:all[g]? with
  | none=>simp only
  | some og=>
   simp only;cases hd:og.dst with
   | none=>simp only
   | some d=>
    simp only;generalize hx:S.getD d .undef=X;cases X with
    | v y=>
     cases y with
     | bool p=>
      simp only[fA];cases p<;>cases w<;>simp[FU hx]
     | _=>simp only[fA]
    | dU xs=>
     cases xs with
     | nil=>simp only
     | cons=>simp only[fA]
    | _=>simp only[fA]
end
section
variable {R:Type} {G:eH} {S S' : List AV} {m m' m2:Mem} {C:FuncId->List AV->(AV->Option R)->Option R} {dr:Bool} {o:Oper} {r:R} {ops:Array Oper} {n i:Nat}
theorem Ms{d:Option Tmp}{v:AV}{x:Operand}(h:∀t,d=some t->x≠.tmp t):ev G (put S d v) x=ev G S x:=by
 cases d with
 | none=>rfl
 | some t=>
  cases x with
  | tmp k=>
   have fN:t≠k:=λe=>h t rfl (e ▸ rfl);simp only[ev,put,ah,List.getElem?_set_ne fN]
  | _=>rfl
theorem Gv{o:Oper}{d:Option Tmp}(h:∀t,d=some t->t ∉ o.looksAt ops):∀x∈o.op.operands,∀t,d=some t->x≠.tmp t:=by
 intro x hx t ht e;subst e;exact h t ht (List.mem_append_left _ (List.mem_filterMap.2 ⟨.tmp t,by simpa using hx,rfl⟩))
theorem pv{o:Oper}{d:Option Tmp}{v:AV}(h:∀t,d=some t->t ∉ o.looksAt ops):∀x∈o.op.operands,ev G (put S d v) x=ev G S x:=
 λx hx=>Ms (Gv h x hx)
theorem yd{o:Oper}{d:Option Tmp}{v:AV}(h:∀t,d=some t->t ∉ o.looksAt ops):want ops.toList (put S d v) o=want ops.toList S o:=by
 cases d with
 | none=>rfl
 | some t=>
  unfold want;cases hg:o.guard with
  | none=>rfl
  | some gw=>
   obtain⟨g,w⟩:=gw;simp only;cases P9:ops.toList[g]? with
   | none=>rfl
   | some og=>
    simp only;cases hd:og.dst with
    | none=>rfl
    | some k=>
     have Jz : ops[g]?=some og:=by rw[<-P9];simp
     have fN:t≠k:=λe=>h t rfl (by subst e;simp[Oper.looksAt,hg,Jz,hd]);have e:(put S (some t) v).getD k .undef=S.getD k .undef:=by simp only[put,ah,List.getElem?_set_ne fN]
     simp only[e]
theorem put_comm{d e:Option Tmp}{v u:AV}(h:∀t,d=some t->e≠some t):put (put S d v) e u=put (put S e u) d v:=by
 cases d with
 | none=>rfl
 | some t=>
  cases e with
  | none=>rfl
  | some k=>
   have fN:t≠k:=λhh=>h t rfl (hh ▸ rfl);simp only[put];exact List.set_comm _ _ fN
end
section
variable {R:Type} {G:eH} {S S' : List AV} {m m' m2:Mem} {C:FuncId->List AV->(AV->Option R)->Option R} {o:Oper} {r:R} {ops:Array Oper} {n:Nat} {tb:Nat->Bool}
theorem n_{dr:Bool}{id:Nat}(h:gH o.op=true){K:AV->Mem->Option R}(hK:er G C dr o S m id K=some r) :
  ∃x,K x m=some r/\∀m2 Pp,vc G C Pp o S m2 id x m2:=by
 have heq:∀dr m id (K:AV->Mem->Option R),er G C dr o S m id K=eU G o.op S m id K:=by
  intro dr m id K;unfold er;cases eF:o.op
  case call c=>
   rw[eF]at h;cases hc:c.callee with
   | value f=>simp[gH,hc]at h
   | _=>simp only[hc]
  case buildSlice t n ps=>rw[eF]at h;cases h
  case store t p x=>rw[eF]at h;cases h
  all_goals rfl
 rw[heq,yS (m2:=m) o.op K h,cv]at hK;obtain⟨x,h1,h2⟩:=hK;refine⟨x,h2,λm2 Pp K' r' fe=>?_⟩;rw[heq,yS (m2:=m) o.op K' h,h1];exact fe
theorem n9{dr:Bool}{id:Nat}(h:fK o.op=true){K:AV->Mem->Option R}(hK:er G C dr o S m id K=some r) :
  ∃x,K x m=some r/\∀m2 Pp,(∀y∈o.op.operands,∀j∈dM (ev G S y),m2 j=m j)->vc G C Pp o S m2 id x m2:=by
 have heq:∀dr m id (K:AV->Mem->Option R),er G C dr o S m id K=eU G o.op S m id K:=by
  intro dr m id K;unfold er;cases eF:o.op
  case call c=>
   rw[eF]at h;cases hc:c.callee with
   | value f=>simp[fK,hc]at h
   | _=>simp only[hc]
  case buildSlice t n ps=>rw[eF]at h;cases h
  case store t p x=>rw[eF]at h;cases h
  all_goals rfl
 rw[heq,o3 (m2:=m) o.op K h (λ_ _ _ _=>rfl),cv]at hK;obtain⟨x,h1,h2⟩:=hK;refine⟨x,h2,λm2 Pp hm K' r' fe=>?_⟩;rw[heq,o3 (m:=m2) (m2:=m) o.op K' h (λy hy j hj=>(hm y hy j hj).symm),h1];exact fe
theorem IY(hC:ga C){a b:Nat}{p q:Oper}{da db:Bool}{K:List AV->Mem->Option R}(hp:ops.toList[a]?=some p)(hq:ops.toList[b]?=some q)(Ye:a≠b)(Qi:p.apart ops q=true)
  (SB:gH p.op=true\/gH q.op=true\/(eP p.op=true/\eP q.op=true/\da=true/\db=true/\
   (∀y∈p.op.operands,∀j∈dJ (ev G S y),¬ (8*(n+b)<=j/\j<8*(n+b)+8))/\(∀y∈q.op.operands,∀j∈dJ (ev G S y),¬ (8*(n+a)<=j/\j<8*(n+a)+8))/\
   (jS G p.op=true->∀y∈q.op.operands,∀j∈dJ (ev G S y),gh (m j)=true)/\(jS G q.op=true->∀y∈p.op.operands,∀j∈dJ (ev G S y),gh (m j)=true)/\
   (stOp p.op=true->∀y∈q.op.operands,∀j∈dJ (ev G S y),tb j=false)/\(stOp q.op=true->∀y∈p.op.operands,∀j∈dJ (ev G S y),tb j=false)/\uK G tb S p.op=true/\uK G tb S q.op=true)\/
   (fK p.op=true/\Ld R G C db q S m (8*(n+b)) (λj=>∃z∈p.op.operands,j∈dM (ev G S z)))\/(fK q.op=true/\Ld R G C da p S m (8*(n+a)) (λj=>∃z∈q.op.operands,j∈dM (ev G S z))))
  (h:j6 G C da ops.toList n a S m (λS1 m1=>j6 G C db ops.toList n b S1 m1 K)=some r) :
  j6 G C db ops.toList n b S m (λS1 m1=>j6 G C da ops.toList n a S1 m1 K)=some r:=by
 obtain⟨h1,h2,h3⟩:=Oper.apart_spec Qi;rw[dS hq];rw[dS hp]at h;have cq:∀(v:AV),want ops.toList (put S p.dst v) q=want ops.toList S q:=λv=>yd h1;have cp:∀(v:AV),want ops.toList (put S q.dst v) p=want ops.toList S p:=λv=>yd h3;have eq:∀(v:AV),∀x∈q.op.operands,ev G (put S p.dst v) x=ev G S x:=λv=>pv h1;have ep:∀(v:AV),∀x∈p.op.operands,ev G (put S q.dst v) x=ev G S x:=λv=>pv h3;cases wp:want ops.toList S p with
 | none=>rw[wp]at h;cases h
 | some bp=>
  rw[wp]at h;cases bp with
  | false=>
   simp only at h;rw[dS hq,cq]at h;cases wq:want ops.toList S q with
   | none=>rw[wq]at h;cases h
   | some bq=>
    rw[wq]at h;cases bq with
    | false=>
     simp only at h ⊢;rw[dS hp,cp,wp];simp only;rw[<-put_comm h2];exact h
    | true=>
     simp only at h ⊢;rw[eI (eq _)]at h;obtain⟨x,m1,k1,k2⟩:=js hC h;refine k2 _ _ ?_;rw[dS hp,cp,wp];simp only;rw[<-put_comm h2];exact k1
  | true=>
   simp only at h;cases wq:want ops.toList S q with
   | none=>
    obtain⟨x,m1,k1,_⟩:=js hC h;rw[dS hq,cq,wq]at k1;cases k1
   | some bq=>
    cases bq with
    | false=>
     obtain⟨x,m1,k1,k2⟩:=js hC h;rw[dS hq,cq,wq]at k1;simp only at k1 ⊢;rw[dS hp,cp,wp];simp only;rw[eI (ep _)];refine k2 _ _ ?_;rw[<-put_comm h2];exact k1
    | true=>
     simp only;rcases SB with RX|RX|⟨l1,l2,rfl,rfl,ra,rb,bq,bp,sq,sp,tp,tq⟩|⟨BB,Me⟩|⟨BB,Me⟩
     ·obtain⟨x,k1,k2⟩:=n_ RX h;rw[dS hq,cq,wq]at k1;simp only at k1;rw[eI (eq _)]at k1;obtain⟨y,m2,k3,k4⟩:=js hC k1;refine k4 _ _ ?_;rw[dS hp,cp,wp];simp only;rw[eI (ep _)];refine k2 m2 _ _ _ ?_;rw[<-put_comm h2];exact k3
     ·obtain⟨x,m1,k1,k2⟩:=js hC h;rw[dS hq,cq,wq]at k1;simp only at k1;rw[eI (eq _)]at k1;obtain⟨y,k3,k4⟩:=n_ RX k1;refine k4 m _ _ _ ?_;rw[dS hp,cp,wp];simp only;rw[eI (ep _)];refine k2 _ _ ?_;rw[<-put_comm h2];exact k3
     ·have D8:8*(n+a)+8<=8*(n+b)\/8*(n+b)+8<=8*(n+a):=by omega
      have out:∀(m:Mem) (id:Nat) (f:Mem) (j:Nat),¬ (id<=j/\j<id+8)->over m id f j=m j:=by
       intro m id f j hj;unfold over;cases hb:(Nat.ble id j&&Nat.blt j (id+8))with
       | false=>rfl
       | true=>
        rw[ae]at hb;exact absurd ⟨aD hb.1,by simpa using hb.2⟩ hj
      have TR:∀{o:Oper} {j:Nat},uK G tb S o.op=true->(∃t p x off,o.op=.store t p x/\ev G S p=.ptr j off)->stOp o.op=true/\tb j=true:=by
       rintro o j ht ⟨t,p,x,off,e1,e2⟩;rw[e1]at ht ⊢;simp only[uK,e2]at ht;exact⟨rfl,ht⟩
      obtain⟨x,m1,kp,fp,k1,e1,j1,k2⟩:=s0 hC l1 h;rw[dS hq,cq,wq]at k1;simp only at k1;rw[eI (eq _)]at k1;obtain⟨y,m2,kq,fq,k3,e2,j2,k4⟩:=s0 hC l2 k1
      -- Lm is Qo by 'p' is not looked at by 'q',Ze one of Zf own ids;and FD other Y8 round
      have p1:∀j∈kp,(∀z∈q.op.operands,j ∉ dJ (ev G S z))/\¬ (8*(n+b)<=j/\j<8*(n+b)+8):=by
       intro j hj;obtain⟨ha,⟨z,hz,N1⟩,_,gE⟩:=j1 j hj;refine⟨λz' Av kZ=>?_,ra z hz j N1⟩;rcases gE with gE|gE
       ·rw[bq ha z' Av j kZ]at gE;cases gE
       ·obtain⟨t1,t2⟩:=TR tp gE;rw[sq t1 z' Av j kZ]at t2;cases t2
      have q1:∀j∈kq,(∀z∈p.op.operands,j ∉ dJ (ev G S z))/\¬ (8*(n+a)<=j/\j<8*(n+a)+8):=by
       intro j hj;obtain⟨ha,⟨z,hz,N1⟩,_,gE⟩:=j2 j hj;have On:=rb z hz j N1;refine⟨λz' Av kZ=>?_,On⟩;rcases gE with gE|gE
       ·rw[e1,out _ _ _ _ On]at gE;have hb:=bp ha z' Av j kZ;by_cases JA:j∈kp
        ·rw[ke JA,(j1 j JA).2.2.1,hb]at gE;cases gE
        ·rw[eJ JA,hb]at gE;cases gE
       ·obtain⟨t1,t2⟩:=TR tq gE;rw[sp t1 z' Av j kZ]at t2;cases t2
      have aq:∀z∈q.op.operands,∀j∈dJ (ev G S z),m j=m1 j:=by
       intro z hz j hj;rw[e1,out _ _ _ _ (rb z hz j hj),eJ (λe=>(p1 j e).1 z hz hj)]
      have ao:∀j,8*(n+b)<=j->j<8*(n+b)+8->m j=m1 j:=by
       intro j Sc D5;rw[e1,out _ _ _ _ (by omega),eJ (λe=>(p1 j e).2 ⟨Sc,D5⟩)]
      refine k4 m S (λ_ _=>rfl) aq ao _ _ ?_;rw[dS hp,cp,wp];simp only;refine k2 _ _ (λz hz=>(ep _ z hz).symm) (λz hz j hj=>?_) (λj Sc D5=>?_) _ _ ?_
      ·rw[out _ _ _ _ (ra z hz j hj),eJ (λe=>(q1 j e).1 z hz hj)]
      ·rw[out _ _ _ _ (by omega),eJ (λe=>(q1 j e).2 ⟨Sc,D5⟩)]
      ·have e3:over (kill (over (kill m fq kq) (8*(n+b)) m2) fp kp) (8*(n+a)) m1=m2:=by
        rw[e2];funext j;by_cases ha:8*(n+a)<=j/\j<8*(n+a)+8
        ·have hb:¬ (8*(n+b)<=j/\j<8*(n+b)+8):=by omega
         rw[out _ (8*(n+b)) _ _ hb,eJ (λe=>(q1 j e).2 ha)];have:(Nat.ble (8*(n+a)) j&&Nat.blt j (8*(n+a)+8))=true:=by
          rw[ae];exact⟨bX ha.1,by have:=ha.2;simp[Nat.blt];omega⟩
         simp only[over,this,ak]
        ·rw[out _ (8*(n+a)) _ _ ha];by_cases hb:8*(n+b)<=j/\j<8*(n+b)+8
         ·rw[eJ (λe=>(p1 j e).2 hb)];have:(Nat.ble (8*(n+b)) j&&Nat.blt j (8*(n+b)+8))=true:=by
           rw[ae];exact⟨bX hb.1,by have:=hb.2;simp[Nat.blt];omega⟩
          simp only[over,this,ak]
         ·rw[out _ (8*(n+b)) m2 j hb];have Uz:m1 j=(kill m fp kp) j:=by rw[e1,out _ _ _ _ ha]
          by_cases JA:j∈kp
          ·have M4:j ∉ kq:=by
            intro e;obtain⟨_,⟨z,hz,N1⟩,_⟩:=j1 j JA;exact(q1 j e).1 z hz N1
           rw[ke JA,eJ M4,Uz,ke JA]
          ·rw[eJ JA,out _ _ _ _ hb];by_cases M4:j∈kq
           ·rw[ke M4,ke M4]
           ·rw[eJ M4,eJ M4,Uz,eJ JA]
       rw[e3,<-put_comm h2];exact k3
     ·obtain⟨x,k1,k2⟩:=n9 BB h;rw[dS hq,cq,wq]at k1;simp only at k1;rw[eI (eq _)]at k1;obtain⟨y,m2,k3,k4,k5⟩:=Me _ _ k1;refine k4 _ _ ?_;rw[dS hp,cp,wp];simp only;rw[eI (ep _)];refine k2 m2 _ (λz hz j hj=>k5 j ⟨z,hz,hj⟩) _ _ ?_;rw[<-put_comm h2];exact k3
     ·obtain⟨x,m1,k1,k2,k5⟩:=Me _ _ h;rw[dS hq,cq,wq]at k1;simp only at k1;rw[eI (eq _)]at k1;obtain⟨y,k3,k4⟩:=n9 BB k1;refine k4 m _ (λz hz j hj=>(k5 j ⟨z,hz,hj⟩).symm) _ _ ?_;rw[dS hp,cp,wp];simp only;rw[eI (ep _)];refine k2 _ _ ?_;rw[<-put_comm h2];exact k3
end
section
variable {R:Type} {P:Program} {G:eH} {S S' : List AV} {m m' m2:Mem} {C:FuncId->List AV->(AV->Option R)->Option R} {o:Oper} {r:R} {ops:Array Oper} {n:Nat} {tb:Nat->Bool} {pc T:List Nat} {W0:eC} {F0:Nat->Prop} {a:Act} {w:World}
theorem Ds(hC:ga C){dr:Bool}{i:Nat}{K:List AV->Mem->Option R}(h:j6 G C dr ops.toList n i S m K=some r) :
  ∃o x m1,ops.toList[i]?=some o/\K (put S o.dst x) m1=some r/\∀(K' : List AV->Mem->Option R) r',K' (put S o.dst x) m1=some r'->j6 G C dr ops.toList n i S m K'=some r':=by
 cases ho:ops.toList[i]? with
 | none=>unfold j6 at h;rw[ho]at h;cases h
 | some o=>
  rw[dS ho]at h;cases hw:want ops.toList S o with
  | none=>rw[hw]at h;cases h
  | some b=>
   rw[hw]at h;cases b with
   | false=>exact⟨o,.dU [],m,rfl,h,λK' r' fe=>by rw[dS ho,hw];exact fe⟩
   | true=>
    obtain⟨x,m1,k1,k2⟩:=js hC h;exact⟨o,x,m1,rfl,k1,λK' r' fe=>by rw[dS ho,hw];exact k2 _ _ fe⟩
theorem qG(hC:ga C){dr:Bool}{i:Nat}{J:Nat->Prop}(hF:∀o,ops.toList[i]?=some o->Ld R G C dr o S m (8*(n+i)) J){K:List AV->Mem->Option R}(h:j6 G C dr ops.toList n i S m K=some r) :
  ∃o x m1,ops.toList[i]?=some o/\K (put S o.dst x) m1=some r/\(∀(K' : List AV->Mem->Option R) r',K' (put S o.dst x) m1=some r'->j6 G C dr ops.toList n i S m K'=some r')/\
   (gH o.op=true->m1=m)/\(fK o.op=true->m1=m)/\(eP o.op=true->dr=true->∃ks f,m1=over (kill m f ks) (8*(n+i)) m1/\∀j∈ks,gh (f j)=gh (m j))/\(dr=false->∀j,J j->m1 j=m j):=by
 have Bg:∀m:Mem,∃ks f,m=over (kill m f ks) (8*(n+i)) m/\∀j∈ks,gh (f j)=gh (m j):=λm=>
  ⟨[],λ_=>none,by rw[show kill m (λ_=>none) []=m from by funext j;exact eJ (by simp)];exact(over_self m _).symm,by simp⟩
 cases ho:ops.toList[i]? with
 | none=>unfold j6 at h;rw[ho]at h;cases h
 | some o=>
  rw[dS ho]at h;cases hw:want ops.toList S o with
  | none=>rw[hw]at h;cases h
  | some b=>
   rw[hw]at h;cases b with
   | false=>exact⟨o,.dU [],m,rfl,h,λK' r' fe=>by rw[dS ho,hw];exact fe,λ_=>rfl,λ_=>rfl,λ_ _=>Bg m,λ_ _ _=>rfl⟩
   | true=>
    by_cases hp:gH o.op=true
    ·obtain⟨x,k1,k2⟩:=n_ hp h;exact⟨o,x,m,rfl,k1,λK' r' fe=>by rw[dS ho,hw];exact k2 _ _ _ _ fe,λ_=>rfl,λ_=>rfl,λ_ _=>Bg m,λ_ _ _=>rfl⟩
    ·by_cases BB:fK o.op=true
     ·obtain⟨x,k1,k2⟩:=n9 BB h;exact⟨o,x,m,rfl,k1,λK' r' fe=>by rw[dS ho,hw];exact k2 m _ (λ_ _ _ _=>rfl) _ _ fe,λ_=>rfl,λ_=>rfl,λ_ _=>Bg m,λ_ _ _=>rfl⟩
     ·by_cases hm:eP o.op=true/\dr=true
      ·obtain⟨hm,rfl⟩:=hm;obtain⟨x,m1,k,b,k1,e1,j1,k2⟩:=s0 hC hm h;refine⟨o,x,m1,rfl,k1,λK' r' fe=>?_,λhh=>absurd hh hp,λhh=>absurd hh BB,λ_ _=>⟨k,b,e1,λj hj=>(j1 j hj).2.2.1⟩,λhh=>by cases hh⟩;rw[dS ho,hw];refine k2 m S (λ_ _=>rfl) (λ_ _ _ _=>rfl) (λ_ _ _=>rfl) _ _ ?_;rw[<-e1];exact fe
      ·obtain⟨x,m1,k1,k2,k3⟩:=hF o ho _ _ h;exact⟨o,x,m1,rfl,k1,λK' r' fe=>by rw[dS ho,hw];exact k2 _ _ fe,λhh=>absurd hh hp,λhh=>absurd hh BB,λh1 h2=>absurd ⟨h1,h2⟩ hm,λ_=>k3⟩
theorem yK{i:Nat}{o:Oper}{d:Option Tmp}{v:AV}(ho:ops[i]?=some o)(h:∀t,d=some t->t ∉ o.looksAt ops):nP G ops tb n i (put S d v) m=nP G ops tb n i S m:=by
 unfold nP;rw[ho];simp only;have e:=λx hx=>pv (G:=G) (S:=S) (v:=v) h x hx;have YY:uK G tb (put S d v) o.op=uK G tb S o.op:=by
  cases eF:o.op<;>(try rfl);rename_i t p x;unfold uK;simp only;rw[e p (by rw[eF];simp[Op.operands])]
 rw[YY];congr 1;congr 1;rw[cn,ay,ay];constructor
 ·intro hh x hx;rw[<-e x (by simpa using hx)];exact hh x hx
 ·intro hh x hx;rw[e x (by simpa using hx)];exact hh x hx
theorem wx(hd:tX ops=true):∀(f i p:Nat),before ops f i p=true->p<i
 | 0,i,p,h=>by cases h
 | f+1,i,p,h=>by
  unfold before at h;cases ho:ops[i]? with
  | none=>rw[ho]at h;cases h
  | some o=>
   rw[ho]at h;have hi:i<ops.size:=(bj.1 ho).1;have h1:=ay.1 hd i (bK.2 hi);simp only[ho]at h1;rw[ae]at h1;have eG:∀e∈o.after.toList,Region.binds .any e=true->e.on<i:=λe he hb=>by
    have:=ay.1 h1.1 e he;rw[hb]at this;exact aD this
   rw[bB]at h;rcases h with h|h
   ·unfold ry at h;obtain⟨e,he,h⟩:=bL.1 h;rw[ae]at h;have:=aj h.1;have:=eG e he h.2;omega
   ·obtain⟨e,he,h⟩:=bL.1 h;rw[ae]at h;have:=eG e he h.1;have:=wx hd f e.on p h.2;omega
theorem w4(acc:List Nat)(i p:Nat):∀(es:List Edge) (m:Nat),Nat.testBit (KE acc i es m) p=true->Nat.testBit m p=true\/∃e∈es,Region.binds .any e=true/\e.on<i/\(e.on=p\/Nat.testBit (acc.getD (i - 1 - e.on) 0) p=true)
 | [],m,h=>.inl h
 | e::es,m,h=>by
  unfold KE at h;cases hb:(Region.binds .any e&&Nat.blt e.on i)with
  | false=>
   rw[hb]at h;rcases w4 acc i p es m h with h|⟨e',M9,h⟩
   ·exact .inl h
   ·exact .inr ⟨e',bM _ M9,h⟩
  | true=>
   rw[hb]at h;rw[ae]at hb;have eG:e.on<i:=aD hb.2;rcases w4 acc i p es _ h with h|⟨e',M9,h⟩
   ·rw[Nat.testBit_or,Nat.testBit_or,bB,bB]at h;rcases h with h|h|h
    ·exact .inl h
    ·refine .inr ⟨e,bU ..,hb.1,eG,.inl ?_⟩;rw[Nat.testBit_shiftLeft,ae,Nat.testBit_one_eq_true_iff_self_eq_zero]at h;have h1:=bc h.1;omega
    ·exact .inr ⟨e,bU ..,hb.1,eG,.inr h⟩
   ·exact .inr ⟨e',bM _ M9,h⟩
theorem Al{all:Array Oper}:∀(os:List Oper) (i:Nat) (acc:List Nat),i+os.length=all.size->acc.length=i->(∀k,k<os.length->os[k]?=all[i+k]?)->
  (∀k p,k<i->Nat.testBit (acc.getD (i - 1 - k) 0) p=true->∃f,before all f k p=true)->∀k p,k<all.size->Nat.testBit ((EO os i acc).getD (all.size - 1 - k) 0) p=true->∃f,before all f k p=true
 | [],i,acc,hs,hl,Ax,Hi=>by
  intro k p hk h;have hs:i=all.size:=by simpa using hs
  subst hs;exact Hi k p hk h
 | o::os,i,acc,hs,hl,Ax,Hi=>by
  simp only[aw]at hs;have ho:all[i]?=some o:=by
   have:=Ax 0 (by simp);simpa using this.symm
  have e:EO (o::os) i acc=EO os (i+1) (KE acc i o.after.toList 0::acc):=by
   show force (KE acc i o.after.toList 0) (λm=>EO os (i+1) (m::acc))=_;cases KE acc i o.after.toList 0<;>rfl
  rw[e];refine Al os (i+1) _ (by omega) (by simp[hl]) (λk hk=>?_) (λk p hk h=>?_)
  ·have:=Ax (k+1) (by simp;omega);rw[show i+1+k=i+(k+1) by omega,<-this];simp
  ·by_cases XS:k=i
   ·subst XS;rw[show k+1 - 1 - k=0 by omega,List.getD_cons_zero]at h;rcases w4 _ _ _ _ _ h with h|⟨e',M9,hb,eG,h⟩
    ·simp at h
    ·rcases h with h|h
     ·refine⟨1,?_⟩;unfold before;rw[ho];simp only[bB];refine .inl (bL.2 ⟨e',M9,?_⟩);rw[ae];exact⟨by rw[h];exact Nat.beq_refl p,hb⟩
     ·obtain⟨f,hf⟩:=Hi e'.on p eG h;refine⟨f+1,?_⟩;unfold before;rw[ho];simp only[bB];refine .inr (bL.2 ⟨e',M9,?_⟩);rw[ae];exact⟨hb,hf⟩
   ·rw[show i+1 - 1 - k=(i - 1 - k)+1 by omega,List.getD_cons_succ]at h;exact Hi k p (by omega) h
theorem ue{all:Array Oper}{i p:Nat}(h:J8 all i p=true):∃f,before all f i p=true:=by
 unfold J8 at h;rw[ae]at h;have hi:i<all.size:=aD h.1;exact Al all.toList 0 [] (by simp) rfl (λk _=>by simp) (λk p hk _=>absurd hk (by omega)) i p hi h.2
theorem zW(hd:tX ops=true){p i:Nat}{q o:Oper}(hq:ops[p]?=some q)(ho:ops[i]?=some o)(eG:p<i)(he:ry o p=false)(OG:J8 ops i p=false) :
  FL ops q o=true/\ry q i=false/\J8 ops p i=false:=by
 have hi:i<ops.size:=(bj.1 ho).1;have hp:p<ops.size:=(bj.1 hq).1;have h1:=ay.1 hd i (bK.2 hi);have h2:=ay.1 hd p (bK.2 hp);simp only[ho]at h1;simp only[hq]at h2;rw[ae]at h1 h2;have h3:=ay.1 h1.2 p (bK.2 eG);simp only[he,hq,OG,Bool.false_or,Bool.or_false]at h3;refine⟨h3,?_,?_⟩
 ·rw[<-bm];intro h4;unfold ry at h4;obtain⟨e,JG,M8⟩:=bL.1 h4;rw[ae]at M8;have h5:=ay.1 h2.1 e JG;rw[M8.2]at h5;have h6:=aj M8.1;have h7:e.on+1<=p:=aD h5;omega
 ·rw[<-bm];intro h4;obtain⟨f,h4⟩:=ue h4;have:=wx hd _ _ _ h4;omega
theorem gR{p k:Nat}{q:Oper}(hq:ops[p]?=some q)(iI:nP G ops tb n p S m=true)(hl:eP q.op=true)(zu:loose ops p q k=true) :
  ∀y∈q.op.operands,∀j∈dJ (ev G S y),¬ (8*(n+k)<=j/\j<8*(n+k)+8):=by
 intro y hy j hj hr;unfold nP at iI;rw[hq]at iI;simp only[hl,ak]at iI;rw[ae]at iI;have h1:=ay.1 (ay.1 iI.2 y (by simpa using hy)) j hj;rw[ae]at h1;have h1:=h1.1;have h2:j / 8 - n=k:=by omega
 rw[h2,zu]at h1;simp[Nat.blt]at h1;omega
theorem oa{p:Nat}{q:Oper}(hq:ops[p]?=some q)(iI:nP G ops tb n p S m=true)(hl:eP q.op=true) :
  (uK G tb S q.op||!iv ops p)=true/\∀y∈q.op.operands,∀j∈dJ (ev G S y),(!tb j||!rQ ops p q)=true/\(gh (m j)||!o9 G ops p q)=true:=by
 unfold nP at iI;rw[hq]at iI;simp only[hl,ak]at iI;rw[ae]at iI;refine⟨iI.1,λy hy j hj=>?_⟩;have h1:=ay.1 (ay.1 iI.2 y (by simpa using hy)) j hj;rw[ae,ae]at h1;exact h1.2
theorem wD{p k:Nat}{q o:Oper}(hq:ops[p]?=some q)(ho:ops[k]?=some o)(iI:nP G ops tb n p S m=true)(hl:eP q.op=true)(ha:jS G o.op=true)(zu:loose ops p q k=true) :
  ∀y∈q.op.operands,∀j∈dJ (ev G S y),gh (m j)=true:=by
 intro y hy j hj;have h9:=((oa hq iI hl).2 y hy j hj).2;rw[bB]at h9;rcases h9 with h2|h2
 ·exact h2
 ·exfalso;have:o9 G ops p q=true:=by
   unfold o9;refine bL.2 ⟨k,bK.2 (bj.1 ho).1,?_⟩;rw[ho];simp only[ha,ct];exact zu
  rw[this]at h2;cases h2
theorem FQ{p k:Nat}{q o:Oper}(hq:ops[p]?=some q)(ho:ops[k]?=some o)(iI:nP G ops tb n p S m=true)(hl:eP q.op=true)(ha:stOp o.op=true)(zu:loose ops p q k=true) :
  ∀y∈q.op.operands,∀j∈dJ (ev G S y),tb j=false:=by
 intro y hy j hj;have h9:=((oa hq iI hl).2 y hy j hj).1;rw[bB]at h9;rcases h9 with h2|h2
 ·simpa using h2
 ·exfalso;have:rQ ops p q=true:=by
   unfold rQ;refine bL.2 ⟨k,bK.2 (bj.1 ho).1,?_⟩;rw[ho];simp only[ha,ct];exact zu
  rw[this]at h2;cases h2
theorem Kq{p:Nat}{q:Oper}(hq:ops[p]?=some q)(iI:nP G ops tb n p S m=true)(hl:eP q.op=true)(ha:iv ops p=true):uK G tb S q.op=true:=by
 have h:=(oa hq iI hl).1;rw[ha,aC,Bool.or_false]at h;exact h
theorem yL{i:Nat}{o:Oper}{m m1:Mem}(ho:ops[i]?=some o)(h:eP o.op=true->∀y∈o.op.operands,∀j∈dJ (ev G S y),gh (m1 j)=true->gh (m j)=true)(iI:nP G ops tb n i S m1=true):nP G ops tb n i S m=true:=by
 unfold nP at iI ⊢;rw[ho]at iI ⊢;simp only at iI ⊢;cases hm:eP o.op with
 | false=>rfl
 | true=>
  rw[hm]at iI;simp only[ak]at iI ⊢;rw[ae]at iI ⊢;refine⟨iI.1,ay.2 λy hy=>ay.2 λj hj=>?_⟩;have h1:=ay.1 (ay.1 iI.2 y hy) j hj;rw[ae,ae]at h1 ⊢;have h9:=h1.2.2;rw[bB]at h9;rcases h9 with h2|h2
  ·exact⟨h1.1,h1.2.1,by rw[bB];exact .inl (h hm y (by simpa using hy) j hj h2)⟩
  ·exact⟨h1.1,h1.2.1,by rw[bB];exact .inr h2⟩
theorem Gc(m:Mem)(id:Nat)(f:Mem)(j:Nat)(hj:¬ (id<=j/\j<id+8)):over m id f j=m j:=by
 unfold over;cases hb:(Nat.ble id j&&Nat.blt j (id+8))with
 | false=>rfl
 | true=>
  rw[ae]at hb;exact absurd ⟨aD hb.1,by simpa using hb.2⟩ hj
theorem Af{id:Nat}{m m1 f:Mem}{ks:List Nat}(e:m1=over (kill m f ks) id m1)(hk:∀j∈ks,gh (f j)=gh (m j)){j:Nat}(hj:¬ (id<=j/\j<id+8)):gh (m1 j)=gh (m j):=by
 rw[e,Gc _ _ _ _ hj];by_cases h:j∈ks
 ·rw[ke h,hk j h]
 ·rw[eJ h]
theorem yI{i:Nat}{o:Oper}{d:Option Tmp}{v:AV}(ho:ops[i]?=some o)(h:∀t,d=some t->t ∉ o.looksAt ops):pP G ops pc T i (put S d v) m=pP G ops pc T i S m:=by
 unfold pP;rw[ho];simp only;have e:=λx hx=>pv (G:=G) (S:=S) (v:=v) h x hx;have e1:(o.op.operands.toList.all λx=>(dJ (ev G (put S d v) x)).all λj=>!kC T j)=(o.op.operands.toList.all λx=>(dJ (ev G S x)).all λj=>!kC T j):=by
  rw[cn,ay,ay];constructor
  ·intro hh x hx;rw[<-e x (by simpa using hx)];exact hh x hx
  ·intro hh x hx;rw[e x (by simpa using hx)];exact hh x hx
 have e2:lV G o.op (put S d v) m T=lV G o.op S m T:=by
  have:sy G o.op (put S d v) m=sy G o.op S m:=by
   cases eF:o.op<;>(try rfl);rename_i c;rw[eF]at e;unfold sy;simp only;cases hc:c.callee with
   | value f=>
    have hf:ev G (put S d v) f=ev G S f:=e f (by simp[Op.operands,Call.operands,hc]);have ha:c.args.toList.map (ev G (put S d v))=c.args.toList.map (ev G S):=mn λx hx=>e x (by simp only[Op.operands,Call.operands];exact Array.mem_append.2 (.inr hx));simp only[hf,ha]
   | _=>rfl
  unfold lV;rw[this]
 rw[e1,e2]
theorem iQ{p:Nat}{q:Oper}(hq:ops[p]?=some q)(h:pP G ops pc T p S m=true)(hp:kC pc p=true) :
  iL q.op=true/\lV G q.op S m T=true/\∀k o,ops[k]?=some o->loose ops p q k=true->fK o.op=true:=by
 unfold pP at h;have fN:pc.isEmpty=false:=by
  cases pc with
  | nil=>cases hp
  | cons=>rfl
 rw[fN,cond_false,hq]at h;simp only[hp,ak]at h;rw[ae,ae]at h;refine⟨h.1.1,h.1.2,λk o ho zu=>?_⟩;have:=ay.1 h.2 k (bK.2 (bj.1 ho).1);rw[ho]at this;simp only[zu,aC,Bool.or_false]at this;exact this
theorem pO{p k:Nat}{q:Oper}(hq:ops[p]?=some q)(h:pP G ops pc T p S m=true)(hp:kC pc p=false)(hk:kC pc k=true)(zu:loose ops p q k=true) :
  ∀y∈q.op.operands,∀j∈dJ (ev G S y),kC T j=false:=by
 unfold pP at h;have fN:pc.isEmpty=false:=by
  cases pc with
  | nil=>cases hk
  | cons=>rfl
 rw[fN,cond_false,hq]at h;simp only[hp,cond_false]at h;have hl:CI ops pc p q=true:=bL.2 ⟨k,Ju.1 hk,zu⟩;rw[hl,aC,Bool.false_or]at h;intro y hy j hj;have:=ay.1 (ay.1 h y (by simpa using hy)) j hj;simpa using this
theorem yJ{i:Nat}{m1:Mem}(hi:kC pc i=false)(h:pP G ops pc T i S m1=true):pP G ops pc T i S m=true:=by
 unfold pP at h ⊢;cases fN:pc.isEmpty with
 | true=>rfl
 | false=>
  rw[fN]at h;rw[cond_false]at h ⊢;cases ho:ops[i]? with
  | none=>rfl
  | some o=>
   rw[ho]at h;simp only[hi,cond_false]at h ⊢;exact h
theorem kf{op:Op}(h:iL op=true):gH op=false/\fK op=false:=by
 cases op<;>(try (cases h;done));rename_i c;cases hc:c.callee<;>simp[iL,hc]at h ⊢<;>exact⟨by simp[gH,hc],by simp[fK,hc]⟩
theorem HR(hC:ga C)(hd:tX ops=true){i:Nat}{o:Oper}(ho:ops[i]?=some o){K:List AV->Mem->Option R}{post:List Nat}:∀(pre:List Nat) (S:List AV) (m:Mem),(∀p∈pre,p<i/\ry o p=false/\J8 ops i p=false)->
  pS G C (xA ops pc) (sP G ops tb pc T n) ops.toList n (pre++i::post) S m K=some r->pS G C (xA ops pc) (sP G ops tb pc T n) ops.toList n (i::(pre++post)) S m K=some r
 | [],S,m,_,h=>h
 | p::pre,S,m,hp,h=>by
  simp only[b9,pS]at h;obtain⟨h1,h2⟩:=cV h;unfold sP at h1;rw[ae]at h1;obtain⟨h1,JM⟩:=h1;have L9 : ops.toList[i]?=some o:=by rw[<-ho];simp
  obtain⟨q,pk⟩:∃q,ops[p]?=some q:=by
   obtain⟨q,_,_,hq,_⟩:=Ds hC h2;exact⟨q,by rw[<-hq];simp⟩
  have P8:ops.toList[p]?=some q:=by rw[<-pk];simp
  obtain⟨eG,he,OG⟩:=hp p (by simp);obtain⟨RR,M8,OF⟩:=zW hd pk ho eG he OG;unfold FL at RR;rw[ae]at RR;obtain⟨Qi,fZ⟩:=RR;obtain⟨a1,a2,a3⟩:=Oper.apart_spec Qi;have Xa:i<ops.size:=(bj.1 ho).1;have WI:p<ops.size:=(bj.1 pk).1;have fN:p≠i:=by omega
  have ow:Nat.beq i p=false:=by rw[<-bm];exact λe=>fN (aj e).symm
  have vS:Nat.beq p i=false:=by rw[<-bm];exact λe=>fN (aj e)
  have Hf:gH q.op=true\/gH o.op=true\/(eP q.op=true/\eP o.op=true):=by
   rw[bB,bB,bB,ae,ae]at fZ;rcases fZ with((fZ|fZ)|⟨l1,l2⟩)|⟨l1,l2⟩
   ·exact .inl fZ
   ·exact .inr (.inl fZ)
   ·exact .inr (.inr ⟨by simp[eP,l1],l2⟩)
   ·exact .inr (.inr ⟨l1,by simp[eP,l2]⟩)
  have Ir:eP q.op=true->eP o.op=true->loose ops p q i=true:=λl1 l2=>by simp[loose,ho,l1,l2,ow,he,M8,OG,OF]
  have KJ:eP q.op=true->eP o.op=true->loose ops i o p=true:=λl1 l2=>by simp[loose,pk,l1,l2,vS,he,M8,OG,OF]
  have da:eP q.op=true->eP o.op=true->iv ops p=true:=λl1 l2=>by
   unfold iv;rw[pk];exact bL.2 ⟨i,bK.2 Xa,Ir l1 l2⟩
  have db:eP q.op=true->eP o.op=true->iv ops i=true:=λl1 l2=>by
   unfold iv;rw[ho];exact bL.2 ⟨p,bK.2 WI,KJ l1 l2⟩
  have Gk:∀{op:Op},eP op=true->gH op=true->False:=by
   intro op hm fZ;cases op<;>(try (simp[eP,jz,fK,l9,iL,ml,nq]at hm;done))<;>(try (simp[gH]at fZ;done));rename_i c;cases hc:c.callee<;>(try (simp[gH,hc]at fZ;done));rename_i b;cases b<;>(try (simp[gH,hc]at fZ;done))<;>simp[eP,jz,fK,l9,iL,ml,nq,hc]at hm
  have P0:∀{op:Op},fK op=true->eP op=true:=λh=>by simp[eP,jz,h]
  have rO:∀{op:Op},iL op=true->eP op=true:=λh=>by simp[eP,jz,h]
  -- Lm FD first may be left alone by,if it is a drawn call
  have Tp:∃J:Nat->Prop,(∀q',ops.toList[p]?=some q'->Ld R G C (xA ops pc p) q' S m (8*(n+p)) J)/\(kC pc p=true->∀j,J j↔kC T j=false/\¬ (8*(n+p)<=j/\j<8*(n+p)+8)):=by
   cases pn:kC pc p with
   | false=>exact⟨λ_=>False,λq' _=>zU hC,λh=>by cases h⟩
   | true=>
    obtain⟨c1,c2,_⟩:=iQ pk JM pn;refine⟨λj=>kC T j=false/\¬ (8*(n+p)<=j/\j<8*(n+p)+8),λq' Us=>?_,λ_ _=>.rfl⟩;rw[P8]at Us;cases Us;have:xA ops pc p=false:=by unfold xA;rw[pn];simp
    rw[this];exact vZ hC c1 c2 (λ_ h=>h)
  obtain⟨J,hF,hJ⟩:=Tp;obtain⟨q2,x,m1,hq,k1,k2,Uh,W4,W5,W6⟩:=qG hC hF h2;rw[P8]at hq;cases hq;have k3:=HR hC hd ho pre _ m1 (λq hq=>hp q (by simp[hq])) k1;simp only[pS]at k3;obtain⟨k4,k5⟩:=cV k3;unfold sP at k4;rw[ae,yK ho a1,yI ho a1]at k4;obtain⟨k4,Jp⟩:=k4;have k6:=k2 (λS1 m1=>j6 G C (xA ops pc i) ops.toList n i S1 m1 λS m=>pS G C (xA ops pc) (sP G ops tb pc T n) ops.toList n (pre++post) S m K) r k5
  -- FD drawn calls U7 FD two
  have cP:kC pc p=true->eP o.op=true->fK o.op=true/\kC pc i=false/\(∀y∈o.op.operands,∀j∈dJ (ev G S y),m1 j=m j/\J j):=by
   intro pn l2;obtain⟨c1,_,c3⟩:=iQ pk JM pn;have BB:=c3 i o ho (Ir (rO c1) l2);have hi:kC pc i=false:=by
    rw[<-bm];intro hi;have:=(iQ ho Jp hi).1;rw[(kf this).2]at BB;cases BB
   refine⟨BB,hi,λy hy j hj=>?_⟩;have j1:J j:=(hJ pn j).2 ⟨pO ho Jp hi pn (KJ (rO c1) l2) y hy j hj,gR ho k4 l2 (KJ (rO c1) l2) y hy j hj⟩;exact⟨W6 (by unfold xA;rw[pn];simp) j j1,j1⟩
  have cI:kC pc i=true->eP q.op=true->fK q.op=true/\kC pc p=false:=by
   intro pn l1;obtain⟨c1,_,c3⟩:=iQ ho Jp pn;have BB:=c3 p q pk (KJ l1 (rO c1));refine⟨BB,?_⟩;rw[<-bm];intro hi;have:=(iQ pk JM hi).1;rw[(kf this).2]at BB;cases BB
  have P3 : nP G ops tb n i S m=true:=by
   refine yL ho (λhm y hy j hj hb=>?_) k4;rcases Hf with fZ|fZ|⟨l1,l2⟩
   ·rw[Uh fZ]at hb;exact hb
   ·exact(Gk hm fZ).elim
   ·cases pn:kC pc p with
    | true=>
     rw[<-((cP pn l2).2.2 y hy j hj).1];exact hb
    | false=>
     obtain⟨k,b0,e,hk⟩:=W5 l1 (by unfold xA;rw[da l1 l2,pn];rfl);rw[<-Af e hk (gR ho k4 l2 (KJ l1 l2) y hy j hj)];exact hb
  have NW : pP G ops pc T i S m=true:=by
   cases pn:kC pc i with
   | false=>exact yJ pn Jp
   | true=>
    rcases Hf with fZ|fZ|⟨l1,l2⟩
    ·rw[Uh fZ]at Jp;exact Jp
    ·rw[(kf (iQ ho Jp pn).1).1]at fZ;cases fZ
    ·rw[W4 (cI pn l1).1]at Jp;exact Jp
  have O9:kC pc i=true->Ld R G C (xA ops pc i) o S m (8*(n+i)) (λj=>kC T j=false/\¬ (8*(n+i)<=j/\j<8*(n+i)+8)):=by
   intro pn;obtain⟨c1,c2,_⟩:=iQ ho NW pn;have:xA ops pc i=false:=by unfold xA;rw[pn];simp
   rw[this];exact vZ hC c1 c2 (λ_ h=>h)
  have k7:=IY hC P8 L9 fN Qi (tb:=tb) (by
   rcases Hf with fZ|fZ|⟨l1,l2⟩
   ·exact .inl fZ
   ·exact .inr (.inl fZ)
   ·cases pn:kC pc p with
    | true=>
     obtain⟨c1,c2,c3⟩:=cP pn l2;refine .inr (.inr (.inr (.inr ⟨c1,λK r h=>?_⟩)));obtain⟨x,m',g1,g2,g3⟩:=hF q P8 K r h;exact⟨x,m',g1,g2,λj ⟨z,hz,hj⟩=>g3 j (c3 z hz j (iN hj)).2⟩
    | false=>
     cases Iv:kC pc i with
     | true=>
      obtain⟨c1,c2⟩:=cI Iv l1;refine .inr (.inr (.inr (.inl ⟨c1,λK r h=>?_⟩)));obtain⟨x,m',g1,g2,g3⟩:=O9 Iv K r h;exact⟨x,m',g1,g2,λj ⟨z,hz,hj⟩=>g3 j ⟨pO pk JM pn Iv (Ir l1 l2) z hz j (iN hj),gR pk h1 l1 (Ir l1 l2) z hz j (iN hj)⟩⟩
     | false=>
      exact .inr (.inr (.inl ⟨l1,l2,by unfold xA;rw[da l1 l2,pn];rfl,by unfold xA;rw[db l1 l2,Iv];rfl,gR pk h1 l1 (Ir l1 l2),gR ho k4 l2 (KJ l1 l2),λha=>wD ho pk P3 l2 ha (KJ l1 l2),λha=>wD pk ho h1 l1 ha (Ir l1 l2),λha=>FQ ho pk P3 l2 ha (KJ l1 l2),λha=>FQ pk ho h1 l1 ha (Ir l1 l2),Kq pk h1 l1 (da l1 l2),Kq ho P3 l2 (db l1 l2)⟩))) k6
  have W7:sP G ops tb pc T n i S m=true:=by unfold sP;rw[P3,NW];rfl
  simp only[b9,pS,W7,ak];obtain⟨JI,Yl,Yi⟩:∃JI:Nat->Prop,(∀o',ops.toList[i]?=some o'->Ld R G C (xA ops pc i) o' S m (8*(n+i)) JI)/\(kC pc i=true->∀j,JI j↔kC T j=false/\¬ (8*(n+i)<=j/\j<8*(n+i)+8)):=by
   cases pn:kC pc i with
   | false=>exact⟨λ_=>False,λq' _=>zU hC,λh=>by cases h⟩
   | true=>exact⟨_,λo' M2=>by rw[L9]at M2;cases M2;exact O9 pn,λ_ _=>.rfl⟩
  obtain⟨o',y,m3,M2,j1,j2,Ui,W8,W9,W_⟩:=qG hC Yl k7;rw[L9]at M2;cases M2;refine j2 _ _ ?_;have Qm : nP G ops tb n p S m3=true:=by
   refine yL pk (λhm z hz j hj hb=>?_) h1;rcases Hf with fZ|fZ|⟨l1,l2⟩
   ·exact(Gk hm fZ).elim
   ·rw[Ui fZ];exact hb
   ·cases Iv:kC pc i with
    | true=>
     obtain⟨c1,c2⟩:=cI Iv l1;rw[W_ (by unfold xA;rw[Iv];simp) j ((Yi Iv j).2 ⟨pO pk JM c2 Iv (Ir l1 l2) z hz j hj,gR pk h1 l1 (Ir l1 l2) z hz j hj⟩)];exact hb
    | false=>
     obtain⟨k,b0,e,hk⟩:=W9 l2 (by unfold xA;rw[db l1 l2,Iv];rfl);rw[Af e hk (gR pk h1 l1 (Ir l1 l2) z hz j hj)];exact hb
  have Tf : pP G ops pc T p S m3=true:=by
   cases pn:kC pc p with
   | false=>exact yJ pn JM
   | true=>
    rcases Hf with fZ|fZ|⟨l1,l2⟩
    ·rw[(kf (iQ pk JM pn).1).1]at fZ;cases fZ
    ·rw[Ui fZ];exact JM
    ·rw[W8 (cP pn l2).1];exact JM
  have YT:sP G ops tb pc T n p (put S o.dst y) m3=true:=by
   unfold sP;rw[yK pk a3,yI pk a3,Qm,Tf];rfl
  rw[YT];exact j1
end
section
variable {R:Type} {P:Program} {G:eH} {S S' : List AV} {m m' m2:Mem} {C:FuncId->List AV->(AV->Option R)->Option R} {o:Oper} {r:R} {ops:Array Oper} {n:Nat} {tb:Nat->Bool} {pc T:List Nat} {W0:eC} {F0:Nat->Prop} {a:Act} {w:World}
theorem kh.wider{U U' : Nat->Prop}(h:kh G W0 F0 U m S a w)(hU:∀i,U i->U' i):kh G W0 F0 U' m S a w:=by
 refine⟨h.defers,h.len,?_⟩;obtain⟨μ,F,hI⟩:=h.inv;exact⟨μ,F,hI.wider hU⟩
theorem C_{o:Oper}{p:Nat}(h:ry o p=true):∃e∈o.after,e.on=p/\Region.binds .any e=true:=by
 unfold ry at h;obtain⟨e,he,h⟩:=bL.1 h;rw[ae]at h;exact⟨e,by simpa using he,aj h.1,h.2⟩
theorem n5{listed:Array Bool}(Ma:listed.size=ops.size)(vR:∀k q,ops[k]?=some q->listed.getD k true=true->∀e∈q.after,Region.binds .any e=true->listed.getD e.on true=true) :
  ∀(f i p:Nat) (o:Oper),ops[i]?=some o->(∀e∈o.after,Region.binds .any e=true->listed.getD e.on true=true)->before ops f i p=true->listed.getD p true=true
 | 0,i,p,o,ho,he,h=>by cases h
 | f+1,i,p,o,ho,he,h=>by
  unfold before at h;rw[ho]at h;simp only at h;rw[bB]at h;rcases h with h|h
  ·obtain⟨e,JG,rfl,hb⟩:=C_ h;exact he e JG hb
  ·obtain⟨e,JG,h⟩:=bL.1 h;rw[ae]at h;have hl:=he e (by simpa using JG) h.1;cases hq:ops[e.on]? with
   | none=>
    cases f with
    | zero=>cases h.2
    | succ f=>have:=h.2;unfold before at this;rw[hq]at this;cases this
   | some q=>exact n5 Ma vR f e.on p q hq (vR _ _ hq hl) h.2
theorem Mz(hG:dK P G)(hC:∀g fw (K:AV->Option R) r,C g fw K=some r->∃x,K x=some r/\iD P W0.root g fw x)(hN:ga C)(hd:tX ops=true)
  {K:List AV->Mem->Option R} {Q:Exit->Act->World->Prop} {V:Nat->Prop} (hV:∀i,i<ops.size->∀j,j<8->V (8*(n+i)+j))
  (hn:∀S' m' a' w',K S' m'=some r->kh G W0 F0 V m' S' a' w'->Q .normal a' w'):∀(fuel:Nat) (rem:List Nat) (listed:Array Bool) (U:Nat->Prop) (S:List AV) (m:Mem) (a:Act) (w:World),
  rem.length<=fuel->rem.Pairwise (· < ·)->(∀i,i∈rem↔i<ops.size/\listed.getD i true=false)->listed.size=ops.size->(∀k q,ops[k]?=some q->listed.getD k true=true->∀e∈q.after,Region.binds .any e=true->listed.getD e.on true=true)->(∀j,U j->V j)->(∀i∈rem,∀j,j<8->¬ U (8*(n+i)+j))->
  kh G W0 F0 U m S a w->pS G C (xA ops pc) (sP G ops tb pc T n) ops.toList n rem S m K=some r->wpAny P .any ops Q fuel listed a w:=by
 intro fuel;have KN:∀{rem:List Nat} {listed:Array Bool},(∀i,i∈rem↔i<ops.size/\listed.getD i true=false)->∀i∈Region.ready .any ops listed,i∈rem:=by
  intro rem listed tI i hi;obtain⟨h0,o,ho,_⟩:=mem_ready.1 hi;exact(tI i).2 ⟨(bj.1 ho).1,h0⟩
 have BL:∀{rem:List Nat} {listed:Array Bool},rem.Pairwise (· < ·)->(∀i,i∈rem↔i<ops.size/\listed.getD i true=false)->listed.size=ops.size->Region.ready .any ops listed=[]->rem=[]:=by
  intro rem listed hp tI Ma hr;cases rem with
  | nil=>rfl
  | cons i rem=>
   exfalso;obtain⟨hi,hl⟩:=(tI i).1 (by simp);have:i∈Region.ready .any ops listed:=by
    refine mem_ready.2 ⟨hl,ops[i],Array.getElem?_eq_getElem hi,λe he hb=>?_⟩;have h1:=ay.1 hd i (bK.2 hi);simp only[Array.getElem?_eq_getElem hi]at h1;rw[ae]at h1;have h2:e.on+1<=i:=by
     have:=ay.1 h1.1 e (by simpa using he);rw[hb]at this;exact aD this
    cases hle:listed.getD e.on true with
    | true=>
     have eG:e.on<listed.size:=by omega
     simpa[aI,eG]using hle
    | false=>
     have hm:=(tI e.on).2 ⟨by omega,hle⟩;rcases br.1 hm with h3|h3
     ·omega
     ·have:=(List.pairwise_cons.1 hp).1 _ h3;omega
   rw[hr]at this;simp at this
 induction fuel with
 | zero=>
  intro rem listed U S m a w hf hp tI Ma vR hU nG hS hK;have:rem=[]:=aT.1 (by omega);subst this;refine⟨?_,hn S m a w hK (hS.wider hU)⟩;cases hr:Region.ready .any ops listed with
  | nil=>rfl
  | cons i l=>have:=KN tI i (by rw[hr];simp);simp at this
 | succ fuel ih=>
  intro rem listed U S m a w hf hp tI Ma vR hU nG hS hK;refine⟨λhr=>?_,λi hi=>?_⟩
  ·have:=BL hp tI Ma hr;subst this;exact hn S m a w hK (hS.wider hU)
  ·obtain⟨h0,o,ho,ic⟩:=mem_ready.1 hi;have XW:=KN tI i hi;obtain⟨pre,post,rfl⟩:=List.append_of_mem XW;have Sd:i<ops.size:=(bj.1 ho).1;rw[List.pairwise_append]at hp;obtain⟨KY,Iw,R1⟩:=hp;have RP:∀e∈o.after,Region.binds .any e=true->listed.getD e.on true=true:=by
    intro e JG hb;have h1:=ic e JG hb;by_cases eG:e.on<listed.size
    ·simp[aI,eG]at h1 ⊢;exact h1
    ·simp[aI,eG]
   have iI:∀p∈pre,p<i/\ry o p=false/\J8 ops i p=false:=by
    intro p Ut;obtain⟨h2,h3⟩:=(tI p).1 (by simp[Ut]);refine⟨R1 p Ut i (by simp),?_,?_⟩
    ·rw[<-bm];intro he;obtain⟨e,JG,rfl,hb⟩:=C_ he;rw[RP e JG hb]at h3;cases h3
    ·rw[<-bm];intro he;obtain⟨f,he⟩:=ue he;rw[n5 Ma vR f i p o ho RP he]at h3;cases h3
   have hB:=HR hN hd ho pre S m iI hK;simp only[pS]at hB;obtain⟨_,hB⟩:=cV hB;refine step_ok hG hC hS (nG i (by simp)) hB (λS' m' a' w' fe SL=>?_);have G1:∀k,k∈pre++post->k≠i:=by
    intro k hk e;subst e;rcases aK.1 hk with h|h
    ·have:=R1 k h k (by simp);omega
    ·have:=(List.pairwise_cons.1 Iw).1 k h;omega
   refine ih (pre++post) (listed.setIfInBounds i true) _ S' m' a' w' (by simp at hf ⊢;omega) ?_ ?_ (by simpa using Ma) ?_ ?_ ?_ SL fe
   ·rw[List.pairwise_append];exact⟨KY,(List.pairwise_cons.1 Iw).2,λx hx y hy=>R1 x hx y (by simp[hy])⟩
   ·intro k;by_cases e:k=i
    ·subst e;have eG:k<listed.size:=by omega
     constructor
     ·intro hk;exact absurd rfl (G1 k hk)
     ·rintro⟨_,hk⟩;simp[eG]at hk
    ·rw[getD_set_ne true (λh=>e h.symm),<-tI k];simp[e]
   ·have mono:∀j,listed.getD j true=true->(listed.setIfInBounds i true).getD j true=true:=by
     intro j hj;by_cases e:j=i
     ·subst e;have eG:j<listed.size:=by omega
      simp[eG]
     ·rw[getD_set_ne true (λh=>e h.symm)];exact hj
    intro k q hq hk e he hb;by_cases ek:k=i
    ·subst ek;rw[ho]at hq;cases hq;exact mono _ (RP e he hb)
    ·rw[getD_set_ne true (λh=>ek h.symm)]at hk;exact mono _ (vR k q hq hk e he hb)
   ·rintro j (hj|hj)
    ·exact hU j hj
    ·have:=hV i Sd (j - 8*(n+i)) (by omega);rwa[show 8*(n+i)+(j - 8*(n+i))=j by omega]at this
   ·rintro k hk j hj (hu|hu)
    ·refine nG k ?_ j hj hu;rcases aK.1 hk with h|h
     ·simp[h]
     ·simp[h]
    ·have:=G1 k hk;omega
theorem At.drew{S:St}(h:At G W0 F0 S a w):At G W0 F0 S a { w with drawn:=w.drawn+1 }:=by
 refine⟨h.defers,h.len,?_⟩;obtain⟨μ,F,hI⟩:=h.inv;exact⟨μ,F,hI.world ((Below.refl _ w).drew)⟩
theorem sN(hG:dK P G)(ru:P.follows .mixedOrders=true)(hC:∀g fw (K:AV->Option R) r,C g fw K=some r->∃x,K x=some r/\iD P W0.root g fw x)(hN:ga C)
  {draw:Bool} {S:St} {K:St->Option R} {AZ:Nat} (h:At G W0 F0 S a w) (hK:kX G C ops draw S K=some r) :
  (Code.region AZ ops draw).wp P (λe a' w'=>e=.normal/\∃S',K S'=some r/\At G W0 F0 S' a' w') a w:=by
 cases draw with
 | false=>exact DD hG hC h hK
 | true=>
  simp only[kX,ak,vV]at hK;obtain⟨hd,hK⟩:=cV hK;refine wp_region_any ru ?_;refine Mz (W0:=W0) (F0:=F0) (n:=S.kN) hG hC hN hd (V:=λi=>i<8*(S.kN+ops.size)) ?_ ?_ ops.size (List.range ops.size) _ (λi=>i<8*S.kN) S.tm S.m a _ (by simp) List.pairwise_lt_range ?_ (by simp) ?_ ?_ ?_ h.drew hK
  ·intro i hi j hj;show _<_;omega
  ·intro S' m' a' w' fe SL;exact⟨rfl,_,fe,SL⟩
  ·intro i;simp only[bK];constructor
   ·intro hi;exact⟨hi,by simp[hi]⟩
   ·intro hi;exact hi.1
  ·intro k q hq hk;have eG:k<ops.size:=(bj.1 hq).1;simp[eG]at hk
  ·intro j hj;show _<_;omega
  ·intro i _ j hj hu;omega
end
section
variable {R:Type} {P:Program} [dH P] {G:eH}
def dL(P:Program)[dH P](g:FuncId)(fw:List AV)(c:(AV->Option R)->Option R):Prop:=
 ∃o:Option AV,(∀K,c K=o.bind K)/\∀x,o=some x->ux P g fw x
def lO(P:Program)[dH P](C:FuncId->List AV->(AV->Option R)->Option R):Prop:=∀g fw,dL P g fw (C g fw)
theorem dL.none{g:FuncId}{fw:List AV}:dL (R:=R) P g fw (λ_=>Option.none):=⟨Option.none,λ_=>rfl,nofun⟩
theorem dL.of{A:Type}{g:FuncId}{fw:List AV}{o:Option A}{enc:A->AV}(h:∀p,o=some p->ux P g fw (enc p)):dL (R:=R) P g fw (λK=>o.bind λp=>K (enc p)):=by
 refine⟨o.map enc,λK=>by cases o<;>rfl,λx hx=>?_⟩;cases o with
 | none=>cases hx
 | some p=>cases hx;exact h p rfl
theorem lO.ok{C:FuncId->List AV->(AV->Option R)->Option R}(h:lO P C):∀g fw (K:AV->Option R) r,C g fw K=some r->∃x,K x=some r/\ux P g fw x:=by
 intro g fw K r hK;obtain⟨o,h1,h2⟩:=h g fw;rw[h1]at hK;cases o with
 | none=>cases hK
 | some x=>exact⟨x,hK,h2 x rfl⟩
theorem lO.at{C:FuncId->List AV->(AV->Option R)->Option R}(h:lO P C){R0:World}(hQ:dH.Q P R0):∀g fw (K:AV->Option R) r,C g fw K=some r->∃x,K x=some r/\iD P R0 g fw x:=by
 intro g fw K r hK;obtain⟨x,h1,h2⟩:=h.ok g fw K r hK;exact⟨x,h1,h2 R0 hQ⟩
theorem lO.natural{C:FuncId->List AV->(AV->Option R)->Option R}(h:lO P C):ga C:=by
 intro g fw K r hK;obtain⟨o,h1,h2⟩:=h g fw;rw[h1]at hK;cases o with
 | none=>cases hK
 | some x=>exact⟨x,hK,λK' r' fe=>by rw[h1];exact fe⟩
theorem zE(hG:dK P G)(ru:P.follows .mixedOrders=true)(jk:∀R0,dH.Q P R0->mE G R0)(oH:G.kb=0){C:FuncId->List AV->(AV->Option R)->Option R}(hC:lO P C)
  {cut : Nat → Option kK} {f : FuncId} {fn : Func} {args : List AV} {x : AV} {n : Nat} (hf : P.funcs[f]? = some fn) (gm : (fn.name == "runtime.NumGoroutine") = false) (gn : fn.body.isNone = false)
  {K:AV->Option R} {r:R} (hx:∀y,K y=some r->y=x) (hK:Ef G C cut fn n args K=some r):fD P f args x:=
 Mm hG jk oH hC.ok hf gm gn (λW0 F0 hQ AZ ops draw S K a w r h hK=>sN hG ru (hC.at (R0:=W0.root) hQ) hC.natural h hK) hx hK
theorem Dy{C:FuncId->List AV->(AV->Option R)->Option R}{cut:Nat->Option kK}{fin:St->Option R}{n:Nat}{todo:List Item}{S:St} :
 runK G C cut fin (n+1) todo S=B1 G C cut fin (runK G C cut fin n) todo S:=rfl
theorem Ee{C:FuncId->List AV->(AV->Option R)->Option R}{cut:Nat->Option kK}{fn:Func}{n:Nat}{args:List AV}{K:AV->Option R}(h:fn.body.isNone=false) :
  Ef G C cut fn n args K=qZ G C cut (λS=>lK G fn.resultTypes.toList fn.results.toList S K) (runK G C cut (λS=>lK G fn.resultTypes.toList fn.results.toList S K) n) 1000 [.code (fn.body.getD .skip)] (start fn args):=by
 unfold Ef;cases hb:fn.body with
 | none=>rw[hb]at h;cases h
 | some c=>rfl
end
def AG:Value->Value->Bool
 | .int k a,.int k' b=>decide (k=k')&&decide (a=b)
 | .bool a,.bool b=>a==b
 | .string a,.string b=>a.data.isEmpty&&b.data.isEmpty
 | .slice none n c,.slice none n' c'=>Nat.beq n n'&&Nat.beq c c'
 | .pointer none,.pointer none | .nilIface,.nilIface | .nilFunc,.nilFunc=>true
 | _,_=>false
theorem Dh{x y:Value}(h:AG x y=true):x=y:=by
 unfold AG at h;split at h
 ·rw[ae]at h;rw[bc h.1,bc h.2]
 ·rw[eq_of_beq h]
 ·rename_i a b;rw[ae]at h;obtain⟨a⟩:=a;obtain⟨b⟩:=b;have h1:a=#[]:=by simpa using h.1
  have h2:b=#[]:=by simpa using h.2
  rw[h1,h2]
 ·rw[ae]at h;rw[aj h.1,aj h.2]
 ·rfl
 ·rfl
 ·rfl
 ·cases h
def rE:List Value->List Value->Bool
 | [],[]=>true
 | x::r,y::s=>AG x y&&rE r s
 | _,_=>false
theorem se:∀{x y:List Value},rE x y=true->x=y
 | [],[],_=>rfl
 | x::r,y::s,h=>by
  simp only[rE,ae]at h;rw[Dh h.1,se h.2]
 | [],_::_,h=>by cases h
 | _::_,[],h=>by cases h
def GK:Value->Bool
 | .agg _=>true
 | _=>false
theorem DT{z:Value}(h:GK z=true):z=.agg z.cells:=by
 cases z<;>first|rfl|cases h
def Ch(P:Program)(t:TypeId)(ti:TI):Bool:=
 (match P.info? t with
  | some i=>Nat.beq i.size ti.size&&(Nat.beq i.bytes ti.bytes&&(match i.zero with | some z=>rE z.cells.toList ti.zero&&(!ti.isAgg||GK z) | none=>false))
  | none=>false) &&
 ((match P.underlying t with
  | some d => e8 ti.kd d && (match d with | .struct fields => (fields.toList.all fun f => !(f.name == "_")) && !P.stoodInHeld t | _ => true)
  | none=>false) &&
 ((ti.isAgg==ti.kd.agg)&&(ti.zero.all one&&(Nat.beq ti.zero.length ti.size&&(Nat.beq ti.xU.length ti.size&&(Nat.beq ti.tid t&&(ti.isAgg||Nat.beq ti.size 1)))))))
theorem IT{P:Program}{t:TypeId}{ti:TI}(h:Ch P t ti=true):nr P t ti:=by
 unfold Ch at h;simp only[ae]at h;obtain⟨h1,h2,h3,h4,h5,h6,h8,h7⟩:=h;refine⟨?_,?_,eq_of_beq h3,h4,aj h5,aj h6,?_,aj h8,?_⟩
 ·cases hi:P.info? t with
  | none=>rw[hi]at h1;cases h1
  | some i=>
   rw[hi]at h1;simp only[ae]at h1;obtain⟨e1,e2,e3⟩:=h1;refine⟨i,rfl,aj e1,aj e2,?_⟩;cases hz:i.zero with
   | none=>rw[hz]at e3;cases e3
   | some z=>
    rw[hz]at e3;simp only[ae]at e3;refine⟨z,rfl,se e3.1,λha=>?_⟩;have:=e3.2;rw[ha]at this;exact DT this
 ·cases hu:P.underlying t with
  | none=>rw[hu]at h2;cases h2
  | some d=>rw[hu]at h2;simp only[ae]at h2;exact⟨d,rfl,h2.1⟩
 ·intro ha;rw[ha]at h7;exact aj h7
 ·intro fields hu;rw[hu]at h2;simp only[ae]at h2;refine⟨λf hf=>?_,by simpa using h2.2.2⟩;have:=ay.1 h2.2.1 f hf;simpa using this
end Go.Proofs.Ev
namespace Go.Proofs
open Go.Shelf Go.RowKit Go.Lib
namespace Ev
theorem fR{P : Program}[dH P]{f : FuncId}{fn : Func}{args : List AV}{x : AV}(hf : P.funcs[f]? = some fn)(gm : (fn.name == "runtime.NumGoroutine") = false)(gn : fn.body.isNone = false)
  (h:∀(w:World) (F:Nat->Prop) (vals:Array Value),dH.Q P w->(∀b,F b->b<w.heap.size)->vals.size=args.length->(∀j c,args[j]?=some c->Rel w F c (vals.getD j Go.undef))->
   Calls P f vals w λe w'=>match e with
   | .returned v=>∃F' β,Came w w' F F' β/\AB w' F' β x v
   | _=>False):fD P f args x:=by
 intro R0 w F vals hQ hB h1 _ h2 h3;have n1 : ¬ fn.name = "runtime.NumGoroutine" := by simpa using gm
 have n2:¬ fn.body=none:=by intro e;simp[e]at gn
 exact⟨by simp[callFunc,hf,n1,n2],h w F vals (dH.below _ _ hQ hB) h1 h2 h3⟩
theorem Kj{w:World}{F:Nat->Prop}{x:AV}{vals:Array Value}(hl:vals.size=[x].length)(h:∀j c,[x][j]?=some c->Rel w F c (vals.getD j Go.undef)):∃u,vals=#[u]/\Rel w F x u:=by
 obtain⟨l⟩:=vals
 match l,hl with
 | [u],_=>exact⟨u,rfl,h 0 x rfl⟩
theorem vd{w:World}{F:Nat->Prop}{x y:AV}{vals:Array Value}(hl:vals.size=[x,y].length)(h:∀j c,[x,y][j]?=some c->Rel w F c (vals.getD j Go.undef)):∃u v,vals=#[u,v]/\Rel w F x u/\Rel w F y v:=by
 obtain⟨l⟩:=vals
 match l,hl with
 | [u,v],_=>exact⟨u,v,rfl,h 0 x rfl,h 1 y rfl⟩
theorem Nv{w:World}{F:Nat->Prop}{x y z:AV}{vals:Array Value}(hl:vals.size=[x,y,z].length)(h:∀j c,[x,y,z][j]?=some c->Rel w F c (vals.getD j Go.undef)):∃u v t,vals=#[u,v,t]/\Rel w F x u/\Rel w F y v/\Rel w F z t:=by
 obtain⟨l⟩:=vals
 match l,hl with
 | [u,v,t],_=>exact⟨u,v,t,rfl,h 0 x rfl,h 1 y rfl,h 2 z rfl⟩
theorem jC{w:World}{F:Nat->Prop}{x v:Value}(h:Rel w F (.v x) v):v=x:=by cases h;rfl
theorem Came.same{w:World}{F:Nat->Prop}(hF:∀b,F b->b<w.heap.size):Came w w F F (λ_=>none):=
 ⟨Below.refl _ _,λ_ h=>h,λb hb=>⟨hF b hb,.inl hb⟩,by simp,by simp⟩
theorem Came.jF{w w' : World}{F:Nat->Prop}(hF:∀b,F b->b<w.heap.size)(hB:Below w.heap.size w w'):Came w w' F F (λ_=>none):=
 ⟨hB,λ_ h=>h,λb hb=>⟨bA (hF b hb) hB.size,.inl hb⟩,by simp,by simp⟩
end Ev
namespace Ev
theorem yD{w w' : World}{F:Nat->Prop}{e:TypeId}{size:Nat}{v:Value}{fl:Fl}{xs:List AV}{news:List Value}(ht:fl.te=e)(hF:∀b,F b->b<w.heap.size)(fc:w'.ownsRow w.heap.size e size v xs.length news)(hB:Below w.heap.size w w')
  (hs:∀x∈xs,x.cells.length=size) (hf:∀x∈df xs,uB fl x) (hr:∀j c,(df xs)[j]?=some c->Rel w' F c (news.getD j Go.undef)) :
  ∃F' β,Came w w' F F' β/\AB w' F' β (.fr fl size xs) v:=by
 obtain⟨hl,hv⟩:=fc;rcases hv with⟨rfl,h0⟩|⟨g,cap,cur,rfl,Yb,hg,Uv,SA,uV,N9⟩
 ·have:xs=[]:=aT.1 h0;subst this;exact⟨F,λ_=>none,⟨hB,λ_ h=>h,λb hb=>⟨bA (hF b hb) hB.size,.inl hb⟩,by simp,by simp⟩,⟨by simp,by simp[df],.inl ⟨rfl,rfl⟩⟩,none,0,rfl,by simp,.inl ⟨rfl,rfl⟩⟩
 ·have eG:g<w'.heap.size:=(bj.1 hg).1;have lq:=(dW size xs hs).1;refine⟨F,λj=>if j=0 then some (g,0,cur.size)else none,⟨hB,λ_ h=>h,λb hb=>⟨bA (hF b hb) hB.size,.inl hb⟩,?_,?_⟩,⟨hs,hf,.inr ⟨g,0,cur,(0,0),rfl,by rw[ht];exact hg,?_,?_,?_⟩⟩,_,cap,rfl,Uv,.inr ⟨g,0,cur.size,_,rfl,rfl,rfl,.inr ⟨rfl,by omega⟩⟩⟩
  ·intro j b o n hj;replace hj:(if j=0 then some (g,0,cur.size)else none)=some (b,o,n):=hj;split at hj
   ·cases hj;exact⟨Yb,eG,λhb=>by have:=hF _ hb;omega⟩
   ·cases hj
  ·intro j j' b o n o' n' hj kZ;replace hj:(if j=0 then some (g,0,cur.size)else none)=some (b,o,n):=hj;replace kZ : (if j'=0 then some (g,0,cur.size)else none)=some (b,o',n'):=kZ;split at hj
   ·split at kZ
    ·rename_i e1 e2;rw[e1,e2]
    ·cases kZ
   ·cases hj
  ·rw[uV];have:=aV size Uv;omega
  ·exact .inl rfl
  ·intro j c hj;have:=hr j c hj;have kZ : j<xs.length*size:=by have:=(aB.1 hj).1;omega
   rw[<-N9]at this;rw[ah,bN kZ,cm]at this;rw[b6,aI];exact this
end Ev
end Go.Proofs
namespace Go.Proofs.Ev
open Go Go.RowKit
def Ij(A:TypeId->List AV->Prop):List (TypeId × Nat)->List AV->Prop
 | [],cs=>cs=[]
 | f::r,cs=>∃p q,cs=p++q/\A f.1 p/\Ij A r q
def AY(e sz m:Nat):List (TypeId × Nat):=(List.range m).map λi=>(e,i*sz)
def Arg(G:eH):Nat->TypeId->List AV->Prop
 | 0,_,_=>False
 | n+1,t,cs=>match G.fP t with
  | .some ti=>match ti.kd with
   | .int k=>∃i:Int,cs=[.v (.int k i)]/\(Lit.int k i).wf=true
   | .string=>∃s:ByteArray,cs=[.v (.string s)]/\s.size<=maxLen
   | .bool=>∃b,cs=[vb b]
   | .slice e=>match G.fP e with
    | .some ei=>∃xs:List AV,cs=[.sl ei.flat ei.size xs]/\xs.length<=maxLen/\∀y∈xs,bif ei.isAgg then ∃ds,y=.agg ds/\Arg G n e ds else Arg G n e [y]
    | .none=>False
   | .struct fs=>Ij (Arg G n) fs cs
   | .arr m e=>match G.fP e with
    | .some ei=>Ij (Arg G n) (AY e ei.size m) cs
    | .none=>False
   | _=>False
  | .none=>False
def An{H:Type}(S:TypeId->DataW H->List AV->Prop):List (DataW H)->List (TypeId × Nat)->List AV->Prop
 | [],[],cs=>cs=[]
 | d::ds,f::r,cs=>∃p q,cs=p++q/\S f.1 d p/\An S ds r q
 | _,_,_=>False
def nS{H:Type}(G:eH):Nat->TypeId->DataW H->List AV->Prop
 | 0,_,_,_=>False
 | n+1,t,d,cs=>match G.fP t with
  | .some ti=>match ti.kd with
   | .int k=>∃i:Int,d=.lit (.int k i)/\cs=[.v (.int k i)]
   | .string=>∃s:ByteArray,d=.lit (.string s.data.toList)/\cs=[.v (.string s)]
   | .bool=>∃b,d=.lit (.bool b)/\cs=[vb b]
   | .slice e=>match G.fP e with
    | .some ei=>(d=.nil/\cs=[.sl ei.flat ei.size []])\/∃ds rest xs,d=.slice ds rest/\cs=[.sl ei.flat ei.size xs]/\xs.length=ds.length/\
     ∀i dd,ds[i]?=some dd->∃ys,xs.getD i .undef=(bif ei.isAgg then .agg ys else ys.headD .undef)/\nS G n e dd ys
    | .none=>False
   | .struct fs=>∃ds,d=.agg ds/\An (nS G n) ds fs cs
   | .arr m e=>match G.fP e with
    | .some ei=>∃ds,d=.agg ds/\An (nS G n) ds (AY e ei.size m) cs
    | .none=>False
   | _=>False
  | .none=>False
def sA(G:eH):Nat->List (TypeId × Nat)->Nat->Bool
 | o,[],s=>Nat.beq o s
 | o,f::r,s=>Nat.beq f.2 o&&(match G.fP f.1 with | .some fi=>sA G (o+fi.size) r s | .none=>false)
def lM(G:eH):Nat->Bool->TypeId->Bool
 | 0,_,_=>false
 | n+1,fl,t=>match G.fP t with
  | .some ti=>match ti.kd with
   | .int _ | .string | .bool=>true
   | .slice e=>!fl&&(match G.fP e with | .some ei=>Nat.ble 1 ei.size&&lM G n ei.nb e | .none=>false)
   | .struct fs=>sA G 0 fs ti.size&&fs.all λf=>lM G n fl f.1
   | .arr m e=>match G.fP e with | .some ei=>sA G 0 (AY e ei.size m) ti.size&&lM G n fl e | .none=>false
   | _=>false
  | .none=>false
section
variable {P:Program} {G:eH} {w:World} {H:Type} {enc:TypeId × Value->H} {held:Bool}
theorem uq{A:TypeId->List AV->Prop}{Q:AV->Prop}:∀{l:List (TypeId × Nat)} {cs:List AV},(∀f∈l,∀p,A f.1 p->∀c∈p,Q c)->Ij A l cs->∀c∈cs,Q c
 | [],cs,_,h,c,hc=>by cases h;cases hc
 | f::r,cs,hA,h,c,hc=>by
  obtain⟨p,q,rfl,h1,h2⟩:=h;rcases aK.1 hc with hc|hc
  ·exact hA f (by simp) p h1 c hc
  ·exact uq (λf hf=>hA f (by simp[hf])) h2 c hc
theorem xP:∀(n:Nat) (fl:Fl) (t:TypeId) (cs:List AV),lM G n fl.b t=true->Arg G n t cs->∀c∈cs,uB fl c
 | 0,_,_,_,h,_=>by cases h
 | n+1,fl,t,cs,h,ha=>by
  simp only[lM,Arg]at h ha;cases ht:G.fP t with
  | none=>rw[ht]at ha;exact ha.elim
  | some ti=>
   rw[ht]at h ha;simp only at h ha;intro c hc;cases hk:ti.kd<;>rw[hk]at h ha<;>simp only at h ha
   case int k=>obtain⟨i,rfl,_⟩:=ha;simp at hc;subst hc;exact⟨rfl,λ_=>rfl⟩
   case string=>obtain⟨i,rfl,_⟩:=ha;simp at hc;subst hc;exact⟨rfl,λ_=>rfl⟩
   case bool=>obtain⟨i,rfl⟩:=ha;simp at hc;subst hc;exact⟨rfl,λ_=>rfl⟩
   case slice e=>
    cases he:G.fP e with
    | none=>rw[he]at ha;exact ha.elim
    | some ei=>
     rw[he]at ha;obtain⟨xs,rfl,_⟩:=ha;simp at hc;subst hc;refine⟨rfl,λhf=>?_⟩;rw[hf]at h;cases h
   case struct fs=>
    rw[ae]at h;exact uq (λf hf p hp c hc=>xP n fl f.1 p (ay.1 h.2 f hf) hp c hc) ha c hc
   case arr m e=>
    cases he:G.fP e with
    | none=>rw[he]at ha;exact ha.elim
    | some ei=>
     rw[he]at h ha;simp only at h ha;rw[ae]at h;refine uq (λf hf p hp c hc=>?_) ha c hc;obtain⟨i,_,rfl⟩:=bz.1 hf;exact xP n fl e p h.2 hp c hc
   all_goals exact ha.elim
theorem yq{G:eH}:∀{l:List (TypeId × Nat)} {o s:Nat},sA G o l s=true->o<=s
 | [],o,s,h=>Nat.le_of_eq (aj h)
 | f::r,o,s,h=>by
  simp only[sA,ae]at h;cases hf:G.fP f.1 with
  | none=>rw[hf]at h;cases h.2
  | some fi=>rw[hf]at h;have:=yq h.2;omega
abbrev Lc(P:Program)(G:eH)(w:World)(enc:TypeId × Value->H)(held:Bool)(n:Nat)(t:TypeId):Prop:=
 ∀(fuel:Nat) (cs:List Value) x,DataW.trod enc P w 0 (λ_=>true) held fuel t cs=some x->
  ∃ug:List AV,ug.length=cs.length/\(∀j c,ug[j]?=some c->Rel w (λb=>b<w.heap.size) c (cs.getD j undef))/\Arg G n t ug/\nS G n t x.1 ug
theorem jv(hG:dK P G){t:TypeId}{ti:TI}(ht:G.fP t=some ti):P.cellsOf t=ti.size:=by
 obtain⟨i,hi,h1,_⟩:=(hG.ti t ti ht).info;simp[Program.cellsOf,hi,h1]
theorem mU(hG:dK P G){n m:Nat}{cs:List Value}:∀{l:List (TypeId × Nat)} {o:Nat} {ys:List (DataW H × List MemPlace)},sA G o l cs.length=true->(∀f∈l,Lc P G w enc held n f.1)->
  (ys.length=l.length/\∀(i:Nat) (f:TypeId × Nat),l[i]?=some f->DataW.trod enc P w 0 (λ_=>true) held m f.1 ((cs.drop f.2).take (P.cellsOf f.1))=ys[i]?)->
  ∃ug:List AV,ug.length=cs.length - o/\(∀j c,ug[j]?=some c->Rel w (λb=>b<w.heap.size) c (cs.getD (o+j) undef))/\Ij (Arg G n) l ug/\An (nS G n) (ys.map (·.1)) l ug
 | [],o,ys,h,_,hT=>by
  have:ys=[]:=List.eq_nil_of_length_eq_zero hT.1;subst this;exact⟨[],by have:=aj h;simp;omega,by simp,rfl,rfl⟩
 | f::r,o,ys,h,hO,hT=>by
  simp only[sA,ae]at h;obtain⟨h1,h2⟩:=h;have h1:=aj h1;cases hf:G.fP f.1 with
  | none=>rw[hf]at h2;cases h2
  | some fi=>
   rw[hf]at h2;simp only at h2;have hle:=yq h2;obtain⟨UO,UP⟩:=hT;cases ys with
   | nil=>simp at UO
   | cons y ys=>
   have hy:=UP 0 f rfl;simp only[List.getElem?_cons_zero]at hy;rw[jv hG hf]at hy;obtain⟨p,p1,p2,p3,p4⟩:=hO f (by simp) _ _ _ hy;obtain⟨q,q1,q2,q3,q4⟩:=mU hG (ys:=ys) h2 (λg hg=>hO g (by simp[hg])) ⟨by simpa using UO,λi g hg=>by have:=UP (i+1) g (by simpa using hg);simpa using this⟩;have pl:p.length=fi.size:=by rw[p1];simp;omega
   refine⟨p++q,by simp[pl,q1];omega,λj c hj=>?_,⟨p,q,rfl,p3,q3⟩,p,q,rfl,p4,q4⟩;by_cases eG:j<p.length
   ·rw[aN eG]at hj;have:=p2 j c hj;rw[ah,bN (by omega),bg,h1]at this;rw[ah];exact this
   ·rw[aQ (by omega)]at hj;have:=q2 _ c hj;rw[show o+fi.size+(j - p.length)=o+j by omega]at this;exact this
theorem B3{n:Nat}{t:TypeId}{ti:TI}{c:AV}(ht:G.fP t=some ti)(hk:ti.kd.agg=false)(h:Arg G n t [c]):c.cells=[c]:=by
 cases n with
 | zero=>exact h.elim
 | succ n=>
  simp only[Arg,ht]at h;cases fv:ti.kd<;>rw[fv]at h hk<;>simp only at h
  case int k=>obtain⟨i,h,_⟩:=h;cases h;rfl
  case string=>obtain⟨i,h,_⟩:=h;cases h;rfl
  case bool=>obtain⟨i,h⟩:=h;cases h;rfl
  case slice e=>
   cases he:G.fP e with
   | none=>rw[he]at h;exact h.elim
   | some ei=>rw[he]at h;obtain⟨xs,h,_⟩:=h;cases h;rfl
  case struct=>cases hk
  case arr=>cases hk
  all_goals exact h.elim
theorem opens(hG:dK P G):∀(n:Nat) (fl:Bool) (t:TypeId),lM G n fl t=true->Lc P G w enc held n t
 | 0,_,_,h=>by cases h
 | n+1,fl,t,h=>by
  intro fuel cs x hx;simp only[lM]at h;cases ht:G.fP t with
  | none=>rw[ht]at h;cases h
  | some ti=>
   rw[ht]at h;simp only at h;have hT:=hG.ti t ti ht;obtain⟨d,hd,fv⟩:=hT.rF;have uP:∀(c:AV) (v:Value),Rel w (λb=>b<w.heap.size) c v->∀j c',[c][j]?=some c'->Rel w (λb=>b<w.heap.size) c' ([v].getD j undef):=by
    intro c v hr j c' hj;cases j with
    | zero=>simp at hj;subst hj;exact hr
    | succ j=>simp at hj
   cases hk:ti.kd<;>rw[hk]at h fv<;>simp only at h
   case int k=>
    cases d<;>simp only[e8]at fv<;>first|cases fv|skip
    have e:=bc fv;subst e;obtain⟨i,rfl,D0,hw⟩:=DataW.trod_int hd hx;exact⟨[.v (.int _ i)],rfl,uP _ _ (.v _ rfl),by simp only[Arg,ht,hk];exact⟨i,rfl,hw⟩,by simp only[nS,ht,hk];exact⟨i,by rw[D0],rfl⟩⟩
   case string=>
    cases d<;>simp only[e8]at fv<;>first|cases fv|skip
    obtain⟨s,rfl,D0,hw⟩:=DataW.trod_string hd hx;exact⟨[.v (.string s)],rfl,uP _ _ (.v _ rfl),by simp only[Arg,ht,hk];exact⟨s,rfl,hw⟩,by simp only[nS,ht,hk];exact⟨s,by rw[D0],rfl⟩⟩
   case bool=>
    cases d<;>simp only[e8]at fv<;>first|cases fv|skip
    obtain⟨b,rfl,D0⟩:=DataW.trod_bool hd hx;exact⟨[vb b],rfl,uP _ _ (.v _ rfl),by simp only[Arg,ht,hk];exact⟨b,rfl⟩,by simp only[nS,ht,hk];exact⟨b,by rw[D0],rfl⟩⟩
   case slice e=>
    cases d<;>simp only[e8]at fv<;>first|cases fv|skip
    have e':=aj fv;subst e';rw[ae]at h;cases he:G.fP e with
    | none=>rw[he]at h;cases h.2
    | some ei=>
     rw[he]at h;simp only[ae]at h;have N_:=aD h.2.1;have hE:=hG.ti e ei he;have hA:∀(xs:List AV),xs.length<=maxLen->(∀y∈xs,bif ei.isAgg then ∃ds,y=.agg ds/\Arg G n e ds else Arg G n e [y])->Arg G (n+1) t [.sl ei.flat ei.size xs]:=by
      intro xs h1 h2;simp only[Arg,ht,hk,he];exact⟨xs,rfl,h1,h2⟩
     rcases DataW.trod_slice hd hx with⟨rfl,D0⟩|⟨a,len,cap,elems,rest,m,_,rfl,D0,_,hl,hm,hlen,UH,_,_⟩
     ·exact⟨[.sl ei.flat ei.size []],rfl,uP _ _ (.uL _ _),hA [] (cr _) (by simp),by simp only[nS,ht,hk,he];exact .inl ⟨by rw[D0],trivial⟩⟩
     ·rw[jv hG he]at UH;have each:∀i,∃ug:List AV,i<len->∃ci:List Value,ci.length=ei.size/\(∀j,j<ei.size->w.cell? ((a.add (i*ei.size)).add j)=ci[j]?)/\ug.length=ei.size/\(∀j c,ug[j]?=some c->Rel w (λb=>b<w.heap.size) c (ci.getD j undef))/\Arg G n e ug/\∀dd,(elems.map (·.1))[i]?=some dd->nS G n e dd ug:=by
       intro i;by_cases hi:i<len
       ·have h1:=UH i hi;have h2:elems[i]?=some elems[i]:=aP (by omega);rw[h2,cv]at h1;obtain⟨ci,K5,Xv⟩:=h1;obtain⟨_,c1,c2⟩:=World.cells?_some K5;obtain⟨ug,v1,v2,v3,v4⟩:=opens hG n ei.nb e h.2.2 _ _ _ Xv;exact⟨ug,λ_=>⟨ci,c1,c2,by rw[v1,c1],v2,v3,λdd Az=>by rw[aL,h2,cz]at Az;cases Az;exact v4⟩⟩
       ·exact⟨[],λh=>absurd h hi⟩
      obtain⟨A,Nb⟩:∃A:Nat->List AV,∀i,i<len->∃ci:List Value,ci.length=ei.size/\(∀j,j<ei.size->w.cell? ((a.add (i*ei.size)).add j)=ci[j]?)/\(A i).length=ei.size/\(∀j c,(A i)[j]?=some c->Rel w (λb=>b<w.heap.size) c (ci.getD j undef))/\Arg G n e (A i)/\∀dd,(elems.map (·.1))[i]?=some dd->nS G n e dd (A i):=
       ⟨λi=>Classical.choose (each i),λi=>Classical.choose_spec (each i)⟩
      have xr:∀i,i<len->(bif ei.isAgg then AV.agg (A i)else(A i).headD .undef).cells=A i:=by
       intro i hi;obtain⟨ci,_,_,al,_,aa,_⟩:=Nb i hi;cases oA:ei.isAgg with
       | true=>rfl
       | false=>
        have s1:=hE.Lr oA;rw[s1]at al;obtain⟨c,hc⟩:=ca.1 al;rw[hc]at aa;rw[hc];exact B3 he (by rw[<-hE.agg,oA]) aa
      obtain⟨xs,uS⟩:∃xs,xs=(List.range len).map λi=>bif ei.isAgg then AV.agg (A i)else(A i).headD .undef:=⟨_,rfl⟩;have It:xs.length=len:=by rw[uS];simp
      have G5:∀i,i<len->xs.getD i .undef=bif ei.isAgg then AV.agg (A i)else(A i).headD .undef:=by intro i hi;rw[uS];simp[ah,hi]
      have kE:∀y∈xs,∃i,i<len/\y=bif ei.isAgg then AV.agg (A i)else(A i).headD .undef:=by
       intro y hy;rw[uS]at hy;obtain⟨i,hi,rfl⟩:=bz.1 hy;exact⟨i,bK.1 hi,rfl⟩
      have uV:∀y∈xs,y.cells.length=ei.size:=by
       intro y hy;obtain⟨i,hi,rfl⟩:=kE y hy;rw[xr i hi];obtain⟨ci,_,_,al,_⟩:=Nb i hi;exact al
      obtain⟨f1,f2⟩:=dW ei.size xs uV;have gJ:∀c∈df xs,uB ei.flat c:=by
       intro c hc;simp only[df,aS]at hc;obtain⟨y,hy,hc⟩:=hc;obtain⟨i,hi,rfl⟩:=kE y hy;rw[xr i hi]at hc;obtain⟨ci,_,_,_,_,aa,_⟩:=Nb i hi;exact xP n ei.flat e _ h.2.2 aa c hc
      have split:∀j,j<(df xs).length->∃i k,i<len/\k<ei.size/\j=i*ei.size+k:=by
       intro j hj;rw[f1,It]at hj;exact⟨j / ei.size,j % ei.size,Nat.div_lt_of_lt_mul (by rwa[Nat.mul_comm]),Nat.mod_lt _ (by omega),by rw[Nat.mul_comm];exact(Nat.div_add_mod j ei.size).symm⟩
      have jl:∀i k,i<len->k<ei.size->∃ci:List Value,w.cell? (a.add (i*ei.size+k))=some (ci.getD k undef)/\∀c,(A i)[k]?=some c->Rel w (λb=>b<w.heap.size) c (ci.getD k undef):=by
       intro i k hi hk;obtain⟨ci,c1,c2,_,c4,_,_⟩:=Nb i hi;refine⟨ci,?_,λc hc=>c4 k c hc⟩;have:=c2 k hk;rw[jd]at this;rw[this,ah,aP (by omega)];rfl
      refine⟨[.sl ei.flat ei.size xs],rfl,uP _ _ ?_,hA xs (by omega) ?_,?_⟩
      ·have:=Rel.sl (w:=w) (F:=λb=>b<w.heap.size) ei.flat ei.size xs a cap (λj=>(w.cell? (a.add j)).getD undef) ?_ (by omega) uV gJ ?_ ?_ (λh=>by cases h)
       ·rw[It]at this;exact this
       ·intro fN;have h0:0<len:=by
         rw[<-It];exact cu.2 fN
        obtain⟨ci,K5,_⟩:=jl 0 0 h0 (by omega);rw[Nat.zero_mul,b6]at K5;show a.block<_;rcases Nat.lt_or_ge a.block w.heap.size with h'|h'
        ·exact h'
        ·have AA:(a.add 0).block=a.block:=iS a 0;simp[World.cell?,AA,Array.getElem?_eq_none h']at K5
       ·intro j hj;obtain⟨i,k,hi,hk,rfl⟩:=split j hj;obtain⟨ci,K5,_⟩:=jl i k hi hk;rw[K5];rfl
       ·intro j c hj;obtain⟨i,k,hi,hk,rfl⟩:=split j ((aB.1 hj).1);rw[f2 i (by omega) k hk,G5 i hi,xr i hi]at hj;obtain⟨ci,K5,hr⟩:=jl i k hi hk;rw[K5];exact hr c hj
      ·intro y hy;obtain⟨i,hi,rfl⟩:=kE y hy;obtain⟨ci,_,_,al,_,aa,_⟩:=Nb i hi;cases oA:ei.isAgg with
       | true=>exact⟨A i,rfl,aa⟩
       | false=>
        have s1:=hE.Lr oA;rw[s1]at al;obtain⟨c,hc⟩:=ca.1 al;rw[hc]at aa ⊢;exact aa
      ·simp only[nS,ht,hk,he];refine .inr ⟨elems.map (·.1),rest.map (·.1),xs,by rw[D0],rfl,by rw[It,af,hlen],λi dd Az=>?_⟩;have hi:i<len:=by have:=(aB.1 Az).1;simpa[hlen]using this
       obtain⟨ci,_,_,_,_,_,a9⟩:=Nb i hi;exact⟨A i,G5 i hi,a9 dd Az⟩
   case struct fs=>
    cases d<;>simp only[e8]at fv<;>first|cases fv|skip
    rename_i fields;have Qh:=eq_of_beq fv;rw[ae]at h;obtain⟨xs,m,_,D0,fZ,It,ic⟩:=DataW.trod_struct hd hx;rw[jv hG ht]at fZ;obtain⟨ug,v1,v2,v3,v4⟩:=mU (m:=m) hG (l:=fs) (o:=0) (cs:=cs) (ys:=xs) (by rw[fZ];exact h.1) (λf hf=>opens hG n fl f.1 (ay.1 h.2 f hf)) (by
     refine⟨by rw[It,<-Qh];simp,λi f hf=>?_⟩;rw[<-Qh,aL,aA]at hf;obtain⟨zN,G7,rfl⟩:=hf;exact ic i zN (by simpa using G7))
    exact⟨ug,by simpa using v1,by simpa using v2,by simp only[Arg,ht,hk];exact v3,by simp only[nS,ht,hk];exact⟨_,by rw[D0],v4⟩⟩
   case arr m e=>
    cases d<;>simp only[e8]at fv<;>first|cases fv|skip
    rw[ae]at fv;have e1:=aj fv.1;have e2:=aj fv.2;subst e1;subst e2;cases he:G.fP e with
    | none=>rw[he]at h;cases h
    | some ei=>
     rw[he]at h;simp only[ae]at h;obtain⟨xs,m',_,D0,fZ,It,ic⟩:=DataW.trod_array hd hx;rw[jv hG ht]at fZ;obtain⟨ug,v1,v2,v3,v4⟩:=mU (m:=m') hG (l:=AY e ei.size m) (o:=0) (cs:=cs) (ys:=xs) (by rw[fZ];exact h.1) (by
       intro f hf;obtain⟨i,_,rfl⟩:=bz.1 hf;exact opens hG n fl e h.2) (by
      refine⟨by rw[It];simp[AY],λi f hf=>?_⟩;unfold AY at hf;rw[aL,aA]at hf;obtain⟨k,uU,rfl⟩:=hf;obtain⟨JB,tK⟩:=aB.1 uU;rw[List.getElem_range]at tK;subst tK;have h3:=ic i (by simpa using JB);rw[jv hG he]at h3;rw[jv hG he];exact h3)
     exact⟨ug,by simpa using v1,by simpa using v2,by simp only[Arg,ht,hk,he];exact v3,by simp only[nS,ht,hk,he];exact⟨_,by rw[D0],v4⟩⟩
   all_goals cases h
end
end Go.Proofs.Ev
namespace Go.Proofs.Ev
open Go Go.RowKit Go.ChangeShapes Go.WideShapes Go.ChangeAt
def MH(G:eH)(n:Nat)(t:TypeId)(x:AV):Prop:=
 match G.fP t with
 | .some ti=>∃ys,Arg G n t ys/\x=bif ti.isAgg then .agg ys else ys.headD .undef
 | .none=>False
def Kf(G:eH)(n:Nat):List TypeId->List AV->Prop
 | [],xs=>xs=[]
 | t::ts,xs=>∃x r,xs=x::r/\MH G n t x/\Kf G n ts r
section
variable {P:Program} {G:eH} {w W W' : World} {H:Type} {enc:TypeId × Value->H} {held:Bool}
theorem H4(hG:dK P G){n:Nat}{t:TypeId}(uD:lM G n false t=true){r:Reach}{base:Nat}{v:Value}{d:DataW H}{ps:List MemPlace}(mI:Value.okWide P w r base t v)
  (h:DataW.Trod enc P w 0 (λ_=>true) held t v d ps):∃x,MH G n t x/\Rel w (λb=>b<w.heap.size) x v:=by
 obtain⟨fuel,h⟩:=h;obtain⟨ys,h1,h2,h3,_⟩:=opens hG n false t uD _ _ _ h;unfold MH;cases ht:G.fP t with
 | none=>
  cases n with
  | zero=>cases uD
  | succ n=>simp only[lM,ht]at uD;cases uD
 | some ti=>
  simp only;obtain⟨d,hd,fv⟩:=(hG.ti t ti ht).rF;refine⟨_,⟨ys,h3,rfl⟩,?_⟩;have agg:∀cs,v=.agg cs->ti.isAgg=true->Rel w (λb=>b<w.heap.size) (bif ti.isAgg then AV.agg ys else ys.headD .undef) v:=by
   rintro cs rfl ha;rw[ha];simp only[Value.cells,bo]at h1 h2;refine .agg ys cs h1.symm λj c hj=>?_;have:=h2 j c hj;rwa[ah,cm,<-aI]at this
  have uP:v.cells=#[v]->ti.isAgg=false->Rel w (λb=>b<w.heap.size) (bif ti.isAgg then AV.agg ys else ys.headD .undef) v:=by
   intro hv ha;rw[ha];rw[hv]at h1 h2;obtain⟨c,hc⟩:=ca.1 (show ys.length=1 by simpa using h1);subst hc;exact h2 0 c rfl
  have oA:=(hG.ti t ti ht).agg;cases n with
  | zero=>cases uD
  | succ n=>
   simp only[lM,ht]at uD;cases hk:ti.kd<;>rw[hk]at uD fv oA<;>simp only at uD
   case int k=>
    cases d<;>simp only[e8]at fv<;>first|cases fv|skip
    obtain⟨i,rfl⟩:=okWide_int hd mI;exact uP rfl oA
   case string=>
    cases d<;>simp only[e8]at fv<;>first|cases fv|skip
    obtain⟨i,rfl⟩:=okWide_string hd mI;exact uP rfl oA
   case bool=>
    cases d<;>simp only[e8]at fv<;>first|cases fv|skip
    obtain⟨i,rfl⟩:=okWide_bool hd mI;exact uP rfl oA
   case slice e=>
    cases d<;>simp only[e8]at fv<;>first|cases fv|skip
    obtain⟨a,l,c,rfl⟩:=okWide_slice hd mI;exact uP rfl oA
   case struct fs=>
    cases d<;>simp only[e8]at fv<;>first|cases fv|skip
    obtain⟨cs,rfl,_⟩:=okWide_struct hd mI;exact agg cs rfl oA
   case arr m e=>
    cases d<;>simp only[e8]at fv<;>first|cases fv|skip
    simp only[Value.okWide,hd]at mI;obtain⟨cs,rfl,_⟩:=mI;exact agg cs rfl oA
   all_goals cases uD
theorem wz(hG:dK P G){n:Nat}{r:Reach}{base:Nat}:∀{ts:List TypeId} {vs:List Value} {ds:List (DataW H)} {ps:List MemPlace},(ts.all λt=>lM G n false t)=true->
  (∀(j:Nat) t v,ts[j]?=some t->vs[j]?=some v->Value.okWide P w r base t v)->DataW.TrodAll enc P w 0 (λ_=>true) held ts vs ds ps->
  ∃xs:List AV,xs.length=vs.length/\(∀j c,xs[j]?=some c->Rel w (λb=>b<w.heap.size) c (vs.getD j undef))/\Kf G n ts xs
 | [],vs,ds,ps,_,_,h=>by
  obtain⟨rfl,_,_⟩:=trodAll_nil h;exact⟨[],rfl,by simp,rfl⟩
 | t::ts,vs,ds,ps,ht,mI,h=>by
  obtain⟨v,TO,d,U2,p,q,rfl,rfl,rfl,h1,h2⟩:=trodAll_cons h;rw[bE,ae]at ht;obtain⟨x,a1,a2⟩:=H4 hG ht.1 (mI 0 t v rfl rfl) h1;obtain⟨xs,b1,b2,b3⟩:=wz hG ht.2 (λj t v h1 h2=>mI (j+1) t v h1 h2) h2;refine⟨x::xs,by simp[b1],λj c hj=>?_,x,xs,rfl,a1,b3⟩;cases j with
  | zero=>simp at hj;subst hj;simpa using a2
  | succ j=>exact b2 j c (by simpa using hj)
theorem wA(hl:laidOutB P=true)(hB:Below W.heap.size W W'):∀{ts:List TypeId} {vs:List Value} {ds:List (DataW H)} {ps:List MemPlace},(ts.all λt=>P.readableRec t&&decide (t<P.types.size))=true->
  DataW.TrodAll enc P W 0 (λ_=>true) true ts vs ds ps->DataW.TrodAll enc P W' 0 (λb=>decide (b<W.heap.size)) true ts vs ds ps
 | [],vs,ds,ps,_,h=>by
  obtain⟨rfl,rfl,rfl⟩:=trodAll_nil h;exact trodAll_mk0
 | t::ts,vs,ds,ps,ht,h=>by
  obtain⟨v,TO,d,U2,p,q,rfl,rfl,rfl,h1,h2⟩:=trodAll_cons h;rw[bE,ae,ae]at ht;refine trodAll_cons_mk (Below.trod hl ht.1.1 (bc ht.1.2) h1 hB ?_) (wA hl hB ht.2 h2);obtain⟨m,hm⟩:=h1;exact DataW.trod_lt m _ _ _ hm
theorem DR[dH P](hG:dK P G)(hl:laidOutB P=true){f:FuncId}{fn:Func}{s:ChangeSpec}{args:Array Value}{ds gs:List (DataW H)}{before:List MemPlace}{n base:Nat}{rt:TypeId}
  (uD:(fn.params.toList.all λt=>lM G n false t)=true) (Oi:(fn.params.toList.all λt=>P.readableRec t&&decide (t<P.types.size))=true)
  (Jy:fn.resultTypes=#[rt]) (XA:P.underlying rt=some .bool) (KU:s.vars=[]) (GX:∀ds:List (DataW H),ds.length=fn.params.size->s.fn H ds={ results:=[.lit (.bool true)],args:=ds })
  (mI:∀(j:Nat) t v,fn.params[j]?=some t->args[j]?=some v->Value.okWide P W .any base t v) (hW:DataW.Whole enc P fn.params.toList s.vars false W args.toList ds gs before)
  (hQ:dH.Q P W) (cZ:∀xs,Kf G n fn.params.toList xs->fD P f xs (vb true)) :
  Calls P f args W λe W'=>∃v,e=.returned v/\s.post enc P fn false true false false W args v W':=by
 have Yf:=hW;obtain⟨p,q,hA,hV,rfl,Ix,Ay⟩:=hW;rw[KU]at hV;obtain⟨rfl,rfl⟩:=trodVars_none hV;obtain⟨xs,x1,x2,x3⟩:=wz hG uD (λj t v h1 h2=>mI j t v (by simpa using h1) (by simpa using h2)) hA;have hh:=(cZ xs x3 W W (λb=>b<W.heap.size) args hQ (Below.refl _ W) (λ_ h=>h) (λ_ h=>h) (by simpa using x1.symm) (λj c hj=>by
  have:=x2 j c hj;rwa[ah,cm,<-aI]at this)).2
 refine hh.mono λe W' he=>?_;cases e with
 | returned v=>
  obtain⟨F',β,jI,hr⟩:=he;have hv:v=.bool true:=jC hr;subst hv;have Hd:ds.length=fn.params.size:=by
   have:∀{ts:List TypeId} {vs:List Value} {ds:List (DataW H)} {ps:List MemPlace},DataW.TrodAll enc P W 0 (λ_=>true) true ts vs ds ps->ds.length=ts.length:=by
    intro ts;induction ts with
    | nil=>intro vs ds ps h;obtain⟨_,rfl,_⟩:=trodAll_nil h;rfl
    | cons t ts ih=>intro vs ds ps h;obtain⟨v,TO,d,U2,p,q,rfl,rfl,rfl,h1,h2⟩:=trodAll_cons h;simp[ih h2]
   simpa using this hA
  refine⟨_,rfl,ds,[],_,[],p,[],Yf,?_,?_,?_,jI.below.frame _,λh=>by cases h⟩
  ·rw[bf,GX ds Hd,Jy];exact trodAll_mk1 (shut_bool XA _)
  ·rw[bf,GX ds Hd];exact wA hl jI.below Oi hA
  ·rw[bf,GX ds Hd,KU];rfl
 | _=>exact he.elim
end
end Go.Proofs.Ev
namespace Go.Proofs.Ev
open Go Go.RowKit
section
variable {R:Type} {P:Program} {G:eH} {a:Act} {w w' : World} {W0:eC} {F0 U F F' : Nat->Prop} {id:Nat} {L L' : AV->Value->Prop} {r:R} {m m' : Mem} {μ eM β:Mu}
theorem tz(G:eH)(k:Nat):∀n t,fm { G with kb:=k } n t=fm G n t
 | 0,t=>rfl
 | n+1,t=>by
  have:fm { G with kb:=k } n=fm G n:=funext (tz G k n);simp only[fm,this]
theorem dK.kb(h:dK P G)(k:Nat):dK P { G with kb:=k }:=⟨h.ti,λt ks hk=>h.UZ t ks (by rw[<-tz G k];exact hk)⟩
theorem I2(S:St)(e:Nat × Nat × Fl × Nat)(h:At G W0 F0 S a w):At G W0 F0 (AX S e) a w:=by
 obtain⟨i,j,fl,sz⟩:=e;obtain⟨μ,F,hI⟩:=h.zM fl sz;have hU:∀i,(i<8*S.kN\/i=8*S.kN)->i<8*(S.kN+1):=by intro i hi;omega
 have fc:=Cu (w:=w) (F:=F) (μ:=μ) (U:=λi=>i<8*S.kN\/i=8*S.kN) (.inr rfl) (Mem.dx S.m (8*S.kN) (some (.row fl sz [])));simp only[AX];split
 ·rename_i tb cs hm;split
  ·rename_i hj;have eG:i<8*S.kN:=by
    obtain⟨U9,Y3,Na⟩:=h.inv;exact Na.used i _ hm
   have fN:i≠8*S.kN:=by omega
   refine⟨h.defers,h.len,μ,F,(de.FV hI (id:=i) (j:=j) (cs:=cs) (x:=.own (8*S.kN) 0 none) ?_ ?_).wider hU⟩
   ·rw[Mem.dk _ _ fN];exact hm
   ·rintro v ⟨C,rfl,hC⟩ _;have:=hC j _ hj;rw[<-(dF (dI (dE this))).1]at fc;exact fc
  ·exact h
 ·exact h
theorem JW{v:Value}(h:eS w F μ m U (.v .nilIface) v):eS w F μ m U (.err false) v:=by
 obtain⟨_,h2⟩:=h;cases h2;exact eE .oB
theorem JV{t:TypeId}{x v:Value}(h:eS w F μ m U (.v (.iface t x)) v):eS w F μ m U (.err true) v:=by
 obtain⟨_,h2⟩:=h;cases h2;exact eE (.nR _ _)
theorem sR:∀(ks:List SK) (xs ys:List AV) (u:Nat->Value),iF ks xs=some ys->(∀j c,xs[j]?=some c->eS w F μ m U c (u j))->
  ys.length=xs.length/\∀j c,ys[j]?=some c->oc c=true/\eS w F μ m U c (u j):=by
 intro ks;induction ks with
 | nil=>
  intro xs ys u e h;cases xs with
  | nil=>simp[iF]at e;subst e;exact⟨rfl,by simp⟩
  | cons x xs=>simp[iF]at e
 | cons k ks ih=>
  intro xs ys u e h;have step:∀(x y:AV) (r s:List AV),xs=x::r->ys=y::s->iF ks r=some s->oc y=true->(eS w F μ m U x (u 0)->eS w F μ m U y (u 0))->
    ys.length=xs.length/\∀j c,ys[j]?=some c->oc c=true/\eS w F μ m U c (u j):=by
   intro x y r s e1 e2 e3 e4 e5;subst e1 e2;obtain⟨l2,r2⟩:=ih r s (λj=>u (j+1)) e3 (λj c hj=>h (j+1) c (by simpa using hj));refine⟨by simp[l2],λj c hj=>?_⟩;cases j with
   | zero=>simp at hj;subst hj;exact⟨e4,e5 (h 0 x rfl)⟩
   | succ j=>exact r2 j c (by simpa using hj)
  cases xs with
  | nil=>cases k<;>simp[iF]at e
  | cons x r=>
   have hv:∀{A:Option (List AV)},(∀y,x=.v y->A=(match iF ks r with | .some s=>Option.some (.v y::s) | _=>none))->((∀y,x≠.v y)->A=none)->A=some ys->
     ys.length=(x::r).length/\∀j c,ys[j]?=some c->oc c=true/\eS w F μ m U c (u j):=by
    intro A h1 h2 eA;cases x
    case v y=>
     rw[h1 y rfl]at eA;split at eA
     ·rename_i s hs;cases eA;exact step _ _ _ _ rfl rfl hs rfl (λh=>h)
     ·cases eA
    all_goals (rw[h2 (λy=>by simp)]at eA;cases eA)
   cases k
   case slice=>simp[iF]at e
   case any=>
    simp only[iF]at e;split at e
    ·rename_i y s hy hs;cases e;split at hy
     ·cases hy;exact step _ _ _ _ rfl rfl hs rfl JW
     ·cases hy;exact step _ _ _ _ rfl rfl hs rfl JV
     ·cases hy;exact step _ _ _ _ rfl rfl hs rfl (λh=>h)
     ·cases hy
    ·cases e
   all_goals refine hv (λy hy=>?_) (λhn=>?_) e
   all_goals first|(subst hy;rfl;done)|(cases x<;>first|exact absurd rfl (hn _)|rfl)
theorem A4{ti:TI}{x y:AV}{v:Value}(e:wX ti x=some y)(h:eB w F μ m U x v):pQ y=true/\kJ w F μ m U y v:=by
 have one:∀(hx:eS w F μ m U x v),(match iF ti.xU [x]with | some [y]=>some y | _=>none)=some y->pQ y=true/\kJ w F μ m U y v:=by
  intro hx e;split at e
  ·rename_i y' hy;cases e;obtain⟨_,r2⟩:=sR (w:=w) (F:=F) (μ:=μ) (m:=m) (U:=U) ti.xU [x] [y] (λ_=>v) hy (λj c hj=>by
    cases j with
    | zero=>simp at hj;subst hj;exact hx
    | succ j=>simp at hj)
   obtain⟨p1,p2⟩:=r2 0 y rfl;refine⟨?_,dE p2⟩;cases y<;>first|exact p1|cases p1
  ·cases e
 cases x
 case agg cs=>
  simp only[wX]at e;obtain⟨_,e⟩:=cV e;rw[aA]at e;obtain⟨ys,hy,rfl⟩:=e;obtain⟨vs,rfl,hl,hr⟩:=h;obtain⟨l2,r2⟩:=sR ti.xU cs ys (λj=>vs.getD j undef) hy hr;refine⟨ay.2 λc hc=>?_,vs,rfl,by rw[l2];exact hl,λj c hj=>(r2 j c hj).2⟩;obtain⟨j,hj⟩:=List.getElem?_of_mem hc;exact(r2 j c hj).1
 case dU cs=>
  exfalso;simp only[wX]at e;split at e
  ·rename_i y' hy;cases hk:ti.xU with
   | nil=>rw[hk]at hy;simp[iF]at hy
   | cons k ks=>rw[hk]at hy;cases k<;>simp[iF]at hy
  ·cases e
 all_goals exact one h e
theorem qL:∀(ts:List TypeId) (xs ys:List AV) (u:Nat->Value),l4 G ts xs=some ys->(∀j c,xs[j]?=some c->eB w F μ m U c (u j))->
  ys.length=xs.length/\∀j c,ys[j]?=some c->pQ c=true/\kJ w F μ m U c (u j)
 | [],[],ys,u,e,h=>by simp[l4]at e;subst e;exact⟨rfl,by simp⟩
 | [],_::_,ys,u,e,h=>by simp[l4]at e
 | _::_,[],ys,u,e,h=>by simp[l4]at e
 | t::ts,x::r,ys,u,e,h=>by
  simp only[l4]at e;split at e
  ·split at e
   ·rename_i y s hy hs;cases e;obtain⟨l2,r2⟩:=qL ts r s (λj=>u (j+1)) hs (λj c hj=>h (j+1) c (by simpa using hj));refine⟨by simp[l2],λj c hj=>?_⟩;cases j with
    | zero=>simp at hj;subst hj;exact A4 hy (h 0 x rfl)
    | succ j=>exact r2 j c (by simpa using hj)
   ·cases e
  ·cases e
theorem Mt{ord:List Nat}(hg:Good m ord):MF ord m (Mem.gg (ord.map λi=>ix (jr ord (m i)))) μ (λj=>(ord[j]?).bind μ) (λi=>i<ord.length):=by
 refine⟨λj id hj=>?_,λj id hj=>by simp[hj],λj id hj=>(aB.1 hj).1⟩;cases hm:m id with
 | none=>exact absurd hm (hg.2 id (aO hj))
 | some b=>exact .inr ⟨b,rfl,by rw[o5,hj];simp[hm]⟩
theorem de.Pq(hI:de W0 F0 U m L w μ F){ord:List Nat}(nW:Good m ord)
  (hL:∀c v,L' c v->eB w F (λj=>(ord[j]?).bind μ) (Mem.gg (ord.map λi=>ix (jr ord (m i)))) (λi=>i<ord.length) c v) :
  de W0 F0 (λi=>i<ord.length) (Mem.gg (ord.map λi=>ix (jr ord (m i)))) L' w (λj=>(ord[j]?).bind μ) F:=by
 have kE:∀j b',Mem.gg (ord.map λi=>ix (jr ord (m i))) j=some b'->∃id b,ord[j]?=some id/\m id=some b/\b'=jr ord (some b):=by
  intro j b' hj;rw[o5,aA]at hj;obtain⟨id,hid,rfl⟩:=hj;cases hm:m id with
  | none=>exact absurd hm (nW.2 id (aO hid))
  | some b=>exact⟨id,b,hid,hm,rfl⟩
 have eG:∀(j id:Nat),ord[j]?=some id->j<ord.length:=λj id hj=>(aB.1 hj).1;have hc:=Mt (μ:=μ) nW;refine{ below:=hI.below,dC:=hI.dC,sub:=hI.sub,gl:=hI.gl,used:=?_,j7:=?_,own:=?_,inj:=?_,dB:=hL }
 ·intro j b' hj;obtain⟨id,b,hid,_,_⟩:=kE j b' hj;exact hc.used j id hid
 ·intro j b' hj;obtain⟨id,b,hid,hb,rfl⟩:=kE j b' hj;have hB:=hI.j7 id b hb;cases b with
  | box tb cs=>
   obtain⟨b,C,f,e1,e2,e3,e4,e5⟩:=hB;refine⟨b,C,f,by simp[hid,e1],e2,by simpa using e3,e4,λk c hk=>?_⟩;simp only[aL,aA]at hk;obtain⟨y,hy,rfl⟩:=hk;exact yF hc 3 (e5 k y hy)
  | row fl sz xs=>
   obtain⟨e1,e2,e3⟩:=hB;refine⟨e1,e2,?_⟩;simpa[hid]using e3
 ·intro j b' b o n hj hb;obtain⟨id,b1,hid,ow,rfl⟩:=kE j b' hj;simp only[hid,ab]at hb;exact hI.own id b1 b o n ow hb
 ·intro j j' b1 b2 b o n o' n' hj kZ hb ia;obtain⟨id,c1,hid,zB,rfl⟩:=kE j b1 hj;obtain⟨rp,c2,zw,Hg,rfl⟩:=kE j' b2 kZ;simp only[hid,ab]at hb;simp only[zw,ab]at ia;have e:=hI.inj id rp c1 c2 b o n o' n' zB Hg hb ia;subst e;exact(List.getElem?_inj (eG j _ hid) nW.1).1 (hid.trans zw.symm)
theorem JS(hG:dK P G){fn:Func}{gM:List (Nat × Nat × Fl × Nat)}{S:St}{K:AV->Option R}(h:At G W0 F0 S a w)(hK:rv G gM fn.resultTypes.toList fn.results.toList S K=some r) :
  ∃v y os,(results fn a.tmps).run P w=.ok v w/\K (.dU [y,.dU os])=some r/\
   ∃F' eM,de W0 F0 (λi=>i<os.length) (Mem.gg os) (λc u=>c=y/\u=v) w eM F'/\∀i,i<G.kb->∃n,eM i=some (W0.bk i,0,n):=by
 obtain⟨μ,F,hI⟩:=h.inv;unfold rv at hK;obtain⟨xs,vs,dY,eV,hl,hr⟩:=nA hG hI _ _ hK;clear hK;obtain⟨ys,qe,gV⟩:=cN dY;clear dY;obtain⟨l1,r1⟩:=qL _ _ _ (λj=>vs.getD j Go.undef) qe hr;obtain⟨N8,hK⟩:=cV gV;clear gV;have hS:At G W0 F0 (gM.foldl AX S) a w:=by
  have:∀(l:List (Nat × Nat × Fl × Nat)) (S:St),At G W0 F0 S a w->At G W0 F0 (l.foldl AX S) a w:=by
   intro l;induction l with
   | nil=>intro S h;exact h
   | cons e l ih=>intro S h;exact ih _ (I2 S e h)
  exact this _ _ h
 generalize gM.foldl AX S=S' at hK N8 hS;obtain⟨Ik,F1,UR⟩:=hS.inv;have GY : (results fn a.tmps).run P w=.ok (if h:vs.toArray.size=1 then vs.toArray[0]else .tuple vs.toArray) w:=by
  have:(fn.results.mapM (mT a.tmps)).run P w=.ok vs.toArray w:=by
   rw[Array.mapM_eq_mapM_toList];simp[eV]
  have e:results fn a.tmps=(fn.results.mapM (mT a.tmps) >>= λvs=>pure (if h:vs.size=1 then vs[0]else .tuple vs)):=by
   unfold results;refine congrArg (λm=>m >>= _) ?_;congr 1
  rw[e,cg,this];rfl
 have hy:wY (match ys with | [y]=>y | ys=>.dU ys)=true/\eB w F μ S.m (λi=>i<8*S.kN) (match ys with | [y]=>y | ys=>.dU ys) (if h:vs.toArray.size=1 then vs.toArray[0]else .tuple vs.toArray):=by
  split
  ·rename_i y;have D1:vs.length=1:=by rw[hl,<-l1];rfl
   obtain⟨v,rfl⟩:=ca.1 D1;obtain⟨p1,p2⟩:=r1 0 y rfl;refine⟨?_,dI p2⟩;cases y<;>first|exact p1|cases p1
  ·rename_i fN;have D1:¬ vs.toArray.size=1:=by
    intro h1;have:ys.length=1:=by rw[l1,<-hl];simpa using h1
    obtain⟨y,hy⟩:=ca.1 this;exact fN y hy
   rw[dif_neg D1];refine⟨ay.2 λc hc=>?_,vs.toArray,rfl,by simp[hl,l1],λj c hj=>by simpa using(r1 j c hj).2⟩;obtain⟨j,hj⟩:=List.getElem?_of_mem hc;exact(r1 j c hj).1
 refine⟨_,_,_,GY,hK,?_⟩;obtain⟨ord,rr⟩:∃ord,ord=(List.range G.kb).foldl (λord i=>visit 6 S'.m ord (.agg (match S'.m i with | .some (.box _ cs)=>cs|_=>[]))) (List.range G.kb):=⟨_,rfl⟩;have nW:Good S'.m ord:=by rw[rr];exact lR _ _ (sB N8)
 obtain⟨t0,Iu⟩:∃t,ord=List.range G.kb++t:=by rw[rr];exact lQ _ _
 have ho:outs G.kb S'=ord.map λi=>ix (jr ord (S'.m i)):=by rw[rr];rfl
 rw[ho,af];refine⟨F1,λj=>(ord[j]?).bind Ik,?_,?_⟩
 ·have:=UR.Pq nW (L':=λc u=>c=(match ys with | [y]=>y | ys=>.dU ys)/\u=(if h:vs.toArray.size=1 then vs.toArray[0]else .tuple vs.toArray)) (by
   rintro c u ⟨rfl,rfl⟩;exact sQ hy.1 hy.2)
  exact this
 ·intro i hi;have hp:=UR.dB _ _ (.inr (.inr ⟨i,hi,rfl,rfl⟩));have hb:mH (S'.m i)=true:=ay.1 N8 i (bK.2 hi);cases hm:S'.m i with
  | none=>rw[hm]at hb;cases hb
  | some b=>
   cases b with
   | row _ _ _=>rw[hm]at hb;cases hb
   | box tb cs=>
    obtain⟨_,_,RZ⟩:=hp;obtain⟨b,n,eN,hv⟩:=RZ tb cs hm;cases hv;exact⟨n,by show(ord[i]?).bind Ik=_;rw[Cr Iu hi];exact eN⟩
theorem CD:∀(bs:List AV),kR bs<=bs.length
 | []=>aJ _
 | x::r=>by
  have:=CD r;cases x<;>simp[kR];exact this
theorem Dt{fn:Func}{args bs:List AV}{vals:Array Value}(jk:mE G W0.root)(oH:G.kb=kR bs)(hl:vals.size=args.length)
  (hI:de W0 F0 (λi=>i<8*bs.length) (Mem.gg bs) (λc v=>∃j,args[j]?=some c/\v=vals.getD j undef) W0.w μ F0) (Hh:∀i,i<kR bs->∃n,μ i=some (W0.bk i,0,n)) :
  At G W0 F0 (ku fn args bs) { tmps:=vals++Array.replicate (fn.ntmps - vals.size) Go.undef,defers:=[] } W0.w:=by
 refine⟨rfl,by simp[ku,hl],μ,F0,?_⟩;refine{ hI with dB:=?_ };rintro x v (⟨t,rfl,rfl⟩|⟨g,cs,hg,rfl,rfl⟩|⟨i,hi,rfl,rfl⟩)
 ·by_cases ht:t<args.length
  ·have e1:(ku fn args bs).tm.getD t .undef=args[t]:=by simp[ku,ah,aN ht,ht]
   have e2:(vals++Array.replicate (fn.ntmps - vals.size) Go.undef).getD t Go.undef=vals.getD t Go.undef:=by
    rw[aI,Array.getElem?_append_left (by omega),aI]
   rw[e1,e2];exact hI.dB _ _ ⟨t,aP ht,rfl⟩
  ·have e1:(ku fn args bs).tm.getD t .undef=.undef:=by
    simp only[ku,ah];rw[aQ (by omega),List.getElem?_replicate];split<;>rfl
   rw[e1];exact dI (dE (fk jo))
 ·exact dI (dE (eE ((jk g cs hg).mono hI.gl λb hb=>W0.sJ.block b hb)))
 ·rw[oH]at hi;obtain⟨n,hn⟩:=Hh i hi;have:=CD bs;refine⟨λ_=>rfl,?_,λtb cs uV=>⟨_,n,hn,rfl⟩⟩;show i<8*bs.length;omega
def kL(P:Program)[dH P](f:FuncId)(args bs:List AV)(y:AV)(os:List AV):Prop:=
 ∀(B:eC) (F:Nat->Prop) (vals:Array Value) (μ:Mu),dH.Q P B.root->vals.size=args.length->
  de B F (λi=>i<8*bs.length) (Mem.gg bs) (λc v=>∃j,args[j]?=some c/\v=vals.getD j undef) B.w μ F->(∀i,i<kR bs->∃n,μ i=some (B.bk i,0,n))->
  (callFunc f vals).run P B.w=.ok (.enter f vals) B.w/\Calls P f vals B.w λe w'=>match e with
   | .returned v=>∃F' eM,de B F (λi=>i<os.length) (Mem.gg os) (λc u=>c=y/\u=v) w' eM F'/\∀i,i<kR bs->∃n,eM i=some (B.bk i,0,n)
   | _=>False
theorem kL.cZ[dH P]{f:FuncId}{args bs:List AV}{y:AV}{os:List AV}(h:kL P f args bs y os):ux P f (args++[.dU bs]) (.dU [y,.dU os]):=
 λR0 hQ=>⟨λhl=>absurd hl (by simp[l_]),λU5 U3 y' W1 e1 e2=>by
  obtain⟨rfl,e3⟩:=List.append_inj' e1 rfl;cases e3;cases e2;intro B F vals μ hB h1 h2 h3;exact .inl (h B F vals μ (hB ▸ hQ) h1 h2 h3),λ_ _ _ _ _ _ _ _ _ e=>by cases e⟩
theorem JP[dH P](hG:dK P G)(jk:∀R0,dH.Q P R0->mE G R0){C:FuncId->List AV->(AV->Option R)->Option R}
  {cut : Nat → Option kK} {gM : List (Nat × Nat × Fl × Nat)} {f : FuncId} {fn : Func} {args bs : List AV} {y : AV} {os : List AV} {n : Nat} (oH : G.kb = kR bs) (hf : P.funcs[f]? = some fn) (gm : (fn.name == "runtime.NumGoroutine") = false) (gn : fn.body.isNone = false)
  (nh:∀(W0:eC) (F0:Nat->Prop),dH.Q P W0.root->∀AZ ops draw (S:St) (K:St->Option R) a w r,At G W0 F0 S a w->kX G C ops draw S K=some r->(Code.region AZ ops draw).wp P (λe a' w'=>e=.normal/\∃S',K S'=some r/\At G W0 F0 S' a' w') a w)
  {K:AV->Option R} {r:R} (hx:∀z,K z=some r->z=.dU [y,.dU os]) (hK:Ed G C cut gM fn n args bs K=some r):kL P f args bs y os:=by
 intro B F vals μ hQ hl hI Hh;have n1 : ¬ fn.name = "runtime.NumGoroutine" := by simpa using gm
 have n2:¬ fn.body=none:=by intro e;simp[e]at gn
 refine⟨by simp[callFunc,hf,n1,n2],?_⟩;unfold Ed at hK;split at hK
 ·rename_i c hc;intro cs;obtain⟨b,hb⟩:∃b:Frame,b={ (default:Frame)with fn:=f,kind:=.normal }:=⟨_,rfl⟩;have BF:Frame.enter P f vals .normal=b.at { tmps:=vals++Array.replicate (fn.ntmps - vals.size) Go.undef,defers:=[] } [.code c]:=by
   simp[Frame.enter,Frame.at,hf,hc,hb]
  have rq:=Dt (G:=G) (fn:=fn) (jk _ hQ) oH hl hI Hh;have ov:∀(S:St) (a:Act) (w' : World) (r:R),rv G gM fn.resultTypes.toList fn.results.toList S K=some r->At G B F S a w'->∃v,(results fn a.tmps).run P w'=.ok v w'/\
    (∃y os,K (.dU [y,.dU os])=some r/\∃F' eM,de B F (λi=>i<os.length) (Mem.gg os) (λc u=>c=y/\u=v) w' eM F'/\∀i,i<G.kb->∃n,eM i=some (B.bk i,0,n)):=by
   intro S a w' r hK hA;obtain⟨v,y,os,h1,h2,h3⟩:=JS hG hA hK;exact⟨v,h1,y,os,h2,h3⟩
  have:=C5 (P:=P) (G:=G) (C:=C) (b:=b) (cs:=cs) (fn:=fn) (T:=λr v w'=>∃y os,K (.dU [y,.dU os])=some r/\∃F' eM,de B F (λi=>i<os.length) (Mem.gg os) (λc u=>c=y/\u=v) w' eM F'/\∀i,i<G.kb->∃n,eM i=some (B.bk i,0,n)) (cut:=cut) (W0:=B) (F0:=F) (by rw[hb]) (by rw[hb];exact hf) ov (nh _ F hQ)
   (λtodo S a ww r keep hK ht h=>AW (P:=P) (G:=G) (C:=C) (b:=b) (cs:=cs) (fn:=fn) (T:=λr v w'=>∃y os,K (.dU [y,.dU os])=some r/\∃F' eM,de B F (λi=>i<os.length) (Mem.gg os) (λc u=>c=y/\u=v) w' eM F'/\∀i,i<G.kb->∃n,eM i=some (B.bk i,0,n)) (cut:=cut) (by rw[hb]) (by rw[hb];exact hf) ov (nh _ F hQ) pA n todo _ a ww r hK (pA keep S a ww ht h))
   1000 _ _ _ _ _ hK rq
  obtain⟨v,w',fr,⟨y',W1,hy,hT⟩,hs,E4,Ou⟩:=this;have e:=hx _ hy;cases e;rw[oH]at hT;rw[<-BF]at hs;exact⟨.returned v,w',fr,hT,hs,by rw[E4,hb],Ou⟩
 ·cases hK
theorem vT[dH P](hG:dK P G)(ru:P.follows .mixedOrders=true)(jk:∀R0,dH.Q P R0->mE G R0){C:FuncId->List AV->(AV->Option R)->Option R}(hC:lO P C)
  {cut : Nat → Option kK} {gM : List (Nat × Nat × Fl × Nat)} {f : FuncId} {fn : Func} {args bs : List AV} {y : AV} {os : List AV} {n : Nat} (oH : G.kb = kR bs) (hf : P.funcs[f]? = some fn) (gm : (fn.name == "runtime.NumGoroutine") = false) (gn : fn.body.isNone = false)
  {K:AV->Option R} {r:R} (hx:∀z,K z=some r->z=.dU [y,.dU os]) (hK:Ed G C cut gM fn n args bs K=some r):kL P f args bs y os:=
 JP hG jk oH hf gm gn (λW0 F0 hQ AZ ops draw S K a w r h hK=>sN hG ru (hC.at (R0:=W0.root) hQ) hC.natural h hK) hx hK
theorem Ec{C:FuncId->List AV->(AV->Option R)->Option R}{cut:Nat->Option kK}{gM:List (Nat × Nat × Fl × Nat)}{fn:Func}{n:Nat}{args bs:List AV}{K:AV->Option R}(h:fn.body.isNone=false) :
  Ed G C cut gM fn n args bs K=qZ G C cut (λS=>rv G gM fn.resultTypes.toList fn.results.toList S K) (runK G C cut (λS=>rv G gM fn.resultTypes.toList fn.results.toList S K) n) 1000 [.code (fn.body.getD .skip)] (ku fn args bs):=by
 unfold Ed;cases hb:fn.body with
 | none=>rw[hb]at h;cases h
 | some c=>rfl
theorem Dr[dH P]{g c:FuncId}{fw:List AV}{b:Bool}{x y:(AV->Option R)->Option R}(h1:dL P c fw x)(h2:dL P g fw y):dL P g fw (bif Nat.beq g c&&b then x else y):=by
 cases h:Nat.beq g c&&b with
 | true=>
  rw[ae]at h;cases aj h.1;exact h1
 | false=>exact h2
end
end Go.Proofs.Ev
namespace Go.Proofs.Ev
open Go Go.Proofs Go.RowKit
theorem vW(l:List ByteArray):df (l.map λs=>vs s)=l.map λs=>vs s:=gA (λc hc=>by simp at hc;obtain⟨_,_,rfl⟩:=hc;rfl)
theorem FN{w:World}{F:Nat->Prop}{fl:Fl}{e:TypeId}{k:Nat}{l:List ByteArray}(ht:fl.te=e)(hF:∀b,F b->b<w.heap.size)(hl:l.length=k)(hk:k<=eR) :
  ∃F' β,Came w (w.alloc (.cells (l.map Value.string).toArray e)) F F' β/\AB (w.alloc (.cells (l.map Value.string).toArray e)) F' β (.fr fl 1 (l.map λs=>vs s)) (.slice (some ⟨w.heap.size,0,none⟩) k k):=by
 subst hl;have rU : l.length<=1000000000:=by simpa[eR]using hk
 refine yD (size:=1) (news:=l.map Value.string) ht hF ⟨by simp,.inr ⟨w.heap.size,l.length,(l.map Value.string).toArray,by simp,aJ _,iM w _,by simp,by unfold maxLen;omega,by simp,by simp[b_]⟩⟩ (jL w _) ?_ ?_ ?_
 ·intro x hx;simp at hx;obtain⟨_,_,rfl⟩:=hx;rfl
 ·intro x hx;rw[vW]at hx;simp at hx;obtain⟨_,_,rfl⟩:=hx;exact⟨rfl,λ_=>rfl⟩
 ·intro j c hj;rw[vW,aL,aA]at hj;obtain⟨s,hs,rfl⟩:=hj;have:(l.map Value.string).getD j undef=.string s:=by rw[ah,aL,hs];rfl
  rw[this];exact .v _ rfl
def kI(P:Program)(ns:List String)(w:World):Prop:=w.ShapedOpen P/\∀n,ns.contains n=true->∃tp p,w.var? P n=some #[.iface tp p]
theorem sk{P:Program}{w w' : World}{n:String}{cs:Array Value}(hB:Below w.heap.size w w')(h:w.var? P n=some cs):w'.var? P n=some cs:=by
 unfold World.var? at h ⊢;cases hg:P.globalNamed n with
 | none=>simp[hg]at h
 | some g=>
  simp only[hg,ab]at h ⊢;have eG:g<w.heap.size:=by
   rcases Nat.lt_or_ge g w.heap.size with h'|h'
   ·exact h'
   ·simp[Array.getElem?_eq_none h']at h
  rw[hB.block g eG];exact h
abbrev NC(P:Program)(ns:List String):dH P:=
 ⟨kI P ns,λ_ h=>h.1,λw w' h hB=>⟨Below.shaped h.1 hB,λn hn=>by obtain⟨tp,p,e⟩:=h.2 n hn;exact⟨tp,p,sk hB e⟩⟩⟩
theorem kI.at{P:Program}{ns:List String}{w:World}(h:kI P ns w){n:String}(hn:ns.contains n=true):∃tp p,w.var? P n=some #[.iface tp p]:=h.2 n hn
end Go.Proofs.Ev
namespace Go.Proofs.Ev
open Go Go.Proofs Go.RowKit Go.Shelf
def jm(l:List UInt8):Int × Bool:=match Lib.atoiAll l with
 | .ok v=>(v,false)
 | .range=>(Lib.atoiSat l,true)
 | _=>(0,true)
theorem BZ{P:Program}{ρ:Ren}(L:LaysC.n172 P ρ){w:World}{F:Nat->Prop}(hF:∀b,F b->b<w.heap.size)(s:ByteArray)(hs:s.size<=281474976710656)
  (h1 : ∃ tp p, w.var? P "strconv.ErrSyntax" = some #[.iface tp p]) (h2 : ∃ tp p, w.var? P "strconv.ErrRange" = some #[.iface tp p]) :
  Calls P (ρ.f 172) #[.string s] w λe w'=>match e with
   | .returned v=>∃F' β,Came w w' F F' β/\AB w' F' β (.dU [.v (.int .i64 (jm s.data.toList).1),.err (jm s.data.toList).2]) v
   | _=>False:=by
 obtain⟨t1,p1,h1⟩:=h1;obtain⟨t2,p2,h2⟩:=h2;unfold jm;rcases hx:Lib.atoiAll s.data.toList with v|- | -
 ·refine(Any.strconv_Atoi_ok L s (by omega) v hx w).mono ?_;rintro e w' ⟨rfl,hw⟩;have hB:Below w.heap.size w w':=by
   rcases hw with rfl|⟨t,rfl⟩
   ·exact Below.refl _ _
   ·exact Lib.bytesWorld_below _ _ _
  exact⟨F,λ_=>none,Came.jF hF hB,#[_,_],rfl,rfl,.v _ rfl,.oB,trivial⟩
 ·refine(Any.strconv_Atoi_syntax_var L s hs hx t1 p1 w h1).mono ?_;rintro e w' ⟨N,rfl,_,_,hB⟩;exact⟨F,λ_=>none,Came.jF hF hB,#[_,_],rfl,rfl,.v _ rfl,.nR _ _,trivial⟩
 ·refine(Any.strconv_Atoi_range_var L s hs hx t2 p2 w h2).mono ?_;rintro e w' ⟨N,rfl,_,_,hB⟩;exact⟨F,λ_=>none,Came.jF hF hB,#[_,_],rfl,rfl,.v _ rfl,.nR _ _,trivial⟩
end Go.Proofs.Ev
namespace Go.Proofs.Ev
open Go Go.Proofs Go.RowKit
section
variable {H:Type} {enc:TypeId × Value->H}
theorem rh{a:Assume}{C:Checked}{os:Os}{f:FuncId}{fn:Func}{s:ChangeSpec}{conds:List PathCond}{apart fresh handsOn again:Bool}{X:World->Array Value->Prop}
  (hX:∀(w w' : World) (args:Array Value),w.heap=w'.heap->X w args->X w' args)
  (own:ownKnob C.prog.godebug=none) (started:os.Started) (LK:C.prog.inits.idxOf? f=none) (E4:C.prog.funcs[f]?=some fn)
  (witness:∃(w:World) (tape:Tape) (i:Input),w.os=os/\(w.forCall tape i).Shaped C.prog/\i.vars=[]/\Input.okWide C.prog (w.forCall tape i) .any w.heap.size f i/\
   ((s.pre enc C.prog fn conds apart (w.forCall tape i).memory i.args/\X (w.forCall tape i).memory i.args)/\sizedMet enc C.prog fn (OpenSpec.ofChange s) apart (w.forCall tape i).memory i.args)/\a.holds C.prog (lone (Frame.enter C.prog f i.args .normal) [] (w.forCall tape i)))
  (HO:∀(W:World) (base:Nat) (args:Array Value) (ds gs:List (DataW H)) (before:List MemPlace),
   (∀(j:Nat) t v,fn.params[j]?=some t->args[j]?=some v->Value.okWide C.prog W .any base t v)->
   DataW.Whole enc C.prog fn.params.toList s.vars apart W args.toList ds gs before->W.ShapedOpen C.prog->X W args->
   Calls C.prog f args W λe W'=>∃v,e=.returned v/\s.post enc C.prog fn apart fresh handsOn again W args v W') :
  ReturnsInHanded a C os f .any (λw args=>(s.pre enc C.prog fn conds apart w args/\X w args)/\sizedMet enc C.prog fn (OpenSpec.ofChange s) apart w args) (s.post enc C.prog fn apart fresh handsOn again):=by
 refine returnsInHanded_of_calls own started LK witness ?_;intro w tape i _ RU _ gJ iI Sg;obtain⟨_,_,_,YV,Sn,_,_,_,_,mI⟩:=gJ;have e:YV=fn:=cD (Sn.symm.trans E4);subst e;obtain⟨⟨⟨ds,gs,before,hw,hc⟩,hx⟩,hz⟩:=iI;have N6:=DataW.Whole.of_heap (w':=w.forCall tape i) (by rfl) hw;refine(HO (w.forCall tape i) w.heap.size i.args ds gs before mI N6 RU (hX _ _ _ (by rfl) hx)).mono λe W' ⟨v,he,hp⟩=>?_;subst he;exact ChangeSpec.post_blind hp
end
theorem fB{P:Program}{x:String × DataW Unit}{r:List (String × DataW Unit)}{w:World}(h:laidMet P (x::r) w):laidMet P r w:=by
 obtain⟨ps,hv,Ay,Of⟩:=h;obtain⟨n,d⟩:=x;obtain⟨g,t,cs,fuel,p,q,_,_,_,_,hq,rfl⟩:=hv;exact⟨q,hq,List.Nodup.sublist (List.sublist_append_right _ _) Ay,λb off hm=>Of b off (List.mem_append_right _ hm)⟩
def RH:Option TypeDesc->Bool
 | some (.interface _)=>true
 | _=>false
def CY(P:Program)(n:String):Bool:=match P.globalNamed n with
 | some g=>(match P.globals[g]? with | some x=>RH (P.underlying x.type) | none=>false)
 | none=>false
theorem oV{P:Program}{n nm:String}{d:DataW Unit}{r:List (String × DataW Unit)}{W:World}(h:laidMet P ((n,.iface nm d)::r) W)(hc:CY P n=true):∃tp p,W.var? P n=some #[.iface tp p]:=by
 obtain⟨ps,⟨g0,t0,Mv,f0,p0,q0,M6,Iu,CV,E5,_,e0⟩,_,_⟩:=h;unfold CY at hc;rw[M6]at hc;simp only at hc;cases hx:P.globals[g0]? with
 | none=>rw[hx]at hc;cases hc
 | some x=>
  rw[hx]at hc Iu;simp only[cz,aY]at Iu;subst Iu;simp only at hc;cases hu:P.underlying x.type with
  | none=>rw[hu]at hc;cases hc
  | some td=>
   rw[hu]at hc;cases td<;>(try (cases hc;done));obtain⟨f1,u,v,e,_,_⟩:=iface_of_trod hu E5;exact⟨u,v,by rw[CV];congr 1;apply Array.ext';simpa using e⟩
theorem kI.nil{P:Program}{w:World}(h:w.ShapedOpen P):kI P [] w:=⟨h,λn hn=>by cases hn⟩
theorem kI.cons{P:Program}{w:World}{ns:List String}{n:String}(h:kI P ns w)(hn:∃tp p,w.var? P n=some #[.iface tp p]):kI P (n::ns) w:=by
 refine⟨h.1,λm hm=>?_⟩;rw[ck,bB]at hm;rcases hm with hm|hm
 ·rw[eq_of_beq hm];exact hn
 ·exact h.2 m hm
end Go.Proofs.Ev
namespace Go.Proofs.Ev
open Go Go.RowKit
def wb(fn : Func) : Bool := !(fn.name == "runtime.NumGoroutine") && !fn.body.isNone
def To(P:Program)(f:FuncId):Option Func:=P.funcs[f]?
def lU:List AV->Option (List AV × List AV)
 | []=>none
 | [.dU bs]=>some ([],bs)
 | x::r=>match lU r with | some (us,bs)=>some (x::us,bs) | none=>none
theorem qE:∀{xs us bs:List AV},lU xs=some (us,bs)->xs=us++[.dU bs]
 | [],_,_,h=>by cases h
 | [x],us,bs,h=>by
  cases x<;>first|(simp[lU]at h;obtain⟨rfl,rfl⟩:=h;rfl)|(simp[lU]at h)
 | x::y::r,us,bs,h=>by
  have h' : (match lU (y::r)with | some (us,bs)=>some (x::us,bs) | none=>none)=some (us,bs):=by
   cases x<;>exact h
  split at h'
  ·rename_i Y9 U3 e;cases h';rw[qE e];rfl
  ·cases h'
theorem qF:∀{xs:List AV},lU xs=none->jA xs=false
 | [],_=>rfl
 | [x],h=>by cases x<;>first|rfl|(simp[lU]at h)
 | x::y::r,h=>by
  have h' : (match lU (y::r)with | some (us,bs)=>some (x::us,bs) | none=>none)=none:=by
   cases x<;>exact h
  split at h'
  ·cases h'
  ·rename_i e;have:=qF e;unfold jA at this ⊢;rw[List.getLast?_cons_cons];exact this
def A7:AV->Option (AV × List AV)
 | .dU [y,.dU os]=>some (y,os)
 | _=>none
def oo(P:Program)(G:eH)(own:FuncId->Bool)(C0:FuncId->List AV->(AV->Option AV)->Option AV)(cut:FuncId->Nat->Option kK)(n:Nat):Nat->FuncId->List AV->Option AV
 | 0,_,_=>none
 | d+1,f,xs=>
  bif own f then C0 f xs Option.some else
  match To P f with
  | .some fn=>bif wb fn then
    match lU xs with
    | .none=>Ef G (λg ys K=>(oo P G own C0 cut n d g ys).bind K) (cut f) fn n xs Option.some
    | .some (us,bs)=>(Ed { G with kb:=kR bs } (λg ys K=>(oo P G own C0 cut n d g ys).bind K) (cut f) [] fn n us bs A7).map λp=>.dU [p.1,.dU p.2]
   else none
  | .none=>none
section
variable {P:Program} [dH P] {G:eH} {own:FuncId->Bool} {C0:FuncId->List AV->(AV->Option AV)->Option AV} {cut:FuncId->Nat->Option kK} {n:Nat}
theorem xm(hG:dK P G)(ru:P.follows .mixedOrders=true)(jk:∀R0,dH.Q P R0->mE G R0)(oH:G.kb=0)(h0:lO P C0)(d:Nat) :
  ∀f xs x,oo P G own C0 cut n d f xs=some x->ux P f xs x:=by
 induction d with
 | zero=>intro f xs x h;cases h
 | succ d ih=>
  have hC:∀{R:Type},lO (R:=R) P (λg ys K=>(oo P G own C0 cut n d g ys).bind K):=λg ys=>⟨oo P G own C0 cut n d g ys,λ_=>rfl,λx hx=>ih g ys x hx⟩;intro f xs x h;unfold oo at h;cases ho:own f with
  | true=>
   rw[ho,ak]at h;obtain⟨y,h1,h2⟩:=h0.ok f xs _ _ h;cases h1;exact h2
  | false=>
   rw[ho,cond_false]at h;split at h
   ·rename_i fn hf;obtain ⟨he, h1⟩ := cV h;unfold wb at he;rw [ae] at he;have gm : (fn.name == "runtime.NumGoroutine") = false := by simpa using he.1
    have gn:fn.body.isNone=false:=by simpa using he.2
    split at h1
    ·rename_i ht;exact(zE hG ru jk oH hC (cut:=cut f) (n:=n) hf gm gn (K:=Option.some) (r:=x) (λy hy=>by cases hy;rfl) h1).cZ (qF ht)
    ·rename_i us bs ht;rw[aA]at h1;obtain⟨⟨y,os⟩,h2,rfl⟩:=h1;have hp:∀z,A7 z=some (y,os)->z=.dU [y,.dU os]:=by
      intro z hz;unfold A7 at hz;split at hz
      ·cases hz;rfl
      ·cases hz
     rw[qE ht];exact(vT (G:={ G with kb:=kR bs }) (hG.kb _) ru jk hC rfl (cut:=cut f) (gM:=[]) (n:=n) hf gm gn hp h2).cZ
   ·cases h
end
end Go.Proofs.Ev
namespace Go.Proofs.Ev
open Go Go.Proofs Go.RowKit Go.Sort
abbrev Tb:=String × IntKind × List Int
def rz(P:Program)(ts:List Tb)(w:World):Prop:=∀x∈ts,Lib.TabIs P w x.1 x.2.1 x.2.2
theorem rz.below{P:Program}{ts:List Tb}{w w' : World}(h:rz P ts w)(hB:Below w.heap.size w w'):rz P ts w':=λx hx=>sk hB (h x hx)
theorem rz.nil{P:Program}{w:World}:rz P [] w:=λ_ h=>by cases h
theorem rz.cons{P:Program}{ts:List Tb}{w:World}{n:String}{k:IntKind}{zs:List Int}(h:Lib.TabIs P w n k zs)(ht:rz P ts w):rz P ((n,k,zs)::ts) w:=by
 intro x hx;rcases br.1 hx with rfl|hx
 ·exact h
 ·exact ht x hx
theorem BX(w:World)(k:Nat)(os:Array Obj):Below w.heap.size w (grow (w.drewN k) os):=by
 refine⟨rfl,rfl,rfl,?_,λb hb=>?_⟩
 ·simp[grow]
 ·simp only[grow,World.heap_drewN];rw[Array.getElem?_append_left hb]
theorem one_byte{t:ByteArray}(h:t.data.toList.length=1):t=⟨#[t.data.toList.headD 0]⟩:=by
 obtain⟨⟨l⟩⟩:=t
 match l,h with
 | [b],_=>rfl
section
variable {H:Type}
def wh(S:TypeId->DataW H->Option (List AV)):List (DataW H)->List (TypeId × Nat)->Option (List AV)
 | [],[]=>some []
 | d::ds,f::r=>match S f.1 d,wh S ds r with | .some p,.some q=>some (p++q) | _,_=>none
 | _,_=>none
def Ab(S:DataW H->Option (List AV))(agg:Bool):List (DataW H)->Option (List AV)
 | []=>some []
 | d::ds=>match S d,Ab S agg ds with | .some ys,.some xs=>some ((bif agg then .agg ys else ys.headD .undef)::xs) | _,_=>none
def wi(G:eH):Nat->TypeId->DataW H->Option (List AV)
 | 0,_,_=>none
 | n+1,t,d=>match G.fP t with
  | .some ti=>match ti.kd with
   | .int k=>match d with | .lit (.int k' i)=>bif decide (k'=k)then some [.v (.int k i)]else none | _=>none
   | .string=>match d with | .lit (.string l)=>some [.v (.string ⟨⟨l⟩⟩)] | _=>none
   | .bool=>match d with | .lit (.bool b)=>some [vb b] | _=>none
   | .slice e=>match G.fP e with
    | .some ei=>(match d with
     | .slice ds _=>(Ab (wi G n e) ei.isAgg ds).map λxs=>[.sl ei.flat ei.size xs]
     | _=>none)
    | .none=>none
   | .struct fs=>match d with | .agg ds=>wh (wi G n) ds fs | _=>none
   | .arr m e=>match G.fP e with
    | .some ei=>(match d with | .agg ds=>wh (wi G n) ds (AY e ei.size m) | _=>none)
    | .none=>none
   | _=>none
  | .none=>none
theorem oD{S:TypeId->DataW H->Option (List AV)}{T:TypeId->DataW H->List AV->Prop}(h:∀t d p p',T t d p->S t d=some p'->p=p'):∀(ds:List (DataW H)) (fs:List (TypeId × Nat)) (cs jh : List AV),
  An T ds fs cs->wh S ds fs=some jh->cs=jh
 | [],[],cs,jh,h1,h2=>by cases h2;exact h1
 | d::ds,f::fs,cs,jh,h1,h2=>by
  obtain⟨p,q,rfl,h3,h4⟩:=h1;unfold wh at h2;cases e1:S f.1 d with
  | none=>rw[e1]at h2;cases h2
  | some p'=>
   cases e2:wh S ds fs with
   | none=>rw[e1,e2]at h2;cases h2
   | some q'=>
    rw[e1,e2]at h2;cases h2;rw[h _ _ _ _ h3 e1,oD h ds fs q q' h4 e2]
 | [],_::_,_,_,h1,_=>h1.elim
 | _::_,[],_,_,h1,_=>h1.elim
theorem t_{S:DataW H->Option (List AV)}{T:DataW H->List AV->Prop}{agg:Bool}(h:∀d p p',T d p->S d=some p'->p=p'):∀(ds:List (DataW H)) (xs mO : List AV),xs.length=ds.length->
  (∀(i:Nat) dd,ds[i]?=some dd->∃ys,xs.getD i .undef=(bif agg then .agg ys else ys.headD .undef)/\T dd ys)->Ab S agg ds=some mO->xs=mO
 | [],xs,mO,hl,_,h2=>by cases h2;exact List.eq_nil_of_length_eq_zero hl
 | d::ds,[],mO,hl,_,_=>by simp at hl
 | d::ds,x::xs,mO,hl,h1,h2=>by
  unfold Ab at h2;cases e1:S d with
  | none=>rw[e1]at h2;cases h2
  | some p'=>
   cases e2:Ab S agg ds with
   | none=>rw[e1,e2]at h2;cases h2
   | some q'=>
    rw[e1,e2]at h2;cases h2;obtain⟨ys,L2,RJ⟩:=h1 0 d rfl;have hx:x=bif agg then .agg ys else ys.headD .undef:=L2;rw[hx,h _ _ _ RJ e1,t_ h ds xs q' (by simpa using hl) (λi dd hd=>by obtain⟨zs,z1,z2⟩:=h1 (i+1) dd (by simpa using hd);exact⟨zs,by simpa using z1,z2⟩) e2]
theorem nH{G:eH}:∀(n:Nat) (t:TypeId) (d:DataW H) (cs jh : List AV),nS G n t d cs->wi G n t d=some jh->cs=jh
 | 0,_,_,_,_,h,_=>h.elim
 | n+1,t,d,cs,jh,h,h2=>by
  simp only[nS]at h;simp only[wi]at h2;cases ht:G.fP t with
  | none=>rw[ht]at h;exact h.elim
  | some ti=>
   rw[ht]at h h2;simp only at h h2;cases hk:ti.kd<;>rw[hk]at h h2<;>simp only at h h2
   case int k=>
    obtain⟨i,rfl,rfl⟩:=h;simp only[decide_true,ak]at h2;cases h2;rfl
   case string=>
    obtain⟨s,rfl,rfl⟩:=h;cases h2;rfl
   case bool=>
    obtain⟨b,rfl,rfl⟩:=h;cases h2;rfl
   case slice e=>
    cases he:G.fP e with
    | none=>rw[he]at h;exact h.elim
    | some ei=>
     rw[he]at h h2;simp only at h h2;rcases h with⟨rfl,_⟩|⟨ds,rest,xs,rfl,rfl,hl,hx⟩
     ·cases h2
     ·simp only[aA]at h2;obtain⟨mO,h3,rfl⟩:=h2;rw[t_ (λd p p' h1 h2=>nH n e d p p' h1 h2) ds xs mO hl hx h3]
   case struct fs=>
    obtain⟨ds,rfl,h1⟩:=h;exact oD (λt d p p' h1 h2=>nH n t d p p' h1 h2) ds fs cs jh h1 h2
   case arr m e=>
    cases he:G.fP e with
    | none=>rw[he]at h;exact h.elim
    | some ei=>
     rw[he]at h h2;simp only at h h2;obtain⟨ds,rfl,h1⟩:=h;exact oD (λt d p p' h1 h2=>nH n t d p p' h1 h2) ds _ cs jh h1 h2
   all_goals exact h.elim
end
theorem mf{P:Program}{G:eH}(hG:dK P G){n:String}{d:DataW Unit}{r:List (String × DataW Unit)}{W:World}(h:laidMet P ((n,d)::r) W){g:Nat}(hg:P.globalNamed n=some g){t:TypeId}(ht:(P.globals[g]?).map (·.type)=some t)
  {k:Nat} (uD:lM G k false t=true) {cs:List AV} (hd:wi G k t d=some cs):Rel W (λb=>b<W.heap.size) (.rd cs) (.pointer (some ⟨g,0,none⟩)):=by
 obtain⟨ps,⟨g0,t0,Mv,f0,p0,q0,M6,Iu,CV,E5,_,e0⟩,_,_⟩:=h;rw[hg]at M6;cases M6;rw[ht]at Iu;cases Iu;obtain⟨ug,h1,h2,_,h4⟩:=opens hG k false t uD f0 Mv.toList _ E5;have e:=nH k t d ug cs h4 hd;subst e;unfold World.var? at CV;rw[hg,ab]at CV;have eG:g<W.heap.size:=by
  rcases Nat.lt_or_ge g W.heap.size with h'|h'
  ·exact h'
  ·simp[Array.getElem?_eq_none h']at CV
 refine .rd ug ⟨g,0,none⟩ (λj=>Mv.toList.getD j undef) eG (λj hj=>?_) (λj c hj=>h2 j c hj);have kZ : j<Mv.size:=by rw[h1]at hj;simpa using hj
 cases hb:W.heap[g]? with
 | none=>rw[hb]at CV;cases CV
 | some o=>
  rw[hb]at CV;cases o<;>simp at CV;subst CV;have e:(⟨g,0,none⟩:Addr).add j=⟨g,j,none⟩:=by unfold Addr.add;split<;>simp_all
  rw[e];simp[World.cell?,hb,ah,kZ]
def zG:List (Nat × List AV)->Nat->Option (List AV)
 | [],_=>none
 | (k,cs)::r,g=>bif Nat.beq g k then some cs else zG r g
def ik(l:List (Nat × List AV))(W:World):Prop:=∀x∈l,Rel W (λb=>b<W.heap.size) (.rd x.2) (.pointer (some ⟨x.1,0,none⟩))
theorem ik.nil{W:World}:ik [] W:=λ_ h=>by cases h
theorem ik.cons{W:World}{l:List (Nat × List AV)}{k:Nat}{cs:List AV}(h:Rel W (λb=>b<W.heap.size) (.rd cs) (.pointer (some ⟨k,0,none⟩)))(hl:ik l W):ik ((k,cs)::l) W:=by
 intro x hx;rcases br.1 hx with rfl|hx
 ·exact h
 ·exact hl x hx
theorem vU:∀(l:List (Nat × List AV)) (g:Nat) (cs:List AV),zG l g=some cs->(g,cs)∈l
 | [],_,_,h=>by cases h
 | (k,ds)::r,g,cs,h=>by
  unfold zG at h;cases hb:Nat.beq g k with
  | true=>rw[hb]at h;cases h;rw[aj hb];exact bU ..
  | false=>rw[hb]at h;exact bM _ (vU r g cs h)
theorem ik.C6{W:World}{l:List (Nat × List AV)}{G:eH}(h:ik l W)(hG:G.Eb=zG l):mE G W:=by
 intro g cs hg;rw[hG]at hg;exact h _ (vU l g cs hg)
theorem ik.below{W W' : World}{l:List (Nat × List AV)}(h:ik l W)(hB:Below W.heap.size W W'):ik l W':=λx hx=>
 (h x hx).mono (λb hb=>bA hb hB.size) λb hb=>hB.block b hb
abbrev O7(P:Program)(ns:List String)(ts:List Tb)(l:List (Nat × List AV)):dH P:=
 ⟨λw=>kI P ns w/\rz P ts w/\ik l w,λ_ h=>h.1.1,λw w' h hB=>⟨(NC P ns).below w w' h.1 hB,h.2.1.below hB,h.2.2.below hB⟩⟩
end Go.Proofs.Ev
namespace Go.Proofs.Ev
open Go Go.Proofs Go.RowKit
def PO:Nat->Nat->List (Nat × AV)->List AV
 | 0,_,_=>[]
 | n+1,i,[]=>.undef::PO n (i+1) []
 | n+1,i,(k,v)::r=>bif Nat.beq i k then v::PO n (i+1) r else .undef::PO n (i+1) ((k,v)::r)
def eg{Z T:Type}(r:(Z->Option T)->Z->Option T):Nat->Z->Option T
 | 0,_=>none
 | m+1,z=>r (eg r m) z
def HK{A Z T:Type}(e:(A->Option T)->(Z->Option T)->A->Option T)(r:(A->Option T)->(Z->Option T)->Z->Option T)(n:Nat):Nat->A->Option T
 | 0,_=>none
 | d+1,a=>e (HK e r n d) (eg (r (HK e r n d)) n) a
def Dm{R A T:Type}(F:A->Option T)(o:List AV->Option A)(enc:T->AV)(xs:List AV):(AV->Option R)->Option R:=
 match o xs with
 | some a=>λK=>(F a).bind λp=>K (enc p)
 | none=>λ_=>none
section
variable {R:Type} {P:Program} [dH P] {G:eH} {A T Z:Type} {C:FuncId->List AV->(AV->Option T)->Option T} {cut:Nat->Option kK} {fin:St->Option T} {t:Z->List Item} {s:Z->St} {f:FuncId} {fn:Func}
theorem yA{r:(Z->Option T)->Z->Option T}(hr:∀rec z,B1 G C cut fin rec (t z) (s z)=r (λz=>rec (t z) (s z)) z)(m:Nat):(λz=>runK G C cut fin m (t z) (s z))=eg r m:=by
 induction m with
 | zero=>funext z;rfl
 | succ m ih=>
  funext z;show runK G C cut fin (m+1) (t z) (s z)=_;rw[Dy,hr,ih];rfl
theorem yM(hG:dK P G)(ru:P.follows .mixedOrders=true)(jk:∀R0,dH.Q P R0->mE G R0)(oH:G.kb=0){nd:A->List AV}{enc:T->AV}{dec:AV->Option T}(qk:∀y p,dec y=some p->y=enc p)
  (hC : lO (R := T) P C) (hf : P.funcs[f]? = some fn) (gm : (fn.name == "runtime.NumGoroutine") = false) (gn : fn.body.isNone = false) {e : (Z → Option T) → A → Option T} {r : (Z → Option T) → Z → Option T} {n : Nat}
  (he:∀rec a,qZ G C cut (λS=>lK G fn.resultTypes.toList fn.results.toList S dec) rec 1000 [.code (fn.body.getD .skip)] (start fn (nd a))=e (λz=>rec (t z) (s z)) a)
  (hr:∀rec z,B1 G C cut (λS=>lK G fn.resultTypes.toList fn.results.toList S dec) rec (t z) (s z)=r (λz=>rec (t z) (s z)) z) (a:A) (p:T) (h:e (eg r n) a=some p):fD P f (nd a) (enc p):=by
 refine zE hG ru jk oH hC hf gm gn (cut:=cut) (K:=dec) (r:=p) (n:=n) (λy hy=>qk y p hy) ?_;rw[Ee gn,he,yA hr];exact h
theorem vz(hG:dK P G)(ru:P.follows .mixedOrders=true)(jk:∀R0,dH.Q P R0->mE G R0){nd bl:A->List AV}{y:T->AV}{os:T->List AV}{dec:AV->Option T}(qk:∀x p,dec x=some p->x=.dU [y p,.dU (os p)]){gM:List (Nat × Nat × Fl × Nat)}
  (oH : ∀ a, G.kb = kR (bl a)) (hC : lO (R := T) P C) (hf : P.funcs[f]? = some fn) (gm : (fn.name == "runtime.NumGoroutine") = false) (gn : fn.body.isNone = false) {e : (Z → Option T) → A → Option T} {r : (Z → Option T) → Z → Option T} {n : Nat}
  (he:∀rec a,qZ G C cut (λS=>rv G gM fn.resultTypes.toList fn.results.toList S dec) rec 1000 [.code (fn.body.getD .skip)] (ku fn (nd a) (bl a))=e (λz=>rec (t z) (s z)) a)
  (hr:∀rec z,B1 G C cut (λS=>rv G gM fn.resultTypes.toList fn.results.toList S dec) rec (t z) (s z)=r (λz=>rec (t z) (s z)) z) (a:A) (p:T) (h:e (eg r n) a=some p):kL P f (nd a) (bl a) (y p) (os p):=by
 refine vT hG ru jk hC (oH a) hf gm gn (cut:=cut) (gM:=gM) (K:=dec) (r:=p) (n:=n) (λx hx=>qk x p hx) ?_;rw[Ec gn,he,yA hr];exact h
theorem Dq{F:A->Option T}{o:List AV->Option A}{nd:A->List AV}{enc:T->AV}(ho:∀xs a,o xs=some a->xs=nd a)(hl:∀a,jA (nd a)=false)(h:∀a p,F a=some p->fD P f (nd a) (enc p))(xs:List AV):dL (R:=R) P f xs (Dm F o enc xs):=by
 unfold Dm;split
 ·rename_i a ha;rw[ho xs a ha];exact dL.of (λp hp=>(h a p hp).cZ (hl a))
 ·exact dL.none
theorem AO{F:A->Option T}{o:List AV->Option A}{nd bl:A->List AV}{y:T->AV}{os:T->List AV}{enc:T->AV}(Sv:∀p,enc p=.dU [y p,.dU (os p)])(ho:∀xs a,o xs=some a->xs=nd a++[.dU (bl a)])(h:∀a p,F a=some p->kL P f (nd a) (bl a) (y p) (os p))(xs:List AV) :
  dL (R:=R) P f xs (Dm F o enc xs):=by
 unfold Dm;split
 ·rename_i a ha;rw[ho xs a ha];exact dL.of (λp hp=>by rw[Sv];exact(h a p hp).cZ)
 ·exact dL.none
end
def oU:List AV->Option (List ByteArray)
 | []=>some []
 | .v (.string s)::r=>(oU r).map (s::·)
 | _::_=>none
theorem sE:∀{xs:List AV} {ss:List ByteArray},oU xs=some ss->xs=ss.map λs=>vs s
 | [],ss,h=>by cases h;rfl
 | x::r,ss,h=>by
  unfold oU at h;split at h
  ·rename_i h0;cases h0
  ·rename_i s r' h0;cases h0;rw[aA]at h;obtain⟨q,hq,rfl⟩:=h;rw[sE hq];rfl
  ·cases h
theorem vm:∀ss:List ByteArray,oU (ss.map λs=>vs s)=some ss
 | []=>rfl
 | s::r=>by
  show(oU (r.map λs=>vs s)).map (s::·)=_;rw[vm r];rfl
def tB(l:List AV)(t:ByteArray):Bool:=match oU l with
 | some ss=>decide (ss.length<=140737488355328)&&decide ((Lib.join (ss.map (·.data.toList)) t.data.toList).length<=140737488355328)
 | none=>false
def CL(l:List AV)(t:ByteArray):ByteArray:=match oU l with
 | some ss=>⟨(Lib.join (ss.map (·.data.toList)) t.data.toList).toArray⟩
 | none=>⟨#[]⟩
theorem GI{w:World}{F:Nat->Prop}{te:TypeId}{ss:List ByteArray}{u:Value}(hr:Rel w F (.sl ⟨true,te,true⟩ 1 (ss.map λs=>vs s)) u) :
  (ss=[]/\∃a c,u=.slice a 0 c)\/∃bk o c,u=.slice (some ⟨bk,o,none⟩) ss.length c/\ss.length<=c/\F bk/\∀(j:Nat) x,ss[j]?=some x->w.cell? ⟨bk,o+j,none⟩=some (.string x):=by
 generalize hx:(ss.map λs=>vs s)=xs at hr;cases hr with
 | uL=>
  have:ss=[]:=by simpa using hx
  exact .inl ⟨this,none,0,rfl⟩
 | sl _ _ _ ad cap f hF Mf hs hf jl lh M0=>
  have hl:xs.length=ss.length:=by rw[<-hx];simp
  by_cases h0:ss=[]
  ·subst h0;have:xs=[]:=hx.symm;subst this;exact .inl ⟨rfl,some ad,cap,rfl⟩
  ·have fN:xs≠[]:=by rw[<-hx];simpa using h0
   have lq:df xs=xs:=gA (λc hc=>by rw[<-hx]at hc;simp at hc;obtain⟨_,_,rfl⟩:=hc;rfl);obtain⟨bk,o,sp⟩:=ad;have RS : sp=none:=M0 rfl fN;subst RS;refine .inr ⟨bk,o,cap,by rw[hl],by omega,hF fN,λj x hj=>?_⟩;have eG:j<ss.length:=(aB.1 hj).1;have h1:=jl j (by rw[lq];omega);have h2:Rel w F (vs x) (f j):=lh j _ (by rw[lq,<-hx,aL,hj];rfl);have h3:f j=.string x:=(dF (dI (dE (eE (μ:=λ_=>none) (m:=λ_=>none) (U:=λ_=>False) h2)))).1;rw[iz,h3]at h1;exact h1
theorem Bt{P:Program}{f:FuncId}{w:World}{F:Nat->Prop}{te:TypeId}{l:List AV}{t:ByteArray}{u:Value}
  (h0:∀a c,Calls P f #[.slice a 0 c,.string t] w λe w'=>e=.returned (.string ⟨#[]⟩)/\w'=w)
  (h1:∀(bk o c:Nat) (xs:List ByteArray),(∀(j:Nat) x,xs[j]?=some x->w.cell? ⟨bk,o+j,none⟩=some (.string x))->bk<w.heap.size->xs.length<=140737488355328->xs.length<=c->
   (Lib.join (xs.map (·.data.toList)) t.data.toList).length<=140737488355328->Calls P f #[.slice (some ⟨bk,o,none⟩) xs.length c,.string t] w λe w'=>e=.returned (.string ⟨(Lib.join (xs.map (·.data.toList)) t.data.toList).toArray⟩)/\Below w.heap.size w w')
  (hF:∀b,F b->b<w.heap.size) (hr:Rel w F (.sl ⟨true,te,true⟩ 1 l) u) (hc:tB l t=true) :
  Calls P f #[u,.string t] w λe w'=>match e with
   | .returned v=>∃F' β,Came w w' F F' β/\AB w' F' β (.v (.string (CL l t))) v
   | _=>False:=by
 unfold tB at hc;unfold CL;cases hs:oU l with
 | none=>rw[hs]at hc;cases hc
 | some ss=>
  rw[hs]at hc;simp only[ae,az]at hc;rw[sE hs]at hr;rcases GI hr with⟨rfl,a,c,rfl⟩|⟨bk,o,c,rfl,jg,Hh,jl⟩
  ·refine(h0 a c).mono ?_;rintro e w' ⟨rfl,rfl⟩;exact⟨F,λ_=>none,Came.same hF,.v _ rfl⟩
  ·refine(h1 bk o c ss jl (hF bk Hh) hc.1 jg hc.2).mono ?_;rintro e w' ⟨rfl,hB⟩;exact⟨F,λ_=>none,Came.jF hF hB,.v _ rfl⟩
end Go.Proofs.Ev
namespace Go.Proofs.Ev
open Go Go.Proofs
structure fO(P:Program)[dH P] where
 f:FuncId
 g:List AV->Bool
 v:{R:Type}->Nat->List AV->(AV->Option R)->Option R
 t:∀{R:Type} (n:Nat) (xs:List AV),dL (R:=R) P f xs (v n xs)
def nO{P:Program}[dH P]{R:Type}(n:Nat)(l:List (fO P))(f:FuncId)(xs:List AV):(AV->Option R)->Option R:=
 List.rec (λ_=>none) (λe _ k=>bif Nat.beq f e.f&&e.g xs then e.v n xs else k) l
theorem jq{P:Program}[dH P]{R:Type}(n:Nat):∀(l:List (fO P)),lO (R:=R) P (nO n l)
 | []=>λ_ _=>dL.none
 | e::r=>λf xs=>Dr (e.t n xs) (jq n r f xs)
def py(l:List (Nat × kK))(r:Nat):Option kK:=List.rec none (λx _ k=>bif Nat.beq r x.1 then some x.2 else k) l
def gX(r n:Nat)(tm:List (Nat × AV))(bl:List oK):Nat × St:=(r,⟨PO n 0 tm,Mem.ofList bl,bl.length⟩)
def sC(fn:Func)(k:Nat):List Item:=(jP k 1000 [.code (fn.body.getD .skip)]).getD []
structure Cx(P:Program)[dH P](G:eH):Prop where
 cfg:dK P G
 P1:P.follows .mixedOrders=true
 Qn:∀R0,dH.Q P R0->mE G R0
 kb:G.kb=0
def dt(P:Program)[dH P](f:FuncId){A T:Type}(i:A->List AV)(p:T->AV)(F:A->Option T):Prop:=∀a q,F a=some q->fD P f (i a) (p q)
def pG(P:Program)[dH P](f:FuncId){A T:Type}(i b:A->List AV)(y:T->AV)(w:T->List AV)(F:A->Option T):Prop:=∀a q,F a=some q->kL P f (i a) (b a) (y q) (w q)
def gT{P:Program}[dH P]{f:FuncId}{A T:Type}{i:A->List AV}{o:List AV->Option A}{p:T->AV}{F:Nat->A->Option T}(oi:∀xs a,o xs=some a->xs=i a)(h:∀n,dt P f i p (F n))(hl:∀a,jA (i a)=false:=by(intro a;kernel_rfl)):fO P:=
 ⟨f,λxs=>(o xs).isSome,λn=>Dm (F n) o p,λn=>Dq oi hl (h n)⟩
def Po{P:Program}[dH P]{f:FuncId}{A T:Type}{i b:A->List AV}{o:List AV->Option A}{y:T->AV}{w:T->List AV}{F:Nat->A->Option T}(p:T->AV)(oi:∀xs a,o xs=some a->xs=i a++[.dU (b a)])(h:∀n,pG P f i b y w (F n))(hp:∀q,p q=.dU [y q,.dU (w q)]:=by(intro q;rfl)):fO P:=
 ⟨f,λxs=>(o xs).isSome,λn=>Dm (F n) o p,λn=>AO hp oi (h n)⟩
section
variable {P:Program} [dH P] {G:eH} {A T Z:Type} {f:FuncId} {fn:Func} {nd:A->List AV} {enc:T->AV} {dec:AV->Option T} {n:Nat}
theorem pf(cut:List (Nat × kK))(s:Z->Nat × St)(e:(Z->Option T)->A->Option T)(r:(Z->Option T)->Z->Option T)(l:List (fO P))(cx:Cx P G)(qk:∀y p,dec y=some p->y=enc p)(hf:P.funcs[f]?=some fn)
  (he:∀rec a,qZ G (nO n l) (py cut) (λS=>lK G fn.resultTypes.toList fn.results.toList S dec) rec 1000 [.code (fn.body.getD .skip)] (start fn (nd a))=e (λz=>rec (sC fn (s z).1) (s z).2) a:=by(intro rec a;kernel_rfl))
  (hr:∀rec z,B1 G (nO n l) (py cut) (λS=>lK G fn.resultTypes.toList fn.results.toList S dec) rec (sC fn (s z).1) (s z).2=r (λz=>rec (sC fn (s z).1) (s z).2) z:=by(intro rec z;cases z<;>kernel_rfl))
  (gm : (fn.name == "runtime.NumGoroutine") = false := by kernel_rfl) (gn : fn.body.isNone = false := by kernel_rfl) : dt P f nd enc (e (eg r n)) :=
 λa p h=>yM (t:=λz=>sC fn (s z).1) (s:=λz=>(s z).2) cx.cfg cx.P1 cx.Qn cx.kb qk (jq n l) hf gm gn he hr a p h
theorem mA(n:Nat)(e:A->Option T)(l:List (fO P))(cx:Cx P G)(qk:∀y p,dec y=some p->y=enc p)(hf:P.funcs[f]?=some fn)
  (he:∀rec a,qZ G (nO n l) (py []) (λS=>lK G fn.resultTypes.toList fn.results.toList S dec) rec 1000 [.code (fn.body.getD .skip)] (start fn (nd a))=e a:=by(intro rec a;kernel_rfl))
  (gm : (fn.name == "runtime.NumGoroutine") = false := by kernel_rfl) (gn : fn.body.isNone = false := by kernel_rfl) : dt P f nd enc e :=
 λa p h=>yM (Z:=Empty) (t:=nofun) (s:=nofun) (e:=λ_=>e) (r:=λ_ z=>nomatch z) (n:=0) cx.cfg cx.P1 cx.Qn cx.kb qk (jq n l) hf gm gn he (λ_ z=>nomatch z) a p h
theorem WJ{bl:A->List AV}{y:T->AV}{os:T->List AV}(k:Nat)(gM:List (Nat × Nat × Fl × Nat))(cut:List (Nat × kK))(s:Z->Nat × St)(e:(Z->Option T)->A->Option T)(r:(Z->Option T)->Z->Option T)(l:List (fO P))(cx:Cx P G)(qk:∀x p,dec x=some p->x=.dU [y p,.dU (os p)])(hf:P.funcs[f]?=some fn)
  (he:∀rec a,qZ { G with kb:=k } (nO n l) (py cut) (λS=>rv { G with kb:=k } gM fn.resultTypes.toList fn.results.toList S dec) rec 1000 [.code (fn.body.getD .skip)] (ku fn (nd a) (bl a))=e (λz=>rec (sC fn (s z).1) (s z).2) a:=by(intro rec a;kernel_rfl))
  (hr:∀rec z,B1 { G with kb:=k } (nO n l) (py cut) (λS=>rv { G with kb:=k } gM fn.resultTypes.toList fn.results.toList S dec) rec (sC fn (s z).1) (s z).2=r (λz=>rec (sC fn (s z).1) (s z).2) z:=by(intro rec z;cases z<;>kernel_rfl))
  (oH : ∀ a, ({ G with kb := k } : eH).kb = kR (bl a) := by (intro a; kernel_rfl)) (gm : (fn.name == "runtime.NumGoroutine") = false := by kernel_rfl) (gn : fn.body.isNone = false := by kernel_rfl) : pG P f nd bl y os (e (eg r n)) :=
 λa p h=>vz (G:={ G with kb:=k }) (t:=λz=>sC fn (s z).1) (s:=λz=>(s z).2) (cx.cfg.kb k) cx.P1 cx.Qn qk oH (jq n l) hf gm gn he hr a p h
theorem Rr{bl:A->List AV}{y:T->AV}{os:T->List AV}(n k:Nat)(gM:List (Nat × Nat × Fl × Nat))(e:A->Option T)(l:List (fO P))(cx:Cx P G)(qk:∀x p,dec x=some p->x=.dU [y p,.dU (os p)])(hf:P.funcs[f]?=some fn)
  (he:∀rec a,qZ { G with kb:=k } (nO n l) (py []) (λS=>rv { G with kb:=k } gM fn.resultTypes.toList fn.results.toList S dec) rec 1000 [.code (fn.body.getD .skip)] (ku fn (nd a) (bl a))=e a:=by(intro rec a;kernel_rfl))
  (oH : ∀ a, ({ G with kb := k } : eH).kb = kR (bl a) := by (intro a; kernel_rfl)) (gm : (fn.name == "runtime.NumGoroutine") = false := by kernel_rfl) (gn : fn.body.isNone = false := by kernel_rfl) : pG P f nd bl y os e :=
 λa p h=>vz (Z:=Empty) (t:=nofun) (s:=nofun) (e:=λ_=>e) (r:=λ_ z=>nomatch z) (n:=0) (G:={ G with kb:=k }) (cx.cfg.kb k) cx.P1 cx.Qn qk oH (jq n l) hf gm gn he (λ_ z=>nomatch z) a p h
end
section
variable {a b c d e f g h i j R:Type}
abbrev kP(F:a->R):a->R:=F
abbrev kM(F:a->b->R):a × b->R:=fun(x,y)=>F x y
abbrev rG(F:a->b->c->R):a × b × c->R:=fun(x,y,z)=>F x y z
abbrev Kl(F:a->b->c->d->R):a × b × c × d->R:=fun(x,y,z,u)=>F x y z u
abbrev MK(F:a->b->c->d->e->R):a × b × c × d × e->R:=fun(x,y,z,u,v)=>F x y z u v
end
abbrev TE:=TypeId->Option TI
def sZ:SK->Value
 | .int k=>.int k 0
 | .str=>.string ⟨#[]⟩
 | .bool=>.bool false
 | .slice _ _=>.slice none 0 0
 | .any=>.nilFunc
def yr(k:IntKind)(b:Nat):TE:=λt=>some ⟨.int k,1,b,false,[.int k],[.int k 0],t⟩
def wQ:TE:=λt=>some ⟨.other,1,8,false,[.any],[.nilFunc],t⟩
def QY:TE:=λt=>some ⟨.string,1,16,false,[.str],[.string ⟨#[]⟩],t⟩
def NA:TE:=λt=>some ⟨.bool,1,1,false,[.bool],[.bool false],t⟩
def FI(e:TypeId):TE:=λt=>some ⟨.ptr e,1,8,false,[.any],[.pointer none],t⟩
def FJ:TE:=λt=>some ⟨.iface,1,16,false,[.any],[.nilIface],t⟩
def Io(e:TypeId)(fl:Bool)(n:Nat):TE:=λt=>some ⟨.slice e,1,24,false,[.slice ⟨fl,e,false⟩ n],[.slice none 0 0],t⟩
def AQ(fs:List (TypeId × Nat))(b:Nat)(ks:List SK):TE:=λt=>some ⟨.struct fs,ks.length,b,true,ks,ks.map sZ,t⟩
def Nz(fs:List (TypeId × Nat))(b:Nat)(ks:List SK)(zs:List Value):TE:=λt=>some ⟨.struct fs,ks.length,b,true,ks,zs,t⟩
def IX(n:Nat)(e:TypeId)(b:Nat)(ks:List SK):TE:=λt=>some ⟨.arr n e,n*ks.length,b,true,(List.replicate n ks).flatten,(List.replicate n ks).flatten.map sZ,t⟩
def IW(l:List (TypeId × TE))(t:TypeId):Option TI:=List.rec none (λx _ k=>bif Nat.beq t x.1 then x.2 t else k) l
def Rt(l:List (FuncId × List TypeId))(f:FuncId):List TypeId:=List.rec [] (λx _ k=>bif Nat.beq f x.1 then x.2 else k) l
def Tx(P:Program)(G:eH)(l:List (TypeId × TE)):Bool:=l.all λx=>match G.fP x.1 with
 | .some ti=>Ch P x.1 ti&&(match fm G 9 x.1 with | .some _=>!P.eqGuardType P.depth x.1 | .none=>true)
 | .none=>true
theorem ED{P:Program}{G:eH}{l:List (TypeId × TE)}(hG:G.fP=IW l)(h:Tx P G l=true):dK P G:=by
 have qW:∀(m:List (TypeId × TE)) t ti,IW m t=some ti->∃x∈m,x.1=t:=by
  intro m;induction m with
  | nil=>intro t ti h;cases h
  | cons y r ih=>
   intro t ti h;have h:(bif Nat.beq t y.1 then y.2 t else IW r t)=some ti:=h;cases hb:Nat.beq t y.1 with
   | true=>exact⟨y,by simp,(aj hb).symm⟩
   | false=>
    rw[hb]at h;obtain⟨x,hx,e⟩:=ih t ti h;exact⟨x,by simp[hx],e⟩
 have key:∀t ti,G.fP t=some ti->Ch P t ti=true/\(match fm G 9 t with | .some _=>!P.eqGuardType P.depth t | .none=>true)=true:=by
  intro t ti ht;obtain⟨x,hx,rfl⟩:=qW l t ti (hG ▸ ht);have:=ay.1 h x hx;simp only[ht,ae]at this;exact this
 refine⟨λt ti ht=>IT (key t ti ht).1,λt ks hk=>?_⟩;cases ht:G.fP t with
 | none=>simp[fm,ht]at hk
 | some ti=>
  have:=(key t ti ht).2;rw[hk]at this;simpa using this
end Go.Proofs.Ev
end