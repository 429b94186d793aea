import Derived.Test.YtnoldakbllfmnaaGreatDoorDYVb
import Derived.Shelf.Spec.SlicesGrow
import Derived.Shelf.SlLaysE0
import Derived.Shelf.RegionOpenPlain
import Derived.WalkKit
import Derived.Deep.LoopGhost
import Derived.Lib.Walk
import Derived.Lib.SliceRun
import Derived.Maps.AppendAt
import Derived.OpenShut
import Derived.ChangeArms
import Derived.ProofKit
import Derived.ShutString
import Derived.ChangeOld
import Derived.Below
import Derived.Carry
import Derived.SizedLaws
import Derived.HandedShaped
import Derived.Shelf.Strings.Builder1
import Derived.Shelf.Strconv.ErrVarAll
import Derived.Shelf.Strings.SlTrimAscii
import Derived.LaidLaws
import Derived.MakeChecks
import Derived.Lib.LaidTab
import Derived.Lib.ItoaNum
import Derived.Sort.Grow
import Derived.Lib.Join
import Derived.Shelf.Slices.In.SortNone
import Derived.Shelf.Slices.In.CompactI
set_option linter.all false
noncomputable section
namespace Go.Proofs.Ev
open Go Go.RowKit
section
variable {R:Type} {G:fv} {S S' : List AV} {m m' m2:Mem} {id:Nat} {C:FuncId->List AV->(AV->Option R)->Option R} {dr:Bool} {o:Oper} {r:R}
theorem nK{x:AV}(h:∀j∈eD x,m2 j=m j):nl m x=nl m2 x:=by
 cases x
 case own id off l=>
  simp only[nl];exact xc h
 all_goals rfl
theorem qo:∀(cs:List AV),(∀j∈cs.flatMap eD,m2 j=m j)->pX m cs=pX m2 cs
 | [],_=>rfl
 | x::cs,h=>by
  simp only[bD,aS]at h;simp only[pX,nK (λj hj=>h j (.inl hj)),qo cs (λj hj=>h j (.inr hj))]
theorem Dp{x:AV}(hp:∀i off,x≠.ptr i off)(h:∀j∈eD x,m2 j=m j):vk m x=vk m2 x:=by
 cases x
 case ptr i off=>exact absurd rfl (hp i off)
 case own id off l=>
  simp only[vk];exact nK h
 all_goals rfl
theorem tw:∀(cs:List AV),(cs.any fun | .ptr _ _=>true | _=>false)=false->(∀j∈cs.flatMap eD,m2 j=m j)->tz m cs=tz m2 cs
 | [],_,_=>rfl
 | x::cs,hp,h=>by
  simp only[bD,aS]at h;simp only[List.any_cons,bw]at hp;have hx:∀i off,x≠.ptr i off:=by intro i off e;subst e;simp at hp
  simp only[tz,Dp hx (λj hj=>h j (.inl hj)),tw cs hp.2 (λj hj=>h j (.inr hj))]
theorem Dq{x:AV}(hp:kG x=false)(h:∀j∈eo x,m2 j=m j):fc m x=fc m2 x:=by
 cases x
 case agg cs=>simp only[fc,qo cs h]
 case fn f cs=>simp only[fc,tw cs hp h]
 case ptr i off=>cases hp
 case own id off l=>
  simp only[fc,vk];exact nK h
 all_goals rfl
theorem tA:∀(xs:List AV),xs.any kG=false->(∀x∈xs,∀j∈eo x,m2 j=m j)->lL m xs=lL m2 xs
 | [],_,_=>rfl
 | x::xs,hp,h=>by
  simp only[List.any_cons,bw]at hp;simp only[lL,Dq hp.1 (h x (by simp)),tA xs hp.2 (λy hy=>h y (by simp[hy]))]
theorem yE{op:Op}(loc:∀ma mb:Mem,(∀y∈op.operands,∀j∈eD (ev G S y),mb j=ma j)->mb id=ma id->Local G op S ma mb id){K:AV->Mem->Option R}(hK:fM G op S m id K=some r) :
  ∃x m',K x m'=some r/\m'=over m id m'/\∀m2,(∀y∈op.operands,∀j∈eD (ev G S y),m2 j=m j)->(∀j,id<=j->j<id+8->m2 j=m j)->
   ∀(K' : AV->Mem->Option R) r',K' x (over m2 id m')=some r'->fM G op S m2 id K'=some r':=by
 have h0:=loc m m (λ_ _ _ _=>rfl) rfl K;rw[hK]at h0;have h0:=h0.symm;rw[aL]at h0;obtain⟨⟨x,b⟩,h1,h2⟩:=h0;have ho:∀m3:Mem,(∀j,id<=j->j<id+8->m3 j=m j)->m3.gB id b=over m3 id (m.gB id b):=by
  intro m3 h3;funext j;unfold over;by_cases e:j=id
  ·subst e;rw[Mem.dQ,Mem.dQ];have:(Nat.ble j j&&Nat.blt j (j+8))=true:=by
    rw[ae];exact⟨cb (aH _),by simp[Nat.blt]⟩
   rw[this];rfl
  ·rw[Mem.dy _ _ e,Mem.dy _ _ e];cases hj:(Nat.ble id j&&Nat.blt j (id+8))with
   | false=>rfl
   | true=>
    rw[ae]at hj;exact h3 j (aG hj.1) (by simpa using hj.2)
 refine⟨x,m.gB id b,h2,ho m (λ_ _ _=>rfl),λm2 hr hi K' r' fY=>?_⟩;rw[loc m2 m (λy hy j hj=>(hr y hy j hj).symm) (hi id (aH _) (by omega)).symm K',h1];simp only[ab];rw[ho m2 hi];exact fY
theorem Jp{op:Op}(h:gG op=true\/n5 op=true){K:AV->Mem->Option R}(hK:fM G op S m id K=some r) :
  ∃x m',K x m'=some r/\m'=over m id m'/\∀m2,(∀y∈op.operands,∀j∈eD (ev G S y),m2 j=m j)->(∀j,id<=j->j<id+8->m2 j=m j)->
   ∀(K' : AV->Mem->Option R) r',K' x (over m2 id m')=some r'->fM G op S m2 id K'=some r':=
 yE (λma mb h1 h2=>by
  rcases h with h|h
  ·exact DY h h1 h2
  ·exact DZ h h1 h2) hK
def rJ(m:Mem):Option Nat->Mem
 | none=>m
 | some j=>m.gB j none
def kill(m f:Mem)(ks:List Nat):Mem:=λj=>bif ks.contains j then f j else m j
theorem l_{m f:Mem}{ks:List Nat}{j:Nat}(h:j∈ks):kill m f ks j=f j:=by
 have:ks.contains j=true:=by simpa using h
 unfold kill;rw[this];rfl
theorem fA{m f:Mem}{ks:List Nat}{j:Nat}(h:j ∉ ks):kill m f ks j=m j:=by
 have:ks.contains j=false:=by simpa using h
 unfold kill;rw[this];rfl
theorem B0(m:Mem)(k:Option Nat):rJ m k=kill m (λ_=>none) k.toList:=by
 funext j;cases k with
 | none=>rfl
 | some i=>
  show(m.gB i none) j=_;by_cases e:j=i
  ·subst e;rw[Mem.dQ,l_ (by simp)]
  ·rw[Mem.dy _ _ e,fA (by simp[e])]
def oh(ei ui:TI)(m:Mem)(y:AV)(K:List AV->Option R):Option R:=match ui.kd with
 | .string=>bif Nat.beq ei.size 1 then df y λs=>K (s.toList.map λb=>vu b.toNat)else none
 | .slice _=>jF m y λfl sz ys=>bif(fl==ei.flat&&Nat.beq sz ei.size)||(Nat.beq sz 0&&ys.isEmpty)then K ys else none
 | .int _=>cQ .i64 y λn=>bif decide ((0:Int)<=n)&&decide (n<=fe)then K (List.replicate n.toNat (bif ei.isAgg then .agg ei.tv else ei.tv.headD .undef))else none
 | _=>none
def zq(ei:TI)(m:Mem)(id:Nat)(x:AV)(ys:List AV)(K:AV->Mem->Option R):Option R:=match x with
 | .v (.slice none 0 0)=>bif decide (ys.length<=fe)then K (.own id 0 none) (m.gB id (Option.some (.row ei.flat ei.size ys)))else none
 | .own j off none=>cX (m j) fun
  | .row fl sz xs=>bif fl==ei.flat&&Nat.beq sz ei.size then
    bif decide ((kO off xs).length+ys.length<=fe)then K (.own id 0 none) ((m.gB j none).gB id (Option.some (.row fl sz (kO off xs++ys))))else none
   else none
  | _=>none
 | _=>none
theorem EI{ei ui:TI}{y:AV}{K:List AV->Option R}(h:oh ei ui m y K=some r) :
  ∃ys,K ys=some r/\∀m2,(∀j∈eD y,m2 j=m j)->∀(K' : List AV->Option R) r',K' ys=some r'->oh ei ui m2 y K'=some r':=by
 unfold oh at h;cases hk:ui.kd
 all_goals (rw[hk]at h)
 all_goals first|(cases h;done)|skip
 ·simp only at h;cases y
  case own id off l=>
   simp only[jF]at h;cases hm:m id with
   | none=>rw[hm]at h;cases h
   | some b=>
    rw[hm]at h;cases b with
    | box t cs=>cases h
    | row fl sz xs=>
     simp only at h;obtain⟨hb,h⟩:=c_ h;refine⟨_,h,λm2 N0 K' r' fY=>?_⟩;unfold oh;rw[hk];simp only[jF];rw[N0 id (by simp[eD]),hm];simp only[hb,ak];exact fY
  case sl fl sz xs=>
   simp only[jF]at h;obtain⟨hb,h⟩:=c_ h;refine⟨_,h,λm2 N0 K' r' fY=>?_⟩;unfold oh;rw[hk];simp only[jF,hb,ak];exact fY
  case v x=>
   by_cases hx:x=.slice none 0 0
   ·subst hx;simp only[jF]at h;obtain⟨hb,h⟩:=c_ h;refine⟨_,h,λm2 N0 K' r' fY=>?_⟩;unfold oh;rw[hk];simp only[jF,hb,ak];exact fY
   ·exfalso;unfold jF at h;split at h<;>simp_all
  all_goals (exfalso;simp only[jF]at h;cases h)
 ·simp only at h;obtain⟨n,hy,h8⟩:=iI h;have h9:=c_ h8;clear h h8;obtain⟨hb,h⟩:=h9;subst hy;refine⟨_,h,λm2 N0 K' r' fY=>?_⟩;unfold oh;rw[hk];simp only[cQ,decide_true,ak,hb];exact fY
 ·simp only at h;have h9:=c_ h;clear h;obtain⟨hb,h⟩:=h9;cases y
  case v x=>
   cases x
   case string s=>
    simp only[df]at h;refine⟨_,h,λm2 N0 K' r' fY=>?_⟩;unfold oh;rw[hk];simp only[df,hb,ak];exact fY
   all_goals (exfalso;simp only[df]at h;cases h)
  all_goals (exfalso;simp only[df]at h;cases h)
theorem lp(m:Mem)(id:Nat)(b:Option sv)(m2:Mem)(h:∀j,id<=j->j<id+8->m2 j=m j):m2.gB id b=over m2 id (m.gB id b):=by
 funext j;unfold over;by_cases e:j=id
 ·subst e;rw[Mem.dQ,Mem.dQ];have:(Nat.ble j j&&Nat.blt j (j+8))=true:=by
   rw[ae];exact⟨cb (aH _),by simp[Nat.blt]⟩
  rw[this];rfl
 ·rw[Mem.dy _ _ e,Mem.dy _ _ e];cases hj:(Nat.ble id j&&Nat.blt j (id+8))with
  | false=>rfl
  | true=>
   rw[ae]at hj;exact h j (aG hj.1) (by simpa using hj.2)
theorem Hy{ei:TI}{x:AV}{ys:List AV}{K:AV->Mem->Option R}(h:zq ei m id x ys K=some r) :
  ∃z m' k,K z m'=some r/\m'=over (rJ m k) id m'/\(∀j,k=some j->j∈eD x/\∃fl sz xs,m j=some (.row fl sz xs))/\
   ∀m2,(∀j∈eD x,m2 j=m j)->(∀j,id<=j->j<id+8->m2 j=m j)->∀(K' : AV->Mem->Option R) r',K' z (over (rJ m2 k) id m')=some r'->zq ei m2 id x ys K'=some r':=by
 unfold zq at h;split at h
 ·obtain⟨hb,h⟩:=c_ h;refine⟨_,_,none,h,lp m id _ m (λ_ _ _=>rfl),by simp,λm2 _ hi K' r' fY=>?_⟩;unfold zq;simp only[hb,ak];rw[lp m id _ m2 hi];exact fY
 ·rename_i j off;obtain⟨b,hm,h⟩:=cS h;cases b with
  | box t cs=>cases h
  | row fl sz xs=>
   simp only at h;obtain⟨hb,h⟩:=c_ h;obtain⟨hc,h⟩:=c_ h;have N2:∀m2:Mem,(∀i,id<=i->i<id+8->m2 i=m i)->∀i,id<=i->i<id+8->(rJ m2 (some j)) i=(m.gB j none) i:=by
    intro m2 hi i h1 h2;show(m2.gB j none) i=_;by_cases e:i=j
    ·subst e;rw[Mem.dQ,Mem.dQ]
    ·rw[Mem.dy _ _ e,Mem.dy _ _ e];exact hi i h1 h2
   refine⟨_,_,some j,h,lp (m.gB j none) id _ (rJ m (some j)) (λ_ _ _=>rfl),?_,λm2 hr hi K' r' fY=>?_⟩
   ·intro i hi;cases hi;exact⟨by simp[eD],_,_,_,hm⟩
   ·unfold zq;have e:=hr j (by simp[eD]);simp only[e,hm,cX,hb,hc,ak];rw[show m2.gB j none=rJ m2 (some j)from rfl,lp (m.gB j none) id _ (rJ m2 (some j)) (N2 m2 hi)];exact fY
 ·cases h
theorem Hx{op:Op}(rT:∀t p x,op≠.store t p x)(ha:pr op=true){K:AV->Mem->Option R}(hK:fM G op S m id K=some r) :
  ∃x m' k,K x m'=some r/\m'=over (rJ m k) id m'/\(∀j,k=some j->(∃y∈op.operands,j∈eD (ev G S y))/\∃fl sz xs,m j=some (.row fl sz xs))/\
   ∀m2,(∀y∈op.operands,∀j∈eD (ev G S y),m2 j=m j)->(∀j,id<=j->j<id+8->m2 j=m j)->
    ∀(K' : AV->Mem->Option R) r',K' x (over (rJ m2 k) id m')=some r'->fM G op S m2 id K'=some r':=by
 cases op<;>(try (cases ha;done))<;>(try (exact absurd rfl (rT _ _ _)));rename_i c;cases hc:c.callee<;>(try (simp[pr,hc]at ha;done));rename_i b;cases b<;>(try (simp[pr,hc]at ha;done));clear ha;have key:∀(m:Mem) (K:AV->Mem->Option R),fM G (.call c) S m id K=match c.argTypes.toList,c.args.toList with
   | [t,u],[x,y]=>cX (G.gM t) λti=>cX (G.gM u) λui=>match ti.kd with
    | .slice e=>cX (G.gM e) λei=>
     bif Nat.ble ei.bytes 4096&&Nat.ble 1 ei.bytes&&Nat.ble 1 ei.size then oh ei ui m (ev G S y) λys=>zq ei m id (ev G S x) ys K
     else none
    | _=>none
   | _,_=>none:=by
  intro m K;simp only[fM,hc];rfl
 rw[key]at hK;simp only[key];split at hK
 ·rename_i t u x y h1 h2;have hx:x∈(Op.call c).operands:=by
   simp only[Op.operands,Call.operands];exact Array.mem_append.2 (.inr (by rw[<-Array.mem_toList_iff,h2];simp))
  have hy:y∈(Op.call c).operands:=by
   simp only[Op.operands,Call.operands];exact Array.mem_append.2 (.inr (by rw[<-Array.mem_toList_iff,h2];simp))
  obtain⟨ti,e1,hK⟩:=cS hK;obtain⟨ui,e2,hK⟩:=cS hK;cases fT:ti.kd<;>rw[fT]at hK<;>(try (cases hK;done));rename_i e;simp only at hK;obtain⟨ei,e3,hK⟩:=cS hK;obtain⟨hb,hK⟩:=c_ hK;obtain⟨ys,hK,hs⟩:=EI hK;obtain⟨z,m',k,hK,qZ,YD,ht⟩:=Hy hK;refine⟨z,m',k,hK,qZ,λj hj=>⟨⟨x,hx,(YD j hj).1⟩,(YD j hj).2⟩,λm2 hr hi K' r' fY=>?_⟩;simp only[e1,e2,e3,cX,fT,hb,ak];exact hs m2 (λj hj=>hr y hy j hj) _ _ (ht m2 (λj hj=>hr x hx j hj) hi _ _ fY)
 ·cases hK
theorem pC(m m2:Mem)(id j:Nat)(b:Option sv)(h:∀i,id<=i->i<id+8->m2 i=m i):m2.gB j b=over (kill m2 (λ_=>b) [j]) id (m.gB j b):=by
 have hk:kill m2 (λ_=>b) [j]=m2.gB j b:=by
  funext i;by_cases e:i=j
  ·subst e;rw[Mem.dQ,l_ (by simp)]
  ·rw[Mem.dy _ _ e,fA (by simp[e])]
 rw[hk];funext i;unfold over;cases hi:(Nat.ble id i&&Nat.blt i (id+8))with
 | false=>rfl
 | true=>
  rw[ae]at hi;show(m2.gB j b) i=(m.gB j b) i;by_cases e:i=j
  ·subst e;rw[Mem.dQ,Mem.dQ]
  ·rw[Mem.dy _ _ e,Mem.dy _ _ e];exact h i (aG hi.1) (by simpa using hi.2)
def K0(G:fv)(S:List AV)(op:Op)(m:Mem)(id:Nat)(K:AV->Mem->Option R)(r:R)(D:AV->List Nat):Prop:=
 ∃x m' ks f,K x m'=some r/\m'=over (kill m f ks) id m'/\(∀j∈ks,(∃y∈op.operands,j∈D (ev G S y))/\iw (f j)=iw (m j)/\(iw (m j)=false\/∃t p x off,op=.store t p x/\ev G S p=.ptr j off))/\
  ∀m2,(∀y∈op.operands,∀j∈D (ev G S y),m2 j=m j)->(∀j,id<=j->j<id+8->m2 j=m j)->
   ∀(K' : AV->Mem->Option R) r',K' x (over (kill m2 f ks) id m')=some r'->fM G op S m2 id K'=some r'
theorem KU{op:Op}(ha:pr op=true)(fF:∀t p x,op=.store t p x->(tS (ev G S p)=true/\jD (ev G S x)=[])\/D7 (ev G S p)=true){K:AV->Mem->Option R}(hK:fM G op S m id K=some r) :
  K0 G S op m id K r eD:=by
 by_cases rT:∀t p x,op≠.store t p x
 ·obtain⟨x,m',k,h1,h2,h3,h4⟩:=Hx rT ha hK;refine⟨x,m',k.toList,λ_=>none,h1,by rw[<-B0];exact h2,λj hj=>?_,λm2 a b K' r' c=>h4 m2 a b K' r' (by rw[B0];exact c)⟩;obtain⟨a1,fl,sz,xs,a2⟩:=h3 j (by simpa using hj);exact⟨a1,by rw[a2];rfl,.inl (by rw[a2];rfl)⟩
 ·obtain⟨t,p,x,rfl⟩:∃t p x,op=.store t p x:=by
   cases op<;>first|exact⟨_,_,_,rfl⟩|(exfalso;exact rT (λ_ _ _ h=>by cases h))
  have fF:=fF t p x rfl;have NW:p∈(Op.store t p x).operands:=by simp[Op.operands]
  unfold K0;simp only[fM]at hK ⊢;obtain⟨ti,e1,hK⟩:=cS hK;cases hp:ev G S p<;>rw[hp]at hK fF<;>(try (rcases fF with fF|fF<;>simp[tS,D7]at fF;done))
  case ptr j off=>
   simp only at hK;obtain⟨b0,hm,hK⟩:=cS hK;cases b0 with
   | row fl sz xs=>cases hK
   | box tb cs=>
    simp only at hK;obtain⟨hb,hK⟩:=c_ hK;refine⟨_,_,[j],_,hK,pC m m id j _ (λ_ _ _=>rfl),?_,λm2 hr hi K' r' fY=>?_⟩
    ·intro j' mK;cases bG.1 mK;exact⟨⟨p,NW,by rw[hp];simp[eD]⟩,by rw[hm];rfl,.inr ⟨t,p,x,off,rfl,hp⟩⟩
    ·have e:=hr p NW j (by rw[hp];simp[eD]);simp only[e1,cX,e,hm,hb,ak];rw[pC m m2 id j _ hi];exact fY
  case s_ j i off=>
   obtain⟨_,hx⟩:tS (AV.s_ j i off)=true/\jD (ev G S x)=[]:=by
    rcases fF with fF|fF
    ·exact fF
    ·cases fF
   simp only at hK;obtain⟨b0,hm,hK⟩:=cS hK;cases b0 with
   | box tb cs=>cases hK
   | row fl sz xs=>
    simp only at hK;obtain⟨hb,hK⟩:=c_ hK;obtain⟨y,hy,hK⟩:=cS hK;rw[hx]at hK hb;refine⟨_,_,[j],_,hK,pC m m id j _ (λ_ _ _=>rfl),?_,λm2 hr hi K' r' fY=>?_⟩
    ·intro j' mK;cases bG.1 mK;exact⟨⟨p,NW,by rw[hp];simp[eD]⟩,by rw[hm];rfl,.inl (by rw[hm];rfl)⟩
    ·have e:=hr p NW j (by rw[hp];simp[eD]);have VU:nw m2 ti (ev G S x)=some y:=by rw[<-hy];exact tQ hx
     simp only[e1,cX,e,hm,hx,hb,ak,VU];have e9:=pC m m2 id j (some (.row fl sz (xs.set i y))) hi;show K' _ (m2.gB j (some (.row fl sz (xs.set i y))))=some r';rw[e9];exact fY
theorem xV{x y:AV}(h:nl m x=some y):∀j∈lG x,iw (m j)=false:=by
 intro j hj;cases x<;>(try (simp[lG]at hj;done))
 case own id off l=>
  simp only[lG,bG]at hj;subst hj;simp only[nl,jF]at h;cases hm:m j with
  | none=>rfl
  | some b=>
   rw[hm]at h;cases b with
   | box t cs=>cases h
   | row fl sz xs=>rfl
 case s_ id i off=>simp[nl]at h
theorem xX:∀(cs ys:List AV),pX m cs=some ys->∀j∈cs.flatMap lG,iw (m j)=false
 | [],_,_,j,hj=>by simp at hj
 | x::cs,ys,h,j,hj=>by
  simp only[pX]at h;rw[bD,aS]at hj;cases e1:nl m x with
  | none=>rw[e1]at h;cases h
  | some y=>
   cases e2:pX m cs with
   | none=>rw[e1,e2]at h;cases h
   | some s=>
    rcases hj with hj|hj
    ·exact xV e1 j hj
    ·exact xX cs s e2 j hj
theorem wu{ti:TI}:∀(xs ys:List AV),mD m ti xs=some ys->∀j∈xs.flatMap jD,iw (m j)=false
 | [],_,_,j,hj=>by simp at hj
 | x::xs,ys,h,j,hj=>by
  simp only[mD]at h;rw[bD,aS]at hj;cases e1:nw m ti x with
  | none=>rw[e1]at h;cases h
  | some y=>
   cases e2:mD m ti xs with
   | none=>rw[e1,e2]at h;cases h
   | some s=>
    rcases hj with hj|hj
    ·unfold nw at e1;cases e3:nL m x with
     | none=>rw[e3]at e1;cases e1
     | some z=>
      cases x
      case agg cs=>
       simp only[nL,aD]at e3;obtain⟨w,e3,_⟩:=e3;exact xX cs w e3 j hj
      all_goals (simp only[nL]at e3;exact xV e3 j hj)
    ·exact wu xs s e2 j hj
theorem JM{x:AV}{j:Nat}(h:j∈lG x):j∈eD x:=by cases x<;>first|exact h|(simp[lG]at h)
theorem GB{x:AV}{j:Nat}(h:j∈jD x):j∈eo x:=by
 cases x
 case agg cs=>
  obtain⟨c,hc,hj⟩:=aY.1 h;exact aY.2 ⟨c,hc,JM hj⟩
 all_goals first|exact h|(simp[jD,lG]at h)
theorem B1{ti:TI}{x:AV}(h:∀j∈eo x,m2 j=m j):nw m ti x=nw m2 ti x:=by
 have:nL m x=nL m2 x:=by
  cases x
  case agg cs=>simp only[nL,qo cs h]
  all_goals (simp only[nL];exact nK (λj hj=>h j (by first|exact hj|(simp[eD]at hj))))
 simp only[nw,this]
theorem tP{ti:TI}:∀(xs:List AV),(∀x∈xs,∀j∈eo x,m2 j=m j)->mD m ti xs=mD m2 ti xs
 | [],_=>rfl
 | x::xs,h=>by simp only[mD,B1 (h x (by simp)),tP xs λy hy=>h y (by simp[hy])]
theorem CD(m:Mem)(ids:List Nat):nA m ids=kill m (λ_=>none) ids:=by
 funext j;rw[iV];by_cases h:j∈ids
 ·rw[ag h,l_ h]
 ·rw[af h,fA h]
theorem Ez{t:TypeId}{len:Nat}{parts:Array (Nat × Operand)}{K:AV->Mem->Option R}(hK:fM G (.buildSlice t len parts) S m id K=some r):K0 G S (.buildSlice t len parts) m id K r eo:=by
 have u3:∀x,x∈(parts.toList.map fun(_,x)=>ev G S x)->∃y∈(Op.buildSlice t len parts).operands,x=ev G S y:=by
  intro x hx;obtain⟨p,hp,rfl⟩:=cD.1 hx;refine⟨p.2,?_,rfl⟩;show p.2∈(parts.toList.map (·.2)).toArray;exact List.mem_toArray.2 (cD.2 ⟨p,hp,rfl⟩)
 unfold K0;simp only[fM]at hK ⊢;obtain⟨ti,e1,hK⟩:=cS hK;cases fT:ti.kd<;>rw[fT]at hK<;>(try (cases hK;done));rename_i e;simp only at hK;obtain⟨ei,e2,hK⟩:=cS hK;cases ho:uY ei.kd with
 | true=>
  rw[ho,ak]at hK;obtain⟨hb,hK⟩:=c_ hK;refine⟨_,_,[],λ_=>none,hK,?_,by simp,λm2 hr hi K' r' fY=>?_⟩
  ·have:kill m (λ_=>none) []=m:=by funext j;exact fA (by simp)
   rw[this];exact lp m id _ m (λ_ _ _=>rfl)
  ·have:kill m2 (λ_=>none) []=m2:=by funext j;exact fA (by simp)
   rw[this,<-lp m id _ m2 hi]at fY;simp only[e1,cX,fT,e2,ho,hb,ak];exact fY
 | false=>
  rw[ho,cond_false]at hK;obtain⟨hb,hK⟩:=c_ hK;obtain⟨xs,hx,hK⟩:=cS hK;refine⟨_,_,(parts.toList.map fun(_,x)=>ev G S x).flatMap jD,λ_=>none,hK,?_,λj hj=>?_,λm2 hr hi K' r' fY=>?_⟩
  ·rw[<-CD];exact lp _ id _ _ (λ_ _ _=>rfl)
  ·have YJ:=wu _ _ hx j hj;obtain⟨x,HR,TW⟩:=aY.1 hj;obtain⟨y,O9,rfl⟩:=u3 x HR;exact⟨⟨y,O9,GB TW⟩,by rw[YJ];rfl,.inl YJ⟩
  ·have TW:mD m2 ei (parts.toList.map fun(_,x)=>ev G S x)=some xs:=by
    rw[<-hx];refine(tP _ λx HR j hj=>?_).symm;obtain⟨y,O9,rfl⟩:=u3 x HR;exact hr y O9 j hj
   simp only[e1,cX,fT,e2,ho,hb,ak,cond_false,TW];rw[<-CD]at fY;have mL : ∀j,id<=j->j<id+8->nA m2 ((parts.toList.map fun(_,x)=>ev G S x).flatMap jD) j=nA m ((parts.toList.map fun(_,x)=>ev G S x).flatMap jD) j:=by
    intro j h1 h2;rw[iV,iV,hi j h1 h2]
   rw[lp (nA m _) id _ (nA m2 _) mL];exact fY
end
section
variable {R:Type} {G:fv} {S S' : List AV} {m m' m2:Mem} {id:Nat} {C:FuncId->List AV->(AV->Option R)->Option R} {o:Oper} {r:R}
theorem over_self(m:Mem)(id:Nat):over m id m=m:=by
 funext j;unfold over;cases(Nat.ble id j&&Nat.blt j (id+8))<;>rfl
theorem n9{f g:AV->List Nat}:∀(xs:List AV),(∀x∈xs,f x=g x)->xs.flatMap f=xs.flatMap g
 | [],_=>rfl
 | x::xs,h=>by rw[bD,bD,h x (by simp),n9 xs (λy hy=>h y (by simp[hy]))]
theorem Ea{x:AV}(hp:kG x=false):jn m x=jn m2 x:=by
 have hB:∀x,(∀i off,x≠.ptr i off)->wD m x=wD m2 x:=by
  intro x hx;cases x
  case ptr i off=>exact absurd rfl (hx i off)
  all_goals rfl
 cases x
 case fn f cs=>
  simp only[jn];simp only[kG]at hp;refine n9 cs λy hy=>hB y ?_;intro i off e;subst e;have:=List.any_eq_false.1 hp _ hy;simp at this
 case ptr i off=>cases hp
 all_goals rfl
theorem Cc{xs:List AV}(hp:xs.any kG=false):xs.flatMap (jn m)=xs.flatMap (jn m2):=
 n9 xs λx hx=>Ea (by simpa using List.any_eq_false.1 hp x hx)
theorem Ex(hC:ik C){f:FuncId}{args:List AV}{K:AV->Mem->Option R}(h:gZ G C true f args m id K=some r) :
  ∃x m',K x m'=some r/\m'=over m id m'/\∀m2,(∀y∈args,∀j∈eo y,m2 j=m j)->(∀j,id<=j->j<id+8->m2 j=m j)->
   ∀(K' : AV->Mem->Option R) r',K' x (over m2 id m')=some r'->gZ G C true f args m2 id K'=some r':=by
 unfold gZ at h;cases hp:args.any kG with
 | true=>rw[hp]at h;cases h
 | false=>
  rw[hp]at h;rw[cond_false]at h;cases Dd:G.refs f with
  | true=>rw[Dd]at h;cases h
  | false=>
  rw[Dd]at h;simp only[cond_false,ct]at h;obtain⟨gi,h1,h⟩:=cS h;obtain⟨Tx,h2,h⟩:=cS h;obtain⟨y,h3,h4⟩:=hC _ _ _ _ h;have fin:∀m2,(∀y∈args,∀j∈eo y,m2 j=m j)->∀(K' : AV->Mem->Option R) r',(bif nf y then(match imp id m2 y with|(x,c,m')=>bif Nat.ble c 8 then K' x m' else none)
    else bif !(args.flatMap (jn m2)).isEmpty then none
    else(match imp id (nA m2 (args.flatMap (jn m2))) y with | (x,c,m')=>bif Nat.ble c 8 then K' x m' else none))=some r'->gZ G C true f args m2 id K'=some r':=by
   intro m2 hm K' r' h;unfold gZ;rw[hp,Dd,<-tA args hp hm];simp only[cond_false,ct,h1,h2,cX];exact h4 _ _ h
  have same:(match imp id m y with | (x,c,m')=>bif Nat.ble c 8 then K x m' else none)=some r->(∀m2,(∀y∈args,∀j∈eo y,m2 j=m j)->∀(K' : AV->Mem->Option R) r',(match imp id m2 y with | (x,c,m')=>bif Nat.ble c 8 then K' x m' else none)=some r'->gZ G C true f args m2 id K'=some r')->
    ∃x m',K x m'=some r/\m'=over m id m'/\∀m2,(∀y∈args,∀j∈eo y,m2 j=m j)->(∀j,id<=j->j<id+8->m2 j=m j)->
     ∀(K' : AV->Mem->Option R) r',K' x (over m2 id m')=some r'->gZ G C true f args m2 id K'=some r':=by
   intro h3 hf;generalize hq:imp id m y=q at h3;obtain⟨x,c,m'⟩:=q;obtain⟨Cn,h3⟩:=c_ h3;refine⟨x,m',h3,(rS hq (aG Cn) (λ_ _ _=>rfl)).1,λm2 hr hi K' r' fY=>hf m2 hr K' r' ?_⟩;rw[(rS hq (aG Cn) hi).2];simp only[Cn,ak];exact fY
  cases ic:nf y with
  | true=>
   rw[ic]at h3;exact same h3 (λm2 hm K' r' h=>fin m2 hm K' r' (by rw[ic];exact h))
  | false=>
   rw[ic]at h3;simp only[cond_false]at h3;cases hq:(args.flatMap (jn m)).isEmpty with
   | false=>rw[hq]at h3;cases h3
   | true=>
    rw[hq]at h3;have he:args.flatMap (jn m)=[]:=by simpa using hq
    rw[he]at h3;refine same h3 (λm2 hm K' r' h=>fin m2 hm K' r' ?_);rw[ic,<-Cc (m:=m) hp,he];exact h
theorem Me{l:List Nat}{j:Nat}:pP l j=true↔j∈l:=by
 unfold pP;rw[bR];constructor
 ·rintro⟨x,hx,e⟩;rw[aw e];exact hx
 ·intro h;exact⟨j,h,Nat.beq_refl j⟩
theorem Cb{ord:List Nat}{id:Nat}(h:id ∉ ord):jy ord id=none:=by
 unfold jy;rw[List.findIdx?_eq_none_iff];intro x hx;rw[<-a_];intro e;exact h (aw e ▸ hx)
theorem BK(m:Mem)(id:Nat)(f:Mem)(j:Nat)(hj:¬ (id<=j/\j<id+8)):over m id f j=m j:=by
 unfold over;cases hb:(Nat.ble id j&&Nat.blt j (id+8))with
 | false=>rfl
 | true=>
  rw[ae]at hb;exact absurd ⟨aG hb.1,by simpa using hb.2⟩ hj
theorem Hp(hC:ik C){f:FuncId}{args:List AV}{K:AV->Mem->Option R}(h:gZ G C false f args m id K=some r) :
  ∃x m',K x m'=some r/\(∀(K' : AV->Mem->Option R) r',K' x m'=some r'->gZ G C false f args m id K'=some r')/\
   ∀l,nP G f args m=some l->∀j,j ∉ l->¬ (id<=j/\j<id+8)->m' j=m j:=by
 unfold gZ at h;cases hp:args.any kG with
 | true=>
  rw[hp]at h;simp only[ak,cond_false]at h;unfold t_ at h;obtain⟨UE,NR,h⟩:=cS h;obtain⟨xs,HR,h⟩:=cS h;cases ha:((kv m xs).any λi=>(args.flatMap (Ay m)).contains i)with
  | true=>rw[ha]at h;cases h
  | false=>
   rw[ha]at h;simp only[cond_false]at h;obtain⟨y,h3,h4⟩:=hC _ _ _ _ h;split at h3
   ·rename_i z os;obtain⟨Ld,h3⟩:=c_ h3;refine⟨_,_,h3,λK' r' fY=>?_,λl hl j hj hr=>?_⟩
    ·unfold gZ t_;rw[hp];simp only[ak,cond_false,NR,HR,cX,ha];refine h4 _ _ ?_;simp only[Ld,ak];exact fY
    ·unfold nP at hl;rw[hp]at hl;simp only[ak,NR,HR]at hl;cases hl;rw[aS,not_or]at hj;rw[ae]at Ld;have h8:=Ld.2;unfold Fc at h8;rw[ae,ae]at h8;have h9:=aG h8.1.2;unfold m_;rw[Cb hj.1];have e1:(Nat.ble id j&&Nat.blt j (id+(os.length - ((kv m xs).filter λi=>oB (m i)).length)))=false:=by
      rw[<-a_,ae];rintro⟨a1,a2⟩;have a1:=aG a1;have a2:j<id+(os.length - ((kv m xs).filter λi=>oB (m i)).length):=by simpa using a2
      omega
     have e2:(args.flatMap (Ay m)).contains j=false:=by
      rw[<-a_];intro e;exact hj.2 (by simpa using e)
     rw[e1,e2];rfl
   ·cases h3
 | false=>
  rw[hp]at h;simp only[cond_false]at h;have tk:nP G f args m=some (args.flatMap (jn m)):=by unfold nP;rw[hp];rfl
  cases Dd:G.refs f with
  | true=>
   rw[Dd]at h;simp only[ak]at h;obtain⟨x,m',h1,h2,h3⟩:∃x m',K x m'=some r/\(∀(K' : AV->Mem->Option R) r',K' x m'=some r'->ql C f args m K'=some r')/\∀j,j ∉ args.flatMap (jn m)->m' j=m j:=by
    unfold ql at h;split at h
    ·rename_i j off l rest;obtain⟨b,hm,h⟩:=cS h;split at h
     ·rename_i fl sz xs;obtain⟨hv,h⟩:=c_ h;obtain⟨y,h3,h4⟩:=hC _ _ _ _ h;split at h3
      ·rename_i z iA jL ys;obtain⟨hq,h3⟩:=c_ h3;obtain⟨z',hz,h3⟩:=cS h3;refine⟨_,_,h3,λK' r' fY=>?_,λi hi=>?_⟩
       ·unfold ql;simp only[hm,cX,hv,ak];refine h4 _ _ ?_;simp only[hq,ak,hz];exact fY
       ·refine Mem.dy _ _ ?_;rintro rfl;exact hi (by simp[jn,wD,lG])
      ·cases h3
     ·cases h
    ·cases h
   refine⟨x,m',h1,λK' r' fY=>?_,λl hl j hj _=>h3 j (by rw[tk]at hl;cases hl;exact hj)⟩;unfold gZ;rw[hp,Dd];simp only[ak,cond_false];exact h2 K' r' fY
  | false=>
   rw[Dd]at h;simp only[cond_false]at h;obtain⟨gi,h1,h⟩:=cS h;obtain⟨Tx,h2,h⟩:=cS h;obtain⟨y,h3,h4⟩:=hC _ _ _ _ h;have fin:∀(K' : AV->Mem->Option R) r',(bif nf y then(match imp id m y with|(x,c,m')=>bif Nat.ble c 8 then K' x m' else none)
     else bif false&&!(args.flatMap (jn m)).isEmpty then none
     else(match imp id (nA m (args.flatMap (jn m))) y with | (x,c,m')=>bif Nat.ble c 8 then K' x m' else none))=some r'->gZ G C false f args m id K'=some r':=by
    intro K' r' h;unfold gZ;rw[hp,Dd];simp only[cond_false,h1,h2,cX];exact h4 _ _ h
   cases ic:nf y with
   | true=>
    rw[ic]at h3;simp only[ak]at h3;obtain⟨Cn,h3⟩:=c_ h3;refine⟨_,_,h3,λK' r' fY=>fin K' r' ?_,λl hl j hj hr=>?_⟩
    ·rw[ic];simp only[ak,Cn];exact fY
    ·rw[(rS (m:=m) (x:=y) (y:=(imp id m y).1) (c:=(imp id m y).2.1) (m':=(imp id m y).2.2) rfl (aG Cn) (m2:=m) (λ_ _ _=>rfl)).1];exact BK _ _ _ _ hr
   | false=>
    rw[ic]at h3;simp only[cond_false,Bool.false_and]at h3;obtain⟨Cn,h3⟩:=c_ h3;refine⟨_,_,h3,λK' r' fY=>fin K' r' ?_,λl hl j hj hr=>?_⟩
    ·rw[ic];simp only[cond_false,Bool.false_and,Cn,ak];exact fY
    ·rw[tk]at hl;cases hl;rw[(rS (m:=nA m (args.flatMap (jn m))) (x:=y) (y:=(imp id (nA m (args.flatMap (jn m))) y).1) (c:=(imp id (nA m (args.flatMap (jn m))) y).2.1) (m':=(imp id (nA m (args.flatMap (jn m))) y).2.2) rfl (aG Cn) (m2:=nA m (args.flatMap (jn m))) (λ_ _ _=>rfl)).1];rw[BK _ _ _ _ hr,iV,af hj]
def Oa(R:Type)(G:fv)(C:FuncId->List AV->(AV->Option R)->Option R)(dr:Bool)(o:Oper)(S:List AV)(m:Mem)(id:Nat)(J:Nat->Prop):Prop:=
 ∀(K:AV->Mem->Option R) r,eZ G C dr o S m id K=some r->∃x m',K x m'=some r/\xR G C dr o S m id x m'/\∀j,J j->m' j=m j
theorem CL(hC:ik C){dr:Bool}:Oa R G C dr o S m id (λ_=>False):=λK r h=>by
 obtain⟨x,m',h1,h2⟩:=k8 hC h;exact⟨x,m',h1,h2,λ_ h=>h.elim⟩
theorem yU(hC:ik C){T:List Nat}{J:Nat->Prop}(hc:j8 o.op=true)(hT:nO G o.op S m T=true)(hJ:∀j,J j->pP T j=false/\¬ (id<=j/\j<id+8)):Oa R G C false o S m id J:=by
 intro K r h;cases e_:o.op<;>rw[e_]at hc<;>(try (cases hc;done));rename_i c;cases ic:c.callee with
 | builtin b=>simp[j8,ic]at hc
 | invoke _ _=>simp[j8,ic]at hc
 | value f=>
  cases hf:ev G S f
  case fn g f_=>
   obtain⟨g',us,ht,heq⟩:∃g' us,vy G o.op S m=nP G g' us m/\∀(K:AV->Mem->Option R),eZ G C false o S m id K=gZ G C false g' us m id K:=by
    cases hb:Nat.blt g xn with
    | true=>exact⟨g,c.args.toList.map (ev G S)++f_,by simp only[vy,e_,ic,hf,hb,ak],λK=>by unfold eZ;simp only[e_,ic,hf,hb];rfl⟩
    | false=>exact⟨g - xn,f_++c.args.toList.map (ev G S),by simp only[vy,e_,ic,hf,hb,cond_false],λK=>by unfold eZ;simp only[e_,ic,hf,hb];rfl⟩
   rw[heq]at h;obtain⟨x,m',h1,h2,h3⟩:=Hp hC h;refine⟨x,m',h1,λK' r' fY=>by rw[heq];exact h2 K' r' fY,λj hj=>?_⟩;obtain⟨j1,j2⟩:=hJ j hj;unfold nO at hT;rw[ht]at hT;cases hl:nP G g' us m with
   | some l=>
    rw[hl]at hT;refine h3 l hl j (λhm=>?_) j2;have:=aA.1 hT j hm;rw[j1]at this;cases this
   | none=>
    exfalso
    -- ZN a call aan not aao to an end
    unfold nP at hl;unfold gZ at h;cases hp:us.any kG with
    | false=>rw[hp]at hl;cases hl
    | true=>
     rw[hp]at hl h;simp only[ak,cond_false]at hl h;unfold t_ at h;obtain⟨UE,NR,h⟩:=cS h;obtain⟨xs,HR,h⟩:=cS h;simp only[NR,HR]at hl;cases hl
  all_goals (exfalso;unfold eZ at h;simp only[e_,ic,hf]at h;cases h)
end
section
variable {R:Type} {G:fv} {S S' : List AV} {m m' m2:Mem} {id:Nat} {C:FuncId->List AV->(AV->Option R)->Option R} {o:Oper} {r:R}
theorem ka{x:AV}{j:Nat}(h:j∈eD x):j∈eo x:=by
 cases x<;>first|exact h|(simp[eD]at h)
theorem DP(hC:ik C)(hl:lg o.op=true)(Mm:lF G o.op=false){K:AV->Mem->Option R}(h:eZ G C true o S m id K=some r) :
  ∃x m',K x m'=some r/\m'=over m id m'/\∀m2 S',(∀y∈o.op.operands,ev G S y=ev G S' y)->(∀y∈o.op.operands,∀j∈eo (ev G S y),m2 j=m j)->(∀j,id<=j->j<id+8->m2 j=m j)->
   xR G C true o S' m2 id x (over m2 id m'):=by
 have fin:∀{x:AV} {m' : Mem} {m2:Mem} {S' : List AV},(∀y∈o.op.operands,ev G S y=ev G S' y)->(∀(K' : AV->Mem->Option R) r',K' x (over m2 id m')=some r'->eZ G C true o S m2 id K'=some r')->xR G C true o S' m2 id x (over m2 id m'):=by
  intro x m' m2 S' hs hd K' r' fY;rw[<-fy hs];exact hd K' r' fY
 have ops:(gG o.op=true\/n5 o.op=true)->(∀m K,eZ G C true o S m id K=fM G o.op S m id K)->∃x m',K x m'=some r/\m'=over m id m'/\∀m2 S',(∀y∈o.op.operands,ev G S y=ev G S' y)->(∀y∈o.op.operands,∀j∈eo (ev G S y),m2 j=m j)->(∀j,id<=j->j<id+8->m2 j=m j)->
   xR G C true o S' m2 id x (over m2 id m'):=by
  intro hrm heq;rw[heq]at h;obtain⟨x,m',h1,h2,h3⟩:=Jp hrm h;exact⟨x,m',h1,h2,λm2 S' hs hr hi=>fin hs (λK' r' fY=>by
   rw[heq];exact h3 m2 (λy hy j hj=>hr y hy j (ka hj)) hi K' r' fY)⟩
 simp only[lg,bC]at hl;cases e_:o.op
 case call c=>
  cases hc:c.callee with
  | value f=>
   cases hf:ev G S f
   case fn g f_=>
    have fF:f_.all AV.okB=true:=by
     unfold eZ at h;simp only[e_,hc,hf]at h;cases hb:f_.all AV.okB with
     | true=>rfl
     | false=>rw[hb]at h;cases h
    obtain⟨g',us,has,heq⟩:∃g' us,(∀y∈us,y∈c.args.toList.map (ev G S)\/y∈f_)/\∀m K,eZ G C true o S m id K=gZ G C true g' us m id K:=by
     cases hb:Nat.blt g xn with
     | true=>exact⟨g,_,λy hy=>aS.1 hy,λm K=>by unfold eZ;simp only[e_,hc,hf,fF,hb];rfl⟩
     | false=>exact⟨g - xn,f_++c.args.toList.map (ev G S),λy hy=>(aS.1 hy).symm,λm K=>by unfold eZ;simp only[e_,hc,hf,fF,hb];rfl⟩
    rw[heq]at h;obtain⟨x,m',h1,h2,h3⟩:=Ex hC h;refine⟨x,m',h1,h2,λm2 S' hs hr hi=>?_⟩;rw[<-e_]at hs hr;refine fin hs (λK' r' fY=>?_);rw[heq];refine h3 m2 (λy hy j hj=>?_) hi K' r' fY;rcases has y hy with hy|hy
    ·obtain⟨q,hq,rfl⟩:=cD.1 hy;refine hr q ?_ j hj;rw[e_];simp only[Op.operands,Call.operands];exact Array.mem_append.2 (.inr (by simpa using hq))
    ·refine hr f ?_ j ?_
     ·rw[e_];simp[Op.operands,Call.operands,hc]
     ·rw[hf];have O8:=aA.1 fF y hy;refine aY.2 ⟨y,hy,?_⟩;cases y<;>first|exact hj|(simp[AV.okB,AV.pG]at O8)
   all_goals (exfalso;unfold eZ at h;simp only[e_,hc,hf]at h;cases h)
  | builtin b=>
   rw[<-e_];refine ops ?_ (λm K=>by unfold eZ;simp only[e_,hc]);rcases hl with(hl|hl)|hl
   ·exact hl
   ·rw[e_]at hl;simp[j8,hc]at hl
   ·rw[e_]at hl;simp[oc]at hl
  | invoke _ _=>rw[e_]at hl;simp[gG,n5,j8,oc,hc]at hl
 case buildSlice t n parts=>
  have xD:((parts.toList.map fun(_,x)=>ev G S x).flatMap jD)=[]:=by
   have qa:BZ G t=false:=by
    rw[e_]at Mm;unfold lF at Mm;rw[bw]at Mm;exact Mm.2
   unfold eZ at h;simp only[e_,qa,cH]at h;cases hb:((parts.toList.map fun(_,x)=>ev G S x).flatMap jD).isEmpty with
   | true=>simpa using hb
   | false=>rw[hb]at h;cases h
  have heq:∀m K,eZ G C true o S m id K=fM G o.op S m id K:=by
   intro m K;unfold eZ;simp only[e_,xD];cases BZ G t<;>rfl
  rw[heq]at h;obtain⟨x,m',h1,h2,h3⟩:=yE (by rw[e_];exact λma mb _ _=>BU xD) h;refine⟨x,m',h1,h2,λm2 S' hs hr hi=>fin (by rw[e_];exact hs) (λK' r' fY=>?_)⟩;rw[heq];exact h3 m2 (λy hy j hj=>hr y (by rw[e_]at hy;exact hy) j (ka hj)) hi K' r' fY
 case store t p x=>exfalso;rw[e_]at hl;simp[gG,n5,j8,oc]at hl
 all_goals
  rw[<-e_];refine ops ?_ (λm K=>by unfold eZ;simp only[e_]);rcases hl with(hl|hl)|hl
  ·exact hl
  ·rw[e_]at hl;simp[j8]at hl
  ·rw[e_]at hl;simp[oc]at hl
theorem vX(hC:ik C)(hl:fI o.op=true){K:AV->Mem->Option R}(h:eZ G C true o S m id K=some r) :
  ∃x m' ks f,K x m'=some r/\m'=over (kill m f ks) id m'/\(∀j∈ks,lF G o.op=true/\(∃y∈o.op.operands,j∈eo (ev G S y))/\iw (f j)=iw (m j)/\(iw (m j)=false\/∃t p x off,o.op=.store t p x/\ev G S p=.ptr j off))/\
   ∀m2 S',(∀y∈o.op.operands,ev G S y=ev G S' y)->(∀y∈o.op.operands,∀j∈eo (ev G S y),m2 j=m j)->(∀j,id<=j->j<id+8->m2 j=m j)->
   xR G C true o S' m2 id x (over (kill m2 f ks) id m'):=by
 have fin:∀{D:AV->List Nat},(∀{x:AV} {j:Nat},j∈D x->j∈eo x)->lF G o.op=true->(∀m K,eZ G C true o S m id K=fM G o.op S m id K)->K0 G S o.op m id K r D->∃x m' ks f,K x m'=some r/\m'=over (kill m f ks) id m'/\(∀j∈ks,lF G o.op=true/\(∃y∈o.op.operands,j∈eo (ev G S y))/\iw (f j)=iw (m j)/\(iw (m j)=false\/∃t p x off,o.op=.store t p x/\ev G S p=.ptr j off))/\
   ∀m2 S',(∀y∈o.op.operands,ev G S y=ev G S' y)->(∀y∈o.op.operands,∀j∈eo (ev G S y),m2 j=m j)->(∀j,id<=j->j<id+8->m2 j=m j)->
   xR G C true o S' m2 id x (over (kill m2 f ks) id m'):=by
  intro D hD hk heq hF;obtain⟨x,m',ks,f,h1,h2,h3,h4⟩:=hF;refine⟨x,m',ks,f,h1,h2,λj hj=>?_,λm2 S' hs hr hi K' r' fY=>?_⟩
  ·obtain⟨⟨y,hy,hyj⟩,h5,h6⟩:=h3 j hj;exact⟨hk,⟨y,hy,hD hyj⟩,h5,h6⟩
  ·rw[<-fy hs,heq];exact h4 m2 (λy hy j hj=>hr y hy j (hD hj)) hi _ _ fY
 cases N3:pr o.op with
 | true=>
  have rT:∀t p x,o.op=.store t p x->(tS (ev G S p)=true/\jD (ev G S x)=[])\/D7 (ev G S p)=true:=by
   intro t p x e_;unfold eZ at h;simp only[e_]at h;cases hb:((tS (ev G S p)&&(jD (ev G S x)).isEmpty)||D7 (ev G S p))with
   | true=>
    rw[bC,ae]at hb;rcases hb with hb|hb
    ·exact .inl ⟨hb.1,by simpa using hb.2⟩
    ·exact .inr hb
   | false=>rw[hb]at h;cases h
  have heq:∀m K,eZ G C true o S m id K=fM G o.op S m id K:=by
   intro m K;cases e_:o.op
   case store t p x=>
    have hb:((tS (ev G S p)&&(jD (ev G S x)).isEmpty)||D7 (ev G S p))=true:=by
     rcases rT t p x e_ with⟨s1,s2⟩|s1
     ·rw[s1,s2];rfl
     ·rw[s1,Bool.or_true]
    unfold eZ;simp only[e_,hb];rfl
   case call c=>
    unfold eZ;simp only[e_];rw[e_]at N3;cases hc:c.callee
    case builtin b=>simp only
    all_goals (exfalso;simp[pr,hc]at N3)
   all_goals (exfalso;rw[e_]at N3;simp[pr]at N3)
  rw[heq]at h;exact fin ka (by unfold lF;rw[N3,Bool.true_or]) heq (KU N3 rT h)
 | false=>
  have hl:lg o.op=true:=by
   unfold fI at hl;rw[N3,Bool.or_false]at hl;exact hl
  cases hk:lF G o.op with
  | false=>
   obtain⟨x,m',h1,h2,h3⟩:=DP hC hl hk h;have hn:∀m:Mem,kill m (λ_=>none) []=m:=λm=>by funext j;exact fA (by simp)
   exact⟨x,m',[],λ_=>none,h1,by rw[hn];exact h2,by simp,λm2 S' a b c=>by rw[hn];exact h3 m2 S' a b c⟩
  | true=>
   have sV:=hk;unfold lF at sV;rw[N3,cH]at sV;cases e_:o.op<;>rw[e_]at sV<;>(try (cases sV;done));rename_i t len parts;have heq:∀m K,eZ G C true o S m id K=fM G o.op S m id K:=by
    intro m K;unfold eZ;simp only[e_,sV];rfl
   rw[heq,e_]at h;rw[<-e_];have h9:=fin (D:=eo) (λh=>h) hk heq (by rw[e_];exact Ez h);rw[hk]at h9;exact h9
end
section
variable {R:Type} {G:fv} {S S' : List AV} {m m' m2:Mem} {C:FuncId->List AV->(AV->Option R)->Option R} {dr:Bool} {o:Oper} {r:R} {all:List Oper} {n i:Nat}
def want(all:List Oper)(S:List AV)(o:Oper):Option Bool:=
 match o.guard with
 | none=>some true
 | some (g,w)=>match all[g]? with
  | some og=>match og.dst with
   | some d=>match S.getD d .undef with
    | .v (.bool p)=>some (p==w)
    | .eC []=>some false
    | _=>none
   | none=>none
  | none=>none
theorem ID{S:List AV}{d:Nat}{p:Bool}(h:S.getD d .undef=vb p):S.set d (vb p)=S:=by
 apply List.ext_getElem?;intro t;rw[List.getElem?_set];by_cases e:d=t
 ·subst e;rw[ah]at h;cases hs:S[d]? with
  | none=>rw[hs]at h;cases h
  | some y=>
   rw[hs]at h;have eT:=(aE.1 hs).1;simp at h;simp[eT,h]
 ·simp[e]
theorem eH{K:List AV->Mem->Option R}(ho:all[i]?=some o):lM G C dr all n i S m K=match want all S o with
  | some true=>eZ G C dr o S m (8*(n+i)) λx m=>K (put S o.dst x) m
  | some false=>K (put S o.dst (.eC [])) m
  | none=>none:=by
 unfold lM want;simp only[ho];cases hg:o.guard with
 | none=>simp only
 | some gw=>
  obtain⟨g,w⟩:=gw;simp only;cases T2:all[g]? with
  | none=>simp only
  | some og=>
   simp only;cases hd:og.dst with
   | none=>simp only
   | some d=>
    simp only;generalize hx:S.getD d .undef=X;cases X with
    | v y=>
     cases y with
     | bool p=>
      simp only[gm];cases p<;>cases w<;>simp[ID hx]
     | _=>simp only[gm]
    | eC xs=>
     cases xs with
     | nil=>simp only
     | cons=>simp only[gm]
    | _=>simp only[gm]
end
section
variable {R:Type} {G:fv} {S S' : List AV} {m m' m2:Mem} {C:FuncId->List AV->(AV->Option R)->Option R} {dr:Bool} {o:Oper} {r:R} {ops:Array Oper} {n i:Nat}
theorem PM{d:Option Tmp}{v:AV}{x:Operand}(h:∀t,d=some t->x≠.tmp t):ev G (put S d v) x=ev G S x:=by
 cases d with
 | none=>rfl
 | some t=>
  cases x with
  | tmp k=>
   have gN:t≠k:=λe=>h t rfl (e ▸ rfl);simp only[ev,put,ah,List.getElem?_set_ne gN]
  | _=>rfl
theorem Jo{o:Oper}{d:Option Tmp}(h:∀t,d=some t->t ∉ o.looksAt ops):∀x∈o.op.operands,∀t,d=some t->x≠.tmp t:=by
 intro x hx t ht e;subst e;exact h t ht (List.mem_append_left _ (List.mem_filterMap.2 ⟨.tmp t,by simpa using hx,rfl⟩))
theorem sa{o:Oper}{d:Option Tmp}{v:AV}(h:∀t,d=some t->t ∉ o.looksAt ops):∀x∈o.op.operands,ev G (put S d v) x=ev G S x:=
 λx hx=>PM (Jo h x hx)
theorem Ba{o:Oper}{d:Option Tmp}{v:AV}(h:∀t,d=some t->t ∉ o.looksAt ops):want ops.toList (put S d v) o=want ops.toList S o:=by
 cases d with
 | none=>rfl
 | some t=>
  unfold want;cases hg:o.guard with
  | none=>rfl
  | some gw=>
   obtain⟨g,w⟩:=gw;simp only;cases T2:ops.toList[g]? with
   | none=>rfl
   | some og=>
    simp only;cases hd:og.dst with
    | none=>rfl
    | some k=>
     have Mj : ops[g]?=some og:=by rw[<-T2];simp
     have gN:t≠k:=λe=>h t rfl (by subst e;simp[Oper.looksAt,hg,Mj,hd]);have e:(put S (some t) v).getD k .undef=S.getD k .undef:=by simp only[put,ah,List.getElem?_set_ne gN]
     simp only[e]
theorem put_comm{d e:Option Tmp}{v u:AV}(h:∀t,d=some t->e≠some t):put (put S d v) e u=put (put S e u) d v:=by
 cases d with
 | none=>rfl
 | some t=>
  cases e with
  | none=>rfl
  | some k=>
   have gN:t≠k:=λhh=>h t rfl (hh ▸ rfl);simp only[put];exact List.set_comm _ _ gN
end
section
variable {R:Type} {G:fv} {S S' : List AV} {m m' m2:Mem} {C:FuncId->List AV->(AV->Option R)->Option R} {o:Oper} {r:R} {ops:Array Oper} {n:Nat} {tb:Nat->Bool}
theorem qx{dr:Bool}{id:Nat}(h:i_ o.op=true){K:AV->Mem->Option R}(hK:eZ G C dr o S m id K=some r) :
  ∃x,K x m=some r/\∀m2 Tl,xR G C Tl o S m2 id x m2:=by
 have heq:∀dr m id (K:AV->Mem->Option R),eZ G C dr o S m id K=fM G o.op S m id K:=by
  intro dr m id K;unfold eZ;cases e_:o.op
  case call c=>
   rw[e_]at h;cases hc:c.callee with
   | value f=>simp[i_,hc]at h
   | _=>simp only[hc]
  case buildSlice t n ps=>rw[e_]at h;cases h
  case store t p x=>rw[e_]at h;cases h
  all_goals rfl
 rw[heq,BM (m2:=m) o.op K h,aL]at hK;obtain⟨x,h1,h2⟩:=hK;refine⟨x,h2,λm2 Tl K' r' fY=>?_⟩;rw[heq,BM (m2:=m) o.op K' h,h1];exact fY
theorem qu{dr:Bool}{id:Nat}(h:gG o.op=true){K:AV->Mem->Option R}(hK:eZ G C dr o S m id K=some r) :
  ∃x,K x m=some r/\∀m2 Tl,(∀y∈o.op.operands,∀j∈eD (ev G S y),m2 j=m j)->xR G C Tl o S m2 id x m2:=by
 have heq:∀dr m id (K:AV->Mem->Option R),eZ G C dr o S m id K=fM G o.op S m id K:=by
  intro dr m id K;unfold eZ;cases e_:o.op
  case call c=>
   rw[e_]at h;cases hc:c.callee with
   | value f=>simp[gG,hc]at h
   | _=>simp only[hc]
  case buildSlice t n ps=>rw[e_]at h;cases h
  case store t p x=>rw[e_]at h;cases h
  all_goals rfl
 rw[heq,rA (m2:=m) o.op K h (λ_ _ _ _=>rfl),aL]at hK;obtain⟨x,h1,h2⟩:=hK;refine⟨x,h2,λm2 Tl hm K' r' fY=>?_⟩;rw[heq,rA (m:=m2) (m2:=m) o.op K' h (λy hy j hj=>(hm y hy j hj).symm),h1];exact fY
theorem Lw(hC:ik C){a b:Nat}{p q:Oper}{da db:Bool}{K:List AV->Mem->Option R}(hp:ops.toList[a]?=some p)(hq:ops.toList[b]?=some q)(hab:a≠b)(Ua:p.apart ops q=true)
  (WH:i_ p.op=true\/i_ q.op=true\/(fI p.op=true/\fI q.op=true/\da=true/\db=true/\
   (∀y∈p.op.operands,∀j∈eo (ev G S y),¬ (8*(n+b)<=j/\j<8*(n+b)+8))/\(∀y∈q.op.operands,∀j∈eo (ev G S y),¬ (8*(n+a)<=j/\j<8*(n+a)+8))/\
   (lF G p.op=true->∀y∈q.op.operands,∀j∈eo (ev G S y),iw (m j)=true)/\(lF G q.op=true->∀y∈p.op.operands,∀j∈eo (ev G S y),iw (m j)=true)/\
   (stOp p.op=true->∀y∈q.op.operands,∀j∈eo (ev G S y),tb j=false)/\(stOp q.op=true->∀y∈p.op.operands,∀j∈eo (ev G S y),tb j=false)/\xr G tb S p.op=true/\xr G tb S q.op=true)\/
   (gG p.op=true/\Oa R G C db q S m (8*(n+b)) (λj=>∃z∈p.op.operands,j∈eD (ev G S z)))\/(gG q.op=true/\Oa R G C da p S m (8*(n+a)) (λj=>∃z∈q.op.operands,j∈eD (ev G S z))))
  (h:lM G C da ops.toList n a S m (λS1 m1=>lM G C db ops.toList n b S1 m1 K)=some r) :
  lM G C db ops.toList n b S m (λS1 m1=>lM G C da ops.toList n a S1 m1 K)=some r:=by
 obtain⟨h1,h2,h3⟩:=Oper.apart_spec Ua;rw[eH hq];rw[eH hp]at h;have cq:∀(v:AV),want ops.toList (put S p.dst v) q=want ops.toList S q:=λv=>Ba h1;have cp:∀(v:AV),want ops.toList (put S q.dst v) p=want ops.toList S p:=λv=>Ba h3;have eq:∀(v:AV),∀x∈q.op.operands,ev G (put S p.dst v) x=ev G S x:=λv=>sa h1;have ep:∀(v:AV),∀x∈p.op.operands,ev G (put S q.dst v) x=ev G S x:=λv=>sa h3;cases wp:want ops.toList S p with
 | none=>rw[wp]at h;cases h
 | some bp=>
  rw[wp]at h;cases bp with
  | false=>
   simp only at h;rw[eH hq,cq]at h;cases wq:want ops.toList S q with
   | none=>rw[wq]at h;cases h
   | some bq=>
    rw[wq]at h;cases bq with
    | false=>
     simp only at h ⊢;rw[eH hp,cp,wp];simp only;rw[<-put_comm h2];exact h
    | true=>
     simp only at h ⊢;rw[fy (eq _)]at h;obtain⟨x,m1,k1,k2⟩:=k8 hC h;refine k2 _ _ ?_;rw[eH hp,cp,wp];simp only;rw[<-put_comm h2];exact k1
  | true=>
   simp only at h;cases wq:want ops.toList S q with
   | none=>
    obtain⟨x,m1,k1,_⟩:=k8 hC h;rw[eH hq,cq,wq]at k1;cases k1
   | some bq=>
    cases bq with
    | false=>
     obtain⟨x,m1,k1,k2⟩:=k8 hC h;rw[eH hq,cq,wq]at k1;simp only at k1 ⊢;rw[eH hp,cp,wp];simp only;rw[fy (ep _)];refine k2 _ _ ?_;rw[<-put_comm h2];exact k1
    | true=>
     simp only;rcases WH with V5|V5|⟨l1,l2,rfl,rfl,ra,rb,bq,bp,sq,sp,tp,tq⟩|⟨Ed,Pm⟩|⟨Ed,Pm⟩
     ·obtain⟨x,k1,k2⟩:=qx V5 h;rw[eH hq,cq,wq]at k1;simp only at k1;rw[fy (eq _)]at k1;obtain⟨y,m2,k3,k4⟩:=k8 hC k1;refine k4 _ _ ?_;rw[eH hp,cp,wp];simp only;rw[fy (ep _)];refine k2 m2 _ _ _ ?_;rw[<-put_comm h2];exact k3
     ·obtain⟨x,m1,k1,k2⟩:=k8 hC h;rw[eH hq,cq,wq]at k1;simp only at k1;rw[fy (eq _)]at k1;obtain⟨y,k3,k4⟩:=qx V5 k1;refine k4 m _ _ _ ?_;rw[eH hp,cp,wp];simp only;rw[fy (ep _)];refine k2 _ _ ?_;rw[<-put_comm h2];exact k3
     ·have GQ:8*(n+a)+8<=8*(n+b)\/8*(n+b)+8<=8*(n+a):=by omega
      have out:∀(m:Mem) (id:Nat) (f:Mem) (j:Nat),¬ (id<=j/\j<id+8)->over m id f j=m j:=by
       intro m id f j hj;unfold over;cases hb:(Nat.ble id j&&Nat.blt j (id+8))with
       | false=>rfl
       | true=>
        rw[ae]at hb;exact absurd ⟨aG hb.1,by simpa using hb.2⟩ hj
      have X1:∀{o:Oper} {j:Nat},xr G tb S o.op=true->(∃t p x off,o.op=.store t p x/\ev G S p=.ptr j off)->stOp o.op=true/\tb j=true:=by
       rintro o j ht ⟨t,p,x,off,e1,e2⟩;rw[e1]at ht ⊢;simp only[xr,e2]at ht;exact⟨rfl,ht⟩
      obtain⟨x,m1,kp,fp,k1,e1,j1,k2⟩:=vX hC l1 h;rw[eH hq,cq,wq]at k1;simp only at k1;rw[fy (eq _)]at k1;obtain⟨y,m2,kq,fq,k3,e2,j2,k4⟩:=vX hC l2 k1
      -- Oi is Uh by 'p' is not looked at by 'q',nor one of its own ids;and F4 other way round
      have p1:∀j∈kp,(∀z∈q.op.operands,j ∉ eo (ev G S z))/\¬ (8*(n+b)<=j/\j<8*(n+b)+8):=by
       intro j hj;obtain⟨ha,⟨z,hz,RN⟩,_,iR⟩:=j1 j hj;refine⟨λz' Dc mK=>?_,ra z hz j RN⟩;rcases iR with iR|iR
       ·rw[bq ha z' Dc j mK]at iR;cases iR
       ·obtain⟨t1,t2⟩:=X1 tp iR;rw[sq t1 z' Dc j mK]at t2;cases t2
      have q1:∀j∈kq,(∀z∈p.op.operands,j ∉ eo (ev G S z))/\¬ (8*(n+a)<=j/\j<8*(n+a)+8):=by
       intro j hj;obtain⟨ha,⟨z,hz,RN⟩,_,iR⟩:=j2 j hj;have R_:=rb z hz j RN;refine⟨λz' Dc mK=>?_,R_⟩;rcases iR with iR|iR
       ·rw[e1,out _ _ _ _ R_]at iR;have hb:=bp ha z' Dc j mK;by_cases Ml:j∈kp
        ·rw[l_ Ml,(j1 j Ml).2.2.1,hb]at iR;cases iR
        ·rw[fA Ml,hb]at iR;cases iR
       ·obtain⟨t1,t2⟩:=X1 tq iR;rw[sp t1 z' Dc j mK]at t2;cases t2
      have aq:∀z∈q.op.operands,∀j∈eo (ev G S z),m j=m1 j:=by
       intro z hz j hj;rw[e1,out _ _ _ _ (rb z hz j hj),fA (λe=>(p1 j e).1 z hz hj)]
      have ao:∀j,8*(n+b)<=j->j<8*(n+b)+8->m j=m1 j:=by
       intro j Wk GM;rw[e1,out _ _ _ _ (by omega),fA (λe=>(p1 j e).2 ⟨Wk,GM⟩)]
      refine k4 m S (λ_ _=>rfl) aq ao _ _ ?_;rw[eH hp,cp,wp];simp only;refine k2 _ _ (λz hz=>(ep _ z hz).symm) (λz hz j hj=>?_) (λj Wk GM=>?_) _ _ ?_
      ·rw[out _ _ _ _ (ra z hz j hj),fA (λe=>(q1 j e).1 z hz hj)]
      ·rw[out _ _ _ _ (by omega),fA (λe=>(q1 j e).2 ⟨Wk,GM⟩)]
      ·have e3:over (kill (over (kill m fq kq) (8*(n+b)) m2) fp kp) (8*(n+a)) m1=m2:=by
        rw[e2];funext j;by_cases ha:8*(n+a)<=j/\j<8*(n+a)+8
        ·have hb:¬ (8*(n+b)<=j/\j<8*(n+b)+8):=by omega
         rw[out _ (8*(n+b)) _ _ hb,fA (λe=>(q1 j e).2 ha)];have:(Nat.ble (8*(n+a)) j&&Nat.blt j (8*(n+a)+8))=true:=by
          rw[ae];exact⟨cb ha.1,by have:=ha.2;simp[Nat.blt];omega⟩
         simp only[over,this,ak]
        ·rw[out _ (8*(n+a)) _ _ ha];by_cases hb:8*(n+b)<=j/\j<8*(n+b)+8
         ·rw[fA (λe=>(p1 j e).2 hb)];have:(Nat.ble (8*(n+b)) j&&Nat.blt j (8*(n+b)+8))=true:=by
           rw[ae];exact⟨cb hb.1,by have:=hb.2;simp[Nat.blt];omega⟩
          simp only[over,this,ak]
         ·rw[out _ (8*(n+b)) m2 j hb];have Yz:m1 j=(kill m fp kp) j:=by rw[e1,out _ _ _ _ ha]
          by_cases Ml:j∈kp
          ·have Qz:j ∉ kq:=by
            intro e;obtain⟨_,⟨z,hz,RN⟩,_⟩:=j1 j Ml;exact(q1 j e).1 z hz RN
           rw[l_ Ml,fA Qz,Yz,l_ Ml]
          ·rw[fA Ml,out _ _ _ _ hb];by_cases Qz:j∈kq
           ·rw[l_ Qz,l_ Qz]
           ·rw[fA Qz,fA Qz,Yz,fA Ml]
       rw[e3,<-put_comm h2];exact k3
     ·obtain⟨x,k1,k2⟩:=qu Ed h;rw[eH hq,cq,wq]at k1;simp only at k1;rw[fy (eq _)]at k1;obtain⟨y,m2,k3,k4,k5⟩:=Pm _ _ k1;refine k4 _ _ ?_;rw[eH hp,cp,wp];simp only;rw[fy (ep _)];refine k2 m2 _ (λz hz j hj=>k5 j ⟨z,hz,hj⟩) _ _ ?_;rw[<-put_comm h2];exact k3
     ·obtain⟨x,m1,k1,k2,k5⟩:=Pm _ _ h;rw[eH hq,cq,wq]at k1;simp only at k1;rw[fy (eq _)]at k1;obtain⟨y,k3,k4⟩:=qu Ed k1;refine k4 m _ (λz hz j hj=>(k5 j ⟨z,hz,hj⟩).symm) _ _ ?_;rw[eH hp,cp,wp];simp only;rw[fy (ep _)];refine k2 _ _ ?_;rw[<-put_comm h2];exact k3
end
section
variable {R:Type} {P:Program} {G:fv} {S S' : List AV} {m m' m2:Mem} {C:FuncId->List AV->(AV->Option R)->Option R} {o:Oper} {r:R} {ops:Array Oper} {n:Nat} {tb:Nat->Bool} {pc T:List Nat} {W0:fh} {F0:Nat->Prop} {a:Act} {w:World}
theorem F5(hC:ik C){dr:Bool}{i:Nat}{K:List AV->Mem->Option R}(h:lM G C dr ops.toList n i S m K=some r) :
  ∃o x m1,ops.toList[i]?=some o/\K (put S o.dst x) m1=some r/\∀(K' : List AV->Mem->Option R) r',K' (put S o.dst x) m1=some r'->lM G C dr ops.toList n i S m K'=some r':=by
 cases ho:ops.toList[i]? with
 | none=>unfold lM at h;rw[ho]at h;cases h
 | some o=>
  rw[eH ho]at h;cases hw:want ops.toList S o with
  | none=>rw[hw]at h;cases h
  | some b=>
   rw[hw]at h;cases b with
   | false=>exact⟨o,.eC [],m,rfl,h,λK' r' fY=>by rw[eH ho,hw];exact fY⟩
   | true=>
    obtain⟨x,m1,k1,k2⟩:=k8 hC h;exact⟨o,x,m1,rfl,k1,λK' r' fY=>by rw[eH ho,hw];exact k2 _ _ fY⟩
theorem tE(hC:ik C){dr:Bool}{i:Nat}{J:Nat->Prop}(hF:∀o,ops.toList[i]?=some o->Oa R G C dr o S m (8*(n+i)) J){K:List AV->Mem->Option R}(h:lM G C dr ops.toList n i S m K=some r) :
  ∃o x m1,ops.toList[i]?=some o/\K (put S o.dst x) m1=some r/\(∀(K' : List AV->Mem->Option R) r',K' (put S o.dst x) m1=some r'->lM G C dr ops.toList n i S m K'=some r')/\
   (i_ o.op=true->m1=m)/\(gG o.op=true->m1=m)/\(fI o.op=true->dr=true->∃ks f,m1=over (kill m f ks) (8*(n+i)) m1/\∀j∈ks,iw (f j)=iw (m j))/\(dr=false->∀j,J j->m1 j=m j):=by
 have DV:∀m:Mem,∃ks f,m=over (kill m f ks) (8*(n+i)) m/\∀j∈ks,iw (f j)=iw (m j):=λm=>
  ⟨[],λ_=>none,by rw[show kill m (λ_=>none) []=m from by funext j;exact fA (by simp)];exact(over_self m _).symm,by simp⟩
 cases ho:ops.toList[i]? with
 | none=>unfold lM at h;rw[ho]at h;cases h
 | some o=>
  rw[eH ho]at h;cases hw:want ops.toList S o with
  | none=>rw[hw]at h;cases h
  | some b=>
   rw[hw]at h;cases b with
   | false=>exact⟨o,.eC [],m,rfl,h,λK' r' fY=>by rw[eH ho,hw];exact fY,λ_=>rfl,λ_=>rfl,λ_ _=>DV m,λ_ _ _=>rfl⟩
   | true=>
    by_cases hp:i_ o.op=true
    ·obtain⟨x,k1,k2⟩:=qx hp h;exact⟨o,x,m,rfl,k1,λK' r' fY=>by rw[eH ho,hw];exact k2 _ _ _ _ fY,λ_=>rfl,λ_=>rfl,λ_ _=>DV m,λ_ _ _=>rfl⟩
    ·by_cases Ed:gG o.op=true
     ·obtain⟨x,k1,k2⟩:=qu Ed h;exact⟨o,x,m,rfl,k1,λK' r' fY=>by rw[eH ho,hw];exact k2 m _ (λ_ _ _ _=>rfl) _ _ fY,λ_=>rfl,λ_=>rfl,λ_ _=>DV m,λ_ _ _=>rfl⟩
     ·by_cases hm:fI o.op=true/\dr=true
      ·obtain⟨hm,rfl⟩:=hm;obtain⟨x,m1,k,b,k1,e1,j1,k2⟩:=vX hC hm h;refine⟨o,x,m1,rfl,k1,λK' r' fY=>?_,λhh=>absurd hh hp,λhh=>absurd hh Ed,λ_ _=>⟨k,b,e1,λj hj=>(j1 j hj).2.2.1⟩,λhh=>by cases hh⟩;rw[eH ho,hw];refine k2 m S (λ_ _=>rfl) (λ_ _ _ _=>rfl) (λ_ _ _=>rfl) _ _ ?_;rw[<-e1];exact fY
      ·obtain⟨x,m1,k1,k2,k3⟩:=hF o ho _ _ h;exact⟨o,x,m1,rfl,k1,λK' r' fY=>by rw[eH ho,hw];exact k2 _ _ fY,λhh=>absurd hh hp,λhh=>absurd hh Ed,λh1 h2=>absurd ⟨h1,h2⟩ hm,λ_=>k3⟩
theorem BI{i:Nat}{o:Oper}{d:Option Tmp}{v:AV}(ho:ops[i]?=some o)(h:∀t,d=some t->t ∉ o.looksAt ops):pZ G ops tb n i (put S d v) m=pZ G ops tb n i S m:=by
 unfold pZ;rw[ho];simp only;have e:=λx hx=>sa (G:=G) (S:=S) (v:=v) h x hx;have est:xr G tb (put S d v) o.op=xr G tb S o.op:=by
  cases e_:o.op<;>(try rfl);rename_i t p x;unfold xr;simp only;rw[e p (by rw[e_];simp[Op.operands])]
 rw[est];congr 1;congr 1;rw[cA,aA,aA];constructor
 ·intro hh x hx;rw[<-e x (by simpa using hx)];exact hh x hx
 ·intro hh x hx;rw[e x (by simpa using hx)];exact hh x hx
theorem zh(hd:wU ops=true):∀(f i p:Nat),before ops f i p=true->p<i
 | 0,i,p,h=>by cases h
 | f+1,i,p,h=>by
  unfold before at h;cases ho:ops[i]? with
  | none=>rw[ho]at h;cases h
  | some o=>
   rw[ho]at h;have hi:i<ops.size:=(bn.1 ho).1;have h1:=aA.1 hd i (bM.2 hi);simp only[ho]at h1;rw[ae]at h1;have eT:∀e∈o.after.toList,Region.binds .any e=true->e.on<i:=λe he hb=>by
    have:=aA.1 h1.1 e he;rw[hb]at this;exact aG this
   rw[bC]at h;rcases h with h|h
   ·unfold uw at h;obtain⟨e,he,h⟩:=bR.1 h;rw[ae]at h;have:=aw h.1;have:=eT e he h.2;omega
   ·obtain⟨e,he,h⟩:=bR.1 h;rw[ae]at h;have:=eT e he h.1;have:=zh hd f e.on p h.2;omega
theorem Ae(acc:List Nat)(i p:Nat):∀(es:List Edge) (m:Nat),Nat.testBit (Nx acc i es m) p=true->Nat.testBit m p=true\/∃e∈es,Region.binds .any e=true/\e.on<i/\(e.on=p\/Nat.testBit (acc.getD (i - 1 - e.on) 0) p=true)
 | [],m,h=>.inl h
 | e::es,m,h=>by
  unfold Nx at h;cases hb:(Region.binds .any e&&Nat.blt e.on i)with
  | false=>
   rw[hb]at h;rcases Ae acc i p es m h with h|⟨e',QE,h⟩
   ·exact .inl h
   ·exact .inr ⟨e',bS _ QE,h⟩
  | true=>
   rw[hb]at h;rw[ae]at hb;have eT:e.on<i:=aG hb.2;rcases Ae acc i p es _ h with h|⟨e',QE,h⟩
   ·rw[Nat.testBit_or,Nat.testBit_or,bC,bC]at h;rcases h with h|h|h
    ·exact .inl h
    ·refine .inr ⟨e,bZ ..,hb.1,eT,.inl ?_⟩;rw[Nat.testBit_shiftLeft,ae,Nat.testBit_one_eq_true_iff_self_eq_zero]at h;have h1:=bj h.1;omega
    ·exact .inr ⟨e,bZ ..,hb.1,eT,.inr h⟩
   ·exact .inr ⟨e',bS _ QE,h⟩
theorem C5{all:Array Oper}:∀(os:List Oper) (i:Nat) (acc:List Nat),i+os.length=all.size->acc.length=i->(∀k,k<os.length->os[k]?=all[i+k]?)->
  (∀k p,k<i->Nat.testBit (acc.getD (i - 1 - k) 0) p=true->∃f,before all f k p=true)->∀k p,k<all.size->Nat.testBit ((Hz os i acc).getD (all.size - 1 - k) 0) p=true->∃f,before all f k p=true
 | [],i,acc,hs,hl,A5,GS=>by
  intro k p hk h;have hs:i=all.size:=by simpa using hs
  subst hs;exact GS k p hk h
 | o::os,i,acc,hs,hl,A5,GS=>by
  simp only[az]at hs;have ho:all[i]?=some o:=by
   have:=A5 0 (by simp);simpa using this.symm
  have e:Hz (o::os) i acc=Hz os (i+1) (Nx acc i o.after.toList 0::acc):=by
   show force (Nx acc i o.after.toList 0) (λm=>Hz os (i+1) (m::acc))=_;cases Nx acc i o.after.toList 0<;>rfl
  rw[e];refine C5 os (i+1) _ (by omega) (by simp[hl]) (λk hk=>?_) (λk p hk h=>?_)
  ·have:=A5 (k+1) (by simp;omega);rw[show i+1+k=i+(k+1) by omega,<-this];simp
  ·by_cases hki:k=i
   ·subst hki;rw[show k+1 - 1 - k=0 by omega,List.getD_cons_zero]at h;rcases Ae _ _ _ _ _ h with h|⟨e',QE,hb,eT,h⟩
    ·simp at h
    ·rcases h with h|h
     ·refine⟨1,?_⟩;unfold before;rw[ho];simp only[bC];refine .inl (bR.2 ⟨e',QE,?_⟩);rw[ae];exact⟨by rw[h];exact Nat.beq_refl p,hb⟩
     ·obtain⟨f,hf⟩:=GS e'.on p eT h;refine⟨f+1,?_⟩;unfold before;rw[ho];simp only[bC];refine .inr (bR.2 ⟨e',QE,?_⟩);rw[ae];exact⟨hb,hf⟩
   ·rw[show i+1 - 1 - k=(i - 1 - k)+1 by omega,List.getD_cons_succ]at h;exact GS k p (by omega) h
theorem w7{all:Array Oper}{i p:Nat}(h:MU all i p=true):∃f,before all f i p=true:=by
 unfold MU at h;rw[ae]at h;have hi:i<all.size:=aG h.1;exact C5 all.toList 0 [] (by simp) rfl (λk _=>by simp) (λk p hk _=>absurd hk (by omega)) i p hi h.2
theorem CN(hd:wU ops=true){p i:Nat}{q o:Oper}(hq:ops[p]?=some q)(ho:ops[i]?=some o)(eT:p<i)(he:uw o p=false)(Sr:MU ops i p=false) :
  Iw ops q o=true/\uw q i=false/\MU ops p i=false:=by
 have hi:i<ops.size:=(bn.1 ho).1;have hp:p<ops.size:=(bn.1 hq).1;have h1:=aA.1 hd i (bM.2 hi);have h2:=aA.1 hd p (bM.2 hp);simp only[ho]at h1;simp only[hq]at h2;rw[ae]at h1 h2;have h3:=aA.1 h1.2 p (bM.2 eT);simp only[he,hq,Sr,cH,Bool.or_false]at h3;refine⟨h3,?_,?_⟩
 ·rw[<-a_];intro h4;unfold uw at h4;obtain⟨e,Mr,QD⟩:=bR.1 h4;rw[ae]at QD;have h5:=aA.1 h2.1 e Mr;rw[QD.2]at h5;have h6:=aw QD.1;have h7:e.on+1<=p:=aG h5;omega
 ·rw[<-a_];intro h4;obtain⟨f,h4⟩:=w7 h4;have:=zh hd _ _ _ h4;omega
theorem jm{p k:Nat}{q:Oper}(hq:ops[p]?=some q)(jw:pZ G ops tb n p S m=true)(hl:fI q.op=true)(Cj:loose ops p q k=true) :
  ∀y∈q.op.operands,∀j∈eo (ev G S y),¬ (8*(n+k)<=j/\j<8*(n+k)+8):=by
 intro y hy j hj hr;unfold pZ at jw;rw[hq]at jw;simp only[hl,ak]at jw;rw[ae]at jw;have h1:=aA.1 (aA.1 jw.2 y (by simpa using hy)) j hj;rw[ae]at h1;have h1:=h1.1;have h2:j / 8 - n=k:=by omega
 rw[h2,Cj]at h1;simp[Nat.blt]at h1;omega
theorem qy{p:Nat}{q:Oper}(hq:ops[p]?=some q)(jw:pZ G ops tb n p S m=true)(hl:fI q.op=true) :
  (xr G tb S q.op||!jO ops p)=true/\∀y∈q.op.operands,∀j∈eo (ev G S y),(!tb j||!uW ops p q)=true/\(iw (m j)||!rH G ops p q)=true:=by
 unfold pZ at jw;rw[hq]at jw;simp only[hl,ak]at jw;rw[ae]at jw;refine⟨jw.1,λy hy j hj=>?_⟩;have h1:=aA.1 (aA.1 jw.2 y (by simpa using hy)) j hj;rw[ae,ae]at h1;exact h1.2
theorem zp{p k:Nat}{q o:Oper}(hq:ops[p]?=some q)(ho:ops[k]?=some o)(jw:pZ G ops tb n p S m=true)(hl:fI q.op=true)(ha:lF G o.op=true)(Cj:loose ops p q k=true) :
  ∀y∈q.op.operands,∀j∈eo (ev G S y),iw (m j)=true:=by
 intro y hy j hj;have h9:=((qy hq jw hl).2 y hy j hj).2;rw[bC]at h9;rcases h9 with h2|h2
 ·exact h2
 ·exfalso;have:rH G ops p q=true:=by
   unfold rH;refine bR.2 ⟨k,bM.2 (bn.1 ho).1,?_⟩;rw[ho];simp only[ha,ct];exact Cj
  rw[this]at h2;cases h2
theorem IB{p k:Nat}{q o:Oper}(hq:ops[p]?=some q)(ho:ops[k]?=some o)(jw:pZ G ops tb n p S m=true)(hl:fI q.op=true)(ha:stOp o.op=true)(Cj:loose ops p q k=true) :
  ∀y∈q.op.operands,∀j∈eo (ev G S y),tb j=false:=by
 intro y hy j hj;have h9:=((qy hq jw hl).2 y hy j hj).1;rw[bC]at h9;rcases h9 with h2|h2
 ·simpa using h2
 ·exfalso;have:uW ops p q=true:=by
   unfold uW;refine bR.2 ⟨k,bM.2 (bn.1 ho).1,?_⟩;rw[ho];simp only[ha,ct];exact Cj
  rw[this]at h2;cases h2
theorem Nd{p:Nat}{q:Oper}(hq:ops[p]?=some q)(jw:pZ G ops tb n p S m=true)(hl:fI q.op=true)(ha:jO ops p=true):xr G tb S q.op=true:=by
 have h:=(qy hq jw hl).1;rw[ha,aI,Bool.or_false]at h;exact h
theorem BJ{i:Nat}{o:Oper}{m m1:Mem}(ho:ops[i]?=some o)(h:fI o.op=true->∀y∈o.op.operands,∀j∈eo (ev G S y),iw (m1 j)=true->iw (m j)=true)(jw:pZ G ops tb n i S m1=true):pZ G ops tb n i S m=true:=by
 unfold pZ at jw ⊢;rw[ho]at jw ⊢;simp only at jw ⊢;cases hm:fI o.op with
 | false=>rfl
 | true=>
  rw[hm]at jw;simp only[ak]at jw ⊢;rw[ae]at jw ⊢;refine⟨jw.1,aA.2 λy hy=>aA.2 λj hj=>?_⟩;have h1:=aA.1 (aA.1 jw.2 y hy) j hj;rw[ae,ae]at h1 ⊢;have h9:=h1.2.2;rw[bC]at h9;rcases h9 with h2|h2
  ·exact⟨h1.1,h1.2.1,by rw[bC];exact .inl (h hm y (by simpa using hy) j hj h2)⟩
  ·exact⟨h1.1,h1.2.1,by rw[bC];exact .inr h2⟩
theorem I5(m:Mem)(id:Nat)(f:Mem)(j:Nat)(hj:¬ (id<=j/\j<id+8)):over m id f j=m j:=by
 unfold over;cases hb:(Nat.ble id j&&Nat.blt j (id+8))with
 | false=>rfl
 | true=>
  rw[ae]at hb;exact absurd ⟨aG hb.1,by simpa using hb.2⟩ hj
theorem CV{id:Nat}{m m1 f:Mem}{ks:List Nat}(e:m1=over (kill m f ks) id m1)(hk:∀j∈ks,iw (f j)=iw (m j)){j:Nat}(hj:¬ (id<=j/\j<id+8)):iw (m1 j)=iw (m j):=by
 rw[e,I5 _ _ _ _ hj];by_cases h:j∈ks
 ·rw[l_ h,hk j h]
 ·rw[fA h]
theorem BG{i:Nat}{o:Oper}{d:Option Tmp}{v:AV}(ho:ops[i]?=some o)(h:∀t,d=some t->t ∉ o.looksAt ops):sG G ops pc T i (put S d v) m=sG G ops pc T i S m:=by
 unfold sG;rw[ho];simp only;have e:=λx hx=>sa (G:=G) (S:=S) (v:=v) h x hx;have e1:(o.op.operands.toList.all λx=>(eo (ev G (put S d v) x)).all λj=>!pP T j)=(o.op.operands.toList.all λx=>(eo (ev G S x)).all λj=>!pP T j):=by
  rw[cA,aA,aA];constructor
  ·intro hh x hx;rw[<-e x (by simpa using hx)];exact hh x hx
  ·intro hh x hx;rw[e x (by simpa using hx)];exact hh x hx
 have e2:nO G o.op (put S d v) m T=nO G o.op S m T:=by
  have:vy G o.op (put S d v) m=vy G o.op S m:=by
   cases e_:o.op<;>(try rfl);rename_i c;rw[e_]at e;unfold vy;simp only;cases hc:c.callee with
   | value f=>
    have hf:ev G (put S d v) f=ev G S f:=e f (by simp[Op.operands,Call.operands,hc]);have ha:c.args.toList.map (ev G (put S d v))=c.args.toList.map (ev G S):=oe λx hx=>e x (by simp only[Op.operands,Call.operands];exact Array.mem_append.2 (.inr hx));simp only[hf,ha]
   | _=>rfl
  unfold nO;rw[this]
 rw[e1,e2]
theorem ke{p:Nat}{q:Oper}(hq:ops[p]?=some q)(h:sG G ops pc T p S m=true)(hp:pP pc p=true) :
  j8 q.op=true/\nO G q.op S m T=true/\∀k o,ops[k]?=some o->loose ops p q k=true->gG o.op=true:=by
 unfold sG at h;have gN:pc.isEmpty=false:=by
  cases pc with
  | nil=>cases hp
  | cons=>rfl
 rw[gN,cond_false,hq]at h;simp only[hp,ak]at h;rw[ae,ae]at h;refine⟨h.1.1,h.1.2,λk o ho Cj=>?_⟩;have:=aA.1 h.2 k (bM.2 (bn.1 ho).1);rw[ho]at this;simp only[Cj,aI,Bool.or_false]at this;exact this
theorem sF{p k:Nat}{q:Oper}(hq:ops[p]?=some q)(h:sG G ops pc T p S m=true)(hp:pP pc p=false)(hk:pP pc k=true)(Cj:loose ops p q k=true) :
  ∀y∈q.op.operands,∀j∈eo (ev G S y),pP T j=false:=by
 unfold sG at h;have gN:pc.isEmpty=false:=by
  cases pc with
  | nil=>cases hk
  | cons=>rfl
 rw[gN,cond_false,hq]at h;simp only[hp,cond_false]at h;have hl:Fj ops pc p q=true:=bR.2 ⟨k,Me.1 hk,Cj⟩;rw[hl,aI,cH]at h;intro y hy j hj;have:=aA.1 (aA.1 h y (by simpa using hy)) j hj;simpa using this
theorem BH{i:Nat}{m1:Mem}(hi:pP pc i=false)(h:sG G ops pc T i S m1=true):sG G ops pc T i S m=true:=by
 unfold sG at h ⊢;cases gN:pc.isEmpty with
 | true=>rfl
 | false=>
  rw[gN]at h;rw[cond_false]at h ⊢;cases ho:ops[i]? with
  | none=>rfl
  | some o=>
   rw[ho]at h;simp only[hi,cond_false]at h ⊢;exact h
theorem me{op:Op}(h:j8 op=true):i_ op=false/\gG op=false:=by
 cases op<;>(try (cases h;done));rename_i c;cases hc:c.callee<;>simp[j8,hc]at h ⊢<;>exact⟨by simp[i_,hc],by simp[gG,hc]⟩
theorem KI(hC:ik C)(hd:wU ops=true){i:Nat}{o:Oper}(ho:ops[i]?=some o){K:List AV->Mem->Option R}{post:List Nat}:∀(pre:List Nat) (S:List AV) (m:Mem),(∀p∈pre,p<i/\uw o p=false/\MU ops i p=false)->
  sJ G C (AM ops pc) (vP G ops tb pc T n) ops.toList n (pre++i::post) S m K=some r->sJ G C (AM ops pc) (vP G ops tb pc T n) ops.toList n (i::(pre++post)) S m K=some r
 | [],S,m,_,h=>h
 | p::pre,S,m,hp,h=>by
  simp only[cm,sJ]at h;obtain⟨h1,h2⟩:=c_ h;unfold vP at h1;rw[ae]at h1;obtain⟨h1,MB⟩:=h1;have Pd : ops.toList[i]?=some o:=by rw[<-ho];simp
  obtain⟨q,qY⟩:∃q,ops[p]?=some q:=by
   obtain⟨q,_,_,hq,_⟩:=F5 hC h2;exact⟨q,by rw[<-hq];simp⟩
  have T1:ops.toList[p]?=some q:=by rw[<-qY];simp
  obtain⟨eT,he,Sr⟩:=hp p (by simp);obtain⟨HS,QD,Sq⟩:=CN hd qY ho eT he Sr;unfold Iw at HS;rw[ae]at HS;obtain⟨Ua,ic⟩:=HS;obtain⟨a1,a2,a3⟩:=Oper.apart_spec Ua;have isl:i<ops.size:=(bn.1 ho).1;have psl:p<ops.size:=(bn.1 qY).1;have gN:p≠i:=by omega
  have pR:Nat.beq i p=false:=by rw[<-a_];exact λe=>gN (aw e).symm
  have yP:Nat.beq p i=false:=by rw[<-a_];exact λe=>gN (aw e)
  have Kb:i_ q.op=true\/i_ o.op=true\/(fI q.op=true/\fI o.op=true):=by
   rw[bC,bC,bC,ae,ae]at ic;rcases ic with((ic|ic)|⟨l1,l2⟩)|⟨l1,l2⟩
   ·exact .inl ic
   ·exact .inr (.inl ic)
   ·exact .inr (.inr ⟨by simp[fI,l1],l2⟩)
   ·exact .inr (.inr ⟨l1,by simp[fI,l2]⟩)
  have K9:fI q.op=true->fI o.op=true->loose ops p q i=true:=λl1 l2=>by simp[loose,ho,l1,l2,pR,he,QD,Sr,Sq]
  have NG:fI q.op=true->fI o.op=true->loose ops i o p=true:=λl1 l2=>by simp[loose,qY,l1,l2,yP,he,QD,Sr,Sq]
  have da:fI q.op=true->fI o.op=true->jO ops p=true:=λl1 l2=>by
   unfold jO;rw[qY];exact bR.2 ⟨i,bM.2 isl,K9 l1 l2⟩
  have db:fI q.op=true->fI o.op=true->jO ops i=true:=λl1 l2=>by
   unfold jO;rw[ho];exact bR.2 ⟨p,bM.2 psl,NG l1 l2⟩
  have Je:∀{op:Op},fI op=true->i_ op=true->False:=by
   intro op hm ic;cases op<;>(try (simp[fI,lg,gG,n5,j8,oc,pr]at hm;done))<;>(try (simp[i_]at ic;done));rename_i c;cases hc:c.callee<;>(try (simp[i_,hc]at ic;done));rename_i b;cases b<;>(try (simp[i_,hc]at ic;done))<;>simp[fI,lg,gG,n5,j8,oc,pr,hc]at hm
  have TT:∀{op:Op},gG op=true->fI op=true:=λh=>by simp[fI,lg,h]
  have uV:∀{op:Op},j8 op=true->fI op=true:=λh=>by simp[fI,lg,h]
  -- Oi F4 first may be left alone by,if it is a drawn call
  have Xz:∃J:Nat->Prop,(∀q',ops.toList[p]?=some q'->Oa R G C (AM ops pc p) q' S m (8*(n+p)) J)/\(pP pc p=true->∀j,J j↔pP T j=false/\¬ (8*(n+p)<=j/\j<8*(n+p)+8)):=by
   cases rU:pP pc p with
   | false=>exact⟨λ_=>False,λq' _=>CL hC,λh=>by cases h⟩
   | true=>
    obtain⟨c1,c2,_⟩:=ke qY MB rU;refine⟨λj=>pP T j=false/\¬ (8*(n+p)<=j/\j<8*(n+p)+8),λq' Ys=>?_,λ_ _=>.rfl⟩;rw[T1]at Ys;cases Ys;have:AM ops pc p=false:=by unfold AM;rw[rU];simp
    rw[this];exact yU hC c1 c2 (λ_ h=>h)
  obtain⟨J,hF,hJ⟩:=Xz;obtain⟨q2,x,m1,hq,k1,k2,Yl,kre,kmi,kfa⟩:=tE hC hF h2;rw[T1]at hq;cases hq;have k3:=KI hC hd ho pre _ m1 (λq hq=>hp q (by simp[hq])) k1;simp only[sJ]at k3;obtain⟨k4,k5⟩:=c_ k3;unfold vP at k4;rw[ae,BI ho a1,BG ho a1]at k4;obtain⟨k4,Mc⟩:=k4;have k6:=k2 (λS1 m1=>lM G C (AM ops pc i) ops.toList n i S1 m1 λS m=>sJ G C (AM ops pc) (vP G ops tb pc T n) ops.toList n (pre++post) S m K) r k5
  -- F4 drawn calls Y2 F4 two
  have cP:pP pc p=true->fI o.op=true->gG o.op=true/\pP pc i=false/\(∀y∈o.op.operands,∀j∈eo (ev G S y),m1 j=m j/\J j):=by
   intro rU l2;obtain⟨c1,_,c3⟩:=ke qY MB rU;have Ed:=c3 i o ho (K9 (uV c1) l2);have hi:pP pc i=false:=by
    rw[<-a_];intro hi;have:=(ke ho Mc hi).1;rw[(me this).2]at Ed;cases Ed
   refine⟨Ed,hi,λy hy j hj=>?_⟩;have j1:J j:=(hJ rU j).2 ⟨sF ho Mc hi rU (NG (uV c1) l2) y hy j hj,jm ho k4 l2 (NG (uV c1) l2) y hy j hj⟩;exact⟨kfa (by unfold AM;rw[rU];simp) j j1,j1⟩
  have cI:pP pc i=true->fI q.op=true->gG q.op=true/\pP pc p=false:=by
   intro rU l1;obtain⟨c1,_,c3⟩:=ke ho Mc rU;have Ed:=c3 p q qY (NG l1 (uV c1));refine⟨Ed,?_⟩;rw[<-a_];intro hi;have:=(ke qY MB hi).1;rw[(me this).2]at Ed;cases Ed
  have TU : pZ G ops tb n i S m=true:=by
   refine BJ ho (λhm y hy j hj hb=>?_) k4;rcases Kb with ic|ic|⟨l1,l2⟩
   ·rw[Yl ic]at hb;exact hb
   ·exact(Je hm ic).elim
   ·cases rU:pP pc p with
    | true=>
     rw[<-((cP rU l2).2.2 y hy j hj).1];exact hb
    | false=>
     obtain⟨k,b0,e,hk⟩:=kmi l1 (by unfold AM;rw[da l1 l2,rU];rfl);rw[<-CV e hk (jm ho k4 l2 (NG l1 l2) y hy j hj)];exact hb
  have RI : sG G ops pc T i S m=true:=by
   cases rU:pP pc i with
   | false=>exact BH rU Mc
   | true=>
    rcases Kb with ic|ic|⟨l1,l2⟩
    ·rw[Yl ic]at Mc;exact Mc
    ·rw[(me (ke ho Mc rU).1).1]at ic;cases ic
    ·rw[kre (cI rU l1).1]at Mc;exact Mc
  have S3:pP pc i=true->Oa R G C (AM ops pc i) o S m (8*(n+i)) (λj=>pP T j=false/\¬ (8*(n+i)<=j/\j<8*(n+i)+8)):=by
   intro rU;obtain⟨c1,c2,_⟩:=ke ho RI rU;have:AM ops pc i=false:=by unfold AM;rw[rU];simp
   rw[this];exact yU hC c1 c2 (λ_ h=>h)
  have k7:=Lw hC T1 Pd gN Ua (tb:=tb) (by
   rcases Kb with ic|ic|⟨l1,l2⟩
   ·exact .inl ic
   ·exact .inr (.inl ic)
   ·cases rU:pP pc p with
    | true=>
     obtain⟨c1,c2,c3⟩:=cP rU l2;refine .inr (.inr (.inr (.inr ⟨c1,λK r h=>?_⟩)));obtain⟨x,m',g1,g2,g3⟩:=hF q T1 K r h;exact⟨x,m',g1,g2,λj ⟨z,hz,hj⟩=>g3 j (c3 z hz j (ka hj)).2⟩
    | false=>
     cases Lc:pP pc i with
     | true=>
      obtain⟨c1,c2⟩:=cI Lc l1;refine .inr (.inr (.inr (.inl ⟨c1,λK r h=>?_⟩)));obtain⟨x,m',g1,g2,g3⟩:=S3 Lc K r h;exact⟨x,m',g1,g2,λj ⟨z,hz,hj⟩=>g3 j ⟨sF qY MB rU Lc (K9 l1 l2) z hz j (ka hj),jm qY h1 l1 (K9 l1 l2) z hz j (ka hj)⟩⟩
     | false=>
      exact .inr (.inr (.inl ⟨l1,l2,by unfold AM;rw[da l1 l2,rU];rfl,by unfold AM;rw[db l1 l2,Lc];rfl,jm qY h1 l1 (K9 l1 l2),jm ho k4 l2 (NG l1 l2),λha=>zp ho qY TU l2 ha (NG l1 l2),λha=>zp qY ho h1 l1 ha (K9 l1 l2),λha=>IB ho qY TU l2 ha (NG l1 l2),λha=>IB qY ho h1 l1 ha (K9 l1 l2),Nd qY h1 l1 (da l1 l2),Nd ho TU l2 (db l1 l2)⟩))) k6
  have k4e:vP G ops tb pc T n i S m=true:=by unfold vP;rw[TU,RI];rfl
  simp only[cm,sJ,k4e,ak];obtain⟨JI,hFI,hJI⟩:∃JI:Nat->Prop,(∀o',ops.toList[i]?=some o'->Oa R G C (AM ops pc i) o' S m (8*(n+i)) JI)/\(pP pc i=true->∀j,JI j↔pP T j=false/\¬ (8*(n+i)<=j/\j<8*(n+i)+8)):=by
   cases rU:pP pc i with
   | false=>exact⟨λ_=>False,λq' _=>CL hC,λh=>by cases h⟩
   | true=>exact⟨_,λo' Qy=>by rw[Pd]at Qy;cases Qy;exact S3 rU,λ_ _=>.rfl⟩
  obtain⟨o',y,m3,Qy,j1,j2,Ym,jre,jmi,jfa⟩:=tE hC hFI k7;rw[Pd]at Qy;cases Qy;refine j2 _ _ ?_;have Ue : pZ G ops tb n p S m3=true:=by
   refine BJ qY (λhm z hz j hj hb=>?_) h1;rcases Kb with ic|ic|⟨l1,l2⟩
   ·exact(Je hm ic).elim
   ·rw[Ym ic];exact hb
   ·cases Lc:pP pc i with
    | true=>
     obtain⟨c1,c2⟩:=cI Lc l1;rw[jfa (by unfold AM;rw[Lc];simp) j ((hJI Lc j).2 ⟨sF qY MB c2 Lc (K9 l1 l2) z hz j hj,jm qY h1 l1 (K9 l1 l2) z hz j hj⟩)];exact hb
    | false=>
     obtain⟨k,b0,e,hk⟩:=jmi l2 (by unfold AM;rw[db l1 l2,Lc];rfl);rw[CV e hk (jm qY h1 l1 (K9 l1 l2) z hz j hj)];exact hb
  have Xe : sG G ops pc T p S m3=true:=by
   cases rU:pP pc p with
   | false=>exact BH rU MB
   | true=>
    rcases Kb with ic|ic|⟨l1,l2⟩
    ·rw[(me (ke qY MB rU).1).1]at ic;cases ic
    ·rw[Ym ic];exact MB
    ·rw[jre (cP rU l2).1];exact MB
  have h1e:vP G ops tb pc T n p (put S o.dst y) m3=true:=by
   unfold vP;rw[BI qY a3,BG qY a3,Ue,Xe];rfl
  rw[h1e];exact j1
end
section
variable {R:Type} {P:Program} {G:fv} {S S' : List AV} {m m' m2:Mem} {C:FuncId->List AV->(AV->Option R)->Option R} {o:Oper} {r:R} {ops:Array Oper} {n:Nat} {tb:Nat->Bool} {pc T:List Nat} {W0:fh} {F0:Nat->Prop} {a:Act} {w:World}
theorem mg.wider{U U' : Nat->Prop}(h:mg G W0 F0 U m S a w)(hU:∀i,U i->U' i):mg G W0 F0 U' m S a w:=by
 refine⟨h.defers,h.len,?_⟩;obtain⟨μ,F,hI⟩:=h.inv;exact⟨μ,F,hI.wider hU⟩
theorem FM{o:Oper}{p:Nat}(h:uw o p=true):∃e∈o.after,e.on=p/\Region.binds .any e=true:=by
 unfold uw at h;obtain⟨e,he,h⟩:=bR.1 h;rw[ae]at h;exact⟨e,by simpa using he,aw h.1,h.2⟩
theorem qm{listed:Array Bool}(Pg:listed.size=ops.size)(yO:∀k q,ops[k]?=some q->listed.getD k true=true->∀e∈q.after,Region.binds .any e=true->listed.getD e.on true=true) :
  ∀(f i p:Nat) (o:Oper),ops[i]?=some o->(∀e∈o.after,Region.binds .any e=true->listed.getD e.on true=true)->before ops f i p=true->listed.getD p true=true
 | 0,i,p,o,ho,he,h=>by cases h
 | f+1,i,p,o,ho,he,h=>by
  unfold before at h;rw[ho]at h;simp only at h;rw[bC]at h;rcases h with h|h
  ·obtain⟨e,Mr,rfl,hb⟩:=FM h;exact he e Mr hb
  ·obtain⟨e,Mr,h⟩:=bR.1 h;rw[ae]at h;have hl:=he e (by simpa using Mr) h.1;cases hq:ops[e.on]? with
   | none=>
    cases f with
    | zero=>cases h.2
    | succ f=>have:=h.2;unfold before at this;rw[hq]at this;cases this
   | some q=>exact qm Pg yO f e.on p q hq (yO _ _ hq hl) h.2
theorem PW(hG:et P G)(hC:∀g gi (K:AV->Option R) r,C g gi K=some r->∃x,K x=some r/\jZ P W0.root g gi x)(hN:ik C)(hd:wU ops=true)
  {K:List AV->Mem->Option R} {Q:Exit->Act->World->Prop} {V:Nat->Prop} (hV:∀i,i<ops.size->∀j,j<8->V (8*(n+i)+j))
  (hn:∀S' m' a' w',K S' m'=some r->mg G W0 F0 V m' S' a' w'->Q .normal a' w'):∀(fuel:Nat) (rem:List Nat) (listed:Array Bool) (U:Nat->Prop) (S:List AV) (m:Mem) (a:Act) (w:World),
  rem.length<=fuel->rem.Pairwise (· < ·)->(∀i,i∈rem↔i<ops.size/\listed.getD i true=false)->listed.size=ops.size->(∀k q,ops[k]?=some q->listed.getD k true=true->∀e∈q.after,Region.binds .any e=true->listed.getD e.on true=true)->(∀j,U j->V j)->(∀i∈rem,∀j,j<8->¬ U (8*(n+i)+j))->
  mg G W0 F0 U m S a w->sJ G C (AM ops pc) (vP G ops tb pc T n) ops.toList n rem S m K=some r->wpAny P .any ops Q fuel listed a w:=by
 intro fuel;have NL:∀{rem:List Nat} {listed:Array Bool},(∀i,i∈rem↔i<ops.size/\listed.getD i true=false)->∀i∈Region.ready .any ops listed,i∈rem:=by
  intro rem listed wF i hi;obtain⟨h0,o,ho,_⟩:=mem_ready.1 hi;exact(wF i).2 ⟨(bn.1 ho).1,h0⟩
 have Em:∀{rem:List Nat} {listed:Array Bool},rem.Pairwise (· < ·)->(∀i,i∈rem↔i<ops.size/\listed.getD i true=false)->listed.size=ops.size->Region.ready .any ops listed=[]->rem=[]:=by
  intro rem listed hp wF Pg hr;cases rem with
  | nil=>rfl
  | cons i rem=>
   exfalso;obtain⟨hi,hl⟩:=(wF i).1 (by simp);have:i∈Region.ready .any ops listed:=by
    refine mem_ready.2 ⟨hl,ops[i],Array.getElem?_eq_getElem hi,λe he hb=>?_⟩;have h1:=aA.1 hd i (bM.2 hi);simp only[Array.getElem?_eq_getElem hi]at h1;rw[ae]at h1;have h2:e.on+1<=i:=by
     have:=aA.1 h1.1 e (by simpa using he);rw[hb]at this;exact aG this
    cases hle:listed.getD e.on true with
    | true=>
     have eT:e.on<listed.size:=by omega
     simpa[aK,eT]using hle
    | false=>
     have hm:=(wF e.on).2 ⟨by omega,hle⟩;rcases cj.1 hm with h3|h3
     ·omega
     ·have:=(List.pairwise_cons.1 hp).1 _ h3;omega
   rw[hr]at this;simp at this
 induction fuel with
 | zero=>
  intro rem listed U S m a w hf hp wF Pg yO hU ni hS hK;have:rem=[]:=aV.1 (by omega);subst this;refine⟨?_,hn S m a w hK (hS.wider hU)⟩;cases hr:Region.ready .any ops listed with
  | nil=>rfl
  | cons i l=>have:=NL wF i (by rw[hr];simp);simp at this
 | succ fuel ih=>
  intro rem listed U S m a w hf hp wF Pg yO hU ni hS hK;refine⟨λhr=>?_,λi hi=>?_⟩
  ·have:=Em hp wF Pg hr;subst this;exact hn S m a w hK (hS.wider hU)
  ·obtain⟨h0,o,ho,ig⟩:=mem_ready.1 hi;have him:=NL wF i hi;obtain⟨pre,post,rfl⟩:=List.append_of_mem him;have Wl:i<ops.size:=(bn.1 ho).1;rw[List.pairwise_append]at hp;obtain⟨NX,Ld,V7⟩:=hp;have TY:∀e∈o.after,Region.binds .any e=true->listed.getD e.on true=true:=by
    intro e Mr hb;have h1:=ig e Mr hb;by_cases eT:e.on<listed.size
    ·simp[aK,eT]at h1 ⊢;exact h1
    ·simp[aK,eT]
   have jw:∀p∈pre,p<i/\uw o p=false/\MU ops i p=false:=by
    intro p Yt;obtain⟨h2,h3⟩:=(wF p).1 (by simp[Yt]);refine⟨V7 p Yt i (by simp),?_,?_⟩
    ·rw[<-a_];intro he;obtain⟨e,Mr,rfl,hb⟩:=FM he;rw[TY e Mr hb]at h3;cases h3
    ·rw[<-a_];intro he;obtain⟨f,he⟩:=w7 he;rw[qm Pg yO f i p o ho TY he]at h3;cases h3
   have hB:=KI hN hd ho pre S m jw hK;simp only[sJ]at hB;obtain⟨_,hB⟩:=c_ hB;refine step_ok hG hC hS (ni i (by simp)) hB (λS' m' a' w' fY WS=>?_);have JX:∀k,k∈pre++post->k≠i:=by
    intro k hk e;subst e;rcases aS.1 hk with h|h
    ·have:=V7 k h k (by simp);omega
    ·have:=(List.pairwise_cons.1 Ld).1 k h;omega
   refine ih (pre++post) (listed.setIfInBounds i true) _ S' m' a' w' (by simp at hf ⊢;omega) ?_ ?_ (by simpa using Pg) ?_ ?_ ?_ WS fY
   ·rw[List.pairwise_append];exact⟨NX,(List.pairwise_cons.1 Ld).2,λx hx y hy=>V7 x hx y (by simp[hy])⟩
   ·intro k;by_cases e:k=i
    ·subst e;have eT:k<listed.size:=by omega
     constructor
     ·intro hk;exact absurd rfl (JX k hk)
     ·rintro⟨_,hk⟩;simp[eT]at hk
    ·rw[getD_set_ne true (λh=>e h.symm),<-wF k];simp[e]
   ·have mono:∀j,listed.getD j true=true->(listed.setIfInBounds i true).getD j true=true:=by
     intro j hj;by_cases e:j=i
     ·subst e;have eT:j<listed.size:=by omega
      simp[eT]
     ·rw[getD_set_ne true (λh=>e h.symm)];exact hj
    intro k q hq hk e he hb;by_cases ek:k=i
    ·subst ek;rw[ho]at hq;cases hq;exact mono _ (TY e he hb)
    ·rw[getD_set_ne true (λh=>ek h.symm)]at hk;exact mono _ (yO k q hq hk e he hb)
   ·rintro j (hj|hj)
    ·exact hU j hj
    ·have:=hV i Wl (j - 8*(n+i)) (by omega);rwa[show 8*(n+i)+(j - 8*(n+i))=j by omega]at this
   ·rintro k hk j hj (hu|hu)
    ·refine ni k ?_ j hj hu;rcases aS.1 hk with h|h
     ·simp[h]
     ·simp[h]
    ·have:=JX k hk;omega
theorem At.drew{S:St}(h:At G W0 F0 S a w):At G W0 F0 S a { w with drawn:=w.drawn+1 }:=by
 refine⟨h.defers,h.len,?_⟩;obtain⟨μ,F,hI⟩:=h.inv;exact⟨μ,F,hI.world ((Below.refl _ w).drew)⟩
theorem vL(hG:et P G)(n7:P.follows .mixedOrders=true)(hC:∀g gi (K:AV->Option R) r,C g gi K=some r->∃x,K x=some r/\jZ P W0.root g gi x)(hN:ik C)
  {draw:Bool} {S:St} {K:St->Option R} {Dy:Nat} (h:At G W0 F0 S a w) (hK:mQ G C ops draw S K=some r) :
  (Code.region Dy ops draw).wp P (λe a' w'=>e=.normal/\∃S',K S'=some r/\At G W0 F0 S' a' w') a w:=by
 cases draw with
 | false=>exact Gc hG hC h hK
 | true=>
  simp only[mQ,ak,yS]at hK;obtain⟨hd,hK⟩:=c_ hK;refine wp_region_any n7 ?_;refine PW (W0:=W0) (F0:=F0) (n:=S.mI) hG hC hN hd (V:=λi=>i<8*(S.mI+ops.size)) ?_ ?_ ops.size (List.range ops.size) _ (λi=>i<8*S.mI) S.tm S.m a _ (by simp) List.pairwise_lt_range ?_ (by simp) ?_ ?_ ?_ h.drew hK
  ·intro i hi j hj;show _<_;omega
  ·intro S' m' a' w' fY WS;exact⟨rfl,_,fY,WS⟩
  ·intro i;simp only[bM];constructor
   ·intro hi;exact⟨hi,by simp[hi]⟩
   ·intro hi;exact hi.1
  ·intro k q hq hk;have eT:k<ops.size:=(bn.1 hq).1;simp[eT]at hk
  ·intro j hj;show _<_;omega
  ·intro i _ j hj hu;omega
end
section
variable {R:Type} {P:Program} [eE P] {G:fv}
def cT(P:Program)[eE P](g:FuncId)(gi:List AV)(c:(AV->Option R)->Option R):Prop:=
 ∃o:Option AV,(∀K,c K=o.bind K)/\∀x,o=some x->xh P g gi x
def dt(P:Program)[eE P](C:FuncId->List AV->(AV->Option R)->Option R):Prop:=∀g gi,cT P g gi (C g gi)
theorem cT.none{g:FuncId}{gi:List AV}:cT (R:=R) P g gi (λ_=>Option.none):=⟨Option.none,λ_=>rfl,nofun⟩
theorem cT.of{A:Type}{g:FuncId}{gi:List AV}{o:Option A}{enc:A->AV}(h:∀p,o=some p->xh P g gi (enc p)):cT (R:=R) P g gi (λK=>o.bind λp=>K (enc p)):=by
 refine⟨o.map enc,λK=>by cases o<;>rfl,λx hx=>?_⟩;cases o with
 | none=>cases hx
 | some p=>cases hx;exact h p rfl
theorem dt.ok{C:FuncId->List AV->(AV->Option R)->Option R}(h:dt P C):∀g gi (K:AV->Option R) r,C g gi K=some r->∃x,K x=some r/\xh P g gi x:=by
 intro g gi K r hK;obtain⟨o,h1,h2⟩:=h g gi;rw[h1]at hK;cases o with
 | none=>cases hK
 | some x=>exact⟨x,hK,h2 x rfl⟩
theorem dt.at{C:FuncId->List AV->(AV->Option R)->Option R}(h:dt P C){R0:World}(hQ:eE.Q P R0):∀g gi (K:AV->Option R) r,C g gi K=some r->∃x,K x=some r/\jZ P R0 g gi x:=by
 intro g gi K r hK;obtain⟨x,h1,h2⟩:=h.ok g gi K r hK;exact⟨x,h1,h2 R0 hQ⟩
theorem dt.natural{C:FuncId->List AV->(AV->Option R)->Option R}(h:dt P C):ik C:=by
 intro g gi K r hK;obtain⟨o,h1,h2⟩:=h g gi;rw[h1]at hK;cases o with
 | none=>cases hK
 | some x=>exact⟨x,hK,λK' r' fY=>by rw[h1];exact fY⟩
theorem Cs(hG:et P G)(n7:P.follows .mixedOrders=true)(iT:∀R0,eE.Q P R0->mX G R0)(qa:G.kb=0){C:FuncId->List AV->(AV->Option R)->Option R}(hC:dt P C)
  {cut : Nat → Option dP} {f : FuncId} {fn : Func} {args : List AV} {x : AV} {n : Nat} (hf : P.funcs[f]? = some fn) (iS : (fn.name == "runtime.NumGoroutine") = false) (iU : fn.body.isNone = false)
  {K:AV->Option R} {r:R} (hx:∀y,K y=some r->y=x) (hK:G1 G C cut fn n args K=some r):dc P f args x:=
 PJ hG iT qa hC.ok hf iS iU (λW0 F0 hQ Dy ops draw S K a w r h hK=>vL hG n7 (hC.at (R0:=W0.root) hQ) hC.natural h hK) hx hK
theorem cR{g c:FuncId}{gi:List AV}{x y:(AV->Option R)->Option R}(h1:cT P c gi x)(h2:cT P g gi y):cT P g gi (bif Nat.beq g c then x else y):=by
 cases h:Nat.beq g c with
 | true=>cases aw h;exact h1
 | false=>exact h2
theorem F8{C:FuncId->List AV->(AV->Option R)->Option R}{cut:Nat->Option dP}{fin:St->Option R}{n:Nat}{todo:List Item}{S:St} :
 runK G C cut fin (n+1) todo S=uz G C cut fin (runK G C cut fin n) todo S:=rfl
theorem G0{C:FuncId->List AV->(AV->Option R)->Option R}{cut:Nat->Option dP}{fn:Func}{n:Nat}{args:List AV}{K:AV->Option R}(h:fn.body.isNone=false) :
  G1 G C cut fn n args K=tW G C cut (λS=>jE G fn.resultTypes.toList fn.results.toList S K) (runK G C cut (λS=>jE G fn.resultTypes.toList fn.results.toList S K) n) 1000 [.code (fn.body.getD .skip)] (start fn args):=by
 unfold G1;cases hb:fn.body with
 | none=>rw[hb]at h;cases h
 | some c=>rfl
end
def Dl:Value->Value->Bool
 | .int k a,.int k' b=>decide (k=k')&&decide (a=b)
 | .bool a,.bool b=>a==b
 | .string a,.string b=>a.data.isEmpty&&b.data.isEmpty
 | .slice none n c,.slice none n' c'=>Nat.beq n n'&&Nat.beq c c'
 | .pointer none,.pointer none | .nilIface,.nilIface | .nilFunc,.nilFunc=>true
 | _,_=>false
theorem FX{x y:Value}(h:Dl x y=true):x=y:=by
 unfold Dl at h;split at h
 ·rw[ae]at h;rw[bj h.1,bj h.2]
 ·rw[eq_of_beq h]
 ·rename_i a b;rw[ae]at h;obtain⟨a⟩:=a;obtain⟨b⟩:=b;have h1:a=#[]:=by simpa using h.1
  have h2:b=#[]:=by simpa using h.2
  rw[h1,h2]
 ·rw[ae]at h;rw[aw h.1,aw h.2]
 ·rfl
 ·rfl
 ·rfl
 ·cases h
def uI:List Value->List Value->Bool
 | [],[]=>true
 | x::r,y::s=>Dl x y&&uI r s
 | _,_=>false
theorem u9:∀{x y:List Value},uI x y=true->x=y
 | [],[],_=>rfl
 | x::r,y::s,h=>by
  simp only[uI,ae]at h;rw[FX h.1,u9 h.2]
 | [],_::_,h=>by cases h
 | _::_,[],h=>by cases h
def JF:Value->Bool
 | .agg _=>true
 | _=>false
theorem Gy{z:Value}(h:JF z=true):z=.agg z.cells:=by
 cases z<;>first|rfl|cases h
def EX(P:Program)(t:TypeId)(ti:TI):Bool:=
 (match P.info? t with
  | some i=>Nat.beq i.size ti.size&&(Nat.beq i.bytes ti.bytes&&(match i.zero with | some z=>uI z.cells.toList ti.zero&&(!ti.isAgg||JF z) | none=>false))
  | none=>false) &&
 ((match P.underlying t with
  | some d => fR ti.kd d && (match d with | .struct fields => (fields.toList.all fun f => !(f.name == "_")) && !P.stoodInHeld t | _ => true)
  | none=>false) &&
 ((ti.isAgg==ti.kd.agg)&&(ti.zero.all one&&(Nat.beq ti.zero.length ti.size&&(Nat.beq ti.A2.length ti.size&&(Nat.beq ti.tid t&&(ti.isAgg||Nat.beq ti.size 1)))))))
theorem Lt{P:Program}{t:TypeId}{ti:TI}(h:EX P t ti=true):pv P t ti:=by
 unfold EX at h;simp only[ae]at h;obtain⟨h1,h2,h3,h4,h5,h6,h8,h7⟩:=h;refine⟨?_,?_,eq_of_beq h3,h4,aw h5,aw h6,?_,aw h8,?_⟩
 ·cases hi:P.info? t with
  | none=>rw[hi]at h1;cases h1
  | some i=>
   rw[hi]at h1;simp only[ae]at h1;obtain⟨e1,e2,e3⟩:=h1;refine⟨i,rfl,aw e1,aw e2,?_⟩;cases hz:i.zero with
   | none=>rw[hz]at e3;cases e3
   | some z=>
    rw[hz]at e3;simp only[ae]at e3;refine⟨z,rfl,u9 e3.1,λha=>?_⟩;have:=e3.2;rw[ha]at this;exact Gy this
 ·cases hu:P.underlying t with
  | none=>rw[hu]at h2;cases h2
  | some d=>rw[hu]at h2;simp only[ae]at h2;exact⟨d,rfl,h2.1⟩
 ·intro ha;rw[ha]at h7;exact aw h7
 ·intro fields hu;rw[hu]at h2;simp only[ae]at h2;refine⟨λf hf=>?_,by simpa using h2.2.2⟩;have:=aA.1 h2.2.1 f hf;simpa using this
def PQ(P:Program)(G:fv)(a n:Nat):Bool:=
 (List.range n).all λi=>match G.gM (a+i)with
  | .some ti=>EX P (a+i) ti&&(match gb G 9 (a+i)with | .some _=>!P.eqGuardType P.depth (a+i) | .none=>true)
  | .none=>true
theorem KH{P:Program}{G:fv}{n:Nat}(hn:∀t,n<=t->G.gM t=none)(h:PQ P G 0 n=true):et P G:=by
 have key:∀t ti,G.gM t=some ti->EX P t ti=true/\(match gb G 9 t with | .some _=>!P.eqGuardType P.depth t | .none=>true)=true:=by
  intro t ti ht;have eT:t<n:=by
   by_cases eT:t<n
   ·exact eT
   ·rw[hn t (Nat.le_of_not_lt eT)]at ht;cases ht
  have:=aA.1 h t (bM.2 eT);simp only[bO,ht,ae]at this;exact this
 refine⟨λt ti ht=>Lt (key t ti ht).1,λt ks hk=>?_⟩;cases ht:G.gM t with
 | none=>simp[gb,ht]at hk
 | some ti=>
  have:=(key t ti ht).2;rw[hk]at this;simpa using this
end Go.Proofs.Ev
namespace Go.Proofs
open Go.Shelf Go.RowKit Go.Lib
namespace Ev
theorem gR{P : Program}[eE P]{f : FuncId}{fn : Func}{args : List AV}{x : AV}(hf : P.funcs[f]? = some fn)(iS : (fn.name == "runtime.NumGoroutine") = false)(iU : fn.body.isNone = false)
  (h:∀(w:World) (F:Nat->Prop) (vals:Array Value),eE.Q P w->(∀b,F b->b<w.heap.size)->vals.size=args.length->(∀j c,args[j]?=some c->Rel w F c (vals.getD j Go.undef))->
   Calls P f vals w λe w'=>match e with
   | .returned v=>∃F' β,Came w w' F F' β/\Dh w' F' β x v
   | _=>False):dc P f args x:=by
 intro R0 w F vals hQ hB h1 _ h2 h3;have n1 : ¬ fn.name = "runtime.NumGoroutine" := by simpa using iS
 have n2:¬ fn.body=none:=by intro e;simp[e]at iU
 exact⟨by simp[callFunc,hf,n1,n2],h w F vals (eE.below _ _ hQ hB) h1 h2 h3⟩
theorem M_{w:World}{F:Nat->Prop}{x:AV}{vals:Array Value}(hl:vals.size=[x].length)(h:∀j c,[x][j]?=some c->Rel w F c (vals.getD j Go.undef)):∃u,vals=#[u]/\Rel w F x u:=by
 obtain⟨l⟩:=vals
 match l,hl with
 | [u],_=>exact⟨u,rfl,h 0 x rfl⟩
theorem xU{w:World}{F:Nat->Prop}{x y:AV}{vals:Array Value}(hl:vals.size=[x,y].length)(h:∀j c,[x,y][j]?=some c->Rel w F c (vals.getD j Go.undef)):∃u v,vals=#[u,v]/\Rel w F x u/\Rel w F y v:=by
 obtain⟨l⟩:=vals
 match l,hl with
 | [u,v],_=>exact⟨u,v,rfl,h 0 x rfl,h 1 y rfl⟩
theorem Q7{w:World}{F:Nat->Prop}{x y z:AV}{vals:Array Value}(hl:vals.size=[x,y,z].length)(h:∀j c,[x,y,z][j]?=some c->Rel w F c (vals.getD j Go.undef)):∃u v t,vals=#[u,v,t]/\Rel w F x u/\Rel w F y v/\Rel w F z t:=by
 obtain⟨l⟩:=vals
 match l,hl with
 | [u,v,t],_=>exact⟨u,v,t,rfl,h 0 x rfl,h 1 y rfl,h 2 z rfl⟩
theorem ll{w:World}{F:Nat->Prop}{x v:Value}(h:Rel w F (.v x) v):v=x:=by cases h;rfl
theorem Came.same{w:World}{F:Nat->Prop}(hF:∀b,F b->b<w.heap.size):Came w w F F (λ_=>none):=
 ⟨Below.refl _ _,λ_ h=>h,λb hb=>⟨hF b hb,.inl hb⟩,by simp,by simp⟩
theorem Came.lr{w w' : World}{F:Nat->Prop}(hF:∀b,F b->b<w.heap.size)(hB:Below w.heap.size w w'):Came w w' F F (λ_=>none):=
 ⟨hB,λ_ h=>h,λb hb=>⟨bB (hF b hb) hB.size,.inl hb⟩,by simp,by simp⟩
end Ev
namespace Ev
theorem BA{w w' : World}{F:Nat->Prop}{e:TypeId}{size:Nat}{v:Value}{fl:Fl}{xs:List AV}{news:List Value}(ht:fl.te=e)(hF:∀b,F b->b<w.heap.size)(fX:w'.ownsRow w.heap.size e size v xs.length news)(hB:Below w.heap.size w w')
  (hs:∀x∈xs,x.cells.length=size) (hf:∀x∈dm xs,xl fl x) (hr:∀j c,(dm xs)[j]?=some c->Rel w' F c (news.getD j Go.undef)) :
  ∃F' β,Came w w' F F' β/\Dh w' F' β (.fr fl size xs) v:=by
 obtain⟨hl,hv⟩:=fX;rcases hv with⟨rfl,h0⟩|⟨g,cap,cur,rfl,hbg,hg,Yw,WG,xF,RU⟩
 ·have:xs=[]:=aV.1 h0;subst this;exact⟨F,λ_=>none,⟨hB,λ_ h=>h,λb hb=>⟨bB (hF b hb) hB.size,.inl hb⟩,by simp,by simp⟩,⟨by simp,by simp[dm],.inl ⟨rfl,rfl⟩⟩,none,0,rfl,by simp,.inl ⟨rfl,rfl⟩⟩
 ·have eT:g<w'.heap.size:=(bn.1 hg).1;have nc:=(eJ size xs hs).1;refine⟨F,λj=>if j=0 then some (g,0,cur.size)else none,⟨hB,λ_ h=>h,λb hb=>⟨bB (hF b hb) hB.size,.inl hb⟩,?_,?_⟩,⟨hs,hf,.inr ⟨g,0,cur,(0,0),rfl,by rw[ht];exact hg,?_,?_,?_⟩⟩,_,cap,rfl,Yw,.inr ⟨g,0,cur.size,_,rfl,rfl,rfl,.inr ⟨rfl,by omega⟩⟩⟩
  ·intro j b o n hj;replace hj:(if j=0 then some (g,0,cur.size)else none)=some (b,o,n):=hj;split at hj
   ·cases hj;exact⟨hbg,eT,λhb=>by have:=hF _ hb;omega⟩
   ·cases hj
  ·intro j j' b o n o' n' hj mK;replace hj:(if j=0 then some (g,0,cur.size)else none)=some (b,o,n):=hj;replace mK : (if j'=0 then some (g,0,cur.size)else none)=some (b,o',n'):=mK;split at hj
   ·split at mK
    ·rename_i e1 e2;rw[e1,e2]
    ·cases mK
   ·cases hj
  ·rw[xF];have:=bf size Yw;omega
  ·exact .inl rfl
  ·intro j c hj;have:=hr j c hj;have mK : j<xs.length*size:=by have:=(aE.1 hj).1;omega
   rw[<-RU]at this;rw[ah,bU mK,cw]at this;rw[bO,aK];exact this
end Ev
end Go.Proofs
namespace Go.Proofs.Ev
open Go Go.RowKit
def K3(A:TypeId->List AV->Prop):List (TypeId × Nat)->List AV->Prop
 | [],cs=>cs=[]
 | f::r,cs=>∃p q,cs=p++q/\A f.1 p/\K3 A r q
def Dw(e sz m:Nat):List (TypeId × Nat):=(List.range m).map λi=>(e,i*sz)
def Arg(G:fv):Nat->TypeId->List AV->Prop
 | 0,_,_=>False
 | n+1,t,cs=>match G.gM t with
  | .some ti=>match ti.kd with
   | .int k=>∃i:Int,cs=[.v (.int k i)]/\(Lit.int k i).wf=true
   | .string=>∃s:ByteArray,cs=[.v (.string s)]/\s.size<=maxLen
   | .bool=>∃b,cs=[vb b]
   | .slice e=>match G.gM e with
    | .some ei=>∃xs:List AV,cs=[.sl ei.flat ei.size xs]/\xs.length<=maxLen/\∀y∈xs,bif ei.isAgg then ∃ds,y=.agg ds/\Arg G n e ds else Arg G n e [y]
    | .none=>False
   | .struct fs=>K3 (Arg G n) fs cs
   | .arr m e=>match G.gM e with
    | .some ei=>K3 (Arg G n) (Dw e ei.size m) cs
    | .none=>False
   | _=>False
  | .none=>False
def C6{H:Type}(S:TypeId->DataW H->List AV->Prop):List (DataW H)->List (TypeId × Nat)->List AV->Prop
 | [],[],cs=>cs=[]
 | d::ds,f::r,cs=>∃p q,cs=p++q/\S f.1 d p/\C6 S ds r q
 | _,_,_=>False
def qe{H:Type}(G:fv):Nat->TypeId->DataW H->List AV->Prop
 | 0,_,_,_=>False
 | n+1,t,d,cs=>match G.gM t with
  | .some ti=>match ti.kd with
   | .int k=>∃i:Int,d=.lit (.int k i)/\cs=[.v (.int k i)]
   | .string=>∃s:ByteArray,d=.lit (.string s.data.toList)/\cs=[.v (.string s)]
   | .bool=>∃b,d=.lit (.bool b)/\cs=[vb b]
   | .slice e=>match G.gM e with
    | .some ei=>(d=.nil/\cs=[.sl ei.flat ei.size []])\/∃ds rest xs,d=.slice ds rest/\cs=[.sl ei.flat ei.size xs]/\xs.length=ds.length/\
     ∀i dd,ds[i]?=some dd->∃ys,xs.getD i .undef=(bif ei.isAgg then .agg ys else ys.headD .undef)/\qe G n e dd ys
    | .none=>False
   | .struct fs=>∃ds,d=.agg ds/\C6 (qe G n) ds fs cs
   | .arr m e=>match G.gM e with
    | .some ei=>∃ds,d=.agg ds/\C6 (qe G n) ds (Dw e ei.size m) cs
    | .none=>False
   | _=>False
  | .none=>False
def vz(G:fv):Nat->List (TypeId × Nat)->Nat->Bool
 | o,[],s=>Nat.beq o s
 | o,f::r,s=>Nat.beq f.2 o&&(match G.gM f.1 with | .some fi=>vz G (o+fi.size) r s | .none=>false)
def nD(G:fv):Nat->Bool->TypeId->Bool
 | 0,_,_=>false
 | n+1,fl,t=>match G.gM t with
  | .some ti=>match ti.kd with
   | .int _ | .string | .bool=>true
   | .slice e=>!fl&&(match G.gM e with | .some ei=>Nat.ble 1 ei.size&&nD G n ei.pe e | .none=>false)
   | .struct fs=>vz G 0 fs ti.size&&fs.all λf=>nD G n fl f.1
   | .arr m e=>match G.gM e with | .some ei=>vz G 0 (Dw e ei.size m) ti.size&&nD G n fl e | .none=>false
   | _=>false
  | .none=>false
section
variable {P:Program} {G:fv} {w:World} {H:Type} {enc:TypeId × Value->H} {held:Bool}
theorem xe{A:TypeId->List AV->Prop}{Q:AV->Prop}:∀{l:List (TypeId × Nat)} {cs:List AV},(∀f∈l,∀p,A f.1 p->∀c∈p,Q c)->K3 A l cs->∀c∈cs,Q c
 | [],cs,_,h,c,hc=>by cases h;cases hc
 | f::r,cs,hA,h,c,hc=>by
  obtain⟨p,q,rfl,h1,h2⟩:=h;rcases aS.1 hc with hc|hc
  ·exact hA f (by simp) p h1 c hc
  ·exact xe (λf hf=>hA f (by simp[hf])) h2 c hc
theorem AZ:∀(n:Nat) (fl:Fl) (t:TypeId) (cs:List AV),nD G n fl.b t=true->Arg G n t cs->∀c∈cs,xl fl c
 | 0,_,_,_,h,_=>by cases h
 | n+1,fl,t,cs,h,ha=>by
  simp only[nD,Arg]at h ha;cases ht:G.gM t with
  | none=>rw[ht]at ha;exact ha.elim
  | some ti=>
   rw[ht]at h ha;simp only at h ha;intro c hc;cases hk:ti.kd<;>rw[hk]at h ha<;>simp only at h ha
   case int k=>obtain⟨i,rfl,_⟩:=ha;simp at hc;subst hc;exact⟨rfl,λ_=>rfl⟩
   case string=>obtain⟨i,rfl,_⟩:=ha;simp at hc;subst hc;exact⟨rfl,λ_=>rfl⟩
   case bool=>obtain⟨i,rfl⟩:=ha;simp at hc;subst hc;exact⟨rfl,λ_=>rfl⟩
   case slice e=>
    cases he:G.gM e with
    | none=>rw[he]at ha;exact ha.elim
    | some ei=>
     rw[he]at ha;obtain⟨xs,rfl,_⟩:=ha;simp at hc;subst hc;refine⟨rfl,λhf=>?_⟩;rw[hf]at h;cases h
   case struct fs=>
    rw[ae]at h;exact xe (λf hf p hp c hc=>AZ n fl f.1 p (aA.1 h.2 f hf) hp c hc) ha c hc
   case arr m e=>
    cases he:G.gM e with
    | none=>rw[he]at ha;exact ha.elim
    | some ei=>
     rw[he]at h ha;simp only at h ha;rw[ae]at h;refine xe (λf hf p hp c hc=>?_) ha c hc;obtain⟨i,_,rfl⟩:=cD.1 hf;exact AZ n fl e p h.2 hp c hc
   all_goals exact ha.elim
theorem Bo{G:fv}:∀{l:List (TypeId × Nat)} {o s:Nat},vz G o l s=true->o<=s
 | [],o,s,h=>Nat.le_of_eq (aw h)
 | f::r,o,s,h=>by
  simp only[vz,ae]at h;cases hf:G.gM f.1 with
  | none=>rw[hf]at h;cases h.2
  | some fi=>rw[hf]at h;have:=Bo h.2;omega
abbrev N_(P:Program)(G:fv)(w:World)(enc:TypeId × Value->H)(held:Bool)(n:Nat)(t:TypeId):Prop:=
 ∀(fuel:Nat) (cs:List Value) x,DataW.trod enc P w 0 (λ_=>true) held fuel t cs=some x->
  ∃w_:List AV,w_.length=cs.length/\(∀j c,w_[j]?=some c->Rel w (λb=>b<w.heap.size) c (cs.getD j undef))/\Arg G n t w_/\qe G n t x.1 w_
theorem lb(hG:et P G){t:TypeId}{ti:TI}(ht:G.gM t=some ti):P.cellsOf t=ti.size:=by
 obtain⟨i,hi,h1,_⟩:=(hG.ti t ti ht).info;simp[Program.cellsOf,hi,h1]
theorem oY(hG:et P G){n m:Nat}{cs:List Value}:∀{l:List (TypeId × Nat)} {o:Nat} {ys:List (DataW H × List MemPlace)},vz G o l cs.length=true->(∀f∈l,N_ P G w enc held n f.1)->
  (ys.length=l.length/\∀(i:Nat) (f:TypeId × Nat),l[i]?=some f->DataW.trod enc P w 0 (λ_=>true) held m f.1 ((cs.drop f.2).take (P.cellsOf f.1))=ys[i]?)->
  ∃w_:List AV,w_.length=cs.length - o/\(∀j c,w_[j]?=some c->Rel w (λb=>b<w.heap.size) c (cs.getD (o+j) undef))/\K3 (Arg G n) l w_/\C6 (qe G n) (ys.map (·.1)) l w_
 | [],o,ys,h,_,hT=>by
  have:ys=[]:=List.eq_nil_of_length_eq_zero hT.1;subst this;exact⟨[],by have:=aw h;simp;omega,by simp,rfl,rfl⟩
 | f::r,o,ys,h,hO,hT=>by
  simp only[vz,ae]at h;obtain⟨h1,h2⟩:=h;have h1:=aw h1;cases hf:G.gM f.1 with
  | none=>rw[hf]at h2;cases h2
  | some fi=>
   rw[hf]at h2;simp only at h2;have hle:=Bo h2;obtain⟨YQ,YR⟩:=hT;cases ys with
   | nil=>simp at YQ
   | cons y ys=>
   have hy:=YR 0 f rfl;simp only[List.getElem?_cons_zero]at hy;rw[lb hG hf]at hy;obtain⟨p,p1,p2,p3,p4⟩:=hO f (by simp) _ _ _ hy;obtain⟨q,q1,q2,q3,q4⟩:=oY hG (ys:=ys) h2 (λg hg=>hO g (by simp[hg])) ⟨by simpa using YQ,λi g hg=>by have:=YR (i+1) g (by simpa using hg);simpa using this⟩;have pl:p.length=fi.size:=by rw[p1];simp;omega
   refine⟨p++q,by simp[pl,q1];omega,λj c hj=>?_,⟨p,q,rfl,p3,q3⟩,p,q,rfl,p4,q4⟩;by_cases eT:j<p.length
   ·rw[aO eT]at hj;have:=p2 j c hj;rw[ah,bU (by omega),bm,h1]at this;rw[ah];exact this
   ·rw[aR (by omega)]at hj;have:=q2 _ c hj;rw[show o+fi.size+(j - p.length)=o+j by omega]at this;exact this
theorem EH{n:Nat}{t:TypeId}{ti:TI}{c:AV}(ht:G.gM t=some ti)(hk:ti.kd.agg=false)(h:Arg G n t [c]):c.cells=[c]:=by
 cases n with
 | zero=>exact h.elim
 | succ n=>
  simp only[Arg,ht]at h;cases fT:ti.kd<;>rw[fT]at h hk<;>simp only at h
  case int k=>obtain⟨i,h,_⟩:=h;cases h;rfl
  case string=>obtain⟨i,h,_⟩:=h;cases h;rfl
  case bool=>obtain⟨i,h⟩:=h;cases h;rfl
  case slice e=>
   cases he:G.gM e with
   | none=>rw[he]at h;exact h.elim
   | some ei=>rw[he]at h;obtain⟨xs,h,_⟩:=h;cases h;rfl
  case struct=>cases hk
  case arr=>cases hk
  all_goals exact h.elim
theorem opens(hG:et P G):∀(n:Nat) (fl:Bool) (t:TypeId),nD G n fl t=true->N_ P G w enc held n t
 | 0,_,_,h=>by cases h
 | n+1,fl,t,h=>by
  intro fuel cs x hx;simp only[nD]at h;cases ht:G.gM t with
  | none=>rw[ht]at h;cases h
  | some ti=>
   rw[ht]at h;simp only at h;have hT:=hG.ti t ti ht;obtain⟨d,hd,fT⟩:=hT.uJ;have xx:∀(c:AV) (v:Value),Rel w (λb=>b<w.heap.size) c v->∀j c',[c][j]?=some c'->Rel w (λb=>b<w.heap.size) c' ([v].getD j undef):=by
    intro c v hr j c' hj;cases j with
    | zero=>simp at hj;subst hj;exact hr
    | succ j=>simp at hj
   cases hk:ti.kd<;>rw[hk]at h fT<;>simp only at h
   case int k=>
    cases d<;>simp only[fR]at fT<;>first|cases fT|skip
    have e:=bj fT;subst e;obtain⟨i,rfl,GG,hw⟩:=DataW.trod_int hd hx;exact⟨[.v (.int _ i)],rfl,xx _ _ (.v _ rfl),by simp only[Arg,ht,hk];exact⟨i,rfl,hw⟩,by simp only[qe,ht,hk];exact⟨i,by rw[GG],rfl⟩⟩
   case string=>
    cases d<;>simp only[fR]at fT<;>first|cases fT|skip
    obtain⟨s,rfl,GG,hw⟩:=DataW.trod_string hd hx;exact⟨[.v (.string s)],rfl,xx _ _ (.v _ rfl),by simp only[Arg,ht,hk];exact⟨s,rfl,hw⟩,by simp only[qe,ht,hk];exact⟨s,by rw[GG],rfl⟩⟩
   case bool=>
    cases d<;>simp only[fR]at fT<;>first|cases fT|skip
    obtain⟨b,rfl,GG⟩:=DataW.trod_bool hd hx;exact⟨[vb b],rfl,xx _ _ (.v _ rfl),by simp only[Arg,ht,hk];exact⟨b,rfl⟩,by simp only[qe,ht,hk];exact⟨b,by rw[GG],rfl⟩⟩
   case slice e=>
    cases d<;>simp only[fR]at fT<;>first|cases fT|skip
    have e':=aw fT;subst e';rw[ae]at h;cases he:G.gM e with
    | none=>rw[he]at h;cases h.2
    | some ei=>
     rw[he]at h;simp only[ae]at h;have RW:=aG h.2.1;have hE:=hG.ti e ei he;have hA:∀(xs:List AV),xs.length<=maxLen->(∀y∈xs,bif ei.isAgg then ∃ds,y=.agg ds/\Arg G n e ds else Arg G n e [y])->Arg G (n+1) t [.sl ei.flat ei.size xs]:=by
      intro xs h1 h2;simp only[Arg,ht,hk,he];exact⟨xs,rfl,h1,h2⟩
     rcases DataW.trod_slice hd hx with⟨rfl,GG⟩|⟨a,len,cap,elems,rest,m,_,rfl,GG,_,hl,hm,hlen,YG,_,_⟩
     ·exact⟨[.sl ei.flat ei.size []],rfl,xx _ _ (.xt _ _),hA [] (cB _) (by simp),by simp only[qe,ht,hk,he];exact .inl ⟨by rw[GG],trivial⟩⟩
     ·rw[lb hG he]at YG;have each:∀i,∃w_:List AV,i<len->∃ci:List Value,ci.length=ei.size/\(∀j,j<ei.size->w.cell? ((a.add (i*ei.size)).add j)=ci[j]?)/\w_.length=ei.size/\(∀j c,w_[j]?=some c->Rel w (λb=>b<w.heap.size) c (ci.getD j undef))/\Arg G n e w_/\∀dd,(elems.map (·.1))[i]?=some dd->qe G n e dd w_:=by
       intro i;by_cases hi:i<len
       ·have h1:=YG i hi;have h2:elems[i]?=some elems[i]:=aN (by omega);rw[h2,aL]at h1;obtain⟨ci,N8,htr⟩:=h1;obtain⟨_,c1,c2⟩:=World.cells?_some N8;obtain⟨w_,v1,v2,v3,v4⟩:=opens hG n ei.pe e h.2.2 _ _ _ htr;exact⟨w_,λ_=>⟨ci,c1,c2,by rw[v1,c1],v2,v3,λdd De=>by rw[aP,h2,cE]at De;cases De;exact v4⟩⟩
       ·exact⟨[],λh=>absurd h hi⟩
      obtain⟨A,QI⟩:∃A:Nat->List AV,∀i,i<len->∃ci:List Value,ci.length=ei.size/\(∀j,j<ei.size->w.cell? ((a.add (i*ei.size)).add j)=ci[j]?)/\(A i).length=ei.size/\(∀j c,(A i)[j]?=some c->Rel w (λb=>b<w.heap.size) c (ci.getD j undef))/\Arg G n e (A i)/\∀dd,(elems.map (·.1))[i]?=some dd->qe G n e dd (A i):=
       ⟨λi=>Classical.choose (each i),λi=>Classical.choose_spec (each i)⟩
      have AB:∀i,i<len->(bif ei.isAgg then AV.agg (A i)else(A i).headD .undef).cells=A i:=by
       intro i hi;obtain⟨ci,_,_,al,_,aa,_⟩:=QI i hi;cases qN:ei.isAgg with
       | true=>rfl
       | false=>
        have s1:=hE.Ot qN;rw[s1]at al;obtain⟨c,hc⟩:=b_.1 al;rw[hc]at aa;rw[hc];exact EH he (by rw[<-hE.agg,qN]) aa
      obtain⟨xs,xC⟩:∃xs,xs=(List.range len).map λi=>bif ei.isAgg then AV.agg (A i)else(A i).headD .undef:=⟨_,rfl⟩;have NQ:xs.length=len:=by rw[xC];simp
      have J0:∀i,i<len->xs.getD i .undef=bif ei.isAgg then AV.agg (A i)else(A i).headD .undef:=by intro i hi;rw[xC];simp[ah,hi]
      have lH:∀y∈xs,∃i,i<len/\y=bif ei.isAgg then AV.agg (A i)else(A i).headD .undef:=by
       intro y hy;rw[xC]at hy;obtain⟨i,hi,rfl⟩:=cD.1 hy;exact⟨i,bM.1 hi,rfl⟩
      have xF:∀y∈xs,y.cells.length=ei.size:=by
       intro y hy;obtain⟨i,hi,rfl⟩:=lH y hy;rw[AB i hi];obtain⟨ci,_,_,al,_⟩:=QI i hi;exact al
      obtain⟨f1,f2⟩:=eJ ei.size xs xF;have fF:∀c∈dm xs,xl ei.flat c:=by
       intro c hc;simp only[dm,aY]at hc;obtain⟨y,hy,hc⟩:=hc;obtain⟨i,hi,rfl⟩:=lH y hy;rw[AB i hi]at hc;obtain⟨ci,_,_,_,_,aa,_⟩:=QI i hi;exact AZ n ei.flat e _ h.2.2 aa c hc
      have split:∀j,j<(dm xs).length->∃i k,i<len/\k<ei.size/\j=i*ei.size+k:=by
       intro j hj;rw[f1,NQ]at hj;exact⟨j / ei.size,j % ei.size,Nat.div_lt_of_lt_mul (by rwa[Nat.mul_comm]),Nat.mod_lt _ (by omega),by rw[Nat.mul_comm];exact(Nat.div_add_mod j ei.size).symm⟩
      have kS:∀i k,i<len->k<ei.size->∃ci:List Value,w.cell? (a.add (i*ei.size+k))=some (ci.getD k undef)/\∀c,(A i)[k]?=some c->Rel w (λb=>b<w.heap.size) c (ci.getD k undef):=by
       intro i k hi hk;obtain⟨ci,c1,c2,_,c4,_,_⟩:=QI i hi;refine⟨ci,?_,λc hc=>c4 k c hc⟩;have:=c2 k hk;rw[kI]at this;rw[this,ah,aN (by omega)];rfl
      refine⟨[.sl ei.flat ei.size xs],rfl,xx _ _ ?_,hA xs (by omega) ?_,?_⟩
      ·have:=Rel.sl (w:=w) (F:=λb=>b<w.heap.size) ei.flat ei.size xs a cap (λj=>(w.cell? (a.add j)).getD undef) ?_ (by omega) xF fF ?_ ?_ (λh=>by cases h)
       ·rw[NQ]at this;exact this
       ·intro gN;have h0:0<len:=by
         rw[<-NQ];exact bP.2 gN
        obtain⟨ci,N8,_⟩:=kS 0 0 h0 (by omega);rw[Nat.zero_mul,bO]at N8;show a.block<_;rcases Nat.lt_or_ge a.block w.heap.size with h'|h'
        ·exact h'
        ·have Cp:(a.add 0).block=a.block:=kj a 0;simp[World.cell?,Cp,Array.getElem?_eq_none h']at N8
       ·intro j hj;obtain⟨i,k,hi,hk,rfl⟩:=split j hj;obtain⟨ci,N8,_⟩:=kS i k hi hk;rw[N8];rfl
       ·intro j c hj;obtain⟨i,k,hi,hk,rfl⟩:=split j ((aE.1 hj).1);rw[f2 i (by omega) k hk,J0 i hi,AB i hi]at hj;obtain⟨ci,N8,hr⟩:=kS i k hi hk;rw[N8];exact hr c hj
      ·intro y hy;obtain⟨i,hi,rfl⟩:=lH y hy;obtain⟨ci,_,_,al,_,aa,_⟩:=QI i hi;cases qN:ei.isAgg with
       | true=>exact⟨A i,rfl,aa⟩
       | false=>
        have s1:=hE.Ot qN;rw[s1]at al;obtain⟨c,hc⟩:=b_.1 al;rw[hc]at aa ⊢;exact aa
      ·simp only[qe,ht,hk,he];refine .inr ⟨elems.map (·.1),rest.map (·.1),xs,by rw[GG],rfl,by rw[NQ,aj,hlen],λi dd De=>?_⟩;have hi:i<len:=by have:=(aE.1 De).1;simpa[hlen]using this
       obtain⟨ci,_,_,_,_,_,a9⟩:=QI i hi;exact⟨A i,J0 i hi,a9 dd De⟩
   case struct fs=>
    cases d<;>simp only[fR]at fT<;>first|cases fT|skip
    rename_i fields;have T9:=eq_of_beq fT;rw[ae]at h;obtain⟨xs,m,_,GG,ic,NQ,ig⟩:=DataW.trod_struct hd hx;rw[lb hG ht]at ic;obtain⟨w_,v1,v2,v3,v4⟩:=oY (m:=m) hG (l:=fs) (o:=0) (cs:=cs) (ys:=xs) (by rw[ic];exact h.1) (λf hf=>opens hG n fl f.1 (aA.1 h.2 f hf)) (by
     refine⟨by rw[NQ,<-T9];simp,λi f hf=>?_⟩;rw[<-T9,aP,aD]at hf;obtain⟨CG,J2,rfl⟩:=hf;exact ig i CG (by simpa using J2))
    exact⟨w_,by simpa using v1,by simpa using v2,by simp only[Arg,ht,hk];exact v3,by simp only[qe,ht,hk];exact⟨_,by rw[GG],v4⟩⟩
   case arr m e=>
    cases d<;>simp only[fR]at fT<;>first|cases fT|skip
    rw[ae]at fT;have e1:=aw fT.1;have e2:=aw fT.2;subst e1;subst e2;cases he:G.gM e with
    | none=>rw[he]at h;cases h
    | some ei=>
     rw[he]at h;simp only[ae]at h;obtain⟨xs,m',_,GG,ic,NQ,ig⟩:=DataW.trod_array hd hx;rw[lb hG ht]at ic;obtain⟨w_,v1,v2,v3,v4⟩:=oY (m:=m') hG (l:=Dw e ei.size m) (o:=0) (cs:=cs) (ys:=xs) (by rw[ic];exact h.1) (by
       intro f hf;obtain⟨i,_,rfl⟩:=cD.1 hf;exact opens hG n fl e h.2) (by
      refine⟨by rw[NQ];simp[Dw],λi f hf=>?_⟩;unfold Dw at hf;rw[aP,aD]at hf;obtain⟨k,wH,rfl⟩:=hf;obtain⟨Mm,nz⟩:=aE.1 wH;rw[List.getElem_range]at nz;subst nz;have h3:=ig i (by simpa using Mm);rw[lb hG he]at h3;rw[lb hG he];exact h3)
     exact⟨w_,by simpa using v1,by simpa using v2,by simp only[Arg,ht,hk,he];exact v3,by simp only[qe,ht,hk,he];exact⟨_,by rw[GG],v4⟩⟩
   all_goals cases h
end
end Go.Proofs.Ev
namespace Go.Proofs.Ev
open Go Go.RowKit Go.ChangeShapes Go.WideShapes Go.ChangeAt
def P6(G:fv)(n:Nat)(t:TypeId)(x:AV):Prop:=
 match G.gM t with
 | .some ti=>∃ys,Arg G n t ys/\x=bif ti.isAgg then .agg ys else ys.headD .undef
 | .none=>False
def M4(G:fv)(n:Nat):List TypeId->List AV->Prop
 | [],xs=>xs=[]
 | t::ts,xs=>∃x r,xs=x::r/\P6 G n t x/\M4 G n ts r
section
variable {P:Program} {G:fv} {w W W' : World} {H:Type} {enc:TypeId × Value->H} {held:Bool}
theorem KS(hG:et P G){n:Nat}{t:TypeId}(Ce:nD G n false t=true){r:Reach}{base:Nat}{v:Value}{d:DataW H}{ps:List MemPlace}(mc:Value.okWide P w r base t v)
  (h:DataW.Trod enc P w 0 (λ_=>true) held t v d ps):∃x,P6 G n t x/\Rel w (λb=>b<w.heap.size) x v:=by
 obtain⟨fuel,h⟩:=h;obtain⟨ys,h1,h2,h3,_⟩:=opens hG n false t Ce _ _ _ h;unfold P6;cases ht:G.gM t with
 | none=>
  cases n with
  | zero=>cases Ce
  | succ n=>simp only[nD,ht]at Ce;cases Ce
 | some ti=>
  simp only;obtain⟨d,hd,fT⟩:=(hG.ti t ti ht).uJ;refine⟨_,⟨ys,h3,rfl⟩,?_⟩;have agg:∀cs,v=.agg cs->ti.isAgg=true->Rel w (λb=>b<w.heap.size) (bif ti.isAgg then AV.agg ys else ys.headD .undef) v:=by
   rintro cs rfl ha;rw[ha];simp only[Value.cells,br]at h1 h2;refine .agg ys cs h1.symm λj c hj=>?_;have:=h2 j c hj;rwa[ah,cw,<-aK]at this
  have xx:v.cells=#[v]->ti.isAgg=false->Rel w (λb=>b<w.heap.size) (bif ti.isAgg then AV.agg ys else ys.headD .undef) v:=by
   intro hv ha;rw[ha];rw[hv]at h1 h2;obtain⟨c,hc⟩:=b_.1 (show ys.length=1 by simpa using h1);subst hc;exact h2 0 c rfl
  have qN:=(hG.ti t ti ht).agg;cases n with
  | zero=>cases Ce
  | succ n=>
   simp only[nD,ht]at Ce;cases hk:ti.kd<;>rw[hk]at Ce fT qN<;>simp only at Ce
   case int k=>
    cases d<;>simp only[fR]at fT<;>first|cases fT|skip
    obtain⟨i,rfl⟩:=okWide_int hd mc;exact xx rfl qN
   case string=>
    cases d<;>simp only[fR]at fT<;>first|cases fT|skip
    obtain⟨i,rfl⟩:=okWide_string hd mc;exact xx rfl qN
   case bool=>
    cases d<;>simp only[fR]at fT<;>first|cases fT|skip
    obtain⟨i,rfl⟩:=okWide_bool hd mc;exact xx rfl qN
   case slice e=>
    cases d<;>simp only[fR]at fT<;>first|cases fT|skip
    obtain⟨a,l,c,rfl⟩:=okWide_slice hd mc;exact xx rfl qN
   case struct fs=>
    cases d<;>simp only[fR]at fT<;>first|cases fT|skip
    obtain⟨cs,rfl,_⟩:=okWide_struct hd mc;exact agg cs rfl qN
   case arr m e=>
    cases d<;>simp only[fR]at fT<;>first|cases fT|skip
    simp only[Value.okWide,hd]at mc;obtain⟨cs,rfl,_⟩:=mc;exact agg cs rfl qN
   all_goals cases Ce
theorem zk(hG:et P G){n:Nat}{r:Reach}{base:Nat}:∀{ts:List TypeId} {vs:List Value} {ds:List (DataW H)} {ps:List MemPlace},(ts.all λt=>nD G n false t)=true->
  (∀(j:Nat) t v,ts[j]?=some t->vs[j]?=some v->Value.okWide P w r base t v)->DataW.TrodAll enc P w 0 (λ_=>true) held ts vs ds ps->
  ∃xs:List AV,xs.length=vs.length/\(∀j c,xs[j]?=some c->Rel w (λb=>b<w.heap.size) c (vs.getD j undef))/\M4 G n ts xs
 | [],vs,ds,ps,_,_,h=>by
  obtain⟨rfl,_,_⟩:=trodAll_nil h;exact⟨[],rfl,by simp,rfl⟩
 | t::ts,vs,ds,ps,ht,mc,h=>by
  obtain⟨v,XY,d,YX,p,q,rfl,rfl,rfl,h1,h2⟩:=trodAll_cons h;rw[bo,ae]at ht;obtain⟨x,a1,a2⟩:=KS hG ht.1 (mc 0 t v rfl rfl) h1;obtain⟨xs,b1,b2,b3⟩:=zk hG ht.2 (λj t v h1 h2=>mc (j+1) t v h1 h2) h2;refine⟨x::xs,by simp[b1],λj c hj=>?_,x,xs,rfl,a1,b3⟩;cases j with
  | zero=>simp at hj;subst hj;simpa using a2
  | succ j=>exact b2 j c (by simpa using hj)
theorem zl(hl:laidOutB P=true)(hB:Below W.heap.size W W'):∀{ts:List TypeId} {vs:List Value} {ds:List (DataW H)} {ps:List MemPlace},(ts.all λt=>P.readableRec t&&decide (t<P.types.size))=true->
  DataW.TrodAll enc P W 0 (λ_=>true) true ts vs ds ps->DataW.TrodAll enc P W' 0 (λb=>decide (b<W.heap.size)) true ts vs ds ps
 | [],vs,ds,ps,_,h=>by
  obtain⟨rfl,rfl,rfl⟩:=trodAll_nil h;exact trodAll_mk0
 | t::ts,vs,ds,ps,ht,h=>by
  obtain⟨v,XY,d,YX,p,q,rfl,rfl,rfl,h1,h2⟩:=trodAll_cons h;rw[bo,ae,ae]at ht;refine trodAll_cons_mk (Below.trod hl ht.1.1 (bj ht.1.2) h1 hB ?_) (zl hl hB ht.2 h2);obtain⟨m,hm⟩:=h1;exact DataW.trod_lt m _ _ _ hm
theorem Gw[eE P](hG:et P G)(hl:laidOutB P=true){f:FuncId}{fn:Func}{s:ChangeSpec}{args:Array Value}{ds gs:List (DataW H)}{before:List MemPlace}{n base:Nat}{rt:TypeId}
  (Ce:(fn.params.toList.all λt=>nD G n false t)=true) (R6:(fn.params.toList.all λt=>P.readableRec t&&decide (t<P.types.size))=true)
  (Mi:fn.resultTypes=#[rt]) (hrt:P.underlying rt=some .bool) (NT:s.vars=[]) (JR:∀ds:List (DataW H),ds.length=fn.params.size->s.fn H ds={ results:=[.lit (.bool true)],args:=ds })
  (mc:∀(j:Nat) t v,fn.params[j]?=some t->args[j]?=some v->Value.okWide P W .any base t v) (hW:DataW.Whole enc P fn.params.toList s.vars false W args.toList ds gs before)
  (hQ:eE.Q P W) (cW:∀xs,M4 G n fn.params.toList xs->dc P f xs (vb true)) :
  Calls P f args W λe W'=>∃v,e=.returned v/\s.post enc P fn false true false false W args v W':=by
 have hW':=hW;obtain⟨p,q,hA,hV,rfl,Le,GK⟩:=hW;rw[NT]at hV;obtain⟨rfl,rfl⟩:=trodVars_none hV;obtain⟨xs,x1,x2,x3⟩:=zk hG Ce (λj t v h1 h2=>mc j t v (by simpa using h1) (by simpa using h2)) hA;have hh:=(cW xs x3 W W (λb=>b<W.heap.size) args hQ (Below.refl _ W) (λ_ h=>h) (λ_ h=>h) (by simpa using x1.symm) (λj c hj=>by
  have:=x2 j c hj;rwa[ah,cw,<-aK]at this)).2
 refine hh.mono λe W' he=>?_;cases e with
 | returned v=>
  obtain⟨F',β,lx,hr⟩:=he;have hv:v=.bool true:=ll hr;subst hv;have J_:ds.length=fn.params.size:=by
   have:∀{ts:List TypeId} {vs:List Value} {ds:List (DataW H)} {ps:List MemPlace},DataW.TrodAll enc P W 0 (λ_=>true) true ts vs ds ps->ds.length=ts.length:=by
    intro ts;induction ts with
    | nil=>intro vs ds ps h;obtain⟨_,rfl,_⟩:=trodAll_nil h;rfl
    | cons t ts ih=>intro vs ds ps h;obtain⟨v,XY,d,YX,p,q,rfl,rfl,rfl,h1,h2⟩:=trodAll_cons h;simp[ih h2]
   simpa using this hA
  refine⟨_,rfl,ds,[],_,[],p,[],hW',?_,?_,?_,lx.below.frame _,λh=>by cases h⟩
  ·rw[bc,JR ds J_,Mi];exact trodAll_mk1 (shut_bool hrt _)
  ·rw[bc,JR ds J_];exact zl hl lx.below R6 hA
  ·rw[bc,JR ds J_,NT];rfl
 | _=>exact he.elim
end
end Go.Proofs.Ev
namespace Go.Proofs.Ev
open Go Go.RowKit
section
variable {R:Type} {P:Program} {G:fv} {a:Act} {w w' : World} {W0:fh} {F0 U F F' : Nat->Prop} {id:Nat} {L L' : AV->Value->Prop} {r:R} {m m' : Mem} {μ fC β:Mu}
theorem wo(G:fv)(k:Nat):∀n t,gb { G with kb:=k } n t=gb G n t
 | 0,t=>rfl
 | n+1,t=>by
  have:gb { G with kb:=k } n=gb G n:=funext (wo G k n);simp only[gb,this]
theorem et.kb(h:et P G)(k:Nat):et P { G with kb:=k }:=⟨h.ti,λt ks hk=>h.YV t ks (by rw[<-wo G k];exact hk)⟩
theorem LD(S:St)(e:Nat × Nat × Fl × Nat)(h:At G W0 F0 S a w):At G W0 F0 (Dv S e) a w:=by
 obtain⟨i,j,fl,sz⟩:=e;obtain⟨μ,F,hI⟩:=h.CF fl sz;have hU:∀i,(i<8*S.mI\/i=8*S.mI)->i<8*(S.mI+1):=by intro i hi;omega
 have fX:=E8 (w:=w) (F:=F) (μ:=μ) (U:=λi=>i<8*S.mI\/i=8*S.mI) (.inr rfl) (Mem.dQ S.m (8*S.mI) (some (.row fl sz [])));simp only[Dv];split
 ·rename_i tb cs hm;split
  ·rename_i hj;have eT:i<8*S.mI:=by
    obtain⟨Y3,F0',QH⟩:=h.inv;exact QH.used i _ hm
   have gN:i≠8*S.mI:=by omega
   refine⟨h.defers,h.len,μ,F,(dj.IE hI (id:=i) (j:=j) (cs:=cs) (x:=.own (8*S.mI) 0 none) ?_ ?_).wider hU⟩
   ·rw[Mem.dy _ _ gN];exact hm
   ·rintro v ⟨C,rfl,hC⟩ _;have:=hC j _ hj;rw[<-(eg (ej (ef this))).1]at fX;exact fX
  ·exact h
 ·exact h
theorem MI{v:Value}(h:fL w F μ m U (.v .nilIface) v):fL w F μ m U (.err false) v:=by
 obtain⟨_,h2⟩:=h;cases h2;exact fm .qO
theorem MH{t:TypeId}{x v:Value}(h:fL w F μ m U (.v (.iface t x)) v):fL w F μ m U (.err true) v:=by
 obtain⟨_,h2⟩:=h;cases h2;exact fm (.qc _ _)
theorem vR:∀(ks:List SK) (xs ys:List AV) (u:Nat->Value),j3 ks xs=some ys->(∀j c,xs[j]?=some c->fL w F μ m U c (u j))->
  ys.length=xs.length/\∀j c,ys[j]?=some c->qz c=true/\fL w F μ m U c (u j):=by
 intro ks;induction ks with
 | nil=>
  intro xs ys u e h;cases xs with
  | nil=>simp[j3]at e;subst e;exact⟨rfl,by simp⟩
  | cons x xs=>simp[j3]at e
 | cons k ks ih=>
  intro xs ys u e h;have step:∀(x y:AV) (r s:List AV),xs=x::r->ys=y::s->j3 ks r=some s->qz y=true->(fL w F μ m U x (u 0)->fL w F μ m U y (u 0))->
    ys.length=xs.length/\∀j c,ys[j]?=some c->qz c=true/\fL w F μ m U c (u j):=by
   intro x y r s e1 e2 e3 e4 e5;subst e1 e2;obtain⟨l2,r2⟩:=ih r s (λj=>u (j+1)) e3 (λj c hj=>h (j+1) c (by simpa using hj));refine⟨by simp[l2],λj c hj=>?_⟩;cases j with
   | zero=>simp at hj;subst hj;exact⟨e4,e5 (h 0 x rfl)⟩
   | succ j=>exact r2 j c (by simpa using hj)
  cases xs with
  | nil=>cases k<;>simp[j3]at e
  | cons x r=>
   have hv:∀{A:Option (List AV)},(∀y,x=.v y->A=(match j3 ks r with | .some s=>Option.some (.v y::s) | _=>none))->((∀y,x≠.v y)->A=none)->A=some ys->
     ys.length=(x::r).length/\∀j c,ys[j]?=some c->qz c=true/\fL w F μ m U c (u j):=by
    intro A h1 h2 eA;cases x
    case v y=>
     rw[h1 y rfl]at eA;split at eA
     ·rename_i s hs;cases eA;exact step _ _ _ _ rfl rfl hs rfl (λh=>h)
     ·cases eA
    all_goals (rw[h2 (λy=>by simp)]at eA;cases eA)
   cases k
   case slice=>simp[j3]at e
   case any=>
    simp only[j3]at e;split at e
    ·rename_i y s hy hs;cases e;split at hy
     ·cases hy;exact step _ _ _ _ rfl rfl hs rfl MI
     ·cases hy;exact step _ _ _ _ rfl rfl hs rfl MH
     ·cases hy;exact step _ _ _ _ rfl rfl hs rfl (λh=>h)
     ·cases hy
    ·cases e
   all_goals refine hv (λy hy=>?_) (λhn=>?_) e
   all_goals first|(subst hy;rfl;done)|(cases x<;>first|exact absurd rfl (hn _)|rfl)
theorem DG{ti:TI}{x y:AV}{v:Value}(e:zY ti x=some y)(h:fg w F μ m U x v):sH y=true/\mH w F μ m U y v:=by
 have one:∀(hx:fL w F μ m U x v),(match j3 ti.A2 [x]with | some [y]=>some y | _=>none)=some y->sH y=true/\mH w F μ m U y v:=by
  intro hx e;split at e
  ·rename_i y' hy;cases e;obtain⟨_,r2⟩:=vR (w:=w) (F:=F) (μ:=μ) (m:=m) (U:=U) ti.A2 [x] [y] (λ_=>v) hy (λj c hj=>by
    cases j with
    | zero=>simp at hj;subst hj;exact hx
    | succ j=>simp at hj)
   obtain⟨p1,p2⟩:=r2 0 y rfl;refine⟨?_,ef p2⟩;cases y<;>first|exact p1|cases p1
  ·cases e
 cases x
 case agg cs=>
  simp only[zY]at e;obtain⟨_,e⟩:=c_ e;rw[aD]at e;obtain⟨ys,hy,rfl⟩:=e;obtain⟨vs,rfl,hl,hr⟩:=h;obtain⟨l2,r2⟩:=vR ti.A2 cs ys (λj=>vs.getD j undef) hy hr;refine⟨aA.2 λc hc=>?_,vs,rfl,by rw[l2];exact hl,λj c hj=>(r2 j c hj).2⟩;obtain⟨j,hj⟩:=List.getElem?_of_mem hc;exact(r2 j c hj).1
 case eC cs=>
  exfalso;simp only[zY]at e;split at e
  ·rename_i y' hy;cases hk:ti.A2 with
   | nil=>rw[hk]at hy;simp[j3]at hy
   | cons k ks=>rw[hk]at hy;cases k<;>simp[j3]at hy
  ·cases e
 all_goals exact one h e
theorem tH:∀(ts:List TypeId) (xs ys:List AV) (u:Nat->Value),nT G ts xs=some ys->(∀j c,xs[j]?=some c->fg w F μ m U c (u j))->
  ys.length=xs.length/\∀j c,ys[j]?=some c->sH c=true/\mH w F μ m U c (u j)
 | [],[],ys,u,e,h=>by simp[nT]at e;subst e;exact⟨rfl,by simp⟩
 | [],_::_,ys,u,e,h=>by simp[nT]at e
 | _::_,[],ys,u,e,h=>by simp[nT]at e
 | t::ts,x::r,ys,u,e,h=>by
  simp only[nT]at e;split at e
  ·split at e
   ·rename_i y s hy hs;cases e;obtain⟨l2,r2⟩:=tH ts r s (λj=>u (j+1)) hs (λj c hj=>h (j+1) c (by simpa using hj));refine⟨by simp[l2],λj c hj=>?_⟩;cases j with
    | zero=>simp at hj;subst hj;exact DG hy (h 0 x rfl)
    | succ j=>exact r2 j c (by simpa using hj)
   ·cases e
  ·cases e
theorem PN{ord:List Nat}(hg:Good m ord):P4 ord m (Mem.iu (ord.map λi=>jQ (kZ ord (m i)))) μ (λj=>(ord[j]?).bind μ) (λi=>i<ord.length):=by
 refine⟨λj id hj=>?_,λj id hj=>by simp[hj],λj id hj=>(aE.1 hj).1⟩;cases hm:m id with
 | none=>exact absurd hm (hg.2 id (aT hj))
 | some b=>exact .inr ⟨b,rfl,by rw[rB,hj];simp[hm]⟩
theorem dj.Tm(hI:dj W0 F0 U m L w μ F){ord:List Nat}(qh:Good m ord)
  (hL:∀c v,L' c v->fg w F (λj=>(ord[j]?).bind μ) (Mem.iu (ord.map λi=>jQ (kZ ord (m i)))) (λi=>i<ord.length) c v) :
  dj W0 F0 (λi=>i<ord.length) (Mem.iu (ord.map λi=>jQ (kZ ord (m i)))) L' w (λj=>(ord[j]?).bind μ) F:=by
 have lH:∀j b',Mem.iu (ord.map λi=>jQ (kZ ord (m i))) j=some b'->∃id b,ord[j]?=some id/\m id=some b/\b'=kZ ord (some b):=by
  intro j b' hj;rw[rB,aD]at hj;obtain⟨id,hid,rfl⟩:=hj;cases hm:m id with
  | none=>exact absurd hm (qh.2 id (aT hid))
  | some b=>exact⟨id,b,hid,hm,rfl⟩
 have eT:∀(j id:Nat),ord[j]?=some id->j<ord.length:=λj id hj=>(aE.1 hj).1;have hc:=PN (μ:=μ) qh;refine{ below:=hI.below,dW:=hI.dW,sub:=hI.sub,gl:=hI.gl,used:=?_,lQ:=?_,own:=?_,inj:=?_,dT:=hL }
 ·intro j b' hj;obtain⟨id,b,hid,_,_⟩:=lH j b' hj;exact hc.used j id hid
 ·intro j b' hj;obtain⟨id,b,hid,hb,rfl⟩:=lH j b' hj;have hB:=hI.lQ id b hb;cases b with
  | box tb cs=>
   obtain⟨b,C,f,e1,e2,e3,e4,e5⟩:=hB;refine⟨b,C,f,by simp[hid,e1],e2,by simpa using e3,e4,λk c hk=>?_⟩;simp only[aP,aD]at hk;obtain⟨y,hy,rfl⟩:=hk;exact BC hc 3 (e5 k y hy)
  | row fl sz xs=>
   obtain⟨e1,e2,e3⟩:=hB;refine⟨e1,e2,?_⟩;simpa[hid]using e3
 ·intro j b' b o n hj hb;obtain⟨id,b1,hid,pR,rfl⟩:=lH j b' hj;simp only[hid,ab]at hb;exact hI.own id b1 b o n pR hb
 ·intro j j' b1 b2 b o n o' n' hj mK hb jP;obtain⟨id,c1,hid,Co,rfl⟩:=lH j b1 hj;obtain⟨uo,c2,Cl,Kc,rfl⟩:=lH j' b2 mK;simp only[hid,ab]at hb;simp only[Cl,ab]at jP;have e:=hI.inj id uo c1 c2 b o n o' n' Co Kc hb jP;subst e;exact(List.getElem?_inj (eT j _ hid) qh.1).1 (hid.trans Cl.symm)
theorem MF(hG:et P G){fn:Func}{fS:List (Nat × Nat × Fl × Nat)}{S:St}{K:AV->Option R}(h:At G W0 F0 S a w)(hK:AI G fS fn.resultTypes.toList fn.results.toList S K=some r) :
  ∃v y os,(results fn a.tmps).run P w=.ok v w/\K (.eC [y,.eC os])=some r/\
   ∃F' fC,dj W0 F0 (λi=>i<os.length) (Mem.iu os) (λc u=>c=y/\u=v) w fC F'/\∀i,i<G.kb->∃n,fC i=some (W0.bk i,0,n):=by
 obtain⟨μ,F,hI⟩:=h.inv;unfold AI at hK;obtain⟨xs,vs,eM,fN,hl,hr⟩:=pB hG hI _ _ hK;clear hK;obtain⟨ys,sS,jr⟩:=cS eM;clear eM;obtain⟨l1,r1⟩:=tH _ _ _ (λj=>vs.getD j Go.undef) sS hr;obtain⟨RT,hK⟩:=c_ jr;clear jr;have hS:At G W0 F0 (fS.foldl Dv S) a w:=by
  have:∀(l:List (Nat × Nat × Fl × Nat)) (S:St),At G W0 F0 S a w->At G W0 F0 (l.foldl Dv S) a w:=by
   intro l;induction l with
   | nil=>intro S h;exact h
   | cons e l ih=>intro S h;exact ih _ (LD S e h)
  exact this _ _ h
 generalize fS.foldl Dv S=S' at hK RT hS;obtain⟨K4,F1,YS⟩:=hS.inv;have JT : (results fn a.tmps).run P w=.ok (if h:vs.toArray.size=1 then vs.toArray[0]else .tuple vs.toArray) w:=by
  have:(fn.results.mapM (oW a.tmps)).run P w=.ok vs.toArray w:=by
   rw[Array.mapM_eq_mapM_toList];simp[fN]
  have e:results fn a.tmps=(fn.results.mapM (oW a.tmps) >>= λvs=>pure (if h:vs.size=1 then vs[0]else .tuple vs)):=by
   unfold results;refine congrArg (λm=>m >>= _) ?_;congr 1
  rw[e,cv,this];rfl
 have hy:zZ (match ys with | [y]=>y | ys=>.eC ys)=true/\fg w F μ S.m (λi=>i<8*S.mI) (match ys with | [y]=>y | ys=>.eC ys) (if h:vs.toArray.size=1 then vs.toArray[0]else .tuple vs.toArray):=by
  split
  ·rename_i y;have GH:vs.length=1:=by rw[hl,<-l1];rfl
   obtain⟨v,rfl⟩:=b_.1 GH;obtain⟨p1,p2⟩:=r1 0 y rfl;refine⟨?_,ej p2⟩;cases y<;>first|exact p1|cases p1
  ·rename_i gN;have GH:¬ vs.toArray.size=1:=by
    intro h1;have:ys.length=1:=by rw[l1,<-hl];simpa using h1
    obtain⟨y,hy⟩:=b_.1 this;exact gN y hy
   rw[dif_neg GH];refine⟨aA.2 λc hc=>?_,vs.toArray,rfl,by simp[hl,l1],λj c hj=>by simpa using(r1 j c hj).2⟩;obtain⟨j,hj⟩:=List.getElem?_of_mem hc;exact(r1 j c hj).1
 refine⟨_,_,_,JT,hK,?_⟩;obtain⟨ord,uq⟩:∃ord,ord=(List.range G.kb).foldl (λord i=>visit 6 S'.m ord (.agg (match S'.m i with | .some (.box _ cs)=>cs|_=>[]))) (List.range G.kb):=⟨_,rfl⟩;have qh:Good S'.m ord:=by rw[uq];exact nH _ _ (vA RT)
 obtain⟨t0,Lb⟩:∃t,ord=List.range G.kb++t:=by rw[uq];exact nG _ _
 have ho:outs G.kb S'=ord.map λi=>jQ (kZ ord (S'.m i)):=by rw[uq];rfl
 rw[ho,aj];refine⟨F1,λj=>(ord[j]?).bind K4,?_,?_⟩
 ·have:=YS.Tm qh (L':=λc u=>c=(match ys with | [y]=>y | ys=>.eC ys)/\u=(if h:vs.toArray.size=1 then vs.toArray[0]else .tuple vs.toArray)) (by
   rintro c u ⟨rfl,rfl⟩;exact vQ hy.1 hy.2)
  exact this
 ·intro i hi;have hp:=YS.dT _ _ (.inr (.inr ⟨i,hi,rfl,rfl⟩));have hb:oB (S'.m i)=true:=aA.1 RT i (bM.2 hi);cases hm:S'.m i with
  | none=>rw[hm]at hb;cases hb
  | some b=>
   cases b with
   | row _ _ _=>rw[hm]at hb;cases hb
   | box tb cs=>
    obtain⟨_,_,V6⟩:=hp;obtain⟨b,n,fG,hv⟩:=V6 tb cs hm;cases hv;exact⟨n,by show(ord[i]?).bind K4=_;rw[E6 Lb hi];exact fG⟩
theorem Ff:∀(bs:List AV),nv bs<=bs.length
 | []=>aH _
 | x::r=>by
  have:=Ff r;cases x<;>simp[nv];exact this
theorem F6{fn:Func}{args bs:List AV}{vals:Array Value}(iT:mX G W0.root)(qa:G.kb=nv bs)(hl:vals.size=args.length)
  (hI:dj W0 F0 (λi=>i<8*bs.length) (Mem.iu bs) (λc v=>∃j,args[j]?=some c/\v=vals.getD j undef) W0.w μ F0) (Kd:∀i,i<nv bs->∃n,μ i=some (W0.bk i,0,n)) :
  At G W0 F0 (nQ fn args bs) { tmps:=vals++Array.replicate (fn.ntmps - vals.size) Go.undef,defers:=[] } W0.w:=by
 refine⟨rfl,by simp[nQ,hl],μ,F0,?_⟩;refine{ hI with dT:=?_ };rintro x v (⟨t,rfl,rfl⟩|⟨g,cs,hg,rfl,rfl⟩|⟨i,hi,rfl,rfl⟩)
 ·by_cases ht:t<args.length
  ·have e1:(nQ fn args bs).tm.getD t .undef=args[t]:=by simp[nQ,ah,aO ht,ht]
   have e2:(vals++Array.replicate (fn.ntmps - vals.size) Go.undef).getD t Go.undef=vals.getD t Go.undef:=by
    rw[aK,Array.getElem?_append_left (by omega),aK]
   rw[e1,e2];exact hI.dT _ _ ⟨t,aN ht,rfl⟩
  ·have e1:(nQ fn args bs).tm.getD t .undef=.undef:=by
    simp only[nQ,ah];rw[aR (by omega),List.getElem?_replicate];split<;>rfl
   rw[e1];exact ej (ef (ga kY))
 ·exact ej (ef (fm ((iT g cs hg).mono hI.gl λb hb=>W0.vH.block b hb)))
 ·rw[qa]at hi;obtain⟨n,hn⟩:=Kd i hi;have:=Ff bs;refine⟨λ_=>rfl,?_,λtb cs xF=>⟨_,n,hn,rfl⟩⟩;show i<8*bs.length;omega
def gT(P:Program)[eE P](f:FuncId)(args bs:List AV)(y:AV)(os:List AV):Prop:=
 ∀(B:fh) (F:Nat->Prop) (vals:Array Value) (μ:Mu),eE.Q P B.root->vals.size=args.length->
  dj B F (λi=>i<8*bs.length) (Mem.iu bs) (λc v=>∃j,args[j]?=some c/\v=vals.getD j undef) B.w μ F->(∀i,i<nv bs->∃n,μ i=some (B.bk i,0,n))->
  (callFunc f vals).run P B.w=.ok (.enter f vals) B.w/\Calls P f vals B.w λe w'=>match e with
   | .returned v=>∃F' fC,dj B F (λi=>i<os.length) (Mem.iu os) (λc u=>c=y/\u=v) w' fC F'/\∀i,i<nv bs->∃n,fC i=some (B.bk i,0,n)
   | _=>False
theorem gT.cW[eE P]{f:FuncId}{args bs:List AV}{y:AV}{os:List AV}(h:gT P f args bs y os):xh P f (args++[.eC bs]) (.eC [y,.eC os]):=
 λR0 hQ=>⟨λhl=>absurd hl (by simp[n6]),λY0 YY y' os' e1 e2=>by
  obtain⟨rfl,e3⟩:=List.append_inj' e1 rfl;cases e3;cases e2;intro B F vals μ hB h1 h2 h3;exact .inl (h B F vals μ (hB ▸ hQ) h1 h2 h3),λ_ _ _ _ _ _ _ _ _ e=>by cases e⟩
theorem MD[eE P](hG:et P G)(iT:∀R0,eE.Q P R0->mX G R0){C:FuncId->List AV->(AV->Option R)->Option R}
  {cut : Nat → Option dP} {fS : List (Nat × Nat × Fl × Nat)} {f : FuncId} {fn : Func} {args bs : List AV} {y : AV} {os : List AV} {n : Nat} (qa : G.kb = nv bs) (hf : P.funcs[f]? = some fn) (iS : (fn.name == "runtime.NumGoroutine") = false) (iU : fn.body.isNone = false)
  (pk:∀(W0:fh) (F0:Nat->Prop),eE.Q P W0.root->∀Dy ops draw (S:St) (K:St->Option R) a w r,At G W0 F0 S a w->mQ G C ops draw S K=some r->(Code.region Dy ops draw).wp P (λe a' w'=>e=.normal/\∃S',K S'=some r/\At G W0 F0 S' a' w') a w)
  {K:AV->Option R} {r:R} (hx:∀z,K z=some r->z=.eC [y,.eC os]) (hK:GZ G C cut fS fn n args bs K=some r):gT P f args bs y os:=by
 intro B F vals μ hQ hl hI Kd;have n1 : ¬ fn.name = "runtime.NumGoroutine" := by simpa using iS
 have n2:¬ fn.body=none:=by intro e;simp[e]at iU
 refine⟨by simp[callFunc,hf,n1,n2],?_⟩;unfold GZ at hK;split at hK
 ·rename_i c hc;intro cs;obtain⟨b,hb⟩:∃b:Frame,b={ (default:Frame)with fn:=f,kind:=.normal }:=⟨_,rfl⟩;have Eg:Frame.enter P f vals .normal=b.at { tmps:=vals++Array.replicate (fn.ntmps - vals.size) Go.undef,defers:=[] } [.code c]:=by
   simp[Frame.enter,Frame.at,hf,hc,hb]
  have rT:=F6 (G:=G) (fn:=fn) (iT _ hQ) qa hl hI Kd;have qM:∀(S:St) (a:Act) (w' : World) (r:R),AI G fS fn.resultTypes.toList fn.results.toList S K=some r->At G B F S a w'->∃v,(results fn a.tmps).run P w'=.ok v w'/\
    (∃y os,K (.eC [y,.eC os])=some r/\∃F' fC,dj B F (λi=>i<os.length) (Mem.iu os) (λc u=>c=y/\u=v) w' fC F'/\∀i,i<G.kb->∃n,fC i=some (B.bk i,0,n)):=by
   intro S a w' r hK hA;obtain⟨v,y,os,h1,h2,h3⟩:=MF hG hA hK;exact⟨v,h1,y,os,h2,h3⟩
  have:=FI (P:=P) (G:=G) (C:=C) (b:=b) (cs:=cs) (fn:=fn) (T:=λr v w'=>∃y os,K (.eC [y,.eC os])=some r/\∃F' fC,dj B F (λi=>i<os.length) (Mem.iu os) (λc u=>c=y/\u=v) w' fC F'/\∀i,i<G.kb->∃n,fC i=some (B.bk i,0,n)) (cut:=cut) (W0:=B) (F0:=F) (by rw[hb]) (by rw[hb];exact hf) qM (pk _ F hQ)
   (λtodo S a ww r keep hK ht h=>Du (P:=P) (G:=G) (C:=C) (b:=b) (cs:=cs) (fn:=fn) (T:=λr v w'=>∃y os,K (.eC [y,.eC os])=some r/\∃F' fC,dj B F (λi=>i<os.length) (Mem.iu os) (λc u=>c=y/\u=v) w' fC F'/\∀i,i<G.kb->∃n,fC i=some (B.bk i,0,n)) (cut:=cut) (by rw[hb]) (by rw[hb];exact hf) qM (pk _ F hQ) se n todo _ a ww r hK (se keep S a ww ht h))
   1000 _ _ _ _ _ hK rT
  obtain⟨v,w',fr,⟨y',os',hy,hT⟩,hs,HW,Sc⟩:=this;have e:=hx _ hy;cases e;rw[qa]at hT;rw[<-Eg]at hs;exact⟨.returned v,w',fr,hT,hs,by rw[HW,hb],Sc⟩
 ·cases hK
theorem yQ[eE P](hG:et P G)(n7:P.follows .mixedOrders=true)(iT:∀R0,eE.Q P R0->mX G R0){C:FuncId->List AV->(AV->Option R)->Option R}(hC:dt P C)
  {cut : Nat → Option dP} {fS : List (Nat × Nat × Fl × Nat)} {f : FuncId} {fn : Func} {args bs : List AV} {y : AV} {os : List AV} {n : Nat} (qa : G.kb = nv bs) (hf : P.funcs[f]? = some fn) (iS : (fn.name == "runtime.NumGoroutine") = false) (iU : fn.body.isNone = false)
  {K:AV->Option R} {r:R} (hx:∀z,K z=some r->z=.eC [y,.eC os]) (hK:GZ G C cut fS fn n args bs K=some r):gT P f args bs y os:=
 MD hG iT qa hf iS iU (λW0 F0 hQ Dy ops draw S K a w r h hK=>vL hG n7 (hC.at (R0:=W0.root) hQ) hC.natural h hK) hx hK
theorem GY{C:FuncId->List AV->(AV->Option R)->Option R}{cut:Nat->Option dP}{fS:List (Nat × Nat × Fl × Nat)}{fn:Func}{n:Nat}{args bs:List AV}{K:AV->Option R}(h:fn.body.isNone=false) :
  GZ G C cut fS fn n args bs K=tW G C cut (λS=>AI G fS fn.resultTypes.toList fn.results.toList S K) (runK G C cut (λS=>AI G fS fn.resultTypes.toList fn.results.toList S K) n) 1000 [.code (fn.body.getD .skip)] (nQ fn args bs):=by
 unfold GZ;cases hb:fn.body with
 | none=>rw[hb]at h;cases h
 | some c=>rfl
end
end Go.Proofs.Ev
namespace Go.Proofs.Ev
open Go Go.Proofs Go.RowKit
theorem yT(l:List ByteArray):dm (l.map λs=>vs s)=l.map λs=>vs s:=iK (λc hc=>by simp at hc;obtain⟨_,_,rfl⟩:=hc;rfl)
theorem Iy{w:World}{F:Nat->Prop}{fl:Fl}{e:TypeId}{k:Nat}{l:List ByteArray}(ht:fl.te=e)(hF:∀b,F b->b<w.heap.size)(hl:l.length=k)(hk:k<=fe) :
  ∃F' β,Came w (w.alloc (.cells (l.map Value.string).toArray e)) F F' β/\Dh (w.alloc (.cells (l.map Value.string).toArray e)) F' β (.fr fl 1 (l.map λs=>vs s)) (.slice (some ⟨w.heap.size,0,none⟩) k k):=by
 subst hl;have sV : l.length<=1000000000:=by simpa[fe]using hk
 refine BA (size:=1) (news:=l.map Value.string) ht hF ⟨by simp,.inr ⟨w.heap.size,l.length,(l.map Value.string).toArray,by simp,aH _,j9 w _,by simp,by unfold maxLen;omega,by simp,by simp[cl]⟩⟩ (lA w _) ?_ ?_ ?_
 ·intro x hx;simp at hx;obtain⟨_,_,rfl⟩:=hx;rfl
 ·intro x hx;rw[yT]at hx;simp at hx;obtain⟨_,_,rfl⟩:=hx;exact⟨rfl,λ_=>rfl⟩
 ·intro j c hj;rw[yT,aP,aD]at hj;obtain⟨s,hs,rfl⟩:=hj;have:(l.map Value.string).getD j undef=.string s:=by rw[ah,aP,hs];rfl
  rw[this];exact .v _ rfl
def mG(P:Program)(ns:List String)(w:World):Prop:=w.ShapedOpen P/\∀n,ns.contains n=true->∃tp p,w.var? P n=some #[.iface tp p]
theorem vf{P:Program}{w w' : World}{n:String}{cs:Array Value}(hB:Below w.heap.size w w')(h:w.var? P n=some cs):w'.var? P n=some cs:=by
 unfold World.var? at h ⊢;cases hg:P.globalNamed n with
 | none=>simp[hg]at h
 | some g=>
  simp only[hg,ab]at h ⊢;have eT:g<w.heap.size:=by
   rcases Nat.lt_or_ge g w.heap.size with h'|h'
   ·exact h'
   ·simp[Array.getElem?_eq_none h']at h
  rw[hB.block g eT];exact h
abbrev Rb(P:Program)(ns:List String):eE P:=
 ⟨mG P ns,λ_ h=>h.1,λw w' h hB=>⟨Below.shaped h.1 hB,λn hn=>by obtain⟨tp,p,e⟩:=h.2 n hn;exact⟨tp,p,vf hB e⟩⟩⟩
theorem mG.at{P:Program}{ns:List String}{w:World}(h:mG P ns w){n:String}(hn:ns.contains n=true):∃tp p,w.var? P n=some #[.iface tp p]:=h.2 n hn
end Go.Proofs.Ev
namespace Go.Proofs.Ev
open Go Go.Proofs Go.RowKit Go.Shelf
def kT(l:List UInt8):Int × Bool:=match Lib.atoiAll l with
 | .ok v=>(v,false)
 | .range=>(Lib.atoiSat l,true)
 | _=>(0,true)
theorem ED{P:Program}{ρ:Ren}(L:LaysC.n172 P ρ){w:World}{F:Nat->Prop}(hF:∀b,F b->b<w.heap.size)(s:ByteArray)(hs:s.size<=281474976710656)
  (h1 : ∃ tp p, w.var? P "strconv.ErrSyntax" = some #[.iface tp p]) (h2 : ∃ tp p, w.var? P "strconv.ErrRange" = some #[.iface tp p]) :
  Calls P (ρ.f 172) #[.string s] w λe w'=>match e with
   | .returned v=>∃F' β,Came w w' F F' β/\Dh w' F' β (.eC [.v (.int .i64 (kT s.data.toList).1),.err (kT s.data.toList).2]) v
   | _=>False:=by
 obtain⟨t1,p1,h1⟩:=h1;obtain⟨t2,p2,h2⟩:=h2;unfold kT;rcases hx:Lib.atoiAll s.data.toList with v|- | -
 ·refine(Any.strconv_Atoi_ok L s (by omega) v hx w).mono ?_;rintro e w' ⟨rfl,hw⟩;have hB:Below w.heap.size w w':=by
   rcases hw with rfl|⟨t,rfl⟩
   ·exact Below.refl _ _
   ·exact Lib.bytesWorld_below _ _ _
  exact⟨F,λ_=>none,Came.lr hF hB,#[_,_],rfl,rfl,.v _ rfl,.qO,trivial⟩
 ·refine(Any.strconv_Atoi_syntax_var L s hs hx t1 p1 w h1).mono ?_;rintro e w' ⟨N,rfl,_,_,hB⟩;exact⟨F,λ_=>none,Came.lr hF hB,#[_,_],rfl,rfl,.v _ rfl,.qc _ _,trivial⟩
 ·refine(Any.strconv_Atoi_range_var L s hs hx t2 p2 w h2).mono ?_;rintro e w' ⟨N,rfl,_,_,hB⟩;exact⟨F,λ_=>none,Came.lr hF hB,#[_,_],rfl,rfl,.v _ rfl,.qc _ _,trivial⟩
end Go.Proofs.Ev
namespace Go.Proofs.Ev
open Go Go.Proofs Go.RowKit
section
variable {H:Type} {enc:TypeId × Value->H}
theorem uh{a:Assume}{C:Checked}{os:Os}{f:FuncId}{fn:Func}{s:ChangeSpec}{conds:List PathCond}{apart fresh handsOn again:Bool}{X:World->Array Value->Prop}
  (hX:∀(w w' : World) (args:Array Value),w.heap=w'.heap->X w args->X w' args)
  (own:ownKnob C.prog.godebug=none) (started:os.Started) (OV:C.prog.inits.idxOf? f=none) (HW:C.prog.funcs[f]?=some fn)
  (witness:∃(w:World) (tape:Tape) (i:Input),w.os=os/\(w.forCall tape i).Shaped C.prog/\i.vars=[]/\Input.okWide C.prog (w.forCall tape i) .any w.heap.size f i/\
   ((s.pre enc C.prog fn conds apart (w.forCall tape i).memory i.args/\X (w.forCall tape i).memory i.args)/\sizedMet enc C.prog fn (OpenSpec.ofChange s) apart (w.forCall tape i).memory i.args)/\a.holds C.prog (lone (Frame.enter C.prog f i.args .normal) [] (w.forCall tape i)))
  (KE:∀(W:World) (base:Nat) (args:Array Value) (ds gs:List (DataW H)) (before:List MemPlace),
   (∀(j:Nat) t v,fn.params[j]?=some t->args[j]?=some v->Value.okWide C.prog W .any base t v)->
   DataW.Whole enc C.prog fn.params.toList s.vars apart W args.toList ds gs before->W.ShapedOpen C.prog->X W args->
   Calls C.prog f args W λe W'=>∃v,e=.returned v/\s.post enc C.prog fn apart fresh handsOn again W args v W') :
  ReturnsInHanded a C os f .any (λw args=>(s.pre enc C.prog fn conds apart w args/\X w args)/\sizedMet enc C.prog fn (OpenSpec.ofChange s) apart w args) (s.post enc C.prog fn apart fresh handsOn again):=by
 refine returnsInHanded_of_calls own started OV witness ?_;intro w tape i _ V0 _ fF jw Wp;obtain⟨_,_,_,fn',Wu,_,_,_,_,mc⟩:=fF;have e:fn'=fn:=bQ (Wu.symm.trans HW);subst e;obtain⟨⟨⟨ds,gs,before,hw,hc⟩,hx⟩,hz⟩:=jw;have RR:=DataW.Whole.of_heap (w':=w.forCall tape i) (by rfl) hw;refine(KE (w.forCall tape i) w.heap.size i.args ds gs before mc RR V0 (hX _ _ _ (by rfl) hx)).mono λe W' ⟨v,he,hp⟩=>?_;subst he;exact ChangeSpec.post_blind hp
end
theorem gr{P:Program}{x:String × DataW Unit}{r:List (String × DataW Unit)}{w:World}(h:laidMet P (x::r) w):laidMet P r w:=by
 obtain⟨ps,hv,GK,R3⟩:=h;obtain⟨n,d⟩:=x;obtain⟨g,t,cs,fuel,p,q,_,_,_,_,hq,rfl⟩:=hv;exact⟨q,hq,List.Nodup.sublist (List.sublist_append_right _ _) GK,λb off hm=>R3 b off (List.mem_append_right _ hm)⟩
def VS:Option TypeDesc->Bool
 | some (.interface _)=>true
 | _=>false
def FC(P:Program)(n:String):Bool:=match P.globalNamed n with
 | some g=>(match P.globals[g]? with | some x=>VS (P.underlying x.type) | none=>false)
 | none=>false
theorem rp{P:Program}{n nm:String}{d:DataW Unit}{r:List (String × DataW Unit)}{W:World}(h:laidMet P ((n,.iface nm d)::r) W)(hc:FC P n=true):∃tp p,W.var? P n=some #[.iface tp p]:=by
 obtain⟨ps,⟨g0,t0,PO,f0,p0,q0,QB,Lb,Fy,FG,_,e0⟩,_,_⟩:=h;unfold FC at hc;rw[QB]at hc;simp only at hc;cases hx:P.globals[g0]? with
 | none=>rw[hx]at hc;cases hc
 | some x=>
  rw[hx]at hc Lb;simp only[cE,bh]at Lb;subst Lb;simp only at hc;cases hu:P.underlying x.type with
  | none=>rw[hu]at hc;cases hc
  | some td=>
   rw[hu]at hc;cases td<;>(try (cases hc;done));obtain⟨f1,u,v,e,_,_⟩:=iface_of_trod hu FG;exact⟨u,v,by rw[Fy];congr 1;apply Array.ext';simpa using e⟩
theorem mG.nil{P:Program}{w:World}(h:w.ShapedOpen P):mG P [] w:=⟨h,λn hn=>by cases hn⟩
theorem mG.cons{P:Program}{w:World}{ns:List String}{n:String}(h:mG P ns w)(hn:∃tp p,w.var? P n=some #[.iface tp p]):mG P (n::ns) w:=by
 refine⟨h.1,λm hm=>?_⟩;rw[ch,bC]at hm;rcases hm with hm|hm
 ·rw[eq_of_beq hm];exact hn
 ·exact h.2 m hm
end Go.Proofs.Ev
namespace Go.Proofs.Ev
open Go Go.RowKit
def yZ(fn : Func) : Bool := !(fn.name == "runtime.NumGoroutine") && !fn.body.isNone
def Xy(P:Program)(f:FuncId):Option Func:=P.funcs[f]?
def nN:List AV->Option (List AV × List AV)
 | []=>none
 | [.eC bs]=>some ([],bs)
 | x::r=>match nN r with | some (us,bs)=>some (x::us,bs) | none=>none
theorem tC:∀{xs us bs:List AV},nN xs=some (us,bs)->xs=us++[.eC bs]
 | [],_,_,h=>by cases h
 | [x],us,bs,h=>by
  cases x<;>first|(simp[nN]at h;obtain⟨rfl,rfl⟩:=h;rfl)|(simp[nN]at h)
 | x::y::r,us,bs,h=>by
  have h' : (match nN (y::r)with | some (us,bs)=>some (x::us,bs) | none=>none)=some (us,bs):=by
   cases x<;>exact h
  split at h'
  ·rename_i us' YY e;cases h';rw[tC e];rfl
  ·cases h'
theorem tD:∀{xs:List AV},nN xs=none->l9 xs=false
 | [],_=>rfl
 | [x],h=>by cases x<;>first|rfl|(simp[nN]at h)
 | x::y::r,h=>by
  have h' : (match nN (y::r)with | some (us,bs)=>some (x::us,bs) | none=>none)=none:=by
   cases x<;>exact h
  split at h'
  ·cases h'
  ·rename_i e;have:=tD e;unfold l9 at this ⊢;rw[List.getLast?_cons_cons];exact this
def DL:AV->Option (AV × List AV)
 | .eC [y,.eC os]=>some (y,os)
 | _=>none
def qI(P:Program)(G:fv)(own:FuncId->Bool)(C0:FuncId->List AV->(AV->Option AV)->Option AV)(cut:FuncId->Nat->Option dP)(n:Nat):Nat->FuncId->List AV->Option AV
 | 0,_,_=>none
 | d+1,f,xs=>
  bif own f then C0 f xs Option.some else
  match Xy P f with
  | .some fn=>bif yZ fn then
    match nN xs with
    | .none=>G1 G (λg ys K=>(qI P G own C0 cut n d g ys).bind K) (cut f) fn n xs Option.some
    | .some (us,bs)=>(GZ { G with kb:=nv bs } (λg ys K=>(qI P G own C0 cut n d g ys).bind K) (cut f) [] fn n us bs DL).map λp=>.eC [p.1,.eC p.2]
   else none
  | .none=>none
section
variable {P:Program} [eE P] {G:fv} {own:FuncId->Bool} {C0:FuncId->List AV->(AV->Option AV)->Option AV} {cut:FuncId->Nat->Option dP} {n:Nat}
theorem Av(hG:et P G)(n7:P.follows .mixedOrders=true)(iT:∀R0,eE.Q P R0->mX G R0)(qa:G.kb=0)(h0:dt P C0)(d:Nat) :
  ∀f xs x,qI P G own C0 cut n d f xs=some x->xh P f xs x:=by
 induction d with
 | zero=>intro f xs x h;cases h
 | succ d ih=>
  have hC:∀{R:Type},dt (R:=R) P (λg ys K=>(qI P G own C0 cut n d g ys).bind K):=λg ys=>⟨qI P G own C0 cut n d g ys,λ_=>rfl,λx hx=>ih g ys x hx⟩;intro f xs x h;unfold qI at h;cases ho:own f with
  | true=>
   rw[ho,ak]at h;obtain⟨y,h1,h2⟩:=h0.ok f xs _ _ h;cases h1;exact h2
  | false=>
   rw[ho,cond_false]at h;split at h
   ·rename_i fn hf;obtain ⟨he, h1⟩ := c_ h;unfold yZ at he;rw [ae] at he;have iS : (fn.name == "runtime.NumGoroutine") = false := by simpa using he.1
    have iU:fn.body.isNone=false:=by simpa using he.2
    split at h1
    ·rename_i ht;exact(Cs hG n7 iT qa hC (cut:=cut f) (n:=n) hf iS iU (K:=Option.some) (r:=x) (λy hy=>by cases hy;rfl) h1).cW (tD ht)
    ·rename_i us bs ht;rw[aD]at h1;obtain⟨⟨y,os⟩,h2,rfl⟩:=h1;have hp:∀z,DL z=some (y,os)->z=.eC [y,.eC os]:=by
      intro z hz;unfold DL at hz;split at hz
      ·cases hz;rfl
      ·cases hz
     rw[tC ht];exact(yQ (G:={ G with kb:=nv bs }) (hG.kb _) n7 iT hC rfl (cut:=cut f) (fS:=[]) (n:=n) hf iS iU hp h2).cW
   ·cases h
end
end Go.Proofs.Ev
namespace Go.Proofs.Ev
open Go Go.Proofs Go.RowKit Go.Sort
abbrev Tb:=String × IntKind × List Int
def uA(P:Program)(ts:List Tb)(w:World):Prop:=∀x∈ts,Lib.TabIs P w x.1 x.2.1 x.2.2
theorem uA.below{P:Program}{ts:List Tb}{w w' : World}(h:uA P ts w)(hB:Below w.heap.size w w'):uA P ts w':=λx hx=>vf hB (h x hx)
theorem uA.nil{P:Program}{w:World}:uA P [] w:=λ_ h=>by cases h
theorem uA.cons{P:Program}{ts:List Tb}{w:World}{n:String}{k:IntKind}{zs:List Int}(h:Lib.TabIs P w n k zs)(ht:uA P ts w):uA P ((n,k,zs)::ts) w:=by
 intro x hx;rcases cj.1 hx with rfl|hx
 ·exact h
 ·exact ht x hx
theorem EC(w:World)(k:Nat)(os:Array Obj):Below w.heap.size w (grow (w.drewN k) os):=by
 refine⟨rfl,rfl,rfl,?_,λb hb=>?_⟩
 ·simp[grow]
 ·simp only[grow,World.heap_drewN];rw[Array.getElem?_append_left hb]
theorem one_byte{t:ByteArray}(h:t.data.toList.length=1):t=⟨#[t.data.toList.headD 0]⟩:=by
 obtain⟨⟨l⟩⟩:=t
 match l,h with
 | [b],_=>rfl
section
variable {H:Type}
def za(S:TypeId->DataW H->Option (List AV)):List (DataW H)->List (TypeId × Nat)->Option (List AV)
 | [],[]=>some []
 | d::ds,f::r=>match S f.1 d,za S ds r with | .some p,.some q=>some (p++q) | _,_=>none
 | _,_=>none
def CT(S:DataW H->Option (List AV))(agg:Bool):List (DataW H)->Option (List AV)
 | []=>some []
 | d::ds=>match S d,CT S agg ds with | .some ys,.some xs=>some ((bif agg then .agg ys else ys.headD .undef)::xs) | _,_=>none
def zb(G:fv):Nat->TypeId->DataW H->Option (List AV)
 | 0,_,_=>none
 | n+1,t,d=>match G.gM t with
  | .some ti=>match ti.kd with
   | .int k=>match d with | .lit (.int k' i)=>bif decide (k'=k)then some [.v (.int k i)]else none | _=>none
   | .string=>match d with | .lit (.string l)=>some [.v (.string ⟨⟨l⟩⟩)] | _=>none
   | .bool=>match d with | .lit (.bool b)=>some [vb b] | _=>none
   | .slice e=>match G.gM e with
    | .some ei=>(match d with
     | .slice ds _=>(CT (zb G n e) ei.isAgg ds).map λxs=>[.sl ei.flat ei.size xs]
     | _=>none)
    | .none=>none
   | .struct fs=>match d with | .agg ds=>za (zb G n) ds fs | _=>none
   | .arr m e=>match G.gM e with
    | .some ei=>(match d with | .agg ds=>za (zb G n) ds (Dw e ei.size m) | _=>none)
    | .none=>none
   | _=>none
  | .none=>none
theorem qP{S:TypeId->DataW H->Option (List AV)}{T:TypeId->DataW H->List AV->Prop}(h:∀t d p p',T t d p->S t d=some p'->p=p'):∀(ds:List (DataW H)) (fs:List (TypeId × Nat)) (cs kN : List AV),
  C6 T ds fs cs->za S ds fs=some kN->cs=kN
 | [],[],cs,kN,h1,h2=>by cases h2;exact h1
 | d::ds,f::fs,cs,kN,h1,h2=>by
  obtain⟨p,q,rfl,h3,h4⟩:=h1;unfold za at h2;cases e1:S f.1 d with
  | none=>rw[e1]at h2;cases h2
  | some p'=>
   cases e2:za S ds fs with
   | none=>rw[e1,e2]at h2;cases h2
   | some q'=>
    rw[e1,e2]at h2;cases h2;rw[h _ _ _ _ h3 e1,qP h ds fs q q' h4 e2]
 | [],_::_,_,_,h1,_=>h1.elim
 | _::_,[],_,_,h1,_=>h1.elim
theorem wZ{S:DataW H->Option (List AV)}{T:DataW H->List AV->Prop}{agg:Bool}(h:∀d p p',T d p->S d=some p'->p=p'):∀(ds:List (DataW H)) (xs oN : List AV),xs.length=ds.length->
  (∀(i:Nat) dd,ds[i]?=some dd->∃ys,xs.getD i .undef=(bif agg then .agg ys else ys.headD .undef)/\T dd ys)->CT S agg ds=some oN->xs=oN
 | [],xs,oN,hl,_,h2=>by cases h2;exact List.eq_nil_of_length_eq_zero hl
 | d::ds,[],oN,hl,_,_=>by simp at hl
 | d::ds,x::xs,oN,hl,h1,h2=>by
  unfold CT at h2;cases e1:S d with
  | none=>rw[e1]at h2;cases h2
  | some p'=>
   cases e2:CT S agg ds with
   | none=>rw[e1,e2]at h2;cases h2
   | some q'=>
    rw[e1,e2]at h2;cases h2;obtain⟨ys,O9,VU⟩:=h1 0 d rfl;have hx:x=bif agg then .agg ys else ys.headD .undef:=O9;rw[hx,h _ _ _ VU e1,wZ h ds xs q' (by simpa using hl) (λi dd hd=>by obtain⟨zs,z1,z2⟩:=h1 (i+1) dd (by simpa using hd);exact⟨zs,by simpa using z1,z2⟩) e2]
theorem pS{G:fv}:∀(n:Nat) (t:TypeId) (d:DataW H) (cs kN : List AV),qe G n t d cs->zb G n t d=some kN->cs=kN
 | 0,_,_,_,_,h,_=>h.elim
 | n+1,t,d,cs,kN,h,h2=>by
  simp only[qe]at h;simp only[zb]at h2;cases ht:G.gM t with
  | none=>rw[ht]at h;exact h.elim
  | some ti=>
   rw[ht]at h h2;simp only at h h2;cases hk:ti.kd<;>rw[hk]at h h2<;>simp only at h h2
   case int k=>
    obtain⟨i,rfl,rfl⟩:=h;simp only[decide_true,ak]at h2;cases h2;rfl
   case string=>
    obtain⟨s,rfl,rfl⟩:=h;cases h2;rfl
   case bool=>
    obtain⟨b,rfl,rfl⟩:=h;cases h2;rfl
   case slice e=>
    cases he:G.gM e with
    | none=>rw[he]at h;exact h.elim
    | some ei=>
     rw[he]at h h2;simp only at h h2;rcases h with⟨rfl,_⟩|⟨ds,rest,xs,rfl,rfl,hl,hx⟩
     ·cases h2
     ·simp only[aD]at h2;obtain⟨oN,h3,rfl⟩:=h2;rw[wZ (λd p p' h1 h2=>pS n e d p p' h1 h2) ds xs oN hl hx h3]
   case struct fs=>
    obtain⟨ds,rfl,h1⟩:=h;exact qP (λt d p p' h1 h2=>pS n t d p p' h1 h2) ds fs cs kN h1 h2
   case arr m e=>
    cases he:G.gM e with
    | none=>rw[he]at h;exact h.elim
    | some ei=>
     rw[he]at h h2;simp only at h h2;obtain⟨ds,rfl,h1⟩:=h;exact qP (λt d p p' h1 h2=>pS n t d p p' h1 h2) ds _ cs kN h1 h2
   all_goals exact h.elim
end
theorem n8{P:Program}{G:fv}(hG:et P G){n:String}{d:DataW Unit}{r:List (String × DataW Unit)}{W:World}(h:laidMet P ((n,d)::r) W){g:Nat}(hg:P.globalNamed n=some g){t:TypeId}(ht:(P.globals[g]?).map (·.type)=some t)
  {k:Nat} (Ce:nD G k false t=true) {cs:List AV} (hd:zb G k t d=some cs):Rel W (λb=>b<W.heap.size) (.rd cs) (.pointer (some ⟨g,0,none⟩)):=by
 obtain⟨ps,⟨g0,t0,PO,f0,p0,q0,QB,Lb,Fy,FG,_,e0⟩,_,_⟩:=h;rw[hg]at QB;cases QB;rw[ht]at Lb;cases Lb;obtain⟨w_,h1,h2,_,h4⟩:=opens hG k false t Ce f0 PO.toList _ FG;have e:=pS k t d w_ cs h4 hd;subst e;unfold World.var? at Fy;rw[hg,ab]at Fy;have eT:g<W.heap.size:=by
  rcases Nat.lt_or_ge g W.heap.size with h'|h'
  ·exact h'
  ·simp[Array.getElem?_eq_none h']at Fy
 refine .rd w_ ⟨g,0,none⟩ (λj=>PO.toList.getD j undef) eT (λj hj=>?_) (λj c hj=>h2 j c hj);have mK : j<PO.size:=by rw[h1]at hj;simpa using hj
 cases hb:W.heap[g]? with
 | none=>rw[hb]at Fy;cases Fy
 | some o=>
  rw[hb]at Fy;cases o<;>simp at Fy;subst Fy;have e:(⟨g,0,none⟩:Addr).add j=⟨g,j,none⟩:=by unfold Addr.add;split<;>simp_all
  rw[e];simp[World.cell?,hb,ah,mK]
def Cy:List (Nat × List AV)->Nat->Option (List AV)
 | [],_=>none
 | (k,cs)::r,g=>bif Nat.beq g k then some cs else Cy r g
def jK(l:List (Nat × List AV))(W:World):Prop:=∀x∈l,Rel W (λb=>b<W.heap.size) (.rd x.2) (.pointer (some ⟨x.1,0,none⟩))
theorem jK.nil{W:World}:jK [] W:=λ_ h=>by cases h
theorem jK.cons{W:World}{l:List (Nat × List AV)}{k:Nat}{cs:List AV}(h:Rel W (λb=>b<W.heap.size) (.rd cs) (.pointer (some ⟨k,0,none⟩)))(hl:jK l W):jK ((k,cs)::l) W:=by
 intro x hx;rcases cj.1 hx with rfl|hx
 ·exact h
 ·exact hl x hx
theorem yR:∀(l:List (Nat × List AV)) (g:Nat) (cs:List AV),Cy l g=some cs->(g,cs)∈l
 | [],_,_,h=>by cases h
 | (k,ds)::r,g,cs,h=>by
  unfold Cy at h;cases hb:Nat.beq g k with
  | true=>rw[hb]at h;cases h;rw[aw hb];exact bZ ..
  | false=>rw[hb]at h;exact bS _ (yR r g cs h)
theorem jK.dB{W:World}{l:List (Nat × List AV)}{G:fv}(h:jK l W)(hG:G.GX=Cy l):mX G W:=by
 intro g cs hg;rw[hG]at hg;exact h _ (yR l g cs hg)
theorem jK.below{W W' : World}{l:List (Nat × List AV)}(h:jK l W)(hB:Below W.heap.size W W'):jK l W':=λx hx=>
 (h x hx).mono (λb hb=>bB hb hB.size) λb hb=>hB.block b hb
abbrev SZ(P:Program)(ns:List String)(ts:List Tb)(l:List (Nat × List AV)):eE P:=
 ⟨λw=>mG P ns w/\uA P ts w/\jK l w,λ_ h=>h.1.1,λw w' h hB=>⟨(Rb P ns).below w w' h.1 hB,h.2.1.below hB,h.2.2.below hB⟩⟩
end Go.Proofs.Ev
namespace Go.Proofs.Ev
open Go Go.Proofs Go.RowKit
def fx:Nat->Nat->List (Nat × AV)->List AV
 | 0,_,_=>[]
 | n+1,i,[]=>.undef::fx n (i+1) []
 | n+1,i,(k,v)::r=>bif Nat.beq i k then v::fx n (i+1) r else .undef::fx n (i+1) ((k,v)::r)
def ez{Z T:Type}(r:(Z->Option T)->Z->Option T):Nat->Z->Option T
 | 0,_=>none
 | m+1,z=>r (ez r m) z
def FO{A Z T:Type}(e:(A->Option T)->(Z->Option T)->A->Option T)(r:(A->Option T)->(Z->Option T)->Z->Option T)(n:Nat):Nat->A->Option T
 | 0,_=>none
 | d+1,a=>e (FO e r n d) (ez (r (FO e r n d)) n) a
def d_{R A T:Type}(F:A->Option T)(o:List AV->Option A)(enc:T->AV)(xs:List AV):(AV->Option R)->Option R:=
 match o xs with
 | some a=>λK=>(F a).bind λp=>K (enc p)
 | none=>λ_=>none
section
variable {R:Type} {P:Program} [eE P] {G:fv} {A T Z:Type} {C:FuncId->List AV->(AV->Option T)->Option T} {cut:Nat->Option dP} {fin:St->Option T} {t:Z->List Item} {s:Z->St} {f:FuncId} {fn:Func}
theorem Bw{r:(Z->Option T)->Z->Option T}(hr:∀rec z,uz G C cut fin rec (t z) (s z)=r (λz=>rec (t z) (s z)) z)(m:Nat):(λz=>runK G C cut fin m (t z) (s z))=ez r m:=by
 induction m with
 | zero=>funext z;rfl
 | succ m ih=>
  funext z;show runK G C cut fin (m+1) (t z) (s z)=_;rw[F8,hr,ih];rfl
theorem oX(hG:et P G)(n7:P.follows .mixedOrders=true)(iT:∀R0,eE.Q P R0->mX G R0)(qa:G.kb=0){oJ:A->List AV}{enc:T->AV}{dec:AV->Option T}(uu:∀y p,dec y=some p->y=enc p)
  (hC : dt (R := T) P C) (hf : P.funcs[f]? = some fn) (iS : (fn.name == "runtime.NumGoroutine") = false) (iU : fn.body.isNone = false) {e : (Z → Option T) → A → Option T} {r : (Z → Option T) → Z → Option T} {n : Nat}
  (he:∀rec a,tW G C cut (λS=>jE G fn.resultTypes.toList fn.results.toList S dec) rec 1000 [.code (fn.body.getD .skip)] (start fn (oJ a))=e (λz=>rec (t z) (s z)) a)
  (hr:∀rec z,uz G C cut (λS=>jE G fn.resultTypes.toList fn.results.toList S dec) rec (t z) (s z)=r (λz=>rec (t z) (s z)) z) (a:A) (p:T) (h:e (ez r n) a=some p):dc P f (oJ a) (enc p):=by
 refine Cs hG n7 iT qa hC hf iS iU (cut:=cut) (K:=dec) (r:=p) (n:=n) (λy hy=>uu y p hy) ?_;rw[G0 iU,he,Bw hr];exact h
theorem kf(hG:et P G)(n7:P.follows .mixedOrders=true)(iT:∀R0,eE.Q P R0->mX G R0){oJ bl:A->List AV}{y:T->AV}{os:T->List AV}{dec:AV->Option T}(uu:∀x p,dec x=some p->x=.eC [y p,.eC (os p)]){fS:List (Nat × Nat × Fl × Nat)}
  (qa : ∀ a, G.kb = nv (bl a)) (hC : dt (R := T) P C) (hf : P.funcs[f]? = some fn) (iS : (fn.name == "runtime.NumGoroutine") = false) (iU : fn.body.isNone = false) {e : (Z → Option T) → A → Option T} {r : (Z → Option T) → Z → Option T} {n : Nat}
  (he:∀rec a,tW G C cut (λS=>AI G fS fn.resultTypes.toList fn.results.toList S dec) rec 1000 [.code (fn.body.getD .skip)] (nQ fn (oJ a) (bl a))=e (λz=>rec (t z) (s z)) a)
  (hr:∀rec z,uz G C cut (λS=>AI G fS fn.resultTypes.toList fn.results.toList S dec) rec (t z) (s z)=r (λz=>rec (t z) (s z)) z) (a:A) (p:T) (h:e (ez r n) a=some p):gT P f (oJ a) (bl a) (y p) (os p):=by
 refine yQ hG n7 iT hC (qa a) hf iS iU (cut:=cut) (fS:=fS) (K:=dec) (r:=p) (n:=n) (λx hx=>uu x p hx) ?_;rw[GY iU,he,Bw hr];exact h
theorem yo(hG:et P G)(n7:P.follows .mixedOrders=true)(iT:∀R0,eE.Q P R0->mX G R0)(qa:G.kb=0){oJ:A->List AV}{enc:T->AV}{dec:AV->Option T}(uu:∀y p,dec y=some p->y=enc p)
  {C : (A → Option T) → FuncId → List AV → (AV → Option T) → Option T} (hC : ∀ Y, (∀ a p, Y a = some p → dc P f (oJ a) (enc p)) → dt (R := T) P (C Y)) (hf : P.funcs[f]? = some fn) (iS : (fn.name == "runtime.NumGoroutine") = false) (iU : fn.body.isNone = false)
  {e:(A->Option T)->(Z->Option T)->A->Option T} {r:(A->Option T)->(Z->Option T)->Z->Option T} {n:Nat}
  (he:∀Y rec a,tW G (C Y) cut (λS=>jE G fn.resultTypes.toList fn.results.toList S dec) rec 1000 [.code (fn.body.getD .skip)] (start fn (oJ a))=e Y (λz=>rec (t z) (s z)) a)
  (hr:∀Y rec z,uz G (C Y) cut (λS=>jE G fn.resultTypes.toList fn.results.toList S dec) rec (t z) (s z)=r Y (λz=>rec (t z) (s z)) z):∀(d:Nat) (a:A) (p:T),FO e r n d a=some p->dc P f (oJ a) (enc p)
 | 0,_,_,h=>by cases h
 | d+1,a,p,h=>oX hG n7 iT qa uu (hC _ (λa p h=>yo hG n7 iT qa uu hC hf iS iU he hr d a p h)) hf iS iU (he _) (hr _) a p h
theorem c7{F:A->Option T}{o:List AV->Option A}{oJ:A->List AV}{enc:T->AV}(ho:∀xs a,o xs=some a->xs=oJ a)(hl:∀a,l9 (oJ a)=false)(h:∀a p,F a=some p->dc P f (oJ a) (enc p))(xs:List AV):cT (R:=R) P f xs (d_ F o enc xs):=by
 unfold d_;split
 ·rename_i a ha;rw[ho xs a ha];exact cT.of (λp hp=>(h a p hp).cW (hl a))
 ·exact cT.none
theorem jk{F:A->Option T}{o:List AV->Option A}{oJ bl:A->List AV}{y:T->AV}{os:T->List AV}{enc:T->AV}(WA:∀p,enc p=.eC [y p,.eC (os p)])(ho:∀xs a,o xs=some a->xs=oJ a++[.eC (bl a)])(h:∀a p,F a=some p->gT P f (oJ a) (bl a) (y p) (os p))(xs:List AV) :
  cT (R:=R) P f xs (d_ F o enc xs):=by
 unfold d_;split
 ·rename_i a ha;rw[ho xs a ha];exact cT.of (λp hp=>by rw[WA];exact(h a p hp).cW)
 ·exact cT.none
end
def yd:List AV->Option (List ByteArray)
 | []=>some []
 | .v (.string s)::r=>(yd r).map (s::·)
 | _::_=>none
theorem vB:∀{xs:List AV} {ss:List ByteArray},yd xs=some ss->xs=ss.map λs=>vs s
 | [],ss,h=>by cases h;rfl
 | x::r,ss,h=>by
  unfold yd at h;split at h
  ·rename_i h0;cases h0
  ·rename_i s r' h0;cases h0;rw[aD]at h;obtain⟨q,hq,rfl⟩:=h;rw[vB hq];rfl
  ·cases h
def Aq(l:List AV)(t:ByteArray):Bool:=match yd l with
 | some ss=>decide (ss.length<=140737488355328)&&decide ((Lib.join (ss.map (·.data.toList)) t.data.toList).length<=140737488355328)
 | none=>false
def JB(l:List AV)(t:ByteArray):ByteArray:=match yd l with
 | some ss=>⟨(Lib.join (ss.map (·.data.toList)) t.data.toList).toArray⟩
 | none=>⟨#[]⟩
theorem JA{w:World}{F:Nat->Prop}{te:TypeId}{ss:List ByteArray}{u:Value}(hr:Rel w F (.sl ⟨true,te,true⟩ 1 (ss.map λs=>vs s)) u) :
  (ss=[]/\∃a c,u=.slice a 0 c)\/∃bk o c,u=.slice (some ⟨bk,o,none⟩) ss.length c/\ss.length<=c/\F bk/\∀(j:Nat) x,ss[j]?=some x->w.cell? ⟨bk,o+j,none⟩=some (.string x):=by
 generalize hx:(ss.map λs=>vs s)=xs at hr;cases hr with
 | xt=>
  have:ss=[]:=by simpa using hx
  exact .inl ⟨this,none,0,rfl⟩
 | sl _ _ _ ad cap f hF Po hs hf kS nb Qw=>
  have hl:xs.length=ss.length:=by rw[<-hx];simp
  by_cases h0:ss=[]
  ·subst h0;have:xs=[]:=hx.symm;subst this;exact .inl ⟨rfl,some ad,cap,rfl⟩
  ·have gN:xs≠[]:=by rw[<-hx];simpa using h0
   have nc:dm xs=xs:=iK (λc hc=>by rw[<-hx]at hc;simp at hc;obtain⟨_,_,rfl⟩:=hc;rfl);obtain⟨bk,o,sp⟩:=ad;have VY : sp=none:=Qw rfl gN;subst VY;refine .inr ⟨bk,o,cap,by rw[hl],by omega,hF gN,λj x hj=>?_⟩;have eT:j<ss.length:=(aE.1 hj).1;have h1:=kS j (by rw[nc];omega);have h2:Rel w F (vs x) (f j):=nb j _ (by rw[nc,<-hx,aP,hj];rfl);have h3:f j=.string x:=(eg (ej (ef (fm (μ:=λ_=>none) (m:=λ_=>none) (U:=λ_=>False) h2)))).1;rw[jS,h3]at h1;exact h1
theorem D4{P:Program}{f:FuncId}{w:World}{F:Nat->Prop}{te:TypeId}{l:List AV}{t:ByteArray}{u:Value}
  (h0:∀a c,Calls P f #[.slice a 0 c,.string t] w λe w'=>e=.returned (.string ⟨#[]⟩)/\w'=w)
  (h1:∀(bk o c:Nat) (xs:List ByteArray),(∀(j:Nat) x,xs[j]?=some x->w.cell? ⟨bk,o+j,none⟩=some (.string x))->bk<w.heap.size->xs.length<=140737488355328->xs.length<=c->
   (Lib.join (xs.map (·.data.toList)) t.data.toList).length<=140737488355328->Calls P f #[.slice (some ⟨bk,o,none⟩) xs.length c,.string t] w λe w'=>e=.returned (.string ⟨(Lib.join (xs.map (·.data.toList)) t.data.toList).toArray⟩)/\Below w.heap.size w w')
  (hF:∀b,F b->b<w.heap.size) (hr:Rel w F (.sl ⟨true,te,true⟩ 1 l) u) (hc:Aq l t=true) :
  Calls P f #[u,.string t] w λe w'=>match e with
   | .returned v=>∃F' β,Came w w' F F' β/\Dh w' F' β (.v (.string (JB l t))) v
   | _=>False:=by
 unfold Aq at hc;unfold JB;cases hs:yd l with
 | none=>rw[hs]at hc;cases hc
 | some ss=>
  rw[hs]at hc;simp only[ae,ay]at hc;rw[vB hs]at hr;rcases JA hr with⟨rfl,a,c,rfl⟩|⟨bk,o,c,rfl,kM,Kd,kS⟩
  ·refine(h0 a c).mono ?_;rintro e w' ⟨rfl,rfl⟩;exact⟨F,λ_=>none,Came.same hF,.v _ rfl⟩
  ·refine(h1 bk o c ss kS (hF bk Kd) hc.1 kM hc.2).mono ?_;rintro e w' ⟨rfl,hB⟩;exact⟨F,λ_=>none,Came.lr hF hB,.v _ rfl⟩
end Go.Proofs.Ev
namespace Go.Proofs.Ev
open Go Go.Proofs
theorem lN{P:Program}[eE P]{G:fv}{A T Z:Type}{C:FuncId->List AV->(AV->Option T)->Option T}{f:FuncId}{fn:Func}{oJ:A->List AV}{enc:T->AV}{dec:AV->Option T}{n:Nat}(cut:Nat->Option dP)(t:Z->List Item)(s:Z->St)(e:(Z->Option T)->A->Option T)(r:(Z->Option T)->Z->Option T)
  (hG:et P G) (n7:P.follows .mixedOrders=true) (iT:∀R0,eE.Q P R0->mX G R0) (uu:∀y p,dec y=some p->y=enc p) (hC:dt (R:=T) P C) (hf:P.funcs[f]?=some fn)
  (qa : G.kb = 0 := by kernel_rfl) (iS : (fn.name == "runtime.NumGoroutine") = false := by kernel_rfl) (iU : fn.body.isNone = false := by kernel_rfl)
  (he:∀rec a,tW G C cut (λS=>jE G fn.resultTypes.toList fn.results.toList S dec) rec 1000 [.code (fn.body.getD .skip)] (start fn (oJ a))=e (λz=>rec (t z) (s z)) a:=by(intro rec a;kernel_rfl))
  (hr:∀rec z,uz G C cut (λS=>jE G fn.resultTypes.toList fn.results.toList S dec) rec (t z) (s z)=r (λz=>rec (t z) (s z)) z:=by(intro rec z;cases z<;>kernel_rfl)) (a:A) (p:T) (h:e (ez r n) a=some p):dc P f (oJ a) (enc p):=
 oX hG n7 iT qa uu hC hf iS iU he hr a p h
theorem gp{P:Program}[eE P]{G:fv}{A T:Type}{C:FuncId->List AV->(AV->Option T)->Option T}{f:FuncId}{fn:Func}{oJ:A->List AV}{enc:T->AV}{dec:AV->Option T}(cut:Nat->Option dP)(e:A->Option T)
  (hG:et P G) (n7:P.follows .mixedOrders=true) (iT:∀R0,eE.Q P R0->mX G R0) (uu:∀y p,dec y=some p->y=enc p) (hC:dt (R:=T) P C) (hf:P.funcs[f]?=some fn)
  (qa : G.kb = 0 := by kernel_rfl) (iS : (fn.name == "runtime.NumGoroutine") = false := by kernel_rfl) (iU : fn.body.isNone = false := by kernel_rfl)
  (he:∀rec a,tW G C cut (λS=>jE G fn.resultTypes.toList fn.results.toList S dec) rec 1000 [.code (fn.body.getD .skip)] (start fn (oJ a))=e a:=by(intro rec a;kernel_rfl)) (a:A) (p:T) (h:e a=some p):dc P f (oJ a) (enc p):=
 oX (Z:=Empty) (t:=nofun) (s:=nofun) (e:=λ_=>e) (r:=λ_ z=>nomatch z) (n:=0) hG n7 iT qa uu hC hf iS iU he (λ_ z=>nomatch z) a p h
end Go.Proofs.Ev
end