import Derived.Orders
import Derived.Below
import Derived.Laws.StructEq
import Derived.Laws.IdiomCopy
import Derived.Laws.IdiomStrings
import Derived.Laws.MakeOwn
import Derived.Laws.Small
import Derived.Laws.Strings
import Derived.Laws.Tables
import Derived.Deep.AppendSrc
import Derived.Lib.AppendZerosOnto
import Derived.Deep.Upon
set_option linter.all false
noncomputable section
namespace Go
theorem ab:type_of%@Option.bind_some:=@Option.bind_some
theorem ae:type_of%@Bool.and_eq_true:=@Bool.and_eq_true
theorem af:type_of%@List.length_map:=@List.length_map
theorem ag:type_of%@List.length_append:=@List.length_append
theorem ah:type_of%@List.getD_eq_getElem?_getD:=@List.getD_eq_getElem?_getD
theorem ai:type_of%@Int.toNat_natCast:=@Int.toNat_natCast
theorem aj:type_of%@Nat.eq_of_beq_eq_true:=@Nat.eq_of_beq_eq_true
theorem ak:type_of%@cond_true:=@cond_true
theorem au:type_of%@Option.bind_none:=@Option.bind_none
theorem aw:type_of%@List.length_cons:=@List.length_cons
theorem ay:type_of%@List.all_eq_true:=@List.all_eq_true
theorem az:type_of%@decide_eq_true_eq:=@decide_eq_true_eq
theorem aA:type_of%@Option.map_eq_some_iff:=@Option.map_eq_some_iff
theorem aB:type_of%@List.getElem?_eq_some_iff:=@List.getElem?_eq_some_iff
theorem aC:type_of%@Bool.not_true:=@Bool.not_true
theorem aD:type_of%@Nat.le_of_ble_eq_true:=@Nat.le_of_ble_eq_true
theorem aE:type_of%@Bool.not_false:=@Bool.not_false
theorem aF:type_of%@List.length_nil:=@List.length_nil
theorem aG:type_of%@List.drop_eq_getElem_cons:=@List.drop_eq_getElem_cons
theorem aH:type_of%@List.drop_of_length_le:=@List.drop_of_length_le
theorem aI:type_of%@Array.getD_eq_getD_getElem?:=@Array.getD_eq_getD_getElem?
theorem aJ:type_of%@Nat.le_refl:=@Nat.le_refl
theorem aK:type_of%@List.mem_append:=@List.mem_append
theorem aL:type_of%@List.getElem?_map:=@List.getElem?_map
theorem aM:type_of%@List.length_drop:=@List.length_drop
theorem aN:type_of%@List.getElem?_append_left:=@List.getElem?_append_left
theorem aO:type_of%@List.mem_of_getElem?:=@List.mem_of_getElem?
theorem aP:type_of%@List.getElem?_eq_getElem:=@List.getElem?_eq_getElem
theorem aQ:type_of%@List.getElem?_append_right:=@List.getElem?_append_right
theorem aR:type_of%@List.mem_of_mem_take:=@List.mem_of_mem_take
theorem aS:type_of%@List.mem_flatMap:=@List.mem_flatMap
theorem aT:type_of%@List.length_eq_zero_iff:=@List.length_eq_zero_iff
theorem aU:type_of%@List.drop_zero:=@List.drop_zero
theorem aV:type_of%@Nat.mul_le_mul_right:=@Nat.mul_le_mul_right
theorem aW:type_of%@List.mem_of_mem_drop:=@List.mem_of_mem_drop
theorem aX:type_of%@List.getElem_mem:=@List.getElem_mem
theorem aY:type_of%@Option.some.injEq:=@Option.some.injEq
theorem aZ:type_of%@Bool.or_eq_false_iff:=@Bool.or_eq_false_iff
theorem a_:type_of%@decide_eq_false:=@decide_eq_false
theorem bc:type_of%@of_decide_eq_true:=@of_decide_eq_true
theorem bd:type_of%@List.map_cons:=@List.map_cons
theorem bf:type_of%@List.append_nil:=@List.append_nil
theorem bg:type_of%@List.getElem?_drop:=@List.getElem?_drop
theorem bh:type_of%@List.mem_singleton:=@List.mem_singleton
theorem bj:type_of%@Array.getElem?_eq_some_iff:=@Array.getElem?_eq_some_iff
theorem bm:type_of%@Bool.not_eq_true:=@Bool.not_eq_true
theorem bn:type_of%@List.nil_append:=@List.nil_append
theorem bo:type_of%@Array.length_toList:=@Array.length_toList
theorem br:type_of%@List.mem_cons:=@List.mem_cons
theorem bu:type_of%@List.length_take:=@List.length_take
theorem bw:type_of%@List.length_singleton:=@List.length_singleton
theorem bx:type_of%@Go.run_underlying:=@Go.run_underlying
theorem bz:type_of%@List.mem_map:=@List.mem_map
theorem bA:type_of%@Nat.lt_of_lt_of_le:=@Nat.lt_of_lt_of_le
theorem bB:type_of%@Bool.or_eq_true:=@Bool.or_eq_true
theorem bC:type_of%@List.flatMap_cons:=@List.flatMap_cons
theorem bD:type_of%@Classical.not_not:=@Classical.not_not
theorem bE:type_of%@List.all_cons:=@List.all_cons
theorem bF:type_of%@Prod.mk.injEq:=@Prod.mk.injEq
theorem bG:type_of%@Nat.add_mul:=@Nat.add_mul
theorem bH:type_of%@List.append_assoc:=@List.append_assoc
theorem bI:type_of%@if_false:=@if_false
theorem bJ:type_of%@decide_eq_false_iff_not:=@decide_eq_false_iff_not
theorem bK:type_of%@List.mem_range:=@List.mem_range
theorem bL:type_of%@List.any_eq_true:=@List.any_eq_true
theorem bM:type_of%@List.mem_cons_of_mem:=@List.mem_cons_of_mem
theorem bN:type_of%@List.getElem?_take_of_lt:=@List.getElem?_take_of_lt
theorem bO:type_of%@List.takeWhile_cons:=@List.takeWhile_cons
theorem bP:type_of%@List.drop_succ_cons:=@List.drop_succ_cons
theorem bQ:type_of%@Nat.add_zero:=@Nat.add_zero
theorem bR:type_of%@List.take_succ_eq_append_getElem:=@List.take_succ_eq_append_getElem
theorem bS:type_of%@Nat.pow_le_pow_right:=@Nat.pow_le_pow_right
theorem bT:type_of%@List.mem_replicate:=@List.mem_replicate
theorem bU:type_of%@List.mem_cons_self:=@List.mem_cons_self
theorem bV:type_of%@List.contains_eq_mem:=@List.contains_eq_mem
theorem bW:type_of%@List.map_congr_left:=@List.map_congr_left
theorem bX:type_of%@Nat.ble_eq_true_of_le:=@Nat.ble_eq_true_of_le
theorem bY:type_of%@List.length_replicate:=@List.length_replicate
theorem bZ:type_of%@List.drop_drop:=@List.drop_drop
theorem b6:type_of%@Nat.zero_add:=@Nat.zero_add
theorem b7:type_of%@Go.Result.andThen_ok:=@Go.Result.andThen_ok
theorem b8:type_of%@decide_eq_decide:=@decide_eq_decide
theorem b9:type_of%@List.cons_append:=@List.cons_append
theorem b_:type_of%@List.take_of_length_le:=@List.take_of_length_le
theorem ca:type_of%@List.length_eq_one_iff:=@List.length_eq_one_iff
theorem cb:type_of%@if_true:=@if_true
theorem cd:type_of%@Nat.succ_mul:=@Nat.succ_mul
theorem cf:type_of%@Nat.le_trans:=@Nat.le_trans
theorem cg:type_of%@Go.Sem.run_bind:=@Go.Sem.run_bind
theorem ch:type_of%@List.map_map:=@List.map_map
theorem cj:type_of%@Option.getD_some:=@Option.getD_some
theorem ck:type_of%@List.contains_cons:=@List.contains_cons
theorem cl:type_of%@Int.tdiv_eq_ediv_of_nonneg:=@Int.tdiv_eq_ediv_of_nonneg
theorem cm:type_of%@Array.getElem?_toList:=@Array.getElem?_toList
theorem cn:type_of%@Bool.eq_iff_iff:=@Bool.eq_iff_iff
theorem cr:type_of%@Nat.zero_le:=@Nat.zero_le
theorem ct:type_of%@Bool.true_and:=@Bool.true_and
theorem cu:type_of%@List.length_pos_iff:=@List.length_pos_iff
theorem cv:type_of%@Option.bind_eq_some_iff:=@Option.bind_eq_some_iff
theorem cw:type_of%@Bool.false_eq_true:=@Bool.false_eq_true
theorem cz:type_of%@Option.map_some:=@Option.map_some
theorem cA:type_of%@List.drop_left:=@List.drop_left
theorem cB:type_of%@List.filterMap_eq_nil_iff:=@List.filterMap_eq_nil_iff
theorem cC:type_of%@List.take_succ_cons:=@List.take_succ_cons
theorem cD:type_of%@Option.some.inj:=@Option.some.inj
theorem cE:type_of%@List.mem_filter:=@List.mem_filter
theorem cF:type_of%@List.all_append:=@List.all_append
theorem cG:type_of%@List.filterMap_map:=@List.filterMap_map
theorem cH:type_of%@Go.ByteArray.toList_eq:=@Go.ByteArray.toList_eq
theorem cJ:type_of%@List.takeWhile_sublist:=@List.takeWhile_sublist
theorem cK:type_of%@List.take_append_drop:=@List.take_append_drop
theorem cL:type_of%@List.singleton_append:=@List.singleton_append
end Go
namespace Go.Proofs.Ev
open Go
structure Fl where
 b:Bool
 te:TypeId
 st:Bool
 deriving Inhabited
def Fl.RD(x y:Fl):Bool:=(x.b==y.b)&&Nat.beq x.te y.te
def Fl.beq(x y:Fl):Bool:=(x.st==y.st)&&((x.b==y.b)&&Nat.beq x.te y.te)
instance:BEq Fl:=⟨Fl.beq⟩
theorem Fl.Pm{x y:Fl}(h:(x==y)=true):x=y:=by
 cases x;cases y;have h:Fl.beq _ _=true:=h;unfold Fl.beq at h;rw[ae,ae]at h;have h0:=eq_of_beq h.1;have h1:=eq_of_beq h.2.1;have h2:=aj h.2.2;simp only at h0 h1 h2;subst h0 h1 h2;rfl
theorem Fl.refl(x:Fl):(x==x)=true:=by
 cases x;show Fl.beq _ _=true;simp[Fl.beq]
instance:LawfulBEq Fl:={ eq_of_beq:=Fl.Pm,rfl:=Fl.refl _ }
inductive AV where
 | v (x:Value)
 | sl (fl:Fl) (sz:Nat) (xs:List AV)
 | own (id off:Nat) (len:Option Nat)
 | fr (fl:Fl) (sz:Nat) (xs:List AV)
 | ptr (id off:Nat)
 | qt (id i off:Nat)
 | rd (cs:List AV)
 | agg (cs:List AV)
 | dU (xs:List AV)
 | fn (f:FuncId) (fj:List AV)
 | err (b:Bool)
 | bs (id:Nat)
 | undef
 deriving Inhabited
abbrev vi(n:Int):AV:=.v (.int .i64 n)
abbrev vu(n:Int):AV:=.v (.int .u8 n)
abbrev vb(b:Bool):AV:=.v (.bool b)
abbrev vs(s:ByteArray):AV:=.v (.string s)
def AV.cells:AV->List AV
 | .agg cs=>cs
 | x=>[x]
def AV.MU:AV->Bool
 | .v _=>true
 | _=>false
def AV.nD:AV->Bool
 | .undef | .agg _ | .dU _ | .fr _ _ _=>false
 | _=>true
def AV.Uc:AV->Bool
 | .fn _ _=>true
 | _=>false
def AV.okB:AV->Bool
 | .fn _ _=>false
 | x=>x.nD
def uF:Nat:=1000000
def one:Value->Bool
 | .agg _ | .tuple _=>false
 | _=>true
inductive oK where
 | box (tb:TypeId) (cs:List AV)
 | row (fl:Fl) (sz:Nat) (xs:List AV)
abbrev Mem:=Nat->Option oK
def Mem.fJ(m:Mem)(i:Nat)(x:Option oK):Mem:=λj=>bif Nat.beq j i then x else m j
inductive SK where
 | int (k:IntKind) | bool | str | slice (fl:Fl) (sz:Nat) | any
inductive TK where
 | slice (elem:TypeId) | struct (fields:List (TypeId × Nat)) | arr (n:Nat) (elem:TypeId) | ptr (elem:TypeId) | int (k:IntKind) | string | bool | iface | other
def TK.agg:TK->Bool
 | .struct _ | .arr _ _=>true
 | _=>false
structure TI where
 kd:TK
 size:Nat
 bytes:Nat
 isAgg:Bool
 xU:List SK
 zero:List Value
 tid:TypeId
def TI.qy(t:TI):List AV:=t.zero.map AV.v
def TI.nb(t:TI):Bool:=t.xU.all fun | .slice _ _ | .any=>false | _=>true
def TI.flat(t:TI):Fl:=⟨t.nb,t.tid,false⟩
structure eH where
 fP:TypeId->Option TI
 Eb:Nat->Option (List AV)
 params:FuncId->List TypeId
 kb:Nat:=0
 rows:FuncId->Bool:=λ_=>false
 refs:FuncId->Bool:=λ_=>false
section
variable {R:Type}
def eW(p:Bool)(K:Option R):Option R:=bif p then K else none
def mP(x:AV)(K:Value->Option R):Option R:=match x with | .v y=>K y | _=>none
def cQ(k:IntKind)(x:AV)(K:Int->Option R):Option R:=
 match x with | .v (.int k' n)=>bif decide (k'=k)then K n else none | _=>none
def fy(x:AV)(K:IntKind->Int->Option R):Option R:=match x with | .v (.int k n)=>K k n | _=>none
def fA(x:AV)(K:Bool->Option R):Option R:=match x with | .v (.bool b)=>K b | _=>none
def dm(x:AV)(K:ByteArray->Option R):Option R:=match x with | .v (.string s)=>K s | _=>none
def gq(fl:Fl)(sz:Nat)(x:AV)(K:List AV->Option R):Option R:=
 match x with
 | .v (.slice none 0 0)=>K []
 | .sl gk im xs=>bif gk==fl&&Nat.beq im sz then K xs else none
 | _=>none
def cM(cs:List AV)(K:AV->List AV->Option R):Option R:=match cs with | c::r=>K c r | []=>none
def cR{α:Type}(x:Option α)(K:α->Option R):Option R:=match x with | .some y=>K y | .none=>.none
def kU(len:Nat)(i:Int)(K:Nat->Option R):Option R:=bif decide (0<=i)&&decide (i<len)then K i.toNat else none
def qu(k:SK)(x:AV)(K:AV->Option R):Option R:=
 match k with
 | .int k=>cQ k x λn=>K (.v (.int k n))
 | .bool=>fA x λb=>K (.v (.bool b))
 | .str=>dm x λs=>K (.v (.string s))
 | .slice fl sz=>gq fl sz x λxs=>K (.sl fl sz xs)
 | .any=>K x
def u3:List SK->List AV->(List AV->Option R)->Option R
 | [],_,K=>K []
 | k::ks,cs,K=>cM cs λc r=>qu k c λc'=>u3 ks r λjh=>K (c'::jh)
def E7(t:TI)(cs:List AV)(K:AV->Option R):Option R:=
 bif t.isAgg then K (.agg cs)else match cs with | [c]=>K c | _=>none
end
structure St where
 tm:List AV
 m:Mem
 kN:Nat
def ev(G:eH)(tm:List AV):Operand->AV
 | .tmp t=>tm.getD t .undef
 | .const x=>bif one x then .v x else .undef
 | .global g=>match G.Eb g with | .some cs=>.rd cs | .none=>.undef
 | .func f=>bif Nat.blt f uF then .fn f []else .undef
def lenOf(n off:Nat):Option Nat->Nat
 | .some l=>l
 | .none=>n - off
def jV(off:Nat)(xs:List AV):List AV:=match off with | 0=>xs | n+1=>xs.drop (n+1)
def rowOf(off:Nat)(l:Option Nat)(xs:List AV):List AV:=match l with | .none=>jV off xs | .some n=>(xs.drop off).take n
section
variable {R:Type}
def ig(m:Mem)(x:AV)(K:Fl->Nat->List AV->Option R):Option R:=
 match x with
 | .v (.slice none 0 0)=>K ⟨true,0,false⟩ 0 []
 | .sl fl sz xs=>K fl sz xs
 | .own id off l=>match m id with
  | .some (.row fl sz xs)=>K fl sz (rowOf off l xs)
  | _=>none
 | _=>none
def mw(m:Mem)(x:AV)(K:Nat->Option R):Option R:=
 match x with
 | .v (.slice none 0 0)=>K 0
 | .sl _ _ xs=>K xs.length
 | .own id off l=>match m id with
  | .some (.row _ _ xs)=>K (lenOf xs.length off l)
  | _=>none
 | .bs id=>match m id with
  | .some (.box _ cs)=>K cs.length
  | _=>none
 | _=>none
def lx(m:Mem)(x:AV):Option AV:=
 match x with
 | .own _ _ _=>ig m x λfl sz xs=>Option.some (.sl fl sz xs)
 | .ptr _ _ | .qt _ _ _ | .fr _ _ _ | .undef | .fn _ _ | .dU _ | .agg _ | .bs _=>none
 | x=>Option.some x
def nN(m:Mem):List AV->Option (List AV)
 | []=>Option.some []
 | x::r=>match lx m x,nN m r with | .some y,.some s=>Option.some (y::s) | _,_=>none
def ly(m:Mem)(x:AV):Option AV:=
 match x with
 | .agg cs=>(nN m cs).map .agg
 | x=>lx m x
def sr(m:Mem)(x:AV):Option AV:=
 match x with
 | .ptr id off=>match m id with
  | .some (.box _ cs)=>(nN m (cs.drop off)).map .rd
  | _=>none
 | x=>lx m x
def qA(m:Mem):List AV->Option (List AV)
 | []=>Option.some []
 | x::r=>match sr m x,qA m r with | .some y,.some s=>Option.some (y::s) | _,_=>none
def fa(m:Mem)(x:AV):Option AV:=
 match x with
 | .agg cs=>(nN m cs).map .agg
 | .fn f fj=>(qA m fj).map (.fn f)
 | x=>sr m x
def j5(m:Mem):List AV->Option (List AV)
 | []=>Option.some []
 | x::r=>match fa m x,j5 m r with | .some y,.some s=>Option.some (y::s) | _,_=>none
def ta(k:SK)(x:AV):Option AV:=
 match k with
 | .slice fl sz=>match x with
  | .v (.slice none 0 0)=>Option.some (.sl fl sz [])
  | .sl gk im xs=>bif gk==fl&&Nat.beq im sz then Option.some (.sl fl sz xs)else none
  | _=>none
 | .any=>match x with
  | .v .nilIface=>Option.some (.err false)
  | .v (.iface _ _)=>Option.some (.err true)
  | x=>Option.some x
 | _=>Option.some x
def th:List SK->List AV->Option (List AV)
 | [],_=>Option.some []
 | k::ks,x::r=>match ta k x,th ks r with | .some y,.some s=>Option.some (y::s) | _,_=>none
 | _::_,[]=>none
def vG(G:eH)(t:TypeId)(x:AV):Option AV:=
 match G.fP t with
 | .some ti=>
  match x with
  | .agg cs=>bif Nat.beq cs.length ti.size then(th ti.xU cs).map .agg else none
  | .rd cs=>match ti.kd with
   | .ptr e=>match G.fP e with
    | .some ei=>(th ei.xU cs).map .rd
    | .none=>none
   | _=>none
  | x=>match ti.xU with
   | [k]=>ta k x
   | _=>none
 | .none=>none
def mZ:List AV->List AV->List AV
 | x::r,y::s=>(match x,y with | .own _ _ _,.sl fl sz xs=>.sl ⟨fl.b,fl.te,true⟩ sz xs | _,y=>y)::mZ r s
 | _,s=>s
def Bf(G:eH)(t:TypeId)(x:AV):Option AV:=
 match x with
 | .sl gk im xs=>match G.fP t with
  | .some ti=>match ti.xU with
   | [.slice fl sz]=>bif gk.RD fl&&Nat.beq im sz then Option.some (.sl gk im xs)else none
   | _=>none
  | .none=>none
 | x=>vG G t x
def iA(G:eH):List TypeId->List AV->Option (List AV)
 | [],[]=>Option.some []
 | t::ts,x::r=>match Bf G t x,iA G ts r with | .some y,.some s=>Option.some (y::s) | _,_=>none
 | _,_=>none
def jt(G:eH):List TypeId->List AV->Option (List AV)
 | [],[]=>Option.some []
 | t::ts,x::r=>match vG G t x,jt G ts r with | .some y,.some s=>Option.some (y::s) | _,_=>none
 | _,_=>none
def yU(G:eH)(f:FuncId)(args fw:List AV):Option (List AV):=bif G.rows f then iA G (G.params f) (mZ args fw)else jt G (G.params f) fw
def rn(id:Nat)(c:Nat)(m:Mem)(x:AV):AV × Nat × Mem:=
 match x with
 | .fr fl sz xs=>(.own (id+c) 0 none,c+1,m.fJ (id+c) (Option.some (.row fl sz xs)))
 | x=>(x,c,m)
def oq(id:Nat):Nat->Mem->List AV->List AV × Nat × Mem
 | c,m,[]=>([],c,m)
 | c,m,x::r=>match rn id c m x with | (y,c,m)=>match oq id c m r with | (s,c,m)=>(y::s,c,m)
def ot(id:Nat)(c:Nat)(m:Mem)(x:AV):AV × Nat × Mem:=
 match x with
 | .agg cs=>match oq id c m cs with | (s,c,m)=>(.agg s,c,m)
 | x=>rn id c m x
def lH(id:Nat):Nat->Mem->List AV->List AV × Nat × Mem
 | c,m,[]=>([],c,m)
 | c,m,x::r=>match ot id c m x with | (y,c,m)=>match lH id c m r with | (s,c,m)=>(y::s,c,m)
def imp(id:Nat)(m:Mem)(x:AV):AV × Nat × Mem:=
 match x with
 | .dU xs=>match lH id 0 m xs with | (s,c,m)=>(.dU s,c,m)
 | x=>ot id 0 m x
end
section
variable {R:Type}
def strOf:List AV->Option (List UInt8)
 | []=>Option.some []
 | .v (.int .u8 n)::r=>(strOf r).map (UInt8.ofNat n.toNat::·)
 | _::_=>none
def BW(op:BinOp)(x y:Value)(K:Value->Option R):Option R:=
 match x,y with
 | .int k a,.int k' b=>
  match op with
  | .shl=>bif decide (0<=b)then K (.int k (k.wrap (a*2 ^ min b.toNat k.bits)))else none
  | .shr=>bif decide (0<=b)then K (.int k (a.fdiv (2 ^ min b.toNat k.bits)))else none
  | _=>bif decide (k=k')then
   (match op with
   | .add=>K (.int k (k.wrap (a+b)))
   | .sub=>K (.int k (k.wrap (a - b)))
   | .mul=>K (.int k (k.wrap (a*b)))
   | .quo=>bif b==0 then none else K (.int k (k.wrap (a.tdiv b)))
   | .rem=>bif b==0 then none else K (.int k (a.tmod b))
   | .and=>K (.int k (k.wrap (BitVec.ofInt k.bits a &&& BitVec.ofInt k.bits b).toNat))
   | .or=>K (.int k (k.wrap (BitVec.ofInt k.bits a ||| BitVec.ofInt k.bits b).toNat))
   | .xor=>K (.int k (k.wrap (BitVec.ofInt k.bits a ^^^ BitVec.ofInt k.bits b).toNat))
   | .andNot=>K (.int k (k.wrap (BitVec.ofInt k.bits a &&& ~~~ BitVec.ofInt k.bits b).toNat))
   | .eql=>K (.bool (a==b))
   | .neq=>K (.bool (a != b))
   | .lss=>K (.bool (decide (a<b)))
   | .leq=>K (.bool (decide (a<=b)))
   | .gtr=>K (.bool (decide (a>b)))
   | .geq=>K (.bool (decide (a>=b)))
   | _=>none)else none
 | .string a,.string b=>
  match op with
  | .add=>eW (decide (a.size+b.size<=9223372036854775807)) (K (.string (a++b)))
  | .eql=>K (.bool (a.toList==b.toList))
  | .neq=>K (.bool (!(a.toList==b.toList)))
  | .lss=>K (.bool (Op.bytesLess a.toList b.toList))
  | .leq=>K (.bool (Op.bytesLess a.toList b.toList||a.toList==b.toList))
  | .gtr=>K (.bool (!(Op.bytesLess a.toList b.toList||a.toList==b.toList)))
  | .geq=>K (.bool (!Op.bytesLess a.toList b.toList))
  | _=>none
 | _,_=>none
def HA(k:SK)(x y:Value):Option Bool:=
 match k,x,y with
 | .int k,.int k1 a,.int k2 b=>bif decide (k1=k)&&decide (k2=k)then Option.some (a==b)else none
 | .str,.string a,.string b=>Option.some (a==b)
 | .bool,.bool a,.bool b=>Option.some (a==b)
 | _,_,_=>none
def Nd:List SK->List AV->List AV->(Bool->Option R)->Option R
 | [],[],[],K=>K true
 | k::ks,.v x::r,.v y::s,K=>match HA k x y with
  | .some b=>Nd ks r s λc=>K (b&&c)
  | .none=>none
 | _,_,_,_=>none
def jJ(kinds:TypeId->Option (List SK)):Nat->List (TypeId × Nat)->Option (List SK)
 | _,[]=>Option.some []
 | off,(t,o)::r=>bif Nat.beq o off then(match kinds t with
  | .some ks=>(match jJ kinds (off+ks.length) r with | .some l=>Option.some (ks++l) | .none=>none)
  | .none=>none)else none
def fm(G:eH):Nat->TypeId->Option (List SK)
 | 0,_=>none
 | n+1,t=>match G.fP t with
  | .some ti=>match ti.kd with
   | .int k=>bif Nat.beq ti.size 1 then Option.some [.int k]else none
   | .string=>bif Nat.beq ti.size 1 then Option.some [.str]else none
   | .bool=>bif Nat.beq ti.size 1 then Option.some [.bool]else none
   | .struct fs=>match jJ (fm G n) 0 fs with
    | .some ks=>bif Nat.beq ks.length ti.size then Option.some ks else none
    | .none=>none
   | _=>none
  | .none=>none
def om(G:eH)(t:TypeId):Bool:=match G.fP t with | .some ti=>ti.kd.agg | .none=>false
def isIface(G:eH)(t:TypeId):Bool:=match G.fP t with | .some ti=>(match ti.kd with | .iface=>true | _=>false) | .none=>false
def isSlice(G:eH)(t:TypeId):Bool:=match G.fP t with | .some ti=>(match ti.kd with | .slice _=>true | _=>false) | .none=>false
def isBool(G:eH)(t:TypeId):Bool:=match G.fP t with | .some ti=>(match ti.kd with | .bool=>true | _=>false) | .none=>false
def nX(op:BinOp)(b:Bool)(K:Bool->Option R):Option R:=match op with | .eql=>K b | .neq=>K (!b) | _=>none
def HU(G:eH)(op:BinOp)(t:TypeId)(c:Bool)(x y:AV)(K:AV->Option R):Option R:=
 match x,y with
 | .v (.nilIface),.v (.nilIface)=>bif c&&isIface G t then nX op true λb=>K (vb b)else none
 | .v (.iface _ _),.v (.nilIface)=>bif isIface G t then nX op false λb=>K (vb b)else none
 | .err b,.v (.nilIface)=>bif c&&isIface G t then nX op (!b) λb=>K (vb b)else none
 | .v (.slice none 0 0),.v (.slice none 0 0)=>bif isSlice G t then nX op true λb=>K (vb b)else none
 | .v (.bool a),.v (.bool b)=>bif isBool G t then nX op (a==b) λb=>K (vb b)else none
 | .v a,.v b=>BW op a b λc=>K (.v c)
 | .agg a,.agg b=>
  match fm G 9 t with
  | .some ks=>bif om G t then Nd ks a b λc=>nX op c λb=>K (vb b)else none
  | .none=>none
 | _,_=>none
def Nw(op:UnOp)(x:AV)(K:AV->Option R):Option R:=
 match op,x with
 | .not,.v (.bool b)=>K (vb (!b))
 | .neg,.v (.int k n)=>K (.v (.int k (k.wrap (0 - n))))
 | _,_=>none
def jK(G:eH):List (TypeId × Nat)->Option (List (Nat × Nat))
 | []=>Option.some []
 | (t,off)::r=>match G.fP t,jK G r with | .some fi,.some s=>Option.some ((off,fi.size)::s) | _,_=>none
def placeOf(G:eH)(t:TI):Option (Nat->Option (Nat × Nat)):=
 match t.kd with
 | .struct fs=>match jK G fs with | .some l=>Option.some λi=>l[i]? | .none=>none
 | .arr _ e=>match G.fP e with | .some ei=>Option.some λi=>Option.some (i*ei.size,ei.size) | .none=>none
 | _=>none
def pC(pl:Nat->Option (Nat × Nat))(cells:List AV):List (Nat × AV)->Option (List AV)
 | []=>Option.some cells
 | (i,x)::r=>match pl i with
  | .some (off,size)=>bif Nat.beq x.cells.length size&&Nat.ble (off+size) cells.length&&x.cells.all AV.nD then pC pl (cells.take off++x.cells++cells.drop (off+size)) r else none
  | .none=>none
def tv:Nat->List (Nat × AV)->Bool
 | _,[]=>true
 | i,(j,_)::r=>Nat.beq i j&&tv (i+1) r
def jT:AV->List Nat
 | .own id _ _ | .qt id _ _=>[id]
 | _=>[]
def h_:AV->List Nat
 | .agg cs=>cs.flatMap jT
 | x=>jT x
def tH(m:Mem):AV->List Nat
 | .ptr id _=>id::(match m id with | .some (.box _ cs)=>cs.flatMap jT | _=>[])
 | x=>jT x
def gS(m:Mem):AV->List Nat
 | .agg cs=>cs.flatMap jT
 | .fn _ fj=>fj.flatMap (tH m)
 | x=>tH m x
def ja:AV->Bool
 | .ptr _ _=>true
 | .fn _ fj=>fj.any fun | .ptr _ _=>true | _=>false
 | _=>false
def lJ(m:Mem)(ids:List Nat):Mem:=ids.foldl (λm i=>m.fJ i none) m
def xJ:AV->Bool
 | .v _ | .err _=>true
 | .fr fl _ _=>fl.b
 | _=>false
def ua:AV->Bool
 | .agg cs=>cs.all xJ
 | x=>xJ x
def lk:AV->Bool
 | .dU xs=>xs.all ua
 | x=>ua x
def lG(m:Mem)(ti:TI)(x:AV):Option AV:=
 match ly m x with
 | .some y=>bif Nat.beq y.cells.length ti.size&&y.cells.all AV.nD&&(!ti.nb||y.cells.all AV.MU)then Option.some y else none
 | .none=>none
def kB(m:Mem)(ti:TI):List AV->Option (List AV)
 | []=>Option.some []
 | x::r=>match lG m ti x,kB m ti r with | .some y,.some s=>Option.some (y::s) | _,_=>none
def eR:Nat:=1000000000
def mz(i:Int):Nat->(Nat->Option R)->Option R
 | 0,_=>none
 | n+1,K=>bif decide (i=(n:Int))then K n else mz i n K
def vy(n:Nat)(i:Int)(K:Nat->Option R):Option R:=bif Nat.ble n 16 then mz i n K else kU n i K
def rR:TK->Bool
 | .other=>true
 | _=>false
def Bm(x:Option AV)(h:Int)(K:Int->Option R):Option R:=
 match x with
 | .some l=>fy l λ_ n=>bif decide (0<=n)&&decide (n<=h)then K n else none
 | .none=>K 0
def JE(x:Option AV)(n:Int)(K:Int->Option R)(N:Option R):Option R:=
 match x with
 | .some h=>fy h λ_ h=>bif decide (0<=h)&&decide (h<=n)then K h else none
 | .none=>N
def eU(G:eH)(o:Op)(S:List AV)(m:Mem)(id:Nat)(K:AV->Mem->Option R):Option R:=
 match o with
 | .move x | .assign x=>K (ev G S x) m
 | .pick c a b=>fA (ev G S c) λp=>
  match ev G S a,ev G S b with
  | .v (.bool x),.v (.bool y)=>K (vb (bif p then x else y)) m
  | x,y=>bif p then K x m else K y m
 | .alloc t=>cR (G.fP t) λti=>K (.ptr id 0) (m.fJ id (Option.some (.box t ti.qy)))
 | .box t x=>cR (G.fP t) λti=>bif Nat.beq (ev G S x).cells.length ti.size&&(ev G S x).cells.all AV.nD then K (.ptr id 0) (m.fJ id (Option.some (.box t (ev G S x).cells)))else none
 | .build t parts=>cR (G.fP t) λti=>bif ti.isAgg then
   cR (placeOf G ti) λpl=>cR (pC pl ti.qy (parts.toList.map fun(i,x)=>(i,ev G S x))) λcs=>K (.agg cs) m
  else none
 | .buildSlice t len parts=>cR (G.fP t) λti=>match ti.kd with
  | .slice e=>cR (G.fP e) λei=>
   bif rR ei.kd then
    (bif(Nat.beq parts.size len&&tv 0 (parts.toList.map fun(i,x)=>(i,ev G S x))&&Nat.ble (len*ei.size) 16777216&&Nat.beq ei.size 1)&&(parts.toList.map fun(_,x)=>ev G S x).all AV.Uc then
     K (.bs id) (m.fJ id (Option.some (.box e (parts.toList.map fun(_,x)=>ev G S x))))else none)
   else
   bif Nat.beq parts.size len&&tv 0 (parts.toList.map fun(i,x)=>(i,ev G S x))&&Nat.ble (len*ei.size) 16777216&&Nat.ble 1 ei.size then
    cR (kB m ei (parts.toList.map fun(_,x)=>ev G S x)) λxs=>
     K (.own id 0 none) ((lJ m ((parts.toList.map fun(_,x)=>ev G S x).flatMap h_)).fJ id (Option.some (.row ei.flat ei.size xs)))
   else none
  | _=>none
 | .load t a=>cR (G.fP t) λti=>match ev G S a with
  | .ptr j off=>cR (m j) fun
   | .box _ cs=>bif Nat.ble (off+ti.size) cs.length then E7 ti ((jV off cs).take ti.size) λx=>K x m else none
   | _=>none
  | .qt j i off=>cR (m j) fun
   | .row _ sz xs=>bif Nat.ble (off+ti.size) sz then u3 ti.xU (jV off (xs.getD i .undef).cells) λcs=>E7 ti cs λx=>K x m else none
   | _=>none
  | .rd cs=>u3 ti.xU cs λcs=>E7 ti cs λx=>K x m
  | _=>none
 | .store t a x=>cR (G.fP t) λti=>match ev G S a with
  | .ptr j off=>cR (m j) fun
   | .box tb cs=>bif Nat.ble (off+ti.size) cs.length&&Nat.beq (ev G S x).cells.length ti.size&&(ev G S x).cells.all AV.nD then
     K .undef (m.fJ j (Option.some (.box tb (bif Nat.beq off 0&&Nat.beq ti.size cs.length then(ev G S x).cells else cs.take off++(ev G S x).cells++cs.drop (off+ti.size)))))
    else none
   | _=>none
  | .qt j i off=>cR (m j) fun
   | .row fl sz xs=>bif Nat.beq off 0&&Nat.beq ti.size sz&&(!fl.b||ti.nb)&&!(h_ (ev G S x)).contains j&&Nat.ble 1 sz then
     cR (lG m ti (ev G S x)) λy=>K .undef ((lJ m (h_ (ev G S x))).fJ j (Option.some (.row fl sz (xs.set i y))))
    else none
   | _=>none
  | _=>none
 | .nilCheck x=>match ev G S x with
  | .ptr j _=>cR (m j) fun | .box _ _=>K (ev G S x) m | _=>none
  | .qt j _ _=>cR (m j) fun | .row _ _ _=>K (ev G S x) m | _=>none
  | .rd _=>K (ev G S x) m
  | _=>none
 | .binOp op t x y _=>HU G op t (Region.isConst x||Region.isConst y) (ev G S x) (ev G S y) λz=>K z m
 | .unOp op _ x=>Nw op (ev G S x) λz=>K z m
 | .convert s d x=>cR (G.fP s) λsi=>cR (G.fP d) λdi=>match si.kd,di.kd with
  | .int _,.int k=>fy (ev G S x) λ_ n=>K (.v (.int k (k.wrap n))) m
  | .string,.string=>dm (ev G S x) λs=>K (vs s) m
  | .string,.slice e=>cR (G.fP e) λei=>match ei.kd with
   | .int .u8=>dm (ev G S x) λs=>K (.own id 0 none) (m.fJ id (Option.some (.row ei.flat 1 (s.toList.map λb=>vu b.toNat))))
   | _=>none
  | .slice e,.slice e'=>bif Nat.beq s d&&Nat.beq e e' then cR (G.fP e) λei=>match ei.kd with
   | .int .u8=>match ev G S x with
    | .own j 0 none=>cR (m j) fun
     | .row _ _ (_::_)=>K (.own j 0 none) m
     | _=>none
    | _=>none
   | _=>none
   else none
  | .slice e,.string=>cR (G.fP e) λei=>match ei.kd with
   | .int .u8=>ig m (ev G S x) λ_ _ xs=>cR (strOf xs) λbs=>K (vs ⟨bs.toArray⟩) m
   | _=>none
  | _,_=>none
 | .makeInterface t x=>cR (G.fP t) λti=>match ti.kd with
  | .other | .iface=>none
  | _=>mP (ev G S x) λy=>K (.v (.iface t y)) m
 | .makeFunc fn first fj=>match fn with
  | .func f=>bif(first.isEmpty&&Nat.blt f uF)&&(fj.toList.map (ev G S)).all AV.okB then K (.fn f (fj.toList.map (ev G S))) m
   else bif fj.isEmpty&&(first.toList.map (ev G S)).all AV.okB then K (.fn (f+uF) (first.toList.map (ev G S))) m else none
  | _=>none
 | .makeSlice t len cap=>cR (G.fP t) λti=>match ti.kd with
  | .slice e=>cR (G.fP e) λei=>
   cQ .i64 (ev G S len) λn=>cQ .i64 (ev G S cap) λc=>
    bif(decide (0<=n)&&decide (n<=eR))&&decide (c=n)&&Nat.ble ei.bytes 4096&&Nat.ble 1 ei.size then
     K (.own id 0 none) (m.fJ id (Option.some (.row ei.flat ei.size (List.replicate n.toNat (bif ei.isAgg then .agg ei.qy else ei.qy.headD .undef)))))
    else none
  | _=>none
 | .slice t x lo hi mx=>bif mx.isNone then cR (G.fP t) λti=>
   match ti.kd with
   | .string=>dm (ev G S x) λs=>
    JE (hi.map (ev G S)) s.size (λh=>Bm (lo.map (ev G S)) h λl=>K (vs (s.extract l.toNat h.toNat)) m) (Bm (lo.map (ev G S)) s.size λl=>K (vs (s.extract l.toNat s.size)) m)
   | .slice e=>cR (G.fP e) λei=>match ev G S x with
    | .v (.slice none 0 0)=>JE (hi.map (ev G S)) 0 (λh=>Bm (lo.map (ev G S)) h λ_=>K (.v (.slice none 0 0)) m) (Bm (lo.map (ev G S)) 0 λ_=>K (.v (.slice none 0 0)) m)
    | .sl fl sz xs=>bif Nat.beq sz ei.size then
     JE (hi.map (ev G S)) xs.length (λh=>Bm (lo.map (ev G S)) h λl=>K (.sl fl sz ((xs.take h.toNat).drop l.toNat)) m) (Bm (lo.map (ev G S)) xs.length λl=>K (.sl fl sz (xs.drop l.toNat)) m)else none
    | .own j off n=>cR (m j) fun
     | .row _ sz xs=>bif Nat.beq sz ei.size then
      JE (hi.map (ev G S)) (lenOf xs.length off n) (λh=>Bm (lo.map (ev G S)) h λl=>K (.own j (l.toNat+off) (Option.some (h - l).toNat)) m)
       (Bm (lo.map (ev G S)) (lenOf xs.length off n) λl=>K (.own j (l.toNat+off) (n.map λn=>n - l.toNat)) m)else none
     | _=>none
    | _=>none
   | .arr n e=>cR (G.fP e) λei=>match ev G S x with
    | .rd cs=>bif Nat.beq ei.size 1&&lo.isNone&&hi.isNone&&Nat.beq cs.length n&&ei.nb&&cs.all AV.MU then K (.sl ei.flat 1 cs) m else none
    | _=>none
   | _=>none
  else none
 | .fieldAddr s x f=>cR (G.fP s) λsi=>match si.kd with
  | .struct fs=>cR fs[f]? fun(ft,fo)=>cR (G.fP ft) λfi=>bif Nat.ble 1 fi.size then(match ev G S x with
   | .ptr j o=>cR (m j) fun | .box _ _=>K (.ptr j (fo+o)) m | _=>none
   | .qt j i o=>cR (m j) fun | .row _ _ _=>K (.qt j i (fo+o)) m | _=>none
   | .rd cs=>K (.rd (jV fo cs)) m
   | _=>none)else none
  | _=>none
 | .field s x f=>cR (G.fP s) λsi=>match si.kd with
  | .struct fs=>cR fs[f]? fun(ft,fo)=>cR (G.fP ft) λfi=>match ev G S x with
   | .agg cs=>bif Nat.ble (fo+fi.size) cs.length then E7 fi ((jV fo cs).take fi.size) λx=>K x m else none
   | _=>none
  | _=>none
 | .indexAddr t x i=>cR (G.fP t) λti=>match ti.kd with
  | .slice e=>cR (G.fP e) λei=>fy (ev G S i) λ_ i=>match ev G S x with
   | .sl _ sz xs=>bif Nat.beq sz ei.size then kU xs.length i λn=>K (.rd (xs.getD n .undef).cells) m else none
   | .own j off l=>cR (m j) fun
    | .row _ sz xs=>bif Nat.beq sz ei.size then kU (lenOf xs.length off l) i λn=>K (.qt j (n+off) 0) m else none
    | _=>none
   | .bs j=>cR (m j) fun
    | .box _ cs=>bif Nat.beq ei.size 1 then mz i cs.length λn=>K (.ptr j n) m else none
    | _=>none
   | _=>none
  | .arr n e=>cR (G.fP e) λei=>fy (ev G S i) λ_ i=>match ev G S x with
   | .ptr j o=>cR (m j) fun | .box _ _=>vy n i λk=>K (.ptr j (k*ei.size+o)) m | _=>none
   | .rd cs=>kU n i λk=>K (.rd (jV (k*ei.size) cs)) m
   | _=>none
  | _=>none
 | .index t x i=>cR (G.fP t) λti=>match ti.kd with
  | .string=>dm (ev G S x) λs=>fy (ev G S i) λ_ i=>kU s.size i λn=>K (vu (s.data.getD n 0).toNat) m
  | _=>none
 | .extract x i=>match ev G S x with
  | .dU xs=>cR xs[i]? λy=>K y m
  | _=>none
 | .call c=>match c.callee with
  | .builtin .len=>match c.argTypes.toList,c.args.toList with
   | [t],[x]=>cR (G.fP t) λti=>match ti.kd with
    | .string=>dm (ev G S x) λs=>K (vi s.size) m
    | .slice _=>mw m (ev G S x) λn=>K (vi n) m
    | _=>none
   | _,_=>none
  | .builtin .append=>match c.argTypes.toList,c.args.toList with
   | [t,u],[x,y]=>cR (G.fP t) λti=>cR (G.fP u) λui=>match ti.kd with
    | .slice e=>cR (G.fP e) λei=>
     bif Nat.ble ei.bytes 4096&&Nat.ble 1 ei.bytes&&Nat.ble 1 ei.size then
      let src:(List AV->Option R)->Option R:=λK=>match ui.kd with
       | .string=>bif Nat.beq ei.size 1 then dm (ev G S y) λs=>K (s.toList.map λb=>vu b.toNat)else none
       | .slice _=>ig m (ev G S y) λfl sz ys=>bif(fl==ei.flat&&Nat.beq sz ei.size)||(Nat.beq sz 0&&ys.isEmpty)then K ys else none
       | .int _=>cQ .i64 (ev G S y) λn=>bif decide ((0:Int)<=n)&&decide (n<=eR)then K (List.replicate n.toNat (bif ei.isAgg then .agg ei.qy else ei.qy.headD .undef))else none
       | _=>none
      src λys=>match ev G S x with
       | .v (.slice none 0 0)=>bif decide (ys.length<=eR)then K (.own id 0 none) (m.fJ id (Option.some (.row ei.flat ei.size ys)))else none
       | .own j off none=>cR (m j) fun
        | .row fl sz xs=>bif fl==ei.flat&&Nat.beq sz ei.size then
          bif decide ((jV off xs).length+ys.length<=eR)then K (.own id 0 none) ((m.fJ j none).fJ id (Option.some (.row fl sz (jV off xs++ys))))else none
         else none
        | _=>none
       | _=>none
     else none
    | _=>none
   | _,_=>none
  | .builtin .clear=>match c.argTypes.toList,c.args.toList with
   | [t],[x]=>cR (G.fP t) λti=>match ti.kd with
    | .slice e=>cR (G.fP e) λei=>match ev G S x with
     | .own j off l=>cR (m j) fun
      | .row fl sz xs=>bif Nat.beq sz ei.size then
        let n:=lenOf xs.length off l
        K .undef (m.fJ j (Option.some (.row fl sz (xs.take off++List.replicate n (bif ei.isAgg then .agg ei.qy else ei.qy.headD .undef)++xs.drop (n+off)))))
       else none
      | _=>none
     | _=>none
    | _=>none
   | _,_=>none
  | .builtin .copy=>match c.argTypes.toList,c.args.toList with
   | [t,_],[x,y]=>cR (G.fP t) λti=>match ti.kd with
    | .slice e=>cR (G.fP e) λei=>match ev G S x with
     | .own j off l=>cR (m j) fun
      | .row fl sz xs=>bif Nat.beq sz ei.size then ig m (ev G S y) λgk im ys=>bif gk==fl&&Nat.beq im sz then
        K (vi (min (lenOf xs.length off l) ys.length:Nat)) (m.fJ j (Option.some (.row fl sz (xs.take off++ys.take (min (lenOf xs.length off l) ys.length)++xs.drop (min (lenOf xs.length off l) ys.length+off)))))
       else none else none
      | _=>none
     | _=>none
    | _=>none
   | _,_=>none
  | .builtin .min=>match c.args.toList with
   | [x,y]=>fy (ev G S x) λk a=>cQ k (ev G S y) λb=>K (.v (.int k (if b<a then b else a))) m
   | _=>none
  | .builtin .max=>match c.args.toList with
   | [x,y]=>fy (ev G S x) λk a=>cQ k (ev G S y) λb=>K (.v (.int k (if b>a then b else a))) m
   | _=>none
  | _=>none
 | _=>none
def visit:Nat->Mem->List Nat->AV->List Nat
 | 0,_,ord,_=>ord
 | n+1,m,ord,x=>
  match x with
  | .own id _ _ | .qt id _ _=>bif ord.contains id then ord else match m id with | .some _=>ord++[id] | .none=>ord
  | .ptr id _ | .bs id=>bif ord.contains id then ord else match m id with
   | .some (.box _ cs)=>cs.foldl (visit n m) (ord++[id])
   | .some (.row _ _ _)=>ord++[id]
   | .none=>ord
  | .agg cs | .dU cs | .fn _ cs=>cs.foldl (visit n m) ord
  | _=>ord
def gZ(ord:List Nat)(id:Nat):Option Nat:=ord.findIdx? (Nat.beq id)
def uA:Nat->List Nat->AV->AV
 | 0,_,_=>.undef
 | n+1,ord,x=>
  match x with
  | .own id off l=>match gZ ord id with | .some j=>.own j off l | .none=>.undef
  | .qt id i off=>match gZ ord id with | .some j=>.qt j i off | .none=>.undef
  | .ptr id off=>match gZ ord id with | .some j=>.ptr j off | .none=>.undef
  | .bs id=>match gZ ord id with | .some j=>.bs j | .none=>.undef
  | .agg cs=>.agg (cs.map (uA n ord))
  | .dU cs=>.dU (cs.map (uA n ord))
  | .fn f cs=>.fn f (cs.map (uA n ord))
  | .v x=>.v x
  | .sl fl sz xs=>.sl fl sz xs
  | .rd cs=>.rd cs
  | .err b=>.err b
  | .fr _ _ _ | .undef=>.undef
def jr(ord:List Nat):Option oK->oK
 | .some (.box tb cs)=>.box tb (cs.map (uA 3 ord))
 | .some (.row fl sz xs)=>.row fl sz xs
 | .none=>.box 0 []
def xc:Nat->(Nat->Nat)->AV->AV
 | 0,_,_=>.undef
 | n+1,f,x=>
  match x with
  | .own id off l=>.own (f id) off l
  | .qt id i off=>.qt (f id) i off
  | .ptr id off=>.ptr (f id) off
  | .bs id=>.bs (f id)
  | .agg cs=>.agg (cs.map (xc n f))
  | .dU cs=>.dU (cs.map (xc n f))
  | .fn g cs=>.fn g (cs.map (xc n f))
  | .v x=>.v x
  | .sl fl sz xs=>.sl fl sz xs
  | .rd cs=>.rd cs
  | .err b=>.err b
  | .fr _ _ _ | .undef=>.undef
def l8(f:Nat->Nat):Option oK->Option oK
 | .some (.box tb cs)=>Option.some (.box tb (cs.map (xc 3 f)))
 | .some (.row fl sz xs)=>Option.some (.row fl sz xs)
 | .none=>Option.none
def mH:Option oK->Bool
 | .some (.box _ _)=>true
 | _=>false
def ix:oK->AV
 | .box tb cs=>.fn tb cs
 | .row fl sz xs=>.fr fl sz xs
def La:AV->Option oK
 | .fn tb cs=>Option.some (.box tb cs)
 | .fr fl sz xs=>Option.some (.row fl sz xs)
 | _=>none
def Mem.gg(bs:List AV):Mem:=λi=>match bs[i]? with | .some x=>La x | .none=>none
def kR:List AV->Nat
 | .fn _ _::r=>kR r+1
 | _=>0
def Ad(m:Mem):List AV->Option (List AV)
 | []=>Option.some []
 | x::r=>match(match x with | .ptr id off=>Option.some (AV.ptr id off) | x=>lx m x),Ad m r with | .some y,.some s=>Option.some (y::s) | _,_=>none
def Kc(m:Mem)(x:AV):Option AV:=
 match x with
 | .ptr id off=>Option.some (.ptr id off)
 | .fn f fj=>(Ad m fj).map (.fn f)
 | x=>fa m x
def wC(m:Mem):List AV->Option (List AV)
 | []=>Option.some []
 | x::r=>match Kc m x,wC m r with | .some y,.some s=>Option.some (y::s) | _,_=>none
def xo(m:Mem):AV->List Nat
 | .ptr _ _=>[]
 | .fn _ fj=>fj.flatMap jT
 | x=>gS m x
def KG(G:eH)(t:TypeId)(x:AV):Option AV:=
 match x with
 | .ptr id off=>Option.some (.ptr id off)
 | .fn f fj=>Option.some (.fn f fj)
 | x=>vG G t x
def oh(G:eH):List TypeId->List AV->Option (List AV)
 | [],xs=>Option.some xs
 | t::ts,x::r=>match KG G t x,oh G ts r with | .some y,.some s=>Option.some (y::s) | _,_=>none
 | _::_,[]=>none
def iU(m:Mem)(xs:List AV):List Nat:=
 let o:=xs.foldl (visit 6 m) []
 o.filter (λi=>mH (m i))++o.filter λi=>!mH (m i)
def oc:AV->Bool
 | .v _ | .err _=>true
 | _=>false
def pQ:AV->Bool
 | .agg cs=>cs.all oc
 | x=>oc x
def wY:AV->Bool
 | .dU xs=>xs.all pQ
 | x=>pQ x
def CC(m:Mem)(ord:List Nat)(kb:Nat)(os:List AV):Bool:=
 Nat.ble kb os.length&&Nat.ble (os.length - kb) 8&&((List.range kb).all λj=>match os[j]?,m (ord.getD j 0)with | .some (.fn uJ jh),.some (.box tb cs)=>Nat.beq jh.length cs.length&&Nat.beq uJ tb | _,_=>false)
def lZ(ord:List Nat)(kb id:Nat)(j:Nat):Nat:=bif Nat.blt j kb then ord.getD j 0 else id+(j - kb)
def lf(m:Mem)(ord:List Nat)(kb id:Nat)(I:List Nat)(os:List AV):Mem:=λi=>
 bif Nat.ble id i&&Nat.blt i (id+(os.length - kb))then l8 (lZ ord kb id) (Mem.gg os (kb+(i - id)))
 else match gZ ord i with
  | .some j=>bif Nat.blt j kb then l8 (lZ ord kb id) (Mem.gg os j)else none
  | .none=>bif I.contains i then none else m i
def q8(G:eH)(C:FuncId->List AV->(AV->Option R)->Option R)(f:FuncId)(args:List AV)(m:Mem)(id:Nat)(K:AV->Mem->Option R):Option R:=
 cR (wC m args) λxs=>cR (oh G (G.params f) xs) λxs=>
  bif(iU m xs).any λi=>(args.flatMap (xo m)).contains i then none else
  C f (xs.map (uA 4 (iU m xs))++[.dU ((iU m xs).map λi=>ix (jr (iU m xs) (m i)))]) λr=>match r with
   | .dU [y,.dU os]=>bif wY y&&CC m (iU m xs) ((iU m xs).filter λi=>mH (m i)).length os then
    K y (lf m (iU m xs) ((iU m xs).filter λi=>mH (m i)).length id (args.flatMap (xo m)) os)else none
   | _=>none
def HW(j:Nat):AV->Option AV
 | .own 0 off l=>Option.some (.own j off l)
 | .dU []=>Option.some (.dU [])
 | _=>Option.none
def nZ(C:FuncId->List AV->(AV->Option R)->Option R)(f:FuncId)(args:List AV)(m:Mem)(K:AV->Mem->Option R):Option R:=
 match args with
 | .own j off l::rest=>cR (m j) λb=>match b with
  | .row fl sz xs=>bif rest.all AV.MU then C f (.own 0 off l::rest++[.dU [.fr fl sz xs]]) λr=>match r with
    | .dU [y,.fr gk im ys]=>bif gk==fl&&Nat.beq im sz then cR (HW j y) λz=>K z (m.fJ j (Option.some (.row fl sz ys)))else none
    | _=>none
   else none
  | _=>none
 | _=>none
def fW(G:eH)(C:FuncId->List AV->(AV->Option R)->Option R)(dr:Bool)(f:FuncId)(args:List AV)(m:Mem)(id:Nat)(K:AV->Mem->Option R):Option R:=
 bif args.any ja then(bif dr then none else q8 G C f args m id K)
 else bif G.refs f then(bif dr then none else nZ C f args m K)
 else cR (j5 m args) λfw=>cR (yU G f args fw) λfw=>C f fw λr=>
  bif lk r then(match imp id m r with | (x,c,m')=>bif Nat.ble c 8 then K x m' else none)
  else bif dr&&!(args.flatMap (gS m)).isEmpty then none
  else(match imp id (lJ m (args.flatMap (gS m))) r with | (x,c,m')=>bif Nat.ble c 8 then K x m' else none)
def qU:AV->Bool
 | .qt _ _ _=>true
 | _=>false
def Bu:AV->Bool
 | .ptr _ _=>true
 | _=>false
def y_(G:eH)(t:TypeId):Bool:=match G.fP t with
 | .some ti=>(match ti.kd with | .slice e=>(match G.fP e with | .some ei=>!ei.nb | .none=>false) | _=>false)
 | .none=>false
def er(G:eH)(C:FuncId->List AV->(AV->Option R)->Option R)(dr:Bool)(o:Oper)(S:List AV)(m:Mem)(id:Nat)(K:AV->Mem->Option R):Option R:=
 match o.op with
 | .call c=>match c.callee with
  | .value f=>match ev G S f with
   | .fn g fj=>bif dr&&!(fj.all AV.okB)then none else bif Nat.blt g uF then fW G C dr g (c.args.toList.map (ev G S)++fj) m id K
    else fW G C dr (g - uF) (fj++c.args.toList.map (ev G S)) m id K
   | _=>none
  | _=>eU G o.op S m id K
 | .store t p x=>bif dr&&!((qU (ev G S p)&&(h_ (ev G S x)).isEmpty)||Bu (ev G S p))then none else eU G (.store t p x) S m id K
 | .buildSlice t n parts=>bif dr&&!(y_ G t||((parts.toList.map fun(_,x)=>ev G S x).flatMap h_).isEmpty)then none else eU G (.buildSlice t n parts) S m id K
 | op=>eU G op S m id K
def put(S:List AV)(d:Option Tmp)(x:AV):List AV:=match d with | .some d=>S.set d x | .none=>S
def j6(G:eH)(C:FuncId->List AV->(AV->Option R)->Option R)(dr:Bool)(all:List Oper)(n i:Nat)(S:List AV)(m:Mem)(K:List AV->Mem->Option R):Option R:=
 match all[i]? with
 | .some o=>
  match o.guard with
  | .none=>er G C dr o S m (8*(n+i)) λx m=>K (put S o.dst x) m
  | .some (g,want)=>
   match all[g]? with
   | .some og=>match og.dst with
    | .some d=>match S.getD d .undef with
     | .dU []=>K (put S o.dst (.dU [])) m
     | y=>fA y λp=>
     bif p then
      (bif want then er G C dr o (S.set d (vb true)) m (8*(n+i)) λx m=>K (put (S.set d (vb true)) o.dst x) m
      else K (put (S.set d (vb true)) o.dst (.dU [])) m)
     else
      (bif want then K (put (S.set d (vb false)) o.dst (.dU [])) m
      else er G C dr o (S.set d (vb false)) m (8*(n+i)) λx m=>K (put (S.set d (vb false)) o.dst x) m)
    | .none=>none
   | .none=>none
 | .none=>none
def pS(G:eH)(C:FuncId->List AV->(AV->Option R)->Option R)(dr:Nat->Bool)(pre:Nat->List AV->Mem->Bool)(all:List Oper)(n:Nat):List Nat->List AV->Mem->(List AV->Mem->Option R)->Option R
 | [],S,m,K=>K S m
 | i::l,S,m,K=>bif pre i S m then j6 G C (dr i) all n i S m λS m=>pS G C dr pre all n l S m K else none
def gH:Op->Bool
 | .move _ | .assign _ | .pick _ _ _ | .build _ _ | .binOp _ _ _ _ _ | .unOp _ _ _ | .makeInterface _ _ | .makeFunc _ _ _ | .field _ _ _ | .index _ _ _ | .extract _ _=>true
 | .call c=>match c.callee with
  | .builtin .min | .builtin .max=>true
  | _=>false
 | _=>false
def dM:AV->List Nat
 | .own id _ _ | .qt id _ _ | .ptr id _ | .bs id=>[id]
 | _=>[]
def fK:Op->Bool
 | .load _ _ | .nilCheck _ | .fieldAddr _ _ _ | .indexAddr _ _ _ | .slice _ _ _ _ _=>true
 | .call c=>match c.callee with
  | .builtin .len=>true
  | _=>false
 | _=>false
def l9:Op->Bool
 | .alloc _ | .box _ _ | .makeSlice _ _ _ | .convert _ _ _=>true
 | _=>false
def iL:Op->Bool
 | .call c=>match c.callee with
  | .value _=>true
  | _=>false
 | _=>false
def ml:Op->Bool
 | .buildSlice _ _ _=>true
 | _=>false
def jz(o:Op):Bool:=fK o||l9 o||iL o||ml o
def nq:Op->Bool
 | .call c=>match c.callee with
  | .builtin .append=>true
  | _=>false
 | .store _ _ _=>true
 | _=>false
def eP(o:Op):Bool:=jz o||nq o
def gh:Option oK->Bool
 | .some (.box _ _)=>true
 | _=>false
def ry(o:Oper)(p:Nat):Bool:=o.after.toList.any λe=>Nat.beq e.on p&&Region.binds .any e
def before(all:Array Oper):Nat->Nat->Nat->Bool
 | 0,_,_=>false
 | f+1,i,p=>match all[i]? with
  | .some o=>ry o p||o.after.toList.any λe=>Region.binds .any e&&before all f e.on p
  | .none=>false
def force{α:Type}(n:Nat)(k:Nat->α):α:=match n with
 | 0=>k 0
 | m+1=>k (m+1)
def KE(acc:List Nat)(i:Nat):List Edge->Nat->Nat
 | [],m=>m
 | e::r,m=>bif Region.binds .any e&&Nat.blt e.on i then KE acc i r (m ||| ((1 <<< e.on) ||| acc.getD (i - 1 - e.on) 0))else KE acc i r m
def EO:List Oper->Nat->List Nat->List Nat
 | [],_,acc=>acc
 | o::r,i,acc=>force (KE acc i o.after.toList 0) λm=>EO r (i+1) (m::acc)
def J8(all:Array Oper)(i p:Nat):Bool:=Nat.blt i all.size&&Nat.testBit ((EO all.toList 0 []).getD (all.size - 1 - i) 0) p
def FL(all:Array Oper)(p q:Oper):Bool:=p.apart all q&&(gH p.op||gH q.op||(jz p.op&&eP q.op)||(eP p.op&&jz q.op))
def tX(all:Array Oper):Bool:=
 (List.range all.size).all λi=>match all[i]? with
  | .some o=>(o.after.toList.all λe=>!Region.binds .any e||Nat.blt e.on i)&&(List.range i).all λp=>ry o p||((match all[p]? with | .some q=>FL all q o | .none=>false)||J8 all i p)
  | .none=>false
def loose(all:Array Oper)(i:Nat)(o:Oper)(k:Nat):Bool:=
 match all[k]? with
 | .some q=>eP q.op&&eP o.op&&!Nat.beq k i&&!(ry o k||ry q i||J8 all i k||J8 all k i)
 | .none=>false
def iv(all:Array Oper)(i:Nat):Bool:=
 match all[i]? with
 | .some o=>(List.range all.size).any λk=>loose all i o k
 | .none=>false
def jS(G:eH)(op:Op):Bool:=nq op||(match op with | .buildSlice t _ _=>y_ G t | _=>false)
def stOp:Op->Bool
 | .store _ _ _=>true
 | _=>false
def o9(G:eH)(all:Array Oper)(i:Nat)(o:Oper):Bool:=
 (List.range all.size).any λk=>(match all[k]? with | .some q=>jS G q.op | .none=>false)&&loose all i o k
def rQ(all:Array Oper)(i:Nat)(o:Oper):Bool:=
 (List.range all.size).any λk=>(match all[k]? with | .some q=>stOp q.op | .none=>false)&&loose all i o k
def uK(G:eH)(tb:Nat->Bool)(S:List AV):Op->Bool
 | .store _ a _=>(match ev G S a with | .ptr j _=>tb j | _=>true)
 | _=>true
def rootOf(G:eH)(all:Array Oper)(S:List AV)(a:Operand):Option Nat:=
 match a with
 | .tmp t=>
  (match(match(List.range all.size).findSome? (λk=>match all[k]? with
   | .some o=>(match o.dst,o.op with | .some d,.fieldAddr _ x _=>(bif Nat.beq d t then Option.some (ev G S x)else Option.none) | _,_=>Option.none)
   | .none=>Option.none)with
  | .some x=>x
  | .none=>ev G S a)with
  | AV.ptr j _=>Option.some j
  | _=>Option.none)
 | _=>Option.none
def VU(G:eH)(all:Array Oper)(S:List AV):List Nat:=
 (List.range all.size).filterMap λk=>match all[k]? with
  | .some o=>(match o.op with
   | .store _ a _=>bif iv all k then rootOf G all S a else none
   | _=>none)
  | .none=>none
def QX(n:Nat)(l:List Nat)(j:Nat):Bool:=Nat.ble (8*n) j||l.any (Nat.beq j)
def qm{α:Type}:List Nat->(List Nat->α)->α
 | [],k=>k []
 | x::r,k=>force x λy=>qm r λs=>k (y::s)
theorem force_eq{α:Type}(n:Nat)(k:Nat->α):force n k=k n:=by cases n<;>rfl
theorem vV{α:Type}:∀(l:List Nat) (k:List Nat->α),qm l k=k l
 | [],k=>rfl
 | x::r,k=>by unfold qm;rw[force_eq,vV r]
def dJ:AV->List Nat
 | .agg cs=>cs.flatMap dM
 | .fn _ cs=>cs.flatMap dM
 | x=>dM x
def Qr(G:eH)(all:Array Oper)(S:List AV)(a:Operand):AV:=
 match a with
 | .tmp t=>(match(List.range all.size).findSome? (λk=>match all[k]? with
   | .some o=>(match o.dst with
    | .some d=>bif Nat.beq d t then(match o.op with | .move x | .assign x | .fieldAddr _ x _=>Option.some (ev G S x) | _=>Option.some .undef)else Option.none
    | .none=>Option.none)
   | .none=>Option.none)with
  | .some x=>x
  | .none=>ev G S a)
 | x=>ev G S x
def Rs(G:eH)(all:Array Oper)(S:List AV)(k:Nat):Bool:=
 match all[k]? with
 | .some o=>(match o.op with
  | .call c=>(match c.callee with | .value f=>(ja (Qr G all S f)||c.args.toList.any λa=>ja (Qr G all S a))&&iv all k | _=>false)
  | _=>false)
 | .none=>false
def WK(G:eH)(all:Array Oper)(S:List AV):List Nat:=(List.range all.size).filter (Rs G all S)
def WL(G:eH)(all:Array Oper)(S:List AV)(m:Mem)(pc:List Nat):List Nat:=
 pc.flatMap λk=>match all[k]? with
  | .some o=>(match o.op with
   | .call c=>(match c.callee with | .value f=>(Qr G all S f::c.args.toList.map (Qr G all S)).foldl (visit 6 m) [] | _=>[])
   | _=>[])
  | .none=>[]
def kC(l:List Nat)(j:Nat):Bool:=l.any (Nat.beq j)
def lW(G:eH)(f:FuncId)(args:List AV)(m:Mem):Option (List Nat):=
 bif args.any ja then(match wC m args with
  | .some xs=>(match oh G (G.params f) xs with | .some xs=>Option.some (iU m xs++args.flatMap (xo m)) | .none=>Option.none)
  | .none=>Option.none)
 else Option.some (args.flatMap (gS m))
def sy(G:eH)(o:Op)(S:List AV)(m:Mem):Option (List Nat):=
 match o with
 | .call c=>(match c.callee with
  | .value f=>(match ev G S f with
   | .fn g fj=>bif Nat.blt g uF then lW G g (c.args.toList.map (ev G S)++fj) m else lW G (g - uF) (fj++c.args.toList.map (ev G S)) m
   | _=>Option.none)
  | _=>Option.none)
 | _=>Option.none
def lV(G:eH)(o:Op)(S:List AV)(m:Mem)(T:List Nat):Bool:=match sy G o S m with | .some l=>l.all (kC T) | .none=>true
def CI(all:Array Oper)(pc:List Nat)(i:Nat)(o:Oper):Bool:=pc.any λk=>loose all i o k
def pP(G:eH)(all:Array Oper)(pc T:List Nat)(i:Nat)(S:List AV)(m:Mem):Bool:=
 bif pc.isEmpty then true else
 match all[i]? with
 | .some o=>bif kC pc i then(iL o.op&&lV G o.op S m T)&&(List.range all.size).all λk=>match all[k]? with | .some q=>fK q.op||!loose all i o k | .none=>true
  else !CI all pc i o||(o.op.operands.toList.all λx=>(dJ (ev G S x)).all λj=>!kC T j)
 | .none=>true
def nP(G:eH)(all:Array Oper)(tb:Nat->Bool)(n i:Nat)(S:List AV)(m:Mem):Bool:=
 match all[i]? with
 | .some o=>bif eP o.op then(uK G tb S o.op||!iv all i)&&o.op.operands.toList.all λx=>(dJ (ev G S x)).all λj=>(Nat.blt j (8*n)||!loose all i o (j / 8 - n))&&((!tb j||!rQ all i o)&&(gh (m j)||!o9 G all i o))else true
 | .none=>true
def xA(all:Array Oper)(pc:List Nat)(i:Nat):Bool:=iv all i&&!kC pc i
def sP(G:eH)(all:Array Oper)(tb:Nat->Bool)(pc T:List Nat)(n i:Nat)(S:List AV)(m:Mem):Bool:=nP G all tb n i S m&&pP G all pc T i S m
end
def Mem.ofList(l:List oK):Mem:=λj=>l[j]?
def pd(keep:List Tmp)(ord:List Nat):Nat->List AV->List AV
 | _,[]=>[]
 | i,x::r=>(bif keep.contains i then uA 4 ord x else .undef)::pd keep ord (i+1) r
def boxed(m:Mem)(i:Nat):AV:=.agg (match m i with | .some (.box _ cs)=>cs | _=>[])
def BQ(kb:Nat)(keep:List Tmp)(S:St):St:=
 let ord:=(List.range kb).foldl (λord i=>visit 6 S.m ord (boxed S.m i)) (keep.foldl (λord t=>visit 6 S.m ord (S.tm.getD t .undef)) (List.range kb))
 ⟨pd keep ord 0 S.tm,Mem.ofList (ord.map λi=>jr ord (S.m i)),ord.length⟩
def Lq(S:St)(t:Nat):St:=
 match fa S.m (S.tm.getD t .undef)with
 | .some y=>⟨S.tm.set t y,lJ S.m (gS S.m (S.tm.getD t .undef)),S.kN⟩
 | .none=>S
def wU(S:St)(e:Nat × Option Nat × Fl × Nat):St:=
 match e with
 | (t,.none,fl,sz)=>match S.tm.getD t .undef with
  | .v (.slice none 0 0)=>⟨S.tm.set t (.own (8*S.kN) 0 none),S.m.fJ (8*S.kN) (Option.some (.row fl sz [])),S.kN+1⟩
  | _=>S
 | (t,.some j,fl,sz)=>bif Nat.ble 2000000 j then S else bif Nat.ble 1000000 j then Lq S t else match S.tm.getD t .undef with
  | .agg cs=>match cs[j]? with
   | .some (.v (.slice none 0 0))=>⟨S.tm.set t (.agg (cs.set j (.own (8*S.kN) 0 none))),S.m.fJ (8*S.kN) (Option.some (.row fl sz [])),S.kN+1⟩
   | _=>S
  | .ptr id _=>match S.m id with
   | .some (.box tb cs)=>match cs[j]? with
    | .some (.v (.slice none 0 0))=>⟨S.tm,(S.m.fJ (8*S.kN) (Option.some (.row fl sz []))).fJ id (Option.some (.box tb (cs.set j (.own (8*S.kN) 0 none)))),S.kN+1⟩
    | _=>S
   | _=>S
  | _=>S
structure kK where
 keep:List Tmp
 gM:List (Nat × Option Nat × Fl × Nat)
def clean(kb:Nat)(k:kK)(S:St):St:=BQ kb k.keep (k.gM.foldl wU S)
def there(kb:Nat)(m:Mem):Bool:=(List.range kb).all λi=>mH (m i)
section
variable {R:Type}
def Eg(m:Mem)(ids:List Nat)(k:SK)(x:AV)(K:List Nat->AV->Option R):Option R:=
 match k with
 | .slice fl sz=>match x with
  | .own id off l=>bif ids.contains id then none else
   match m id with
   | .some (.row gk im xs)=>bif gk==fl&&Nat.beq im sz then K (id::ids) (.fr fl sz (rowOf off l xs))else none
   | _=>none
  | .v (.slice none 0 0)=>K ids (.fr fl sz [])
  | .fr gk im xs=>bif gk==fl&&Nat.beq im sz then K ids (.fr fl sz xs)else none
  | _=>none
 | .any=>match x with
  | .v .nilIface=>K ids (.err false)
  | .v (.iface _ _)=>K ids (.err true)
  | .err b=>K ids (.err b)
  | _=>none
 | _=>mP x λy=>K ids (.v y)
def Eh(m:Mem):List Nat->List SK->List AV->(List Nat->List AV->Option R)->Option R
 | ids,[],[],K=>K ids []
 | ids,k::ks,x::r,K=>Eg m ids k x λids y=>Eh m ids ks r λids s=>K ids (y::s)
 | _,_,_,_=>none
def Mp(m:Mem)(ids:List Nat)(ti:TI)(x:AV)(K:List Nat->AV->Option R):Option R:=
 match x with
 | .agg cs=>bif ti.isAgg then Eh m ids ti.xU cs λids cs=>K ids (.agg cs)else none
 | x=>match ti.xU with | [k]=>Eg m ids k x K | _=>none
def v_(G:eH)(m:Mem):List Nat->List TypeId->List AV->(List Nat->List AV->Option R)->Option R
 | ids,[],[],K=>K ids []
 | ids,t::ts,x::r,K=>cR (G.fP t) λti=>Mp m ids ti x λids y=>v_ G m ids ts r λids s=>K ids (y::s)
 | _,_,_,_=>none
def yE(G:eH)(S:St):List ResultVar->(List AV->Option R)->Option R
 | [],K=>K []
 | .tmp t::r,K=>yE G S r λxs=>K (S.tm.getD t .undef::xs)
 | .cell a t::r,K=>cR (G.fP t) λti=>match S.tm.getD a .undef with
  | .ptr j off=>cR (S.m j) fun
   | .box _ cs=>bif Nat.ble (off+ti.size) cs.length then E7 ti ((jV off cs).take ti.size) λx=>yE G S r λxs=>K (x::xs)else none
   | _=>none
  | _=>none
def lK(G:eH)(ts:List TypeId)(rs:List ResultVar)(S:St)(K:AV->Option R):Option R:=
 yE G S rs λxs=>v_ G S.m [] ts xs λ_ ys=>match ys with
  | [y]=>K y
  | ys=>K (.dU ys)
def AX(S:St)(e:Nat × Nat × Fl × Nat):St:=
 match e with
 | (i,j,fl,sz)=>match S.m i with
  | .some (.box tb cs)=>match cs[j]? with
   | .some (.v (.slice none 0 0))=>⟨S.tm,(S.m.fJ (8*S.kN) (Option.some (.row fl sz []))).fJ i (Option.some (.box tb (cs.set j (.own (8*S.kN) 0 none)))),S.kN+1⟩
   | _=>S
  | _=>S
def iF:List SK->List AV->Option (List AV)
 | [],[]=>Option.some []
 | .slice _ _::_,_=>none
 | .any::ks,x::r=>match(match x with | .v .nilIface=>Option.some (AV.err false) | .v (.iface _ _)=>Option.some (AV.err true) | .err b=>Option.some (AV.err b) | _=>Option.none),iF ks r with | .some y,.some s=>Option.some (y::s) | _,_=>none
 | _::ks,.v x::r=>match iF ks r with | .some s=>Option.some (.v x::s) | _=>none
 | _,_=>none
def wX(ti:TI)(x:AV):Option AV:=
 match x with
 | .agg cs=>bif ti.isAgg then(iF ti.xU cs).map .agg else none
 | x=>match iF ti.xU [x]with | .some [y]=>Option.some y | _=>none
def l4(G:eH):List TypeId->List AV->Option (List AV)
 | [],[]=>Option.some []
 | t::ts,x::r=>match G.fP t with
  | .some ti=>match wX ti x,l4 G ts r with | .some y,.some s=>Option.some (y::s) | _,_=>none
  | .none=>none
 | _,_=>none
def outs(kb:Nat)(S:St):List AV:=
 let ord:=(List.range kb).foldl (λord i=>visit 6 S.m ord (.agg (match S.m i with | .some (.box _ cs)=>cs | _=>[]))) (List.range kb)
 ord.map λi=>ix (jr ord (S.m i))
def rv(G:eH)(gM:List (Nat × Nat × Fl × Nat))(ts:List TypeId)(rs:List ResultVar)(S:St)(K:AV->Option R):Option R:=
 yE G S rs λxs=>cR (l4 G ts xs) λys=>
  bif there G.kb (gM.foldl AX S).m then K (.dU [(match ys with | [y]=>y | ys=>.dU ys),.dU (outs G.kb (gM.foldl AX S))])else none
def kX(G:eH)(C:FuncId->List AV->(AV->Option R)->Option R)(ops:Array Oper)(draw:Bool)(S:St)(K:St->Option R):Option R:=
 bif draw then
  (bif tX ops then qm (VU G ops S.tm) λtb=>qm (WK G ops S.tm) λpc=>qm (WL G ops S.tm S.m pc) λT=>
   pS G C (xA ops pc) (sP G ops (QX S.kN tb) pc T S.kN) ops.toList S.kN (List.range ops.size) S.tm S.m λtm m=>K ⟨tm,m,S.kN+ops.size⟩else none)
 else pS G C (λ_=>false) (λ_ _ _=>true) ops.toList S.kN (List.range ops.size) S.tm S.m λtm m=>K ⟨tm,m,S.kN+ops.size⟩
def refine(c:Operand)(b:Bool)(tm:List AV):List AV:=
 match c with
 | .tmp t=>tm.set t (vb b)
 | _=>tm
def qZ(G:eH)(C:FuncId->List AV->(AV->Option R)->Option R)(cut:Nat->Option kK)(fin:St->Option R)(rec:List Item->St->Option R) :
  Nat->List Item->St->Option R
 | 0,_,_=>none
 | n+1,todo,S=>
  match todo with
  | []=>fin S
  | .inBlock _::k=>qZ G C cut fin rec n k S
  | .inLoop body::k=>qZ G C cut fin rec n (.code body::.inLoop body::k) S
  | .code c::k=>
   match c with
   | .skip=>qZ G C cut fin rec n k S
   | .label _=>qZ G C cut fin rec n k S
   | .seq a b=>qZ G C cut fin rec n (.code a::.code b::k) S
   | .cond c t e=>fA (ev G S.tm c) λp=>
    bif p then qZ G C cut fin rec n (.code t::k) { S with tm:=refine c true S.tm }else qZ G C cut fin rec n (.code e::k) { S with tm:=refine c false S.tm }
   | .block id body=>qZ G C cut fin rec n (.code body::.inBlock id::k) S
   | .loop body=>qZ G C cut fin rec n (.code body::.inLoop body::k) S
   | .exit id=>cR (exitTo id k) λk'=>qZ G C cut fin rec n k' S
   | .ret=>fin S
   | .region id ops draw=>
    match cut id with
    | .some keep=>bif there G.kb (keep.gM.foldl wU S).m then rec (.code (.region id ops draw)::k) (clean G.kb keep S)else none
    | .none=>kX G C ops draw S λS'=>qZ G C cut fin rec n k S'
   | _=>none
  | _=>none
def splitK(S:St)(t c n:Nat)(K:St->Option R):Option R:=
 match S.tm.getD t .undef with
 | .ptr id o=>match S.m id with
  | .some (.box tb cs)=>match cs[o+c]? with
   | .some (.v (.int k x))=>mz x n λq=>K ⟨S.tm,S.m.fJ id (Option.some (.box tb (cs.set (o+c) (.v (.int k (q:Int)))))),S.kN⟩
   | _=>none
  | _=>none
 | _=>none
def splits:List (Nat × Option Nat × Fl × Nat)->St->(St->Option R)->Option R
 | [],S,K=>K S
 | (t,.some j,_,n)::r,S,K=>bif Nat.ble 2000000 j then splitK S t (j - 2000000) n λS=>splits r S K else splits r S K
 | (_,.none,_,_)::r,S,K=>splits r S K
def B1(G:eH)(C:FuncId->List AV->(AV->Option R)->Option R)(cut:Nat->Option kK)(fin:St->Option R)(rec:List Item->St->Option R)
  (todo:List Item) (S:St):Option R:=
 match todo with
 | .code (.region id ops draw)::k=>splits (match cut id with | .some kp=>kp.gM | .none=>[]) S λS=>kX G C ops draw S λS'=>qZ G C cut fin rec 1000 k S'
 | _=>none
def runK(G:eH)(C:FuncId->List AV->(AV->Option R)->Option R)(cut:Nat->Option kK)(fin:St->Option R):Nat->List Item->St->Option R
 | 0,_,_=>none
 | n+1,todo,S=>B1 G C cut fin (runK G C cut fin n) todo S
def jP(r:Nat):Nat->List Item->Option (List Item)
 | 0,_=>none
 | n+1,todo=>
  match todo with
  | []=>none
  | .inBlock _::k=>jP r n k
  | .inLoop _::k=>jP r n k
  | .code c::k=>
   match c with
   | .skip=>jP r n k
   | .label _=>jP r n k
   | .seq a b=>jP r n (.code a::.code b::k)
   | .cond _ t e=>match jP r n (.code t::k)with | .some x=>.some x | .none=>jP r n (.code e::k)
   | .block id body=>jP r n (.code body::.inBlock id::k)
   | .loop body=>jP r n (.code body::.inLoop body::k)
   | .region id ops draw=>bif Nat.beq id r then .some (.code (.region id ops draw)::k)else jP r n k
   | .exit id=>match exitTo id k with | .some k'=>jP r n k' | .none=>none
   | _=>none
  | _=>none
def start(fn:Func)(args:List AV):St:=⟨args++List.replicate (fn.ntmps - args.length) .undef,λ_=>none,0⟩
def ku(fn:Func)(args bs:List AV):St:=⟨args++List.replicate (fn.ntmps - args.length) .undef,Mem.gg bs,bs.length⟩
def Ef(G:eH)(C:FuncId->List AV->(AV->Option R)->Option R)(cut:Nat->Option kK)(fn:Func)(n:Nat)(args:List AV)(K:AV->Option R):Option R:=
 match fn.body with
 | .some c=>qZ G C cut (λS=>lK G fn.resultTypes.toList fn.results.toList S K) (runK G C cut (λS=>lK G fn.resultTypes.toList fn.results.toList S K) n) 1000 [.code c] (start fn args)
 | .none=>none
def Ed(G:eH)(C:FuncId->List AV->(AV->Option R)->Option R)(cut:Nat->Option kK)(gM:List (Nat × Nat × Fl × Nat))(fn:Func)(n:Nat)(args bs:List AV)(K:AV->Option R):Option R:=
 match fn.body with
 | .some c=>qZ G C cut (λS=>rv G gM fn.resultTypes.toList fn.results.toList S K) (runK G C cut (λS=>rv G gM fn.resultTypes.toList fn.results.toList S K) n) 1000 [.code c] (ku fn args bs)
 | .none=>none
end
end Go.Proofs.Ev
namespace Go.Proofs.Ev
open Go Go.RowKit
def df(xs:List AV):List AV:=xs.flatMap AV.cells
abbrev uB(fl:Fl)(x:AV):Prop:=x.nD=true/\(fl.b=true->x.MU=true)
def IB(f:FuncId)(vs:Array Value):Value:=bif Nat.blt f uF then .func (.func f) #[] vs else .func (.func (f - uF)) vs #[]
theorem C7(f:FuncId)(vs:Array Value):one (IB f vs)=true:=by unfold IB;cases Nat.blt f uF<;>rfl
inductive Rel(w:World)(F:Nat->Prop):AV->Value->Prop
 | v (x:Value) (h:one x=true):Rel w F (.v x) x
 | undef (x:Value):Rel w F .undef x
 | oB:Rel w F (.err false) .nilIface
 | nR (t:TypeId) (x:Value):Rel w F (.err true) (.iface t x)
 | uL (fl:Fl) (sz:Nat):Rel w F (.sl fl sz []) (.slice none 0 0)
 | sl (fl:Fl) (sz:Nat) (xs:List AV) (ad:Addr) (cap:Nat) (u:Nat->Value) (hF:xs≠[]->F ad.block) (jg:xs.length<=cap)
  (hs:∀x∈xs,x.cells.length=sz) (hf:∀x∈df xs,uB fl x)
  (hc:∀j,j<(df xs).length->w.cell? (ad.add j)=some (u j))
  (hr:∀j c,(df xs)[j]?=some c->Rel w F c (u j)) (M0:fl.st=true->xs≠[]->ad.spot=none):Rel w F (.sl fl sz xs) (.slice (some ad) xs.length cap)
 | rd (cs:List AV) (ad:Addr) (u:Nat->Value) (hF:F ad.block)
  (hc:∀j,j<cs.length->w.cell? (ad.add j)=some (u j))
  (hr:∀j c,cs[j]?=some c->Rel w F c (u j)):Rel w F (.rd cs) (.pointer (some ad))
 | agg (cs:List AV) (vs:Array Value) (hl:vs.size=cs.length) (hr:∀j c,cs[j]?=some c->Rel w F c (vs.getD j undef)):Rel w F (.agg cs) (.agg vs)
 | fn (f:FuncId) (cs:List AV) (vs:Array Value) (v:Value) (hv:v=IB f vs) (hl:vs.size=cs.length) (hr:∀j c,cs[j]?=some c->Rel w F c (vs.getD j undef)) :
  Rel w F (.fn f cs) v
theorem nY{w w' : World}{a:Addr}(h:w'.heap[a.block]?=w.heap[a.block]?):w'.cell? a=w.cell? a:=by
 unfold World.cell?;rw[h]
theorem iS(a:Addr)(n:Nat):(a.add n).block=a.block:=by unfold Addr.add;split<;>rfl
theorem Rel.mono{w w' : World}{F F' : Nat->Prop}{x:AV}{v:Value}(h:Rel w F x v)(hF:∀b,F b->F' b)(hw:∀b,F b->w'.heap[b]?=w.heap[b]?):Rel w' F' x v:=by
 induction h with
 | v x h=>exact .v x h
 | undef x=>exact .undef x
 | oB=>exact .oB
 | nR t x=>exact .nR t x
 | uL fl sz=>exact .uL fl sz
 | sl fl sz xs ad cap u h1 Mf hs hf hc _ M0 ih=>
  refine .sl fl sz xs ad cap u (λhx=>hF _ (h1 hx)) Mf hs hf (λj hj=>?_) ih M0;have hx:xs≠[]:=by rintro rfl;simp[df]at hj
  rw[nY (w:=w) (w':=w') (by rw[iS];exact hw _ (h1 hx))];exact hc j hj
 | rd cs ad u h1 hc _ ih=>
  refine .rd cs ad u (hF _ h1) (λj hj=>?_) ih;rw[nY (w:=w) (w':=w') (by rw[iS];exact hw _ h1)];exact hc j hj
 | agg cs vs hl _ ih=>exact .agg cs vs hl ih
 | fn f cs vs v hv hl _ ih=>exact .fn f cs vs v hv hl ih
abbrev Mu:=Nat->Option (Nat × Nat × Nat)
def ij(w:World)(F:Nat->Prop)(μ:Mu)(m:Mem)(U:Nat->Prop)(x:AV)(v:Value):Prop:=
 (x.nD=true->one v=true)/\
 match x with
 | .own id off l=>U id/\∀fl sz xs,m id=some (.row fl sz xs)->∃a cap,v=.slice a (lenOf xs.length off l) cap/\lenOf xs.length off l<=cap/\off+lenOf xs.length off l<=xs.length/\
  ((a=none/\cap=0)\/∃b o n ad,μ id=some (b,o,n)/\a=some ad/\ad.block=b/\(cap=0\/(ad=⟨b,o+off*sz,none⟩/\o+(off+cap)*sz<=n)))
 | .ptr id off=>U id/\∀tb cs,m id=some (.box tb cs)->∃b n,μ id=some (b,0,n)/\v=.pointer (some ⟨b,off,none⟩)
 | .qt id i off=>U id/\∀fl sz xs,m id=some (.row fl sz xs)->i<xs.length/\∃b o n,μ id=some (b,o,n)/\v=.pointer (some ⟨b,o+i*sz+off,none⟩)
 | .bs id=>U id/\∀tb cs,m id=some (.box tb cs)->∃b n,μ id=some (b,0,n)/\v=.slice (some ⟨b,0,none⟩) cs.length cs.length
 | .fr _ _ _=>False
 | x=>Rel w F x v
def eS(w:World)(F:Nat->Prop)(μ:Mu)(m:Mem)(U:Nat->Prop)(x:AV)(v:Value):Prop:=
 match x with
 | .fn f cs=>∃vs:Array Value,v=IB f vs/\vs.size=cs.length/\∀j c,cs[j]?=some c->ij w F μ m U c (vs.getD j undef)
 | x=>ij w F μ m U x v
def kJ(w:World)(F:Nat->Prop)(μ:Mu)(m:Mem)(U:Nat->Prop)(x:AV)(v:Value):Prop:=
 match x with
 | .agg cs=>∃vs:Array Value,v=.agg vs/\vs.size=cs.length/\∀j c,cs[j]?=some c->eS w F μ m U c (vs.getD j undef)
 | x=>eS w F μ m U x v
def eB(w:World)(F:Nat->Prop)(μ:Mu)(m:Mem)(U:Nat->Prop)(x:AV)(v:Value):Prop:=
 match x with
 | .dU cs=>∃vs:Array Value,v=.tuple vs/\vs.size=cs.length/\∀j c,cs[j]?=some c->kJ w F μ m U c (vs.getD j undef)
 | x=>kJ w F μ m U x v
def free(f:Nat × Nat)(n:Nat):Prop:=f.1=f.2\/n<=f.1
theorem free.at{f:Nat × Nat}{n:Nat}(h:free f n):∀j,j<n->¬ (f.1<=j/\j<f.2):=by
 intro j hj;rcases h with h|h<;>omega
theorem free.mark{f:Nat × Nat}{n:Nat}(h:free f n):free (if f.1==f.2 then(n,n+1)else(min f.1 n,max f.2 (n+1))) n:=by
 by_cases e:f.1=f.2
 ·rw[if_pos (by simpa using e)];exact .inr (aJ _)
 ·rw[if_neg (by simpa using e)];exact .inr (by rcases h with h|h;exact absurd h e;show n<=min f.1 n;omega)
def Holds(w:World)(F:Nat->Prop)(μ:Mu)(m:Mem)(U:Nat->Prop)(id:Nat):oK->Prop
 | .box tb cs=>∃b C f,μ id=some (b,0,C.size)/\w.heap[b]?=some (.cells C tb f)/\cs.length=C.size/\free f C.size/\∀j c,cs[j]?=some c->eS w F μ m U c (C.getD j undef)
 | .row fl sz xs=>(∀x∈xs,x.cells.length=sz)/\(∀x∈df xs,uB fl x)/\
  ((xs=[]/\μ id=none)\/∃b o C f,μ id=some (b,o,C.size)/\w.heap[b]?=some (.cells C fl.te f)/\o+xs.length*sz<=C.size/\free f C.size/\
   ∀j c,(df xs)[j]?=some c->Rel w F c (C.getD (o+j) undef))
structure eC where
 root:World
 w:World
 N:Nat->Prop
 lt:∀b,N b->b<w.heap.size
 F2:∀b,b<root.heap.size->N b
 sJ:Below root.heap.size root w
 bk:Nat->Nat
def eC.of(root w:World)(h:Below root.heap.size root w):eC:=⟨root,w,λb=>b<w.heap.size,λ_ h=>h,λ_ hb=>bA hb h.size,h,λ_=>0⟩
structure iT(B:eC)(w' : World):Prop where
 os:w'.os=B.w.os
 tape:w'.tape=B.w.tape
 output:w'.output=B.w.output
 size:B.w.heap.size<=w'.heap.size
 block:∀k,B.N k->w'.heap[k]?=B.w.heap[k]?
theorem iT.trans{B:eC}{w w' : World}(h:iT B w)(k:Below w.heap.size w w'):iT B w':=
 ⟨k.os.trans h.os,k.tape.trans h.tape,k.output.trans h.output,cf h.size k.size,λi hi=>(k.block i (bA (B.lt i hi) h.size)).trans (h.block i hi)⟩
theorem iT.refl(B:eC):iT B B.w:=⟨rfl,rfl,rfl,aJ _,λ_ _=>rfl⟩
theorem iT.below{r w w' : World}{hr:Below r.heap.size r w}(h:iT (eC.of r w hr) w'):Below w.heap.size w w':=⟨h.os,h.tape,h.output,h.size,h.block⟩
theorem iT.root{B:eC}{w:World}(h:iT B w):Below B.root.heap.size B.root w:=
 ⟨h.os.trans B.sJ.os,h.tape.trans B.sJ.tape,h.output.trans B.sJ.output,cf B.sJ.size h.size,λb hb=>(h.block b (B.F2 b hb)).trans (B.sJ.block b hb)⟩
theorem eC.new(B:eC){w:World}(h:iT B w){b:Nat}(hb:w.heap.size<=b):¬ B.N b:=λhN=>by have:=B.lt b hN;have:=h.size;omega
structure de(W0:eC)(F0 U:Nat->Prop)(m:Mem)(L:AV->Value->Prop)(w:World)(μ:Mu)(F:Nat->Prop):Prop where
 below:iT W0 w
 dC:∀b,F b->b<w.heap.size/\(F0 b\/¬ W0.N b)
 sub:∀b,F0 b->F b
 gl:∀b,b<W0.root.heap.size->F b
 used:∀id x,m id=some x->U id
 j7:∀id x,m id=some x->Holds w F μ m U id x
 own:∀id x b o n,m id=some x->μ id=some (b,o,n)->¬ W0.N b/\b<w.heap.size/\¬ F b
 inj:∀id rp x x' b o n o' n',m id=some x->m rp=some x'->μ id=some (b,o,n)->μ rp=some (b,o',n')->id=rp
 dB:∀x v,L x v->eB w F μ m U x v
def Inv(W0:eC)(F0 U:Nat->Prop)(m:Mem)(L:AV->Value->Prop)(w:World):Prop:=∃μ F,de W0 F0 U m L w μ F
theorem Inv.weaken{W0:eC}{F0 U:Nat->Prop}{m:Mem}{L L' : AV->Value->Prop}{w:World}(h:Inv W0 F0 U m L w)(hL:∀x v,L' x v->L x v):Inv W0 F0 U m L' w:=by
 obtain⟨μ,F,h⟩:=h;exact⟨μ,F,{ h with dB:=λx v hx=>h.dB x v (hL x v hx) }⟩
def ec:Option oK->Option oK->Prop
 | _,none=>True
 | some (.box _ cs),some (.box _ jh)=>jh.length=cs.length
 | some (.row _ sz xs),some (.row _ im mO)=>im=sz/\mO.length=xs.length
 | _,_=>False
theorem ij.mono{w w' : World}{F F' : Nat->Prop}{μ eM : Mu}{m m' : Mem}{U U' : Nat->Prop}{x:AV}{v:Value}(h:ij w F μ m U x v)
  (hF:∀b,F b->F' b) (hw:∀b,F b->w'.heap[b]?=w.heap[b]?) (hU:∀i,U i->U' i)
  (hm:∀i,U i->ec (m i) (m' i)/\(m' i≠none->eM i=μ i)):ij w' F' eM m' U' x v:=by
 obtain⟨YU,h⟩:=h;refine⟨YU,?_⟩;cases x with
 | own id off l=>
  obtain⟨hu,h⟩:=h;refine⟨hU _ hu,λfl sz xs hx=>?_⟩;obtain⟨hs,eN⟩:=hm id hu;rw[eN (by simp[hx])];rw[hx]at hs;cases qg:m id with
  | none=>rw[qg]at hs;exact hs.elim
  | some y=>
   cases y with
   | box tb cs=>rw[qg]at hs;exact hs.elim
   | row gk im mO=>
    rw[qg]at hs;obtain⟨h1,h2⟩:=hs;have:=h gk im mO qg;rw[h1,h2];exact this
 | ptr id off=>
  obtain⟨hu,h⟩:=h;refine⟨hU _ hu,λtb cs hx=>?_⟩;obtain⟨hs,eN⟩:=hm id hu;rw[eN (by simp[hx])];rw[hx]at hs;cases qg:m id with
  | none=>rw[qg]at hs;exact hs.elim
  | some y=>
   cases y with
   | box uJ jh=>exact h uJ jh qg
   | row gk im mO=>rw[qg]at hs;exact hs.elim
 | qt id i off=>
  obtain⟨hu,h⟩:=h;refine⟨hU _ hu,λfl sz xs hx=>?_⟩;obtain⟨hs,eN⟩:=hm id hu;rw[eN (by simp[hx])];rw[hx]at hs;cases qg:m id with
  | none=>rw[qg]at hs;exact hs.elim
  | some y=>
   cases y with
   | box tb cs=>rw[qg]at hs;exact hs.elim
   | row gk im mO=>
    rw[qg]at hs;obtain⟨h1,h2⟩:=hs;have:=h gk im mO qg;rw[h1,h2];exact this
 | bs id=>
  obtain⟨hu,h⟩:=h;refine⟨hU _ hu,λtb cs hx=>?_⟩;obtain⟨hs,eN⟩:=hm id hu;rw[eN (by simp[hx])];rw[hx]at hs;cases qg:m id with
  | none=>rw[qg]at hs;exact hs.elim
  | some y=>
   cases y with
   | box uJ jh=>
    rw[qg]at hs;have hs:cs.length=jh.length:=hs;rw[hs];exact h uJ jh qg
   | row gk im mO=>rw[qg]at hs;exact hs.elim
 | fr _ _ _=>exact h.elim
 | v _=>exact Rel.mono h hF hw
 | sl _ _ _=>exact Rel.mono h hF hw
 | rd _=>exact Rel.mono h hF hw
 | agg _=>exact Rel.mono h hF hw
 | dU _=>exact Rel.mono h hF hw
 | fn _ _=>exact Rel.mono h hF hw
 | err _=>exact Rel.mono h hF hw
 | undef=>exact Rel.mono h hF hw
theorem eS.mono{w w' : World}{F F' : Nat->Prop}{μ eM : Mu}{m m' : Mem}{U U' : Nat->Prop}{x:AV}{v:Value}(h:eS w F μ m U x v)
  (hF:∀b,F b->F' b) (hw:∀b,F b->w'.heap[b]?=w.heap[b]?) (hU:∀i,U i->U' i)
  (hm:∀i,U i->ec (m i) (m' i)/\(m' i≠none->eM i=μ i)):eS w' F' eM m' U' x v:=by
 cases x
 case fn f cs=>obtain⟨vs,e,hl,h⟩:=h;exact⟨vs,e,hl,λj c hc=>(h j c hc).mono hF hw hU hm⟩
 all_goals (simp only[eS]at h ⊢;exact ij.mono h hF hw hU hm)
theorem kJ.mono{w w' : World}{F F' : Nat->Prop}{μ eM : Mu}{m m' : Mem}{U U' : Nat->Prop}{x:AV}{v:Value}(h:kJ w F μ m U x v)
  (hF:∀b,F b->F' b) (hw:∀b,F b->w'.heap[b]?=w.heap[b]?) (hU:∀i,U i->U' i)
  (hm:∀i,U i->ec (m i) (m' i)/\(m' i≠none->eM i=μ i)):kJ w' F' eM m' U' x v:=by
 cases x
 case agg cs=>obtain⟨vs,e,hl,h⟩:=h;exact⟨vs,e,hl,λj c hc=>(h j c hc).mono hF hw hU hm⟩
 all_goals (simp only[kJ]at h ⊢;exact eS.mono h hF hw hU hm)
theorem eB.mono{w w' : World}{F F' : Nat->Prop}{μ eM : Mu}{m m' : Mem}{U U' : Nat->Prop}{x:AV}{v:Value}(h:eB w F μ m U x v)
  (hF:∀b,F b->F' b) (hw:∀b,F b->w'.heap[b]?=w.heap[b]?) (hU:∀i,U i->U' i)
  (hm:∀i,U i->ec (m i) (m' i)/\(m' i≠none->eM i=μ i)):eB w' F' eM m' U' x v:=by
 cases x
 case dU cs=>obtain⟨vs,e,hl,h⟩:=h;exact⟨vs,e,hl,λj c hc=>(h j c hc).mono hF hw hU hm⟩
 all_goals (simp only[eB]at h ⊢;exact kJ.mono h hF hw hU hm)
theorem ec.refl(x:Option oK):ec x x:=by
 cases x with
 | none=>trivial
 | some y=>cases y<;>simp[ec]
theorem Holds.mono{w w' : World}{F F' : Nat->Prop}{μ eM : Mu}{m m' : Mem}{U U' : Nat->Prop}{id:Nat}{x:oK}(h:Holds w F μ m U id x)
  (hF:∀b,F b->F' b) (hw:∀b,F b->w'.heap[b]?=w.heap[b]?) (hU:∀i,U i->U' i)
  (hm:∀i,U i->ec (m i) (m' i)/\(m' i≠none->eM i=μ i)) (eN:eM id=μ id) (hb:∀b o n,μ id=some (b,o,n)->w'.heap[b]?=w.heap[b]?):Holds w' F' eM m' U' id x:=by
 cases x with
 | box tb cs=>
  obtain⟨b,C,f,h1,h2,h3,h4,h5⟩:=h;exact⟨b,C,f,by rw[eN];exact h1,by rw[hb _ _ _ h1];exact h2,h3,h4,λj c hc=>(h5 j c hc).mono hF hw hU hm⟩
 | row fl sz xs=>
  obtain⟨h1,h2,h3⟩:=h;refine⟨h1,h2,?_⟩;rcases h3 with⟨h3,h4⟩|⟨b,o,C,f,h3,h4,h5,h6,h7⟩
  ·exact .inl ⟨h3,by rw[eN];exact h4⟩
  ·exact .inr ⟨b,o,C,f,by rw[eN];exact h3,by rw[hb _ _ _ h3];exact h4,h5,h6,λj c hc=>(h7 j c hc).mono hF hw⟩
theorem de.world{W0:eC}{F0 U:Nat->Prop}{m:Mem}{L:AV->Value->Prop}{w w' : World}{μ:Mu}{F:Nat->Prop}(h:de W0 F0 U m L w μ F)
  (hB:Below w.heap.size w w'):de W0 F0 U m L w' μ F:=by
 have hs:=h.below.size;have hw:∀b,F b->w'.heap[b]?=w.heap[b]?:=λb hb=>hB.block b (h.dC b hb).1;exact{
  below:=h.below.trans hB
  dC:=λb hb=>⟨bA (h.dC b hb).1 hB.size,(h.dC b hb).2⟩
  sub:=h.sub
  gl:=h.gl
  used:=h.used
  j7:=λid x hx=>(h.j7 id x hx).mono (λ_ hb=>hb) hw (λ_ hi=>hi) (λi _=>⟨.refl _,λ_=>rfl⟩) rfl
   (λb o n hb=>hB.block b (h.own id x b o n hx hb).2.1)
  own:=λid x b o n hx hb=>⟨(h.own id x b o n hx hb).1,bA (h.own id x b o n hx hb).2.1 hB.size,(h.own id x b o n hx hb).2.2⟩
  inj:=h.inj
  dB:=λx v hx=>(h.dB x v hx).mono (λ_ hb=>hb) hw (λ_ hi=>hi) (λi _=>⟨.refl _,λ_=>rfl⟩) }
theorem Mem.dx(m:Mem)(i:Nat)(x:Option oK):m.fJ i x i=x:=by simp[Mem.fJ]
theorem Mem.dk(m:Mem){i j:Nat}(x:Option oK)(h:j≠i):m.fJ i x j=m j:=by
 have:Nat.beq j i=false:=by rw[<-bm];exact λe=>h (aj e)
 simp[Mem.fJ,this]
theorem DA{w:World}{F:Nat->Prop}{μ:Mu}{m:Mem}{U:Nat->Prop}{x:AV}{v:Value}(h:eB w F μ m U x v)(hx:x.nD=true):eS w F μ m U x v:=by
 cases x<;>first|(simp[AV.nD]at hx;done)|exact h
theorem DB{w:World}{F:Nat->Prop}{μ:Mu}{m:Mem}{U:Nat->Prop}{x:AV}{v:Value}(h:eB w F μ m U x v)(hx:x.okB=true):ij w F μ m U x v:=by
 cases x<;>first|(simp[AV.okB,AV.nD]at hx;done)|exact h
theorem Rel.lg{w:World}{F:Nat->Prop}{x:AV}{v:Value}(h:Rel w F x v)(hx:x.nD=true):one v=true:=by
 cases h<;>first|rfl|assumption|(simp[AV.nD]at hx;done)|(subst_vars;exact C7 _ _)
theorem eS.lg{w:World}{F:Nat->Prop}{μ:Mu}{m:Mem}{U:Nat->Prop}{x:AV}{v:Value}(h:eS w F μ m U x v)(hx:x.nD=true):one v=true:=by
 cases x
 case fn f cs=>obtain⟨vs,e,_⟩:=h;rw[e];exact C7 f vs
 all_goals exact h.1 hx
theorem iP{w:World}{F:Nat->Prop}{μ:Mu}{m:Mem}{U:Nat->Prop}{x:AV}{v:Value}(h:Rel w F x v):ij w F μ m U x v:=by
 refine⟨λho=>h.lg ho,?_⟩;cases x<;>first|exact h|(cases h;done)
theorem eE{w:World}{F:Nat->Prop}{μ:Mu}{m:Mem}{U:Nat->Prop}{x:AV}{v:Value}(h:Rel w F x v):eS w F μ m U x v:=by
 cases x
 case fn f cs=>cases h with | fn f cs us v hv XO KW=>exact⟨us,hv,XO,λj c hc=>iP (KW j c hc)⟩
 all_goals (simp only[eS];exact iP h)
theorem dE{w:World}{F:Nat->Prop}{μ:Mu}{m:Mem}{U:Nat->Prop}{x:AV}{v:Value}(h:eS w F μ m U x v):kJ w F μ m U x v:=by
 cases x
 case agg cs=>
  obtain⟨_,h⟩:=h;cases h with|agg cs vs hl hr=>exact⟨vs,rfl,hl,λj c hc=>eE (hr j c hc)⟩
 all_goals exact h
theorem dI{w:World}{F:Nat->Prop}{μ:Mu}{m:Mem}{U:Nat->Prop}{x:AV}{v:Value}(h:kJ w F μ m U x v):eB w F μ m U x v:=by
 cases x
 case dU cs=>obtain⟨_,h⟩:=h;cases h
 all_goals exact h
theorem de.fresh{W0:eC}{F0 U:Nat->Prop}{m:Mem}{L L' : AV->Value->Prop}{w w' : World}{μ:Mu}{F:Nat->Prop}(h:de W0 F0 U m L w μ F)
  {id:Nat} (hid:¬ U id) {x:oK} {b o n:Nat} (hB:Below w.heap.size w w') (hb:w.heap.size<=b) (ia : b<w'.heap.size)
  (hx:Holds w' F (λi=>if i=id then some (b,o,n)else μ i) (m.fJ id (some x)) (λi=>U i\/i=id) id x)
  (hL:∀y v,L' y v->L y v\/eB w' F (λi=>if i=id then some (b,o,n)else μ i) (m.fJ id (some x)) (λi=>U i\/i=id) y v) :
  de W0 F0 (λi=>U i\/i=id) (m.fJ id (some x)) L' w' (λi=>if i=id then some (b,o,n)else μ i) F:=by
 have h':=h.world hB;have hs:=h.below.size;have qf:∀i,U i->ec (m i) (m.fJ id (some x) i)/\(m.fJ id (some x) i≠none->(λi=>if i=id then some (b,o,n)else μ i) i=μ i):=by
  intro i hi;have:i≠id:=λe=>hid (e ▸ hi);rw[Mem.dk _ _ this];exact⟨.refl _,λ_=>by simp[this]⟩
 refine{ below:=h'.below,dC:=h'.dC,sub:=h'.sub,gl:=h'.gl,used:=?_,j7:=?_,own:=?_,inj:=?_,dB:=?_ }
 ·intro i y hy;by_cases e:i=id
  ·exact .inr e
  ·rw[Mem.dk _ _ e]at hy;exact .inl (h.used i y hy)
 ·intro i y hy;by_cases e:i=id
  ·subst e;rw[Mem.dx]at hy;cases hy;exact hx
  ·rw[Mem.dk _ _ e]at hy;exact(h'.j7 i y hy).mono (λ_ hb=>hb) (λ_ _=>rfl) (λ_ hi=>.inl hi) qf (by simp[e]) (λ_ _ _ _=>rfl)
 ·intro i y b1 o1 n1 hy ow;by_cases e:i=id
  ·subst e;simp at ow;obtain⟨rfl,rfl,rfl⟩:=ow;exact⟨W0.new h.below hb,ia,λhF=>by have:=(h.dC _ hF).1;omega⟩
  ·rw[Mem.dk _ _ e]at hy;simp only[e,bI]at ow;exact h'.own i y b1 o1 n1 hy ow
 ·intro i i' y y' b1 o1 n1 o2 n2 hy nf ow vS;by_cases e:i=id
  ·by_cases e' : i'=id
   ·rw[e,e']
   ·exfalso;rw[Mem.dk _ _ e']at nf;simp only[e',bI]at vS;simp only[e,cb,aY,bF]at ow;have:=(h.own i' y' b1 o2 n2 nf vS).2.1;omega
  ·by_cases e' : i'=id
   ·exfalso;rw[Mem.dk _ _ e]at hy;simp only[e,bI]at ow;simp only[e',cb,aY,bF]at vS;have:=(h.own i y b1 o1 n1 hy ow).2.1;omega
   ·rw[Mem.dk _ _ e]at hy;rw[Mem.dk _ _ e']at nf;simp only[e,bI]at ow;simp only[e',bI]at vS;exact h.inj i i' y y' b1 o1 n1 o2 n2 hy nf ow vS
 ·intro y v hy;rcases hL y v hy with hy|hy
  ·exact(h'.dB y v hy).mono (λ_ hb=>hb) (λ_ _=>rfl) (λ_ hi=>.inl hi) qf
  ·exact hy
theorem de.drop{W0:eC}{F0 U:Nat->Prop}{m:Mem}{L:AV->Value->Prop}{w:World}{μ:Mu}{F:Nat->Prop}(h:de W0 F0 U m L w μ F)(id:Nat) :
    de W0 F0 U (m.fJ id none) L w μ F:=by
  have qf:∀i,U i->ec (m i) (m.fJ id none i)/\(m.fJ id none i≠none->μ i=μ i):=by
    intro i _
    refine⟨?_,λ_=>rfl⟩
    by_cases e:i=id
    · subst e;rw[Mem.dx];cases m i with | none=>trivial | some y=>cases y<;>trivial
    · rw[Mem.dk _ _ e];exact .refl _
  have qW:∀i y,m.fJ id none i=some y->m i=some y:=by
    intro i y hy
    by_cases e:i=id
    · subst e;rw[Mem.dx]at hy;cases hy
    · rwa[Mem.dk _ _ e]at hy
  exact{ below:=h.below,dC:=h.dC,sub:=h.sub,gl:=h.gl,used:=λi y hy=>h.used i y (qW i y hy),
          j7:=λi y hy=>(h.j7 i y (qW i y hy)).mono (λ_ hb=>hb) (λ_ _=>rfl) (λ_ hi=>hi) qf rfl (λ_ _ _ _=>rfl),
          own:=λi y b o n hy hb=>h.own i y b o n (qW i y hy) hb,
          inj:=λi i' y y' b o n o' n' hy nf hb ia=>h.inj i i' y y' b o n o' n' (qW i y hy) (qW i' y' nf) hb ia,
          dB:=λx v hx=>(h.dB x v hx).mono (λ_ hb=>hb) (λ_ _=>rfl) (λ_ hi=>hi) qf }
def e8:TK->TypeDesc->Bool
 | .slice e,.slice e'=>Nat.beq e e'
 | .struct fs,.struct fields=>fields.toList.map (λf=>(f.type,f.offset))==fs
 | .arr n e,.array n' e'=>Nat.beq n n'&&Nat.beq e e'
 | .ptr e,.pointer e'=>Nat.beq e e'
 | .int k,.int k'=>decide (k=k')
 | .string,.string=>true
 | .bool,.bool=>true
 | .other,.func _ _ _=>true
 | .iface,.interface _=>true
 | _,_=>false
structure nr(P:Program)(t:TypeId)(ti:TI):Prop where
 info:∃i,P.info? t=some i/\i.size=ti.size/\i.bytes=ti.bytes/\∃z,i.zero=some z/\z.cells.toList=ti.zero/\(ti.isAgg=true->z=.agg z.cells)
 rF:∃d,P.underlying t=some d/\e8 ti.kd d=true
 agg:ti.isAgg=ti.kd.agg
 w7:ti.zero.all one=true
 Kp:ti.zero.length=ti.size
 NB:ti.xU.length=ti.size
 Lr:ti.isAgg=false->ti.size=1
 tid:ti.tid=t
 str : ∀ fields, P.underlying t = some (.struct fields) → (∀ f ∈ fields.toList, (f.name == "_") = false) ∧ P.stoodInHeld t = false
section runs
variable {P:Program} {t:TypeId} {ti:TI} (h:nr P t ti) (w:World)
include h
theorem nr.Ck:∃d,P.underlying t=some d/\(underlying t).run P w=.ok d w/\e8 ti.kd d=true:=by
 obtain⟨d,hd,hk⟩:=h.rF;exact⟨d,hd,by simp[underlying,hd],hk⟩
theorem nr.iq:∃i,P.info? t=some i/\(typeInfo t).run P w=.ok i w/\i.size=ti.size/\i.bytes=ti.bytes/\∃z,i.zero=some z/\z.cells.toList=ti.zero/\(ti.isAgg=true->z=.agg z.cells):=by
 obtain⟨i,hi,h1,h2,h3⟩:=h.info;exact⟨i,hi,by simp[typeInfo,hi],h1,h2,h3⟩
theorem nr.iY:(sizeOf t).run P w=.ok ti.size w:=by
 obtain⟨i,hi,h0,h1,h2,h3⟩:=h.iq w;simp[sizeOf,h0,h1]
theorem nr.FZ:∃z,(zeroValue t).run P w=.ok z w/\z.cells.toList=ti.zero/\(ti.isAgg=true->z=.agg z.cells):=by
 obtain⟨i,hi,h0,h1,h2,z,hz,hc⟩:=h.iq w;exact⟨z,by simp[zeroValue,h0,hz],hc⟩
theorem nr.nz:(isAgg t).run P w=.ok ti.isAgg w:=by
 obtain⟨d,hd,hr,hk⟩:=h.Ck w;rw[h.agg];cases fv:ti.kd<;>cases d<;>simp_all [e8,TK.agg,isAgg]
end runs
def Env(G:eH)(S:List AV)(a:Act)(L:AV->Value->Prop):Prop:=
 (∀t,L (S.getD t .undef) (a.tmps.getD t undef))/\∀g cs,G.Eb g=some cs->L (.rd cs) (.pointer (some ⟨g,0,none⟩))
theorem Env.rel{G:eH}{S:List AV}{a:Act}{L:AV->Value->Prop}{W0:eC}{w:World}{F0 U F:Nat->Prop}{m:Mem}{μ:Mu}(hE:Env G S a L)(h:de W0 F0 U m L w μ F)(x:Operand) :
  eB w F μ m U (ev G S x) (a.eval x):=by
 cases x with
 | tmp t=>exact h.dB _ _ (hE.1 t)
 | const v=>
  simp only[ev,Act.eval];cases hv:one v with
  | true=>simp only[ak];exact⟨λ_=>hv,.v v hv⟩
  | false=>simp only[cond_false];exact⟨λh=>by simp[AV.nD]at h,.undef v⟩
 | global g=>
  simp only[ev,Act.eval];cases hg:G.Eb g with
  | none=>exact⟨λh=>by simp[AV.nD]at h,.undef _⟩
  | some cs=>exact h.dB _ _ (hE.2 g cs hg)
 | func f=>
  simp only[ev,Act.eval];cases hf:Nat.blt f uF with
  | true=>exact⟨#[],by simp[IB,hf],rfl,λj c hc=>by simp at hc⟩
  | false=>exact⟨λh=>by simp[AV.nD]at h,.undef _⟩
def U8(U:Nat->Prop)(id:Nat):Nat->Prop:=λi=>U i\/(id<=i/\i<id+8)
theorem de.wider{W0:eC}{F0 U U' : Nat->Prop}{m:Mem}{L:AV->Value->Prop}{w:World}{μ:Mu}{F:Nat->Prop}(h:de W0 F0 U m L w μ F)(hU:∀i,U i->U' i) :
  de W0 F0 U' m L w μ F where
 below:=h.below
 dC:=h.dC
 sub:=h.sub
 gl:=h.gl
 used:=λi x hx=>hU i (h.used i x hx)
 j7:=λi x hx=>(h.j7 i x hx).mono (λ_ hb=>hb) (λ_ _=>rfl) hU (λi _=>⟨.refl _,λ_=>rfl⟩) rfl (λ_ _ _ _=>rfl)
 own:=h.own
 inj:=h.inj
 dB:=λx v hx=>(h.dB x v hx).mono (λ_ hb=>hb) (λ_ _=>rfl) hU (λi _=>⟨.refl _,λ_=>rfl⟩)
def j0{R:Type}(P:Program)(o:Oper)(a:Act)(w:World)(W0:eC)(F0 U:Nat->Prop)(id:Nat)(L:AV->Value->Prop)(K:AV->Mem->Option R)(r:R):Prop:=
 ∃x m' v w',((execOp a.eval o).run P w=.ok (.value v) w'\/((execOp a.eval o).run P w=.ok .skip w'/\v=undef))/\K x m'=some r/\
  Inv W0 F0 (U8 U id) m' (λy u=>L y u\/(y=x/\u=v)) w'
section
variable {R:Type} {P:Program} {G:eH} {o:Oper} {a:Act} {w:World} {W0:eC} {F0 U F:Nat->Prop} {id:Nat} {L:AV->Value->Prop} {K:AV->Mem->Option R} {r:R} {m:Mem} {μ:Mu} {S:List AV}
theorem j0.calc{x:AV}{v:Value}(h:de W0 F0 U m L w μ F)(hr:(execOp a.eval o).run P w=.ok (.value v) w)
  (hK:K x m=some r) (hx:eB w F μ m U x v):j0 P o a w W0 F0 U id L K r:=by
 refine⟨x,m,v,w,.inl hr,hK,μ,F,?_⟩;have h':=h.wider (U':=U8 U id) (λi hi=>.inl hi);have hp:∀y u,(L y u\/(y=x/\u=v))->eB w F μ m (U8 U id) y u:=by
  rintro y u (hy|⟨rfl,rfl⟩)
  ·exact h'.dB y u hy
  ·exact hx.mono (λ_ hb=>hb) (λ_ _=>rfl) (λi hi=>Or.inl hi) (λi _=>⟨.refl _,λ_=>rfl⟩)
 exact{ h' with dB:=hp }
theorem sf{x:AV}{K:Value->Option R}(h:mP x K=some r):∃y,x=.v y/\K y=some r:=by
 cases x<;>simp_all [mP]
theorem gr{k:IntKind}{x:AV}{K:Int->Option R}(h:cQ k x K=some r):∃n,x=.v (.int k n)/\K n=some r:=by
 cases x with
 | v y=>
  cases y with
  | int k' n=>
   simp only[cQ]at h;by_cases e:k'=k
   ·subst e;simp at h;exact⟨n,rfl,h⟩
   ·simp[e]at h
  | _=>simp[cQ]at h
 | _=>simp[cQ]at h
theorem fE{x:AV}{K:IntKind->Int->Option R}(h:fy x K=some r):∃k n,x=.v (.int k n)/\K k n=some r:=by
 cases x with
 | v y=>cases y<;>simp[fy]at h;exact⟨_,_,rfl,h⟩
 | _=>simp[fy]at h
theorem jy{x:AV}{K:Bool->Option R}(h:fA x K=some r):∃n,x=.v (.bool n)/\K n=some r:=by
 cases x with
 | v y=>cases y<;>simp_all [fA]
 | _=>simp[fA]at h
theorem gp{x:AV}{K:ByteArray->Option R}(h:dm x K=some r):∃n,x=.v (.string n)/\K n=some r:=by
 cases x with
 | v y=>cases y<;>simp_all [dm]
 | _=>simp[dm]at h
theorem cN{α:Type}{x:Option α}{K:α->Option R}(h:cR x K=some r):∃n,x=some n/\K n=some r:=by
 cases x<;>simp_all [cR]
theorem cV{c:Bool}{A:Option R}(h:(bif c then A else none)=some r):c=true/\A=some r:=by
 cases c<;>simp_all
theorem HQ{c:Bool}{A:Option R}(h:eW c A=some r):c=true/\A=some r:=cV h
theorem iW{n:Nat}{i:Int}{K:Nat->Option R}(h:kU n i K=some r):0<=i/\i<n/\K i.toNat=some r:=by
 obtain⟨h1,h2⟩:=cV h;simp at h1;exact⟨h1.1,h1.2,h2⟩
theorem dF{w:World}{F:Nat->Prop}{μ:Mu}{m:Mem}{U:Nat->Prop}{x v:Value}(h:eB w F μ m U (.v x) v):v=x/\one x=true:=by
 obtain⟨_,h⟩:=h;cases h with|v _ h=>exact⟨rfl,h⟩
theorem fM{w:World}{F:Nat->Prop}{μ:Mu}{m:Mem}{U:Nat->Prop}{x:Value}(h:one x=true):eB w F μ m U (.v x) x:=⟨λ_=>h,.v x h⟩
theorem zX{x:Operand}(ho:o.op=.move x\/o.op=.assign x)(h:de W0 F0 U m L w μ F)(hE:Env G S a L)(hK:K (ev G S x) m=some r) :
  j0 P o a w W0 F0 U id L K r:=by
 refine .calc h (v:=a.eval x) ?_ hK (hE.rel h x)
 rcases ho with ho|ho<;>simp[execOp,ho]
theorem HG{c x y:Operand}(ho:o.op=.pick c x y)(h:de W0 F0 U m L w μ F)(hE:Env G S a L)(hK:eU G o.op S m id K=some r):j0 P o a w W0 F0 U id L K r:=by
 rw[ho]at hK;simp only[eU]at hK;obtain⟨p,hp,hK⟩:=jy hK;have hc:=hE.rel h c;rw[hp]at hc;have Sy:=(dF hc).1;have hx:=hE.rel h x;have hy:=hE.rel h y;have hr:(execOp a.eval o).run P w=.ok (.value (if p then a.eval x else a.eval y)) w:=by simp[execOp,ho,Sy,asBool]
 have other:(bif p then K (ev G S x) m else K (ev G S y) m)=some r->j0 P o a w W0 F0 U id L K r:=by
  intro hK;cases p with
  | true=>exact .calc h hr hK hx
  | false=>exact .calc h hr hK hy
 split at hK
 ·rename_i b1 b2 h1 h2;refine .calc h hr hK ?_
  rw[h1]at hx;rw[h2]at hy;have e1:=(dF hx).1;have e2:=(dF hy).1;rw[e1,e2];cases p<;>exact fM rfl
 ·exact other hK
theorem HF{op:UnOp}{t:TypeId}{x:Operand}(ho:o.op=.unOp op t x)(h:de W0 F0 U m L w μ F)(hE:Env G S a L)(hK:eU G o.op S m id K=some r):j0 P o a w W0 F0 U id L K r:=by
 rw[ho]at hK;simp only[eU]at hK;have hx:=hE.rel h x;unfold Nw at hK;split at hK
 ·rename_i b hb;rw[hb]at hx;exact .calc h (v:=.bool (!b)) (by simp[execOp,ho,(dF hx).1,Op.unary]) hK (fM rfl)
 ·rename_i k n hb;rw[hb]at hx;exact .calc h (v:=.int k (k.wrap (0 - n))) (by simp[execOp,ho,(dF hx).1,Op.unary,Op.intArith]) hK (fM rfl)
 ·cases hK
theorem zY{x:Operand}{i:Nat}(ho:o.op=.extract x i)(h:de W0 F0 U m L w μ F)(hE:Env G S a L)(hK:eU G o.op S m id K=some r):j0 P o a w W0 F0 U id L K r:=by
 rw[ho]at hK;simp only[eU]at hK;have hx:=hE.rel h x;split at hK
 ·rename_i xs uS;obtain⟨y,hy,hK⟩:=cN hK;rw[uS]at hx;obtain⟨vs,hv,hl,hr⟩:=hx;have hi:i<vs.size:=by rw[hl];exact(aB.1 hy).1
  refine .calc h (v:=vs.getD i undef) ?_ hK ?_
  ·simp[execOp,ho,hv,Instr.extract,Array.getD,hi]
  ·exact dI (hr i y hy)
 ·cases hK
theorem xD{fn:Fn}{first fj:Array Operand}(ho:o.op=.makeFunc fn first fj)(h:de W0 F0 U m L w μ F)(hE:Env G S a L)(hK:eU G o.op S m id K=some r):j0 P o a w W0 F0 U id L K r:=by
 rw[ho]at hK;simp only[eU]at hK;split at hK
 ·rename_i f;have all:∀(f:FuncId) (fj:Array Operand),(fj.toList.map (ev G S)).all AV.okB=true->eB w F μ m U (.fn f (fj.toList.map (ev G S))) (IB f (fj.map a.eval)):=by
   intro f fj ic;refine⟨fj.map a.eval,rfl,by simp,λj c hc=>?_⟩;simp only[aL,cm,aA]at hc;obtain⟨y,hy,rfl⟩:=hc;have hj:j<fj.size:=(bj.1 hy).1;have gJ:(ev G S y).okB=true:=ay.1 ic _ (by simp only[bz];exact⟨y,by simpa using Array.mem_of_getElem? hy,rfl⟩);have e:(fj.map a.eval).getD j undef=a.eval y:=by simp[Array.getD,hj,(bj.1 hy).2]
   rw[e];exact DB (hE.rel h y) gJ
  cases h1:((first.isEmpty&&Nat.blt f uF)&&(fj.toList.map (ev G S)).all AV.okB)with
  | true=>
   rw[h1]at hK;rw[ae,ae]at h1;have X3:first=#[]:=by simpa using h1.1.1
   subst X3;exact .calc h (v:=.func (.func f) #[] (fj.map a.eval)) (by simp[execOp,ho,Instr.makeFunc]) hK (by have:=all f fj h1.2;rw[IB,h1.1.2]at this;exact this)
  | false=>
   rw[h1]at hK;obtain⟨h2,gV⟩:=cV hK;rw[ae]at h2;have Ya:fj=#[]:=by simpa using h2.1
   subst Ya;have hb:Nat.blt (f+uF) uF=false:=by rw[<-bm];simp[Nat.blt];omega
   exact .calc h (v:=.func (.func f) (first.map a.eval) #[]) (by simp[execOp,ho,Instr.makeFunc]) gV (by have:=all (f+uF) first h2.2;rw[IB,hb,cond_false,Nat.add_sub_cancel]at this;exact this)
 ·cases hK
end
structure dK(P:Program)(G:eH):Prop where
 ti:∀t ti,G.fP t=some ti->nr P t ti
 UZ:∀t ks,fm G 9 t=some ks->P.eqGuardType P.depth t=false
section
variable {R:Type} {P:Program} {G:eH} {o:Oper} {a:Act} {w:World} {W0:eC} {F0 U F:Nat->Prop} {id:Nat} {L:AV->Value->Prop} {K:AV->Mem->Option R} {r:R} {m:Mem} {μ:Mu} {S:List AV}
theorem xC{x:Operand}(ho:o.op=.nilCheck x)(h:de W0 F0 U m L w μ F)(hE:Env G S a L)(hK:eU G o.op S m id K=some r):j0 P o a w W0 F0 U id L K r:=by
 rw[ho]at hK;simp only[eU]at hK;have hx:=hE.rel h x;have go:(ev G S x).nD=true->K (ev G S x) m=some r->(∀p:Addr,a.eval x=.pointer (some p)->j0 P o a w W0 F0 U id L K r):=by
  intro _ hK p hp;exact .calc h (by simp[execOp,ho,hp]) (v:=.pointer (some p)) hK (by rw[<-hp];exact hx)
 split at hK
 ·rename_i j off he;obtain⟨bl,hj,hK⟩:=cN hK;rw[he]at hx;obtain⟨_,hu,hx⟩:=hx;cases bl with
  | box tb cs=>obtain⟨b,n,_,hv⟩:=hx tb cs hj;exact go (by rw[he];rfl) hK _ hv
  | row _ _ _=>cases hK
 ·rename_i j i off he;obtain⟨bl,hj,hK⟩:=cN hK;rw[he]at hx;obtain⟨_,hu,hx⟩:=hx;cases bl with
  | row fl sz xs=>obtain⟨_,b,o,n,_,hv⟩:=hx fl sz xs hj;exact go (by rw[he];rfl) hK _ hv
  | box _ _=>cases hK
 ·rename_i cs he;rw[he]at hx;obtain⟨_,hx⟩:=hx;generalize zD:a.eval x=av at hx;cases hx with|rd cs ad u _ _ _=>exact go (by rw[he];rfl) hK _ zD
 ·cases hK
theorem gf{op:BinOp}{t:TypeId}{x y:Operand}{a b:Value}(h1:∀cs,a≠.agg cs)(h2:a≠.nilIface\/b≠.nilIface):(eqGuard op t x y a b).run P w=.ok () w:=by
 unfold eqGuard;cases op
 case eql | neq=>
  simp only[aC,cw,bI];split
  ·rcases h2 with h2|h2<;>exact absurd rfl h2
  ·exact absurd rfl (h1 _)
  ·rfl
 all_goals rfl
theorem run_equalIn_bool{d:Nat}{t:TypeId}{a b:Bool}(hu:P.underlying t=some .bool):(Op.equalIn (d+1) t (.bool a) (.bool b)).run P w=.ok (a==b) w:=by
 simp[Op.equalIn,underlying,hu]
theorem run_equalIn_int{d:Nat}{t:TypeId}{k k' : IntKind}{a b:Int}(hu:P.underlying t=some (.int k')):(Op.equalIn (d+1) t (.int k a) (.int k b)).run P w=.ok (a==b) w:=by
 simp[Op.equalIn,underlying,hu]
theorem run_equalIn_string{d:Nat}{t:TypeId}{a b:ByteArray}(hu:P.underlying t=some .string):(Op.equalIn (d+1) t (.string a) (.string b)).run P w=.ok (a==b) w:=by
 simp[Op.equalIn,underlying,hu]
theorem iK(t:TypeId)(x y:Value):Op.equal t x y=Op.equalIn (9999+1) t x y:=rfl
theorem HT{op:BinOp}{t:TypeId}{x y:Value}{K:Value->Option R}(hK:BW op x y K=some r):∃v,(binOp op t x y).run P w=.ok v w/\K v=some r/\one v=true:=by
 unfold BW at hK;split at hK
 ·rename_i k a k' b;split at hK
  ·obtain⟨h1,hK⟩:=cV hK;refine⟨_,?_,hK,rfl⟩;have:¬ b<0:=by simpa using h1
   simp[binOp,Op.shift,this]
  ·obtain⟨h1,hK⟩:=cV hK;refine⟨_,?_,hK,rfl⟩;have:¬ b<0:=by simpa using h1
   simp[binOp,Op.shift,this]
  ·rename_i Uq Xy;obtain⟨h1,hK⟩:=cV hK;have hk:k=k':=by simpa using h1
   subst hk;cases op
   case shl=>exact absurd rfl Uq
   case shr=>exact absurd rfl Xy
   case quo=>
    simp only at hK;by_cases hb:b=0
    ·simp[hb]at hK
    ·rw[show(b==0)=false from by simpa using hb]at hK;exact⟨_,by simp[binOp,Op.intDiv,hb],hK,rfl⟩
   case rem=>
    simp only at hK;by_cases hb:b=0
    ·simp[hb]at hK
    ·rw[show(b==0)=false from by simpa using hb]at hK;exact⟨_,by simp[binOp,Op.intDiv,hb],hK,rfl⟩
   all_goals first|(simp only at hK;exact⟨_,by simp[binOp,Op.intArith,Op.intBits,Op.intCmp],hK,rfl⟩)|(simp at hK)
 ·rename_i a b;cases op
  case add=>
   obtain⟨h1,hK⟩:=HQ hK;refine⟨_,?_,hK,rfl⟩;have h1:a.size+b.size<=9223372036854775807:=by simpa using h1
   have:¬ (((a.size+b.size:Nat):Int)>IntKind.i64.max):=by
    have:IntKind.i64.max=9223372036854775807:=by decide
    rw[this];omega
   simp only[binOp,Op.stringOp];rw[if_neg this];rfl
  all_goals first|(simp only at hK;exact⟨_,by simp[binOp,Op.stringOp],hK,rfl⟩)|(simp at hK)
 ·cases hK
theorem na(hG:dK P G){t:TypeId}(h:isIface G t=true):∃ms,P.underlying t=some (.interface ms):=by
 unfold isIface at h;split at h
 ·rename_i ti ko;obtain⟨d,hd,hk⟩:=(hG.ti t ti ko).rF;split at h
  ·rename_i fv;rw[fv]at hk;cases d<;>simp[e8]at hk;exact⟨_,hd⟩
  ·cases h
 ·cases h
theorem zc(hG:dK P G){t:TypeId}(h:isSlice G t=true):∃e,P.underlying t=some (.slice e):=by
 unfold isSlice at h;split at h
 ·rename_i ti ko;obtain⟨d,hd,hk⟩:=(hG.ti t ti ko).rF;split at h
  ·rename_i fv;rw[fv]at hk;cases d<;>simp[e8]at hk;exact⟨_,hd⟩
  ·cases h
 ·cases h
theorem Bw(hG:dK P G){t:TypeId}(h:isBool G t=true):P.underlying t=some .bool:=by
 unfold isBool at h;split at h
 ·rename_i ti ko;obtain⟨d,hd,hk⟩:=(hG.ti t ti ko).rF;split at h
  ·rename_i fv;rw[fv]at hk;cases d<;>simp[e8]at hk;exact hd
  ·cases h
 ·cases h
def qn:List SK->List AV->List AV->Option Bool
 | [],[],[]=>some true
 | k::ks,.v x::r,.v y::s=>match HA k x y,qn ks r s with | some b,some c=>some (b&&c) | _,_=>none
 | _,_,_=>none
theorem xz:∀(ks:List SK) (xs ys:List AV) (K:Bool->Option R),Nd ks xs ys K=(qn ks xs ys).bind K
 | [],[],[],K=>rfl
 | [],[],_::_,K=>rfl
 | [],_::_,_,K=>rfl
 | _::_,[],_,K=>rfl
 | k::ks,x::r,ys,K=>by
  cases ys with
  | nil=>cases x<;>rfl
  | cons y s=>
   cases x<;>cases y<;>try rfl
   rename_i x y;simp only[Nd,qn];cases hv:HA k x y with
   | none=>rfl
   | some b=>
    simp only[xz ks r s];cases qn ks r s<;>rfl
theorem zV:∀(ks:List SK) (xs ys:List AV) (b:Bool),qn ks xs ys=some b->∃X Y:List Value,xs=X.map .v/\ys=Y.map .v/\X.length=ks.length/\Y.length=ks.length
 | [],[],[],b,h=>⟨[],[],rfl,rfl,rfl,rfl⟩
 | k::ks,x::r,y::s,b,h=>by
  cases x<;>cases y<;>try (simp[qn]at h;done)
  rename_i x y;simp only[qn]at h;split at h
  ·rename_i b1 c1 h1 h2;obtain⟨X,Y,rfl,rfl,h3,h4⟩:=zV ks r s c1 h2;exact⟨x::X,y::Y,rfl,rfl,by simp[h3],by simp[h4]⟩
  ·cases h
 | [],_::_,_,b,h=>by simp[qn]at h
 | [],[],_::_,b,h=>by simp[qn]at h
 | _::_,[],_,b,h=>by simp[qn]at h
 | _::_,x::_,[],b,h=>by cases x<;>simp[qn]at h
theorem tU:∀(ks LU : List SK) (X X' Y Y' : List Value),X.length=ks.length->Y.length=ks.length->
  qn (ks++LU) ((X++X').map .v) ((Y++Y').map .v)=(qn ks (X.map .v) (Y.map .v)).bind λa=>(qn LU (X'.map .v) (Y'.map .v)).map λb=>a&&b
 | [],LU,[],X',[],Y',_,_=>by simp[qn]
 | k::ks,LU,x::X,X',y::Y,Y',h,h'=>by
  have ih:=tU ks LU X X' Y Y' (by simpa using h) (by simpa using h');simp only[b9,bd,qn,ih];cases HA k x y with
  | none=>simp
  | some b=>cases qn ks (X.map .v) (Y.map .v)<;>cases qn LU (X'.map .v) (Y'.map .v)<;>simp[Bool.and_assoc]
 | [],_,_::_,_,_,_,h,_=>by simp at h
 | [],_,[],_,_::_,_,_,h=>by simp at h
 | _::_,_,[],_,_,_,h,_=>by simp at h
 | _::_,_,_::_,_,[],_,_,h=>by simp at h
theorem Ej{d:Nat}{t:TypeId}{x y:Value}{b:Bool}{k:SK}(hx:HA k x y=some b)
  (hu:(∃i,k=.int i/\P.underlying t=some (.int i))\/(k=.str/\P.underlying t=some .string)\/(k=.bool/\P.underlying t=some .bool)) :
  (Op.equalIn (d+1) t x y).run P w=.ok b w:=by
 rcases hu with⟨i,rfl,hd⟩|⟨rfl,hd⟩|⟨rfl,hd⟩
 ·cases x<;>cases y<;>simp[HA]at hx;rename_i k1 a k2 n;by_cases e:k1=i/\k2=i
  ·obtain⟨rfl,rfl⟩:=e;simp at hx;subst hx;exact run_equalIn_int hd
  ·have:(decide (k1=i)&&decide (k2=i))=false:=by simpa using e
   rw[this]at hx;cases hx
 ·cases x<;>cases y<;>simp[HA]at hx;subst hx;exact run_equalIn_string hd
 ·cases x<;>cases y<;>simp[HA]at hx;subst hx;exact run_equalIn_bool hd
theorem Bs:∀(n:Nat) (t:TypeId) (ks:List SK),fm G n t=some ks->∃ti,G.fP t=some ti/\ti.size=ks.length
 | 0,t,ks,h=>by simp[fm]at h
 | n+1,t,ks,h=>by
  simp only[fm]at h;split at h
  ·rename_i ti ko;refine⟨ti,ko,?_⟩;split at h
   ·obtain⟨h1,h⟩:=cV h;cases h;exact aj h1
   ·obtain⟨h1,h⟩:=cV h;cases h;exact aj h1
   ·obtain⟨h1,h⟩:=cV h;cases h;exact aj h1
   ·split at h
    ·obtain⟨h1,h⟩:=cV h;cases h;exact(aj h1).symm
    ·cases h
   ·cases h
  ·cases h
theorem sT{t:TypeId}{ti:TI}(hT:nr P t ti)(Z:Array Value)(off:Nat)(hZ:off+ti.size<=Z.size)(h1:ti.isAgg=false->ti.size=1) :
  ∃z,(part t Z off).run P w=.ok z w/\(ti.isAgg=true->z=.agg z.cells/\z.cells.toList=(Z.toList.drop off).take ti.size)/\(ti.isAgg=false->z=Z.getD off undef):=by
 unfold part;cases oA:ti.isAgg with
 | true=>
  refine⟨.agg (Z.extract off (off+ti.size)),?_,λ_=>⟨rfl,?_⟩,λh=>by cases h⟩
  ·simp[hT.nz w,oA,hT.iY w]
  ·simp[Value.cells,Array.toList_extract,List.extract]
 | false=>
  have hs:=h1 oA;have eG:off<Z.size:=by omega
  exact⟨Z.getD off undef,by simp[hT.nz w,oA,Array.getD,eG],(λh=>by cases h),λ_=>rfl⟩
theorem BN(hG:dK P G):∀(n:Nat) (t:TypeId) (ks:List SK),fm G n t=some ks->∀(d:Nat) (x y:Value) (b:Bool),
  x.cells.size=ks.length->y.cells.size=ks.length->(om G t=true->x=.agg x.cells/\y=.agg y.cells)->(om G t=false->one x=true/\one y=true)->
  qn ks (x.cells.toList.map .v) (y.cells.toList.map .v)=some b->(Op.equalIn (d+n) t x y).run P w=.ok b w:=by
 intro n;induction n with
 | zero=>intro t ks h;simp[fm]at h
 | succ n ih=>
  intro t ks h d x y b hx hy SH BC hb;simp only[fm]at h;split at h
  ·rename_i ti ko;have hT:=hG.ti t ti ko;obtain⟨dd,hd,hk⟩:=hT.rF;have UT:om G t=ti.kd.agg:=by simp[om,ko]
   have flat:∀k,ks=[k]->ti.kd.agg=false->((∃i,k=SK.int i/\P.underlying t=some (.int i))\/(k=.str/\P.underlying t=some .string)\/(k=.bool/\P.underlying t=some .bool))->
     (Op.equalIn (d+(n+1)) t x y).run P w=.ok b w:=by
    intro k Ow oA hu;subst Ow;obtain⟨ox,oy⟩:=BC (by rw[UT];exact oA);have ex:x.cells=#[x]:=by cases x<;>first|rfl|simp[one]at ox
    have ey:y.cells=#[y]:=by cases y<;>first|rfl|simp[one]at oy
    rw[ex,ey]at hb;simp only[bd,List.map_nil,qn]at hb;cases hv:HA k x y with
    | none=>simp[hv]at hb
    | some b'=>
     simp[hv]at hb;subst hb;exact Ej (d:=d+n) hv hu
   split at h
   ·rename_i i fv;rw[fv]at hk;cases dd<;>simp[e8]at hk;subst hk;obtain⟨_,h⟩:=cV h;cases h;exact flat _ rfl (by rw[fv];rfl) (.inl ⟨_,rfl,hd⟩)
   ·rename_i fv;rw[fv]at hk;cases dd<;>simp[e8]at hk;obtain⟨_,h⟩:=cV h;cases h;exact flat _ rfl (by rw[fv];rfl) (.inr (.inl ⟨rfl,hd⟩))
   ·rename_i fv;rw[fv]at hk;cases dd<;>simp[e8]at hk;obtain⟨_,h⟩:=cV h;cases h;exact flat _ rfl (by rw[fv];rfl) (.inr (.inr ⟨rfl,hd⟩))
   ·rename_i fs fv;rw[fv]at hk;cases dd<;>simp[e8]at hk;rename_i fields;obtain⟨hn,rq⟩:=hT.str fields hd;obtain⟨ex,ey⟩:=SH (by rw[UT,fv];rfl);rw[ex,ey];generalize x.cells=X at *;generalize y.cells=Y at *;split at h
    ·rename_i LU Sa;obtain ⟨_, h⟩ := cV h;cases h;have key : ∀ (fl : List Field) (off : Nat) (ks : List SK) (b : Bool), (∀ f ∈ fl, (f.name == "_") = false) → jJ (fm G n) off (fl.map fun f => (f.type, f.offset)) = some ks →
       X.size=off+ks.length->Y.size=off+ks.length->qn ks ((X.toList.drop off).map .v) ((Y.toList.drop off).map .v)=some b->
       (Op.eqFields (d+n) X Y fl).run P w=.ok b w:=by
      intro fl;induction fl with
      | nil=>
       intro off ks b _ hk hX hY hb;simp only[List.map_nil,jJ]at hk;cases hk;simp only[aF,bQ]at hX hY;rw[List.drop_eq_nil_of_le (by simp[hX]),List.drop_eq_nil_of_le (by simp[hY])]at hb;simp[qn]at hb;subst hb;simp[Op.eqFields]
      | cons f fl Xb=>
       intro off ks b qV hk hX hY hb;simp only[bd,jJ]at hk;obtain⟨ho,hk⟩:=cV hk;have ho:f.offset=off:=aj ho;split at hk
       ·rename_i k1 uU;split at hk
        ·rename_i k2 tK;cases hk;rw[ag]at hX hY;have sX:X.toList.drop off=(X.toList.drop off).take k1.length++X.toList.drop (off+k1.length):=by
          rw[<-bZ,cK]
         have sY:Y.toList.drop off=(Y.toList.drop off).take k1.length++Y.toList.drop (off+k1.length):=by
          rw[<-bZ,cK]
         rw[sX,sY,tU _ _ _ _ _ _ (by simp;omega) (by simp;omega)]at hb;obtain⟨tf,MZ,jH⟩:=Bs n f.type k1 uU;have Qj:=hG.ti _ _ MZ;have OJ:om G f.type=tf.isAgg:=by simp[om,MZ,Qj.agg]
         cases h1:qn k1 (((X.toList.drop off).take k1.length).map .v) (((Y.toList.drop off).take k1.length).map .v)with
         | none=>rw[h1]at hb;cases hb
         | some b1=>
          cases h2:qn k2 ((X.toList.drop (off+k1.length)).map .v) ((Y.toList.drop (off+k1.length)).map .v)with
          | none=>rw[h1,h2]at hb;cases hb
          | some b2=>
           rw [h1, h2] at hb;cases hb;have Og := Xb (off + k1.length) k2 b2 (fun f hf => qV f (by simp [hf])) tK (by omega) (by omega) h2;have gm : f.name ≠ "_" := by simpa using qV f (by simp)
           have Te:tf.isAgg=false->tf.size=1:=by
            intro oA;rw[Qj.agg]at oA;cases n with
            | zero=>simp[fm]at uU
            | succ n=>
             simp only[fm,MZ]at uU;split at uU
             ·obtain⟨h1,_⟩:=cV uU;exact aj h1
             ·obtain⟨h1,_⟩:=cV uU;exact aj h1
             ·obtain⟨h1,_⟩:=cV uU;exact aj h1
             ·rename_i Sb;rw[Sb]at oA;cases oA
             ·cases uU
           obtain⟨zx,Xg,Um,N4⟩:=sT (w:=w) Qj X f.offset (by rw[ho];omega) Te;obtain⟨zy,Xf,Uj,L1⟩:=sT (w:=w) Qj Y f.offset (by rw[ho];omega) Te;rw[ho]at Um N4 Uj L1;have he:(Op.equalIn (d+n) f.type zx zy).run P w=.ok b1 w:=by
            cases oA:tf.isAgg with
            | true=>
             obtain⟨e1,e2⟩:=Um oA;obtain⟨e3,e4⟩:=Uj oA;rw[jH]at e2 e4;refine ih f.type k1 uU d zx zy b1 ?_ ?_ (λ_=>⟨e1,e3⟩) (λh=>by rw[OJ,oA]at h;cases h) (by rw[e2,e4];exact h1)
             ·rw[<-bo,e2];simp;omega
             ·rw[<-bo,e4];simp;omega
            | false=>
             have Uq:=Te oA;have JC:k1.length=1:=by omega
             have gx:(X.toList.drop off).take 1=[zx]:=by
              rw[N4 oA];have:off<X.size:=by omega
              rw[aG (by simpa using this)];simp[Array.getD,this]
             have gy:(Y.toList.drop off).take 1=[zy]:=by
              rw[L1 oA];have:off<Y.size:=by omega
              rw[aG (by simpa using this)];simp[Array.getD,this]
             rw[JC,gx,gy]at h1;have oz:one zx=true/\one zy=true:=by
              match k1,JC,h1 with
              | [k],_,h1=>
               simp only[bd,List.map_nil,qn]at h1;cases hv:HA k zx zy with
               | none=>rw[hv]at h1;cases h1
               | some bb=>cases k<;>cases zx<;>cases zy<;>first|(simp[HA]at hv;done)|exact⟨rfl,rfl⟩
             have ex:zx.cells=#[zx]:=by cases zx<;>first|rfl|simp[one]at oz
             have ey:zy.cells=#[zy]:=by cases zy<;>first|rfl|simp[one]at oz
             exact ih f.type k1 uU d zx zy b1 (by rw[ex,JC];rfl) (by rw[ey,JC];rfl) (λh=>by rw[OJ,oA]at h;cases h) (λ_=>oz) (by rw[ex,ey];exact h1)
           rw[Op.eqFields];simp only[if_pos gm,cg,Xg,Xf,he,b7];cases b1
           ·simp
           ·simpa using Og
        ·cases hk
       ·cases hk
     have hf:P.fieldsOf t=fields:=by simp[Program.fieldsOf,hd]
     show(Op.equalIn ((d+n)+1) t (.agg X) (.agg Y)).run P w=_;rw[run_equalIn_struct (P:=P) w (d+n) t X Y (by rw[hf];exact hd) rq,hf];exact key fields.toList 0 ks b hn (by rw[hk];exact Sa) (by omega) (by omega) (by simpa using hb)
    ·cases h
   ·cases h
  ·cases h
end
section
variable {R:Type} {P:Program} {G:eH} {o:Oper} {a:Act} {w:World} {W0:eC} {F0 U F:Nat->Prop} {id:Nat} {L:AV->Value->Prop} {K:AV->Mem->Option R} {r:R} {m:Mem} {μ:Mu} {S:List AV}
theorem my{op:BinOp}{t:TypeId}{x y:Operand}(h:(Region.isConst x||Region.isConst y)=true):(eqGuard op t x y .nilIface .nilIface).run P w=.ok () w:=by
 unfold eqGuard;cases op
 case eql | neq=>
  simp only[aC,cw,bI];cases x<;>cases y<;>first|rfl|exact Bool.noConfusion (show false=true from h)
 all_goals rfl
theorem mS{op:BinOp}{t yt:TypeId}{x y:Operand}{v:Value}(ho:o.op=.binOp op t x y yt)(hg:(eqGuard op t x y (a.eval x) (a.eval y)).run P w=.ok () w)
  (hb:(binOp op t (a.eval x) (a.eval y)).run P w=.ok v w):(execOp a.eval o).run P w=.ok (.value v) w:=by
 simp[execOp,ho,hg,hb]
theorem Ba{x:Value}(h:one x=true):∀cs,x≠.agg cs:=by
 intro cs e;subst e;cases h
theorem Ex(hG:dK P G){op:BinOp}{t yt:TypeId}{x y:Operand}(ho:o.op=.binOp op t x y yt)(h:de W0 F0 U m L w μ F)(hE:Env G S a L)(hK:eU G o.op S m id K=some r) :
  j0 P o a w W0 F0 U id L K r:=by
 rw[ho]at hK;simp only[eU]at hK;have hx:=hE.rel h x;have hy:=hE.rel h y
 -- Pl TN outcome is known
 have eqs:∀b:Bool,(eqGuard op t x y (a.eval x) (a.eval y)).run P w=.ok () w->
   (∀op,op=BinOp.eql\/op=BinOp.neq->(binOp op t (a.eval x) (a.eval y)).run P w=.ok (.bool (if op=.eql then b else !b)) w)->
   (nX op b λb=>K (vb b) m)=some r->j0 P o a w W0 F0 U id L K r:=by
  intro b hg hb hK;cases op
  case eql=>exact .calc h (mS ho hg (hb .eql (.inl rfl))) hK (fM rfl)
  case neq=>exact .calc h (mS ho hg (hb .neq (.inr rfl))) hK (fM rfl)
  all_goals (simp only[nX]at hK;cases hK)
 generalize hX:ev G S x=X at hK hx;generalize hY:ev G S y=Y at hK hy;unfold HU at hK;split at hK
 ·-- nil,nil: LX
  obtain⟨hc,hK⟩:=cV hK;rw[ae]at hc;obtain⟨ms,hu⟩:=na hG hc.2;have ex:=(dF hx).1;have ey:=(dF hy).1;have he:∀d,(Op.equalIn (d+1) t .nilIface .nilIface).run P w=.ok true w:=λd=>by simp[Op.equalIn,underlying,hu]
  refine eqs true ?_ ?_ hK
  ·rw[ex,ey];exact my hc.1
  ·rw[ex,ey];rintro op (rfl|rfl)<;>simp only[binOp,iK,cg,he,b7,Sem.run_pure]<;>rfl
 ·-- an error,nil
  obtain⟨hc,hK⟩:=cV hK;obtain⟨ms,hu⟩:=na hG hc;have ex:=(dF hx).1;have ey:=(dF hy).1;rename_i tt vv _h0;have he:∀d,(Op.equalIn (d+1) t (.iface tt vv) .nilIface).run P w=.ok false w:=λd=>by simp[Op.equalIn,underlying,hu]
  refine eqs false ?_ ?_ hK
  ·rw[ex,ey];exact gf (λcs=>by simp) (.inl (by simp))
  ·rw[ex,ey];rintro op (rfl|rfl)<;>simp only[binOp,iK,cg,he,b7,Sem.run_pure]<;>rfl
 ·-- an error of Nu it is known PK it is one,nil
  rename_i b;obtain⟨hc,hK⟩:=cV hK;rw[ae]at hc;obtain⟨ms,hu⟩:=na hG hc.2;obtain⟨_,hx⟩:=hx;have ey:=(dF hy).1;generalize Zq:a.eval x=ax at *;cases hx with
  | oB=>
   have he:∀d,(Op.equalIn (d+1) t .nilIface .nilIface).run P w=.ok true w:=λd=>by simp[Op.equalIn,underlying,hu]
   refine eqs true ?_ ?_ hK
   ·rw[ey];exact my hc.1
   ·rw[ey];rintro op (rfl|rfl)<;>simp only[binOp,iK,cg,he,b7,Sem.run_pure]<;>rfl
  | nR tt vv=>
   have he:∀d,(Op.equalIn (d+1) t (.iface tt vv) .nilIface).run P w=.ok false w:=λd=>by simp[Op.equalIn,underlying,hu]
   refine eqs false ?_ ?_ hK
   ·rw[ey];exact gf (λcs=>by simp) (.inl (by simp))
   ·rw[ey];rintro op (rfl|rfl)<;>simp only[binOp,iK,cg,he,b7,Sem.run_pure]<;>rfl
 ·-- nil,nil: Q0
  obtain⟨hc,hK⟩:=cV hK;obtain⟨e,hu⟩:=zc hG hc;have ex:=(dF hx).1;have ey:=(dF hy).1;have he:∀d,(Op.equalIn (d+1) t (.slice none 0 0) (.slice none 0 0)).run P w=.ok true w:=λd=>by simp[Op.equalIn,underlying,hu]
  refine eqs true ?_ ?_ hK
  ·rw[ex,ey];exact gf (λcs=>by simp) (.inl (by simp))
  ·rw[ex,ey];rintro op (rfl|rfl)<;>simp only[binOp,iK,cg,he,b7,Sem.run_pure]<;>rfl
 ·-- U4
  rename_i p q;obtain⟨hc,hK⟩:=cV hK;have hu:=Bw hG hc;have ex:=(dF hx).1;have ey:=(dF hy).1;refine eqs (p==q) ?_ ?_ hK
  ·rw[ex,ey];exact gf (λcs=>by simp) (.inl (by simp))
  ·rw[ex,ey];rintro op (rfl|rfl)<;>simp only[binOp,iK,cg,run_equalIn_bool hu,b7,Sem.run_pure]<;>rfl
 ·-- flat values
  rename_i p q _ _ _ _;have hp:p≠.nilIface:=by
   intro e;subst e;cases q<;>simp[BW]at hK
  have ex:=dF hx;have ey:=dF hy;obtain⟨v,hr,hK,hv⟩:=HT (P:=P) (w:=w) (t:=t) hK;refine .calc h (mS ho ?_ (by rw[ex.1,ey.1];exact hr)) hK (fM hv)
  rw[ex.1,ey.1];exact gf (Ba ex.2) (.inl hp)
 ·-- structs
  rename_i fw bs;split at hK
  ·rename_i ks Ow;obtain⟨hc,hK⟩:=cV hK;obtain⟨X,eX,lX,rX⟩:=hx;obtain⟨Y,eY,lY,rY⟩:=hy;have main:∀b,qn ks fw bs=some b->(Op.equalIn (9999+1) t (.agg X) (.agg Y)).run P w=.ok b w:=by
    intro b hb;obtain⟨XL,YL,e1,e2,l1,l2⟩:=zV ks fw bs b hb;subst e1;subst e2;have cx:X.toList=XL:=by
     apply List.ext_getElem (by simpa using lX);intro j h1 h2;have:=rX j (.v XL[j]) (by simp[h2]);have hj:j<X.size:=by simpa using h1
     have:=(dF (F:=F) (w:=w) (μ:=μ) (m:=m) (U:=U) (dI (dE this))).1;simpa[Array.getD,hj]using this
    have cy:Y.toList=YL:=by
     apply List.ext_getElem (by simpa using lY);intro j h1 h2;have:=rY j (.v YL[j]) (by simp[h2]);have hj:j<Y.size:=by simpa using h1
     have:=(dF (F:=F) (w:=w) (μ:=μ) (m:=m) (U:=U) (dI (dE this))).1;simpa[Array.getD,hj]using this
    exact BN hG 9 t ks Ow 9991 (.agg X) (.agg Y) b (show X.size=_ by simpa[l1]using lX) (show Y.size=_ by simpa[l2]using lY) (λ_=>⟨rfl,rfl⟩) (λh=>by rw[hc]at h;cases h)
     (by simp only[Value.cells,cx,cy];exact hb)
   have hg:(eqGuard op t x y (a.eval x) (a.eval y)).run P w=.ok () w:=by
    rw[eX,eY];exact run_eqGuard_agg w op t x y X Y (hG.UZ t ks Ow)
   rw[xz]at hK;cases hb:qn ks fw bs with
   | none=>rw[hb]at hK;cases hK
   | some b=>
    rw[hb]at hK;refine eqs b hg ?_ hK
    ·rw[eX,eY];rintro op (rfl|rfl)<;>simp only[binOp,iK,cg,main b hb,b7,Sem.run_pure]<;>rfl
  ·cases hK
 ·cases hK
end
section
variable {R:Type} {P:Program} {G:eH} {o:Oper} {a:Act} {w w' : World} {W0:eC} {F0 U F:Nat->Prop} {id:Nat} {L:AV->Value->Prop} {K:AV->Mem->Option R} {r:R} {m:Mem} {μ:Mu} {S:List AV}
theorem zL{x:oK}{q:Nat × Nat × Nat}(hid:¬ U id):∀i,U i->ec (m i) (m.fJ id (some x) i)/\(m.fJ id (some x) i≠none->(λi=>if i=id then some q else μ i) i=μ i):=by
 intro i hi;have:i≠id:=λe=>hid (e ▸ hi);rw[Mem.dk _ _ this];exact⟨.refl _,λ_=>by simp[this]⟩
theorem jL(w:World)(ob:Obj):Below w.heap.size w (w.alloc ob):=(Below.refl _ w).alloc (aJ _) ob
theorem iM(w:World)(ob:Obj):(w.alloc ob).heap[w.heap.size]?=some ob:=by
 show(w.heap.push ob)[w.heap.size]?=_;simp
theorem j0.box{cs:List AV}{C:Array Value}{t:TypeId}(h:de W0 F0 U m L w μ F)(hid:∀j,j<8->¬ U (id+j))
  (eV:(execOp a.eval o).run P w=.ok (.value (.pointer (some ⟨w.heap.size,0,none⟩))) (w.alloc (.cells C t)))
  (hl:cs.length=C.size) (hr:∀j c,cs[j]?=some c->eS w F μ m U c (C.getD j undef))
  (hK:K (.ptr id 0) (m.fJ id (some (.box t cs)))=some r):j0 P o a w W0 F0 U id L K r:=by
 have tL:¬ U id:=hid 0 (by omega);have hB:=jL w (.cells C t);have hw:∀b,F b->(w.alloc (.cells C t)).heap[b]?=w.heap[b]?:=λb hb=>hB.block b (h.dC b hb).1;refine⟨.ptr id 0,_,_,_,.inl eV,hK,_,F,(de.fresh (L':=λy u=>L y u\/(y=.ptr id 0/\u=.pointer (some ⟨w.heap.size,0,none⟩))) (b:=w.heap.size) (o:=0) (n:=C.size) h tL hB (aJ _) (by simp) ?_ ?_).wider ?_⟩
 ·refine⟨w.heap.size,C,(0,0),by simp,iM w _,hl,.inl rfl,λj c hc=>?_⟩;exact(hr j c hc).mono (λ_ hb=>hb) hw (λi hi=>Or.inl hi) (zL tL)
 ·rintro y v (hy|⟨rfl,rfl⟩)
  ·exact .inl hy
  ·refine .inr ⟨λ_=>rfl,.inr rfl,λuJ jh hx=>?_⟩;exact⟨w.heap.size,C.size,by simp,rfl⟩
 ·rintro i (hi|rfl)
  ·exact .inl hi
  ·exact .inr ⟨aJ _,by omega⟩
theorem j0.bs{cs:List AV}{C:Array Value}{t:TypeId}(h:de W0 F0 U m L w μ F)(hid:∀j,j<8->¬ U (id+j))
  (eV:(execOp a.eval o).run P w=.ok (.value (.slice (some ⟨w.heap.size,0,none⟩) cs.length cs.length)) (w.alloc (.cells C t)))
  (hl:cs.length=C.size) (hr:∀j c,cs[j]?=some c->eS w F μ m U c (C.getD j undef))
  (hK:K (.bs id) (m.fJ id (some (.box t cs)))=some r):j0 P o a w W0 F0 U id L K r:=by
 have tL:¬ U id:=hid 0 (by omega);have hB:=jL w (.cells C t);have hw:∀b,F b->(w.alloc (.cells C t)).heap[b]?=w.heap[b]?:=λb hb=>hB.block b (h.dC b hb).1;refine⟨.bs id,_,_,_,.inl eV,hK,_,F,(de.fresh (L':=λy u=>L y u\/(y=.bs id/\u=.slice (some ⟨w.heap.size,0,none⟩) cs.length cs.length)) (b:=w.heap.size) (o:=0) (n:=C.size) h tL hB (aJ _) (by simp) ?_ ?_).wider ?_⟩
 ·refine⟨w.heap.size,C,(0,0),by simp,iM w _,hl,.inl rfl,λj c hc=>?_⟩;exact(hr j c hc).mono (λ_ hb=>hb) hw (λi hi=>Or.inl hi) (zL tL)
 ·rintro y v (hy|⟨rfl,rfl⟩)
  ·exact .inl hy
  ·refine .inr ⟨λ_=>rfl,.inr rfl,λuJ jh hx=>?_⟩;rw[Mem.dx]at hx;cases hx;exact⟨w.heap.size,C.size,by simp,rfl⟩
 ·rintro i (hi|rfl)
  ·exact .inl hi
  ·exact .inr ⟨aJ _,by omega⟩
theorem j0.row{fl:Fl}{sz:Nat}{xs:List AV}{C:Array Value}{t:TypeId}{f:Nat × Nat}{cap:Nat}(ht:fl.te=t)(h:de W0 F0 U m L w μ F)(hid:∀j,j<8->¬ U (id+j))
  (eV:(execOp a.eval o).run P w=.ok (.value (.slice (some ⟨w.heap.size,0,none⟩) xs.length cap)) w')
  (hB:Below w.heap.size w w') (hb:w'.heap[w.heap.size]?=some (.cells C t f)) (hf:free f C.size)
  (hs:∀x∈xs,x.cells.length=sz) (lq:∀x∈df xs,uB fl x) (jg:xs.length<=cap) (hC:cap*sz<=C.size)
  (hr:∀j c,(df xs)[j]?=some c->Rel w F c (C.getD j undef))
  (hK:K (.own id 0 none) (m.fJ id (some (.row fl sz xs)))=some r):j0 P o a w W0 F0 U id L K r:=by
 subst ht;have tL:¬ U id:=hid 0 (by omega);have hw:∀b,F b->w'.heap[b]?=w.heap[b]?:=λb hb=>hB.block b (h.dC b hb).1;have eG:w.heap.size<w'.heap.size:=by
  rcases Nat.lt_or_ge w.heap.size w'.heap.size with h|h
  ·exact h
  ·simp[Array.getElem?_eq_none h]at hb
 refine⟨.own id 0 none,_,_,_,.inl eV,hK,_,F,(de.fresh (L':=λy u=>L y u\/(y=.own id 0 none/\u=.slice (some ⟨w.heap.size,0,none⟩) xs.length cap)) (b:=w.heap.size) (o:=0) (n:=C.size) h tL hB (aJ _) eG ?_ ?_).wider ?_⟩
 ·have h1:xs.length*sz<=C.size:=cf (aV _ jg) hC;refine⟨hs,lq,.inr ⟨w.heap.size,0,C,f,by simp,hb,by omega,hf,λj c hc=>?_⟩⟩;rw[b6];exact(hr j c hc).mono (λ_ hb=>hb) hw
 ·rintro y v (hy|⟨rfl,rfl⟩)
  ·exact .inl hy
  ·refine .inr ⟨λ_=>rfl,.inr rfl,λgk im mO hx=>?_⟩;rw[Mem.dx]at hx;cases hx;exact⟨some ⟨w.heap.size,0,none⟩,cap,by simp[lenOf],by simpa[lenOf]using jg,by simp[lenOf],.inr ⟨w.heap.size,0,C.size,⟨w.heap.size,0,none⟩,by simp,rfl,rfl,.inr ⟨by simp,by simpa using hC⟩⟩⟩
 ·rintro i (hi|rfl)
  ·exact .inl hi
  ·exact .inr ⟨aJ _,by omega⟩
theorem nJ{x:AV}{v:Value}(h:eB w F μ m U x v)(gJ:x.cells.all AV.nD=true) :
  v.cells.size=x.cells.length/\(∀j c,x.cells[j]?=some c->eS w F μ m U c (v.cells.getD j undef))/\∀u∈v.cells.toList,one u=true:=by
 have w7:∀(vs:Array Value) (cs:List AV),vs.size=cs.length->(∀c∈cs,c.nD=true)->(∀j c,cs[j]?=some c->eS w F μ m U c (vs.getD j undef))->∀u∈vs.toList,one u=true:=by
  intro vs cs hl hc hr u hu;obtain⟨j,hj,rfl⟩:=List.getElem_of_mem hu;have kZ : j<vs.size:=by simpa using hj
  have:=hr j cs[j] (by rw[aP (by omega)]);have:=this.lg (hc _ (aX _));simpa[Array.getD,kZ]using this
 have single:x.nD=true->x.cells=[x]->v.cells.size=x.cells.length/\(∀j c,x.cells[j]?=some c->eS w F μ m U c (v.cells.getD j undef))/\∀u∈v.cells.toList,one u=true:=by
  intro hx hc;have hC:=DA h hx;have h1:=hC.lg hx;have ev:v.cells=#[v]:=by cases v<;>first|rfl|simp[one]at h1
  rw[hc,ev];refine⟨rfl,?_,by simpa using h1⟩;intro j c hj;cases j with
  | zero=>simp at hj;subst hj;exact hC
  | succ j=>simp at hj
 cases x
 case agg cs=>
  obtain⟨vs,rfl,hl,hr⟩:=h;have D2 : ∀c∈cs,c.nD=true:=ay.1 gJ;exact⟨hl,hr,w7 vs cs hl D2 hr⟩
 all_goals first|exact single rfl rfl|(simp[AV.cells,AV.nD]at gJ)
theorem Ey(hG:dK P G){t:TypeId}(ho:o.op=.alloc t)(h:de W0 F0 U m L w μ F)(hid:∀j,j<8->¬ U (id+j))(hK:eU G o.op S m id K=some r):j0 P o a w W0 F0 U id L K r:=by
 rw[ho]at hK;simp only[eU]at hK;obtain⟨ti,ko,hK⟩:=cN hK;have hT:=hG.ti t ti ko;obtain⟨z,hz,uR,_⟩:=hT.FZ w;refine .box (C:=z.cells) (t:=t) h hid ?_ ?_ ?_ hK
 ·simp[execOp,ho,Instr.alloc,hz,newVar,newRow]
 ·simp[TI.qy,<-uR]
 ·intro j c hc;simp only[TI.qy,aL,aA]at hc;obtain⟨y,hy,rfl⟩:=hc;rw[<-uR]at hy;have hj:j<z.cells.size:=by simpa using(aB.1 hy).1
  have e:z.cells.getD j undef=y:=by
   have:=(aB.1 hy).2;simpa[Array.getD,hj]using this
  rw[e];have ho:one y=true:=ay.1 hT.w7 y (by rw[<-uR];exact aO hy);exact⟨λ_=>ho,.v y ho⟩
theorem J3{t:TypeId}{x:Operand}(ho:o.op=.box t x)(h:de W0 F0 U m L w μ F)(hE:Env G S a L)(hid:∀j,j<8->¬ U (id+j))(hK:eU G o.op S m id K=some r) :
  j0 P o a w W0 F0 U id L K r:=by
 rw[ho]at hK;simp only[eU]at hK;obtain⟨ti,ko,hK⟩:=cN hK;obtain⟨hc,hK⟩:=cV hK;rw[ae]at hc;obtain⟨h1,h2,_⟩:=nJ (hE.rel h x) hc.2;exact .box (C:=(a.eval x).cells) (t:=t) h hid (by simp[execOp,ho,Instr.box,newVar,newRow]) (by omega) h2 hK
theorem pw(hG:dK P G){t:TypeId}{x:Operand}(ho:o.op=.makeInterface t x)(h:de W0 F0 U m L w μ F)(hE:Env G S a L)(hK:eU G o.op S m id K=some r) :
  j0 P o a w W0 F0 U id L K r:=by
 rw[ho]at hK;simp only[eU]at hK;obtain⟨ti,ko,hK⟩:=cN hK;obtain⟨d,hd,hr,hk⟩:=(hG.ti t ti ko).Ck w;have go:ti.kd≠.iface->(mP (ev G S x) λy=>K (.v (.iface t y)) m)=some r->j0 P o a w W0 F0 U id L K r:=by
  intro fN hK;obtain⟨y,hy,hK⟩:=sf hK;have hx:=hE.rel h x;rw[hy]at hx;refine .calc h (v:=.iface t y) ?_ hK (fM rfl)
  have:(Instr.makeInterface t (a.eval x)).run P w=.ok (.iface t y) w:=by
   rw[(dF hx).1];cases fv:ti.kd<;>rw[fv]at hk fN<;>cases d<;>first|(simp[e8]at hk;done)|exact absurd rfl fN|simp[Instr.makeInterface,hr]
  simp[execOp,ho,this]
 split at hK
 ·cases hK
 ·cases hK
 ·rename_i h1 h2;exact go (λe=>h2 e) hK
end
def j_:Array Value->Nat->List Value->Array Value
 | C,_,[]=>C
 | C,o,v::r=>j_ (C.setIfInBounds o v) (o+1) r
theorem d_:∀(vs:List Value) (C:Array Value) (o:Nat),(j_ C o vs).size=C.size
 | [],_,_=>rfl
 | v::r,C,o=>by rw[j_,d_ r];simp
theorem gb:∀(vs:List Value) (C:Array Value) (o k:Nat),(k<o\/o+vs.length<=k)->(j_ C o vs).getD k undef=C.getD k undef
 | [],_,_,_,_=>rfl
 | v::r,C,o,k,h=>by
  rw[j_,gb r _ _ _ (by simp at h;omega)];have:o≠k:=by simp at h;omega
  simp[aI,Array.getElem?_setIfInBounds_ne this]
theorem oN:∀(vs:List Value) (C:Array Value) (o j:Nat) (hj:j<vs.length),o+vs.length<=C.size->(j_ C o vs).getD (o+j) undef=vs[j]
 | v::r,C,o,0,_,hC=>by
  rw[j_,gb r _ _ _ (by omega)];have:o<C.size:=by simp at hC;omega
  simp[aI,this]
 | v::r,C,o,j+1,hj,hC=>by
  have:=oN r (C.setIfInBounds o v) (o+1) j (by simpa using hj) (by simp at hC ⊢;omega);rw[j_,show o+(j+1)=o+1+j by omega,this];simp
theorem gG(b:Nat):∀(vs:List Value) (o:Nat) (w:World) (C:Array Value) (t:TypeId) (f:Nat × Nat),w.heap[b]?=some (.cells C t f)->
  (w.setCells b o vs).heap[b]?=some (.cells (j_ C o vs) t f)
 | [],_,_,_,_,_,h=>h
 | v::r,o,w,C,t,f,h=>by
  rw[World.setCells,j_];exact gG b r (o+1) _ _ t f (by simp[World.setCell,Array.getElem?_modify,h])
theorem eO(b:Nat):∀(vs:List Value) (o:Nat) (w:World) (k:Nat),k≠b->(w.setCells b o vs).heap[k]?=w.heap[k]?
 | [],_,_,_,_=>rfl
 | v::r,o,w,k,h=>by
  rw[World.setCells,eO b r (o+1) _ k h];exact Below.heap_setCell w ⟨b,o,none⟩ v k h
theorem mR(b:Nat):∀(vs:List Value) (o:Nat) (w:World) {B:Nat} {W:World},Below B W w->B<=b->Below B W (w.setCells b o vs)
 | [],_,_,_,_,h,_=>h
 | v::r,o,w,B,W,h,hb=>by
  rw[World.setCells];exact mR b r (o+1) _ (h.setCell (p:=⟨b,o,none⟩) hb v) hb
theorem gQ(b:Nat)(vs:List Value)(o:Nat)(w:World){B:eC}(h:iT B w)(hb:¬ B.N b):iT B (w.setCells b o vs):=by
 have h1:=mR b vs o w (Below.refl 0 w) (cr _);exact⟨h1.os.trans h.os,h1.tape.trans h.tape,h1.output.trans h.output,cf h.size h1.size,λk hk=>(eO b vs o w k (λe=>hb (e ▸ hk))).trans (h.block k hk)⟩
theorem setCells_size(b:Nat):∀(vs:List Value) (o:Nat) (w:World),(w.setCells b o vs).heap.size=w.heap.size
 | [],_,_=>rfl
 | v::r,o,w=>by rw[World.setCells,setCells_size b r];simp
theorem jE(v:Value):v.oneCell'=one v:=by cases v<;>rfl
section
variable {R:Type} {P:Program} {G:eH} {o:Oper} {a:Act} {w w' : World} {W0:eC} {F0 U F:Nat->Prop} {id:Nat} {L:AV->Value->Prop} {K:AV->Mem->Option R} {r:R} {m:Mem} {μ:Mu} {S:List AV}
theorem yu{id:Nat}{x x' : oK}(hm:m id=some x)(hs:ec (some x) (some x')):∀i,U i->ec (m i) (m.fJ id (some x') i)/\(m.fJ id (some x') i≠none->μ i=μ i):=by
 intro i _;refine⟨?_,λ_=>rfl⟩;by_cases e:i=id
 ·subst e;rw[Mem.dx,hm];exact hs
 ·rw[Mem.dk _ _ e];exact .refl _
theorem de.store(h:de W0 F0 U m L w μ F){id:Nat}{x x' : oK}{b o n:Nat}(hm:m id=some x)(eN:μ id=some (b,o,n))(hs:ec (some x) (some x'))
  (hB:iT W0 w') (jH:w'.heap.size=w.heap.size) (ho:∀k,k≠b->w'.heap[k]?=w.heap[k]?)
  (hx:Holds w' F μ (m.fJ id (some x')) U id x'):de W0 F0 U (m.fJ id (some x')) L w' μ F:=by
 have fc:=h.own id x b o n hm eN;have hw:∀k,F k->w'.heap[k]?=w.heap[k]?:=λk hk=>ho k (λe=>fc.2.2 (e ▸ hk));have qf:=yu (U:=U) (μ:=μ) hm hs;have qW:∀i y,m.fJ id (some x') i=some y->∃y',m i=some y':=by
  intro i y hy;by_cases e:i=id
  ·exact⟨x,e ▸ hm⟩
  ·rw[Mem.dk _ _ e]at hy;exact⟨y,hy⟩
 refine{ below:=hB,dC:=λb hb=>by rw[jH];exact h.dC b hb,sub:=h.sub,gl:=h.gl,used:=?_,j7:=?_,own:=?_,inj:=?_,dB:=?_ }
 ·intro i y hy;obtain⟨y',nf⟩:=qW i y hy;exact h.used i y' nf
 ·intro i y hy;by_cases e:i=id
  ·subst e;rw[Mem.dx]at hy;cases hy;exact hx
  ·have N3:=hy;rw[Mem.dk _ _ e]at N3;refine(h.j7 i y N3).mono (λ_ hb=>hb) hw (λ_ hi=>hi) qf rfl (λb' o' n' ia=>ho b' (λe'=>?_));subst e';exact e (h.inj i id y x b' o' n' o n N3 hm ia eN)
 ·intro i y b' o' n' hy ia;obtain⟨y',nf⟩:=qW i y hy;rw[jH];exact h.own i y' b' o' n' nf ia
 ·intro i i' y y' b' o' n' DJ NS hy nf hb ia;obtain⟨z,hz⟩:=qW i y hy;obtain⟨z',Av⟩:=qW i' y' nf;exact h.inj i i' z z' b' o' n' DJ NS hz Av hb ia
 ·intro y v hy;exact(h.dB y v hy).mono (λ_ hb=>hb) hw (λ_ hi=>hi) qf
theorem Ez{k:SK}{x:AV}{K:AV->Option R}(h:qu k x K=some r):∃x',K x'=some r/\∀w F v,Rel w F x v->Rel w F x' v:=by
 cases k with
 | int k=>obtain⟨n,rfl,h'⟩:=gr h;exact⟨_,h',λ_ _ _ h=>h⟩
 | bool=>obtain⟨n,rfl,h'⟩:=jy h;exact⟨_,h',λ_ _ _ h=>h⟩
 | str=>obtain⟨n,rfl,h'⟩:=gp h;exact⟨_,h',λ_ _ _ h=>h⟩
 | slice fl sz=>
  simp only[qu]at h;unfold gq at h;split at h
  ·exact⟨_,h,λw F v hv=>by cases hv;exact .uL _ _⟩
  ·rename_i gk im xs;obtain⟨h1,h⟩:=cV h;rw[ae]at h1;have e1:gk=fl:=by simpa using h1.1
   have e2:im=sz:=aj h1.2;subst e1;subst e2;exact⟨_,h,λ_ _ _ h=>h⟩
  ·cases h
 | any=>exact⟨x,h,λ_ _ _ h=>h⟩
theorem wg:∀(ks:List SK) (cs:List AV) (K:List AV->Option R),u3 ks cs K=some r->
  ∃jh : List AV,K jh=some r/\jh.length=ks.length/\ks.length<=cs.length/\∀(j:Nat) (c' : AV),jh[j]?=some c'->∃c:AV,cs[j]?=some c/\∀w F v,Rel w F c v->Rel w F c' v
 | [],cs,K,h=>⟨[],h,rfl,cr _,λj c' hc=>by simp at hc⟩
 | k::ks,cs,K,h=>by
  cases cs with
  | nil=>simp[u3,cM]at h
  | cons c cs=>
   simp only[u3,cM]at h;obtain⟨x',h,hx⟩:=Ez h;obtain⟨jh,h,h1,h2,h3⟩:=wg ks cs _ h;refine⟨x'::jh,h,by simp[h1],by simpa using h2,λj c' hc=>?_⟩;cases j with
   | zero=>simp at hc;subst hc;exact⟨c,rfl,hx⟩
   | succ j=>exact h3 j c' (by simpa using hc)
theorem uh{t:TI}{cs:List AV}{K:AV->Option R}(h:E7 t cs K=some r):(t.isAgg=true/\K (.agg cs)=some r)\/(t.isAgg=false/\∃c,cs=[c]/\K c=some r):=by
 unfold E7 at h;cases ht:t.isAgg with
 | true=>rw[ht]at h;exact .inl ⟨rfl,h⟩
 | false=>
  rw[ht]at h;simp only[cond_false]at h;split at h
  ·exact .inr ⟨rfl,_,rfl,h⟩
  ·cases h
theorem qI{t:TypeId}{ti:TI}(hT:nr P t ti)(ad:Addr)(vs:List Value)(hl:vs.length=ti.size)(hc:∀j v,vs[j]?=some v->w.cell? (ad.add j)=some v) :
  (ti.isAgg=true->(loadVar t ad).run P w=.ok (.agg vs.toArray) w)/\(ti.isAgg=false->∀v,vs=[v]->(loadVar t ad).run P w=.ok v w):=by
 constructor
 ·intro ha;have:=run_loadCells_list (P:=P) w ad vs hc;simp only[loadVar,cg,hT.nz w,b7,ha,cb,hT.iY w];rw[hl]at this;simp[this]
 ·intro ha v hv;subst hv;have:=hc 0 v rfl;simp only[Addr.add,cb]at this;simp[loadVar,hT.nz w,ha,this]
theorem iR(off:Nat)(xs:List AV):jV off xs=xs.drop off:=by cases off<;>rfl
theorem dW(sz:Nat):∀(xs:List AV),(∀x∈xs,x.cells.length=sz)->(df xs).length=xs.length*sz/\
  ∀i,i<xs.length->∀j,j<sz->(df xs)[i*sz+j]?=((xs.getD i .undef).cells)[j]?
 | [],_=>⟨by simp[df],λi hi=>by simp at hi⟩
 | x::xs,h=>by
  obtain⟨h1,h2⟩:=dW sz xs (λy hy=>h y (by simp[hy]));have hx:=h x (by simp);have hf:df (x::xs)=x.cells++df xs:=by simp[df]
  refine⟨by rw[hf,ag,h1,hx,aw,cd];omega,λi hi j hj=>?_⟩;cases i with
  | zero=>rw[hf,Nat.zero_mul,b6,aN (by omega)];rfl
  | succ i=>
   rw[hf,aQ (by rw[hx,cd];omega),hx,show(i+1)*sz+j - sz=i*sz+j by rw[cd];omega];exact h2 i (by simpa using hi) j hj
theorem iz(b o j:Nat):(⟨b,o,none⟩:Addr).add j=⟨b,o+j,none⟩:=by unfold Addr.add;split<;>simp_all
theorem jd(ad:Addr)(i j:Nat):(ad.add i).add j=ad.add (i+j):=by
 unfold Addr.add;by_cases hi:i=0
 ·subst hi;simp
 ·by_cases hj:j=0
  ·subst hj;simp
  ·simp[hi,hj,Nat.add_assoc]
theorem cell_of{b k:Nat}{C:Array Value}{t:TypeId}{f:Nat × Nat}(h:w.heap[b]?=some (.cells C t f))(hk:k<C.size):w.cell? ⟨b,k,none⟩=some (C.getD k undef):=by
 simp[World.cell?,h,Array.getD,hk]
theorem HI(hG:dK P G){t:TypeId}{x:Operand}(ho:o.op=.load t x)(h:de W0 F0 U m L w μ F)(hE:Env G S a L)(hK:eU G o.op S m id K=some r):j0 P o a w W0 F0 U id L K r:=by
 rw[ho]at hK;simp only[eU]at hK;obtain⟨ti,ko,hK⟩:=cN hK;have hT:=hG.ti t ti ko;have hx:=hE.rel h x
 -- Lm is read,cell by cell
 have fin:∀(ad:Addr) (cs:List AV) (u:Nat->Value),a.eval x=.pointer (some ad)->cs.length=ti.size->(∀j,j<cs.length->w.cell? (ad.add j)=some (u j))->
   (∀j c,cs[j]?=some c->eS w F μ m U c (u j))->(E7 ti cs λx=>K x m)=some r->j0 P o a w W0 F0 U id L K r:=by
  intro ad cs u hv hl hc hr hK;have Ou:((List.range ti.size).map u).length=ti.size:=by simp
  obtain⟨r1,r2⟩:=qI (w:=w) hT ad ((List.range ti.size).map u) Ou (λj v hj=>by
   simp only[aL,aA]at hj;obtain⟨k,hk,rfl⟩:=hj;obtain⟨uU,rfl⟩:=aB.1 hk;simp at uU ⊢;exact hc _ (by omega))
  rcases uh hK with⟨ha,gV⟩|⟨ha,c,rfl,gV⟩
  ·refine .calc h (v:=.agg ((List.range ti.size).map u).toArray) (by simp[execOp,ho,hv,Instr.loadAt,Instr.sureAddr,r1 ha]) gV ⟨_,rfl,by simp[hl],λj c hj=>?_⟩
   have kZ : j<ti.size:=by rw[<-hl];exact(aB.1 hj).1
   have e:((List.range ti.size).map u).toArray.getD j undef=u j:=by simp[Array.getD,kZ]
   rw[e];exact hr j c hj
  ·have h1:ti.size=1:=hT.Lr ha;refine .calc h (v:=u 0) ?_ gV (dI (dE (hr 0 c rfl)))
   have:=r2 ha (u 0) (by rw[h1];rfl);simp[execOp,ho,hv,Instr.loadAt,Instr.sureAddr,this]
 have dC:∀(ad:Addr) (cs:List AV) (u:Nat->Value),a.eval x=.pointer (some ad)->(∀j,j<cs.length->w.cell? (ad.add j)=some (u j))->
   (∀j c,cs[j]?=some c->Rel w F c (u j))->(u3 ti.xU cs λcs=>E7 ti cs λx=>K x m)=some r->j0 P o a w W0 F0 U id L K r:=by
  intro ad cs u hv hc hr hK;obtain⟨jh,hK,h1,h2,h3⟩:=wg _ _ _ hK;refine fin ad jh u hv (by rw[h1,hT.NB]) (λj hj=>hc j (by omega)) (λj c' hj=>?_) hK;obtain⟨c,OE,lh⟩:=h3 j c' hj;exact eE (lh _ _ _ (hr j c OE))
 generalize hX:ev G S x=X at hK hx;split at hK
 ·rename_i j off;obtain⟨bl,hj,hK⟩:=cN hK;cases bl with
  | row _ _ _=>cases hK
  | box tb cs=>
   simp only at hK;obtain⟨hle,hK⟩:=cV hK;have hle:off+ti.size<=cs.length:=aD hle;obtain⟨_,hu,hp⟩:=hx;obtain⟨b,n,eN,hv⟩:=hp tb cs hj;obtain⟨b',C,f,dG,hh,zv,nG,hr⟩:=h.j7 j _ hj;rw[eN]at dG;simp only[aY,bF]at dG;obtain⟨rfl,_,rfl⟩:=dG;rw[iR]at hK;refine fin ⟨b,off,none⟩ ((cs.drop off).take ti.size) (λj=>C.getD (off+j) undef) hv (by simp;omega) (λj hj=>?_) (λj c hj=>?_) hK
   ·rw[iz];exact cell_of hh (by simp at hj;omega)
   ·have D5:j<ti.size:=by have:=(aB.1 hj).1;simp at this;omega
    rw[bN D5,bg]at hj;exact hr _ c hj
 ·rename_i j i off;obtain⟨bl,hj,hK⟩:=cN hK;cases bl with
  | box _ _=>cases hK
  | row fl sz xs=>
   simp only at hK;obtain⟨hle,hK⟩:=cV hK;have hle:off+ti.size<=sz:=aD hle;obtain⟨_,hu,hp⟩:=hx;obtain⟨hi,b,o',n,eN,hv⟩:=hp fl sz xs hj;obtain⟨hs,lq,gE⟩:=h.j7 j _ hj;rcases gE with⟨rfl,_⟩|⟨b',DJ,C,f,dG,hh,zv,nG,hr⟩
   ·simp at hi
   rw[eN]at dG;simp only[aY,bF]at dG;obtain⟨rfl,rfl,rfl⟩:=dG;rw[iR]at hK;obtain⟨X1,Sp⟩:=dW sz xs hs;have hlen:((xs.getD i .undef).cells).length=sz:=by
    have:xs.getD i .undef=xs[i]:=by simp[List.getD,hi]
    rw[this];exact hs _ (aX _)
   refine dC ⟨b,o'+i*sz+off,none⟩ ((xs.getD i .undef).cells.drop off) (λj=>C.getD (o'+(i*sz+(off+j))) undef) hv (λj hj=>?_) (λj c hj=>?_) hK
   ·rw[iz];have D5:off+j<sz:=by rw[aM,hlen]at hj;omega
    have Se:(i+1)*sz<=xs.length*sz:=aV _ hi;rw[cd]at Se;rw[show o'+i*sz+off+j=o'+(i*sz+(off+j)) by omega];exact cell_of hh (by omega)
   ·rw[bg]at hj;have D5:off+j<sz:=by have:=(aB.1 hj).1;omega
    rw[<-Sp i hi _ D5]at hj;exact hr _ c hj
 ·rename_i cs;obtain⟨_,hx⟩:=hx;generalize zD:a.eval x=av at hx;cases hx with|rd cs ad u _ hc hr=>exact dC ad cs u zD hc hr hK
 ·cases hK
end
def eh(μ:Mu)(m:Mem)(I:List Nat)(b:Nat):Prop:=∃id∈I,m id≠none/\∃o n,μ id=some (b,o,n)
section
variable {R:Type} {P:Program} {G:eH} {o:Oper} {a:Act} {w w' : World} {W0:eC} {F0 U F:Nat->Prop} {id:Nat} {L:AV->Value->Prop} {K:AV->Mem->Option R} {r:R} {m:Mem} {μ:Mu} {S:List AV}
theorem gF(ids:List Nat):∀(m:Mem) (i:Nat),lJ m ids i=if i∈ids then none else m i:=by
 induction ids with
 | nil=>intro m i;simp[lJ]
 | cons j ids ih=>
  intro m i;show lJ (m.fJ j none) ids i=_;rw[ih];by_cases h:i∈ids
  ·simp[h]
  ·by_cases e:i=j
   ·subst e;simp[h,Mem.dx]
   ·simp[h,e,Mem.dk _ _ e]
theorem de.freeze(h:de W0 F0 U m L w μ F)(ids:List Nat):de W0 F0 U (lJ m ids) L w μ (λb=>F b\/eh μ m ids b):=by
 have qf:∀i,U i->ec (m i) (lJ m ids i)/\(lJ m ids i≠none->μ i=μ i):=by
  intro i _;refine⟨?_,λ_=>rfl⟩;rw[gF];split
  ·cases m i with | none=>trivial | some y=>cases y<;>trivial
  ·exact .refl _
 have qW:∀i y,lJ m ids i=some y->m i=some y/\i ∉ ids:=by
  intro i y hy;rw[gF]at hy;split at hy
  ·cases hy
  ·rename_i hn;exact⟨hy,hn⟩
 have hF:∀b,F b->F b\/eh μ m ids b:=λb hb=>.inl hb;refine{ below:=h.below,dC:=?_,sub:=λb hb=>.inl (h.sub b hb),gl:=λb hb=>.inl (h.gl b hb),used:=λi y hy=>h.used i y (qW i y hy).1,j7:=?_,own:=?_,inj:=?_,dB:=?_ }
 ·rintro b (hb|⟨i,_,hn,o,n,hb⟩)
  ·exact h.dC b hb
  ·cases qg:m i with
   | none=>exact absurd qg hn
   | some y=>have:=h.own i y b o n qg hb;exact⟨this.2.1,.inr this.1⟩
 ·intro i y hy;exact(h.j7 i y (qW i y hy).1).mono hF (λ_ _=>rfl) (λ_ hi=>hi) qf rfl (λ_ _ _ _=>rfl)
 ·intro i y b o n hy hb;obtain⟨h1,h2⟩:=qW i y hy;have:=h.own i y b o n h1 hb;refine⟨this.1,this.2.1,?_⟩;rintro(hF|⟨j,hj,hn,o',n',ia⟩)
  ·exact this.2.2 hF
  ·cases Uy:m j with
   | none=>exact hn Uy
   | some z=>exact h2 (h.inj i j y z b o n o' n' h1 Uy hb ia ▸ hj)
 ·intro i i' y y' b o n o' n' hy nf hb ia;exact h.inj i i' y y' b o n o' n' (qW i y hy).1 (qW i' y' nf).1 hb ia
 ·intro y v hy;exact(h.dB y v hy).mono hF (λ_ _=>rfl) (λ_ hi=>hi) qf
theorem fU(sz:Nat):∀(n:Nat) (xs:List AV),(∀x∈xs,x.cells.length=sz)->df (xs.drop n)=(df xs).drop (n*sz)
 | 0,xs,_=>by simp
 | n+1,[],_=>by simp[df]
 | n+1,x::xs,h=>by
  have hf:df (x::xs)=x.cells++df xs:=by simp[df]
  rw[bP,fU sz n xs (λy hy=>h y (by simp[hy])),hf,cd,Nat.add_comm,<-bZ,List.drop_append_of_le_length (by rw[h x (by simp)];omega)];have:x.cells.drop sz=[]:=List.drop_eq_nil_of_le (by rw[h x (by simp)];omega);rw[this];rfl
theorem fg(sz:Nat)(n:Nat)(xs:List AV)(j:Nat)(c:AV)(h:(df (xs.take n))[j]?=some c):(df xs)[j]?=some c:=by
 have:df xs=df (xs.take n)++df (xs.drop n):=by simp[df,<-List.flatMap_append]
 rw[this,aN (aB.1 h).1];exact h
theorem lD(off:Nat)(l:Option Nat)(xs:List AV):rowOf off l xs=(xs.drop off).take (lenOf xs.length off l):=by
 cases l with
 | none=>
  simp only[lenOf,rowOf,iR];rw[b_ (by simp)]
 | some n=>rfl
theorem De{rp off:Nat}{l:Option Nat}{v:Value}{fl:Fl}{sz:Nat}{xs:List AV}(st:Bool)(h:de W0 F0 U m L w μ F)(hx:ij w F μ m U (.own rp off l) v)(hm:m rp=some (.row fl sz xs))(I:List Nat)(hI:rp∈I) :
  Rel w (λb=>F b\/eh μ m I b) (.sl ⟨fl.b,fl.te,st⟩ sz (rowOf off l xs)) v:=by
 obtain⟨_,hu,hx⟩:=hx;obtain⟨ad,cap,rfl,jg,hlen,hp⟩:=hx fl sz xs hm;obtain⟨hs,lq,gE⟩:=h.j7 rp _ hm;have qe:=lD off l xs;rw[qe];generalize hn:lenOf xs.length off l=n at *;have hl:((xs.drop off).take n).length=n:=by simp;omega
 have xV : ∀x∈(xs.drop off).take n,x.cells.length=sz:=λx hx=>hs x (aW (aR hx));have xq : ∀x∈df ((xs.drop off).take n),uB ⟨fl.b,fl.te,st⟩ x:=by
  intro x hx;simp only[df,aS]at hx;obtain⟨y,hy,hx⟩:=hx;exact lq x (by simp only[df,aS];exact⟨y,aW (aR hy),hx⟩)
 rcases hp with⟨rfl,rfl⟩|⟨b,o,nn,ad,eN,rfl,hb,dT⟩
 ·have:n=0:=by omega
  subst this;simp only[List.take_zero];exact .uL _ sz
 ·have hF:F ad.block\/eh μ m I ad.block:=.inr ⟨rp,hI,by simp[hm],o,nn,by rw[eN,hb]⟩;by_cases h0:n=0
  ·subst h0;have:=Rel.sl (w:=w) (F:=λb=>F b\/eh μ m I b) ⟨fl.b,fl.te,st⟩ sz [] ad cap (λ_=>undef) (λ_=>hF) (by simp) (by simp) (by simp[df]) (by simp[df]) (by simp[df]) (λ_ h=>absurd rfl h);simpa using this
  ·rcases dT with rfl|⟨rfl,D_⟩
   ·omega
   ·rcases gE with⟨rfl,dG⟩|⟨b',o',C,f,dG,hh,hC,nG,hr⟩
    ·rw[eN]at dG;cases dG
    ·rw[eN]at dG;simp only[aY,bF]at dG;obtain⟨rfl,rfl,rfl⟩:=dG;have key:=Rel.sl (w:=w) (F:=λb=>F b\/eh μ m I b) ⟨fl.b,fl.te,st⟩ sz ((xs.drop off).take n) ⟨b,o+off*sz,none⟩ cap (λj=>C.getD (o+(off*sz+j)) undef) (λ_=>hF) (by rw[hl];exact jg) xV xq ?_ ?_ (λ_ _=>rfl)
     ·rw[hl]at key;exact key
     ·intro j hj;rw[(dW sz _ xV).1,hl]at hj;rw[iz];have h1:(off+n)*sz<=xs.length*sz:=aV _ hlen;rw[bG]at h1;rw[show o+off*sz+j=o+(off*sz+j) by omega];exact cell_of hh (by omega)
     ·intro j c hj;have hj:=fg sz n _ j c hj;rw[fU sz off xs hs,bg]at hj;exact(hr _ c hj).mono (λb hb=>.inl hb) (λ_ _=>rfl)
theorem Ak{rp off:Nat}{l:Option Nat}{v:Value}{fl:Fl}{sz:Nat}{xs:List AV}(h:de W0 F0 U m L w μ F)(hx:ij w F μ m U (.own rp off l) v)(hm:m rp=some (.row fl sz xs))(I:List Nat)(hI:rp∈I) :
 Rel w (λb=>F b\/eh μ m I b) (.sl fl sz (rowOf off l xs)) v:=De fl.st h hx hm I hI
theorem oO{x y:AV}{v:Value}(h:de W0 F0 U m L w μ F)(hx:eS w F μ m U x v)(hv:lx m x=some y)(I:List Nat)(hI:∀i∈jT x,i∈I) :
  Rel w (λb=>F b\/eh μ m I b) y v:=by
 have flat:ij w F μ m U x v->(∀id off l,x≠.own id off l)->(∀id off,x≠.ptr id off)->(∀id i off,x≠.qt id i off)->(∀fl sz xs,x≠.fr fl sz xs)->(∀id,x≠.bs id)->Rel w F x v:=by
  intro hx h1 h2 h3 h4 h5;obtain⟨_,hx⟩:=hx;cases x<;>first|exact hx|exact absurd rfl (h1 _ _ _)|exact absurd rfl (h2 _ _)|exact absurd rfl (h3 _ _ _)|exact absurd rfl (h4 _ _ _)|exact absurd rfl (h5 _)
 cases x with
 | own rp off l=>
  simp only[lx,ig]at hv;split at hv
  ·rename_i fl sz xs hm;cases hv;exact Ak h hx hm I (hI rp (by simp[jT]))
  ·cases hv
 | ptr _ _=>cases hv
 | qt _ _ _=>cases hv
 | fr _ _ _=>cases hv
 | undef=>cases hv
 | bs _=>cases hv
 | fn _ _=>cases hv
 | dU _=>cases hv
 | agg _=>cases hv
 | _=>
  simp only[lx]at hv;cases hv;exact(flat hx (by intros;simp) (by intros;simp) (by intros;simp) (by intros;simp) (by intros;simp)).mono (λb hb=>.inl hb) (λ_ _=>rfl)
theorem oP(h:de W0 F0 U m L w μ F)(I:List Nat):∀(cs ys:List AV) (u:Nat->Value),nN m cs=some ys->(∀j c,cs[j]?=some c->eS w F μ m U c (u j))->(∀i∈cs.flatMap jT,i∈I)->
  ys.length=cs.length/\∀j c,ys[j]?=some c->Rel w (λb=>F b\/eh μ m I b) c (u j)
 | [],ys,u,hv,_,_=>by simp[nN]at hv;subst hv;exact⟨rfl,λj c hc=>by simp at hc⟩
 | x::r,ys,u,hv,hr,hI=>by
  simp only[nN]at hv;split at hv
  ·rename_i y s hy hs;cases hv;obtain⟨h1,h2⟩:=oP h I r s (λj=>u (j+1)) hs (λj c hc=>hr (j+1) c (by simpa using hc)) (λi hi=>hI i (by simp at hi ⊢;exact .inr hi));refine⟨by simp[h1],λj c hc=>?_⟩;cases j with
   | zero=>simp at hc;subst hc;exact oO h (hr 0 x rfl) hy I (λi hi=>hI i (by simp;exact .inl hi))
   | succ j=>exact h2 j c (by simpa using hc)
  ·cases hv
end
section
variable {R:Type} {P:Program} {G:eH} {o:Oper} {a:Act} {w w' : World} {W0:eC} {F0 U F:Nat->Prop} {id:Nat} {L:AV->Value->Prop} {K:AV->Mem->Option R} {r:R} {m:Mem} {μ:Mu} {S:List AV}
theorem yh{x y:AV}{v:Value}(h:de W0 F0 U m L w μ F)(hx:eS w F μ m U x v)(hv:sr m x=some y)(I:List Nat)(hI:∀i∈tH m x,i∈I) :
  Rel w (λb=>F b\/eh μ m I b) y v:=by
 cases x with
 | ptr rp off=>
  simp only[sr]at hv;split at hv
  ·rename_i tb cs hm;rw[aA]at hv;obtain⟨ys,qe,rfl⟩:=hv;obtain⟨_,hu,hx⟩:=hx;obtain⟨b,n,eN,rfl⟩:=hx tb cs hm;obtain⟨b',C,f,dG,hh,hl,hf,hr⟩:=h.j7 rp _ hm;rw[eN]at dG;simp only[aY,bF]at dG;obtain⟨rfl,_,rfl⟩:=dG;obtain⟨h1,h2⟩:=oP h I (cs.drop off) ys (λj=>C.getD (off+j) undef) qe (λj c hc=>by rw[bg]at hc;exact hr _ c hc)
    (λi hi=>hI i (by
     simp only[tH,hm,br];simp only[aS]at hi ⊢;obtain⟨c,hc,hi⟩:=hi;exact .inr ⟨c,aW hc,hi⟩))
   refine .rd ys ⟨b,off,none⟩ (λj=>C.getD (off+j) undef) (.inr ⟨rp,hI rp (by simp[tH]),by simp[hm],0,C.size,eN⟩) (λj hj=>?_) h2;rw[iz];rw[h1,aM]at hj;exact cell_of hh (by omega)
  ·cases hv
 | _=>exact oO h hx hv I (λi hi=>hI i (by simpa[tH]using hi))
theorem vf(h:de W0 F0 U m L w μ F)(I:List Nat):∀(cs ys:List AV) (u:Nat->Value),qA m cs=some ys->(∀j c,cs[j]?=some c->eS w F μ m U c (u j))->(∀i∈cs.flatMap (tH m),i∈I)->
  ys.length=cs.length/\∀j c,ys[j]?=some c->Rel w (λb=>F b\/eh μ m I b) c (u j)
 | [],ys,u,hv,_,_=>by simp[qA]at hv;subst hv;exact⟨rfl,λj c hc=>by simp at hc⟩
 | x::r,ys,u,hv,hr,hI=>by
  simp only[qA]at hv;split at hv
  ·rename_i y s hy hs;cases hv;obtain⟨h1,h2⟩:=vf h I r s (λj=>u (j+1)) hs (λj c hc=>hr (j+1) c (by simpa using hc)) (λi hi=>hI i (by simp at hi ⊢;exact .inr hi));refine⟨by simp[h1],λj c hc=>?_⟩;cases j with
   | zero=>simp at hc;subst hc;exact yh h (hr 0 x rfl) hy I (λi hi=>hI i (by simp;exact .inl hi))
   | succ j=>exact h2 j c (by simpa using hc)
  ·cases hv
theorem fk{x:AV}{v:Value}(h:ij w F μ m U x v):eS w F μ m U x v:=by
 cases x
 case fn f cs=>obtain⟨_,h⟩:=h;exact eE h
 all_goals exact h
theorem oQ{x y:AV}{v:Value}(h:de W0 F0 U m L w μ F)(hx:eB w F μ m U x v)(hv:fa m x=some y)(I:List Nat)(hI:∀i∈gS m x,i∈I) :
  Rel w (λb=>F b\/eh μ m I b) y v:=by
 cases x with
 | agg cs=>
  simp only[fa,aA]at hv;obtain⟨ys,qe,rfl⟩:=hv;obtain⟨vs,rfl,hl,hr⟩:=hx;obtain⟨h1,h2⟩:=oP h I cs ys (λj=>vs.getD j undef) qe hr (λi hi=>hI i hi);exact .agg ys vs (by rw[h1,hl]) h2
 | fn f cs=>
  simp only[fa,aA]at hv;obtain⟨ys,qe,rfl⟩:=hv;obtain⟨vs,CV,hl,hr⟩:=hx;obtain⟨h1,h2⟩:=vf h I cs ys (λj=>vs.getD j undef) qe (λj c hc=>fk (hr j c hc)) (λi hi=>hI i hi);exact .fn f ys vs v CV (by rw[h1,hl]) h2
 | dU _=>cases hv
 | _=>simp only[eB,kJ]at hx;exact yh h hx hv I hI
theorem pL(h:de W0 F0 U m L w μ F)(I:List Nat):∀(xs ys:List AV) (u:Nat->Value),j5 m xs=some ys->(∀j c,xs[j]?=some c->eB w F μ m U c (u j))->(∀i∈xs.flatMap (gS m),i∈I)->
  ys.length=xs.length/\∀j c,ys[j]?=some c->Rel w (λb=>F b\/eh μ m I b) c (u j)
 | [],ys,u,hv,_,_=>by simp[j5]at hv;subst hv;exact⟨rfl,λj c hc=>by simp at hc⟩
 | x::r,ys,u,hv,hr,hI=>by
  simp only[j5]at hv;split at hv
  ·rename_i y s hy hs;cases hv;obtain⟨h1,h2⟩:=pL h I r s (λj=>u (j+1)) hs (λj c hc=>hr (j+1) c (by simpa using hc)) (λi hi=>hI i (by simp at hi ⊢;exact .inr hi));refine⟨by simp[h1],λj c hc=>?_⟩;cases j with
   | zero=>simp at hc;subst hc;exact oQ h (hr 0 x rfl) hy I (λi hi=>hI i (by simp;exact .inl hi))
   | succ j=>exact h2 j c (by simpa using hc)
  ·cases hv
theorem vp{x:AV}{v:Value}(h:Rel w F x v)(gJ:x.cells.all AV.nD=true) :
  v.cells.size=x.cells.length/\(∀j c,x.cells[j]?=some c->Rel w F c (v.cells.getD j undef))/\∀u∈v.cells.toList,one u=true:=by
 have single:x.nD=true->x.cells=[x]->v.cells.size=x.cells.length/\(∀j c,x.cells[j]?=some c->Rel w F c (v.cells.getD j undef))/\∀u∈v.cells.toList,one u=true:=by
  intro hx hc;have h1:=h.lg hx;have ev:v.cells=#[v]:=by cases v<;>first|rfl|simp[one]at h1
  rw[hc,ev];refine⟨rfl,?_,by simpa using h1⟩;intro j c hj;cases j with
  | zero=>simp at hj;subst hj;exact h
  | succ j=>simp at hj
 cases x
 case agg cs=>
  cases h with | agg cs vs hl hr=>
  have D2 : ∀c∈cs,c.nD=true:=ay.1 gJ;refine⟨hl,hr,λu hu=>?_⟩;obtain⟨j,hj,rfl⟩:=List.getElem_of_mem hu;have kZ : j<vs.size:=by simpa[Value.cells]using hj
  have:=(hr j cs[j] (by rw[aP (by omega)])).lg (D2 _ (aX _));simpa[Array.getD,kZ,Value.cells]using this
 all_goals first|exact single rfl rfl|(simp[AV.cells,AV.nD]at gJ)
theorem Fu{x y:AV}{v:Value}(h:de W0 F0 U m L w μ F)(hx:eB w F μ m U x v)(hv:ly m x=some y)(I:List Nat)(hI:∀i∈h_ x,i∈I) :
  Rel w (λb=>F b\/eh μ m I b) y v:=by
 cases x with
 | agg cs=>
  simp only[ly,aA]at hv;obtain⟨ys,qe,rfl⟩:=hv;obtain⟨vs,rfl,hl,hr⟩:=hx;obtain⟨h1,h2⟩:=oP h I cs ys (λj=>vs.getD j undef) qe hr (λi hi=>hI i hi);exact .agg ys vs (by rw[h1,hl]) h2
 | dU _=>cases hv
 | _=>simp only[eB,kJ]at hx;exact oO h hx hv I hI
theorem vM{x y:AV}{v:Value}{ti:TI}(h:de W0 F0 U m L w μ F)(hx:eB w F μ m U x v)(hv:lG m ti x=some y)(I:List Nat)(hI:∀i∈h_ x,i∈I) :
  Rel w (λb=>F b\/eh μ m I b) y v/\y.cells.length=ti.size/\y.cells.all AV.nD=true/\(ti.nb=true->∀c∈y.cells,c.MU=true):=by
 unfold lG at hv;split at hv
 ·rename_i z hz;obtain⟨hc,hv⟩:=cV hv;cases hv;rw[ae,ae]at hc;obtain⟨⟨h1,h2⟩,h3⟩:=hc;refine⟨?_,aj h1,h2,λhf=>?_⟩
  ·exact Fu h hx hz I hI
  ·rw[hf]at h3;simpa using h3
 ·cases hv
end
section
variable {R:Type} {P:Program} {G:eH} {o:Oper} {a:Act} {w w' : World} {W0:eC} {F0 U F:Nat->Prop} {id:Nat} {L:AV->Value->Prop} {K:AV->Mem->Option R} {r:R} {m:Mem} {μ:Mu} {S:List AV}
theorem A2:eB w F μ m U .undef undef:=⟨λh=>by simp[AV.nD]at h,.undef _⟩
theorem j0.unit{m' : Mem}{eM : Mu}{F' : Nat->Prop}(h:de W0 F0 U m' L w' eM F')(hr:(execOp a.eval o).run P w=.ok .skip w')(hK:K .undef m'=some r):j0 P o a w W0 F0 U id L K r:=by
 refine⟨.undef,m',undef,w',.inr ⟨hr,rfl⟩,hK,eM,F',?_⟩;have h':=h.wider (U':=U8 U id) (λi hi=>.inl hi);have hp:∀y u,(L y u\/(y=.undef/\u=undef))->eB w' F' eM m' (U8 U id) y u:=by
  rintro y u (hy|⟨rfl,rfl⟩)
  ·exact h'.dB y u hy
  ·exact A2
 exact{ h' with dB:=hp }
theorem oX{t:TypeId}{ti:TI}(hT:nr P t ti){b off:Nat}{C:Array Value}{tt:TypeId}{f:Nat × Nat}(hh:w.heap[b]?=some (.cells C tt f))(hf:free f C.size)
  (v:Value) (hl:v.cells.size=ti.size) (h1:∀u∈v.cells.toList,one u=true) (hle:off+ti.size<=C.size) :
  (storeVar t ⟨b,off,none⟩ v).run P w=.ok () (w.setCells b off v.cells.toList):=by
 have:=run_storeCells_cells (P:=P) b off v.cells.toList 0 w
  (λj hj=>by rw[cell_of hh (by simp at hj;omega)];rfl)
  (λj hj=>by
   have hj:j<v.cells.size:=by simpa using hj
   have:=hf.at (off+0+j) (by omega);simp only[World.frozen?,hh];rw[Bool.and_eq_false_iff];by_cases e:f.1<=off+0+j
   ·right;simp;exact Nat.le_of_not_lt (λh=>this ⟨e,h⟩)
   ·left;simp;omega)
  (λu hu=>by rw[jE];exact h1 u hu)
 simp only[storeVar,cg,hT.iY w,b7];rw[if_neg (by omega),this];rfl
theorem Hw(sz i:Nat)(xs:List AV)(y:AV)(hs:∀x∈xs,x.cells.length=sz)(hy:y.cells.length=sz)(hi:i<xs.length)(h0:1<=sz) :
  (∀x∈xs.set i y,x.cells.length=sz)/\∀k c,(df (xs.set i y))[k]?=some c->(i*sz<=k/\k<i*sz+sz/\y.cells[k - i*sz]?=some c)\/((k<i*sz\/i*sz+sz<=k)/\(df xs)[k]?=some c):=by
 have xV : ∀x∈xs.set i y,x.cells.length=sz:=by
  intro x hx;rcases List.mem_or_eq_of_mem_set hx with hx|rfl
  ·exact hs x hx
  ·exact hy
 refine⟨xV,λk c hk=>?_⟩;obtain⟨h1,h2⟩:=dW sz _ xV;obtain⟨h3,h4⟩:=dW sz _ hs;have JB:=(aB.1 hk).1;rw[h1,List.length_set]at JB;have hq:k / sz<xs.length:=Nat.div_lt_of_lt_mul (by rw[Nat.mul_comm];exact JB);have hr:k % sz<sz:=Nat.mod_lt _ (by omega);have rU : k / sz*sz+k % sz=k:=by rw[Nat.mul_comm];exact Nat.div_add_mod k sz
 have e:=h2 (k / sz) (by simpa using hq) (k % sz) hr;rw[rU,hk]at e;by_cases RW:k / sz=i
 ·left;rw[RW]at e rU;have:(xs.set i y).getD i .undef=y:=by simp[List.getD,hi]
  rw[this]at e;refine⟨by omega,by omega,?_⟩;rw[show k - i*sz=k % sz by omega];exact e.symm
 ·right;have:(xs.set i y).getD (k / sz) .undef=xs.getD (k / sz) .undef:=by
   simp[List.getD,List.getElem?_set_ne (Ne.symm RW)]
  rw[this,<-h4 (k / sz) hq (k % sz) hr,rU]at e;refine⟨?_,e.symm⟩;rcases Nat.lt_or_gt_of_ne RW with eG|Sj
  ·left;have:(k / sz+1)*sz<=i*sz:=aV _ eG;rw[cd]at this;omega
  ·right;have:(i+1)*sz<=(k / sz)*sz:=aV _ Sj;rw[cd]at this;omega
theorem En(hG:dK P G){t:TypeId}{x y:Operand}(ho:o.op=.store t x y)(h:de W0 F0 U m L w μ F)(hE:Env G S a L)(hK:eU G o.op S m id K=some r):j0 P o a w W0 F0 U id L K r:=by
 rw[ho]at hK;simp only[eU]at hK;obtain⟨ti,ko,hK⟩:=cN hK;have hT:=hG.ti t ti ko;have hx:=hE.rel h x;have hy:=hE.rel h y;generalize hX:ev G S x=X at hK hx;generalize hY:ev G S y=Y at hK hy;split at hK
 ·rename_i j off;obtain⟨bl,hj,hK⟩:=cN hK;cases bl with
  | row _ _ _=>cases hK
  | box tb cs=>
   simp only at hK;obtain⟨hc,hK⟩:=cV hK;rw[ae,ae]at hc;obtain⟨⟨hle,hlen⟩,gJ⟩:=hc;have hle:off+ti.size<=cs.length:=aD hle;have hlen:Y.cells.length=ti.size:=aj hlen;obtain⟨h1,h2,h3⟩:=nJ hy gJ;obtain⟨_,hu,hp⟩:=hx;obtain⟨b,n,eN,hv⟩:=hp tb cs hj;obtain⟨b',C,f,dG,hh,zv,nG,hr⟩:=h.j7 j _ hj;rw[eN]at dG;simp only[aY,bF]at dG;obtain⟨rfl,_,rfl⟩:=dG;have fc:=h.own j _ b 0 C.size hj eN;have uV:(bif Nat.beq off 0&&Nat.beq ti.size cs.length then Y.cells else cs.take off++Y.cells++cs.drop (off+ti.size))=cs.take off++Y.cells++cs.drop (off+ti.size):=by
    cases hb:(Nat.beq off 0&&Nat.beq ti.size cs.length)with
    | false=>rfl
    | true=>
     rw[ae]at hb;have e1:off=0:=aj hb.1;have e2:ti.size=cs.length:=aj hb.2;subst e1;simp[e2]
   rw[uV]at hK;have fZ:(cs.take off++Y.cells++cs.drop (off+ti.size)).length=cs.length:=by simp;omega
   have xp:(a.eval y).cells.toList.length=ti.size:=by simp[h1,hlen]
   refine .unit (w':=w.setCells b off (a.eval y).cells.toList) (h.store hj eN (x':=.box tb (cs.take off++Y.cells++cs.drop (off+ti.size))) ?_ ?_ ?_ ?_ ?_) ?_ hK
   ·exact fZ
   ·exact gQ b _ _ _ h.below fc.1
   ·exact setCells_size b _ _ _
   ·intro k hk;exact eO b _ _ _ k hk
   ·have qf:=yu (U:=U) (μ:=μ) (x':=.box tb (cs.take off++Y.cells++cs.drop (off+ti.size))) hj fZ;have hw:∀k,F k->(w.setCells b off (a.eval y).cells.toList).heap[k]?=w.heap[k]?:=λk hk=>eO b _ _ _ k (λe=>fc.2.2 (e ▸ hk));refine⟨b,j_ C off (a.eval y).cells.toList,f,by rw[d_];exact eN,gG b _ _ _ _ _ _ hh,by rw[d_,fZ];exact zv,by rw[d_];exact nG,λk c hk=>?_⟩;have old:(k<off\/off+ti.size<=k)->cs[k]?=some c->eS (w.setCells b off (a.eval y).cells.toList) F μ (m.fJ j (some (.box tb (cs.take off++Y.cells++cs.drop (off+ti.size))))) U c ((j_ C off (a.eval y).cells.toList).getD k undef):=by
     intro XQ XT;rw[gb _ _ _ _ (by rw[xp];exact XQ)];exact(hr k c XT).mono (λ_ hb=>hb) hw (λ_ hi=>hi) qf
    by_cases k1:k<off
    ·rw[bH,aN (by simp;omega),bN k1]at hk;exact old (.inl k1) hk
    ·by_cases k2:k<off+ti.size
     ·rw[bH,aQ (by simp;omega),aN (by simp;omega)]at hk;have L4:(cs.take off).length=off:=by simp;omega
      rw[L4]at hk;have:=h2 _ _ hk;have e:(j_ C off (a.eval y).cells.toList).getD k undef=(a.eval y).cells.getD (k - off) undef:=by
       have eG:k - off<(a.eval y).cells.toList.length:=by rw[xp];omega
       have:=oN (a.eval y).cells.toList C off (k - off) eG (by rw[xp];omega);rw[show off+(k - off)=k by omega]at this;rw[this];simp at eG;simp[Array.getD,eG]
      rw[e];exact this.mono (λ_ hb=>hb) hw (λ_ hi=>hi) qf
     ·rw[bH,aQ (by simp;omega),aQ (by simp;omega),bg]at hk;have L4:(cs.take off).length=off:=by simp;omega
      rw[L4,hlen,show off+ti.size+(k - off - ti.size)=k by omega]at hk;exact old (.inr (by omega)) hk
   ·have:=oX hT hh nG (a.eval y) (by rw[h1,hlen]) h3 (by omega:off+ti.size<=C.size);simp[execOp,ho,hv,Instr.storeAt,Instr.sureAddr,this]
 ·rename_i j i off;obtain⟨bl,hj,hK⟩:=cN hK;cases bl with
  | box _ _=>cases hK
  | row fl sz xs=>
   simp only at hK;obtain⟨hc,xW⟩:=cV hK;simp only[ae]at hc;obtain⟨⟨⟨⟨c1,c2⟩,c3⟩,c4⟩,c5⟩:=hc;have c1:off=0:=aj c1;have c2:ti.size=sz:=aj c2;have c5:1<=sz:=aD c5;subst c1;obtain⟨yv,P4,Yh⟩:=cN xW;obtain⟨k1,k2,k3,k4⟩:=vM h hy P4 (h_ Y) (λi hi=>hi);obtain⟨h1,h2,h3⟩:=vp k1 k3;obtain⟨_,hu,hp⟩:=hx;obtain⟨hi,b,o',n,eN,hv⟩:=hp fl sz xs hj;obtain⟨hs,lq,gE⟩:=h.j7 j _ hj;rcases gE with⟨rfl,_⟩|⟨b',DJ,C,f,dG,hh,zv,nG,hr⟩
   ·simp at hi
   rw[eN]at dG;simp only[aY,bF]at dG;obtain⟨rfl,rfl,rfl⟩:=dG;have fc:=h.own j _ b o' C.size hj eN;have hz:=h.freeze (h_ Y);have UE:lJ m (h_ Y) j=some (.row fl sz xs):=by
    rw[gF];have:j ∉ h_ Y:=by simpa using c4
    simp[this,hj]
   have Om:=hz.own j _ b o' C.size UE eN;obtain⟨Qh,X2⟩:=Hw sz i xs yv hs (by rw[k2,c2]) hi c5;have Se:(i+1)*sz<=xs.length*sz:=aV _ hi;rw[cd]at Se;have xp:(a.eval y).cells.toList.length=sz:=by simp[h1,k2,c2]
   refine .unit (w':=w.setCells b (o'+i*sz+0) (a.eval y).cells.toList) (hz.store UE eN (x':=.row fl sz (xs.set i yv)) ?_ ?_ ?_ ?_ ?_) ?_ Yh
   ·exact⟨rfl,by simp⟩
   ·exact gQ b _ _ _ h.below fc.1
   ·exact setCells_size b _ _ _
   ·intro k hk;exact eO b _ _ _ k hk
   ·have hw:∀k,(F k\/eh μ m (h_ Y) k)->(w.setCells b (o'+i*sz+0) (a.eval y).cells.toList).heap[k]?=w.heap[k]?:=λk hk=>eO b _ _ _ k (λe=>Om.2.2 (e ▸ hk));refine⟨Qh,λx hx=>?_,.inr ⟨b,o',j_ C (o'+i*sz+0) (a.eval y).cells.toList,f,by rw[d_];exact eN,gG b _ _ _ _ _ _ hh,by rw[d_,List.length_set];exact zv,by rw[d_];exact nG,λk c hk=>?_⟩⟩
    ·simp only[df,aS]at hx;obtain⟨z,hz,hx⟩:=hx;rcases List.mem_or_eq_of_mem_set hz with hz|rfl
     ·exact lq x (by simp only[df,aS];exact⟨z,hz,hx⟩)
     ·exact⟨ay.1 k3 x hx,λhf=>by rw[hf]at c3;exact k4 (by simpa using c3) x hx⟩
    ·rcases X2 k c hk with⟨e1,e2,e3⟩|⟨e1,e2⟩
     ·have:=h2 _ _ e3;have eG:k - i*sz<(a.eval y).cells.toList.length:=by rw[xp];omega
      have e:=oN (a.eval y).cells.toList C (o'+i*sz+0) (k - i*sz) eG (by rw[xp];omega);rw[show o'+i*sz+0+(k - i*sz)=o'+k by omega]at e;rw[e];simp at eG;have e' : (a.eval y).cells.getD (k - i*sz) undef=(a.eval y).cells.toList[k - i*sz]:=by simp[Array.getD,eG]
      rw[<-e'];exact this.mono (λ_ hb=>hb) hw
     ·rw[gb _ _ _ _ (by rw[xp];omega)];exact(hr k c e2).mono (λb hb=>.inl hb) (λb hb=>hw b (.inl hb))
   ·have:=oX hT hh nG (a.eval y) (by rw[h1,k2]) h3 (by omega:o'+i*sz+0+ti.size<=C.size);simp only[bQ]at this;simp[execOp,ho,hv,Instr.storeAt,Instr.sureAddr,this]
 ·cases hK
end
section
variable {R:Type} {P:Program} {G:eH} {o:Oper} {a:Act} {w w' : World} {W0:eC} {F0 U F:Nat->Prop} {id:Nat} {L:AV->Value->Prop} {K:AV->Mem->Option R} {r:R} {m:Mem} {μ:Mu} {S:List AV}
theorem oT{t:TypeId}{ti:TI}(hT:nr P t ti){fs:List (TypeId × Nat)}(hk:ti.kd=.struct fs){f:Nat}{ft:TypeId}{fo:Nat}(hf:fs[f]?=some (ft,fo)) :
  ∃fields zN,P.underlying t=some (.struct fields)/\fields[f]?=some zN/\zN.type=ft/\zN.offset=fo:=by
 obtain⟨d,hd,fv⟩:=hT.rF;rw[hk]at fv;cases d<;>simp[e8]at fv;rename_i fields;rw[<-fv,aL,aA]at hf;obtain⟨zN,h1,h2⟩:=hf;simp only[bF]at h2;exact⟨fields,zN,hd,by simpa using h1,h2.1,h2.2⟩
theorem addr_add(b o n:Nat):(⟨b,o,none⟩:Addr).add n=⟨b,o+n,none⟩:=iz b o n
theorem uZ(hG:dK P G){t:TypeId}{x:Operand}{f:Nat}(ho:o.op=.fieldAddr t x f)(h:de W0 F0 U m L w μ F)(hE:Env G S a L)(hK:eU G o.op S m id K=some r) :
  j0 P o a w W0 F0 U id L K r:=by
 rw[ho]at hK;simp only[eU]at hK;obtain⟨ti,ko,hK⟩:=cN hK;have hT:=hG.ti t ti ko;have hx:=hE.rel h x;split at hK
 ·rename_i fs fv;obtain⟨⟨ft,fo⟩,hf,hK⟩:=cN hK;obtain⟨fields,zN,hu,G7,rfl,rfl⟩:=oT hT fv hf;simp only at hK;obtain⟨fi,Sq,hK⟩:=cN hK;obtain⟨h1,hK⟩:=cV hK;have h1:1<=fi.size:=aD h1;have OL:=hG.ti _ _ Sq;have go:∀ad,a.eval x=.pointer (some ad)->(execOp a.eval o).run P w=.ok (.value (.pointer (some (ad.add zN.offset)))) w:=by
   intro ad hv;have fN:¬ fi.size=0:=by omega
   simp[execOp,ho,hv,Instr.fieldAt,underlying,hu,G7,Instr.sureAddr,fieldPlace,OL.iY w,fN]
  generalize hX:ev G S x=X at hK hx;split at hK
  ·rename_i j off;obtain⟨bl,hj,hK⟩:=cN hK;cases bl with
   | row _ _ _=>cases hK
   | box tb cs=>
    obtain⟨_,L3,hp⟩:=hx;obtain⟨b,n,eN,hv⟩:=hp tb cs hj;refine .calc h (go _ hv) hK ⟨λ_=>rfl,L3,λuJ jh kZ=>⟨b,n,eN,?_⟩⟩
    rw[addr_add,Nat.add_comm]
  ·rename_i j i off;obtain⟨bl,hj,hK⟩:=cN hK;cases bl with
   | box _ _=>cases hK
   | row fl sz xs=>
    obtain⟨_,L3,hp⟩:=hx;obtain⟨hi,b,o',n,eN,hv⟩:=hp fl sz xs hj;refine .calc h (go _ hv) hK ⟨λ_=>rfl,L3,λgk im mO kZ=>?_⟩
    rw[hj]at kZ;cases kZ;exact⟨hi,b,o',n,eN,by rw[addr_add,Nat.add_assoc,Nat.add_comm off]⟩
  ·rename_i cs;obtain⟨_,hx⟩:=hx;generalize zD:a.eval x=av at hx;cases hx with|rd cs ad u hF hc hr=>
   refine .calc h (go _ zD) hK ⟨λ_=>rfl,?_⟩
   rw[iR];refine .rd _ _ (λj=>u (zN.offset+j)) (by rw[iS];exact hF) (λj hj=>?_) (λj c hj=>?_)
   ·rw[jd];exact hc _ (by simp at hj;omega)
   ·rw[bg]at hj;exact hr _ c hj
  ·cases hK
 ·cases hK
theorem Er(hG:dK P G){t:TypeId}{x:Operand}{f:Nat}(ho:o.op=.field t x f)(h:de W0 F0 U m L w μ F)(hE:Env G S a L)(hK:eU G o.op S m id K=some r) :
  j0 P o a w W0 F0 U id L K r:=by
 rw[ho]at hK;simp only[eU]at hK;obtain⟨ti,ko,hK⟩:=cN hK;have hT:=hG.ti t ti ko;have hx:=hE.rel h x;split at hK
 ·rename_i fs fv;obtain⟨⟨ft,fo⟩,hf,hK⟩:=cN hK;obtain⟨fields,zN,hu,G7,rfl,rfl⟩:=oT hT fv hf;simp only at hK;obtain⟨fi,Sq,hK⟩:=cN hK;have OL:=hG.ti _ _ Sq;generalize hX:ev G S x=X at hK hx;split at hK
  ·rename_i cs;obtain⟨hle,hK⟩:=cV hK;have hle:zN.offset+fi.size<=cs.length:=aD hle;obtain⟨vs,hv,hl,hr⟩:=hx;obtain⟨z,hz,Xj,Xi⟩:=sT (w:=w) OL vs zN.offset (by omega) OL.Lr;have eV:(execOp a.eval o).run P w=.ok (.value z) w:=by
    simp[execOp,ho,hv,Instr.field,underlying,hu,G7,asAgg,hz]
   rw[iR]at hK;rcases uh hK with⟨ha,hK⟩|⟨ha,c,hc,hK⟩
   ·obtain⟨e1,e2⟩:=Xj ha;refine .calc h eV hK ⟨z.cells,e1,?_,λj c hj=>?_⟩
    ·rw[<-bo,e2];simp;omega
    ·have D5:j<fi.size:=by have:=(aB.1 hj).1;simp at this;omega
     rw[bN D5,bg]at hj;have e3:z.cells.getD j undef=vs.getD (zN.offset+j) undef:=by
      have:z.cells.toList[j]?=vs.toList[zN.offset+j]?:=by rw[e2,bN D5,bg]
      simp only[cm]at this;simp[aI,this]
     rw[e3];exact hr _ c hj
   ·have h1:=OL.Lr ha;rw[h1]at hc;have hj:cs[zN.offset]?=some c:=by
     have:((cs.drop zN.offset).take 1)[0]?=some c:=by rw[hc];rfl
     rw[bN (by omega),bg]at this;exact this
    refine .calc h eV hK ?_
    rw[Xi ha];exact dI (dE (hr _ c hj))
  ·cases hK
 ·cases hK
theorem kW(k:IntKind)(n:Int):(asIntOf (.int k n)).run P w=.ok (k,n) w:=rfl
theorem od{i:Int}{K:Nat->Option R}:∀{n:Nat},mz i n K=some r->∃q,q<n/\i=(q:Int)/\K q=some r
 | 0,h=>by cases h
 | n+1,h=>by
  simp only[mz]at h;cases hc:decide (i=(n:Int))with
  | true=>rw[hc]at h;exact⟨n,by omega,bc hc,h⟩
  | false=>
   rw[hc]at h;obtain⟨q,h1,h2⟩:=od h;exact⟨q,by omega,h2⟩
theorem A5{n:Nat}{i:Int}{K:Nat->Option R}(h:vy n i K=some r):0<=i/\i<(n:Int)/\K i.toNat=some r:=by
 unfold vy at h;cases hc:Nat.ble n 16 with
 | true=>
  rw[hc]at h;obtain⟨q,h1,h2,h3⟩:=od h;subst h2;exact⟨by omega,by omega,by simpa using h3⟩
 | false=>
  rw[hc]at h;exact iW h
theorem uY(hG:dK P G){t:TypeId}{x i:Operand}(ho:o.op=.indexAddr t x i)(h:de W0 F0 U m L w μ F)(hE:Env G S a L)(hK:eU G o.op S m id K=some r) :
  j0 P o a w W0 F0 U id L K r:=by
 rw[ho]at hK;simp only[eU]at hK;obtain⟨ti,ko,hK⟩:=cN hK;have hT:=hG.ti t ti ko;obtain⟨d,hd,hk⟩:=hT.rF;have hx:=hE.rel h x;have hi:=hE.rel h i;generalize hX:ev G S x=X at hK hx;split at hK
 ·rename_i e fv;rw[fv]at hk;cases d<;>simp[e8]at hk;rename_i e';subst hk;obtain⟨ei,qj,gV⟩:=cN hK;clear hK;have Mk:=hG.ti _ _ qj;obtain⟨k,n,Mb,hK⟩:=fE gV;clear gV;rw[Mb]at hi;have Mb:=(dF hi).1;have go:∀ad len cap,a.eval x=.slice (some ad) len cap->0<=n->n<len->(execOp a.eval o).run P w=.ok (.value (.pointer (some (ad.add (n.toNat*ei.size))))) w:=by
   intro ad len cap hv h0 h1;have hc:0<=n/\n<(len:Int):=⟨h0,h1⟩;simp[execOp,ho,hv,Mb,Instr.indexAt,kW,underlying,hd,hc,Mk.iY w]
  cases X
  case sl fl sz xs=>
   simp only at hK;obtain⟨hs,gV⟩:=cV hK;clear hK;have hs:=aj hs;obtain⟨h0,h1,hK⟩:=iW gV;clear gV;obtain⟨_,hx⟩:=hx;generalize zD:a.eval x=av at hx;cases hx with
   | uL=>simp at h1;omega
   | sl fl sz xs ad cap u hF Mf jH lq hc hr=>
    obtain⟨f1,f2⟩:=dW sz xs jH;have hn:n.toNat<xs.length:=by omega
    have hlen:((xs.getD n.toNat .undef).cells).length=sz:=by
     have:xs.getD n.toNat .undef=xs[n.toNat]:=by simp[List.getD,hn]
     rw[this];exact jH _ (aX _)
    have hb:(n.toNat+1)*sz<=xs.length*sz:=aV _ hn;rw[cd]at hb;refine .calc h (go ad _ cap zD h0 h1) hK ⟨λ_=>rfl,?_⟩
    rw[<-hs];refine .rd _ _ (λj=>u (n.toNat*sz+j)) (by rw[iS];exact hF (by rintro rfl;simp at hn)) (λj hj=>?_) (λj c hj=>?_)
    ·rw[jd];rw[hlen]at hj;exact hc _ (by omega)
    ·have D5:j<sz:=by have:=(aB.1 hj).1;omega
     rw[<-f2 _ hn _ D5]at hj;exact hr _ c hj
  case own j off l=>
   simp only at hK;obtain⟨bl,hj,gV⟩:=cN hK;clear hK;cases bl with
   | box _ _=>cases gV
   | row fl sz xs=>
    simp only at gV;obtain⟨hs,xW⟩:=cV gV;clear gV;have hs:=aj hs;obtain⟨h0,h1,hK⟩:=iW xW;clear xW;obtain⟨_,hu,hp⟩:=hx;obtain⟨ad,cap,hv,jg,hlen,dT⟩:=hp fl sz xs hj;rcases dT with⟨_,rfl⟩|⟨b,o',nn,xR,eN,rfl,AA,dT⟩
    ·omega
    rcases dT with rfl|⟨rfl,D_⟩
    ·omega
    refine .calc h (go _ _ cap hv h0 h1) hK ⟨λ_=>rfl,hu,λgk im mO kZ=>?_⟩
    rw[hj]at kZ;cases kZ;refine⟨by omega,b,o',nn,eN,?_⟩;rw[addr_add,<-hs,bG,bQ];congr 3;omega
  case bs j=>
   simp only at hK;obtain⟨bl,hj,gV⟩:=cN hK;clear hK;cases bl with
   | row _ _ _=>cases gV
   | box tb cs=>
    simp only at gV;obtain⟨hs,xW⟩:=cV gV;clear gV;have hs:=aj hs;obtain⟨q,hq,Zj,hK⟩:=od xW;clear xW;obtain⟨_,hu,hp⟩:=hx;obtain⟨b,nn,eN,hv⟩:=hp tb cs hj;refine .calc h (go _ _ _ hv (by omega) (by omega)) hK ⟨λ_=>rfl,hu,λuJ jh kZ=>⟨b,nn,eN,?_⟩⟩
    rw[addr_add,hs];congr 3;omega
  all_goals cases hK
 ·rename_i n e fv;rw[fv]at hk;cases d<;>simp[e8]at hk;rename_i n' e';obtain⟨uU,tK⟩:=hk;subst uU;subst tK;obtain⟨ei,qj,gV⟩:=cN hK;clear hK;have Mk:=hG.ti _ _ qj;obtain⟨k,i',Mb,hK⟩:=fE gV;clear gV;rw[Mb]at hi;have Mb:=(dF hi).1;have go:∀ad,a.eval x=.pointer (some ad)->0<=i'->i'<n->(execOp a.eval o).run P w=.ok (.value (.pointer (some (ad.add (i'.toNat*ei.size))))) w:=by
   intro ad hv h0 h1;have hc:0<=i'/\i'<(n:Int):=⟨h0,h1⟩;simp[execOp,ho,hv,Mb,Instr.indexAt,kW,underlying,hd,hc,Mk.iY w,Instr.sureAddr]
  cases X
  case ptr j off=>
   simp only at hK;obtain⟨bl,hj,gV⟩:=cN hK;clear hK;cases bl with
   | row _ _ _=>cases gV
   | box tb cs=>
    obtain⟨h0,h1,hK⟩:=A5 gV;clear gV;obtain⟨_,L3,hp⟩:=hx;obtain⟨b,nn,eN,hv⟩:=hp tb cs hj;refine .calc h (go _ hv h0 h1) hK ⟨λ_=>rfl,L3,λuJ jh kZ=>⟨b,nn,eN,?_⟩⟩
    rw[addr_add,Nat.add_comm]
  case rd cs=>
   simp only at hK;obtain⟨h0,h1,gV⟩:=iW hK;clear hK;obtain⟨_,hx⟩:=hx;generalize zD:a.eval x=av at hx;cases hx with|rd cs ad u hF hc hr=>
   refine .calc h (go _ zD h0 h1) gV ⟨λ_=>rfl,?_⟩
   rw[iR];refine .rd _ _ (λj=>u (i'.toNat*ei.size+j)) (by rw[iS];exact hF) (λj hj=>?_) (λj c hj=>?_)
   ·rw[jd];exact hc _ (by simp at hj;omega)
   ·rw[bg]at hj;exact hr _ c hj
  all_goals cases hK
 ·cases hK
theorem Ep(hG:dK P G){t:TypeId}{x i:Operand}(ho:o.op=.index t x i)(h:de W0 F0 U m L w μ F)(hE:Env G S a L)(hK:eU G o.op S m id K=some r) :
  j0 P o a w W0 F0 U id L K r:=by
 rw[ho]at hK;simp only[eU]at hK;obtain⟨ti,ko,hK⟩:=cN hK;obtain⟨d,hd,hk⟩:=(hG.ti t ti ko).rF;split at hK
 ·rename_i fv;rw[fv]at hk;cases d<;>simp[e8]at hk;obtain⟨s,hs,hK⟩:=gp hK;obtain⟨k,n,hn,hK⟩:=fE hK;obtain⟨h0,h1,hK⟩:=iW hK;have hx:=hE.rel h x;have hi:=hE.rel h i;rw[hs]at hx;rw[hn]at hi;refine .calc h (v:=.int .u8 (s.data.getD n.toNat 0).toNat) ?_ hK (fM rfl)
  have eG:n.toNat<s.size:=by omega
  have R8 : n.toNat<s.data.size:=eG;have e:s[n.toNat]?=some (s.data.getD n.toNat 0):=by
   rw[getElem?_pos s n.toNat eG];congr 1;simp only[Array.getD,R8,dif_pos];rfl
  simp[execOp,ho,(dF hx).1,(dF hi).1,Instr.index,kW,underlying,hd,h0,e]
 ·cases hK
end
section
variable {R:Type} {P:Program} {G:eH} {o:Oper} {a:Act} {w w' : World} {W0:eC} {F0 U F:Nat->Prop} {id:Nat} {L:AV->Value->Prop} {K:AV->Mem->Option R} {r:R} {m:Mem} {μ:Mu} {S:List AV}
theorem Gx{x:Option AV}{h:Int}{K:Int->Option R}(hK:Bm x h K=some r):(x=none/\K 0=some r)\/∃k n,x=some (.v (.int k n))/\0<=n/\n<=h/\K n=some r:=by
 cases x with
 | none=>exact .inl ⟨rfl,hK⟩
 | some x=>
  obtain⟨k,n,rfl,gV⟩:=fE hK;obtain⟨h1,xW⟩:=cV gV;simp at h1;exact .inr ⟨k,n,rfl,h1.1,h1.2,xW⟩
theorem G4{x:Option AV}{n:Int}{K:Int->Option R}{N:Option R}(hK:JE x n K N=some r):(x=none/\N=some r)\/∃k h,x=some (.v (.int k h))/\0<=h/\h<=n/\K h=some r:=by
 cases x with
 | none=>exact .inl ⟨rfl,hK⟩
 | some x=>
  obtain⟨k,n,rfl,gV⟩:=fE hK;obtain⟨h1,xW⟩:=cV gV;simp at h1;exact .inr ⟨k,n,rfl,h1.1,h1.2,xW⟩
def MG(x:Option Value)(Tv n:Nat):Prop:=(x=none/\n=Tv)\/∃k i,x=some (.int k i)/\0<=i/\i.toNat=n
theorem jR{b:Bool}{len cap l h:Nat}{lo hi:Option Value}(hh:MG hi len h)(Qe:h<=cap)(hl:MG lo 0 l)(Qb:l<=h) :
  (Instr.sliceBounds b len cap lo hi none).run P w=.ok (l,h,cap) w:=by
 have bound:∀(k:IntKind) (i:Int) (y n:Nat) (c:BoundsCode),0<=i->i.toNat=n->n<=y->(Instr.sliceBound (.int k i) y c).run P w=.ok n w:=by
  intro k i y n c h0 h1 h2;have:0<=i/\i<=(y:Int):=⟨h0,by omega⟩;simp[Instr.sliceBound,kW,this,h1]
 unfold Instr.sliceBounds;rcases hh with⟨rfl,rfl⟩|⟨k,i,rfl,JF,Qd⟩<;>rcases hl with⟨rfl,rfl⟩|⟨k',i',rfl,Oy,Ox⟩
 ·simp
 ·simp[bound k' i' _ _ _ Oy Ox Qb]
 ·simp[bound k i _ _ _ JF Qd Qe]
 ·simp[bound k i _ _ _ JF Qd Qe,bound k' i' _ _ _ Oy Ox Qb]
theorem k_{lo hi:Option Operand}{n:Nat}{A:Int->Int->Option R}{B:Int->Option R}(h:de W0 F0 U m L w μ F)(hE:Env G S a L)
  (hK:JE (hi.map (ev G S)) n (λh=>Bm (lo.map (ev G S)) h λl=>A h l) (Bm (lo.map (ev G S)) n λl=>B l)=some r) :
  ∃l e:Nat,MG (lo.map a.eval) 0 l/\MG (hi.map a.eval) n e/\l<=e/\e<=n/\((hi.isSome=true/\A e l=some r)\/(hi=none/\e=n/\B l=some r)):=by
 have low:∀(e:Nat) (K:Int->Option R),Bm (lo.map (ev G S)) e K=some r->∃l:Nat,MG (lo.map a.eval) 0 l/\l<=e/\K l=some r:=by
  intro e K hK;rcases Gx hK with⟨h1,h2⟩|⟨k,n,h1,h2,h3,h4⟩
  ·rw[Option.map_eq_none_iff]at h1;subst h1;exact⟨0,.inl ⟨rfl,rfl⟩,cr _,h2⟩
  ·rw[aA]at h1;obtain⟨x,rfl,hx⟩:=h1;have:=hE.rel h x;rw[hx]at this;refine⟨n.toNat,.inr ⟨k,n,by simp[(dF this).1],h2,rfl⟩,by omega,?_⟩;rw[Int.toNat_of_nonneg h2];exact h4
 rcases G4 hK with⟨h1,h2⟩|⟨k,e,h1,h2,h3,h4⟩
 ·rw[Option.map_eq_none_iff]at h1;subst h1;obtain⟨l,hl,hle,hB⟩:=low n _ h2;exact⟨l,n,hl,.inl ⟨rfl,rfl⟩,hle,aJ _,.inr ⟨rfl,rfl,hB⟩⟩
 ·rw[aA]at h1;obtain⟨x,rfl,hx⟩:=h1;have hv:=hE.rel h x;rw[hx]at hv;have e' : ((e.toNat:Nat):Int)=e:=Int.toNat_of_nonneg h2;rw[<-e']at h4;obtain⟨l,hl,hle,hA⟩:=low e.toNat _ h4;exact⟨l,e.toNat,hl,.inr ⟨k,e,by simp[(dF hv).1],h2,rfl⟩,hle,by omega,.inl ⟨rfl,hA⟩⟩
theorem H8{ad:Addr}{k:Nat}(h:ad.spot=none):(ad.add k).spot=none:=by
 unfold Addr.add;split
 ·exact h
 ·rfl
theorem xk{fl:Fl}{x:AV}(h:x.MU=true):uB fl x:=⟨by cases x<;>first|rfl|(cases h),λ_=>h⟩
theorem gA{cs:List AV}(h:∀c∈cs,c.cells=[c]):df cs=cs:=by
 induction cs with
 | nil=>rfl
 | cons c cs ih=>
  have:df (c::cs)=c.cells++df cs:=by simp[df]
  rw[this,h c (by simp),ih (λx hx=>h x (by simp[hx]))];rfl
theorem Eo(hG:dK P G){t:TypeId}{x:Operand}{lo hi mx:Option Operand}(ho:o.op=.slice t x lo hi mx)(h:de W0 F0 U m L w μ F)(hE:Env G S a L)(hK:eU G o.op S m id K=some r) :
  j0 P o a w W0 F0 U id L K r:=by
 rw[ho]at hK;simp only[eU]at hK;obtain⟨R6,dY⟩:=cV hK;clear hK;have R6:mx=none:=by simpa using R6
 subst R6;obtain⟨ti,ko,hK⟩:=cN dY;clear dY;have hT:=hG.ti t ti ko;obtain⟨d,hd,hk⟩:=hT.rF;have hx:=hE.rel h x;cases fv:ti.kd with
 | string=>
  rw[fv]at hk hK;cases d<;>simp[e8]at hk;simp only at hK;obtain⟨s,hs,dY⟩:=gp hK;clear hK;rw[hs]at hx;have hv:=(dF hx).1;obtain⟨l,e,hl,he,hle,OB,hK⟩:=k_ h hE dY;clear dY;have eV:(execOp a.eval o).run P w=.ok (.value (.string (s.extract l e))) w:=by
   simp[execOp,ho,hv,Instr.sliceAt,Instr.slice,underlying,hd,jR he OB hl hle]
  rcases hK with⟨_,hK⟩|⟨_,rfl,hK⟩
  ·exact .calc h eV hK (fM rfl)
  ·exact .calc h eV hK (fM rfl)
 | slice e=>
  rw[fv]at hk hK;cases d<;>simp[e8]at hk;subst hk;simp only at hK;obtain⟨ei,qj,dY⟩:=cN hK;clear hK;have Mk:=hG.ti _ _ qj;have go:∀ad len cap l h,a.eval x=.slice ad len cap->MG (lo.map a.eval) 0 l->MG (hi.map a.eval) len h->l<=h->h<=cap->
    (execOp a.eval o).run P w=.ok (.value (.slice (if cap=l then ad else ad.map (·.add (l*ei.size))) (h - l) (cap - l))) w:=by
   intro ad len cap l h hv hl hh Qb Qe;simp[execOp,ho,hv,Instr.sliceAt,Instr.slice,underlying,hd,jR hh Qe hl Qb,Mk.iY w]
  generalize hX:ev G S x=X at dY hx;split at dY
  ·-- nil
   have hv:=(dF hx).1;obtain⟨l,e,hl,he,hle,OB,hK⟩:=k_ (n:=0) h hE dY;have e0:e=0:=by omega
   have l0:l=0:=by omega
   subst e0;subst l0;have eV:=go none 0 0 0 0 hv hl he (aJ _) (aJ _);simp only[cb,Nat.sub_self]at eV;rcases hK with⟨_,hK⟩|⟨_,_,hK⟩<;>exact .calc h eV hK (fM rfl)
  ·-- a slice Nx is only read
   rename_i fl sz xs;obtain⟨hs,gV⟩:=cV dY;clear dY;have hs:=aj hs;obtain⟨l,e,hl,he,hle,OB,hK⟩:=k_ h hE gV;clear gV;obtain⟨_,hx⟩:=hx;have key:∃v,(execOp a.eval o).run P w=.ok (.value v) w/\Rel w F (.sl fl sz ((xs.take e).drop l)) v:=by
    generalize zD:a.eval x=av at hx;cases hx with
    | uL=>
     have e0:e=0:=by simpa using OB
     have l0:l=0:=by omega
     subst e0;subst l0;refine⟨_,go none 0 0 0 0 zD hl (by simpa using he) (aJ _) (aJ _),?_⟩;simp only[cb,Nat.sub_self,List.take_nil,List.drop_nil];exact .uL fl sz
    | sl fl sz xs ad cap u hF Mf jH lq hc hr M0=>
     refine⟨_,go (some ad) _ cap l e zD hl he hle (by omega),?_⟩;have hlen:((xs.take e).drop l).length=e - l:=by simp;omega
     have Oa : ∀x∈(xs.take e).drop l,x.cells.length=sz:=λx hx=>jH x (aR (aW hx));have xq : ∀x∈df ((xs.take e).drop l),uB fl x:=by
      intro x hx;simp only[df,aS]at hx;obtain⟨y,hy,hx⟩:=hx;exact lq x (by simp only[df,aS];exact⟨y,aR (aW hy),hx⟩)
     by_cases fZ:cap=l
     ·subst fZ;have:(xs.take e).drop cap=[]:=List.drop_eq_nil_of_le (by simp;omega);rw[this];have h0:e - cap=0:=by omega
      simp only[cb,Nat.sub_self,h0];exact .sl fl sz [] ad 0 (λ_=>undef) (λhx=>absurd rfl hx) (cr _) (by simp) (by simp[df]) (by simp[df]) (by simp[df]) (λ_ h=>absurd rfl h)
     ·rw[if_neg fZ];simp only[cz];have k:=Rel.sl (w:=w) (F:=F) fl sz ((xs.take e).drop l) (ad.add (l*ei.size)) (cap - l) (λj=>u (l*sz+j)) (λhx=>by rw[iS];exact hF (by rintro rfl;simp at hx)) (by rw[hlen];omega) Oa xq ?_ ?_ (λh1 h2=>H8 (M0 h1 (by rintro rfl;simp at h2)))
      ·rw[hlen]at k;exact k
      ·intro j hj;rw[(dW sz _ Oa).1,hlen]at hj;rw[jd,<-hs];refine hc _ ?_;rw[(dW sz xs jH).1];have h1:(l+(e - l))*sz<=xs.length*sz:=aV _ (by omega);rw[bG]at h1;omega
      ·intro j c hj;rw[fU sz l _ (λx hx=>jH x (aR hx)),bg]at hj;exact hr _ c (fg sz e xs _ c hj)
   obtain⟨v,eV,lh⟩:=key;rcases hK with⟨_,hK⟩|⟨_,rfl,hK⟩
   ·exact .calc h eV hK ⟨λ_=>lh.lg rfl,lh⟩
   ·rw[List.take_length]at lh;exact .calc h eV hK ⟨λ_=>lh.lg rfl,lh⟩
  ·-- T_ own
   rename_i j off n;obtain⟨bl,hj,gV⟩:=cN dY;clear dY;cases bl with
   | box _ _=>cases gV
   | row fl sz xs=>
    simp only at gV;obtain⟨hs,xW⟩:=cV gV;clear gV;have hs:=aj hs;obtain⟨l,e,hl,he,hle,OB,hK⟩:=k_ h hE xW;clear xW;obtain⟨_,hu,hp⟩:=hx;obtain⟨ad,cap,hv,jg,hlen,dT⟩:=hp fl sz xs hj;have eV:=go ad _ cap l e hv hl he hle (by omega);have fin:∀n',lenOf xs.length (l+off) n'=e - l->eB w F μ m U (.own j (l+off) n') (.slice (if cap=l then ad else ad.map (·.add (l*ei.size))) (e - l) (cap - l)):=by
     intro n' Qa;refine⟨λ_=>rfl,hu,λgk im mO kZ=>?_⟩;rw[hj]at kZ;cases kZ;rw[Qa];refine⟨_,_,rfl,by omega,by omega,?_⟩;rcases dT with⟨rfl,rfl⟩|⟨b,o',nn,xR,eN,rfl,AA,dT⟩
     ·left;exact⟨by split<;>rfl,by omega⟩
     ·right;by_cases fZ:cap=l
      ·rw[if_pos fZ];exact⟨b,o',nn,xR,eN,rfl,AA,.inl (by omega)⟩
      ·rw[if_neg fZ];refine⟨b,o',nn,xR.add (l*ei.size),eN,rfl,by rw[iS];exact AA,?_⟩;rcases dT with rfl|⟨rfl,D_⟩
       ·left;omega
       ·right;rw[addr_add,<-hs];refine⟨by rw[bG];congr 1;omega,?_⟩;rw[show l+off+(cap - l)=off+cap by omega];exact D_
    rcases hK with⟨_,hK⟩|⟨_,rfl,hK⟩
    ·exact .calc h eV hK (fin _ (by simp[lenOf]))
    ·refine .calc h eV hK (fin _ ?_)
     cases n with
     | none=>simp[lenOf];omega
     | some n=>simp[lenOf]
  ·cases dY
 | arr n e=>
  rw[fv]at hk hK;cases d<;>simp[e8]at hk;obtain⟨rfl,rfl⟩:=hk;simp only at hK;obtain⟨ei,qj,dY⟩:=cN hK;clear hK;have Mk:=hG.ti _ _ qj;generalize hX:ev G S x=X at dY hx;cases X
  case rd cs=>
   simp only at dY;obtain⟨hc,hK⟩:=cV dY;clear dY;simp only[ae]at hc;obtain⟨⟨⟨⟨⟨c1,c2⟩,c3⟩,c4⟩,c5⟩,c6⟩:=hc;have c1:=aj c1;have c2:lo=none:=by simpa using c2
   have c3:hi=none:=by simpa using c3
   have c4:=aj c4;subst c2;subst c3;obtain⟨_,hx⟩:=hx;generalize zD:a.eval x=av at hx;cases hx with|rd cs ad u hF hc hr=>
   have hb:=jR (P:=P) (w:=w) (b:=false) (len:=n) (cap:=n) (l:=0) (h:=n) (lo:=none) (hi:=none) (.inl ⟨rfl,rfl⟩) (aJ _) (.inl ⟨rfl,rfl⟩) (cr _);have Yd:ad.add 0=ad:=by simp[Addr.add]
   have eV:(execOp a.eval o).run P w=.ok (.value (.slice (some ad) n n)) w:=by
    simp[execOp,ho,zD,Instr.sliceAt,underlying,hd,Instr.sureAddr,hb,Mk.iY w,Yd]
   have CW:∀c∈cs,c.cells=[c]:=λc hc=>by
    have:=ay.1 c6 c hc;cases c<;>first|rfl|cases this
   have G8:df cs=cs:=gA CW;have k:=Rel.sl (w:=w) (F:=F) ei.flat 1 cs ad n u (λ_=>hF) (by omega) (λx hx=>by rw[CW x hx];rfl) (λx hx=>by rw[G8]at hx;exact xk (ay.1 c6 x hx))
    (λj hj=>by rw[G8]at hj;exact hc j hj) (λj c hj=>by rw[G8]at hj;exact hr j c hj) (λh=>by cases h)
   rw[c4]at k;exact .calc h eV hK ⟨λ_=>rfl,k⟩
  all_goals cases dY
 | _=>rw[fv]at hK;cases hK
end
section
variable {R:Type} {P:Program} {G:eH} {o:Oper} {a:Act} {w w' : World} {W0:eC} {F0 U F:Nat->Prop} {id:Nat} {L:AV->Value->Prop} {K:AV->Mem->Option R} {r:R} {m:Mem} {μ:Mu} {S:List AV}
theorem EL{x:AV}{v:Value}{K:Fl->Nat->List AV->Option R}(h:de W0 F0 U m L w μ F)(hx:eB w F μ m U x v)(hK:ig m x K=some r)(I:List Nat)(hI:∀i∈jT x,i∈I) :
  ∃fl sz xs,K fl sz xs=some r/\Rel w (λb=>F b\/eh μ m I b) (.sl fl sz xs) v/\(∀x∈xs,x.cells.length=sz)/\(∀x∈df xs,uB fl x):=by
 unfold ig at hK;split at hK
 ·have:=(dF hx).1;subst this;exact⟨_,_,_,hK,.uL _ _,by simp,by simp[df]⟩
 ·rename_i fl sz xs;obtain⟨_,hx⟩:=hx;refine⟨_,_,_,hK,Rel.mono hx (λb hb=>.inl hb) (λ_ _=>rfl),?_,?_⟩
  ·cases hx with
   | uL=>simp
   | sl _ _ _ _ _ _ _ _ hs=>exact hs
  ·cases hx with
   | uL=>simp[df]
   | sl _ _ _ _ _ _ _ _ _ hf=>exact hf
 ·rename_i j off l;split at hK
  ·rename_i fl sz xs hm;refine⟨_,_,_,hK,Ak h hx hm I (hI j (by simp[jT])),?_,?_⟩
   ·intro y hy;rw[lD]at hy;exact(h.j7 j _ hm).1 y (aW (aR hy))
   ·intro y hy;rw[lD]at hy;simp only[df,aS]at hy;obtain⟨z,hz,hy⟩:=hy;exact(h.j7 j _ hm).2.1 y (by simp only[df,aS];exact⟨z,aW (aR hz),hy⟩)
  ·cases hK
 ·cases hK
theorem AT{x:AV}{v:Value}{K:Nat->Option R}(h:de W0 F0 U m L w μ F)(hx:eB w F μ m U x v)(hK:mw m x K=some r) :
  ∃n ad cap,K n=some r/\v=.slice ad n cap:=by
 unfold mw at hK;split at hK
 ·have:=(dF hx).1;subst this;exact⟨0,_,_,hK,rfl⟩
 ·rename_i fl sz xs;obtain⟨_,hx⟩:=hx;cases hx with
  | uL=>exact⟨0,_,_,hK,rfl⟩
  | sl=>exact⟨_,_,_,hK,rfl⟩
 ·rename_i j off l;split at hK
  ·rename_i fl sz xs hm;obtain⟨_,hu,hx⟩:=hx;obtain⟨ad,cap,hv,_⟩:=hx fl sz xs hm;exact⟨_,_,_,hK,hv⟩
  ·cases hK
 ·rename_i j;split at hK
  ·rename_i tb cs hm;obtain⟨_,hu,hx⟩:=hx;obtain⟨b,n,_,hv⟩:=hx tb cs hm;exact⟨_,_,_,hK,hv⟩
  ·cases hK
 ·cases hK
theorem J2(hG:dK P G){c:Call}(ho:o.op=.call c)(hc:c.callee=.builtin .len)(h:de W0 F0 U m L w μ F)(hE:Env G S a L)(hK:eU G o.op S m id K=some r):j0 P o a w W0 F0 U id L K r:=by
 rw[ho]at hK;simp only[eU,hc]at hK;split at hK
 ·rename_i t x ht uS;obtain⟨ti,ko,dY⟩:=cN hK;clear hK;obtain⟨d,hd,hk⟩:=(hG.ti t ti ko).rF;have ha:c.args=#[x]:=by rw[<-uS]
  have qY:c.argTypes=#[t]:=by rw[<-ht]
  have hx:=hE.rel h x;split at dY
  ·rename_i fv;rw[fv]at hk;cases d<;>simp[e8]at hk;obtain⟨s,hs,hK⟩:=gp dY;rw[hs]at hx;exact .calc h (v:=.int .i64 s.size) (by simp[execOp,ho,resolve,hc,ha,qY,invoke,builtin,(dF hx).1,run_len_string w t _ s hd,goInt]) hK (fM rfl)
  ·rename_i e fv;rw[fv]at hk;cases d<;>simp[e8]at hk;obtain⟨n,ad,cap,hK,hv⟩:=AT h hx dY;exact .calc h (v:=.int .i64 n) (by simp[execOp,ho,resolve,hc,ha,qY,invoke,builtin,hv,Builtin.len_,bx hd,goInt]) hK (fM rfl)
  ·cases dY
 ·cases hK
theorem J0{c:Call}(ho:o.op=.call c)(hc:c.callee=.builtin .min)(h:de W0 F0 U m L w μ F)(hE:Env G S a L)(hK:eU G o.op S m id K=some r):j0 P o a w W0 F0 U id L K r:=by
 rw[ho]at hK;simp only[eU,hc]at hK;split at hK
 ·rename_i x y uS;obtain⟨k,n,CU,dY⟩:=fE hK;obtain⟨n',nf,gV⟩:=gr dY;have hx:=hE.rel h x;have hy:=hE.rel h y;rw[CU]at hx;rw[nf]at hy;have ha:c.args=#[x,y]:=by rw[<-uS]
  exact .calc h (v:=.int k (if n'<n then n' else n)) (by simp[execOp,ho,resolve,hc,ha,invoke,builtin,(dF hx).1,(dF hy).1,run_min_int2]) gV (fM rfl)
 ·cases hK
theorem J1{c:Call}(ho:o.op=.call c)(hc:c.callee=.builtin .max)(h:de W0 F0 U m L w μ F)(hE:Env G S a L)(hK:eU G o.op S m id K=some r):j0 P o a w W0 F0 U id L K r:=by
 rw[ho]at hK;simp only[eU,hc]at hK;split at hK
 ·rename_i x y uS;obtain⟨k,n,CU,dY⟩:=fE hK;obtain⟨n',nf,gV⟩:=gr dY;have hx:=hE.rel h x;have hy:=hE.rel h y;rw[CU]at hx;rw[nf]at hy;have ha:c.args=#[x,y]:=by rw[<-uS]
  exact .calc h (v:=.int k (if n'>n then n' else n)) (by simp[execOp,ho,resolve,hc,ha,invoke,builtin,(dF hx).1,(dF hy).1,run_max_int2]) gV (fM rfl)
 ·cases hK
theorem sF:∀(xs:List AV) (bs:List UInt8),strOf xs=some bs->∃ns:List Int,xs=ns.map (λn=>vu n)/\bs=ns.map λn=>UInt8.ofNat n.toNat
 | [],bs,h=>by simp[strOf]at h;subst h;exact⟨[],rfl,rfl⟩
 | x::r,bs,h=>by
  unfold strOf at h;split at h
  ·rename_i heq;cases heq
  ·rename_i n r' heq;cases heq;simp only[aA]at h;obtain⟨U3,h1,rfl⟩:=h;obtain⟨ns,rfl,rfl⟩:=sF _ _ h1;exact⟨n::ns,rfl,rfl⟩
  ·cases h
theorem foldl_push:∀(ns:List Int) (r:ByteArray),ns.foldl (λr n=>r.push (UInt8.ofNat n.toNat)) r=⟨r.data++(ns.map λn=>UInt8.ofNat n.toNat).toArray⟩
 | [],r=>by simp
 | b::l,r=>by
  simp only[bd,List.foldl_cons];rw[foldl_push l];simp[ByteArray.push]
theorem zZ(hG:dK P G){s d:TypeId}{x:Operand}(ho:o.op=.convert s d x)(h:de W0 F0 U m L w μ F)(hE:Env G S a L)(hid:∀j,j<8->¬ U (id+j))(hK:eU G o.op S m id K=some r) :
  j0 P o a w W0 F0 U id L K r:=by
 rw[ho]at hK;simp only[eU]at hK;obtain⟨si,Xx,dY⟩:=cN hK;clear hK;obtain⟨di,X5,hK⟩:=cN dY;clear dY;obtain⟨sd,M1,E3⟩:=(hG.ti s si Xx).rF;obtain⟨dd,Az,D7⟩:=(hG.ti d di X5).rF;have hx:=hE.rel h x;split at hK
 ·rename_i k0 k h1 h2;rw[h1]at E3;rw[h2]at D7;cases sd<;>simp[e8]at E3;cases dd<;>simp[e8]at D7;subst D7;obtain⟨k',n,CU,hK⟩:=fE hK;rw[CU]at hx;exact .calc h (by simp[execOp,ho,convert,bx M1,bx Az,(dF hx).1,Conv.intToInt]) hK (fM rfl)
 ·rename_i h1 h2;rw[h1]at E3;rw[h2]at D7;cases sd<;>simp[e8]at E3;cases dd<;>simp[e8]at D7;obtain⟨q,CU,hK⟩:=gp hK;rw[CU]at hx;exact .calc h (by simp[execOp,ho,convert,bx M1,bx Az,(dF hx).1]) hK (fM rfl)
 ·rename_i e h1 h2;rw[h1]at E3;rw[h2]at D7;cases sd<;>simp[e8]at E3;cases dd<;>simp[e8]at D7;subst D7;obtain⟨ei,qj,dY⟩:=cN hK;clear hK;obtain⟨ed,M7,Hc⟩:=(hG.ti _ ei qj).rF;split at dY
  ·rename_i h3;rw[h3]at Hc;cases ed<;>simp[e8]at Hc;subst Hc;obtain⟨q,CU,hK⟩:=gp dY;rw[CU]at hx;have hv:=(dF hx).1;have hl:(q.toList.map λb=>vu b.toNat).length=q.size:=by simp[cH]
   have eV:=run_bytes_of_string (P:=P) w s d e q M1 Az M7;have jg:q.size<=grownCap w q.size 0 e:=grownCap_ge w _ _ _;have jH:(bytesRow q (grownCap w q.size 0 e)).size=grownCap w q.size 0 e:=by simp[bytesRow];omega
   refine .row (C:=bytesRow q (grownCap w q.size 0 e)) (t:=e) (ht:=(hG.ti _ _ qj).tid) (f:=((bytesRow q (grownCap w q.size 0 e)).size,(bytesRow q (grownCap w q.size 0 e)).size+1)) (cap:=grownCap w q.size 0 e) h hid (by rw[hl];simp[execOp,ho,hv,eV]) ?_ (iM w.drew _) ?_ ?_ ?_ ?_ ?_ ?_ hK
   ·exact(Below.refl _ w).drew.alloc (aJ _) _
   ·exact .inr (aJ _)
   ·intro y hy;simp at hy;obtain⟨_,_,rfl⟩:=hy;rfl
   ·intro y hy;rw[gA (λc hc=>by simp at hc;obtain⟨_,_,rfl⟩:=hc;rfl)]at hy;simp at hy;obtain⟨_,_,rfl⟩:=hy;exact⟨rfl,λ_=>rfl⟩
   ·rw[hl];exact jg
   ·omega
   ·intro j c hj;have lq:df (q.toList.map λb=>vu b.toNat)=q.toList.map λb=>vu b.toNat:=gA (λc hc=>by simp at hc;obtain⟨_,_,rfl⟩:=hc;rfl);rw[lq]at hj;simp only[aL,aA]at hj;obtain⟨b,hb,rfl⟩:=hj;have kZ : j<q.data.size:=by
     have:=(aB.1 hb).1;simpa[cH]using this
    have ia : q.data[j]=b:=by
     have:=(aB.1 hb).2;simpa[cH]using this
    rw[aI,bytesRow_at _ _ _ kZ,ia];exact .v _ rfl
  ·cases dY
 ·rename_i e e' h1 h2;rw[h1]at E3;rw[h2]at D7;cases sd<;>simp[e8]at E3;cases dd<;>simp[e8]at D7;subst E3;subst D7;obtain⟨zB,dY⟩:=cV hK;clear hK;rw[ae]at zB;have Hg:=aj zB.1;have SD:=aj zB.2;subst Hg;subst SD;obtain⟨ei,qj,gV⟩:=cN dY;clear dY;obtain⟨ed,M7,Hc⟩:=(hG.ti _ ei qj).rF;split at gV
  ·rename_i h3;rw[h3]at Hc;cases ed<;>simp[e8]at Hc;subst Hc;generalize hX:ev G S x=X at gV hx;split at gV
   ·rename_i j;obtain⟨bl,hj,xW⟩:=cN gV;clear gV;split at xW
    ·rename_i fl sz y ys;obtain⟨CT,hu,hp⟩:=hx;obtain⟨ad,cap,hv,jg,hlen,dT⟩:=hp _ _ _ hj;have XN:lenOf (y::ys).length 0 none=ys.length+1:=rfl;rw[XN]at jg hlen hv;obtain⟨hs,lq,gE⟩:=h.j7 j _ hj;rcases dT with⟨_,rfl⟩|⟨b,o',nn,xR,eN,rfl,AA,dT⟩
     ·omega
     rcases dT with rfl|⟨rfl,D_⟩
     ·omega
     rcases gE with⟨h0,_⟩|⟨b',DJ,C,f,dG,hh,zv,nG,hr⟩
     ·cases h0
     rw[eN]at dG;simp only[aY,bF]at dG;obtain⟨rfl,rfl,rfl⟩:=dG;have fc:=h.own j _ b o' C.size hj eN;have RU:w.shape? b=some (fl.te,C.size):=by simp[World.shape?,hh]
     have Sh:∀k,k≠b->(w.freeze ⟨b,C.size,none⟩ 1).heap[k]?=w.heap[k]?:=by
      intro k hk;simp[World.freeze,Array.getElem?_modify,Ne.symm hk]
     have XZ:(w.freeze ⟨b,C.size,none⟩ 1).heap[b]?=some (.cells C fl.te (if f.1==f.2 then(C.size,C.size+1)else(min f.1 C.size,max f.2 (C.size+1)))):=by
      obtain⟨lo,hi⟩:=f;simp[World.freeze,Array.getElem?_modify,hh]
     have C4:iT W0 (w.freeze ⟨b,C.size,none⟩ 1):=
      ⟨h.below.os,h.below.tape,h.below.output,by simpa[World.freeze]using h.below.size,λk hk=>(Sh k (λe=>fc.1 (e ▸ hk))).trans (h.below.block k hk)⟩
     have Od:m.fJ j (some (.row fl sz (y::ys)))=m:=by
      funext i;by_cases e:i=j
      ·subst e;rw[Mem.dx,hj]
      ·rw[Mem.dk _ _ e]
     have rq:=h.store (w':=w.freeze ⟨b,C.size,none⟩ 1) hj eN (x':=.row fl sz (y::ys)) ⟨rfl,rfl⟩ C4 (by simp[World.freeze]) Sh
      ⟨hs,lq,.inr ⟨b,o',C,_,eN,XZ,zv,nG.mark,λk c hk=>(hr k c hk).mono (λ_ hb=>hb) (λk hk=>Sh k (λe=>fc.2.2 (e ▸ hk)))⟩⟩
     rw[Od]at rq;refine⟨_,m,a.eval x,w.freeze ⟨b,C.size,none⟩ 1,.inl ?_,xW,μ,F,?_⟩
     ·rw[hv];simp[execOp,ho,hv,convert,bx M1,bx M7,markStringish,RU]
     ·have h':=rq.wider (U':=U8 U id) (λi hi=>.inl hi);exact{ h' with
       dB:=by
        rintro z u (hy|⟨rfl,rfl⟩)
        ·exact h'.dB z u hy
        ·exact⟨CT,.inl hu,λgk im mO CU=>by
          rw[hj]at CU;cases CU;exact⟨_,cap,hv,jg,hlen,.inr ⟨b,o',C.size,_,eN,rfl,rfl,.inr ⟨rfl,D_⟩⟩⟩⟩ }
    ·cases xW
   ·cases gV
  ·cases gV
 ·rename_i e h1 h2;rw[h1]at E3;rw[h2]at D7;cases sd<;>simp[e8]at E3;cases dd<;>simp[e8]at D7;subst E3;obtain⟨ei,qj,dY⟩:=cN hK;clear hK;obtain⟨ed,M7,Hc⟩:=(hG.ti _ ei qj).rF;split at dY
  ·rename_i h3;rw[h3]at Hc;cases ed<;>simp[e8]at Hc;subst Hc;obtain⟨fl,sz,xs,gV,lh,hs,_⟩:=EL h hx dY (jT (ev G S x)) (λ_ hi=>hi);obtain⟨bs,SE,hK⟩:=cN gV;obtain⟨ns,rfl,rfl⟩:=sF _ _ SE;refine .calc h (v:=.string ⟨(ns.map λn=>UInt8.ofNat n.toNat).toArray⟩) ?_ hK (fM rfl)
   generalize zD:a.eval x=v at lh;have lq:df (ns.map λn=>vu n)=ns.map λn=>vu n:=gA (λc hc=>by simp at hc;obtain⟨_,_,rfl⟩:=hc;rfl);generalize hy:(ns.map λn=>vu n)=ys at lh lq;cases lh with
   | uL=>
    have:ns=[]:=by simpa using hy
    subst this;simp[execOp,ho,zD,run_convert_bytes_string w s d e _ _ _ M1 M7 Az,Conv.bytesToString];rfl
   | sl _ _ _ ad cap u hF Mf hs hf hc hr=>
    have Ov:(loadCells ad ys.length).run P w=.ok (ns.map (Value.int .u8)).toArray w:=by
     have:=run_loadCells_list (P:=P) w ad (ns.map (Value.int .u8)) (λj v hj=>by
      simp only[aL,aA]at hj;obtain⟨n,hn,rfl⟩:=hj;have h1:(df ys)[j]?=some (vu n):=by rw[lq,<-hy];simp[hn]
      have h2:=hr j _ h1;have h3:u j=.int .u8 n:=by generalize u j=z at h2;cases h2;rfl
      rw[hc j (aB.1 h1).1,h3])
     rw[<-hy];simpa using this
    have:=run_bytesToString (P:=P) w ad ys.length cap ns Ov;rw[foldl_push]at this;simp[execOp,ho,zD,run_convert_bytes_string w s d e _ _ _ M1 M7 Az,this]
  ·cases dY
 ·cases hK
end
def TI.AH(t:TI):AV:=bif t.isAgg then .agg t.qy else t.qy.headD .undef
section
variable {R:Type} {P:Program} {G:eH} {o:Oper} {a:Act} {w w' : World} {W0:eC} {F0 U F:Nat->Prop} {id:Nat} {L:AV->Value->Prop} {K:AV->Mem->Option R} {r:R} {m:Mem} {μ:Mu} {S:List AV}
theorem jn{t:TypeId}{ti:TI}(hT:nr P t ti):ti.AH.cells=ti.qy:=by
 unfold TI.AH;cases h:ti.isAgg with
 | true=>rfl
 | false=>
  have h1:=hT.Lr h;rw[<-hT.Kp]at h1;obtain⟨v,hv⟩:=ca.1 h1;simp[TI.qy,hv,AV.cells]
theorem wI{t:TypeId}{ti:TI}{fl:Fl}(hT:nr P t ti):∀c∈ti.AH.cells,uB fl c:=by
 rw[jn hT];intro c hc;simp only[TI.qy,bz]at hc;obtain⟨v,_,rfl⟩:=hc;exact xk (x:=.v _) rfl
theorem tR{n:Nat}{z:AV}{j:Nat}{c:AV}(hc:(df (List.replicate n z))[j]?=some c):z.cells[j % z.cells.length]?=some c:=by
 obtain⟨h1,h2⟩:=dW z.cells.length (List.replicate n z) (λx hx=>by rw[(bT.1 hx).2]);have hj:=(aB.1 hc).1;rw[h1,bY]at hj;have h0:0<z.cells.length:=by
  rcases Nat.eq_zero_or_pos z.cells.length with h|h
  ·rw[h]at hj;omega
  ·exact h
 have:=h2 (j / z.cells.length) (by rw[bY];exact(Nat.div_lt_iff_lt_mul h0).2 hj) (j % z.cells.length) (Nat.mod_lt _ h0);rw[Nat.mul_comm,Nat.div_add_mod,hc]at this;have e:(List.replicate n z).getD (j / z.cells.length) .undef=z:=by
  have eG:j / z.cells.length<n:=(Nat.div_lt_iff_lt_mul h0).2 hj;rw[ah,List.getElem?_replicate];simp[eG]
 rw[e]at this;exact this.symm
theorem uX(hG:dK P G){t:TypeId}{x y:Operand}(ho:o.op=.makeSlice t x y)(h:de W0 F0 U m L w μ F)(hE:Env G S a L)(hid:∀j,j<8->¬ U (id+j))(hK:eU G o.op S m id K=some r) :
  j0 P o a w W0 F0 U id L K r:=by
 rw[ho]at hK;simp only[eU]at hK;obtain⟨ti,ko,dY⟩:=cN hK;clear hK;obtain⟨d,hd,hk⟩:=(hG.ti t ti ko).rF;split at dY
 ·rename_i e fv;rw[fv]at hk;cases d<;>simp[e8]at hk;subst hk;obtain⟨ei,qj,hK⟩:=cN dY;clear dY;have hT:=hG.ti _ ei qj;obtain⟨n,hn,dY⟩:=gr hK;clear hK;obtain⟨c,hc,gV⟩:=gr dY;clear dY;obtain⟨hb,hK⟩:=cV gV;clear gV;simp only[ae,az]at hb;obtain⟨⟨⟨⟨b1,b2⟩,b3⟩,b4⟩,b5⟩:=hb;subst b3;have b4:=aD b4;have b5:=aD b5;obtain⟨i,hi,_,jH,M_,z,hz,uR,MW⟩:=hT.iq w;have hx:=hE.rel h x;have hy:=hE.rel h y;rw[hn]at hx;rw[hc]at hy;obtain⟨q,rfl⟩:∃q:Nat,c=q:=⟨c.toNat,(Int.toNat_of_nonneg b1).symm⟩;have hq:q<=1000000000:=by simp[eR]at b2;omega
  have UL:i.bytes*q<=4096*1000000000:=Nat.mul_le_mul (by omega) hq;have eV:=run_make (P:=P) w t _ i z hd hi hz .i64 .i64 q q b1 (Int.le_refl _) (by omega) (by omega);simp only[ai]at eV hK;change K (.own id 0 none) (m.fJ id (some (.row ei.flat ei.size (List.replicate q ei.AH))))=some r at hK;have hl:(List.replicate q ei.AH).length=q:=by simp
  have DZ:ei.AH.cells.length=ei.size:=by rw[jn hT];simp[TI.qy,hT.Kp]
  refine .row (C:=madeCells z.cells (q*i.size)) (t:=e) (ht:=hT.tid) (f:=(0,0)) (cap:=q) h hid (by rw[hl];simp[execOp,ho,(dF hx).1,(dF hy).1,eV]) (jL w _) (iM w _) ?_ ?_ ?_ ?_ ?_ ?_ hK
  ·exact .inl rfl
  ·intro v hv;rw[(bT.1 hv).2];exact DZ
  ·intro v hv;simp only[df,aS]at hv;obtain⟨u,hu,hv⟩:=hv;rw[(bT.1 hu).2]at hv;exact wI hT v hv
  ·rw[hl];exact aJ _
  ·rw[size_madeCells,jH];exact aJ _
  ·intro j c hj;have M5:=(aB.1 hj).1;rw[(dW ei.size _ (λv hv=>by rw[(bT.1 hv).2];exact DZ)).1,hl]at M5;have:=tR hj;rw[DZ,jn hT]at this;simp only[TI.qy,aL,aA]at this;obtain⟨v,hv,rfl⟩:=this;have BC:one v=true:=ay.1 hT.w7 v (aO hv);have Is:z.cells.size=ei.size:=by rw[<-bo,uR,hT.Kp]
   have e:(madeCells z.cells (q*i.size)).getD j undef=v:=by
    have h1:j<q*i.size:=by rw[jH];exact M5
    have h2:z.cells[j % ei.size]?=some v:=by rw[<-uR]at hv;simpa using hv
    have h3:z.cells[j % ei.size]! = v:=by rw[getElem!_def,h2]
    simp[madeCells,aI,h1,Is,h3]
   rw[e];exact .v v BC
 ·cases dY
theorem tQ(off:Nat):∀(vs:List Value) (k:Nat) (C:Array Value),(vs.zipIdx k).foldl (λcs (c,j)=>cs.setIfInBounds (off+j) c) C=j_ C (off+k) vs
 | [],_,_=>rfl
 | v::vs,k,C=>by
  rw[List.zipIdx_cons,List.foldl_cons,tQ off vs,j_];rfl
theorem nj(off:Nat)(vs C:Array Value):vs.zipIdx.foldl (λcs (c,j)=>cs.setIfInBounds (off+j) c) C=j_ C off vs.toList:=by
 rw[<-Array.foldl_toList,Array.toList_zipIdx];exact tQ off vs.toList 0 C
theorem zR(h:de W0 F0 U m L w μ F)(hE:Env G S a L)(pl:Nat->Option (Nat × Nat)):∀(parts:List (Nat × Operand)) (zs:List AV) (C:Array Value) (cs:List AV),
  pC pl zs (parts.map fun(i,x)=>(i,ev G S x))=some cs->C.size=zs.length->(∀j c,zs[j]?=some c->eS w F μ m U c (C.getD j undef))->
  ∃C',Instr.fill pl C (parts.map fun(i,x)=>(i,a.eval x))=some C'/\C'.size=cs.length/\∀j c,cs[j]?=some c->eS w F μ m U c (C'.getD j undef)
 | [],zs,C,cs,hK,hl,hr=>by
  simp[pC]at hK;subst hK;exact⟨C,rfl,hl,hr⟩
 | (i,x)::parts,zs,C,cs,hK,hl,hr=>by
  simp only[bd,pC]at hK;split at hK
  ·rename_i off size pI;obtain⟨hc,hK⟩:=cV hK;simp only[ae]at hc;obtain⟨⟨c1,c2⟩,c3⟩:=hc;have c1:=aj c1;have c2:=aD c2;obtain⟨h1,h2,_⟩:=nJ (hE.rel h x) c3;have xp:(a.eval x).cells.toList.length=size:=by rw[bo,h1,c1]
   obtain⟨C',e1,e2,e3⟩:=zR h hE pl parts _ (j_ C off (a.eval x).cells.toList) cs hK (by rw[d_,hl];simp[c1];omega) (λj c hj=>by
    by_cases zu:j<off
    ·rw[bH,aN (by simp;omega),bN zu]at hj;rw[gb _ _ _ _ (.inl zu)];exact hr j c hj
    ·by_cases Zn:j<off+size
     ·rw[aN (by simp[c1];omega),aQ (by simp;omega)]at hj;have L4:(zs.take off).length=off:=by simp;omega
      rw[L4]at hj;have:=oN (a.eval x).cells.toList C off (j - off) (by omega) (by omega);rw[show off+(j - off)=j by omega]at this;rw[this];have:=h2 _ c hj;have eG:j - off<(a.eval x).cells.size:=by rw[<-bo];omega
      simpa[Array.getD,eG]using this
     ·rw[aQ (by simp[c1];omega),bg]at hj;have L4:(zs.take off++(ev G S x).cells).length=off+size:=by simp[c1];omega
      rw[L4,show off+size+(j - (off+size))=j by omega]at hj;rw[gb _ _ _ _ (.inr (by omega))];exact hr j c hj)
   refine⟨C',?_,e2,e3⟩;simp only[bd,Instr.fill,pI];have jH:(a.eval x).cells.size=size:=by rw[h1,c1]
   rw[if_neg (by simp[jH];omega),nj];exact e1
  ·cases hK
theorem lL(hG:dK P G):∀(fs:List Field) (l:List (Nat × Nat)),jK G (fs.map λf=>(f.type,f.offset))=some l->
  fs.mapM (λf=>(P.info? f.type).map λi=>(f.offset,i.size))=some l
 | [],l,h=>by simp[jK]at h;subst h;rfl
 | f::fs,l,h=>by
  simp only[bd,jK]at h;split at h
  ·rename_i fi s h1 h2;cases h;obtain⟨i,hi,jH,_⟩:=(hG.ti _ _ h1).info;simp[List.mapM_cons,hi,jH,lL hG fs s h2]
  ·cases h
theorem Ew(hG:dK P G){t:TypeId}{parts:Array (Nat × Operand)}(ho:o.op=.build t parts)(h:de W0 F0 U m L w μ F)(hE:Env G S a L)(hK:eU G o.op S m id K=some r) :
  j0 P o a w W0 F0 U id L K r:=by
 rw[ho]at hK;simp only[eU]at hK;obtain⟨ti,ko,dY⟩:=cN hK;clear hK;obtain⟨oA,hK⟩:=cV dY;clear dY;obtain⟨pl,pI,dY⟩:=cN hK;clear hK;obtain⟨cs,uV,hK⟩:=cN dY;clear dY;have hT:=hG.ti t ti ko;obtain⟨d,hd,hk⟩:=hT.rF;obtain⟨it,hit,jH,_,z,hz,uR,_⟩:=hT.info;obtain⟨C,h1,h2,h3⟩:=zR h hE pl parts.toList ti.qy z.cells cs uV (by rw[<-bo,uR];simp[TI.qy]) (λj c hj=>by
  simp only[TI.qy,aL,aA]at hj;obtain⟨y,hy,rfl⟩:=hj;have ho:one y=true:=ay.1 hT.w7 y (aO hy);rw[<-uR]at hy;have e:z.cells.getD j undef=y:=by
   simp at hy;simp[aI,hy]
  rw[e];exact⟨λ_=>ho,.v y ho⟩)
 have Mh:P.built t (parts.map fun(i,x)=>(i,a.eval x)).toList=some C:=by
  unfold placeOf at pI;split at pI
  ·rename_i fs fv;rw[fv]at hk;cases d<;>simp[e8]at hk;rename_i fields;split at pI
   ·rename_i l hl;cases pI;rw[<-hk]at hl;have:=lL hG fields.toList l hl;simp only[Program.built,hit,hd,hz,this];simpa using h1
   ·cases pI
  ·rename_i n e fv;rw[fv]at hk;cases d<;>simp[e8]at hk;obtain⟨_,rfl⟩:=hk;split at pI
   ·rename_i ei qj;cases pI;obtain⟨ie,XX,X4,_⟩:=(hG.ti _ _ qj).info;simp only[Program.built,hit,hd,hz,XX,X4];simpa using h1
   ·cases pI
  ·cases pI
 refine .calc h (v:=.agg C) ?_ hK ⟨C,rfl,h2,h3⟩
 simp only[execOp,ho,cg,run_build w t _ C Mh,b7];rfl
end
section
variable {R:Type} {P:Program} {G:eH} {o:Oper} {a:Act} {w w' : World} {W0:eC} {F0 U F:Nat->Prop} {id:Nat} {L L' : AV->Value->Prop} {K:AV->Mem->Option R} {r:R} {m:Mem} {μ:Mu} {S:List AV}
theorem de.wF(h:de W0 F0 U m L w μ F){id:Nat}{x:oK}{q:Option (Nat × Nat × Nat)}(hid:¬ U id)(hB:iT W0 w')(jH:w.heap.size<=w'.heap.size)
  (C4:∀k,k<w.heap.size->(∀o n,q≠some (k,o,n))->w'.heap[k]?=w.heap[k]?)
  (hq:∀b o n,q=some (b,o,n)->¬ W0.N b/\b<w'.heap.size/\¬ F b/\∀i y o' n',m i=some y->μ i≠some (b,o',n'))
  (hx:Holds w' F (λi=>if i=id then q else μ i) (m.fJ id (some x)) (λi=>U i\/i=id) id x)
  (hL:∀y v,L' y v->L y v\/eB w' F (λi=>if i=id then q else μ i) (m.fJ id (some x)) (λi=>U i\/i=id) y v) :
  de W0 F0 (λi=>U i\/i=id) (m.fJ id (some x)) L' w' (λi=>if i=id then q else μ i) F:=by
 have qf:∀i,U i->ec (m i) (m.fJ id (some x) i)/\(m.fJ id (some x) i≠none->(λi=>if i=id then q else μ i) i=μ i):=by
  intro i hi;have:i≠id:=λe=>hid (e ▸ hi);rw[Mem.dk _ _ this];exact⟨.refl _,λ_=>by simp[this]⟩
 have hw:∀k,F k->w'.heap[k]?=w.heap[k]?:=λk hk=>C4 k (h.dC k hk).1 (λo n e=>(hq k o n e).2.2.1 hk);have fc:∀i y b o n,m i=some y->μ i=some (b,o,n)->w'.heap[b]?=w.heap[b]?:=λi y b o n hy hb=>
  C4 b (h.own i y b o n hy hb).2.1 (λo' n' e=>(hq b o' n' e).2.2.2 i y o n hy hb)
 refine{ below:=hB,dC:=λb hb=>⟨bA (h.dC b hb).1 jH,(h.dC b hb).2⟩,sub:=h.sub,gl:=h.gl,used:=?_,j7:=?_,own:=?_,inj:=?_,dB:=?_ }
 ·intro i y hy;by_cases e:i=id
  ·exact .inr e
  ·rw[Mem.dk _ _ e]at hy;exact .inl (h.used i y hy)
 ·intro i y hy;by_cases e:i=id
  ·subst e;rw[Mem.dx]at hy;cases hy;exact hx
  ·rw[Mem.dk _ _ e]at hy;exact(h.j7 i y hy).mono (λ_ hb=>hb) hw (λ_ hi=>.inl hi) qf (by simp[e]) (λb o n hb=>fc i y b o n hy hb)
 ·intro i y b1 o1 n1 hy ow;by_cases e:i=id
  ·subst e;simp only[cb]at ow;obtain⟨h1,h2,h3,_⟩:=hq b1 o1 n1 ow;exact⟨h1,h2,h3⟩
  ·rw[Mem.dk _ _ e]at hy;simp only[e,bI]at ow;obtain⟨h1,h2,h3⟩:=h.own i y b1 o1 n1 hy ow;exact⟨h1,bA h2 jH,h3⟩
 ·intro i i' y y' b1 o1 n1 o2 n2 hy nf ow vS;by_cases e:i=id
  ·by_cases e' : i'=id
   ·rw[e,e']
   ·exfalso;rw[Mem.dk _ _ e']at nf;simp only[e',bI]at vS;simp only[e,cb]at ow;exact(hq _ _ _ ow).2.2.2 i' y' o2 n2 nf vS
  ·by_cases e' : i'=id
   ·exfalso;rw[Mem.dk _ _ e]at hy;simp only[e,bI]at ow;simp only[e',cb]at vS;exact(hq _ _ _ vS).2.2.2 i y o1 n1 hy ow
   ·rw[Mem.dk _ _ e]at hy;rw[Mem.dk _ _ e']at nf;simp only[e,bI]at ow;simp only[e',bI]at vS;exact h.inj i i' y y' b1 o1 n1 o2 n2 hy nf ow vS
 ·intro y v hy;rcases hL y v hy with hy|hy
  ·exact(h.dB y v hy).mono (λ_ hb=>hb) hw (λ_ hi=>.inl hi) qf
  ·exact hy
structure MA(P:Program)(e:TypeId)(size:Nat)(tx:TypeId)(x:Value)(n:Nat)(news:List Value)(w:World):Prop where
 newsLen:news.length=n*size
 room:∀(t ty:TypeId) (i:TypeInfo),P.underlying t=some (.slice e)->P.info? e=some i->i.size=size->∀(b off g_ jQ:Nat),g_+n<=jQ->
  (∀j,j<news.length->(w.cell? ⟨b,off+g_*i.size+j,none⟩).isSome=true)->(∀j,j<news.length->w.frozen? ⟨b,off+g_*i.size+j,none⟩=false)->
  (Builtin.append_ #[t,tx] ty #[.slice (some ⟨b,off,none⟩) g_ jQ,x]).run P w=.ok (.slice (some ⟨b,off,none⟩) (g_+n) jQ) (w.setCells b (off+g_*i.size) news)
 grow:∀(t ty:TypeId) (i:TypeInfo) (z:Value),P.underlying t=some (.slice e)->P.info? e=some i->i.size=size->i.zero=some z->i.bytes<=4096->∀(base:Option Addr) (g_ jQ:Nat) (olds:List Value),
  (Builtin.firstCells i.size g_ (.slice base g_ jQ)).run P w.drew=.ok olds.toArray w.drew->jQ<g_+n->0<n->g_+n<=1000000000->Builtin.nextslicecap (g_+n) jQ*i.bytes<=281474976710656->
  (Builtin.append_ #[t,tx] ty #[.slice base g_ jQ,x]).run P w=.ok (.slice (some ⟨w.heap.size,0,none⟩) (g_+n) (grownCap w (g_+n) jQ e))
   (w.drew.alloc (.cells ((olds++news).toArray++Builtin.zeroCells z.cells (grownCap w (g_+n) jQ e - (g_+n))) e))
 nothing:∀(t ty:TypeId) (i:TypeInfo),P.underlying t=some (.slice e)->P.info? e=some i->i.size=size->n=0->∀(base:Option Addr) (g_ jQ:Nat),g_<=jQ->
  (Builtin.append_ #[t,tx] ty #[.slice base g_ jQ,x]).run P w=.ok (.slice base g_ jQ) w
theorem Src.Lu{e:TypeId}{size:Nat}{tx:TypeId}{x:Value}{n:Nat}{news:List Value}(h:Src P size tx x n news w):MA P e size tx x n news w:=by
 refine⟨h.newsLen,?_,?_,?_⟩
 ·intro t ty i ht hi hs b off g_ jQ hr hc hf;subst hs;exact run_append_room_src (P:=P) w t tx ty e i ht hi b off g_ jQ x n news h hr hc hf
 ·intro t ty i z ht hi hs hz hb base g_ jQ olds ho hg h0 hm BD;subst hs;exact run_append_grow_src (P:=P) w t tx ty e i z ht hi hz base g_ jQ olds ho x n news h hg (by omega) BD
 ·intro t ty i ht hi hs hn base g_ jQ hle;subst hs;subst hn;have:news=[]:=aT.1 (by rw[h.newsLen];simp);subst this;exact run_append_nothing (P:=P) w t tx ty e i ht hi base g_ jQ hle x h
theorem AF{e:TypeId}{i0:TypeInfo}{z0:Value}{tx:TypeId}{kn:IntKind}(P6:P.underlying tx=some (.int kn))(JF:P.info? e=some i0)(N2:i0.zero=some z0)(Is:z0.cells.size=i0.size)(h1:0<i0.size)(BC:∀u∈z0.cells.toList,u.oneCell'=true)
  (Yc:i0.bytes<=4096) (k:Nat) (hk:k<=1000000000):MA P e i0.size tx (.int .i64 k) k (Builtin.zeroCells z0.cells k).toList w:=by
 have hw:IntKind.i64.wrap (k:Int)=k:=by rw[IntKind.wrap_i64];omega
 have Uo:IntKind.i64.wrap 0=0:=by rw[IntKind.wrap_i64];rfl
 have R4:¬ ((k:Int)<0):=by omega
 have UL:k*i0.bytes<=1000000000*4096:=Nat.mul_le_mul hk Yc;have S_:¬ (281474976710656<(k:Int)*(i0.bytes:Int)):=by
  rw[<-Int.natCast_mul];omega
 have hlen:(Builtin.zeroCells z0.cells k).toList.length=k*i0.size:=by rw[bo,size_zeroCells,Is]
 have N0:∀u∈(Builtin.zeroCells z0.cells k).toList,u.oneCell'=true:=by
  intro u hu;have hu:u∈Builtin.zeroCells z0.cells k:=by simpa using hu
  unfold Builtin.zeroCells at hu;rw[Array.mem_map]at hu;obtain⟨j,_,rfl⟩:=hu;have eG:j % z0.cells.size<z0.cells.size:=Nat.mod_lt _ (by omega);rw[getElem!_pos z0.cells (j % z0.cells.size) eG];exact BC _ (by simp)
 refine⟨hlen,?_,?_,?_⟩
 ·intro t ty i ht hi hs b off g_ jQ vQ hc hf;rw[JF]at hi;cases hi;by_cases G3:k=0
  ·subst G3;have uT:(Builtin.zeroCells z0.cells 0).toList=[]:=aT.1 (by rw[hlen];simp);rw[uT];have hle:g_<=jQ:=vQ;simp[Builtin.append_,bx ht,bx P6,sizeOf,typeInfo,JF,asInt,asIntOf,Uo,hle,storeCells,World.setCells]
  ·have rq:=run_storeCells_cells (P:=P) b (off+g_*i0.size) (Builtin.zeroCells z0.cells k).toList 0 w (by simpa using hc) (by simpa using hf) N0;simp only[bQ]at rq;have XE:¬ (k*i0.size=0):=Nat.mul_ne_zero G3 (by omega);simp[Builtin.append_,bx ht,bx P6,sizeOf,typeInfo,zeroValue,JF,N2,asInt,asIntOf,hw,R4,S_,XE,vQ,Addr.add_lit,rq]
 ·intro t ty i z ht hi hs hz hb base g_ jQ olds ho hg h0 hm BD;rw[JF]at hi;cases hi;rw[N2]at hz;cases hz;have:=Lib.run_append_grow_zeros (P:=P) w t tx ty e i0 z0 .i64 kn ht P6 JF N2 base g_ jQ olds ho k h0 h1 hg (by omega) (by omega) BD;rw[this];congr 4;apply Array.ext';simp
 ·intro t ty i ht hi hs hn base g_ jQ hle;subst hn;cases base<;>simp[Builtin.append_,bx ht,bx P6,sizeOf,typeInfo,JF,asInt,asIntOf,Uo,hle,storeCells]
structure Yields(P:Program)(w:World)(F:Nat->Prop)(e:TypeId)(size:Nat)(fl:Fl)(u:TypeId)(v:Value)(ys:List AV)(news:List Value):Prop where
 src:MA P e size u v ys.length news w
 cells:∀y∈ys,y.cells.length=size
 ok:∀c∈df ys,uB fl c
 rel:∀(j:Nat) (c:AV),(df ys)[j]?=some c->Rel w F c (news.getD j undef)
theorem wK{u e:TypeId}{ei:TI}{kn:IntKind}(hu:P.underlying u=some (.int kn))(hT:nr P e ei)(hb:ei.bytes<=4096)(h1:0<ei.size)(k:Nat)(hk:k<=1000000000) :
  ∃news,Yields P w F e ei.size ei.flat u (.int .i64 k) (List.replicate k ei.AH) news:=by
 obtain⟨i,hi,_,jH,M_,z,hz,uR,MW⟩:=hT.iq w;have Is:z.cells.size=ei.size:=by rw[<-bo,uR,hT.Kp]
 have DZ:ei.AH.cells.length=ei.size:=by rw[jn hT];simp[TI.qy,hT.Kp]
 refine⟨(Builtin.zeroCells z.cells k).toList,?_,?_,?_,?_⟩
 ·rw[bY,<-jH];refine AF hu hi hz (by omega) (by omega) (λv hv=>?_) (by omega) k hk;rw[uR]at hv;rw[jE];exact ay.1 hT.w7 v hv
 ·intro v hv;rw[(bT.1 hv).2];exact DZ
 ·intro v hv;simp only[df,aS]at hv;obtain⟨u,hu,hv⟩:=hv;rw[(bT.1 hu).2]at hv;exact wI hT v hv
 ·intro j c hj;have M5:=(aB.1 hj).1;rw[(dW ei.size _ (λv hv=>by rw[(bT.1 hv).2];exact DZ)).1,bY]at M5;have:=tR hj;rw[DZ,jn hT]at this;simp only[TI.qy,aL,aA]at this;obtain⟨v,hv,rfl⟩:=this;have BC:one v=true:=ay.1 hT.w7 v (aO hv);have e:(Builtin.zeroCells z.cells k).toList.getD j undef=v:=by
   have h2:z.cells[j % ei.size]?=some v:=by rw[<-uR]at hv;simpa using hv
   have h3:z.cells[j % ei.size]! = v:=by rw[getElem!_def,h2]
   rw[ah];simp[Builtin.zeroCells,Is,M5,h3]
  rw[e];exact .v v BC
theorem wL{x:AV}{v:Value}{K:Fl->Nat->List AV->Option R}{u e e' : TypeId}{fl:Fl}{size:Nat}(hu:P.underlying u=some (.slice e'))(h:de W0 F0 U m L w μ F)(hx:eB w F μ m U x v)
  (hK:ig m x (λgk sz ys=>bif(gk==fl&&Nat.beq sz size)||(Nat.beq sz 0&&ys.isEmpty)then K gk sz ys else none)=some r) :
  ∃gk sz ys news,K gk sz ys=some r/\Yields P w F e size fl u v ys news:=by
 have nil:∀(c:Nat),Yields P w F e size fl u (.slice none 0 c) [] []:=λc=>⟨Src.Lu (.ofNil w hu c),by simp,by simp[df],by simp[df]⟩;have full:∀(gk : Fl) (sz:Nat) (ys:List AV) (ad:Addr) (cap:Nat) (f:Nat->Value),((gk==fl&&Nat.beq sz size)||(Nat.beq sz 0&&ys.isEmpty))=true->(∀x∈ys,x.cells.length=sz)->(∀c∈df ys,uB gk c)->
   (∀j,j<(df ys).length->w.cell? (ad.add j)=some (f j))->(∀j c,(df ys)[j]?=some c->Rel w F c (f j))->
   Yields P w F e size fl u (.slice (some ad) ys.length cap) ys ((List.range (df ys).length).map f):=by
  intro gk sz ys ad cap f hc hs gJ jl lh;have xV : ∀x∈ys,x.cells.length=size:=by
   intro x hx;rw[bB,ae,ae]at hc;rcases hc with⟨_,hc⟩|⟨_,hc⟩
   ·rw[hs x hx,aj hc]
   ·simp at hc;subst hc;cases hx
  have D2 : ∀c∈df ys,uB fl c:=by
   intro c SA;rw[bB,ae,ae]at hc;rcases hc with⟨hc,_⟩|⟨_,hc⟩
   ·have:gk=fl:=by simpa using hc
    rw[<-this];exact gJ c SA
   ·simp at hc;subst hc;simp[df]at SA
  have G5:∀j,j<(df ys).length->((List.range (df ys).length).map f)[j]?=some (f j):=by intro j hj;simp[hj]
  refine⟨Src.Lu (.ofSlice w hu ad _ cap _ ?_ ?_ ?_),xV,D2,?_⟩
  ·rw[af,List.length_range,(dW size ys xV).1]
  ·intro j v hj;have eG:j<(df ys).length:=by have:=(aB.1 hj).1;simpa using this
   rw[G5 j eG]at hj;cases hj;exact jl j eG
  ·intro v hv;simp only[bz,bK]at hv;obtain⟨j,hj,rfl⟩:=hv;rw[jE];have hg:(df ys)[j]?=some (df ys)[j]:=aP hj;exact(lh j _ hg).lg (D2 _ (aX hj)).1
  ·intro j c hj;have eG:=(aB.1 hj).1;rw[ah,G5 j eG];exact lh j c hj
 unfold ig at hK;split at hK
 ·obtain⟨hc,hK⟩:=cV hK;have:=(dF hx).1;subst this;exact⟨_,_,_,_,hK,nil 0⟩
 ·rename_i gk sz xs;obtain⟨hc,hK⟩:=cV hK;obtain⟨_,hx⟩:=hx;cases hx with
  | uL=>exact⟨_,_,_,_,hK,nil 0⟩
  | sl _ _ _ ad cap f hF Mf hs hf jl hr=>exact⟨_,_,_,_,hK,full gk sz xs ad cap f hc hs hf jl hr⟩
 ·rename_i j off l;split at hK
  ·rename_i gk sz xs hm;obtain⟨hc,hK⟩:=cV hK;obtain⟨_,L3,hx⟩:=hx;obtain⟨ad,cap,rfl,jg,hlen,hp⟩:=hx gk sz xs hm;obtain⟨hs,lq,gE⟩:=h.j7 j _ hm;have qe:=lD off l xs;generalize hn:lenOf xs.length off l=n at *;generalize hY:rowOf off l xs=ys at *;have hl:ys.length=n:=by rw[qe];simp;omega
   have xV : ∀x∈ys,x.cells.length=sz:=λx hx=>hs x (aW (aR (by rwa[qe]at hx)));have xq : ∀x∈df ys,uB gk x:=by
    intro x hx;rw[qe]at hx;simp only[df,aS]at hx;obtain⟨y,hy,hx⟩:=hx;exact lq x (by simp only[df,aS];exact⟨y,aW (aR hy),hx⟩)
   rcases hp with⟨rfl,rfl⟩|⟨b,o,nn,ad,eN,rfl,hb,dT⟩
   ·have h0:n=0:=by omega
    subst h0;have:ys=[]:=aT.1 hl;subst this;exact⟨_,_,_,_,hK,nil 0⟩
   ·by_cases h0:n=0
    ·subst h0;have:ys=[]:=aT.1 hl;subst this;exact⟨_,_,_,_,hK,full gk sz [] ad cap (λ_=>undef) hc (by simp) (by simp[df]) (by simp[df]) (by simp[df])⟩
    ·rcases dT with rfl|⟨rfl,D_⟩
     ·omega
     ·rcases gE with⟨rfl,dG⟩|⟨b',o',C,f,dG,hh,hC,nG,hr⟩
      ·rw[eN]at dG;cases dG
      ·rw[eN]at dG;simp only[aY,bF]at dG;obtain⟨rfl,rfl,rfl⟩:=dG;have:=full gk sz ys ⟨b,o+off*sz,none⟩ cap (λj=>C.getD (o+(off*sz+j)) undef) hc xV xq ?_ ?_
       ·rw[hl]at this;exact⟨_,_,_,_,hK,this⟩
       ·intro j hj;rw[(dW sz _ xV).1,hl]at hj;rw[iz];have h1:(off+n)*sz<=xs.length*sz:=aV _ hlen;rw[bG]at h1;rw[show o+off*sz+j=o+(off*sz+j) by omega];exact cell_of hh (by omega)
       ·intro j c hj;rw[qe]at hj;have hj:=fg sz n _ j c hj;rw[fU sz off xs hs,bg]at hj;exact hr _ c hj
  ·cases hK
 ·cases hK
end
section
variable {R:Type} {P:Program} {G:eH} {o:Oper} {a:Act} {w w' : World} {W0:eC} {F0 U F:Nat->Prop} {id:Nat} {L L' : AV->Value->Prop} {K:AV->Mem->Option R} {r:R} {m:Mem} {μ:Mu} {S:List AV}
theorem k9{c:Call}{x y:Operand}{t u:TypeId}(ho:o.op=.call c)(hc:c.callee=.builtin .append)(ha:c.args=#[x,y])(qY:c.argTypes=#[t,u]){v:Value}
  (h:(Builtin.append_ #[t,u] o.type #[a.eval x,a.eval y]).run P w=.ok v w'):(execOp a.eval o).run P w=.ok (.value v) w':=by
 simp[execOp,ho,resolve,hc,ha,qY,invoke,builtin,h]
theorem fS(xs ys:List AV):df (xs++ys)=df xs++df ys:=by simp[df]
theorem xQ{xs ys:List AV}{size:Nat}{olds news:List Value}{D:List Value}(zu:olds.length=xs.length*size)(JH:∀x∈xs,x.cells.length=size)(X7:∀x∈ys,x.cells.length=size)
  (M3:news.length=ys.length*size)
  (hx:∀j c,(df xs)[j]?=some c->Rel w F c (olds.getD j undef)) (hy:∀j c,(df ys)[j]?=some c->Rel w F c (news.getD j undef)) :
  ∀j c,(df (xs++ys))[j]?=some c->Rel w F c ((olds++news++D).getD j undef):=by
 intro j c hj;rw[fS]at hj;have e1:=(dW size xs JH).1;have e2:=(dW size ys X7).1;have eG:=(aB.1 hj).1;rw[ag,e1,e2]at eG;rw[ah,aN (by rw[ag];omega)];by_cases h:j<xs.length*size
 ·rw[aN (by omega)]at hj;rw[aN (by omega),<-ah];exact hx j c hj
 ·rw[aQ (by omega),e1]at hj;rw[aQ (by omega),zu,<-ah];exact hy _ c hj
theorem jU{t u e:TypeId}{ei:TI}{x y:Operand}{c:Call}(hT:nr P e ei)(hd:P.underlying t=some (.slice e))(ho:o.op=.call c)(hc:c.callee=.builtin .append)(ha:c.args=#[x,y])(qY:c.argTypes=#[t,u])
  (h:de W0 F0 U m L w μ F) (hid:∀j,j<8->¬ U (id+j)) {base:Option Addr} {xs ys:List AV} {cap:Nat} {olds news:List Value} (hb:ei.bytes<=4096)
  (hv:a.eval x=.slice base xs.length cap) (JH:∀x∈xs,x.cells.length=ei.size) (Ol:∀c∈df xs,uB ei.flat c) (zu:olds.length=xs.length*ei.size)
  (Xz:∀j c,(df xs)[j]?=some c->Rel w F c (olds.getD j undef)) (hold:(Builtin.firstCells ei.size xs.length (.slice base xs.length cap)).run P w.drew=.ok olds.toArray w.drew)
  (hY:Yields P w F e ei.size ei.flat u (a.eval y) ys news) (zp:0<ys.length) (zz:cap<xs.length+ys.length) (hm:xs.length+ys.length<=eR)
  (hK:K (.own id 0 none) (m.fJ id (some (.row ei.flat ei.size (xs++ys))))=some r):j0 P o a w W0 F0 U id L K r:=by
 obtain⟨i,hi,_,jH,M_,z,hz,uR,MW⟩:=hT.iq w;have qf:xs.length+ys.length<=1000000000:=hm;have UL:(xs.length+ys.length)*i.bytes<=1000000000*4096:=Nat.mul_le_mul qf (by omega);have BD:=growslice_fits zz (bytes:=i.bytes) (by omega);have eV:=hY.src.grow t o.type i z hd hi jH hz (by omega) base xs.length cap olds (by rw[jH];exact hold) zz zp (by omega) BD;have M3:=hY.src.newsLen;have Md:=grownCap_ge w (xs.length+ys.length) cap e;have Is:z.cells.size=ei.size:=by rw[<-bo,uR,hT.Kp]
 have hl:(xs++ys).length=xs.length+ys.length:=ag;have DZ:(Builtin.zeroCells z.cells (grownCap w (xs.length+ys.length) cap e - (xs.length+ys.length))).size=(grownCap w (xs.length+ys.length) cap e - (xs.length+ys.length))*ei.size:=by rw[size_zeroCells,Is]
 refine .row (C:=(olds++news).toArray++Builtin.zeroCells z.cells (grownCap w (xs.length+ys.length) cap e - (xs.length+ys.length))) (t:=e) (ht:=hT.tid) (f:=(0,0)) (cap:=grownCap w (xs.length+ys.length) cap e) h hid
  (by rw[hl];exact k9 ho hc ha qY (by rw[hv];exact eV)) ((Below.refl _ w).drew.alloc (aJ _) _) (iM w.drew _) ?_ ?_ ?_ ?_ ?_ ?_ hK
 ·exact .inl rfl
 ·intro v hv;rcases aK.1 hv with hv|hv
  ·exact JH v hv
  ·exact hY.cells v hv
 ·intro v hv;rw[fS]at hv;rcases aK.1 hv with hv|hv
  ·exact Ol v hv
  ·exact hY.ok v hv
 ·omega
 ·rw[Array.size_append,DZ];simp only[List.size_toArray,ag,zu,M3];rw[Nat.sub_mul,bG];have:=aV ei.size Md;rw[bG]at this;omega
 ·intro j c hj;have:=xQ (D:=(Builtin.zeroCells z.cells (grownCap w (xs.length+ys.length) cap e - (xs.length+ys.length))).toList) zu JH hY.cells M3 Xz hY.rel j c hj;have e' : ((olds++news).toArray++Builtin.zeroCells z.cells (grownCap w (xs.length+ys.length) cap e - (xs.length+ys.length))).getD j undef
    = (olds++news++(Builtin.zeroCells z.cells (grownCap w (xs.length+ys.length) cap e - (xs.length+ys.length))).toList).getD j undef:=by
   rw[ah,aI,<-cm];simp
  rw[e'];exact this
theorem uH{u:TypeId}{s:ByteArray}{e:TypeId}{ei:TI}(hu:P.underlying u=some .string)(hs:ei.size=1):Yields P w F e ei.size ei.flat u (.string s) (s.toList.map λb=>vu b.toNat) (byteCells s):=by
 have lq:df (s.toList.map λb=>vu b.toNat)=s.toList.map λb=>vu b.toNat:=gA (λc hc=>by simp at hc;obtain⟨_,_,rfl⟩:=hc;rfl);have hl:(s.toList.map λb=>vu b.toNat).length=s.size:=by simp[cH]
 refine⟨by rw[hl,hs];exact Src.Lu (.ofString w hu s),?_,?_,?_⟩
 ·intro y hy;simp at hy;obtain⟨_,_,rfl⟩:=hy;rw[hs];rfl
 ·intro y hy;rw[lq]at hy;simp at hy;obtain⟨_,_,rfl⟩:=hy;exact xk (x:=.v _) rfl
 ·intro j c hj;rw[lq]at hj;simp only[aL,aA]at hj;obtain⟨b,hb,rfl⟩:=hj;have:(byteCells s).getD j undef=.int .u8 b.toNat:=by
   rw[cH]at hb;rw[ah];simp only[byteCells,aL,hb];rfl
  rw[this];exact .v _ rfl
end
end Go.Proofs.Ev
end