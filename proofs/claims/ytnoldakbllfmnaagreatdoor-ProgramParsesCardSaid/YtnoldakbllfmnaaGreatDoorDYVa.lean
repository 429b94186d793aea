import Derived.Orders
import Derived.Below
import Derived.Laws.StructEq
import Derived.Laws.IdiomCopy
import Derived.Laws.IdiomStrings
import Derived.Laws.MakeOwn
import Derived.Laws.Small
import Derived.Laws.Strings
import Derived.Laws.Tables
import Derived.Deep.AppendSrc
import Derived.Lib.AppendZerosOnto
import Derived.Deep.Upon
set_option linter.all false
noncomputable section
namespace Go
theorem ab:type_of%@Option.bind_some:=@Option.bind_some
theorem ae:type_of%@Bool.and_eq_true:=@Bool.and_eq_true
theorem af:type_of%@if_neg:=@if_neg
theorem ag:type_of%@if_pos:=@if_pos
theorem ah:type_of%@List.getD_eq_getElem?_getD:=@List.getD_eq_getElem?_getD
theorem ai:type_of%@List.length_append:=@List.length_append
theorem aj:type_of%@List.length_map:=@List.length_map
theorem ak:type_of%@cond_true:=@cond_true
theorem au:type_of%@Int.toNat_natCast:=@Int.toNat_natCast
theorem aw:type_of%@Nat.eq_of_beq_eq_true:=@Nat.eq_of_beq_eq_true
theorem ay:type_of%@decide_eq_true_eq:=@decide_eq_true_eq
theorem az:type_of%@List.length_cons:=@List.length_cons
theorem aA:type_of%@List.all_eq_true:=@List.all_eq_true
theorem aB:type_of%@Option.bind_none:=@Option.bind_none
theorem aC:type_of%@List.drop_eq_getElem_cons:=@List.drop_eq_getElem_cons
theorem aD:type_of%@Option.map_eq_some_iff:=@Option.map_eq_some_iff
theorem aE:type_of%@List.getElem?_eq_some_iff:=@List.getElem?_eq_some_iff
theorem aF:type_of%@List.drop_of_length_le:=@List.drop_of_length_le
theorem aG:type_of%@Nat.le_of_ble_eq_true:=@Nat.le_of_ble_eq_true
theorem aH:type_of%@Nat.le_refl:=@Nat.le_refl
theorem aI:type_of%@Bool.not_true:=@Bool.not_true
theorem aJ:type_of%@List.length_nil:=@List.length_nil
theorem aK:type_of%@Array.getD_eq_getD_getElem?:=@Array.getD_eq_getD_getElem?
theorem aL:type_of%@Option.bind_eq_some_iff:=@Option.bind_eq_some_iff
theorem aM:type_of%@Bool.not_false:=@Bool.not_false
theorem aN:type_of%@List.getElem?_eq_getElem:=@List.getElem?_eq_getElem
theorem aO:type_of%@List.getElem?_append_left:=@List.getElem?_append_left
theorem aP:type_of%@List.getElem?_map:=@List.getElem?_map
theorem aQ:type_of%@List.length_drop:=@List.length_drop
theorem aR:type_of%@List.getElem?_append_right:=@List.getElem?_append_right
theorem aS:type_of%@List.mem_append:=@List.mem_append
theorem aT:type_of%@List.mem_of_getElem?:=@List.mem_of_getElem?
theorem aU:type_of%@decide_eq_false:=@decide_eq_false
theorem aV:type_of%@List.length_eq_zero_iff:=@List.length_eq_zero_iff
theorem aW:type_of%@List.drop_zero:=@List.drop_zero
theorem aX:type_of%@List.mem_of_mem_take:=@List.mem_of_mem_take
theorem aY:type_of%@List.mem_flatMap:=@List.mem_flatMap
theorem aZ:type_of%@List.getElem_mem:=@List.getElem_mem
theorem a_:type_of%@Bool.not_eq_true:=@Bool.not_eq_true
theorem bc:type_of%@List.append_nil:=@List.append_nil
theorem bd:type_of%@List.length_take:=@List.length_take
theorem bf:type_of%@Nat.mul_le_mul_right:=@Nat.mul_le_mul_right
theorem bg:type_of%@List.mem_of_mem_drop:=@List.mem_of_mem_drop
theorem bh:type_of%@Option.some.injEq:=@Option.some.injEq
theorem bj:type_of%@of_decide_eq_true:=@of_decide_eq_true
theorem bm:type_of%@List.getElem?_drop:=@List.getElem?_drop
theorem bn:type_of%@Array.getElem?_eq_some_iff:=@Array.getElem?_eq_some_iff
theorem bo:type_of%@List.all_cons:=@List.all_cons
theorem br:type_of%@Array.length_toList:=@Array.length_toList
theorem bu:type_of%@Go.run_underlying:=@Go.run_underlying
theorem bw:type_of%@Bool.or_eq_false_iff:=@Bool.or_eq_false_iff
theorem bx:type_of%@List.map_cons:=@List.map_cons
theorem bz:type_of%@List.append_assoc:=@List.append_assoc
theorem bA:type_of%@decide_eq_decide:=@decide_eq_decide
theorem bB:type_of%@Nat.lt_of_lt_of_le:=@Nat.lt_of_lt_of_le
theorem bC:type_of%@Bool.or_eq_true:=@Bool.or_eq_true
theorem bD:type_of%@List.flatMap_cons:=@List.flatMap_cons
theorem bE:type_of%@Nat.add_zero:=@Nat.add_zero
theorem bF:type_of%@List.nil_append:=@List.nil_append
theorem bG:type_of%@List.mem_singleton:=@List.mem_singleton
theorem bH:type_of%@decide_eq_false_iff_not:=@decide_eq_false_iff_not
theorem bI:type_of%@Prod.mk.injEq:=@Prod.mk.injEq
theorem bJ:type_of%@Nat.pow_le_pow_right:=@Nat.pow_le_pow_right
theorem bK:type_of%@Nat.add_mul:=@Nat.add_mul
theorem bL:type_of%@List.take_succ_eq_append_getElem:=@List.take_succ_eq_append_getElem
theorem bM:type_of%@List.mem_range:=@List.mem_range
theorem bN:type_of%@List.length_singleton:=@List.length_singleton
theorem bO:type_of%@Nat.zero_add:=@Nat.zero_add
theorem bP:type_of%@List.length_pos_iff:=@List.length_pos_iff
theorem bQ:type_of%@Option.some.inj:=@Option.some.inj
theorem bR:type_of%@List.any_eq_true:=@List.any_eq_true
theorem bS:type_of%@List.mem_cons_of_mem:=@List.mem_cons_of_mem
theorem bT:type_of%@List.contains_eq_mem:=@List.contains_eq_mem
theorem bU:type_of%@List.getElem?_take_of_lt:=@List.getElem?_take_of_lt
theorem bV:type_of%@List.takeWhile_cons:=@List.takeWhile_cons
theorem bW:type_of%@List.take_append_drop:=@List.take_append_drop
theorem bX:type_of%@List.length_replicate:=@List.length_replicate
theorem bY:type_of%@List.mem_replicate:=@List.mem_replicate
theorem bZ:type_of%@List.mem_cons_self:=@List.mem_cons_self
theorem b9:type_of%@Bool.false_eq_true:=@Bool.false_eq_true
theorem b_:type_of%@List.length_eq_one_iff:=@List.length_eq_one_iff
theorem ca:type_of%@List.drop_succ_cons:=@List.drop_succ_cons
theorem cb:type_of%@Nat.ble_eq_true_of_le:=@Nat.ble_eq_true_of_le
theorem cd:type_of%@not_not_intro:=@not_not_intro
theorem cf:type_of%@List.all_append:=@List.all_append
theorem cg:type_of%@Go.Result.andThen_ok:=@Go.Result.andThen_ok
theorem ch:type_of%@List.contains_cons:=@List.contains_cons
theorem cj:type_of%@List.mem_cons:=@List.mem_cons
theorem ck:type_of%@if_true:=@if_true
theorem cl:type_of%@List.take_of_length_le:=@List.take_of_length_le
theorem cm:type_of%@List.cons_append:=@List.cons_append
theorem cn:type_of%@Nat.succ_mul:=@Nat.succ_mul
theorem cr:type_of%@Nat.le_trans:=@Nat.le_trans
theorem ct:type_of%@Bool.true_and:=@Bool.true_and
theorem cu:type_of%@List.drop_drop:=@List.drop_drop
theorem cv:type_of%@Go.Sem.run_bind:=@Go.Sem.run_bind
theorem cw:type_of%@Array.getElem?_toList:=@Array.getElem?_toList
theorem cz:type_of%@UInt8.toNat_inj:=@UInt8.toNat_inj
theorem cA:type_of%@Bool.eq_iff_iff:=@Bool.eq_iff_iff
theorem cB:type_of%@Nat.zero_le:=@Nat.zero_le
theorem cC:type_of%@List.take_succ_cons:=@List.take_succ_cons
theorem cD:type_of%@List.mem_map:=@List.mem_map
theorem cE:type_of%@Option.map_some:=@Option.map_some
theorem cF:type_of%@List.drop_left:=@List.drop_left
theorem cG:type_of%@List.replicate_succ:=@List.replicate_succ
theorem cH:type_of%@Bool.false_or:=@Bool.false_or
theorem cJ:type_of%@Go.ByteArray.toList_eq:=@Go.ByteArray.toList_eq
theorem cK:type_of%@List.take_left:=@List.take_left
theorem cL:type_of%@List.takeWhile_sublist:=@List.takeWhile_sublist
theorem cM:type_of%@Eq.trans:=@Eq.trans
end Go
namespace Go.Proofs.Ev
open Go
structure Fl where
 b:Bool
 te:TypeId
 st:Bool
 deriving Inhabited
def Fl.VO(x y:Fl):Bool:=(x.b==y.b)&&Nat.beq x.te y.te
def Fl.beq(x y:Fl):Bool:=(x.st==y.st)&&((x.b==y.b)&&Nat.beq x.te y.te)
instance:BEq Fl:=⟨Fl.beq⟩
theorem Fl.Ti{x y:Fl}(h:(x==y)=true):x=y:=by
 cases x;cases y;have h:Fl.beq _ _=true:=h;unfold Fl.beq at h;rw[ae,ae]at h;have h0:=eq_of_beq h.1;have h1:=eq_of_beq h.2.1;have h2:=aw h.2.2;simp only at h0 h1 h2;subst h0 h1 h2;rfl
theorem Fl.refl(x:Fl):(x==x)=true:=by
 cases x;show Fl.beq _ _=true;simp[Fl.beq]
instance:LawfulBEq Fl:={ eq_of_beq:=Fl.Ti,rfl:=Fl.refl _ }
inductive AV where
 | v (x:Value)
 | sl (fl:Fl) (sz:Nat) (xs:List AV)
 | own (id off:Nat) (len:Option Nat)
 | fr (fl:Fl) (sz:Nat) (xs:List AV)
 | ptr (id off:Nat)
 | s_ (id i off:Nat)
 | rd (cs:List AV)
 | agg (cs:List AV)
 | eC (xs:List AV)
 | fn (f:FuncId) (f_:List AV)
 | err (b:Bool)
 | bs (id:Nat)
 | undef
 deriving Inhabited
abbrev vi(n:Int):AV:=.v (.int .i64 n)
abbrev vu(n:Int):AV:=.v (.int .u8 n)
abbrev vb(b:Bool):AV:=.v (.bool b)
abbrev vs(s:ByteArray):AV:=.v (.string s)
def AV.cells:AV->List AV
 | .agg cs=>cs
 | x=>[x]
def AV.Qr:AV->Bool
 | .v _=>true
 | _=>false
def AV.pG:AV->Bool
 | .undef | .agg _ | .eC _ | .fr _ _ _=>false
 | _=>true
def AV.Yj:AV->Bool
 | .fn _ _=>true
 | _=>false
def AV.okB:AV->Bool
 | .fn _ _=>false
 | x=>x.pG
def xn:Nat:=1000000
def one:Value->Bool
 | .agg _ | .tuple _=>false
 | _=>true
inductive sv where
 | box (tb:TypeId) (cs:List AV)
 | row (fl:Fl) (sz:Nat) (xs:List AV)
abbrev Mem:=Nat->Option sv
def Mem.gB(m:Mem)(i:Nat)(x:Option sv):Mem:=λj=>bif Nat.beq j i then x else m j
inductive SK where
 | int (k:IntKind) | bool | str | slice (fl:Fl) (sz:Nat) | any
inductive TK where
 | slice (elem:TypeId) | struct (fields:List (TypeId × Nat)) | arr (n:Nat) (elem:TypeId) | ptr (elem:TypeId) | int (k:IntKind) | string | bool | iface | other
def TK.agg:TK->Bool
 | .struct _ | .arr _ _=>true
 | _=>false
structure TI where
 kd:TK
 size:Nat
 bytes:Nat
 isAgg:Bool
 A2:List SK
 zero:List Value
 tid:TypeId
def TI.tv(t:TI):List AV:=t.zero.map AV.v
def TI.pe(t:TI):Bool:=t.A2.all fun | .slice _ _ | .any=>false | _=>true
def TI.flat(t:TI):Fl:=⟨t.pe,t.tid,false⟩
structure fv where
 gM:TypeId->Option TI
 GX:Nat->Option (List AV)
 params:FuncId->List TypeId
 kb:Nat:=0
 rows:FuncId->Bool:=λ_=>false
 refs:FuncId->Bool:=λ_=>false
section
variable {R:Type}
def js(p:Bool)(K:Option R):Option R:=bif p then K else none
def oO(x:AV)(K:Value->Option R):Option R:=match x with | .v y=>K y | _=>none
def cQ(k:IntKind)(x:AV)(K:Int->Option R):Option R:=
 match x with | .v (.int k' n)=>bif decide (k'=k)then K n else none | _=>none
def gk(x:AV)(K:IntKind->Int->Option R):Option R:=match x with | .v (.int k n)=>K k n | _=>none
def gm(x:AV)(K:Bool->Option R):Option R:=match x with | .v (.bool b)=>K b | _=>none
def df(x:AV)(K:ByteArray->Option R):Option R:=match x with | .v (.string s)=>K s | _=>none
def gU(fl:Fl)(sz:Nat)(x:AV)(K:List AV->Option R):Option R:=
 match x with
 | .v (.slice none 0 0)=>K []
 | .sl iA jL xs=>bif iA==fl&&Nat.beq jL sz then K xs else none
 | _=>none
def cN(cs:List AV)(K:AV->List AV->Option R):Option R:=match cs with | c::r=>K c r | []=>none
def cX{α:Type}(x:Option α)(K:α->Option R):Option R:=match x with | .some y=>K y | .none=>.none
def mO(len:Nat)(i:Int)(K:Nat->Option R):Option R:=bif decide (0<=i)&&decide (i<len)then K i.toNat else none
def wY(k:SK)(x:AV)(K:AV->Option R):Option R:=
 match k with
 | .int k=>cQ k x λn=>K (.v (.int k n))
 | .bool=>gm x λb=>K (.v (.bool b))
 | .str=>df x λs=>K (.v (.string s))
 | .slice fl sz=>gU fl sz x λxs=>K (.sl fl sz xs)
 | .any=>K x
def xK:List SK->List AV->(List AV->Option R)->Option R
 | [],_,K=>K []
 | k::ks,cs,K=>cN cs λc r=>wY k c λc'=>xK ks r λkN=>K (c'::kN)
def HX(t:TI)(cs:List AV)(K:AV->Option R):Option R:=
 bif t.isAgg then K (.agg cs)else match cs with | [c]=>K c | _=>none
end
structure St where
 tm:List AV
 m:Mem
 mI:Nat
def ev(G:fv)(tm:List AV):Operand->AV
 | .tmp t=>tm.getD t .undef
 | .const x=>bif one x then .v x else .undef
 | .global g=>match G.GX g with | .some cs=>.rd cs | .none=>.undef
 | .func f=>bif Nat.blt f xn then .fn f []else .undef
def lenOf(n off:Nat):Option Nat->Nat
 | .some l=>l
 | .none=>n - off
def kO(off:Nat)(xs:List AV):List AV:=match off with | 0=>xs | n+1=>xs.drop (n+1)
def rowOf(off:Nat)(l:Option Nat)(xs:List AV):List AV:=match l with | .none=>kO off xs | .some n=>(xs.drop off).take n
section
variable {R:Type}
def jF(m:Mem)(x:AV)(K:Fl->Nat->List AV->Option R):Option R:=
 match x with
 | .v (.slice none 0 0)=>K ⟨true,0,false⟩ 0 []
 | .sl fl sz xs=>K fl sz xs
 | .own id off l=>match m id with
  | .some (.row fl sz xs)=>K fl sz (rowOf off l xs)
  | _=>none
 | _=>none
def oq(m:Mem)(x:AV)(K:Nat->Option R):Option R:=
 match x with
 | .v (.slice none 0 0)=>K 0
 | .sl _ _ xs=>K xs.length
 | .own id off l=>match m id with
  | .some (.row _ _ xs)=>K (lenOf xs.length off l)
  | _=>none
 | .bs id=>match m id with
  | .some (.box _ cs)=>K cs.length
  | _=>none
 | _=>none
def nl(m:Mem)(x:AV):Option AV:=
 match x with
 | .own _ _ _=>jF m x λfl sz xs=>Option.some (.sl fl sz xs)
 | .ptr _ _ | .s_ _ _ _ | .fr _ _ _ | .undef | .fn _ _ | .eC _ | .agg _ | .bs _=>none
 | x=>Option.some x
def pX(m:Mem):List AV->Option (List AV)
 | []=>Option.some []
 | x::r=>match nl m x,pX m r with | .some y,.some s=>Option.some (y::s) | _,_=>none
def nL(m:Mem)(x:AV):Option AV:=
 match x with
 | .agg cs=>(pX m cs).map .agg
 | x=>nl m x
def vk(m:Mem)(x:AV):Option AV:=
 match x with
 | .ptr id off=>match m id with
  | .some (.box _ cs)=>(pX m (cs.drop off)).map .rd
  | _=>none
 | x=>nl m x
def tz(m:Mem):List AV->Option (List AV)
 | []=>Option.some []
 | x::r=>match vk m x,tz m r with | .some y,.some s=>Option.some (y::s) | _,_=>none
def fc(m:Mem)(x:AV):Option AV:=
 match x with
 | .agg cs=>(pX m cs).map .agg
 | .fn f f_=>(tz m f_).map (.fn f)
 | x=>vk m x
def lL(m:Mem):List AV->Option (List AV)
 | []=>Option.some []
 | x::r=>match fc m x,lL m r with | .some y,.some s=>Option.some (y::s) | _,_=>none
def v7(k:SK)(x:AV):Option AV:=
 match k with
 | .slice fl sz=>match x with
  | .v (.slice none 0 0)=>Option.some (.sl fl sz [])
  | .sl iA jL xs=>bif iA==fl&&Nat.beq jL sz then Option.some (.sl fl sz xs)else none
  | _=>none
 | .any=>match x with
  | .v .nilIface=>Option.some (.err false)
  | .v (.iface _ _)=>Option.some (.err true)
  | x=>Option.some x
 | _=>Option.some x
def v_:List SK->List AV->Option (List AV)
 | [],_=>Option.some []
 | k::ks,x::r=>match v7 k x,v_ ks r with | .some y,.some s=>Option.some (y::s) | _,_=>none
 | _::_,[]=>none
def yA(G:fv)(t:TypeId)(x:AV):Option AV:=
 match G.gM t with
 | .some ti=>
  match x with
  | .agg cs=>bif Nat.beq cs.length ti.size then(v_ ti.A2 cs).map .agg else none
  | .rd cs=>match ti.kd with
   | .ptr e=>match G.gM e with
    | .some ei=>(v_ ei.A2 cs).map .rd
    | .none=>none
   | _=>none
  | x=>match ti.A2 with
   | [k]=>v7 k x
   | _=>none
 | .none=>none
def o_:List AV->List AV->List AV
 | x::r,y::s=>(match x,y with | .own _ _ _,.sl fl sz xs=>.sl ⟨fl.b,fl.te,true⟩ sz xs | _,y=>y)::o_ r s
 | _,s=>s
def DU(G:fv)(t:TypeId)(x:AV):Option AV:=
 match x with
 | .sl iA jL xs=>match G.gM t with
  | .some ti=>match ti.A2 with
   | [.slice fl sz]=>bif iA.VO fl&&Nat.beq jL sz then Option.some (.sl iA jL xs)else none
   | _=>none
  | .none=>none
 | x=>yA G t x
def jV(G:fv):List TypeId->List AV->Option (List AV)
 | [],[]=>Option.some []
 | t::ts,x::r=>match DU G t x,jV G ts r with | .some y,.some s=>Option.some (y::s) | _,_=>none
 | _,_=>none
def k9(G:fv):List TypeId->List AV->Option (List AV)
 | [],[]=>Option.some []
 | t::ts,x::r=>match yA G t x,k9 G ts r with | .some y,.some s=>Option.some (y::s) | _,_=>none
 | _,_=>none
def BR(G:fv)(f:FuncId)(args gi:List AV):Option (List AV):=bif G.rows f then jV G (G.params f) (o_ args gi)else k9 G (G.params f) gi
def um(id:Nat)(c:Nat)(m:Mem)(x:AV):AV × Nat × Mem:=
 match x with
 | .fr fl sz xs=>(.own (id+c) 0 none,c+1,m.gB (id+c) (Option.some (.row fl sz xs)))
 | x=>(x,c,m)
def qJ(id:Nat):Nat->Mem->List AV->List AV × Nat × Mem
 | c,m,[]=>([],c,m)
 | c,m,x::r=>match um id c m x with | (y,c,m)=>match qJ id c m r with | (s,c,m)=>(y::s,c,m)
def qK(id:Nat)(c:Nat)(m:Mem)(x:AV):AV × Nat × Mem:=
 match x with
 | .agg cs=>match qJ id c m cs with | (s,c,m)=>(.agg s,c,m)
 | x=>um id c m x
def ny(id:Nat):Nat->Mem->List AV->List AV × Nat × Mem
 | c,m,[]=>([],c,m)
 | c,m,x::r=>match qK id c m x with | (y,c,m)=>match ny id c m r with | (s,c,m)=>(y::s,c,m)
def imp(id:Nat)(m:Mem)(x:AV):AV × Nat × Mem:=
 match x with
 | .eC xs=>match ny id 0 m xs with | (s,c,m)=>(.eC s,c,m)
 | x=>qK id 0 m x
end
section
variable {R:Type}
def strOf:List AV->Option (List UInt8)
 | []=>Option.some []
 | .v (.int .u8 n)::r=>(strOf r).map (UInt8.ofNat n.toNat::·)
 | _::_=>none
def EB(op:BinOp)(x y:Value)(K:Value->Option R):Option R:=
 match x,y with
 | .int k a,.int k' b=>
  match op with
  | .shl=>bif decide (0<=b)then K (.int k (k.wrap (a*2 ^ min b.toNat k.bits)))else none
  | .shr=>bif decide (0<=b)then K (.int k (a.fdiv (2 ^ min b.toNat k.bits)))else none
  | _=>bif decide (k=k')then
   (match op with
   | .add=>K (.int k (k.wrap (a+b)))
   | .sub=>K (.int k (k.wrap (a - b)))
   | .mul=>K (.int k (k.wrap (a*b)))
   | .quo=>bif b==0 then none else K (.int k (k.wrap (a.tdiv b)))
   | .rem=>bif b==0 then none else K (.int k (a.tmod b))
   | .and=>K (.int k (k.wrap (BitVec.ofInt k.bits a &&& BitVec.ofInt k.bits b).toNat))
   | .or=>K (.int k (k.wrap (BitVec.ofInt k.bits a ||| BitVec.ofInt k.bits b).toNat))
   | .xor=>K (.int k (k.wrap (BitVec.ofInt k.bits a ^^^ BitVec.ofInt k.bits b).toNat))
   | .andNot=>K (.int k (k.wrap (BitVec.ofInt k.bits a &&& ~~~ BitVec.ofInt k.bits b).toNat))
   | .eql=>K (.bool (a==b))
   | .neq=>K (.bool (a != b))
   | .lss=>K (.bool (decide (a<b)))
   | .leq=>K (.bool (decide (a<=b)))
   | .gtr=>K (.bool (decide (a>b)))
   | .geq=>K (.bool (decide (a>=b)))
   | _=>none)else none
 | .string a,.string b=>
  match op with
  | .add=>js (decide (a.size+b.size<=9223372036854775807)) (K (.string (a++b)))
  | .eql=>K (.bool (a.toList==b.toList))
  | .neq=>K (.bool (!(a.toList==b.toList)))
  | .lss=>K (.bool (Op.bytesLess a.toList b.toList))
  | .leq=>K (.bool (Op.bytesLess a.toList b.toList||a.toList==b.toList))
  | .gtr=>K (.bool (!(Op.bytesLess a.toList b.toList||a.toList==b.toList)))
  | .geq=>K (.bool (!Op.bytesLess a.toList b.toList))
  | _=>none
 | _,_=>none
def Kr(k:SK)(x y:Value):Option Bool:=
 match k,x,y with
 | .int k,.int k1 a,.int k2 b=>bif decide (k1=k)&&decide (k2=k)then Option.some (a==b)else none
 | .str,.string a,.string b=>Option.some (a==b)
 | .bool,.bool a,.bool b=>Option.some (a==b)
 | _,_,_=>none
def QJ:List SK->List AV->List AV->(Bool->Option R)->Option R
 | [],[],[],K=>K true
 | k::ks,.v x::r,.v y::s,K=>match Kr k x y with
  | .some b=>QJ ks r s λc=>K (b&&c)
  | .none=>none
 | _,_,_,_=>none
def ly(kinds:TypeId->Option (List SK)):Nat->List (TypeId × Nat)->Option (List SK)
 | _,[]=>Option.some []
 | off,(t,o)::r=>bif Nat.beq o off then(match kinds t with
  | .some ks=>(match ly kinds (off+ks.length) r with | .some l=>Option.some (ks++l) | .none=>none)
  | .none=>none)else none
def gb(G:fv):Nat->TypeId->Option (List SK)
 | 0,_=>none
 | n+1,t=>match G.gM t with
  | .some ti=>match ti.kd with
   | .int k=>bif Nat.beq ti.size 1 then Option.some [.int k]else none
   | .string=>bif Nat.beq ti.size 1 then Option.some [.str]else none
   | .bool=>bif Nat.beq ti.size 1 then Option.some [.bool]else none
   | .struct fs=>match ly (gb G n) 0 fs with
    | .some ks=>bif Nat.beq ks.length ti.size then Option.some ks else none
    | .none=>none
   | _=>none
  | .none=>none
def qH(G:fv)(t:TypeId):Bool:=match G.gM t with | .some ti=>ti.kd.agg | .none=>false
def isIface(G:fv)(t:TypeId):Bool:=match G.gM t with | .some ti=>(match ti.kd with | .iface=>true | _=>false) | .none=>false
def isSlice(G:fv)(t:TypeId):Bool:=match G.gM t with | .some ti=>(match ti.kd with | .slice _=>true | _=>false) | .none=>false
def isBool(G:fv)(t:TypeId):Bool:=match G.gM t with | .some ti=>(match ti.kd with | .bool=>true | _=>false) | .none=>false
def qj(op:BinOp)(b:Bool)(K:Bool->Option R):Option R:=match op with | .eql=>K b | .neq=>K (!b) | _=>none
def KK(G:fv)(op:BinOp)(t:TypeId)(c:Bool)(x y:AV)(K:AV->Option R):Option R:=
 match x,y with
 | .v (.nilIface),.v (.nilIface)=>bif c&&isIface G t then qj op true λb=>K (vb b)else none
 | .v (.iface _ _),.v (.nilIface)=>bif isIface G t then qj op false λb=>K (vb b)else none
 | .err b,.v (.nilIface)=>bif c&&isIface G t then qj op (!b) λb=>K (vb b)else none
 | .v (.slice none 0 0),.v (.slice none 0 0)=>bif isSlice G t then qj op true λb=>K (vb b)else none
 | .v (.bool a),.v (.bool b)=>bif isBool G t then qj op (a==b) λb=>K (vb b)else none
 | .v a,.v b=>EB op a b λc=>K (.v c)
 | .agg a,.agg b=>
  match gb G 9 t with
  | .some ks=>bif qH G t then QJ ks a b λc=>qj op c λb=>K (vb b)else none
  | .none=>none
 | _,_=>none
def Q8(op:UnOp)(x:AV)(K:AV->Option R):Option R:=
 match op,x with
 | .not,.v (.bool b)=>K (vb (!b))
 | .neg,.v (.int k n)=>K (.v (.int k (k.wrap (0 - n))))
 | _,_=>none
def lz(G:fv):List (TypeId × Nat)->Option (List (Nat × Nat))
 | []=>Option.some []
 | (t,off)::r=>match G.gM t,lz G r with | .some fi,.some s=>Option.some ((off,fi.size)::s) | _,_=>none
def placeOf(G:fv)(t:TI):Option (Nat->Option (Nat × Nat)):=
 match t.kd with
 | .struct fs=>match lz G fs with | .some l=>Option.some λi=>l[i]? | .none=>none
 | .arr _ e=>match G.gM e with | .some ei=>Option.some λi=>Option.some (i*ei.size,ei.size) | .none=>none
 | _=>none
def sj(pl:Nat->Option (Nat × Nat))(cells:List AV):List (Nat × AV)->Option (List AV)
 | []=>Option.some cells
 | (i,x)::r=>match pl i with
  | .some (off,size)=>bif Nat.beq x.cells.length size&&Nat.ble (off+size) cells.length&&x.cells.all AV.pG then sj pl (cells.take off++x.cells++cells.drop (off+size)) r else none
  | .none=>none
def wi:Nat->List (Nat × AV)->Bool
 | _,[]=>true
 | i,(j,_)::r=>Nat.beq i j&&wi (i+1) r
def lG:AV->List Nat
 | .own id _ _ | .s_ id _ _=>[id]
 | _=>[]
def jD:AV->List Nat
 | .agg cs=>cs.flatMap lG
 | x=>lG x
def wD(m:Mem):AV->List Nat
 | .ptr id _=>id::(match m id with | .some (.box _ cs)=>cs.flatMap lG | _=>[])
 | x=>lG x
def jn(m:Mem):AV->List Nat
 | .agg cs=>cs.flatMap lG
 | .fn _ f_=>f_.flatMap (wD m)
 | x=>wD m x
def kG:AV->Bool
 | .ptr _ _=>true
 | .fn _ f_=>f_.any fun | .ptr _ _=>true | _=>false
 | _=>false
def nA(m:Mem)(ids:List Nat):Mem:=ids.foldl (λm i=>m.gB i none) m
def AW:AV->Bool
 | .v _ | .err _=>true
 | .fr fl _ _=>fl.b
 | _=>false
def w0:AV->Bool
 | .agg cs=>cs.all AW
 | x=>AW x
def nf:AV->Bool
 | .eC xs=>xs.all w0
 | x=>w0 x
def nw(m:Mem)(ti:TI)(x:AV):Option AV:=
 match nL m x with
 | .some y=>bif Nat.beq y.cells.length ti.size&&y.cells.all AV.pG&&(!ti.pe||y.cells.all AV.Qr)then Option.some y else none
 | .none=>none
def mD(m:Mem)(ti:TI):List AV->Option (List AV)
 | []=>Option.some []
 | x::r=>match nw m ti x,mD m ti r with | .some y,.some s=>Option.some (y::s) | _,_=>none
def fe:Nat:=1000000000
def ou(i:Int):Nat->(Nat->Option R)->Option R
 | 0,_=>none
 | n+1,K=>bif decide (i=(n:Int))then K n else ou i n K
def yn(n:Nat)(i:Int)(K:Nat->Option R):Option R:=bif Nat.ble n 16 then ou i n K else mO n i K
def uY:TK->Bool
 | .other=>true
 | _=>false
def D0(x:Option AV)(h:Int)(K:Int->Option R):Option R:=
 match x with
 | .some l=>gk l λ_ n=>bif decide (0<=n)&&decide (n<=h)then K n else none
 | .none=>K 0
def Mp(x:Option AV)(n:Int)(K:Int->Option R)(N:Option R):Option R:=
 match x with
 | .some h=>gk h λ_ h=>bif decide (0<=h)&&decide (h<=n)then K h else none
 | .none=>N
def fM(G:fv)(o:Op)(S:List AV)(m:Mem)(id:Nat)(K:AV->Mem->Option R):Option R:=
 match o with
 | .move x | .assign x=>K (ev G S x) m
 | .pick c a b=>gm (ev G S c) λp=>
  match ev G S a,ev G S b with
  | .v (.bool x),.v (.bool y)=>K (vb (bif p then x else y)) m
  | x,y=>bif p then K x m else K y m
 | .alloc t=>cX (G.gM t) λti=>K (.ptr id 0) (m.gB id (Option.some (.box t ti.tv)))
 | .box t x=>cX (G.gM t) λti=>bif Nat.beq (ev G S x).cells.length ti.size&&(ev G S x).cells.all AV.pG then K (.ptr id 0) (m.gB id (Option.some (.box t (ev G S x).cells)))else none
 | .build t parts=>cX (G.gM t) λti=>bif ti.isAgg then
   cX (placeOf G ti) λpl=>cX (sj pl ti.tv (parts.toList.map fun(i,x)=>(i,ev G S x))) λcs=>K (.agg cs) m
  else none
 | .buildSlice t len parts=>cX (G.gM t) λti=>match ti.kd with
  | .slice e=>cX (G.gM e) λei=>
   bif uY ei.kd then
    (bif(Nat.beq parts.size len&&wi 0 (parts.toList.map fun(i,x)=>(i,ev G S x))&&Nat.ble (len*ei.size) 16777216&&Nat.beq ei.size 1)&&(parts.toList.map fun(_,x)=>ev G S x).all AV.Yj then
     K (.bs id) (m.gB id (Option.some (.box e (parts.toList.map fun(_,x)=>ev G S x))))else none)
   else
   bif Nat.beq parts.size len&&wi 0 (parts.toList.map fun(i,x)=>(i,ev G S x))&&Nat.ble (len*ei.size) 16777216&&Nat.ble 1 ei.size then
    cX (mD m ei (parts.toList.map fun(_,x)=>ev G S x)) λxs=>
     K (.own id 0 none) ((nA m ((parts.toList.map fun(_,x)=>ev G S x).flatMap jD)).gB id (Option.some (.row ei.flat ei.size xs)))
   else none
  | _=>none
 | .load t a=>cX (G.gM t) λti=>match ev G S a with
  | .ptr j off=>cX (m j) fun
   | .box _ cs=>bif Nat.ble (off+ti.size) cs.length then HX ti ((kO off cs).take ti.size) λx=>K x m else none
   | _=>none
  | .s_ j i off=>cX (m j) fun
   | .row _ sz xs=>bif Nat.ble (off+ti.size) sz then xK ti.A2 (kO off (xs.getD i .undef).cells) λcs=>HX ti cs λx=>K x m else none
   | _=>none
  | .rd cs=>xK ti.A2 cs λcs=>HX ti cs λx=>K x m
  | _=>none
 | .store t a x=>cX (G.gM t) λti=>match ev G S a with
  | .ptr j off=>cX (m j) fun
   | .box tb cs=>bif Nat.ble (off+ti.size) cs.length&&Nat.beq (ev G S x).cells.length ti.size&&(ev G S x).cells.all AV.pG then
     K .undef (m.gB j (Option.some (.box tb (bif Nat.beq off 0&&Nat.beq ti.size cs.length then(ev G S x).cells else cs.take off++(ev G S x).cells++cs.drop (off+ti.size)))))
    else none
   | _=>none
  | .s_ j i off=>cX (m j) fun
   | .row fl sz xs=>bif Nat.beq off 0&&Nat.beq ti.size sz&&(!fl.b||ti.pe)&&!(jD (ev G S x)).contains j&&Nat.ble 1 sz then
     cX (nw m ti (ev G S x)) λy=>K .undef ((nA m (jD (ev G S x))).gB j (Option.some (.row fl sz (xs.set i y))))
    else none
   | _=>none
  | _=>none
 | .nilCheck x=>match ev G S x with
  | .ptr j _=>cX (m j) fun | .box _ _=>K (ev G S x) m | _=>none
  | .s_ j _ _=>cX (m j) fun | .row _ _ _=>K (ev G S x) m | _=>none
  | .rd _=>K (ev G S x) m
  | _=>none
 | .binOp op t x y _=>KK G op t (Region.isConst x||Region.isConst y) (ev G S x) (ev G S y) λz=>K z m
 | .unOp op _ x=>Q8 op (ev G S x) λz=>K z m
 | .convert s d x=>cX (G.gM s) λsi=>cX (G.gM d) λdi=>match si.kd,di.kd with
  | .int _,.int k=>gk (ev G S x) λ_ n=>K (.v (.int k (k.wrap n))) m
  | .string,.string=>df (ev G S x) λs=>K (vs s) m
  | .string,.slice e=>cX (G.gM e) λei=>match ei.kd with
   | .int .u8=>df (ev G S x) λs=>K (.own id 0 none) (m.gB id (Option.some (.row ei.flat 1 (s.toList.map λb=>vu b.toNat))))
   | _=>none
  | .slice e,.slice e'=>bif Nat.beq s d&&Nat.beq e e' then cX (G.gM e) λei=>match ei.kd with
   | .int .u8=>match ev G S x with
    | .own j 0 none=>cX (m j) fun
     | .row _ _ (_::_)=>K (.own j 0 none) m
     | _=>none
    | _=>none
   | _=>none
   else none
  | .slice e,.string=>cX (G.gM e) λei=>match ei.kd with
   | .int .u8=>jF m (ev G S x) λ_ _ xs=>cX (strOf xs) λbs=>K (vs ⟨bs.toArray⟩) m
   | _=>none
  | _,_=>none
 | .makeInterface t x=>cX (G.gM t) λti=>match ti.kd with
  | .other | .iface=>none
  | _=>oO (ev G S x) λy=>K (.v (.iface t y)) m
 | .makeFunc fn first f_=>match fn with
  | .func f=>bif(first.isEmpty&&Nat.blt f xn)&&(f_.toList.map (ev G S)).all AV.okB then K (.fn f (f_.toList.map (ev G S))) m
   else bif f_.isEmpty&&(first.toList.map (ev G S)).all AV.okB then K (.fn (f+xn) (first.toList.map (ev G S))) m else none
  | _=>none
 | .makeSlice t len cap=>cX (G.gM t) λti=>match ti.kd with
  | .slice e=>cX (G.gM e) λei=>
   cQ .i64 (ev G S len) λn=>cQ .i64 (ev G S cap) λc=>
    bif(decide (0<=n)&&decide (n<=fe))&&decide (c=n)&&Nat.ble ei.bytes 4096&&Nat.ble 1 ei.size then
     K (.own id 0 none) (m.gB id (Option.some (.row ei.flat ei.size (List.replicate n.toNat (bif ei.isAgg then .agg ei.tv else ei.tv.headD .undef)))))
    else none
  | _=>none
 | .slice t x lo hi mx=>bif mx.isNone then cX (G.gM t) λti=>
   match ti.kd with
   | .string=>df (ev G S x) λs=>
    Mp (hi.map (ev G S)) s.size (λh=>D0 (lo.map (ev G S)) h λl=>K (vs (s.extract l.toNat h.toNat)) m) (D0 (lo.map (ev G S)) s.size λl=>K (vs (s.extract l.toNat s.size)) m)
   | .slice e=>cX (G.gM e) λei=>match ev G S x with
    | .v (.slice none 0 0)=>Mp (hi.map (ev G S)) 0 (λh=>D0 (lo.map (ev G S)) h λ_=>K (.v (.slice none 0 0)) m) (D0 (lo.map (ev G S)) 0 λ_=>K (.v (.slice none 0 0)) m)
    | .sl fl sz xs=>bif Nat.beq sz ei.size then
     Mp (hi.map (ev G S)) xs.length (λh=>D0 (lo.map (ev G S)) h λl=>K (.sl fl sz ((xs.take h.toNat).drop l.toNat)) m) (D0 (lo.map (ev G S)) xs.length λl=>K (.sl fl sz (xs.drop l.toNat)) m)else none
    | .own j off n=>cX (m j) fun
     | .row _ sz xs=>bif Nat.beq sz ei.size then
      Mp (hi.map (ev G S)) (lenOf xs.length off n) (λh=>D0 (lo.map (ev G S)) h λl=>K (.own j (l.toNat+off) (Option.some (h - l).toNat)) m)
       (D0 (lo.map (ev G S)) (lenOf xs.length off n) λl=>K (.own j (l.toNat+off) (n.map λn=>n - l.toNat)) m)else none
     | _=>none
    | _=>none
   | .arr n e=>cX (G.gM e) λei=>match ev G S x with
    | .rd cs=>bif Nat.beq ei.size 1&&lo.isNone&&hi.isNone&&Nat.beq cs.length n&&ei.pe&&cs.all AV.Qr then K (.sl ei.flat 1 cs) m else none
    | _=>none
   | _=>none
  else none
 | .fieldAddr s x f=>cX (G.gM s) λsi=>match si.kd with
  | .struct fs=>cX fs[f]? fun(ft,fo)=>cX (G.gM ft) λfi=>bif Nat.ble 1 fi.size then(match ev G S x with
   | .ptr j o=>cX (m j) fun | .box _ _=>K (.ptr j (fo+o)) m | _=>none
   | .s_ j i o=>cX (m j) fun | .row _ _ _=>K (.s_ j i (fo+o)) m | _=>none
   | .rd cs=>K (.rd (kO fo cs)) m
   | _=>none)else none
  | _=>none
 | .field s x f=>cX (G.gM s) λsi=>match si.kd with
  | .struct fs=>cX fs[f]? fun(ft,fo)=>cX (G.gM ft) λfi=>match ev G S x with
   | .agg cs=>bif Nat.ble (fo+fi.size) cs.length then HX fi ((kO fo cs).take fi.size) λx=>K x m else none
   | _=>none
  | _=>none
 | .indexAddr t x i=>cX (G.gM t) λti=>match ti.kd with
  | .slice e=>cX (G.gM e) λei=>gk (ev G S i) λ_ i=>match ev G S x with
   | .sl _ sz xs=>bif Nat.beq sz ei.size then mO xs.length i λn=>K (.rd (xs.getD n .undef).cells) m else none
   | .own j off l=>cX (m j) fun
    | .row _ sz xs=>bif Nat.beq sz ei.size then mO (lenOf xs.length off l) i λn=>K (.s_ j (n+off) 0) m else none
    | _=>none
   | .bs j=>cX (m j) fun
    | .box _ cs=>bif Nat.beq ei.size 1 then ou i cs.length λn=>K (.ptr j n) m else none
    | _=>none
   | _=>none
  | .arr n e=>cX (G.gM e) λei=>gk (ev G S i) λ_ i=>match ev G S x with
   | .ptr j o=>cX (m j) fun | .box _ _=>yn n i λk=>K (.ptr j (k*ei.size+o)) m | _=>none
   | .rd cs=>mO n i λk=>K (.rd (kO (k*ei.size) cs)) m
   | _=>none
  | _=>none
 | .index t x i=>cX (G.gM t) λti=>match ti.kd with
  | .string=>df (ev G S x) λs=>gk (ev G S i) λ_ i=>mO s.size i λn=>K (vu (s.data.getD n 0).toNat) m
  | _=>none
 | .extract x i=>match ev G S x with
  | .eC xs=>cX xs[i]? λy=>K y m
  | _=>none
 | .call c=>match c.callee with
  | .builtin .len=>match c.argTypes.toList,c.args.toList with
   | [t],[x]=>cX (G.gM t) λti=>match ti.kd with
    | .string=>df (ev G S x) λs=>K (vi s.size) m
    | .slice _=>oq m (ev G S x) λn=>K (vi n) m
    | _=>none
   | _,_=>none
  | .builtin .append=>match c.argTypes.toList,c.args.toList with
   | [t,u],[x,y]=>cX (G.gM t) λti=>cX (G.gM u) λui=>match ti.kd with
    | .slice e=>cX (G.gM e) λei=>
     bif Nat.ble ei.bytes 4096&&Nat.ble 1 ei.bytes&&Nat.ble 1 ei.size then
      let src:(List AV->Option R)->Option R:=λK=>match ui.kd with
       | .string=>bif Nat.beq ei.size 1 then df (ev G S y) λs=>K (s.toList.map λb=>vu b.toNat)else none
       | .slice _=>jF m (ev G S y) λfl sz ys=>bif(fl==ei.flat&&Nat.beq sz ei.size)||(Nat.beq sz 0&&ys.isEmpty)then K ys else none
       | .int _=>cQ .i64 (ev G S y) λn=>bif decide ((0:Int)<=n)&&decide (n<=fe)then K (List.replicate n.toNat (bif ei.isAgg then .agg ei.tv else ei.tv.headD .undef))else none
       | _=>none
      src λys=>match ev G S x with
       | .v (.slice none 0 0)=>bif decide (ys.length<=fe)then K (.own id 0 none) (m.gB id (Option.some (.row ei.flat ei.size ys)))else none
       | .own j off none=>cX (m j) fun
        | .row fl sz xs=>bif fl==ei.flat&&Nat.beq sz ei.size then
          bif decide ((kO off xs).length+ys.length<=fe)then K (.own id 0 none) ((m.gB j none).gB id (Option.some (.row fl sz (kO off xs++ys))))else none
         else none
        | _=>none
       | _=>none
     else none
    | _=>none
   | _,_=>none
  | .builtin .clear=>match c.argTypes.toList,c.args.toList with
   | [t],[x]=>cX (G.gM t) λti=>match ti.kd with
    | .slice e=>cX (G.gM e) λei=>match ev G S x with
     | .own j off l=>cX (m j) fun
      | .row fl sz xs=>bif Nat.beq sz ei.size then
        let n:=lenOf xs.length off l
        K .undef (m.gB j (Option.some (.row fl sz (xs.take off++List.replicate n (bif ei.isAgg then .agg ei.tv else ei.tv.headD .undef)++xs.drop (n+off)))))
       else none
      | _=>none
     | _=>none
    | _=>none
   | _,_=>none
  | .builtin .copy=>match c.argTypes.toList,c.args.toList with
   | [t,_],[x,y]=>cX (G.gM t) λti=>match ti.kd with
    | .slice e=>cX (G.gM e) λei=>match ev G S x with
     | .own j off l=>cX (m j) fun
      | .row fl sz xs=>bif Nat.beq sz ei.size then jF m (ev G S y) λiA jL ys=>bif iA==fl&&Nat.beq jL sz then
        K (vi (min (lenOf xs.length off l) ys.length:Nat)) (m.gB j (Option.some (.row fl sz (xs.take off++ys.take (min (lenOf xs.length off l) ys.length)++xs.drop (min (lenOf xs.length off l) ys.length+off)))))
       else none else none
      | _=>none
     | _=>none
    | _=>none
   | _,_=>none
  | .builtin .min=>match c.args.toList with
   | [x,y]=>gk (ev G S x) λk a=>cQ k (ev G S y) λb=>K (.v (.int k (if b<a then b else a))) m
   | _=>none
  | .builtin .max=>match c.args.toList with
   | [x,y]=>gk (ev G S x) λk a=>cQ k (ev G S y) λb=>K (.v (.int k (if b>a then b else a))) m
   | _=>none
  | _=>none
 | _=>none
def visit:Nat->Mem->List Nat->AV->List Nat
 | 0,_,ord,_=>ord
 | n+1,m,ord,x=>
  match x with
  | .own id _ _ | .s_ id _ _=>bif ord.contains id then ord else match m id with | .some _=>ord++[id] | .none=>ord
  | .ptr id _ | .bs id=>bif ord.contains id then ord else match m id with
   | .some (.box _ cs)=>cs.foldl (visit n m) (ord++[id])
   | .some (.row _ _ _)=>ord++[id]
   | .none=>ord
  | .agg cs | .eC cs | .fn _ cs=>cs.foldl (visit n m) ord
  | _=>ord
def jy(ord:List Nat)(id:Nat):Option Nat:=ord.findIdx? (Nat.beq id)
def xj:Nat->List Nat->AV->AV
 | 0,_,_=>.undef
 | n+1,ord,x=>
  match x with
  | .own id off l=>match jy ord id with | .some j=>.own j off l | .none=>.undef
  | .s_ id i off=>match jy ord id with | .some j=>.s_ j i off | .none=>.undef
  | .ptr id off=>match jy ord id with | .some j=>.ptr j off | .none=>.undef
  | .bs id=>match jy ord id with | .some j=>.bs j | .none=>.undef
  | .agg cs=>.agg (cs.map (xj n ord))
  | .eC cs=>.eC (cs.map (xj n ord))
  | .fn f cs=>.fn f (cs.map (xj n ord))
  | .v x=>.v x
  | .sl fl sz xs=>.sl fl sz xs
  | .rd cs=>.rd cs
  | .err b=>.err b
  | .fr _ _ _ | .undef=>.undef
def kZ(ord:List Nat):Option sv->sv
 | .some (.box tb cs)=>.box tb (cs.map (xj 3 ord))
 | .some (.row fl sz xs)=>.row fl sz xs
 | .none=>.box 0 []
def Ak:Nat->(Nat->Nat)->AV->AV
 | 0,_,_=>.undef
 | n+1,f,x=>
  match x with
  | .own id off l=>.own (f id) off l
  | .s_ id i off=>.s_ (f id) i off
  | .ptr id off=>.ptr (f id) off
  | .bs id=>.bs (f id)
  | .agg cs=>.agg (cs.map (Ak n f))
  | .eC cs=>.eC (cs.map (Ak n f))
  | .fn g cs=>.fn g (cs.map (Ak n f))
  | .v x=>.v x
  | .sl fl sz xs=>.sl fl sz xs
  | .rd cs=>.rd cs
  | .err b=>.err b
  | .fr _ _ _ | .undef=>.undef
def nZ(f:Nat->Nat):Option sv->Option sv
 | .some (.box tb cs)=>Option.some (.box tb (cs.map (Ak 3 f)))
 | .some (.row fl sz xs)=>Option.some (.row fl sz xs)
 | .none=>Option.none
def oB:Option sv->Bool
 | .some (.box _ _)=>true
 | _=>false
def jQ:sv->AV
 | .box tb cs=>.fn tb cs
 | .row fl sz xs=>.fr fl sz xs
def N9:AV->Option sv
 | .fn tb cs=>Option.some (.box tb cs)
 | .fr fl sz xs=>Option.some (.row fl sz xs)
 | _=>none
def Mem.iu(bs:List AV):Mem:=λi=>match bs[i]? with | .some x=>N9 x | .none=>none
def nv:List AV->Nat
 | .fn _ _::r=>nv r+1
 | _=>0
def CU(m:Mem):List AV->Option (List AV)
 | []=>Option.some []
 | x::r=>match(match x with | .ptr id off=>Option.some (AV.ptr id off) | x=>nl m x),CU m r with | .some y,.some s=>Option.some (y::s) | _,_=>none
def M2(m:Mem)(x:AV):Option AV:=
 match x with
 | .ptr id off=>Option.some (.ptr id off)
 | .fn f f_=>(CU m f_).map (.fn f)
 | x=>fc m x
def zn(m:Mem):List AV->Option (List AV)
 | []=>Option.some []
 | x::r=>match M2 m x,zn m r with | .some y,.some s=>Option.some (y::s) | _,_=>none
def Ay(m:Mem):AV->List Nat
 | .ptr _ _=>[]
 | .fn _ f_=>f_.flatMap lG
 | x=>jn m x
def Nz(G:fv)(t:TypeId)(x:AV):Option AV:=
 match x with
 | .ptr id off=>Option.some (.ptr id off)
 | .fn f f_=>Option.some (.fn f f_)
 | x=>yA G t x
def qE(G:fv):List TypeId->List AV->Option (List AV)
 | [],xs=>Option.some xs
 | t::ts,x::r=>match Nz G t x,qE G ts r with | .some y,.some s=>Option.some (y::s) | _,_=>none
 | _::_,[]=>none
def kv(m:Mem)(xs:List AV):List Nat:=
 let o:=xs.foldl (visit 6 m) []
 o.filter (λi=>oB (m i))++o.filter λi=>!oB (m i)
def qz:AV->Bool
 | .v _ | .err _=>true
 | _=>false
def sH:AV->Bool
 | .agg cs=>cs.all qz
 | x=>qz x
def zZ:AV->Bool
 | .eC xs=>xs.all sH
 | x=>sH x
def Fc(m:Mem)(ord:List Nat)(kb:Nat)(os:List AV):Bool:=
 Nat.ble kb os.length&&Nat.ble (os.length - kb) 8&&((List.range kb).all λj=>match os[j]?,m (ord.getD j 0)with | .some (.fn xq kN),.some (.box tb cs)=>Nat.beq kN.length cs.length&&Nat.beq xq tb | _,_=>false)
def nR(ord:List Nat)(kb id:Nat)(j:Nat):Nat:=bif Nat.blt j kb then ord.getD j 0 else id+(j - kb)
def m_(m:Mem)(ord:List Nat)(kb id:Nat)(I:List Nat)(os:List AV):Mem:=λi=>
 bif Nat.ble id i&&Nat.blt i (id+(os.length - kb))then nZ (nR ord kb id) (Mem.iu os (kb+(i - id)))
 else match jy ord i with
  | .some j=>bif Nat.blt j kb then nZ (nR ord kb id) (Mem.iu os j)else none
  | .none=>bif I.contains i then none else m i
def t_(G:fv)(C:FuncId->List AV->(AV->Option R)->Option R)(f:FuncId)(args:List AV)(m:Mem)(id:Nat)(K:AV->Mem->Option R):Option R:=
 cX (zn m args) λxs=>cX (qE G (G.params f) xs) λxs=>
  bif(kv m xs).any λi=>(args.flatMap (Ay m)).contains i then none else
  C f (xs.map (xj 4 (kv m xs))++[.eC ((kv m xs).map λi=>jQ (kZ (kv m xs) (m i)))]) λr=>match r with
   | .eC [y,.eC os]=>bif zZ y&&Fc m (kv m xs) ((kv m xs).filter λi=>oB (m i)).length os then
    K y (m_ m (kv m xs) ((kv m xs).filter λi=>oB (m i)).length id (args.flatMap (Ay m)) os)else none
   | _=>none
def KL(j:Nat):AV->Option AV
 | .own 0 off l=>Option.some (.own j off l)
 | .eC []=>Option.some (.eC [])
 | _=>Option.none
def ql(C:FuncId->List AV->(AV->Option R)->Option R)(f:FuncId)(args:List AV)(m:Mem)(K:AV->Mem->Option R):Option R:=
 match args with
 | .own j off l::rest=>cX (m j) λb=>match b with
  | .row fl sz xs=>bif rest.all AV.Qr then C f (.own 0 off l::rest++[.eC [.fr fl sz xs]]) λr=>match r with
    | .eC [y,.fr iA jL ys]=>bif iA==fl&&Nat.beq jL sz then cX (KL j y) λz=>K z (m.gB j (Option.some (.row fl sz ys)))else none
    | _=>none
   else none
  | _=>none
 | _=>none
def gZ(G:fv)(C:FuncId->List AV->(AV->Option R)->Option R)(dr:Bool)(f:FuncId)(args:List AV)(m:Mem)(id:Nat)(K:AV->Mem->Option R):Option R:=
 bif args.any kG then(bif dr then none else t_ G C f args m id K)
 else bif G.refs f then(bif dr then none else ql C f args m K)
 else cX (lL m args) λgi=>cX (BR G f args gi) λgi=>C f gi λr=>
  bif nf r then(match imp id m r with | (x,c,m')=>bif Nat.ble c 8 then K x m' else none)
  else bif dr&&!(args.flatMap (jn m)).isEmpty then none
  else(match imp id (nA m (args.flatMap (jn m))) r with | (x,c,m')=>bif Nat.ble c 8 then K x m' else none)
def tS:AV->Bool
 | .s_ _ _ _=>true
 | _=>false
def D7:AV->Bool
 | .ptr _ _=>true
 | _=>false
def BZ(G:fv)(t:TypeId):Bool:=match G.gM t with
 | .some ti=>(match ti.kd with | .slice e=>(match G.gM e with | .some ei=>!ei.pe | .none=>false) | _=>false)
 | .none=>false
def eZ(G:fv)(C:FuncId->List AV->(AV->Option R)->Option R)(dr:Bool)(o:Oper)(S:List AV)(m:Mem)(id:Nat)(K:AV->Mem->Option R):Option R:=
 match o.op with
 | .call c=>match c.callee with
  | .value f=>match ev G S f with
   | .fn g f_=>bif dr&&!(f_.all AV.okB)then none else bif Nat.blt g xn then gZ G C dr g (c.args.toList.map (ev G S)++f_) m id K
    else gZ G C dr (g - xn) (f_++c.args.toList.map (ev G S)) m id K
   | _=>none
  | _=>fM G o.op S m id K
 | .store t p x=>bif dr&&!((tS (ev G S p)&&(jD (ev G S x)).isEmpty)||D7 (ev G S p))then none else fM G (.store t p x) S m id K
 | .buildSlice t n parts=>bif dr&&!(BZ G t||((parts.toList.map fun(_,x)=>ev G S x).flatMap jD).isEmpty)then none else fM G (.buildSlice t n parts) S m id K
 | op=>fM G op S m id K
def put(S:List AV)(d:Option Tmp)(x:AV):List AV:=match d with | .some d=>S.set d x | .none=>S
def lM(G:fv)(C:FuncId->List AV->(AV->Option R)->Option R)(dr:Bool)(all:List Oper)(n i:Nat)(S:List AV)(m:Mem)(K:List AV->Mem->Option R):Option R:=
 match all[i]? with
 | .some o=>
  match o.guard with
  | .none=>eZ G C dr o S m (8*(n+i)) λx m=>K (put S o.dst x) m
  | .some (g,want)=>
   match all[g]? with
   | .some og=>match og.dst with
    | .some d=>match S.getD d .undef with
     | .eC []=>K (put S o.dst (.eC [])) m
     | y=>gm y λp=>
     bif p then
      (bif want then eZ G C dr o (S.set d (vb true)) m (8*(n+i)) λx m=>K (put (S.set d (vb true)) o.dst x) m
      else K (put (S.set d (vb true)) o.dst (.eC [])) m)
     else
      (bif want then K (put (S.set d (vb false)) o.dst (.eC [])) m
      else eZ G C dr o (S.set d (vb false)) m (8*(n+i)) λx m=>K (put (S.set d (vb false)) o.dst x) m)
    | .none=>none
   | .none=>none
 | .none=>none
def sJ(G:fv)(C:FuncId->List AV->(AV->Option R)->Option R)(dr:Nat->Bool)(pre:Nat->List AV->Mem->Bool)(all:List Oper)(n:Nat):List Nat->List AV->Mem->(List AV->Mem->Option R)->Option R
 | [],S,m,K=>K S m
 | i::l,S,m,K=>bif pre i S m then lM G C (dr i) all n i S m λS m=>sJ G C dr pre all n l S m K else none
def i_:Op->Bool
 | .move _ | .assign _ | .pick _ _ _ | .build _ _ | .binOp _ _ _ _ _ | .unOp _ _ _ | .makeInterface _ _ | .makeFunc _ _ _ | .field _ _ _ | .index _ _ _ | .extract _ _=>true
 | .call c=>match c.callee with
  | .builtin .min | .builtin .max=>true
  | _=>false
 | _=>false
def eD:AV->List Nat
 | .own id _ _ | .s_ id _ _ | .ptr id _ | .bs id=>[id]
 | _=>[]
def gG:Op->Bool
 | .load _ _ | .nilCheck _ | .fieldAddr _ _ _ | .indexAddr _ _ _ | .slice _ _ _ _ _=>true
 | .call c=>match c.callee with
  | .builtin .len=>true
  | _=>false
 | _=>false
def n5:Op->Bool
 | .alloc _ | .box _ _ | .makeSlice _ _ _ | .convert _ _ _=>true
 | _=>false
def j8:Op->Bool
 | .call c=>match c.callee with
  | .value _=>true
  | _=>false
 | _=>false
def oc:Op->Bool
 | .buildSlice _ _ _=>true
 | _=>false
def lg(o:Op):Bool:=gG o||n5 o||j8 o||oc o
def pr:Op->Bool
 | .call c=>match c.callee with
  | .builtin .append=>true
  | _=>false
 | .store _ _ _=>true
 | _=>false
def fI(o:Op):Bool:=lg o||pr o
def iw:Option sv->Bool
 | .some (.box _ _)=>true
 | _=>false
def uw(o:Oper)(p:Nat):Bool:=o.after.toList.any λe=>Nat.beq e.on p&&Region.binds .any e
def before(all:Array Oper):Nat->Nat->Nat->Bool
 | 0,_,_=>false
 | f+1,i,p=>match all[i]? with
  | .some o=>uw o p||o.after.toList.any λe=>Region.binds .any e&&before all f e.on p
  | .none=>false
def force{α:Type}(n:Nat)(k:Nat->α):α:=match n with
 | 0=>k 0
 | m+1=>k (m+1)
def Nx(acc:List Nat)(i:Nat):List Edge->Nat->Nat
 | [],m=>m
 | e::r,m=>bif Region.binds .any e&&Nat.blt e.on i then Nx acc i r (m ||| ((1 <<< e.on) ||| acc.getD (i - 1 - e.on) 0))else Nx acc i r m
def Hz:List Oper->Nat->List Nat->List Nat
 | [],_,acc=>acc
 | o::r,i,acc=>force (Nx acc i o.after.toList 0) λm=>Hz r (i+1) (m::acc)
def MU(all:Array Oper)(i p:Nat):Bool:=Nat.blt i all.size&&Nat.testBit ((Hz all.toList 0 []).getD (all.size - 1 - i) 0) p
def Iw(all:Array Oper)(p q:Oper):Bool:=p.apart all q&&(i_ p.op||i_ q.op||(lg p.op&&fI q.op)||(fI p.op&&lg q.op))
def wU(all:Array Oper):Bool:=
 (List.range all.size).all λi=>match all[i]? with
  | .some o=>(o.after.toList.all λe=>!Region.binds .any e||Nat.blt e.on i)&&(List.range i).all λp=>uw o p||((match all[p]? with | .some q=>Iw all q o | .none=>false)||MU all i p)
  | .none=>false
def loose(all:Array Oper)(i:Nat)(o:Oper)(k:Nat):Bool:=
 match all[k]? with
 | .some q=>fI q.op&&fI o.op&&!Nat.beq k i&&!(uw o k||uw q i||MU all i k||MU all k i)
 | .none=>false
def jO(all:Array Oper)(i:Nat):Bool:=
 match all[i]? with
 | .some o=>(List.range all.size).any λk=>loose all i o k
 | .none=>false
def lF(G:fv)(op:Op):Bool:=pr op||(match op with | .buildSlice t _ _=>BZ G t | _=>false)
def stOp:Op->Bool
 | .store _ _ _=>true
 | _=>false
def rH(G:fv)(all:Array Oper)(i:Nat)(o:Oper):Bool:=
 (List.range all.size).any λk=>(match all[k]? with | .some q=>lF G q.op | .none=>false)&&loose all i o k
def uW(all:Array Oper)(i:Nat)(o:Oper):Bool:=
 (List.range all.size).any λk=>(match all[k]? with | .some q=>stOp q.op | .none=>false)&&loose all i o k
def xr(G:fv)(tb:Nat->Bool)(S:List AV):Op->Bool
 | .store _ a _=>(match ev G S a with | .ptr j _=>tb j | _=>true)
 | _=>true
def rootOf(G:fv)(all:Array Oper)(S:List AV)(a:Operand):Option Nat:=
 match a with
 | .tmp t=>
  (match(match(List.range all.size).findSome? (λk=>match all[k]? with
   | .some o=>(match o.dst,o.op with | .some d,.fieldAddr _ x _=>(bif Nat.beq d t then Option.some (ev G S x)else Option.none) | _,_=>Option.none)
   | .none=>Option.none)with
  | .some x=>x
  | .none=>ev G S a)with
  | AV.ptr j _=>Option.some j
  | _=>Option.none)
 | _=>Option.none
def ZL(G:fv)(all:Array Oper)(S:List AV):List Nat:=
 (List.range all.size).filterMap λk=>match all[k]? with
  | .some o=>(match o.op with
   | .store _ a _=>bif jO all k then rootOf G all S a else none
   | _=>none)
  | .none=>none
def U6(n:Nat)(l:List Nat)(j:Nat):Bool:=Nat.ble (8*n) j||l.any (Nat.beq j)
def s0{α:Type}:List Nat->(List Nat->α)->α
 | [],k=>k []
 | x::r,k=>force x λy=>s0 r λs=>k (y::s)
theorem force_eq{α:Type}(n:Nat)(k:Nat->α):force n k=k n:=by cases n<;>rfl
theorem yS{α:Type}:∀(l:List Nat) (k:List Nat->α),s0 l k=k l
 | [],k=>rfl
 | x::r,k=>by unfold s0;rw[force_eq,yS r]
def eo:AV->List Nat
 | .agg cs=>cs.flatMap eD
 | .fn _ cs=>cs.flatMap eD
 | x=>eD x
def Um(G:fv)(all:Array Oper)(S:List AV)(a:Operand):AV:=
 match a with
 | .tmp t=>(match(List.range all.size).findSome? (λk=>match all[k]? with
   | .some o=>(match o.dst with
    | .some d=>bif Nat.beq d t then(match o.op with | .move x | .assign x | .fieldAddr _ x _=>Option.some (ev G S x) | _=>Option.some .undef)else Option.none
    | .none=>Option.none)
   | .none=>Option.none)with
  | .some x=>x
  | .none=>ev G S a)
 | x=>ev G S x
def VA(G:fv)(all:Array Oper)(S:List AV)(k:Nat):Bool:=
 match all[k]? with
 | .some o=>(match o.op with
  | .call c=>(match c.callee with | .value f=>(kG (Um G all S f)||c.args.toList.any λa=>kG (Um G all S a))&&jO all k | _=>false)
  | _=>false)
 | .none=>false
def pcs(G:fv)(all:Array Oper)(S:List AV):List Nat:=(List.range all.size).filter (VA G all S)
def pcT(G:fv)(all:Array Oper)(S:List AV)(m:Mem)(pc:List Nat):List Nat:=
 pc.flatMap λk=>match all[k]? with
  | .some o=>(match o.op with
   | .call c=>(match c.callee with | .value f=>(Um G all S f::c.args.toList.map (Um G all S)).foldl (visit 6 m) [] | _=>[])
   | _=>[])
  | .none=>[]
def pP(l:List Nat)(j:Nat):Bool:=l.any (Nat.beq j)
def nP(G:fv)(f:FuncId)(args:List AV)(m:Mem):Option (List Nat):=
 bif args.any kG then(match zn m args with
  | .some xs=>(match qE G (G.params f) xs with | .some xs=>Option.some (kv m xs++args.flatMap (Ay m)) | .none=>Option.none)
  | .none=>Option.none)
 else Option.some (args.flatMap (jn m))
def vy(G:fv)(o:Op)(S:List AV)(m:Mem):Option (List Nat):=
 match o with
 | .call c=>(match c.callee with
  | .value f=>(match ev G S f with
   | .fn g f_=>bif Nat.blt g xn then nP G g (c.args.toList.map (ev G S)++f_) m else nP G (g - xn) (f_++c.args.toList.map (ev G S)) m
   | _=>Option.none)
  | _=>Option.none)
 | _=>Option.none
def nO(G:fv)(o:Op)(S:List AV)(m:Mem)(T:List Nat):Bool:=match vy G o S m with | .some l=>l.all (pP T) | .none=>true
def Fj(all:Array Oper)(pc:List Nat)(i:Nat)(o:Oper):Bool:=pc.any λk=>loose all i o k
def sG(G:fv)(all:Array Oper)(pc T:List Nat)(i:Nat)(S:List AV)(m:Mem):Bool:=
 bif pc.isEmpty then true else
 match all[i]? with
 | .some o=>bif pP pc i then(j8 o.op&&nO G o.op S m T)&&(List.range all.size).all λk=>match all[k]? with | .some q=>gG q.op||!loose all i o k | .none=>true
  else !Fj all pc i o||(o.op.operands.toList.all λx=>(eo (ev G S x)).all λj=>!pP T j)
 | .none=>true
def pZ(G:fv)(all:Array Oper)(tb:Nat->Bool)(n i:Nat)(S:List AV)(m:Mem):Bool:=
 match all[i]? with
 | .some o=>bif fI o.op then(xr G tb S o.op||!jO all i)&&o.op.operands.toList.all λx=>(eo (ev G S x)).all λj=>(Nat.blt j (8*n)||!loose all i o (j / 8 - n))&&((!tb j||!uW all i o)&&(iw (m j)||!rH G all i o))else true
 | .none=>true
def AM(all:Array Oper)(pc:List Nat)(i:Nat):Bool:=jO all i&&!pP pc i
def vP(G:fv)(all:Array Oper)(tb:Nat->Bool)(pc T:List Nat)(n i:Nat)(S:List AV)(m:Mem):Bool:=pZ G all tb n i S m&&sG G all pc T i S m
end
def Mem.ofList(l:List sv):Mem:=λj=>l[j]?
def rL(keep:List Tmp)(ord:List Nat):Nat->List AV->List AV
 | _,[]=>[]
 | i,x::r=>(bif keep.contains i then xj 4 ord x else .undef)::rL keep ord (i+1) r
def boxed(m:Mem)(i:Nat):AV:=.agg (match m i with | .some (.box _ cs)=>cs | _=>[])
def Es(kb:Nat)(keep:List Tmp)(S:St):St:=
 let ord:=(List.range kb).foldl (λord i=>visit 6 S.m ord (boxed S.m i)) (keep.foldl (λord t=>visit 6 S.m ord (S.tm.getD t .undef)) (List.range kb))
 ⟨rL keep ord 0 S.tm,Mem.ofList (ord.map λi=>kZ ord (S.m i)),ord.length⟩
def Oo(S:St)(t:Nat):St:=
 match fc S.m (S.tm.getD t .undef)with
 | .some y=>⟨S.tm.set t y,nA S.m (jn S.m (S.tm.getD t .undef)),S.mI⟩
 | .none=>S
def zQ(S:St)(e:Nat × Option Nat × Fl × Nat):St:=
 match e with
 | (t,.none,fl,sz)=>match S.tm.getD t .undef with
  | .v (.slice none 0 0)=>⟨S.tm.set t (.own (8*S.mI) 0 none),S.m.gB (8*S.mI) (Option.some (.row fl sz [])),S.mI+1⟩
  | _=>S
 | (t,.some j,fl,sz)=>bif Nat.ble 2000000 j then S else bif Nat.ble 1000000 j then Oo S t else match S.tm.getD t .undef with
  | .agg cs=>match cs[j]? with
   | .some (.v (.slice none 0 0))=>⟨S.tm.set t (.agg (cs.set j (.own (8*S.mI) 0 none))),S.m.gB (8*S.mI) (Option.some (.row fl sz [])),S.mI+1⟩
   | _=>S
  | .ptr id _=>match S.m id with
   | .some (.box tb cs)=>match cs[j]? with
    | .some (.v (.slice none 0 0))=>⟨S.tm,(S.m.gB (8*S.mI) (Option.some (.row fl sz []))).gB id (Option.some (.box tb (cs.set j (.own (8*S.mI) 0 none)))),S.mI+1⟩
    | _=>S
   | _=>S
  | _=>S
structure dP where
 keep:List Tmp
 fS:List (Nat × Option Nat × Fl × Nat)
def clean(kb:Nat)(k:dP)(S:St):St:=Es kb k.keep (k.fS.foldl zQ S)
def there(kb:Nat)(m:Mem):Bool:=(List.range kb).all λi=>oB (m i)
section
variable {R:Type}
def G2(m:Mem)(ids:List Nat)(k:SK)(x:AV)(K:List Nat->AV->Option R):Option R:=
 match k with
 | .slice fl sz=>match x with
  | .own id off l=>bif ids.contains id then none else
   match m id with
   | .some (.row iA jL xs)=>bif iA==fl&&Nat.beq jL sz then K (id::ids) (.fr fl sz (rowOf off l xs))else none
   | _=>none
  | .v (.slice none 0 0)=>K ids (.fr fl sz [])
  | .fr iA jL xs=>bif iA==fl&&Nat.beq jL sz then K ids (.fr fl sz xs)else none
  | _=>none
 | .any=>match x with
  | .v .nilIface=>K ids (.err false)
  | .v (.iface _ _)=>K ids (.err true)
  | .err b=>K ids (.err b)
  | _=>none
 | _=>oO x λy=>K ids (.v y)
def G3(m:Mem):List Nat->List SK->List AV->(List Nat->List AV->Option R)->Option R
 | ids,[],[],K=>K ids []
 | ids,k::ks,x::r,K=>G2 m ids k x λids y=>G3 m ids ks r λids s=>K ids (y::s)
 | _,_,_,_=>none
def PL(m:Mem)(ids:List Nat)(ti:TI)(x:AV)(K:List Nat->AV->Option R):Option R:=
 match x with
 | .agg cs=>bif ti.isAgg then G3 m ids ti.A2 cs λids cs=>K ids (.agg cs)else none
 | x=>match ti.A2 with | [k]=>G2 m ids k x K | _=>none
def yX(G:fv)(m:Mem):List Nat->List TypeId->List AV->(List Nat->List AV->Option R)->Option R
 | ids,[],[],K=>K ids []
 | ids,t::ts,x::r,K=>cX (G.gM t) λti=>PL m ids ti x λids y=>yX G m ids ts r λids s=>K ids (y::s)
 | _,_,_,_=>none
def BB(G:fv)(S:St):List ResultVar->(List AV->Option R)->Option R
 | [],K=>K []
 | .tmp t::r,K=>BB G S r λxs=>K (S.tm.getD t .undef::xs)
 | .cell a t::r,K=>cX (G.gM t) λti=>match S.tm.getD a .undef with
  | .ptr j off=>cX (S.m j) fun
   | .box _ cs=>bif Nat.ble (off+ti.size) cs.length then HX ti ((kO off cs).take ti.size) λx=>BB G S r λxs=>K (x::xs)else none
   | _=>none
  | _=>none
def jE(G:fv)(ts:List TypeId)(rs:List ResultVar)(S:St)(K:AV->Option R):Option R:=
 BB G S rs λxs=>yX G S.m [] ts xs λ_ ys=>match ys with
  | [y]=>K y
  | ys=>K (.eC ys)
def Dv(S:St)(e:Nat × Nat × Fl × Nat):St:=
 match e with
 | (i,j,fl,sz)=>match S.m i with
  | .some (.box tb cs)=>match cs[j]? with
   | .some (.v (.slice none 0 0))=>⟨S.tm,(S.m.gB (8*S.mI) (Option.some (.row fl sz []))).gB i (Option.some (.box tb (cs.set j (.own (8*S.mI) 0 none)))),S.mI+1⟩
   | _=>S
  | _=>S
def j3:List SK->List AV->Option (List AV)
 | [],[]=>Option.some []
 | .slice _ _::_,_=>none
 | .any::ks,x::r=>match(match x with | .v .nilIface=>Option.some (AV.err false) | .v (.iface _ _)=>Option.some (AV.err true) | .err b=>Option.some (AV.err b) | _=>Option.none),j3 ks r with | .some y,.some s=>Option.some (y::s) | _,_=>none
 | _::ks,.v x::r=>match j3 ks r with | .some s=>Option.some (.v x::s) | _=>none
 | _,_=>none
def zY(ti:TI)(x:AV):Option AV:=
 match x with
 | .agg cs=>bif ti.isAgg then(j3 ti.A2 cs).map .agg else none
 | x=>match j3 ti.A2 [x]with | .some [y]=>Option.some y | _=>none
def nT(G:fv):List TypeId->List AV->Option (List AV)
 | [],[]=>Option.some []
 | t::ts,x::r=>match G.gM t with
  | .some ti=>match zY ti x,nT G ts r with | .some y,.some s=>Option.some (y::s) | _,_=>none
  | .none=>none
 | _,_=>none
def outs(kb:Nat)(S:St):List AV:=
 let ord:=(List.range kb).foldl (λord i=>visit 6 S.m ord (.agg (match S.m i with | .some (.box _ cs)=>cs | _=>[]))) (List.range kb)
 ord.map λi=>jQ (kZ ord (S.m i))
def AI(G:fv)(fS:List (Nat × Nat × Fl × Nat))(ts:List TypeId)(rs:List ResultVar)(S:St)(K:AV->Option R):Option R:=
 BB G S rs λxs=>cX (nT G ts xs) λys=>
  bif there G.kb (fS.foldl Dv S).m then K (.eC [(match ys with | [y]=>y | ys=>.eC ys),.eC (outs G.kb (fS.foldl Dv S))])else none
def mQ(G:fv)(C:FuncId->List AV->(AV->Option R)->Option R)(ops:Array Oper)(draw:Bool)(S:St)(K:St->Option R):Option R:=
 bif draw then
  (bif wU ops then s0 (ZL G ops S.tm) λtb=>s0 (pcs G ops S.tm) λpc=>s0 (pcT G ops S.tm S.m pc) λT=>
   sJ G C (AM ops pc) (vP G ops (U6 S.mI tb) pc T S.mI) ops.toList S.mI (List.range ops.size) S.tm S.m λtm m=>K ⟨tm,m,S.mI+ops.size⟩else none)
 else sJ G C (λ_=>false) (λ_ _ _=>true) ops.toList S.mI (List.range ops.size) S.tm S.m λtm m=>K ⟨tm,m,S.mI+ops.size⟩
def refine(c:Operand)(b:Bool)(tm:List AV):List AV:=
 match c with
 | .tmp t=>tm.set t (vb b)
 | _=>tm
def tW(G:fv)(C:FuncId->List AV->(AV->Option R)->Option R)(cut:Nat->Option dP)(fin:St->Option R)(rec:List Item->St->Option R) :
  Nat->List Item->St->Option R
 | 0,_,_=>none
 | n+1,todo,S=>
  match todo with
  | []=>fin S
  | .inBlock _::k=>tW G C cut fin rec n k S
  | .inLoop body::k=>tW G C cut fin rec n (.code body::.inLoop body::k) S
  | .code c::k=>
   match c with
   | .skip=>tW G C cut fin rec n k S
   | .label _=>tW G C cut fin rec n k S
   | .seq a b=>tW G C cut fin rec n (.code a::.code b::k) S
   | .cond c t e=>gm (ev G S.tm c) λp=>
    bif p then tW G C cut fin rec n (.code t::k) { S with tm:=refine c true S.tm }else tW G C cut fin rec n (.code e::k) { S with tm:=refine c false S.tm }
   | .block id body=>tW G C cut fin rec n (.code body::.inBlock id::k) S
   | .loop body=>tW G C cut fin rec n (.code body::.inLoop body::k) S
   | .exit id=>cX (exitTo id k) λk'=>tW G C cut fin rec n k' S
   | .ret=>fin S
   | .region id ops draw=>
    match cut id with
    | .some keep=>bif there G.kb (keep.fS.foldl zQ S).m then rec (.code (.region id ops draw)::k) (clean G.kb keep S)else none
    | .none=>mQ G C ops draw S λS'=>tW G C cut fin rec n k S'
   | _=>none
  | _=>none
def splitK(S:St)(t c n:Nat)(K:St->Option R):Option R:=
 match S.tm.getD t .undef with
 | .ptr id o=>match S.m id with
  | .some (.box tb cs)=>match cs[o+c]? with
   | .some (.v (.int k x))=>ou x n λq=>K ⟨S.tm,S.m.gB id (Option.some (.box tb (cs.set (o+c) (.v (.int k (q:Int)))))),S.mI⟩
   | _=>none
  | _=>none
 | _=>none
def splits:List (Nat × Option Nat × Fl × Nat)->St->(St->Option R)->Option R
 | [],S,K=>K S
 | (t,.some j,_,n)::r,S,K=>bif Nat.ble 2000000 j then splitK S t (j - 2000000) n λS=>splits r S K else splits r S K
 | (_,.none,_,_)::r,S,K=>splits r S K
def uz(G:fv)(C:FuncId->List AV->(AV->Option R)->Option R)(cut:Nat->Option dP)(fin:St->Option R)(rec:List Item->St->Option R)
  (todo:List Item) (S:St):Option R:=
 match todo with
 | .code (.region id ops draw)::k=>splits (match cut id with | .some kp=>kp.fS | .none=>[]) S λS=>mQ G C ops draw S λS'=>tW G C cut fin rec 1000 k S'
 | _=>none
def runK(G:fv)(C:FuncId->List AV->(AV->Option R)->Option R)(cut:Nat->Option dP)(fin:St->Option R):Nat->List Item->St->Option R
 | 0,_,_=>none
 | n+1,todo,S=>uz G C cut fin (runK G C cut fin n) todo S
def dL(r:Nat):Nat->List Item->Option (List Item)
 | 0,_=>none
 | n+1,todo=>
  match todo with
  | []=>none
  | .inBlock _::k=>dL r n k
  | .inLoop _::k=>dL r n k
  | .code c::k=>
   match c with
   | .skip=>dL r n k
   | .label _=>dL r n k
   | .seq a b=>dL r n (.code a::.code b::k)
   | .cond _ t e=>match dL r n (.code t::k)with | .some x=>.some x | .none=>dL r n (.code e::k)
   | .block id body=>dL r n (.code body::.inBlock id::k)
   | .loop body=>dL r n (.code body::.inLoop body::k)
   | .region id ops draw=>bif Nat.beq id r then .some (.code (.region id ops draw)::k)else dL r n k
   | .exit id=>match exitTo id k with | .some k'=>dL r n k' | .none=>none
   | _=>none
  | _=>none
def start(fn:Func)(args:List AV):St:=⟨args++List.replicate (fn.ntmps - args.length) .undef,λ_=>none,0⟩
def nQ(fn:Func)(args bs:List AV):St:=⟨args++List.replicate (fn.ntmps - args.length) .undef,Mem.iu bs,bs.length⟩
def G1(G:fv)(C:FuncId->List AV->(AV->Option R)->Option R)(cut:Nat->Option dP)(fn:Func)(n:Nat)(args:List AV)(K:AV->Option R):Option R:=
 match fn.body with
 | .some c=>tW G C cut (λS=>jE G fn.resultTypes.toList fn.results.toList S K) (runK G C cut (λS=>jE G fn.resultTypes.toList fn.results.toList S K) n) 1000 [.code c] (start fn args)
 | .none=>none
def GZ(G:fv)(C:FuncId->List AV->(AV->Option R)->Option R)(cut:Nat->Option dP)(fS:List (Nat × Nat × Fl × Nat))(fn:Func)(n:Nat)(args bs:List AV)(K:AV->Option R):Option R:=
 match fn.body with
 | .some c=>tW G C cut (λS=>AI G fS fn.resultTypes.toList fn.results.toList S K) (runK G C cut (λS=>AI G fS fn.resultTypes.toList fn.results.toList S K) n) 1000 [.code c] (nQ fn args bs)
 | .none=>none
end
end Go.Proofs.Ev
namespace Go.Proofs.Ev
open Go Go.RowKit
def dm(xs:List AV):List AV:=xs.flatMap AV.cells
abbrev xl(fl:Fl)(x:AV):Prop:=x.pG=true/\(fl.b=true->x.Qr=true)
def Lg(f:FuncId)(vs:Array Value):Value:=bif Nat.blt f xn then .func (.func f) #[] vs else .func (.func (f - xn)) vs #[]
theorem FJ(f:FuncId)(vs:Array Value):one (Lg f vs)=true:=by unfold Lg;cases Nat.blt f xn<;>rfl
inductive Rel(w:World)(F:Nat->Prop):AV->Value->Prop
 | v (x:Value) (h:one x=true):Rel w F (.v x) x
 | undef (x:Value):Rel w F .undef x
 | qO:Rel w F (.err false) .nilIface
 | qc (t:TypeId) (x:Value):Rel w F (.err true) (.iface t x)
 | xt (fl:Fl) (sz:Nat):Rel w F (.sl fl sz []) (.slice none 0 0)
 | sl (fl:Fl) (sz:Nat) (xs:List AV) (ad:Addr) (cap:Nat) (u:Nat->Value) (hF:xs≠[]->F ad.block) (kM:xs.length<=cap)
  (hs:∀x∈xs,x.cells.length=sz) (hf:∀x∈dm xs,xl fl x)
  (hc:∀j,j<(dm xs).length->w.cell? (ad.add j)=some (u j))
  (hr:∀j c,(dm xs)[j]?=some c->Rel w F c (u j)) (Qw:fl.st=true->xs≠[]->ad.spot=none):Rel w F (.sl fl sz xs) (.slice (some ad) xs.length cap)
 | rd (cs:List AV) (ad:Addr) (u:Nat->Value) (hF:F ad.block)
  (hc:∀j,j<cs.length->w.cell? (ad.add j)=some (u j))
  (hr:∀j c,cs[j]?=some c->Rel w F c (u j)):Rel w F (.rd cs) (.pointer (some ad))
 | agg (cs:List AV) (vs:Array Value) (hl:vs.size=cs.length) (hr:∀j c,cs[j]?=some c->Rel w F c (vs.getD j undef)):Rel w F (.agg cs) (.agg vs)
 | fn (f:FuncId) (cs:List AV) (vs:Array Value) (v:Value) (hv:v=Lg f vs) (hl:vs.size=cs.length) (hr:∀j c,cs[j]?=some c->Rel w F c (vs.getD j undef)) :
  Rel w F (.fn f cs) v
theorem qk{w w' : World}{a:Addr}(h:w'.heap[a.block]?=w.heap[a.block]?):w'.cell? a=w.cell? a:=by
 unfold World.cell?;rw[h]
theorem kj(a:Addr)(n:Nat):(a.add n).block=a.block:=by unfold Addr.add;split<;>rfl
theorem Rel.mono{w w' : World}{F F' : Nat->Prop}{x:AV}{v:Value}(h:Rel w F x v)(hF:∀b,F b->F' b)(hw:∀b,F b->w'.heap[b]?=w.heap[b]?):Rel w' F' x v:=by
 induction h with
 | v x h=>exact .v x h
 | undef x=>exact .undef x
 | qO=>exact .qO
 | qc t x=>exact .qc t x
 | xt fl sz=>exact .xt fl sz
 | sl fl sz xs ad cap u h1 Po hs hf hc _ Qw ih=>
  refine .sl fl sz xs ad cap u (λhx=>hF _ (h1 hx)) Po hs hf (λj hj=>?_) ih Qw;have hx:xs≠[]:=by rintro rfl;simp[dm]at hj
  rw[qk (w:=w) (w':=w') (by rw[kj];exact hw _ (h1 hx))];exact hc j hj
 | rd cs ad u h1 hc _ ih=>
  refine .rd cs ad u (hF _ h1) (λj hj=>?_) ih;rw[qk (w:=w) (w':=w') (by rw[kj];exact hw _ h1)];exact hc j hj
 | agg cs vs hl _ ih=>exact .agg cs vs hl ih
 | fn f cs vs v hv hl _ ih=>exact .fn f cs vs v hv hl ih
abbrev Mu:=Nat->Option (Nat × Nat × Nat)
def jG(w:World)(F:Nat->Prop)(μ:Mu)(m:Mem)(U:Nat->Prop)(x:AV)(v:Value):Prop:=
 (x.pG=true->one v=true)/\
 match x with
 | .own id off l=>U id/\∀fl sz xs,m id=some (.row fl sz xs)->∃a cap,v=.slice a (lenOf xs.length off l) cap/\lenOf xs.length off l<=cap/\off+lenOf xs.length off l<=xs.length/\
  ((a=none/\cap=0)\/∃b o n ad,μ id=some (b,o,n)/\a=some ad/\ad.block=b/\(cap=0\/(ad=⟨b,o+off*sz,none⟩/\o+(off+cap)*sz<=n)))
 | .ptr id off=>U id/\∀tb cs,m id=some (.box tb cs)->∃b n,μ id=some (b,0,n)/\v=.pointer (some ⟨b,off,none⟩)
 | .s_ id i off=>U id/\∀fl sz xs,m id=some (.row fl sz xs)->i<xs.length/\∃b o n,μ id=some (b,o,n)/\v=.pointer (some ⟨b,o+i*sz+off,none⟩)
 | .bs id=>U id/\∀tb cs,m id=some (.box tb cs)->∃b n,μ id=some (b,0,n)/\v=.slice (some ⟨b,0,none⟩) cs.length cs.length
 | .fr _ _ _=>False
 | x=>Rel w F x v
def fL(w:World)(F:Nat->Prop)(μ:Mu)(m:Mem)(U:Nat->Prop)(x:AV)(v:Value):Prop:=
 match x with
 | .fn f cs=>∃vs:Array Value,v=Lg f vs/\vs.size=cs.length/\∀j c,cs[j]?=some c->jG w F μ m U c (vs.getD j undef)
 | x=>jG w F μ m U x v
def mH(w:World)(F:Nat->Prop)(μ:Mu)(m:Mem)(U:Nat->Prop)(x:AV)(v:Value):Prop:=
 match x with
 | .agg cs=>∃vs:Array Value,v=.agg vs/\vs.size=cs.length/\∀j c,cs[j]?=some c->fL w F μ m U c (vs.getD j undef)
 | x=>fL w F μ m U x v
def fg(w:World)(F:Nat->Prop)(μ:Mu)(m:Mem)(U:Nat->Prop)(x:AV)(v:Value):Prop:=
 match x with
 | .eC cs=>∃vs:Array Value,v=.tuple vs/\vs.size=cs.length/\∀j c,cs[j]?=some c->mH w F μ m U c (vs.getD j undef)
 | x=>mH w F μ m U x v
def free(f:Nat × Nat)(n:Nat):Prop:=f.1=f.2\/n<=f.1
theorem free.at{f:Nat × Nat}{n:Nat}(h:free f n):∀j,j<n->¬ (f.1<=j/\j<f.2):=by
 intro j hj;rcases h with h|h<;>omega
theorem free.mark{f:Nat × Nat}{n:Nat}(h:free f n):free (if f.1==f.2 then(n,n+1)else(min f.1 n,max f.2 (n+1))) n:=by
 by_cases e:f.1=f.2
 ·rw[ag (by simpa using e)];exact .inr (aH _)
 ·rw[af (by simpa using e)];exact .inr (by rcases h with h|h;exact absurd h e;show n<=min f.1 n;omega)
def Holds(w:World)(F:Nat->Prop)(μ:Mu)(m:Mem)(U:Nat->Prop)(id:Nat):sv->Prop
 | .box tb cs=>∃b C f,μ id=some (b,0,C.size)/\w.heap[b]?=some (.cells C tb f)/\cs.length=C.size/\free f C.size/\∀j c,cs[j]?=some c->fL w F μ m U c (C.getD j undef)
 | .row fl sz xs=>(∀x∈xs,x.cells.length=sz)/\(∀x∈dm xs,xl fl x)/\
  ((xs=[]/\μ id=none)\/∃b o C f,μ id=some (b,o,C.size)/\w.heap[b]?=some (.cells C fl.te f)/\o+xs.length*sz<=C.size/\free f C.size/\
   ∀j c,(dm xs)[j]?=some c->Rel w F c (C.getD (o+j) undef))
structure fh where
 root:World
 w:World
 N:Nat->Prop
 lt:∀b,N b->b<w.heap.size
 IK:∀b,b<root.heap.size->N b
 vH:Below root.heap.size root w
 bk:Nat->Nat
def fh.of(root w:World)(h:Below root.heap.size root w):fh:=⟨root,w,λb=>b<w.heap.size,λ_ h=>h,λ_ hb=>bB hb h.size,h,λ_=>0⟩
structure kt(B:fh)(w' : World):Prop where
 os:w'.os=B.w.os
 tape:w'.tape=B.w.tape
 output:w'.output=B.w.output
 size:B.w.heap.size<=w'.heap.size
 block:∀k,B.N k->w'.heap[k]?=B.w.heap[k]?
theorem kt.trans{B:fh}{w w' : World}(h:kt B w)(k:Below w.heap.size w w'):kt B w':=
 ⟨k.os.trans h.os,k.tape.trans h.tape,k.output.trans h.output,cr h.size k.size,λi hi=>(k.block i (bB (B.lt i hi) h.size)).trans (h.block i hi)⟩
theorem kt.refl(B:fh):kt B B.w:=⟨rfl,rfl,rfl,aH _,λ_ _=>rfl⟩
theorem kt.below{r w w' : World}{hr:Below r.heap.size r w}(h:kt (fh.of r w hr) w'):Below w.heap.size w w':=⟨h.os,h.tape,h.output,h.size,h.block⟩
theorem kt.root{B:fh}{w:World}(h:kt B w):Below B.root.heap.size B.root w:=
 ⟨h.os.trans B.vH.os,h.tape.trans B.vH.tape,h.output.trans B.vH.output,cr B.vH.size h.size,λb hb=>(h.block b (B.IK b hb)).trans (B.vH.block b hb)⟩
theorem fh.new(B:fh){w:World}(h:kt B w){b:Nat}(hb:w.heap.size<=b):¬ B.N b:=λhN=>by have:=B.lt b hN;have:=h.size;omega
structure dj(W0:fh)(F0 U:Nat->Prop)(m:Mem)(L:AV->Value->Prop)(w:World)(μ:Mu)(F:Nat->Prop):Prop where
 below:kt W0 w
 dW:∀b,F b->b<w.heap.size/\(F0 b\/¬ W0.N b)
 sub:∀b,F0 b->F b
 gl:∀b,b<W0.root.heap.size->F b
 used:∀id x,m id=some x->U id
 lQ:∀id x,m id=some x->Holds w F μ m U id x
 own:∀id x b o n,m id=some x->μ id=some (b,o,n)->¬ W0.N b/\b<w.heap.size/\¬ F b
 inj:∀id uo x x' b o n o' n',m id=some x->m uo=some x'->μ id=some (b,o,n)->μ uo=some (b,o',n')->id=uo
 dT:∀x v,L x v->fg w F μ m U x v
def Inv(W0:fh)(F0 U:Nat->Prop)(m:Mem)(L:AV->Value->Prop)(w:World):Prop:=∃μ F,dj W0 F0 U m L w μ F
theorem Inv.weaken{W0:fh}{F0 U:Nat->Prop}{m:Mem}{L L' : AV->Value->Prop}{w:World}(h:Inv W0 F0 U m L w)(hL:∀x v,L' x v->L x v):Inv W0 F0 U m L' w:=by
 obtain⟨μ,F,h⟩:=h;exact⟨μ,F,{ h with dT:=λx v hx=>h.dT x v (hL x v hx) }⟩
def eO:Option sv->Option sv->Prop
 | _,none=>True
 | some (.box _ cs),some (.box _ kN)=>kN.length=cs.length
 | some (.row _ sz xs),some (.row _ jL oN)=>jL=sz/\oN.length=xs.length
 | _,_=>False
theorem jG.mono{w w' : World}{F F' : Nat->Prop}{μ fC : Mu}{m m' : Mem}{U U' : Nat->Prop}{x:AV}{v:Value}(h:jG w F μ m U x v)
  (hF:∀b,F b->F' b) (hw:∀b,F b->w'.heap[b]?=w.heap[b]?) (hU:∀i,U i->U' i)
  (hm:∀i,U i->eO (m i) (m' i)/\(m' i≠none->fC i=μ i)):jG w' F' fC m' U' x v:=by
 obtain⟨h1c,h⟩:=h;refine⟨h1c,?_⟩;cases x with
 | own id off l=>
  obtain⟨hu,h⟩:=h;refine⟨hU _ hu,λfl sz xs hx=>?_⟩;obtain⟨hs,fG⟩:=hm id hu;rw[fG (by simp[hx])];rw[hx]at hs;cases sU:m id with
  | none=>rw[sU]at hs;exact hs.elim
  | some y=>
   cases y with
   | box tb cs=>rw[sU]at hs;exact hs.elim
   | row iA jL oN=>
    rw[sU]at hs;obtain⟨h1,h2⟩:=hs;have:=h iA jL oN sU;rw[h1,h2];exact this
 | ptr id off=>
  obtain⟨hu,h⟩:=h;refine⟨hU _ hu,λtb cs hx=>?_⟩;obtain⟨hs,fG⟩:=hm id hu;rw[fG (by simp[hx])];rw[hx]at hs;cases sU:m id with
  | none=>rw[sU]at hs;exact hs.elim
  | some y=>
   cases y with
   | box xq kN=>exact h xq kN sU
   | row iA jL oN=>rw[sU]at hs;exact hs.elim
 | s_ id i off=>
  obtain⟨hu,h⟩:=h;refine⟨hU _ hu,λfl sz xs hx=>?_⟩;obtain⟨hs,fG⟩:=hm id hu;rw[fG (by simp[hx])];rw[hx]at hs;cases sU:m id with
  | none=>rw[sU]at hs;exact hs.elim
  | some y=>
   cases y with
   | box tb cs=>rw[sU]at hs;exact hs.elim
   | row iA jL oN=>
    rw[sU]at hs;obtain⟨h1,h2⟩:=hs;have:=h iA jL oN sU;rw[h1,h2];exact this
 | bs id=>
  obtain⟨hu,h⟩:=h;refine⟨hU _ hu,λtb cs hx=>?_⟩;obtain⟨hs,fG⟩:=hm id hu;rw[fG (by simp[hx])];rw[hx]at hs;cases sU:m id with
  | none=>rw[sU]at hs;exact hs.elim
  | some y=>
   cases y with
   | box xq kN=>
    rw[sU]at hs;have hs:cs.length=kN.length:=hs;rw[hs];exact h xq kN sU
   | row iA jL oN=>rw[sU]at hs;exact hs.elim
 | fr _ _ _=>exact h.elim
 | v _=>exact Rel.mono h hF hw
 | sl _ _ _=>exact Rel.mono h hF hw
 | rd _=>exact Rel.mono h hF hw
 | agg _=>exact Rel.mono h hF hw
 | eC _=>exact Rel.mono h hF hw
 | fn _ _=>exact Rel.mono h hF hw
 | err _=>exact Rel.mono h hF hw
 | undef=>exact Rel.mono h hF hw
theorem fL.mono{w w' : World}{F F' : Nat->Prop}{μ fC : Mu}{m m' : Mem}{U U' : Nat->Prop}{x:AV}{v:Value}(h:fL w F μ m U x v)
  (hF:∀b,F b->F' b) (hw:∀b,F b->w'.heap[b]?=w.heap[b]?) (hU:∀i,U i->U' i)
  (hm:∀i,U i->eO (m i) (m' i)/\(m' i≠none->fC i=μ i)):fL w' F' fC m' U' x v:=by
 cases x
 case fn f cs=>obtain⟨vs,e,hl,h⟩:=h;exact⟨vs,e,hl,λj c hc=>(h j c hc).mono hF hw hU hm⟩
 all_goals (simp only[fL]at h ⊢;exact jG.mono h hF hw hU hm)
theorem mH.mono{w w' : World}{F F' : Nat->Prop}{μ fC : Mu}{m m' : Mem}{U U' : Nat->Prop}{x:AV}{v:Value}(h:mH w F μ m U x v)
  (hF:∀b,F b->F' b) (hw:∀b,F b->w'.heap[b]?=w.heap[b]?) (hU:∀i,U i->U' i)
  (hm:∀i,U i->eO (m i) (m' i)/\(m' i≠none->fC i=μ i)):mH w' F' fC m' U' x v:=by
 cases x
 case agg cs=>obtain⟨vs,e,hl,h⟩:=h;exact⟨vs,e,hl,λj c hc=>(h j c hc).mono hF hw hU hm⟩
 all_goals (simp only[mH]at h ⊢;exact fL.mono h hF hw hU hm)
theorem fg.mono{w w' : World}{F F' : Nat->Prop}{μ fC : Mu}{m m' : Mem}{U U' : Nat->Prop}{x:AV}{v:Value}(h:fg w F μ m U x v)
  (hF:∀b,F b->F' b) (hw:∀b,F b->w'.heap[b]?=w.heap[b]?) (hU:∀i,U i->U' i)
  (hm:∀i,U i->eO (m i) (m' i)/\(m' i≠none->fC i=μ i)):fg w' F' fC m' U' x v:=by
 cases x
 case eC cs=>obtain⟨vs,e,hl,h⟩:=h;exact⟨vs,e,hl,λj c hc=>(h j c hc).mono hF hw hU hm⟩
 all_goals (simp only[fg]at h ⊢;exact mH.mono h hF hw hU hm)
theorem eO.refl(x:Option sv):eO x x:=by
 cases x with
 | none=>trivial
 | some y=>cases y<;>simp[eO]
theorem Holds.mono{w w' : World}{F F' : Nat->Prop}{μ fC : Mu}{m m' : Mem}{U U' : Nat->Prop}{id:Nat}{x:sv}(h:Holds w F μ m U id x)
  (hF:∀b,F b->F' b) (hw:∀b,F b->w'.heap[b]?=w.heap[b]?) (hU:∀i,U i->U' i)
  (hm:∀i,U i->eO (m i) (m' i)/\(m' i≠none->fC i=μ i)) (fG:fC id=μ id) (hb:∀b o n,μ id=some (b,o,n)->w'.heap[b]?=w.heap[b]?):Holds w' F' fC m' U' id x:=by
 cases x with
 | box tb cs=>
  obtain⟨b,C,f,h1,h2,h3,h4,h5⟩:=h;exact⟨b,C,f,by rw[fG];exact h1,by rw[hb _ _ _ h1];exact h2,h3,h4,λj c hc=>(h5 j c hc).mono hF hw hU hm⟩
 | row fl sz xs=>
  obtain⟨h1,h2,h3⟩:=h;refine⟨h1,h2,?_⟩;rcases h3 with⟨h3,h4⟩|⟨b,o,C,f,h3,h4,h5,h6,h7⟩
  ·exact .inl ⟨h3,by rw[fG];exact h4⟩
  ·exact .inr ⟨b,o,C,f,by rw[fG];exact h3,by rw[hb _ _ _ h3];exact h4,h5,h6,λj c hc=>(h7 j c hc).mono hF hw⟩
theorem dj.world{W0:fh}{F0 U:Nat->Prop}{m:Mem}{L:AV->Value->Prop}{w w' : World}{μ:Mu}{F:Nat->Prop}(h:dj W0 F0 U m L w μ F)
  (hB:Below w.heap.size w w'):dj W0 F0 U m L w' μ F:=by
 have hs:=h.below.size;have hw:∀b,F b->w'.heap[b]?=w.heap[b]?:=λb hb=>hB.block b (h.dW b hb).1;exact{
  below:=h.below.trans hB
  dW:=λb hb=>⟨bB (h.dW b hb).1 hB.size,(h.dW b hb).2⟩
  sub:=h.sub
  gl:=h.gl
  used:=h.used
  lQ:=λid x hx=>(h.lQ id x hx).mono (λ_ hb=>hb) hw (λ_ hi=>hi) (λi _=>⟨.refl _,λ_=>rfl⟩) rfl
   (λb o n hb=>hB.block b (h.own id x b o n hx hb).2.1)
  own:=λid x b o n hx hb=>⟨(h.own id x b o n hx hb).1,bB (h.own id x b o n hx hb).2.1 hB.size,(h.own id x b o n hx hb).2.2⟩
  inj:=h.inj
  dT:=λx v hx=>(h.dT x v hx).mono (λ_ hb=>hb) hw (λ_ hi=>hi) (λi _=>⟨.refl _,λ_=>rfl⟩) }
theorem Mem.dQ(m:Mem)(i:Nat)(x:Option sv):m.gB i x i=x:=by simp[Mem.gB]
theorem Mem.dy(m:Mem){i j:Nat}(x:Option sv)(h:j≠i):m.gB i x j=m j:=by
 have:Nat.beq j i=false:=by rw[<-a_];exact λe=>h (aw e)
 simp[Mem.gB,this]
theorem F_{w:World}{F:Nat->Prop}{μ:Mu}{m:Mem}{U:Nat->Prop}{x:AV}{v:Value}(h:fg w F μ m U x v)(hx:x.pG=true):fL w F μ m U x v:=by
 cases x<;>first|(simp[AV.pG]at hx;done)|exact h
theorem Ga{w:World}{F:Nat->Prop}{μ:Mu}{m:Mem}{U:Nat->Prop}{x:AV}{v:Value}(h:fg w F μ m U x v)(hx:x.okB=true):jG w F μ m U x v:=by
 cases x<;>first|(simp[AV.okB,AV.pG]at hx;done)|exact h
theorem Rel.na{w:World}{F:Nat->Prop}{x:AV}{v:Value}(h:Rel w F x v)(hx:x.pG=true):one v=true:=by
 cases h<;>first|rfl|assumption|(simp[AV.pG]at hx;done)|(subst_vars;exact FJ _ _)
theorem fL.na{w:World}{F:Nat->Prop}{μ:Mu}{m:Mem}{U:Nat->Prop}{x:AV}{v:Value}(h:fL w F μ m U x v)(hx:x.pG=true):one v=true:=by
 cases x
 case fn f cs=>obtain⟨vs,e,_⟩:=h;rw[e];exact FJ f vs
 all_goals exact h.1 hx
theorem kc{w:World}{F:Nat->Prop}{μ:Mu}{m:Mem}{U:Nat->Prop}{x:AV}{v:Value}(h:Rel w F x v):jG w F μ m U x v:=by
 refine⟨λho=>h.na ho,?_⟩;cases x<;>first|exact h|(cases h;done)
theorem fm{w:World}{F:Nat->Prop}{μ:Mu}{m:Mem}{U:Nat->Prop}{x:AV}{v:Value}(h:Rel w F x v):fL w F μ m U x v:=by
 cases x
 case fn f cs=>cases h with | fn f cs us v hv hl' HU=>exact⟨us,hv,hl',λj c hc=>kc (HU j c hc)⟩
 all_goals (simp only[fL];exact kc h)
theorem ef{w:World}{F:Nat->Prop}{μ:Mu}{m:Mem}{U:Nat->Prop}{x:AV}{v:Value}(h:fL w F μ m U x v):mH w F μ m U x v:=by
 cases x
 case agg cs=>
  obtain⟨_,h⟩:=h;cases h with|agg cs vs hl hr=>exact⟨vs,rfl,hl,λj c hc=>fm (hr j c hc)⟩
 all_goals exact h
theorem ej{w:World}{F:Nat->Prop}{μ:Mu}{m:Mem}{U:Nat->Prop}{x:AV}{v:Value}(h:mH w F μ m U x v):fg w F μ m U x v:=by
 cases x
 case eC cs=>obtain⟨_,h⟩:=h;cases h
 all_goals exact h
theorem dj.fresh{W0:fh}{F0 U:Nat->Prop}{m:Mem}{L L' : AV->Value->Prop}{w w' : World}{μ:Mu}{F:Nat->Prop}(h:dj W0 F0 U m L w μ F)
  {id:Nat} (hid:¬ U id) {x:sv} {b o n:Nat} (hB:Below w.heap.size w w') (hb:w.heap.size<=b) (jP : b<w'.heap.size)
  (hx:Holds w' F (λi=>if i=id then some (b,o,n)else μ i) (m.gB id (some x)) (λi=>U i\/i=id) id x)
  (hL:∀y v,L' y v->L y v\/fg w' F (λi=>if i=id then some (b,o,n)else μ i) (m.gB id (some x)) (λi=>U i\/i=id) y v) :
  dj W0 F0 (λi=>U i\/i=id) (m.gB id (some x)) L' w' (λi=>if i=id then some (b,o,n)else μ i) F:=by
 have h':=h.world hB;have hs:=h.below.size;have sT:∀i,U i->eO (m i) (m.gB id (some x) i)/\(m.gB id (some x) i≠none->(λi=>if i=id then some (b,o,n)else μ i) i=μ i):=by
  intro i hi;have:i≠id:=λe=>hid (e ▸ hi);rw[Mem.dy _ _ this];exact⟨.refl _,λ_=>by simp[this]⟩
 refine{ below:=h'.below,dW:=h'.dW,sub:=h'.sub,gl:=h'.gl,used:=?_,lQ:=?_,own:=?_,inj:=?_,dT:=?_ }
 ·intro i y hy;by_cases e:i=id
  ·exact .inr e
  ·rw[Mem.dy _ _ e]at hy;exact .inl (h.used i y hy)
 ·intro i y hy;by_cases e:i=id
  ·subst e;rw[Mem.dQ]at hy;cases hy;exact hx
  ·rw[Mem.dy _ _ e]at hy;exact(h'.lQ i y hy).mono (λ_ hb=>hb) (λ_ _=>rfl) (λ_ hi=>.inl hi) sT (by simp[e]) (λ_ _ _ _=>rfl)
 ·intro i y b1 o1 n1 hy pR;by_cases e:i=id
  ·subst e;simp at pR;obtain⟨rfl,rfl,rfl⟩:=pR;exact⟨W0.new h.below hb,jP,λhF=>by have:=(h.dW _ hF).1;omega⟩
  ·rw[Mem.dy _ _ e]at hy;simp only[e,if_false]at pR;exact h'.own i y b1 o1 n1 hy pR
 ·intro i i' y y' b1 o1 n1 o2 n2 hy pg pR yP;by_cases e:i=id
  ·by_cases e' : i'=id
   ·rw[e,e']
   ·exfalso;rw[Mem.dy _ _ e']at pg;simp only[e',if_false]at yP;simp only[e,ck,bh,bI]at pR;have:=(h.own i' y' b1 o2 n2 pg yP).2.1;omega
  ·by_cases e' : i'=id
   ·exfalso;rw[Mem.dy _ _ e]at hy;simp only[e,if_false]at pR;simp only[e',ck,bh,bI]at yP;have:=(h.own i y b1 o1 n1 hy pR).2.1;omega
   ·rw[Mem.dy _ _ e]at hy;rw[Mem.dy _ _ e']at pg;simp only[e,if_false]at pR;simp only[e',if_false]at yP;exact h.inj i i' y y' b1 o1 n1 o2 n2 hy pg pR yP
 ·intro y v hy;rcases hL y v hy with hy|hy
  ·exact(h'.dT y v hy).mono (λ_ hb=>hb) (λ_ _=>rfl) (λ_ hi=>.inl hi) sT
  ·exact hy
theorem dj.drop{W0:fh}{F0 U:Nat->Prop}{m:Mem}{L:AV->Value->Prop}{w:World}{μ:Mu}{F:Nat->Prop}(h:dj W0 F0 U m L w μ F)(id:Nat) :
    dj W0 F0 U (m.gB id none) L w μ F:=by
  have sT:∀i,U i->eO (m i) (m.gB id none i)/\(m.gB id none i≠none->μ i=μ i):=by
    intro i _
    refine⟨?_,λ_=>rfl⟩
    by_cases e:i=id
    · subst e;rw[Mem.dQ];cases m i with | none=>trivial | some y=>cases y<;>trivial
    · rw[Mem.dy _ _ e];exact .refl _
  have u3:∀i y,m.gB id none i=some y->m i=some y:=by
    intro i y hy
    by_cases e:i=id
    · subst e;rw[Mem.dQ]at hy;cases hy
    · rwa[Mem.dy _ _ e]at hy
  exact{ below:=h.below,dW:=h.dW,sub:=h.sub,gl:=h.gl,used:=λi y hy=>h.used i y (u3 i y hy),
          lQ:=λi y hy=>(h.lQ i y (u3 i y hy)).mono (λ_ hb=>hb) (λ_ _=>rfl) (λ_ hi=>hi) sT rfl (λ_ _ _ _=>rfl),
          own:=λi y b o n hy hb=>h.own i y b o n (u3 i y hy) hb,
          inj:=λi i' y y' b o n o' n' hy pg hb jP=>h.inj i i' y y' b o n o' n' (u3 i y hy) (u3 i' y' pg) hb jP,
          dT:=λx v hx=>(h.dT x v hx).mono (λ_ hb=>hb) (λ_ _=>rfl) (λ_ hi=>hi) sT }
def fR:TK->TypeDesc->Bool
 | .slice e,.slice e'=>Nat.beq e e'
 | .struct fs,.struct fields=>fields.toList.map (λf=>(f.type,f.offset))==fs
 | .arr n e,.array n' e'=>Nat.beq n n'&&Nat.beq e e'
 | .ptr e,.pointer e'=>Nat.beq e e'
 | .int k,.int k'=>decide (k=k')
 | .string,.string=>true
 | .bool,.bool=>true
 | .other,.func _ _ _=>true
 | .iface,.interface _=>true
 | _,_=>false
structure pv(P:Program)(t:TypeId)(ti:TI):Prop where
 info:∃i,P.info? t=some i/\i.size=ti.size/\i.bytes=ti.bytes/\∃z,i.zero=some z/\z.cells.toList=ti.zero/\(ti.isAgg=true->z=.agg z.cells)
 uJ:∃d,P.underlying t=some d/\fR ti.kd d=true
 agg:ti.isAgg=ti.kd.agg
 Ag:ti.zero.all one=true
 Nc:ti.zero.length=ti.size
 Ra:ti.A2.length=ti.size
 Ot:ti.isAgg=false->ti.size=1
 tid:ti.tid=t
 str : ∀ fields, P.underlying t = some (.struct fields) → (∀ f ∈ fields.toList, (f.name == "_") = false) ∧ P.stoodInHeld t = false
section runs
variable {P:Program} {t:TypeId} {ti:TI} (h:pv P t ti) (w:World)
include h
theorem pv.E0:∃d,P.underlying t=some d/\(underlying t).run P w=.ok d w/\fR ti.kd d=true:=by
 obtain⟨d,hd,hk⟩:=h.uJ;exact⟨d,hd,by simp[underlying,hd],hk⟩
theorem pv.jM:∃i,P.info? t=some i/\(typeInfo t).run P w=.ok i w/\i.size=ti.size/\i.bytes=ti.bytes/\∃z,i.zero=some z/\z.cells.toList=ti.zero/\(ti.isAgg=true->z=.agg z.cells):=by
 obtain⟨i,hi,h1,h2,h3⟩:=h.info;exact⟨i,hi,by simp[typeInfo,hi],h1,h2,h3⟩
theorem pv.kD:(sizeOf t).run P w=.ok ti.size w:=by
 obtain⟨i,hi,h0,h1,h2,h3⟩:=h.jM w;simp[sizeOf,h0,h1]
theorem pv.IJ:∃z,(zeroValue t).run P w=.ok z w/\z.cells.toList=ti.zero/\(ti.isAgg=true->z=.agg z.cells):=by
 obtain⟨i,hi,h0,h1,h2,z,hz,hc⟩:=h.jM w;exact⟨z,by simp[zeroValue,h0,hz],hc⟩
theorem pv.pA:(isAgg t).run P w=.ok ti.isAgg w:=by
 obtain⟨d,hd,hr,hk⟩:=h.E0 w;rw[h.agg];cases fT:ti.kd<;>cases d<;>simp_all [fR,TK.agg,isAgg]
end runs
def Env(G:fv)(S:List AV)(a:Act)(L:AV->Value->Prop):Prop:=
 (∀t,L (S.getD t .undef) (a.tmps.getD t undef))/\∀g cs,G.GX g=some cs->L (.rd cs) (.pointer (some ⟨g,0,none⟩))
theorem Env.rel{G:fv}{S:List AV}{a:Act}{L:AV->Value->Prop}{W0:fh}{w:World}{F0 U F:Nat->Prop}{m:Mem}{μ:Mu}(hE:Env G S a L)(h:dj W0 F0 U m L w μ F)(x:Operand) :
  fg w F μ m U (ev G S x) (a.eval x):=by
 cases x with
 | tmp t=>exact h.dT _ _ (hE.1 t)
 | const v=>
  simp only[ev,Act.eval];cases hv:one v with
  | true=>simp only[ak];exact⟨λ_=>hv,.v v hv⟩
  | false=>simp only[cond_false];exact⟨λh=>by simp[AV.pG]at h,.undef v⟩
 | global g=>
  simp only[ev,Act.eval];cases hg:G.GX g with
  | none=>exact⟨λh=>by simp[AV.pG]at h,.undef _⟩
  | some cs=>exact h.dT _ _ (hE.2 g cs hg)
 | func f=>
  simp only[ev,Act.eval];cases hf:Nat.blt f xn with
  | true=>exact⟨#[],by simp[Lg,hf],rfl,λj c hc=>by simp at hc⟩
  | false=>exact⟨λh=>by simp[AV.pG]at h,.undef _⟩
def U8(U:Nat->Prop)(id:Nat):Nat->Prop:=λi=>U i\/(id<=i/\i<id+8)
theorem dj.wider{W0:fh}{F0 U U' : Nat->Prop}{m:Mem}{L:AV->Value->Prop}{w:World}{μ:Mu}{F:Nat->Prop}(h:dj W0 F0 U m L w μ F)(hU:∀i,U i->U' i) :
  dj W0 F0 U' m L w μ F where
 below:=h.below
 dW:=h.dW
 sub:=h.sub
 gl:=h.gl
 used:=λi x hx=>hU i (h.used i x hx)
 lQ:=λi x hx=>(h.lQ i x hx).mono (λ_ hb=>hb) (λ_ _=>rfl) hU (λi _=>⟨.refl _,λ_=>rfl⟩) rfl (λ_ _ _ _=>rfl)
 own:=h.own
 inj:=h.inj
 dT:=λx v hx=>(h.dT x v hx).mono (λ_ hb=>hb) (λ_ _=>rfl) hU (λi _=>⟨.refl _,λ_=>rfl⟩)
def lK{R:Type}(P:Program)(o:Oper)(a:Act)(w:World)(W0:fh)(F0 U:Nat->Prop)(id:Nat)(L:AV->Value->Prop)(K:AV->Mem->Option R)(r:R):Prop:=
 ∃x m' v w',((execOp a.eval o).run P w=.ok (.value v) w'\/((execOp a.eval o).run P w=.ok .skip w'/\v=undef))/\K x m'=some r/\
  Inv W0 F0 (U8 U id) m' (λy u=>L y u\/(y=x/\u=v)) w'
section
variable {R:Type} {P:Program} {G:fv} {o:Oper} {a:Act} {w:World} {W0:fh} {F0 U F:Nat->Prop} {id:Nat} {L:AV->Value->Prop} {K:AV->Mem->Option R} {r:R} {m:Mem} {μ:Mu} {S:List AV}
theorem lK.calc{x:AV}{v:Value}(h:dj W0 F0 U m L w μ F)(hr:(execOp a.eval o).run P w=.ok (.value v) w)
  (hK:K x m=some r) (hx:fg w F μ m U x v):lK P o a w W0 F0 U id L K r:=by
 refine⟨x,m,v,w,.inl hr,hK,μ,F,?_⟩;have h':=h.wider (U':=U8 U id) (λi hi=>.inl hi);have hp:∀y u,(L y u\/(y=x/\u=v))->fg w F μ m (U8 U id) y u:=by
  rintro y u (hy|⟨rfl,rfl⟩)
  ·exact h'.dT y u hy
  ·exact hx.mono (λ_ hb=>hb) (λ_ _=>rfl) (λi hi=>Or.inl hi) (λi _=>⟨.refl _,λ_=>rfl⟩)
 exact{ h' with dT:=hp }
theorem vc{x:AV}{K:Value->Option R}(h:oO x K=some r):∃y,x=.v y/\K y=some r:=by
 cases x<;>simp_all [oO]
theorem iI{k:IntKind}{x:AV}{K:Int->Option R}(h:cQ k x K=some r):∃n,x=.v (.int k n)/\K n=some r:=by
 cases x with
 | v y=>
  cases y with
  | int k' n=>
   simp only[cQ]at h;by_cases e:k'=k
   ·subst e;simp at h;exact⟨n,rfl,h⟩
   ·simp[e]at h
  | _=>simp[cQ]at h
 | _=>simp[cQ]at h
theorem gv{x:AV}{K:IntKind->Int->Option R}(h:gk x K=some r):∃k n,x=.v (.int k n)/\K k n=some r:=by
 cases x with
 | v y=>cases y<;>simp[gk]at h;exact⟨_,_,rfl,h⟩
 | _=>simp[gk]at h
theorem lf{x:AV}{K:Bool->Option R}(h:gm x K=some r):∃n,x=.v (.bool n)/\K n=some r:=by
 cases x with
 | v y=>cases y<;>simp_all [gm]
 | _=>simp[gm]at h
theorem iH{x:AV}{K:ByteArray->Option R}(h:df x K=some r):∃n,x=.v (.string n)/\K n=some r:=by
 cases x with
 | v y=>cases y<;>simp_all [df]
 | _=>simp[df]at h
theorem cS{α:Type}{x:Option α}{K:α->Option R}(h:cX x K=some r):∃n,x=some n/\K n=some r:=by
 cases x<;>simp_all [cX]
theorem c_{c:Bool}{A:Option R}(h:(bif c then A else none)=some r):c=true/\A=some r:=by
 cases c<;>simp_all
theorem KG{c:Bool}{A:Option R}(h:js c A=some r):c=true/\A=some r:=c_ h
theorem kC{n:Nat}{i:Int}{K:Nat->Option R}(h:mO n i K=some r):0<=i/\i<n/\K i.toNat=some r:=by
 obtain⟨h1,h2⟩:=c_ h;simp at h1;exact⟨h1.1,h1.2,h2⟩
theorem eg{w:World}{F:Nat->Prop}{μ:Mu}{m:Mem}{U:Nat->Prop}{x v:Value}(h:fg w F μ m U (.v x) v):v=x/\one x=true:=by
 obtain⟨_,h⟩:=h;cases h with|v _ h=>exact⟨rfl,h⟩
theorem gK{w:World}{F:Nat->Prop}{μ:Mu}{m:Mem}{U:Nat->Prop}{x:Value}(h:one x=true):fg w F μ m U (.v x) x:=⟨λ_=>h,.v x h⟩
theorem CO{x:Operand}(ho:o.op=.move x\/o.op=.assign x)(h:dj W0 F0 U m L w μ F)(hE:Env G S a L)(hK:K (ev G S x) m=some r) :
  lK P o a w W0 F0 U id L K r:=by
 refine .calc h (v:=a.eval x) ?_ hK (hE.rel h x)
 rcases ho with ho|ho<;>simp[execOp,ho]
theorem Kx{c x y:Operand}(ho:o.op=.pick c x y)(h:dj W0 F0 U m L w μ F)(hE:Env G S a L)(hK:fM G o.op S m id K=some r):lK P o a w W0 F0 U id L K r:=by
 rw[ho]at hK;simp only[fM]at hK;obtain⟨p,hp,hK⟩:=lf hK;have hc:=hE.rel h c;rw[hp]at hc;have WD:=(eg hc).1;have hx:=hE.rel h x;have hy:=hE.rel h y;have hr:(execOp a.eval o).run P w=.ok (.value (if p then a.eval x else a.eval y)) w:=by simp[execOp,ho,WD,asBool]
 have other:(bif p then K (ev G S x) m else K (ev G S y) m)=some r->lK P o a w W0 F0 U id L K r:=by
  intro hK;cases p with
  | true=>exact .calc h hr hK hx
  | false=>exact .calc h hr hK hy
 split at hK
 ·rename_i b1 b2 h1 h2;refine .calc h hr hK ?_
  rw[h1]at hx;rw[h2]at hy;have e1:=(eg hx).1;have e2:=(eg hy).1;rw[e1,e2];cases p<;>exact gK rfl
 ·exact other hK
theorem Kw{op:UnOp}{t:TypeId}{x:Operand}(ho:o.op=.unOp op t x)(h:dj W0 F0 U m L w μ F)(hE:Env G S a L)(hK:fM G o.op S m id K=some r):lK P o a w W0 F0 U id L K r:=by
 rw[ho]at hK;simp only[fM]at hK;have hx:=hE.rel h x;unfold Q8 at hK;split at hK
 ·rename_i b hb;rw[hb]at hx;exact .calc h (v:=.bool (!b)) (by simp[execOp,ho,(eg hx).1,Op.unary]) hK (gK rfl)
 ·rename_i k n hb;rw[hb]at hx;exact .calc h (v:=.int k (k.wrap (0 - n))) (by simp[execOp,ho,(eg hx).1,Op.unary,Op.intArith]) hK (gK rfl)
 ·cases hK
theorem CP{x:Operand}{i:Nat}(ho:o.op=.extract x i)(h:dj W0 F0 U m L w μ F)(hE:Env G S a L)(hK:fM G o.op S m id K=some r):lK P o a w W0 F0 U id L K r:=by
 rw[ho]at hK;simp only[fM]at hK;have hx:=hE.rel h x;split at hK
 ·rename_i xs xC;obtain⟨y,hy,hK⟩:=cS hK;rw[xC]at hx;obtain⟨vs,hv,hl,hr⟩:=hx;have hi:i<vs.size:=by rw[hl];exact(aE.1 hy).1
  refine .calc h (v:=vs.getD i undef) ?_ hK ?_
  ·simp[execOp,ho,hv,Instr.extract,Array.getD,hi]
  ·exact ej (hr i y hy)
 ·cases hK
theorem AP{fn:Fn}{first f_:Array Operand}(ho:o.op=.makeFunc fn first f_)(h:dj W0 F0 U m L w μ F)(hE:Env G S a L)(hK:fM G o.op S m id K=some r):lK P o a w W0 F0 U id L K r:=by
 rw[ho]at hK;simp only[fM]at hK;split at hK
 ·rename_i f;have all:∀(f:FuncId) (f_:Array Operand),(f_.toList.map (ev G S)).all AV.okB=true->fg w F μ m U (.fn f (f_.toList.map (ev G S))) (Lg f (f_.map a.eval)):=by
   intro f f_ ig;refine⟨f_.map a.eval,rfl,by simp,λj c hc=>?_⟩;simp only[aP,cw,aD]at hc;obtain⟨y,hy,rfl⟩:=hc;have hj:j<f_.size:=(bn.1 hy).1;have fF:(ev G S y).okB=true:=aA.1 ig _ (by simp only[cD];exact⟨y,by simpa using Array.mem_of_getElem? hy,rfl⟩);have e:(f_.map a.eval).getD j undef=a.eval y:=by simp[Array.getD,hj,(bn.1 hy).2]
   rw[e];exact Ga (hE.rel h y) fF
  cases h1:((first.isEmpty&&Nat.blt f xn)&&(f_.toList.map (ev G S)).all AV.okB)with
  | true=>
   rw[h1]at hK;rw[ae,ae]at h1;have hfe:first=#[]:=by simpa using h1.1.1
   subst hfe;exact .calc h (v:=.func (.func f) #[] (f_.map a.eval)) (by simp[execOp,ho,Instr.makeFunc]) hK (by have:=all f f_ h1.2;rw[Lg,h1.1.2]at this;exact this)
  | false=>
   rw[h1]at hK;obtain⟨h2,jr⟩:=c_ hK;rw[ae]at h2;have hce:f_=#[]:=by simpa using h2.1
   subst hce;have hb:Nat.blt (f+xn) xn=false:=by rw[<-a_];simp[Nat.blt];omega
   exact .calc h (v:=.func (.func f) (first.map a.eval) #[]) (by simp[execOp,ho,Instr.makeFunc]) jr (by have:=all (f+xn) first h2.2;rw[Lg,hb,cond_false,Nat.add_sub_cancel]at this;exact this)
 ·cases hK
end
structure et(P:Program)(G:fv):Prop where
 ti:∀t ti,G.gM t=some ti->pv P t ti
 YV:∀t ks,gb G 9 t=some ks->P.eqGuardType P.depth t=false
section
variable {R:Type} {P:Program} {G:fv} {o:Oper} {a:Act} {w:World} {W0:fh} {F0 U F:Nat->Prop} {id:Nat} {L:AV->Value->Prop} {K:AV->Mem->Option R} {r:R} {m:Mem} {μ:Mu} {S:List AV}
theorem AO{x:Operand}(ho:o.op=.nilCheck x)(h:dj W0 F0 U m L w μ F)(hE:Env G S a L)(hK:fM G o.op S m id K=some r):lK P o a w W0 F0 U id L K r:=by
 rw[ho]at hK;simp only[fM]at hK;have hx:=hE.rel h x;have go:(ev G S x).pG=true->K (ev G S x) m=some r->(∀p:Addr,a.eval x=.pointer (some p)->lK P o a w W0 F0 U id L K r):=by
  intro _ hK p hp;exact .calc h (by simp[execOp,ho,hp]) (v:=.pointer (some p)) hK (by rw[<-hp];exact hx)
 split at hK
 ·rename_i j off he;obtain⟨bl,hj,hK⟩:=cS hK;rw[he]at hx;obtain⟨_,hu,hx⟩:=hx;cases bl with
  | box tb cs=>obtain⟨b,n,_,hv⟩:=hx tb cs hj;exact go (by rw[he];rfl) hK _ hv
  | row _ _ _=>cases hK
 ·rename_i j i off he;obtain⟨bl,hj,hK⟩:=cS hK;rw[he]at hx;obtain⟨_,hu,hx⟩:=hx;cases bl with
  | row fl sz xs=>obtain⟨_,b,o,n,_,hv⟩:=hx fl sz xs hj;exact go (by rw[he];rfl) hK _ hv
  | box _ _=>cases hK
 ·rename_i cs he;rw[he]at hx;obtain⟨_,hx⟩:=hx;generalize Cq:a.eval x=av at hx;cases hx with|rd cs ad u _ _ _=>exact go (by rw[he];rfl) hK _ Cq
 ·cases hK
theorem iq{op:BinOp}{t:TypeId}{x y:Operand}{a b:Value}(h1:∀cs,a≠.agg cs)(h2:a≠.nilIface\/b≠.nilIface):(eqGuard op t x y a b).run P w=.ok () w:=by
 unfold eqGuard;cases op
 case eql | neq=>
  simp only[aI,b9,if_false];split
  ·rcases h2 with h2|h2<;>exact absurd rfl h2
  ·exact absurd rfl (h1 _)
  ·rfl
 all_goals rfl
theorem run_equalIn_bool{d:Nat}{t:TypeId}{a b:Bool}(hu:P.underlying t=some .bool):(Op.equalIn (d+1) t (.bool a) (.bool b)).run P w=.ok (a==b) w:=by
 simp[Op.equalIn,underlying,hu]
theorem run_equalIn_int{d:Nat}{t:TypeId}{k k' : IntKind}{a b:Int}(hu:P.underlying t=some (.int k')):(Op.equalIn (d+1) t (.int k a) (.int k b)).run P w=.ok (a==b) w:=by
 simp[Op.equalIn,underlying,hu]
theorem run_equalIn_string{d:Nat}{t:TypeId}{a b:ByteArray}(hu:P.underlying t=some .string):(Op.equalIn (d+1) t (.string a) (.string b)).run P w=.ok (a==b) w:=by
 simp[Op.equalIn,underlying,hu]
theorem j7(t:TypeId)(x y:Value):Op.equal t x y=Op.equalIn (9999+1) t x y:=rfl
theorem KJ{op:BinOp}{t:TypeId}{x y:Value}{K:Value->Option R}(hK:EB op x y K=some r):∃v,(binOp op t x y).run P w=.ok v w/\K v=some r/\one v=true:=by
 unfold EB at hK;split at hK
 ·rename_i k a k' b;split at hK
  ·obtain⟨h1,hK⟩:=c_ hK;refine⟨_,?_,hK,rfl⟩;have:¬ b<0:=by simpa using h1
   simp[binOp,Op.shift,this]
  ·obtain⟨h1,hK⟩:=c_ hK;refine⟨_,?_,hK,rfl⟩;have:¬ b<0:=by simpa using h1
   simp[binOp,Op.shift,this]
  ·rename_i Yr V2;obtain⟨h1,hK⟩:=c_ hK;have hk:k=k':=by simpa using h1
   subst hk;cases op
   case shl=>exact absurd rfl Yr
   case shr=>exact absurd rfl V2
   case quo=>
    simp only at hK;by_cases hb:b=0
    ·simp[hb]at hK
    ·rw[show(b==0)=false from by simpa using hb]at hK;exact⟨_,by simp[binOp,Op.intDiv,hb],hK,rfl⟩
   case rem=>
    simp only at hK;by_cases hb:b=0
    ·simp[hb]at hK
    ·rw[show(b==0)=false from by simpa using hb]at hK;exact⟨_,by simp[binOp,Op.intDiv,hb],hK,rfl⟩
   all_goals first|(simp only at hK;exact⟨_,by simp[binOp,Op.intArith,Op.intBits,Op.intCmp],hK,rfl⟩)|(simp at hK)
 ·rename_i a b;cases op
  case add=>
   obtain⟨h1,hK⟩:=KG hK;refine⟨_,?_,hK,rfl⟩;have h1:a.size+b.size<=9223372036854775807:=by simpa using h1
   have:¬ (((a.size+b.size:Nat):Int)>IntKind.i64.max):=by
    have:IntKind.i64.max=9223372036854775807:=by decide
    rw[this];omega
   simp only[binOp,Op.stringOp];rw[af this];rfl
  all_goals first|(simp only at hK;exact⟨_,by simp[binOp,Op.stringOp],hK,rfl⟩)|(simp at hK)
 ·cases hK
theorem pd(hG:et P G){t:TypeId}(h:isIface G t=true):∃ms,P.underlying t=some (.interface ms):=by
 unfold isIface at h;split at h
 ·rename_i ti mr;obtain⟨d,hd,hk⟩:=(hG.ti t ti mr).uJ;split at h
  ·rename_i fT;rw[fT]at hk;cases d<;>simp[fR]at hk;exact⟨_,hd⟩
  ·cases h
 ·cases h
theorem B3(hG:et P G){t:TypeId}(h:isSlice G t=true):∃e,P.underlying t=some (.slice e):=by
 unfold isSlice at h;split at h
 ·rename_i ti mr;obtain⟨d,hd,hk⟩:=(hG.ti t ti mr).uJ;split at h
  ·rename_i fT;rw[fT]at hk;cases d<;>simp[fR]at hk;exact⟨_,hd⟩
  ·cases h
 ·cases h
theorem D8(hG:et P G){t:TypeId}(h:isBool G t=true):P.underlying t=some .bool:=by
 unfold isBool at h;split at h
 ·rename_i ti mr;obtain⟨d,hd,hk⟩:=(hG.ti t ti mr).uJ;split at h
  ·rename_i fT;rw[fT]at hk;cases d<;>simp[fR]at hk;exact hd
  ·cases h
 ·cases h
def s5:List SK->List AV->List AV->Option Bool
 | [],[],[]=>some true
 | k::ks,.v x::r,.v y::s=>match Kr k x y,s5 ks r s with | some b,some c=>some (b&&c) | _,_=>none
 | _,_,_=>none
theorem AK:∀(ks:List SK) (xs ys:List AV) (K:Bool->Option R),QJ ks xs ys K=(s5 ks xs ys).bind K
 | [],[],[],K=>rfl
 | [],[],_::_,K=>rfl
 | [],_::_,_,K=>rfl
 | _::_,[],_,K=>rfl
 | k::ks,x::r,ys,K=>by
  cases ys with
  | nil=>cases x<;>rfl
  | cons y s=>
   cases x<;>cases y<;>try rfl
   rename_i x y;simp only[QJ,s5];cases hv:Kr k x y with
   | none=>rfl
   | some b=>
    simp only[AK ks r s];cases s5 ks r s<;>rfl
theorem CM:∀(ks:List SK) (xs ys:List AV) (b:Bool),s5 ks xs ys=some b->∃X Y:List Value,xs=X.map .v/\ys=Y.map .v/\X.length=ks.length/\Y.length=ks.length
 | [],[],[],b,h=>⟨[],[],rfl,rfl,rfl,rfl⟩
 | k::ks,x::r,y::s,b,h=>by
  cases x<;>cases y<;>try (simp[s5]at h;done)
  rename_i x y;simp only[s5]at h;split at h
  ·rename_i b1 c1 h1 h2;obtain⟨X,Y,rfl,rfl,h3,h4⟩:=CM ks r s c1 h2;exact⟨x::X,y::Y,rfl,rfl,by simp[h3],by simp[h4]⟩
  ·cases h
 | [],_::_,_,b,h=>by simp[s5]at h
 | [],[],_::_,b,h=>by simp[s5]at h
 | _::_,[],_,b,h=>by simp[s5]at h
 | _::_,x::_,[],b,h=>by cases x<;>simp[s5]at h
theorem wR:∀(ks O1 : List SK) (X X' Y Y' : List Value),X.length=ks.length->Y.length=ks.length->
  s5 (ks++O1) ((X++X').map .v) ((Y++Y').map .v)=(s5 ks (X.map .v) (Y.map .v)).bind λa=>(s5 O1 (X'.map .v) (Y'.map .v)).map λb=>a&&b
 | [],O1,[],X',[],Y',_,_=>by simp[s5]
 | k::ks,O1,x::X,X',y::Y,Y',h,h'=>by
  have ih:=wR ks O1 X X' Y Y' (by simpa using h) (by simpa using h');simp only[cm,bx,s5,ih];cases Kr k x y with
  | none=>simp
  | some b=>cases s5 ks (X.map .v) (Y.map .v)<;>cases s5 O1 (X'.map .v) (Y'.map .v)<;>simp[Bool.and_assoc]
 | [],_,_::_,_,_,_,h,_=>by simp at h
 | [],_,[],_,_::_,_,_,h=>by simp at h
 | _::_,_,[],_,_,_,h,_=>by simp at h
 | _::_,_,_::_,_,[],_,_,h=>by simp at h
theorem G5{d:Nat}{t:TypeId}{x y:Value}{b:Bool}{k:SK}(hx:Kr k x y=some b)
  (hu:(∃i,k=.int i/\P.underlying t=some (.int i))\/(k=.str/\P.underlying t=some .string)\/(k=.bool/\P.underlying t=some .bool)) :
  (Op.equalIn (d+1) t x y).run P w=.ok b w:=by
 rcases hu with⟨i,rfl,hd⟩|⟨rfl,hd⟩|⟨rfl,hd⟩
 ·cases x<;>cases y<;>simp[Kr]at hx;rename_i k1 a k2 n;by_cases e:k1=i/\k2=i
  ·obtain⟨rfl,rfl⟩:=e;simp at hx;subst hx;exact run_equalIn_int hd
  ·have:(decide (k1=i)&&decide (k2=i))=false:=by simpa using e
   rw[this]at hx;cases hx
 ·cases x<;>cases y<;>simp[Kr]at hx;subst hx;exact run_equalIn_string hd
 ·cases x<;>cases y<;>simp[Kr]at hx;subst hx;exact run_equalIn_bool hd
theorem D3:∀(n:Nat) (t:TypeId) (ks:List SK),gb G n t=some ks->∃ti,G.gM t=some ti/\ti.size=ks.length
 | 0,t,ks,h=>by simp[gb]at h
 | n+1,t,ks,h=>by
  simp only[gb]at h;split at h
  ·rename_i ti mr;refine⟨ti,mr,?_⟩;split at h
   ·obtain⟨h1,h⟩:=c_ h;cases h;exact aw h1
   ·obtain⟨h1,h⟩:=c_ h;cases h;exact aw h1
   ·obtain⟨h1,h⟩:=c_ h;cases h;exact aw h1
   ·split at h
    ·obtain⟨h1,h⟩:=c_ h;cases h;exact(aw h1).symm
    ·cases h
   ·cases h
  ·cases h
theorem vT{t:TypeId}{ti:TI}(hT:pv P t ti)(Z:Array Value)(off:Nat)(hZ:off+ti.size<=Z.size)(h1:ti.isAgg=false->ti.size=1) :
  ∃z,(part t Z off).run P w=.ok z w/\(ti.isAgg=true->z=.agg z.cells/\z.cells.toList=(Z.toList.drop off).take ti.size)/\(ti.isAgg=false->z=Z.getD off undef):=by
 unfold part;cases qN:ti.isAgg with
 | true=>
  refine⟨.agg (Z.extract off (off+ti.size)),?_,λ_=>⟨rfl,?_⟩,λh=>by cases h⟩
  ·simp[hT.pA w,qN,hT.kD w]
  ·simp[Value.cells,Array.toList_extract,List.extract]
 | false=>
  have hs:=h1 qN;have eT:off<Z.size:=by omega
  exact⟨Z.getD off undef,by simp[hT.pA w,qN,Array.getD,eT],(λh=>by cases h),λ_=>rfl⟩
theorem En(hG:et P G):∀(n:Nat) (t:TypeId) (ks:List SK),gb G n t=some ks->∀(d:Nat) (x y:Value) (b:Bool),
  x.cells.size=ks.length->y.cells.size=ks.length->(qH G t=true->x=.agg x.cells/\y=.agg y.cells)->(qH G t=false->one x=true/\one y=true)->
  s5 ks (x.cells.toList.map .v) (y.cells.toList.map .v)=some b->(Op.equalIn (d+n) t x y).run P w=.ok b w:=by
 intro n;induction n with
 | zero=>intro t ks h;simp[gb]at h
 | succ n ih=>
  intro t ks h d x y b hx hy WQ Ee hb;simp only[gb]at h;split at h
  ·rename_i ti mr;have hT:=hG.ti t ti mr;obtain⟨dd,hd,hk⟩:=hT.uJ;have YU:qH G t=ti.kd.agg:=by simp[qH,mr]
   have flat:∀k,ks=[k]->ti.kd.agg=false->((∃i,k=SK.int i/\P.underlying t=some (.int i))\/(k=.str/\P.underlying t=some .string)\/(k=.bool/\P.underlying t=some .bool))->
     (Op.equalIn (d+(n+1)) t x y).run P w=.ok b w:=by
    intro k Se qN hu;subst Se;obtain⟨ox,oy⟩:=Ee (by rw[YU];exact qN);have ex:x.cells=#[x]:=by cases x<;>first|rfl|simp[one]at ox
    have ey:y.cells=#[y]:=by cases y<;>first|rfl|simp[one]at oy
    rw[ex,ey]at hb;simp only[bx,List.map_nil,s5]at hb;cases hv:Kr k x y with
    | none=>simp[hv]at hb
    | some b'=>
     simp[hv]at hb;subst hb;exact G5 (d:=d+n) hv hu
   split at h
   ·rename_i i fT;rw[fT]at hk;cases dd<;>simp[fR]at hk;subst hk;obtain⟨_,h⟩:=c_ h;cases h;exact flat _ rfl (by rw[fT];rfl) (.inl ⟨_,rfl,hd⟩)
   ·rename_i fT;rw[fT]at hk;cases dd<;>simp[fR]at hk;obtain⟨_,h⟩:=c_ h;cases h;exact flat _ rfl (by rw[fT];rfl) (.inr (.inl ⟨rfl,hd⟩))
   ·rename_i fT;rw[fT]at hk;cases dd<;>simp[fR]at hk;obtain⟨_,h⟩:=c_ h;cases h;exact flat _ rfl (by rw[fT];rfl) (.inr (.inr ⟨rfl,hd⟩))
   ·rename_i fs fT;rw[fT]at hk;cases dd<;>simp[fR]at hk;rename_i fields;obtain⟨hn,rT⟩:=hT.str fields hd;obtain⟨ex,ey⟩:=WQ (by rw[YU,fT];rfl);rw[ex,ey];generalize x.cells=X at *;generalize y.cells=Y at *;split at h
    ·rename_i O1 Wh;obtain ⟨_, h⟩ := c_ h;cases h;have key : ∀ (fl : List Field) (off : Nat) (ks : List SK) (b : Bool), (∀ f ∈ fl, (f.name == "_") = false) → ly (gb G n) off (fl.map fun f => (f.type, f.offset)) = some ks →
       X.size=off+ks.length->Y.size=off+ks.length->s5 ks ((X.toList.drop off).map .v) ((Y.toList.drop off).map .v)=some b->
       (Op.eqFields (d+n) X Y fl).run P w=.ok b w:=by
      intro fl;induction fl with
      | nil=>
       intro off ks b _ hk hX hY hb;simp only[List.map_nil,ly]at hk;cases hk;simp only[aJ,bE]at hX hY;rw[List.drop_eq_nil_of_le (by simp[hX]),List.drop_eq_nil_of_le (by simp[hY])]at hb;simp[s5]at hb;subst hb;simp[Op.eqFields]
      | cons f fl ihf=>
       intro off ks b kL hk hX hY hb;simp only[bx,ly]at hk;obtain⟨ho,hk⟩:=c_ hk;have ho:f.offset=off:=aw ho;split at hk
       ·rename_i k1 wH;split at hk
        ·rename_i k2 nz;cases hk;rw[ai]at hX hY;have sX:X.toList.drop off=(X.toList.drop off).take k1.length++X.toList.drop (off+k1.length):=by
          rw[<-cu,bW]
         have sY:Y.toList.drop off=(Y.toList.drop off).take k1.length++Y.toList.drop (off+k1.length):=by
          rw[<-cu,bW]
         rw[sX,sY,wR _ _ _ _ _ _ (by simp;omega) (by simp;omega)]at hb;obtain⟨tf,Qv,lv⟩:=D3 n f.type k1 wH;have Uc:=hG.ti _ _ Qv;have Su:qH G f.type=tf.isAgg:=by simp[qH,Qv,Uc.agg]
         cases h1:s5 k1 (((X.toList.drop off).take k1.length).map .v) (((Y.toList.drop off).take k1.length).map .v)with
         | none=>rw[h1]at hb;cases hb
         | some b1=>
          cases h2:s5 k2 ((X.toList.drop (off+k1.length)).map .v) ((Y.toList.drop (off+k1.length)).map .v)with
          | none=>rw[h1,h2]at hb;cases hb
          | some b2=>
           rw [h1, h2] at hb;cases hb;have R4 := ihf (off + k1.length) k2 b2 (fun f hf => kL f (by simp [hf])) nz (by omega) (by omega) h2;have iS : f.name ≠ "_" := by simpa using kL f (by simp)
           have Xd:tf.isAgg=false->tf.size=1:=by
            intro qN;rw[Uc.agg]at qN;cases n with
            | zero=>simp[gb]at wH
            | succ n=>
             simp only[gb,Qv]at wH;split at wH
             ·obtain⟨h1,_⟩:=c_ wH;exact aw h1
             ·obtain⟨h1,_⟩:=c_ wH;exact aw h1
             ·obtain⟨h1,_⟩:=c_ wH;exact aw h1
             ·rename_i Wj;rw[Wj]at qN;cases qN
             ·cases wH
           obtain⟨zx,hzx,Yp,Yo⟩:=vT (w:=w) Uc X f.offset (by rw[ho];omega) Xd;obtain⟨zy,hzy,Yn,O8⟩:=vT (w:=w) Uc Y f.offset (by rw[ho];omega) Xd;rw[ho]at Yp Yo Yn O8;have he:(Op.equalIn (d+n) f.type zx zy).run P w=.ok b1 w:=by
            cases qN:tf.isAgg with
            | true=>
             obtain⟨e1,e2⟩:=Yp qN;obtain⟨e3,e4⟩:=Yn qN;rw[lv]at e2 e4;refine ih f.type k1 wH d zx zy b1 ?_ ?_ (λ_=>⟨e1,e3⟩) (λh=>by rw[Su,qN]at h;cases h) (by rw[e2,e4];exact h1)
             ·rw[<-br,e2];simp;omega
             ·rw[<-br,e4];simp;omega
            | false=>
             have Yr:=Xd qN;have Mn:k1.length=1:=by omega
             have gx:(X.toList.drop off).take 1=[zx]:=by
              rw[Yo qN];have:off<X.size:=by omega
              rw[aC (by simpa using this)];simp[Array.getD,this]
             have gy:(Y.toList.drop off).take 1=[zy]:=by
              rw[O8 qN];have:off<Y.size:=by omega
              rw[aC (by simpa using this)];simp[Array.getD,this]
             rw[Mn,gx,gy]at h1;have oz:one zx=true/\one zy=true:=by
              match k1,Mn,h1 with
              | [k],_,h1=>
               simp only[bx,List.map_nil,s5]at h1;cases hv:Kr k zx zy with
               | none=>rw[hv]at h1;cases h1
               | some bb=>cases k<;>cases zx<;>cases zy<;>first|(simp[Kr]at hv;done)|exact⟨rfl,rfl⟩
             have ex:zx.cells=#[zx]:=by cases zx<;>first|rfl|simp[one]at oz
             have ey:zy.cells=#[zy]:=by cases zy<;>first|rfl|simp[one]at oz
             exact ih f.type k1 wH d zx zy b1 (by rw[ex,Mn];rfl) (by rw[ey,Mn];rfl) (λh=>by rw[Su,qN]at h;cases h) (λ_=>oz) (by rw[ex,ey];exact h1)
           rw[Op.eqFields];simp only[ag iS,cv,hzx,hzy,he,cg];cases b1
           ·simp
           ·simpa using R4
        ·cases hk
       ·cases hk
     have hf:P.fieldsOf t=fields:=by simp[Program.fieldsOf,hd]
     show(Op.equalIn ((d+n)+1) t (.agg X) (.agg Y)).run P w=_;rw[run_equalIn_struct (P:=P) w (d+n) t X Y (by rw[hf];exact hd) rT,hf];exact key fields.toList 0 ks b hn (by rw[hk];exact Wh) (by omega) (by omega) (by simpa using hb)
    ·cases h
   ·cases h
  ·cases h
end
section
variable {R:Type} {P:Program} {G:fv} {o:Oper} {a:Act} {w:World} {W0:fh} {F0 U F:Nat->Prop} {id:Nat} {L:AV->Value->Prop} {K:AV->Mem->Option R} {r:R} {m:Mem} {μ:Mu} {S:List AV}
theorem ot{op:BinOp}{t:TypeId}{x y:Operand}(h:(Region.isConst x||Region.isConst y)=true):(eqGuard op t x y .nilIface .nilIface).run P w=.ok () w:=by
 unfold eqGuard;cases op
 case eql | neq=>
  simp only[aI,b9,if_false];cases x<;>cases y<;>first|rfl|exact Bool.noConfusion (show false=true from h)
 all_goals rfl
theorem oV{op:BinOp}{t yt:TypeId}{x y:Operand}{v:Value}(ho:o.op=.binOp op t x y yt)(hg:(eqGuard op t x y (a.eval x) (a.eval y)).run P w=.ok () w)
  (hb:(binOp op t (a.eval x) (a.eval y)).run P w=.ok v w):(execOp a.eval o).run P w=.ok (.value v) w:=by
 simp[execOp,ho,hg,hb]
theorem DR{x:Value}(h:one x=true):∀cs,x≠.agg cs:=by
 intro cs e;subst e;cases h
theorem Hh(hG:et P G){op:BinOp}{t yt:TypeId}{x y:Operand}(ho:o.op=.binOp op t x y yt)(h:dj W0 F0 U m L w μ F)(hE:Env G S a L)(hK:fM G o.op S m id K=some r) :
  lK P o a w W0 F0 U id L K r:=by
 rw[ho]at hK;simp only[fM]at hK;have hx:=hE.rel h x;have hy:=hE.rel h y
 -- Th XX outcome is known
 have eqs:∀b:Bool,(eqGuard op t x y (a.eval x) (a.eval y)).run P w=.ok () w->
   (∀op,op=BinOp.eql\/op=BinOp.neq->(binOp op t (a.eval x) (a.eval y)).run P w=.ok (.bool (if op=.eql then b else !b)) w)->
   (qj op b λb=>K (vb b) m)=some r->lK P o a w W0 F0 U id L K r:=by
  intro b hg hb hK;cases op
  case eql=>exact .calc h (oV ho hg (hb .eql (.inl rfl))) hK (gK rfl)
  case neq=>exact .calc h (oV ho hg (hb .neq (.inr rfl))) hK (gK rfl)
  all_goals (simp only[qj]at hK;cases hK)
 generalize hX:ev G S x=X at hK hx;generalize hY:ev G S y=Y at hK hy;unfold KK at hK;split at hK
 ·-- nil,nil: O3
  obtain⟨hc,hK⟩:=c_ hK;rw[ae]at hc;obtain⟨ms,hu⟩:=pd hG hc.2;have ex:=(eg hx).1;have ey:=(eg hy).1;have he:∀d,(Op.equalIn (d+1) t .nilIface .nilIface).run P w=.ok true w:=λd=>by simp[Op.equalIn,underlying,hu]
  refine eqs true ?_ ?_ hK
  ·rw[ex,ey];exact ot hc.1
  ·rw[ex,ey];rintro op (rfl|rfl)<;>simp only[binOp,j7,cv,he,cg,Sem.run_pure]<;>rfl
 ·-- an error,nil
  obtain⟨hc,hK⟩:=c_ hK;obtain⟨ms,hu⟩:=pd hG hc;have ex:=(eg hx).1;have ey:=(eg hy).1;rename_i tt vv _h0;have he:∀d,(Op.equalIn (d+1) t (.iface tt vv) .nilIface).run P w=.ok false w:=λd=>by simp[Op.equalIn,underlying,hu]
  refine eqs false ?_ ?_ hK
  ·rw[ex,ey];exact iq (λcs=>by simp) (.inl (by simp))
  ·rw[ex,ey];rintro op (rfl|rfl)<;>simp only[binOp,j7,cv,he,cg,Sem.run_pure]<;>rfl
 ·-- an error of Q6 it is known TE it is one,nil
  rename_i b;obtain⟨hc,hK⟩:=c_ hK;rw[ae]at hc;obtain⟨ms,hu⟩:=pd hG hc.2;obtain⟨_,hx⟩:=hx;have ey:=(eg hy).1;generalize hax:a.eval x=ax at *;cases hx with
  | qO=>
   have he:∀d,(Op.equalIn (d+1) t .nilIface .nilIface).run P w=.ok true w:=λd=>by simp[Op.equalIn,underlying,hu]
   refine eqs true ?_ ?_ hK
   ·rw[ey];exact ot hc.1
   ·rw[ey];rintro op (rfl|rfl)<;>simp only[binOp,j7,cv,he,cg,Sem.run_pure]<;>rfl
  | qc tt vv=>
   have he:∀d,(Op.equalIn (d+1) t (.iface tt vv) .nilIface).run P w=.ok false w:=λd=>by simp[Op.equalIn,underlying,hu]
   refine eqs false ?_ ?_ hK
   ·rw[ey];exact iq (λcs=>by simp) (.inl (by simp))
   ·rw[ey];rintro op (rfl|rfl)<;>simp only[binOp,j7,cv,he,cg,Sem.run_pure]<;>rfl
 ·-- nil,nil: U_
  obtain⟨hc,hK⟩:=c_ hK;obtain⟨e,hu⟩:=B3 hG hc;have ex:=(eg hx).1;have ey:=(eg hy).1;have he:∀d,(Op.equalIn (d+1) t (.slice none 0 0) (.slice none 0 0)).run P w=.ok true w:=λd=>by simp[Op.equalIn,underlying,hu]
  refine eqs true ?_ ?_ hK
  ·rw[ex,ey];exact iq (λcs=>by simp) (.inl (by simp))
  ·rw[ex,ey];rintro op (rfl|rfl)<;>simp only[binOp,j7,cv,he,cg,Sem.run_pure]<;>rfl
 ·-- YZ
  rename_i p q;obtain⟨hc,hK⟩:=c_ hK;have hu:=D8 hG hc;have ex:=(eg hx).1;have ey:=(eg hy).1;refine eqs (p==q) ?_ ?_ hK
  ·rw[ex,ey];exact iq (λcs=>by simp) (.inl (by simp))
  ·rw[ex,ey];rintro op (rfl|rfl)<;>simp only[binOp,j7,cv,run_equalIn_bool hu,cg,Sem.run_pure]<;>rfl
 ·-- flat values
  rename_i p q _ _ _ _;have hp:p≠.nilIface:=by
   intro e;subst e;cases q<;>simp[EB]at hK
  have ex:=eg hx;have ey:=eg hy;obtain⟨v,hr,hK,hv⟩:=KJ (P:=P) (w:=w) (t:=t) hK;refine .calc h (oV ho ?_ (by rw[ex.1,ey.1];exact hr)) hK (gK hv)
  rw[ex.1,ey.1];exact iq (DR ex.2) (.inl hp)
 ·-- structs
  rename_i gi bs;split at hK
  ·rename_i ks Se;obtain⟨hc,hK⟩:=c_ hK;obtain⟨X,eX,lX,rX⟩:=hx;obtain⟨Y,eY,lY,rY⟩:=hy;have main:∀b,s5 ks gi bs=some b->(Op.equalIn (9999+1) t (.agg X) (.agg Y)).run P w=.ok b w:=by
    intro b hb;obtain⟨XL,YL,e1,e2,l1,l2⟩:=CM ks gi bs b hb;subst e1;subst e2;have cx:X.toList=XL:=by
     apply List.ext_getElem (by simpa using lX);intro j h1 h2;have:=rX j (.v XL[j]) (by simp[h2]);have hj:j<X.size:=by simpa using h1
     have:=(eg (F:=F) (w:=w) (μ:=μ) (m:=m) (U:=U) (ej (ef this))).1;simpa[Array.getD,hj]using this
    have cy:Y.toList=YL:=by
     apply List.ext_getElem (by simpa using lY);intro j h1 h2;have:=rY j (.v YL[j]) (by simp[h2]);have hj:j<Y.size:=by simpa using h1
     have:=(eg (F:=F) (w:=w) (μ:=μ) (m:=m) (U:=U) (ej (ef this))).1;simpa[Array.getD,hj]using this
    exact En hG 9 t ks Se 9991 (.agg X) (.agg Y) b (show X.size=_ by simpa[l1]using lX) (show Y.size=_ by simpa[l2]using lY) (λ_=>⟨rfl,rfl⟩) (λh=>by rw[hc]at h;cases h)
     (by simp only[Value.cells,cx,cy];exact hb)
   have hg:(eqGuard op t x y (a.eval x) (a.eval y)).run P w=.ok () w:=by
    rw[eX,eY];exact run_eqGuard_agg w op t x y X Y (hG.YV t ks Se)
   rw[AK]at hK;cases hb:s5 ks gi bs with
   | none=>rw[hb]at hK;cases hK
   | some b=>
    rw[hb]at hK;refine eqs b hg ?_ hK
    ·rw[eX,eY];rintro op (rfl|rfl)<;>simp only[binOp,j7,cv,main b hb,cg,Sem.run_pure]<;>rfl
  ·cases hK
 ·cases hK
end
section
variable {R:Type} {P:Program} {G:fv} {o:Oper} {a:Act} {w w' : World} {W0:fh} {F0 U F:Nat->Prop} {id:Nat} {L:AV->Value->Prop} {K:AV->Mem->Option R} {r:R} {m:Mem} {μ:Mu} {S:List AV}
theorem CE{x:sv}{q:Nat × Nat × Nat}(hid:¬ U id):∀i,U i->eO (m i) (m.gB id (some x) i)/\(m.gB id (some x) i≠none->(λi=>if i=id then some q else μ i) i=μ i):=by
 intro i hi;have:i≠id:=λe=>hid (e ▸ hi);rw[Mem.dy _ _ this];exact⟨.refl _,λ_=>by simp[this]⟩
theorem lA(w:World)(ob:Obj):Below w.heap.size w (w.alloc ob):=(Below.refl _ w).alloc (aH _) ob
theorem j9(w:World)(ob:Obj):(w.alloc ob).heap[w.heap.size]?=some ob:=by
 show(w.heap.push ob)[w.heap.size]?=_;simp
theorem lK.box{cs:List AV}{C:Array Value}{t:TypeId}(h:dj W0 F0 U m L w μ F)(hid:∀j,j<8->¬ U (id+j))
  (fN:(execOp a.eval o).run P w=.ok (.value (.pointer (some ⟨w.heap.size,0,none⟩))) (w.alloc (.cells C t)))
  (hl:cs.length=C.size) (hr:∀j c,cs[j]?=some c->fL w F μ m U c (C.getD j undef))
  (hK:K (.ptr id 0) (m.gB id (some (.box t cs)))=some r):lK P o a w W0 F0 U id L K r:=by
 have wI:¬ U id:=hid 0 (by omega);have hB:=lA w (.cells C t);have hw:∀b,F b->(w.alloc (.cells C t)).heap[b]?=w.heap[b]?:=λb hb=>hB.block b (h.dW b hb).1;refine⟨.ptr id 0,_,_,_,.inl fN,hK,_,F,(dj.fresh (L':=λy u=>L y u\/(y=.ptr id 0/\u=.pointer (some ⟨w.heap.size,0,none⟩))) (b:=w.heap.size) (o:=0) (n:=C.size) h wI hB (aH _) (by simp) ?_ ?_).wider ?_⟩
 ·refine⟨w.heap.size,C,(0,0),by simp,j9 w _,hl,.inl rfl,λj c hc=>?_⟩;exact(hr j c hc).mono (λ_ hb=>hb) hw (λi hi=>Or.inl hi) (CE wI)
 ·rintro y v (hy|⟨rfl,rfl⟩)
  ·exact .inl hy
  ·refine .inr ⟨λ_=>rfl,.inr rfl,λxq kN hx=>?_⟩;exact⟨w.heap.size,C.size,by simp,rfl⟩
 ·rintro i (hi|rfl)
  ·exact .inl hi
  ·exact .inr ⟨aH _,by omega⟩
theorem lK.bs{cs:List AV}{C:Array Value}{t:TypeId}(h:dj W0 F0 U m L w μ F)(hid:∀j,j<8->¬ U (id+j))
  (fN:(execOp a.eval o).run P w=.ok (.value (.slice (some ⟨w.heap.size,0,none⟩) cs.length cs.length)) (w.alloc (.cells C t)))
  (hl:cs.length=C.size) (hr:∀j c,cs[j]?=some c->fL w F μ m U c (C.getD j undef))
  (hK:K (.bs id) (m.gB id (some (.box t cs)))=some r):lK P o a w W0 F0 U id L K r:=by
 have wI:¬ U id:=hid 0 (by omega);have hB:=lA w (.cells C t);have hw:∀b,F b->(w.alloc (.cells C t)).heap[b]?=w.heap[b]?:=λb hb=>hB.block b (h.dW b hb).1;refine⟨.bs id,_,_,_,.inl fN,hK,_,F,(dj.fresh (L':=λy u=>L y u\/(y=.bs id/\u=.slice (some ⟨w.heap.size,0,none⟩) cs.length cs.length)) (b:=w.heap.size) (o:=0) (n:=C.size) h wI hB (aH _) (by simp) ?_ ?_).wider ?_⟩
 ·refine⟨w.heap.size,C,(0,0),by simp,j9 w _,hl,.inl rfl,λj c hc=>?_⟩;exact(hr j c hc).mono (λ_ hb=>hb) hw (λi hi=>Or.inl hi) (CE wI)
 ·rintro y v (hy|⟨rfl,rfl⟩)
  ·exact .inl hy
  ·refine .inr ⟨λ_=>rfl,.inr rfl,λxq kN hx=>?_⟩;rw[Mem.dQ]at hx;cases hx;exact⟨w.heap.size,C.size,by simp,rfl⟩
 ·rintro i (hi|rfl)
  ·exact .inl hi
  ·exact .inr ⟨aH _,by omega⟩
theorem lK.row{fl:Fl}{sz:Nat}{xs:List AV}{C:Array Value}{t:TypeId}{f:Nat × Nat}{cap:Nat}(ht:fl.te=t)(h:dj W0 F0 U m L w μ F)(hid:∀j,j<8->¬ U (id+j))
  (fN:(execOp a.eval o).run P w=.ok (.value (.slice (some ⟨w.heap.size,0,none⟩) xs.length cap)) w')
  (hB:Below w.heap.size w w') (hb:w'.heap[w.heap.size]?=some (.cells C t f)) (hf:free f C.size)
  (hs:∀x∈xs,x.cells.length=sz) (nc:∀x∈dm xs,xl fl x) (kM:xs.length<=cap) (hC:cap*sz<=C.size)
  (hr:∀j c,(dm xs)[j]?=some c->Rel w F c (C.getD j undef))
  (hK:K (.own id 0 none) (m.gB id (some (.row fl sz xs)))=some r):lK P o a w W0 F0 U id L K r:=by
 subst ht;have wI:¬ U id:=hid 0 (by omega);have hw:∀b,F b->w'.heap[b]?=w.heap[b]?:=λb hb=>hB.block b (h.dW b hb).1;have eT:w.heap.size<w'.heap.size:=by
  rcases Nat.lt_or_ge w.heap.size w'.heap.size with h|h
  ·exact h
  ·simp[Array.getElem?_eq_none h]at hb
 refine⟨.own id 0 none,_,_,_,.inl fN,hK,_,F,(dj.fresh (L':=λy u=>L y u\/(y=.own id 0 none/\u=.slice (some ⟨w.heap.size,0,none⟩) xs.length cap)) (b:=w.heap.size) (o:=0) (n:=C.size) h wI hB (aH _) eT ?_ ?_).wider ?_⟩
 ·have h1:xs.length*sz<=C.size:=cr (bf _ kM) hC;refine⟨hs,nc,.inr ⟨w.heap.size,0,C,f,by simp,hb,by omega,hf,λj c hc=>?_⟩⟩;rw[bO];exact(hr j c hc).mono (λ_ hb=>hb) hw
 ·rintro y v (hy|⟨rfl,rfl⟩)
  ·exact .inl hy
  ·refine .inr ⟨λ_=>rfl,.inr rfl,λiA jL oN hx=>?_⟩;rw[Mem.dQ]at hx;cases hx;exact⟨some ⟨w.heap.size,0,none⟩,cap,by simp[lenOf],by simpa[lenOf]using kM,by simp[lenOf],.inr ⟨w.heap.size,0,C.size,⟨w.heap.size,0,none⟩,by simp,rfl,rfl,.inr ⟨by simp,by simpa using hC⟩⟩⟩
 ·rintro i (hi|rfl)
  ·exact .inl hi
  ·exact .inr ⟨aH _,by omega⟩
theorem pT{x:AV}{v:Value}(h:fg w F μ m U x v)(fF:x.cells.all AV.pG=true) :
  v.cells.size=x.cells.length/\(∀j c,x.cells[j]?=some c->fL w F μ m U c (v.cells.getD j undef))/\∀u∈v.cells.toList,one u=true:=by
 have Ag:∀(vs:Array Value) (cs:List AV),vs.size=cs.length->(∀c∈cs,c.pG=true)->(∀j c,cs[j]?=some c->fL w F μ m U c (vs.getD j undef))->∀u∈vs.toList,one u=true:=by
  intro vs cs hl hc hr u hu;obtain⟨j,hj,rfl⟩:=List.getElem_of_mem hu;have mK : j<vs.size:=by simpa using hj
  have:=hr j cs[j] (by rw[aN (by omega)]);have:=this.na (hc _ (aZ _));simpa[Array.getD,mK]using this
 have single:x.pG=true->x.cells=[x]->v.cells.size=x.cells.length/\(∀j c,x.cells[j]?=some c->fL w F μ m U c (v.cells.getD j undef))/\∀u∈v.cells.toList,one u=true:=by
  intro hx hc;have hC:=F_ h hx;have h1:=hC.na hx;have ev:v.cells=#[v]:=by cases v<;>first|rfl|simp[one]at h1
  rw[hc,ev];refine⟨rfl,?_,by simpa using h1⟩;intro j c hj;cases j with
  | zero=>simp at hj;subst hj;exact hC
  | succ j=>simp at hj
 cases x
 case agg cs=>
  obtain⟨vs,rfl,hl,hr⟩:=h;have GJ : ∀c∈cs,c.pG=true:=aA.1 fF;exact⟨hl,hr,Ag vs cs hl GJ hr⟩
 all_goals first|exact single rfl rfl|(simp[AV.cells,AV.pG]at fF)
theorem Hi(hG:et P G){t:TypeId}(ho:o.op=.alloc t)(h:dj W0 F0 U m L w μ F)(hid:∀j,j<8->¬ U (id+j))(hK:fM G o.op S m id K=some r):lK P o a w W0 F0 U id L K r:=by
 rw[ho]at hK;simp only[fM]at hK;obtain⟨ti,mr,hK⟩:=cS hK;have hT:=hG.ti t ti mr;obtain⟨z,hz,xB,_⟩:=hT.IJ w;refine .box (C:=z.cells) (t:=t) h hid ?_ ?_ ?_ hK
 ·simp[execOp,ho,Instr.alloc,hz,newVar,newRow]
 ·simp[TI.tv,<-xB]
 ·intro j c hc;simp only[TI.tv,aP,aD]at hc;obtain⟨y,hy,rfl⟩:=hc;rw[<-xB]at hy;have hj:j<z.cells.size:=by simpa using(aE.1 hy).1
  have e:z.cells.getD j undef=y:=by
   have:=(aE.1 hy).2;simpa[Array.getD,hj]using this
  rw[e];have ho:one y=true:=aA.1 hT.Ag y (by rw[<-xB];exact aT hy);exact⟨λ_=>ho,.v y ho⟩
theorem MR{t:TypeId}{x:Operand}(ho:o.op=.box t x)(h:dj W0 F0 U m L w μ F)(hE:Env G S a L)(hid:∀j,j<8->¬ U (id+j))(hK:fM G o.op S m id K=some r) :
  lK P o a w W0 F0 U id L K r:=by
 rw[ho]at hK;simp only[fM]at hK;obtain⟨ti,mr,hK⟩:=cS hK;obtain⟨hc,hK⟩:=c_ hK;rw[ae]at hc;obtain⟨h1,h2,_⟩:=pT (hE.rel h x) hc.2;exact .box (C:=(a.eval x).cells) (t:=t) h hid (by simp[execOp,ho,Instr.box,newVar,newRow]) (by omega) h2 hK
theorem sb(hG:et P G){t:TypeId}{x:Operand}(ho:o.op=.makeInterface t x)(h:dj W0 F0 U m L w μ F)(hE:Env G S a L)(hK:fM G o.op S m id K=some r) :
  lK P o a w W0 F0 U id L K r:=by
 rw[ho]at hK;simp only[fM]at hK;obtain⟨ti,mr,hK⟩:=cS hK;obtain⟨d,hd,hr,hk⟩:=(hG.ti t ti mr).E0 w;have go:ti.kd≠.iface->(oO (ev G S x) λy=>K (.v (.iface t y)) m)=some r->lK P o a w W0 F0 U id L K r:=by
  intro gN hK;obtain⟨y,hy,hK⟩:=vc hK;have hx:=hE.rel h x;rw[hy]at hx;refine .calc h (v:=.iface t y) ?_ hK (gK rfl)
  have:(Instr.makeInterface t (a.eval x)).run P w=.ok (.iface t y) w:=by
   rw[(eg hx).1];cases fT:ti.kd<;>rw[fT]at hk gN<;>cases d<;>first|(simp[fR]at hk;done)|exact absurd rfl gN|simp[Instr.makeInterface,hr]
  simp[execOp,ho,this]
 split at hK
 ·cases hK
 ·cases hK
 ·rename_i h1 h2;exact go (λe=>h2 e) hK
end
def lV:Array Value->Nat->List Value->Array Value
 | C,_,[]=>C
 | C,o,v::r=>lV (C.setIfInBounds o v) (o+1) r
theorem eN:∀(vs:List Value) (C:Array Value) (o:Nat),(lV C o vs).size=C.size
 | [],_,_=>rfl
 | v::r,C,o=>by rw[lV,eN r];simp
theorem il:∀(vs:List Value) (C:Array Value) (o k:Nat),(k<o\/o+vs.length<=k)->(lV C o vs).getD k undef=C.getD k undef
 | [],_,_,_,_=>rfl
 | v::r,C,o,k,h=>by
  rw[lV,il r _ _ _ (by simp at h;omega)];have:o≠k:=by simp at h;omega
  simp[aK,Array.getElem?_setIfInBounds_ne this]
theorem rh:∀(vs:List Value) (C:Array Value) (o j:Nat) (hj:j<vs.length),o+vs.length<=C.size->(lV C o vs).getD (o+j) undef=vs[j]
 | v::r,C,o,0,_,hC=>by
  rw[lV,il r _ _ _ (by omega)];have:o<C.size:=by simp at hC;omega
  simp[aK,this]
 | v::r,C,o,j+1,hj,hC=>by
  have:=rh r (C.setIfInBounds o v) (o+1) j (by simpa using hj) (by simp at hC ⊢;omega);rw[lV,show o+(j+1)=o+1+j by omega,this];simp
theorem iX(b:Nat):∀(vs:List Value) (o:Nat) (w:World) (C:Array Value) (t:TypeId) (f:Nat × Nat),w.heap[b]?=some (.cells C t f)->
  (w.setCells b o vs).heap[b]?=some (.cells (lV C o vs) t f)
 | [],_,_,_,_,_,h=>h
 | v::r,o,w,C,t,f,h=>by
  rw[World.setCells,lV];exact iX b r (o+1) _ _ t f (by simp[World.setCell,Array.getElem?_modify,h])
theorem fH(b:Nat):∀(vs:List Value) (o:Nat) (w:World) (k:Nat),k≠b->(w.setCells b o vs).heap[k]?=w.heap[k]?
 | [],_,_,_,_=>rfl
 | v::r,o,w,k,h=>by
  rw[World.setCells,fH b r (o+1) _ k h];exact Below.heap_setCell w ⟨b,o,none⟩ v k h
theorem oT(b:Nat):∀(vs:List Value) (o:Nat) (w:World) {B:Nat} {W:World},Below B W w->B<=b->Below B W (w.setCells b o vs)
 | [],_,_,_,_,h,_=>h
 | v::r,o,w,B,W,h,hb=>by
  rw[World.setCells];exact oT b r (o+1) _ (h.setCell (p:=⟨b,o,none⟩) hb v) hb
theorem jl(b:Nat)(vs:List Value)(o:Nat)(w:World){B:fh}(h:kt B w)(hb:¬ B.N b):kt B (w.setCells b o vs):=by
 have h1:=oT b vs o w (Below.refl 0 w) (cB _);exact⟨h1.os.trans h.os,h1.tape.trans h.tape,h1.output.trans h.output,cr h.size h1.size,λk hk=>(fH b vs o w k (λe=>hb (e ▸ hk))).trans (h.block k hk)⟩
theorem setCells_size(b:Nat):∀(vs:List Value) (o:Nat) (w:World),(w.setCells b o vs).heap.size=w.heap.size
 | [],_,_=>rfl
 | v::r,o,w=>by rw[World.setCells,setCells_size b r];simp
theorem lq(v:Value):v.oneCell'=one v:=by cases v<;>rfl
section
variable {R:Type} {P:Program} {G:fv} {o:Oper} {a:Act} {w w' : World} {W0:fh} {F0 U F:Nat->Prop} {id:Nat} {L:AV->Value->Prop} {K:AV->Mem->Option R} {r:R} {m:Mem} {μ:Mu} {S:List AV}
theorem Br{id:Nat}{x x' : sv}(hm:m id=some x)(hs:eO (some x) (some x')):∀i,U i->eO (m i) (m.gB id (some x') i)/\(m.gB id (some x') i≠none->μ i=μ i):=by
 intro i _;refine⟨?_,λ_=>rfl⟩;by_cases e:i=id
 ·subst e;rw[Mem.dQ,hm];exact hs
 ·rw[Mem.dy _ _ e];exact .refl _
theorem dj.store(h:dj W0 F0 U m L w μ F){id:Nat}{x x' : sv}{b o n:Nat}(hm:m id=some x)(fG:μ id=some (b,o,n))(hs:eO (some x) (some x'))
  (hB:kt W0 w') (lv:w'.heap.size=w.heap.size) (ho:∀k,k≠b->w'.heap[k]?=w.heap[k]?)
  (hx:Holds w' F μ (m.gB id (some x')) U id x'):dj W0 F0 U (m.gB id (some x')) L w' μ F:=by
 have fX:=h.own id x b o n hm fG;have hw:∀k,F k->w'.heap[k]?=w.heap[k]?:=λk hk=>ho k (λe=>fX.2.2 (e ▸ hk));have sT:=Br (U:=U) (μ:=μ) hm hs;have u3:∀i y,m.gB id (some x') i=some y->∃y',m i=some y':=by
  intro i y hy;by_cases e:i=id
  ·exact⟨x,e ▸ hm⟩
  ·rw[Mem.dy _ _ e]at hy;exact⟨y,hy⟩
 refine{ below:=hB,dW:=λb hb=>by rw[lv];exact h.dW b hb,sub:=h.sub,gl:=h.gl,used:=?_,lQ:=?_,own:=?_,inj:=?_,dT:=?_ }
 ·intro i y hy;obtain⟨y',pg⟩:=u3 i y hy;exact h.used i y' pg
 ·intro i y hy;by_cases e:i=id
  ·subst e;rw[Mem.dQ]at hy;cases hy;exact hx
  ·have RP:=hy;rw[Mem.dy _ _ e]at RP;refine(h.lQ i y RP).mono (λ_ hb=>hb) hw (λ_ hi=>hi) sT rfl (λb' o' n' jP=>ho b' (λe'=>?_));subst e';exact e (h.inj i id y x b' o' n' o n RP hm jP fG)
 ·intro i y b' o' n' hy jP;obtain⟨y',pg⟩:=u3 i y hy;rw[lv];exact h.own i y' b' o' n' pg jP
 ·intro i i' y y' b' o' n' Gn RD hy pg hb jP;obtain⟨z,hz⟩:=u3 i y hy;obtain⟨z',Dc⟩:=u3 i' y' pg;exact h.inj i i' z z' b' o' n' Gn RD hz Dc hb jP
 ·intro y v hy;exact(h.dT y v hy).mono (λ_ hb=>hb) hw (λ_ hi=>hi) sT
theorem Hj{k:SK}{x:AV}{K:AV->Option R}(h:wY k x K=some r):∃x',K x'=some r/\∀w F v,Rel w F x v->Rel w F x' v:=by
 cases k with
 | int k=>obtain⟨n,rfl,h'⟩:=iI h;exact⟨_,h',λ_ _ _ h=>h⟩
 | bool=>obtain⟨n,rfl,h'⟩:=lf h;exact⟨_,h',λ_ _ _ h=>h⟩
 | str=>obtain⟨n,rfl,h'⟩:=iH h;exact⟨_,h',λ_ _ _ h=>h⟩
 | slice fl sz=>
  simp only[wY]at h;unfold gU at h;split at h
  ·exact⟨_,h,λw F v hv=>by cases hv;exact .xt _ _⟩
  ·rename_i iA jL xs;obtain⟨h1,h⟩:=c_ h;rw[ae]at h1;have e1:iA=fl:=by simpa using h1.1
   have e2:jL=sz:=aw h1.2;subst e1;subst e2;exact⟨_,h,λ_ _ _ h=>h⟩
  ·cases h
 | any=>exact⟨x,h,λ_ _ _ h=>h⟩
theorem y_:∀(ks:List SK) (cs:List AV) (K:List AV->Option R),xK ks cs K=some r->
  ∃kN : List AV,K kN=some r/\kN.length=ks.length/\ks.length<=cs.length/\∀(j:Nat) (c' : AV),kN[j]?=some c'->∃c:AV,cs[j]?=some c/\∀w F v,Rel w F c v->Rel w F c' v
 | [],cs,K,h=>⟨[],h,rfl,cB _,λj c' hc=>by simp at hc⟩
 | k::ks,cs,K,h=>by
  cases cs with
  | nil=>simp[xK,cN]at h
  | cons c cs=>
   simp only[xK,cN]at h;obtain⟨x',h,hx⟩:=Hj h;obtain⟨kN,h,h1,h2,h3⟩:=y_ ks cs _ h;refine⟨x'::kN,h,by simp[h1],by simpa using h2,λj c' hc=>?_⟩;cases j with
   | zero=>simp at hc;subst hc;exact⟨c,rfl,hx⟩
   | succ j=>exact h3 j c' (by simpa using hc)
theorem xa{t:TI}{cs:List AV}{K:AV->Option R}(h:HX t cs K=some r):(t.isAgg=true/\K (.agg cs)=some r)\/(t.isAgg=false/\∃c,cs=[c]/\K c=some r):=by
 unfold HX at h;cases ht:t.isAgg with
 | true=>rw[ht]at h;exact .inl ⟨rfl,h⟩
 | false=>
  rw[ht]at h;simp only[cond_false]at h;split at h
  ·exact .inr ⟨rfl,_,rfl,h⟩
  ·cases h
theorem tF{t:TypeId}{ti:TI}(hT:pv P t ti)(ad:Addr)(vs:List Value)(hl:vs.length=ti.size)(hc:∀j v,vs[j]?=some v->w.cell? (ad.add j)=some v) :
  (ti.isAgg=true->(loadVar t ad).run P w=.ok (.agg vs.toArray) w)/\(ti.isAgg=false->∀v,vs=[v]->(loadVar t ad).run P w=.ok v w):=by
 constructor
 ·intro ha;have:=run_loadCells_list (P:=P) w ad vs hc;simp only[loadVar,cv,hT.pA w,cg,ha,ck,hT.kD w];rw[hl]at this;simp[this]
 ·intro ha v hv;subst hv;have:=hc 0 v rfl;simp only[Addr.add,ck]at this;simp[loadVar,hT.pA w,ha,this]
theorem kh(off:Nat)(xs:List AV):kO off xs=xs.drop off:=by cases off<;>rfl
theorem eJ(sz:Nat):∀(xs:List AV),(∀x∈xs,x.cells.length=sz)->(dm xs).length=xs.length*sz/\
  ∀i,i<xs.length->∀j,j<sz->(dm xs)[i*sz+j]?=((xs.getD i .undef).cells)[j]?
 | [],_=>⟨by simp[dm],λi hi=>by simp at hi⟩
 | x::xs,h=>by
  obtain⟨h1,h2⟩:=eJ sz xs (λy hy=>h y (by simp[hy]));have hx:=h x (by simp);have hf:dm (x::xs)=x.cells++dm xs:=by simp[dm]
  refine⟨by rw[hf,ai,h1,hx,az,cn];omega,λi hi j hj=>?_⟩;cases i with
  | zero=>rw[hf,Nat.zero_mul,bO,aO (by omega)];rfl
  | succ i=>
   rw[hf,aR (by rw[hx,cn];omega),hx,show(i+1)*sz+j - sz=i*sz+j by rw[cn];omega];exact h2 i (by simpa using hi) j hj
theorem jS(b o j:Nat):(⟨b,o,none⟩:Addr).add j=⟨b,o+j,none⟩:=by unfold Addr.add;split<;>simp_all
theorem kI(ad:Addr)(i j:Nat):(ad.add i).add j=ad.add (i+j):=by
 unfold Addr.add;by_cases hi:i=0
 ·subst hi;simp
 ·by_cases hj:j=0
  ·subst hj;simp
  ·simp[hi,hj,Nat.add_assoc]
theorem cell_of{b k:Nat}{C:Array Value}{t:TypeId}{f:Nat × Nat}(h:w.heap[b]?=some (.cells C t f))(hk:k<C.size):w.cell? ⟨b,k,none⟩=some (C.getD k undef):=by
 simp[World.cell?,h,Array.getD,hk]
theorem Kz(hG:et P G){t:TypeId}{x:Operand}(ho:o.op=.load t x)(h:dj W0 F0 U m L w μ F)(hE:Env G S a L)(hK:fM G o.op S m id K=some r):lK P o a w W0 F0 U id L K r:=by
 rw[ho]at hK;simp only[fM]at hK;obtain⟨ti,mr,hK⟩:=cS hK;have hT:=hG.ti t ti mr;have hx:=hE.rel h x
 -- Oi is read,cell by cell
 have fin:∀(ad:Addr) (cs:List AV) (u:Nat->Value),a.eval x=.pointer (some ad)->cs.length=ti.size->(∀j,j<cs.length->w.cell? (ad.add j)=some (u j))->
   (∀j c,cs[j]?=some c->fL w F μ m U c (u j))->(HX ti cs λx=>K x m)=some r->lK P o a w W0 F0 U id L K r:=by
  intro ad cs u hv hl hc hr hK;have Sc:((List.range ti.size).map u).length=ti.size:=by simp
  obtain⟨r1,r2⟩:=tF (w:=w) hT ad ((List.range ti.size).map u) Sc (λj v hj=>by
   simp only[aP,aD]at hj;obtain⟨k,hk,rfl⟩:=hj;obtain⟨wH,rfl⟩:=aE.1 hk;simp at wH ⊢;exact hc _ (by omega))
  rcases xa hK with⟨ha,jr⟩|⟨ha,c,rfl,jr⟩
  ·refine .calc h (v:=.agg ((List.range ti.size).map u).toArray) (by simp[execOp,ho,hv,Instr.loadAt,Instr.sureAddr,r1 ha]) jr ⟨_,rfl,by simp[hl],λj c hj=>?_⟩
   have mK : j<ti.size:=by rw[<-hl];exact(aE.1 hj).1
   have e:((List.range ti.size).map u).toArray.getD j undef=u j:=by simp[Array.getD,mK]
   rw[e];exact hr j c hj
  ·have h1:ti.size=1:=hT.Ot ha;refine .calc h (v:=u 0) ?_ jr (ej (ef (hr 0 c rfl)))
   have:=r2 ha (u 0) (by rw[h1];rfl);simp[execOp,ho,hv,Instr.loadAt,Instr.sureAddr,this]
 have dW:∀(ad:Addr) (cs:List AV) (u:Nat->Value),a.eval x=.pointer (some ad)->(∀j,j<cs.length->w.cell? (ad.add j)=some (u j))->
   (∀j c,cs[j]?=some c->Rel w F c (u j))->(xK ti.A2 cs λcs=>HX ti cs λx=>K x m)=some r->lK P o a w W0 F0 U id L K r:=by
  intro ad cs u hv hc hr hK;obtain⟨kN,hK,h1,h2,h3⟩:=y_ _ _ _ hK;refine fin ad kN u hv (by rw[h1,hT.Ra]) (λj hj=>hc j (by omega)) (λj c' hj=>?_) hK;obtain⟨c,Eh,nb⟩:=h3 j c' hj;exact fm (nb _ _ _ (hr j c Eh))
 generalize hX:ev G S x=X at hK hx;split at hK
 ·rename_i j off;obtain⟨bl,hj,hK⟩:=cS hK;cases bl with
  | row _ _ _=>cases hK
  | box tb cs=>
   simp only at hK;obtain⟨hle,hK⟩:=c_ hK;have hle:off+ti.size<=cs.length:=aG hle;obtain⟨_,hu,hp⟩:=hx;obtain⟨b,n,fG,hv⟩:=hp tb cs hj;obtain⟨b',C,f,eh,hh,Ck,ni,hr⟩:=h.lQ j _ hj;rw[fG]at eh;simp only[bh,bI]at eh;obtain⟨rfl,_,rfl⟩:=eh;rw[kh]at hK;refine fin ⟨b,off,none⟩ ((cs.drop off).take ti.size) (λj=>C.getD (off+j) undef) hv (by simp;omega) (λj hj=>?_) (λj c hj=>?_) hK
   ·rw[jS];exact cell_of hh (by simp at hj;omega)
   ·have GM:j<ti.size:=by have:=(aE.1 hj).1;simp at this;omega
    rw[bU GM,bm]at hj;exact hr _ c hj
 ·rename_i j i off;obtain⟨bl,hj,hK⟩:=cS hK;cases bl with
  | box _ _=>cases hK
  | row fl sz xs=>
   simp only at hK;obtain⟨hle,hK⟩:=c_ hK;have hle:off+ti.size<=sz:=aG hle;obtain⟨_,hu,hp⟩:=hx;obtain⟨hi,b,o',n,fG,hv⟩:=hp fl sz xs hj;obtain⟨hs,nc,iR⟩:=h.lQ j _ hj;rcases iR with⟨rfl,_⟩|⟨b',Gn,C,f,eh,hh,Ck,ni,hr⟩
   ·simp at hi
   rw[fG]at eh;simp only[bh,bI]at eh;obtain⟨rfl,rfl,rfl⟩:=eh;rw[kh]at hK;obtain⟨aal,Wv⟩:=eJ sz xs hs;have hlen:((xs.getD i .undef).cells).length=sz:=by
    have:xs.getD i .undef=xs[i]:=by simp[List.getD,hi]
    rw[this];exact hs _ (aZ _)
   refine dW ⟨b,o'+i*sz+off,none⟩ ((xs.getD i .undef).cells.drop off) (λj=>C.getD (o'+(i*sz+(off+j))) undef) hv (λj hj=>?_) (λj c hj=>?_) hK
   ·rw[jS];have GM:off+j<sz:=by rw[aQ,hlen]at hj;omega
    have Wn:(i+1)*sz<=xs.length*sz:=bf _ hi;rw[cn]at Wn;rw[show o'+i*sz+off+j=o'+(i*sz+(off+j)) by omega];exact cell_of hh (by omega)
   ·rw[bm]at hj;have GM:off+j<sz:=by have:=(aE.1 hj).1;omega
    rw[<-Wv i hi _ GM]at hj;exact hr _ c hj
 ·rename_i cs;obtain⟨_,hx⟩:=hx;generalize Cq:a.eval x=av at hx;cases hx with|rd cs ad u _ hc hr=>exact dW ad cs u Cq hc hr hK
 ·cases hK
end
def eS(μ:Mu)(m:Mem)(I:List Nat)(b:Nat):Prop:=∃id∈I,m id≠none/\∃o n,μ id=some (b,o,n)
section
variable {R:Type} {P:Program} {G:fv} {o:Oper} {a:Act} {w w' : World} {W0:fh} {F0 U F:Nat->Prop} {id:Nat} {L:AV->Value->Prop} {K:AV->Mem->Option R} {r:R} {m:Mem} {μ:Mu} {S:List AV}
theorem iV(ids:List Nat):∀(m:Mem) (i:Nat),nA m ids i=if i∈ids then none else m i:=by
 induction ids with
 | nil=>intro m i;simp[nA]
 | cons j ids ih=>
  intro m i;show nA (m.gB j none) ids i=_;rw[ih];by_cases h:i∈ids
  ·simp[h]
  ·by_cases e:i=j
   ·subst e;simp[h,Mem.dQ]
   ·simp[h,e,Mem.dy _ _ e]
theorem dj.freeze(h:dj W0 F0 U m L w μ F)(ids:List Nat):dj W0 F0 U (nA m ids) L w μ (λb=>F b\/eS μ m ids b):=by
 have sT:∀i,U i->eO (m i) (nA m ids i)/\(nA m ids i≠none->μ i=μ i):=by
  intro i _;refine⟨?_,λ_=>rfl⟩;rw[iV];split
  ·cases m i with | none=>trivial | some y=>cases y<;>trivial
  ·exact .refl _
 have u3:∀i y,nA m ids i=some y->m i=some y/\i ∉ ids:=by
  intro i y hy;rw[iV]at hy;split at hy
  ·cases hy
  ·rename_i hn;exact⟨hy,hn⟩
 have hF:∀b,F b->F b\/eS μ m ids b:=λb hb=>.inl hb;refine{ below:=h.below,dW:=?_,sub:=λb hb=>.inl (h.sub b hb),gl:=λb hb=>.inl (h.gl b hb),used:=λi y hy=>h.used i y (u3 i y hy).1,lQ:=?_,own:=?_,inj:=?_,dT:=?_ }
 ·rintro b (hb|⟨i,_,hn,o,n,hb⟩)
  ·exact h.dW b hb
  ·cases sU:m i with
   | none=>exact absurd sU hn
   | some y=>have:=h.own i y b o n sU hb;exact⟨this.2.1,.inr this.1⟩
 ·intro i y hy;exact(h.lQ i y (u3 i y hy).1).mono hF (λ_ _=>rfl) (λ_ hi=>hi) sT rfl (λ_ _ _ _=>rfl)
 ·intro i y b o n hy hb;obtain⟨h1,h2⟩:=u3 i y hy;have:=h.own i y b o n h1 hb;refine⟨this.1,this.2.1,?_⟩;rintro(hF|⟨j,hj,hn,o',n',jP⟩)
  ·exact this.2.2 hF
  ·cases Yy:m j with
   | none=>exact hn Yy
   | some z=>exact h2 (h.inj i j y z b o n o' n' h1 Yy hb jP ▸ hj)
 ·intro i i' y y' b o n o' n' hy pg hb jP;exact h.inj i i' y y' b o n o' n' (u3 i y hy).1 (u3 i' y' pg).1 hb jP
 ·intro y v hy;exact(h.dT y v hy).mono hF (λ_ _=>rfl) (λ_ hi=>hi) sT
theorem gW(sz:Nat):∀(n:Nat) (xs:List AV),(∀x∈xs,x.cells.length=sz)->dm (xs.drop n)=(dm xs).drop (n*sz)
 | 0,xs,_=>by simp
 | n+1,[],_=>by simp[dm]
 | n+1,x::xs,h=>by
  have hf:dm (x::xs)=x.cells++dm xs:=by simp[dm]
  rw[ca,gW sz n xs (λy hy=>h y (by simp[hy])),hf,cn,Nat.add_comm,<-cu,List.drop_append_of_le_length (by rw[h x (by simp)];omega)];have:x.cells.drop sz=[]:=List.drop_eq_nil_of_le (by rw[h x (by simp)];omega);rw[this];rfl
theorem fZ(sz:Nat)(n:Nat)(xs:List AV)(j:Nat)(c:AV)(h:(dm (xs.take n))[j]?=some c):(dm xs)[j]?=some c:=by
 have:dm xs=dm (xs.take n)++dm (xs.drop n):=by simp[dm,<-List.flatMap_append]
 rw[this,aO (aE.1 h).1];exact h
theorem nt(off:Nat)(l:Option Nat)(xs:List AV):rowOf off l xs=(xs.drop off).take (lenOf xs.length off l):=by
 cases l with
 | none=>
  simp only[lenOf,rowOf,kh];rw[cl (by simp)]
 | some n=>rfl
theorem FU{uo off:Nat}{l:Option Nat}{v:Value}{fl:Fl}{sz:Nat}{xs:List AV}(st:Bool)(h:dj W0 F0 U m L w μ F)(hx:jG w F μ m U (.own uo off l) v)(hm:m uo=some (.row fl sz xs))(I:List Nat)(hI:uo∈I) :
  Rel w (λb=>F b\/eS μ m I b) (.sl ⟨fl.b,fl.te,st⟩ sz (rowOf off l xs)) v:=by
 obtain⟨_,hu,hx⟩:=hx;obtain⟨ad,cap,rfl,kM,hlen,hp⟩:=hx fl sz xs hm;obtain⟨hs,nc,iR⟩:=h.lQ uo _ hm;have sS:=nt off l xs;rw[sS];generalize hn:lenOf xs.length off l=n at *;have hl:((xs.drop off).take n).length=n:=by simp;omega
 have tU : ∀x∈(xs.drop off).take n,x.cells.length=sz:=λx hx=>hs x (bg (aX hx));have xE : ∀x∈dm ((xs.drop off).take n),xl ⟨fl.b,fl.te,st⟩ x:=by
  intro x hx;simp only[dm,aY]at hx;obtain⟨y,hy,hx⟩:=hx;exact nc x (by simp only[dm,aY];exact⟨y,bg (aX hy),hx⟩)
 rcases hp with⟨rfl,rfl⟩|⟨b,o,nn,ad,fG,rfl,hb,eI⟩
 ·have:n=0:=by omega
  subst this;simp only[List.take_zero];exact .xt _ sz
 ·have hF:F ad.block\/eS μ m I ad.block:=.inr ⟨uo,hI,by simp[hm],o,nn,by rw[fG,hb]⟩;by_cases h0:n=0
  ·subst h0;have:=Rel.sl (w:=w) (F:=λb=>F b\/eS μ m I b) ⟨fl.b,fl.te,st⟩ sz [] ad cap (λ_=>undef) (λ_=>hF) (by simp) (by simp) (by simp[dm]) (by simp[dm]) (by simp[dm]) (λ_ h=>absurd rfl h);simpa using this
  ·rcases eI with rfl|⟨rfl,Ei⟩
   ·omega
   ·rcases iR with⟨rfl,eh⟩|⟨b',o',C,f,eh,hh,hC,ni,hr⟩
    ·rw[fG]at eh;cases eh
    ·rw[fG]at eh;simp only[bh,bI]at eh;obtain⟨rfl,rfl,rfl⟩:=eh;have key:=Rel.sl (w:=w) (F:=λb=>F b\/eS μ m I b) ⟨fl.b,fl.te,st⟩ sz ((xs.drop off).take n) ⟨b,o+off*sz,none⟩ cap (λj=>C.getD (o+(off*sz+j)) undef) (λ_=>hF) (by rw[hl];exact kM) tU xE ?_ ?_ (λ_ _=>rfl)
     ·rw[hl]at key;exact key
     ·intro j hj;rw[(eJ sz _ tU).1,hl]at hj;rw[jS];have h1:(off+n)*sz<=xs.length*sz:=bf _ hlen;rw[bK]at h1;rw[show o+off*sz+j=o+(off*sz+j) by omega];exact cell_of hh (by omega)
     ·intro j c hj;have hj:=fZ sz n _ j c hj;rw[gW sz off xs hs,bm]at hj;exact(hr _ c hj).mono (λb hb=>.inl hb) (λ_ _=>rfl)
theorem C4{uo off:Nat}{l:Option Nat}{v:Value}{fl:Fl}{sz:Nat}{xs:List AV}(h:dj W0 F0 U m L w μ F)(hx:jG w F μ m U (.own uo off l) v)(hm:m uo=some (.row fl sz xs))(I:List Nat)(hI:uo∈I) :
 Rel w (λb=>F b\/eS μ m I b) (.sl fl sz (rowOf off l xs)) v:=FU fl.st h hx hm I hI
theorem ri{x y:AV}{v:Value}(h:dj W0 F0 U m L w μ F)(hx:fL w F μ m U x v)(hv:nl m x=some y)(I:List Nat)(hI:∀i∈lG x,i∈I) :
  Rel w (λb=>F b\/eS μ m I b) y v:=by
 have flat:jG w F μ m U x v->(∀id off l,x≠.own id off l)->(∀id off,x≠.ptr id off)->(∀id i off,x≠.s_ id i off)->(∀fl sz xs,x≠.fr fl sz xs)->(∀id,x≠.bs id)->Rel w F x v:=by
  intro hx h1 h2 h3 h4 h5;obtain⟨_,hx⟩:=hx;cases x<;>first|exact hx|exact absurd rfl (h1 _ _ _)|exact absurd rfl (h2 _ _)|exact absurd rfl (h3 _ _ _)|exact absurd rfl (h4 _ _ _)|exact absurd rfl (h5 _)
 cases x with
 | own uo off l=>
  simp only[nl,jF]at hv;split at hv
  ·rename_i fl sz xs hm;cases hv;exact C4 h hx hm I (hI uo (by simp[lG]))
  ·cases hv
 | ptr _ _=>cases hv
 | s_ _ _ _=>cases hv
 | fr _ _ _=>cases hv
 | undef=>cases hv
 | bs _=>cases hv
 | fn _ _=>cases hv
 | eC _=>cases hv
 | agg _=>cases hv
 | _=>
  simp only[nl]at hv;cases hv;exact(flat hx (by intros;simp) (by intros;simp) (by intros;simp) (by intros;simp) (by intros;simp)).mono (λb hb=>.inl hb) (λ_ _=>rfl)
theorem rj(h:dj W0 F0 U m L w μ F)(I:List Nat):∀(cs ys:List AV) (u:Nat->Value),pX m cs=some ys->(∀j c,cs[j]?=some c->fL w F μ m U c (u j))->(∀i∈cs.flatMap lG,i∈I)->
  ys.length=cs.length/\∀j c,ys[j]?=some c->Rel w (λb=>F b\/eS μ m I b) c (u j)
 | [],ys,u,hv,_,_=>by simp[pX]at hv;subst hv;exact⟨rfl,λj c hc=>by simp at hc⟩
 | x::r,ys,u,hv,hr,hI=>by
  simp only[pX]at hv;split at hv
  ·rename_i y s hy hs;cases hv;obtain⟨h1,h2⟩:=rj h I r s (λj=>u (j+1)) hs (λj c hc=>hr (j+1) c (by simpa using hc)) (λi hi=>hI i (by simp at hi ⊢;exact .inr hi));refine⟨by simp[h1],λj c hc=>?_⟩;cases j with
   | zero=>simp at hc;subst hc;exact ri h (hr 0 x rfl) hy I (λi hi=>hI i (by simp;exact .inl hi))
   | succ j=>exact h2 j c (by simpa using hc)
  ·cases hv
end
section
variable {R:Type} {P:Program} {G:fv} {o:Oper} {a:Act} {w w' : World} {W0:fh} {F0 U F:Nat->Prop} {id:Nat} {L:AV->Value->Prop} {K:AV->Mem->Option R} {r:R} {m:Mem} {μ:Mu} {S:List AV}
theorem Bg{x y:AV}{v:Value}(h:dj W0 F0 U m L w μ F)(hx:fL w F μ m U x v)(hv:vk m x=some y)(I:List Nat)(hI:∀i∈wD m x,i∈I) :
  Rel w (λb=>F b\/eS μ m I b) y v:=by
 cases x with
 | ptr uo off=>
  simp only[vk]at hv;split at hv
  ·rename_i tb cs hm;rw[aD]at hv;obtain⟨ys,sS,rfl⟩:=hv;obtain⟨_,hu,hx⟩:=hx;obtain⟨b,n,fG,rfl⟩:=hx tb cs hm;obtain⟨b',C,f,eh,hh,hl,hf,hr⟩:=h.lQ uo _ hm;rw[fG]at eh;simp only[bh,bI]at eh;obtain⟨rfl,_,rfl⟩:=eh;obtain⟨h1,h2⟩:=rj h I (cs.drop off) ys (λj=>C.getD (off+j) undef) sS (λj c hc=>by rw[bm]at hc;exact hr _ c hc)
    (λi hi=>hI i (by
     simp only[wD,hm,cj];simp only[aY]at hi ⊢;obtain⟨c,hc,hi⟩:=hi;exact .inr ⟨c,bg hc,hi⟩))
   refine .rd ys ⟨b,off,none⟩ (λj=>C.getD (off+j) undef) (.inr ⟨uo,hI uo (by simp[wD]),by simp[hm],0,C.size,fG⟩) (λj hj=>?_) h2;rw[jS];rw[h1,aQ]at hj;exact cell_of hh (by omega)
  ·cases hv
 | _=>exact ri h hx hv I (λi hi=>hI i (by simpa[wD]using hi))
theorem xW(h:dj W0 F0 U m L w μ F)(I:List Nat):∀(cs ys:List AV) (u:Nat->Value),tz m cs=some ys->(∀j c,cs[j]?=some c->fL w F μ m U c (u j))->(∀i∈cs.flatMap (wD m),i∈I)->
  ys.length=cs.length/\∀j c,ys[j]?=some c->Rel w (λb=>F b\/eS μ m I b) c (u j)
 | [],ys,u,hv,_,_=>by simp[tz]at hv;subst hv;exact⟨rfl,λj c hc=>by simp at hc⟩
 | x::r,ys,u,hv,hr,hI=>by
  simp only[tz]at hv;split at hv
  ·rename_i y s hy hs;cases hv;obtain⟨h1,h2⟩:=xW h I r s (λj=>u (j+1)) hs (λj c hc=>hr (j+1) c (by simpa using hc)) (λi hi=>hI i (by simp at hi ⊢;exact .inr hi));refine⟨by simp[h1],λj c hc=>?_⟩;cases j with
   | zero=>simp at hc;subst hc;exact Bg h (hr 0 x rfl) hy I (λi hi=>hI i (by simp;exact .inl hi))
   | succ j=>exact h2 j c (by simpa using hc)
  ·cases hv
theorem ga{x:AV}{v:Value}(h:jG w F μ m U x v):fL w F μ m U x v:=by
 cases x
 case fn f cs=>obtain⟨_,h⟩:=h;exact fm h
 all_goals exact h
theorem rl{x y:AV}{v:Value}(h:dj W0 F0 U m L w μ F)(hx:fg w F μ m U x v)(hv:fc m x=some y)(I:List Nat)(hI:∀i∈jn m x,i∈I) :
  Rel w (λb=>F b\/eS μ m I b) y v:=by
 cases x with
 | agg cs=>
  simp only[fc,aD]at hv;obtain⟨ys,sS,rfl⟩:=hv;obtain⟨vs,rfl,hl,hr⟩:=hx;obtain⟨h1,h2⟩:=rj h I cs ys (λj=>vs.getD j undef) sS hr (λi hi=>hI i hi);exact .agg ys vs (by rw[h1,hl]) h2
 | fn f cs=>
  simp only[fc,aD]at hv;obtain⟨ys,sS,rfl⟩:=hv;obtain⟨vs,Fy,hl,hr⟩:=hx;obtain⟨h1,h2⟩:=xW h I cs ys (λj=>vs.getD j undef) sS (λj c hc=>ga (hr j c hc)) (λi hi=>hI i hi);exact .fn f ys vs v Fy (by rw[h1,hl]) h2
 | eC _=>cases hv
 | _=>simp only[fg,mH]at hx;exact Bg h hx hv I hI
theorem sB(h:dj W0 F0 U m L w μ F)(I:List Nat):∀(xs ys:List AV) (u:Nat->Value),lL m xs=some ys->(∀j c,xs[j]?=some c->fg w F μ m U c (u j))->(∀i∈xs.flatMap (jn m),i∈I)->
  ys.length=xs.length/\∀j c,ys[j]?=some c->Rel w (λb=>F b\/eS μ m I b) c (u j)
 | [],ys,u,hv,_,_=>by simp[lL]at hv;subst hv;exact⟨rfl,λj c hc=>by simp at hc⟩
 | x::r,ys,u,hv,hr,hI=>by
  simp only[lL]at hv;split at hv
  ·rename_i y s hy hs;cases hv;obtain⟨h1,h2⟩:=sB h I r s (λj=>u (j+1)) hs (λj c hc=>hr (j+1) c (by simpa using hc)) (λi hi=>hI i (by simp at hi ⊢;exact .inr hi));refine⟨by simp[h1],λj c hc=>?_⟩;cases j with
   | zero=>simp at hc;subst hc;exact rl h (hr 0 x rfl) hy I (λi hi=>hI i (by simp;exact .inl hi))
   | succ j=>exact h2 j c (by simpa using hc)
  ·cases hv
theorem yh{x:AV}{v:Value}(h:Rel w F x v)(fF:x.cells.all AV.pG=true) :
  v.cells.size=x.cells.length/\(∀j c,x.cells[j]?=some c->Rel w F c (v.cells.getD j undef))/\∀u∈v.cells.toList,one u=true:=by
 have single:x.pG=true->x.cells=[x]->v.cells.size=x.cells.length/\(∀j c,x.cells[j]?=some c->Rel w F c (v.cells.getD j undef))/\∀u∈v.cells.toList,one u=true:=by
  intro hx hc;have h1:=h.na hx;have ev:v.cells=#[v]:=by cases v<;>first|rfl|simp[one]at h1
  rw[hc,ev];refine⟨rfl,?_,by simpa using h1⟩;intro j c hj;cases j with
  | zero=>simp at hj;subst hj;exact h
  | succ j=>simp at hj
 cases x
 case agg cs=>
  cases h with | agg cs vs hl hr=>
  have GJ : ∀c∈cs,c.pG=true:=aA.1 fF;refine⟨hl,hr,λu hu=>?_⟩;obtain⟨j,hj,rfl⟩:=List.getElem_of_mem hu;have mK : j<vs.size:=by simpa[Value.cells]using hj
  have:=(hr j cs[j] (by rw[aN (by omega)])).na (GJ _ (aZ _));simpa[Array.getD,mK,Value.cells]using this
 all_goals first|exact single rfl rfl|(simp[AV.cells,AV.pG]at fF)
theorem Ij{x y:AV}{v:Value}(h:dj W0 F0 U m L w μ F)(hx:fg w F μ m U x v)(hv:nL m x=some y)(I:List Nat)(hI:∀i∈jD x,i∈I) :
  Rel w (λb=>F b\/eS μ m I b) y v:=by
 cases x with
 | agg cs=>
  simp only[nL,aD]at hv;obtain⟨ys,sS,rfl⟩:=hv;obtain⟨vs,rfl,hl,hr⟩:=hx;obtain⟨h1,h2⟩:=rj h I cs ys (λj=>vs.getD j undef) sS hr (λi hi=>hI i hi);exact .agg ys vs (by rw[h1,hl]) h2
 | eC _=>cases hv
 | _=>simp only[fg,mH]at hx;exact ri h hx hv I hI
theorem yH{x y:AV}{v:Value}{ti:TI}(h:dj W0 F0 U m L w μ F)(hx:fg w F μ m U x v)(hv:nw m ti x=some y)(I:List Nat)(hI:∀i∈jD x,i∈I) :
  Rel w (λb=>F b\/eS μ m I b) y v/\y.cells.length=ti.size/\y.cells.all AV.pG=true/\(ti.pe=true->∀c∈y.cells,c.Qr=true):=by
 unfold nw at hv;split at hv
 ·rename_i z hz;obtain⟨hc,hv⟩:=c_ hv;cases hv;rw[ae,ae]at hc;obtain⟨⟨h1,h2⟩,h3⟩:=hc;refine⟨?_,aw h1,h2,λhf=>?_⟩
  ·exact Ij h hx hz I hI
  ·rw[hf]at h3;simpa using h3
 ·cases hv
end
section
variable {R:Type} {P:Program} {G:fv} {o:Oper} {a:Act} {w w' : World} {W0:fh} {F0 U F:Nat->Prop} {id:Nat} {L:AV->Value->Prop} {K:AV->Mem->Option R} {r:R} {m:Mem} {μ:Mu} {S:List AV}
theorem DB:fg w F μ m U .undef undef:=⟨λh=>by simp[AV.pG]at h,.undef _⟩
theorem lK.unit{m' : Mem}{fC : Mu}{F' : Nat->Prop}(h:dj W0 F0 U m' L w' fC F')(hr:(execOp a.eval o).run P w=.ok .skip w')(hK:K .undef m'=some r):lK P o a w W0 F0 U id L K r:=by
 refine⟨.undef,m',undef,w',.inr ⟨hr,rfl⟩,hK,fC,F',?_⟩;have h':=h.wider (U':=U8 U id) (λi hi=>.inl hi);have hp:∀y u,(L y u\/(y=.undef/\u=undef))->fg w' F' fC m' (U8 U id) y u:=by
  rintro y u (hy|⟨rfl,rfl⟩)
  ·exact h'.dT y u hy
  ·exact DB
 exact{ h' with dT:=hp }
theorem rr{t:TypeId}{ti:TI}(hT:pv P t ti){b off:Nat}{C:Array Value}{tt:TypeId}{f:Nat × Nat}(hh:w.heap[b]?=some (.cells C tt f))(hf:free f C.size)
  (v:Value) (hl:v.cells.size=ti.size) (h1:∀u∈v.cells.toList,one u=true) (hle:off+ti.size<=C.size) :
  (storeVar t ⟨b,off,none⟩ v).run P w=.ok () (w.setCells b off v.cells.toList):=by
 have:=run_storeCells_cells (P:=P) b off v.cells.toList 0 w
  (λj hj=>by rw[cell_of hh (by simp at hj;omega)];rfl)
  (λj hj=>by
   have hj:j<v.cells.size:=by simpa using hj
   have:=hf.at (off+0+j) (by omega);simp only[World.frozen?,hh];rw[Bool.and_eq_false_iff];by_cases e:f.1<=off+0+j
   ·right;simp;exact Nat.le_of_not_lt (λh=>this ⟨e,h⟩)
   ·left;simp;omega)
  (λu hu=>by rw[lq];exact h1 u hu)
 simp only[storeVar,cv,hT.kD w,cg];rw[af (by omega),this];rfl
theorem Kp(sz i:Nat)(xs:List AV)(y:AV)(hs:∀x∈xs,x.cells.length=sz)(hy:y.cells.length=sz)(hi:i<xs.length)(h0:1<=sz) :
  (∀x∈xs.set i y,x.cells.length=sz)/\∀k c,(dm (xs.set i y))[k]?=some c->(i*sz<=k/\k<i*sz+sz/\y.cells[k - i*sz]?=some c)\/((k<i*sz\/i*sz+sz<=k)/\(dm xs)[k]?=some c):=by
 have tU : ∀x∈xs.set i y,x.cells.length=sz:=by
  intro x hx;rcases List.mem_or_eq_of_mem_set hx with hx|rfl
  ·exact hs x hx
  ·exact hy
 refine⟨tU,λk c hk=>?_⟩;obtain⟨h1,h2⟩:=eJ sz _ tU;obtain⟨h3,h4⟩:=eJ sz _ hs;have Mm:=(aE.1 hk).1;rw[h1,List.length_set]at Mm;have hq:k / sz<xs.length:=Nat.div_lt_of_lt_mul (by rw[Nat.mul_comm];exact Mm);have hr:k % sz<sz:=Nat.mod_lt _ (by omega);have sV : k / sz*sz+k % sz=k:=by rw[Nat.mul_comm];exact Nat.div_add_mod k sz
 have e:=h2 (k / sz) (by simpa using hq) (k % sz) hr;rw[sV,hk]at e;by_cases V4:k / sz=i
 ·left;rw[V4]at e sV;have:(xs.set i y).getD i .undef=y:=by simp[List.getD,hi]
  rw[this]at e;refine⟨by omega,by omega,?_⟩;rw[show k - i*sz=k % sz by omega];exact e.symm
 ·right;have:(xs.set i y).getD (k / sz) .undef=xs.getD (k / sz) .undef:=by
   simp[List.getD,List.getElem?_set_ne (Ne.symm V4)]
  rw[this,<-h4 (k / sz) hq (k % sz) hr,sV]at e;refine⟨?_,e.symm⟩;rcases Nat.lt_or_gt_of_ne V4 with eT|hgt
  ·left;have:(k / sz+1)*sz<=i*sz:=bf _ eT;rw[cn]at this;omega
  ·right;have:(i+1)*sz<=(k / sz)*sz:=bf _ hgt;rw[cn]at this;omega
theorem G_(hG:et P G){t:TypeId}{x y:Operand}(ho:o.op=.store t x y)(h:dj W0 F0 U m L w μ F)(hE:Env G S a L)(hK:fM G o.op S m id K=some r):lK P o a w W0 F0 U id L K r:=by
 rw[ho]at hK;simp only[fM]at hK;obtain⟨ti,mr,hK⟩:=cS hK;have hT:=hG.ti t ti mr;have hx:=hE.rel h x;have hy:=hE.rel h y;generalize hX:ev G S x=X at hK hx;generalize hY:ev G S y=Y at hK hy;split at hK
 ·rename_i j off;obtain⟨bl,hj,hK⟩:=cS hK;cases bl with
  | row _ _ _=>cases hK
  | box tb cs=>
   simp only at hK;obtain⟨hc,hK⟩:=c_ hK;rw[ae,ae]at hc;obtain⟨⟨hle,hlen⟩,fF⟩:=hc;have hle:off+ti.size<=cs.length:=aG hle;have hlen:Y.cells.length=ti.size:=aw hlen;obtain⟨h1,h2,h3⟩:=pT hy fF;obtain⟨_,hu,hp⟩:=hx;obtain⟨b,n,fG,hv⟩:=hp tb cs hj;obtain⟨b',C,f,eh,hh,Ck,ni,hr⟩:=h.lQ j _ hj;rw[fG]at eh;simp only[bh,bI]at eh;obtain⟨rfl,_,rfl⟩:=eh;have fX:=h.own j _ b 0 C.size hj fG;have xF:(bif Nat.beq off 0&&Nat.beq ti.size cs.length then Y.cells else cs.take off++Y.cells++cs.drop (off+ti.size))=cs.take off++Y.cells++cs.drop (off+ti.size):=by
    cases hb:(Nat.beq off 0&&Nat.beq ti.size cs.length)with
    | false=>rfl
    | true=>
     rw[ae]at hb;have e1:off=0:=aw hb.1;have e2:ti.size=cs.length:=aw hb.2;subst e1;simp[e2]
   rw[xF]at hK;have ic:(cs.take off++Y.cells++cs.drop (off+ti.size)).length=cs.length:=by simp;omega
   have Az:(a.eval y).cells.toList.length=ti.size:=by simp[h1,hlen]
   refine .unit (w':=w.setCells b off (a.eval y).cells.toList) (h.store hj fG (x':=.box tb (cs.take off++Y.cells++cs.drop (off+ti.size))) ?_ ?_ ?_ ?_ ?_) ?_ hK
   ·exact ic
   ·exact jl b _ _ _ h.below fX.1
   ·exact setCells_size b _ _ _
   ·intro k hk;exact fH b _ _ _ k hk
   ·have sT:=Br (U:=U) (μ:=μ) (x':=.box tb (cs.take off++Y.cells++cs.drop (off+ti.size))) hj ic;have hw:∀k,F k->(w.setCells b off (a.eval y).cells.toList).heap[k]?=w.heap[k]?:=λk hk=>fH b _ _ _ k (λe=>fX.2.2 (e ▸ hk));refine⟨b,lV C off (a.eval y).cells.toList,f,by rw[eN];exact fG,iX b _ _ _ _ _ _ hh,by rw[eN,ic];exact Ck,by rw[eN];exact ni,λk c hk=>?_⟩;have old:(k<off\/off+ti.size<=k)->cs[k]?=some c->fL (w.setCells b off (a.eval y).cells.toList) F μ (m.gB j (some (.box tb (cs.take off++Y.cells++cs.drop (off+ti.size))))) U c ((lV C off (a.eval y).cells.toList).getD k undef):=by
     intro hko hkc;rw[il _ _ _ _ (by rw[Az];exact hko)];exact(hr k c hkc).mono (λ_ hb=>hb) hw (λ_ hi=>hi) sT
    by_cases k1:k<off
    ·rw[bz,aO (by simp;omega),bU k1]at hk;exact old (.inl k1) hk
    ·by_cases k2:k<off+ti.size
     ·rw[bz,aR (by simp;omega),aO (by simp;omega)]at hk;have Pa:(cs.take off).length=off:=by simp;omega
      rw[Pa]at hk;have:=h2 _ _ hk;have e:(lV C off (a.eval y).cells.toList).getD k undef=(a.eval y).cells.getD (k - off) undef:=by
       have eT:k - off<(a.eval y).cells.toList.length:=by rw[Az];omega
       have:=rh (a.eval y).cells.toList C off (k - off) eT (by rw[Az];omega);rw[show off+(k - off)=k by omega]at this;rw[this];simp at eT;simp[Array.getD,eT]
      rw[e];exact this.mono (λ_ hb=>hb) hw (λ_ hi=>hi) sT
     ·rw[bz,aR (by simp;omega),aR (by simp;omega),bm]at hk;have Pa:(cs.take off).length=off:=by simp;omega
      rw[Pa,hlen,show off+ti.size+(k - off - ti.size)=k by omega]at hk;exact old (.inr (by omega)) hk
   ·have:=rr hT hh ni (a.eval y) (by rw[h1,hlen]) h3 (by omega:off+ti.size<=C.size);simp[execOp,ho,hv,Instr.storeAt,Instr.sureAddr,this]
 ·rename_i j i off;obtain⟨bl,hj,hK⟩:=cS hK;cases bl with
  | box _ _=>cases hK
  | row fl sz xs=>
   simp only at hK;obtain⟨hc,A6⟩:=c_ hK;simp only[ae]at hc;obtain⟨⟨⟨⟨c1,c2⟩,c3⟩,c4⟩,c5⟩:=hc;have c1:off=0:=aw c1;have c2:ti.size=sz:=aw c2;have c5:1<=sz:=aG c5;subst c1;obtain⟨yv,TV,hK4⟩:=cS A6;obtain⟨k1,k2,k3,k4⟩:=yH h hy TV (jD Y) (λi hi=>hi);obtain⟨h1,h2,h3⟩:=yh k1 k3;obtain⟨_,hu,hp⟩:=hx;obtain⟨hi,b,o',n,fG,hv⟩:=hp fl sz xs hj;obtain⟨hs,nc,iR⟩:=h.lQ j _ hj;rcases iR with⟨rfl,_⟩|⟨b',Gn,C,f,eh,hh,Ck,ni,hr⟩
   ·simp at hi
   rw[fG]at eh;simp only[bh,bI]at eh;obtain⟨rfl,rfl,rfl⟩:=eh;have fX:=h.own j _ b o' C.size hj fG;have hz:=h.freeze (jD Y);have YE:nA m (jD Y) j=some (.row fl sz xs):=by
    rw[iV];have:j ∉ jD Y:=by simpa using c4
    simp[this,hj]
   have R9:=hz.own j _ b o' C.size YE fG;obtain⟨T9,hfg⟩:=Kp sz i xs yv hs (by rw[k2,c2]) hi c5;have Wn:(i+1)*sz<=xs.length*sz:=bf _ hi;rw[cn]at Wn;have Az:(a.eval y).cells.toList.length=sz:=by simp[h1,k2,c2]
   refine .unit (w':=w.setCells b (o'+i*sz+0) (a.eval y).cells.toList) (hz.store YE fG (x':=.row fl sz (xs.set i yv)) ?_ ?_ ?_ ?_ ?_) ?_ hK4
   ·exact⟨rfl,by simp⟩
   ·exact jl b _ _ _ h.below fX.1
   ·exact setCells_size b _ _ _
   ·intro k hk;exact fH b _ _ _ k hk
   ·have hw:∀k,(F k\/eS μ m (jD Y) k)->(w.setCells b (o'+i*sz+0) (a.eval y).cells.toList).heap[k]?=w.heap[k]?:=λk hk=>fH b _ _ _ k (λe=>R9.2.2 (e ▸ hk));refine⟨T9,λx hx=>?_,.inr ⟨b,o',lV C (o'+i*sz+0) (a.eval y).cells.toList,f,by rw[eN];exact fG,iX b _ _ _ _ _ _ hh,by rw[eN,List.length_set];exact Ck,by rw[eN];exact ni,λk c hk=>?_⟩⟩
    ·simp only[dm,aY]at hx;obtain⟨z,hz,hx⟩:=hx;rcases List.mem_or_eq_of_mem_set hz with hz|rfl
     ·exact nc x (by simp only[dm,aY];exact⟨z,hz,hx⟩)
     ·exact⟨aA.1 k3 x hx,λhf=>by rw[hf]at c3;exact k4 (by simpa using c3) x hx⟩
    ·rcases hfg k c hk with⟨e1,e2,e3⟩|⟨e1,e2⟩
     ·have:=h2 _ _ e3;have eT:k - i*sz<(a.eval y).cells.toList.length:=by rw[Az];omega
      have e:=rh (a.eval y).cells.toList C (o'+i*sz+0) (k - i*sz) eT (by rw[Az];omega);rw[show o'+i*sz+0+(k - i*sz)=o'+k by omega]at e;rw[e];simp at eT;have e' : (a.eval y).cells.getD (k - i*sz) undef=(a.eval y).cells.toList[k - i*sz]:=by simp[Array.getD,eT]
      rw[<-e'];exact this.mono (λ_ hb=>hb) hw
     ·rw[il _ _ _ _ (by rw[Az];omega)];exact(hr k c e2).mono (λb hb=>.inl hb) (λb hb=>hw b (.inl hb))
   ·have:=rr hT hh ni (a.eval y) (by rw[h1,k2]) h3 (by omega:o'+i*sz+0+ti.size<=C.size);simp only[bE]at this;simp[execOp,ho,hv,Instr.storeAt,Instr.sureAddr,this]
 ·cases hK
end
section
variable {R:Type} {P:Program} {G:fv} {o:Oper} {a:Act} {w w' : World} {W0:fh} {F0 U F:Nat->Prop} {id:Nat} {L:AV->Value->Prop} {K:AV->Mem->Option R} {r:R} {m:Mem} {μ:Mu} {S:List AV}
theorem rn{t:TypeId}{ti:TI}(hT:pv P t ti){fs:List (TypeId × Nat)}(hk:ti.kd=.struct fs){f:Nat}{ft:TypeId}{fo:Nat}(hf:fs[f]?=some (ft,fo)) :
  ∃fields CG,P.underlying t=some (.struct fields)/\fields[f]?=some CG/\CG.type=ft/\CG.offset=fo:=by
 obtain⟨d,hd,fT⟩:=hT.uJ;rw[hk]at fT;cases d<;>simp[fR]at fT;rename_i fields;rw[<-fT,aP,aD]at hf;obtain⟨CG,h1,h2⟩:=hf;simp only[bI]at h2;exact⟨fields,CG,hd,by simpa using h1,h2.1,h2.2⟩
theorem addr_add(b o n:Nat):(⟨b,o,none⟩:Addr).add n=⟨b,o+n,none⟩:=jS b o n
theorem xJ(hG:et P G){t:TypeId}{x:Operand}{f:Nat}(ho:o.op=.fieldAddr t x f)(h:dj W0 F0 U m L w μ F)(hE:Env G S a L)(hK:fM G o.op S m id K=some r) :
  lK P o a w W0 F0 U id L K r:=by
 rw[ho]at hK;simp only[fM]at hK;obtain⟨ti,mr,hK⟩:=cS hK;have hT:=hG.ti t ti mr;have hx:=hE.rel h x;split at hK
 ·rename_i fs fT;obtain⟨⟨ft,fo⟩,hf,hK⟩:=cS hK;obtain⟨fields,CG,hu,J2,rfl,rfl⟩:=rn hT fT hf;simp only at hK;obtain⟨fi,Ww,hK⟩:=cS hK;obtain⟨h1,hK⟩:=c_ hK;have h1:1<=fi.size:=aG h1;have Sv:=hG.ti _ _ Ww;have go:∀ad,a.eval x=.pointer (some ad)->(execOp a.eval o).run P w=.ok (.value (.pointer (some (ad.add CG.offset)))) w:=by
   intro ad hv;have gN:¬ fi.size=0:=by omega
   simp[execOp,ho,hv,Instr.fieldAt,underlying,hu,J2,Instr.sureAddr,fieldPlace,Sv.kD w,gN]
  generalize hX:ev G S x=X at hK hx;split at hK
  ·rename_i j off;obtain⟨bl,hj,hK⟩:=cS hK;cases bl with
   | row _ _ _=>cases hK
   | box tb cs=>
    obtain⟨_,O_,hp⟩:=hx;obtain⟨b,n,fG,hv⟩:=hp tb cs hj;refine .calc h (go _ hv) hK ⟨λ_=>rfl,O_,λxq kN mK=>⟨b,n,fG,?_⟩⟩
    rw[addr_add,Nat.add_comm]
  ·rename_i j i off;obtain⟨bl,hj,hK⟩:=cS hK;cases bl with
   | box _ _=>cases hK
   | row fl sz xs=>
    obtain⟨_,O_,hp⟩:=hx;obtain⟨hi,b,o',n,fG,hv⟩:=hp fl sz xs hj;refine .calc h (go _ hv) hK ⟨λ_=>rfl,O_,λiA jL oN mK=>?_⟩
    rw[hj]at mK;cases mK;exact⟨hi,b,o',n,fG,by rw[addr_add,Nat.add_assoc,Nat.add_comm off]⟩
  ·rename_i cs;obtain⟨_,hx⟩:=hx;generalize Cq:a.eval x=av at hx;cases hx with|rd cs ad u hF hc hr=>
   refine .calc h (go _ Cq) hK ⟨λ_=>rfl,?_⟩
   rw[kh];refine .rd _ _ (λj=>u (CG.offset+j)) (by rw[kj];exact hF) (λj hj=>?_) (λj c hj=>?_)
   ·rw[kI];exact hc _ (by simp at hj;omega)
   ·rw[bm]at hj;exact hr _ c hj
  ·cases hK
 ·cases hK
theorem Hc(hG:et P G){t:TypeId}{x:Operand}{f:Nat}(ho:o.op=.field t x f)(h:dj W0 F0 U m L w μ F)(hE:Env G S a L)(hK:fM G o.op S m id K=some r) :
  lK P o a w W0 F0 U id L K r:=by
 rw[ho]at hK;simp only[fM]at hK;obtain⟨ti,mr,hK⟩:=cS hK;have hT:=hG.ti t ti mr;have hx:=hE.rel h x;split at hK
 ·rename_i fs fT;obtain⟨⟨ft,fo⟩,hf,hK⟩:=cS hK;obtain⟨fields,CG,hu,J2,rfl,rfl⟩:=rn hT fT hf;simp only at hK;obtain⟨fi,Ww,hK⟩:=cS hK;have Sv:=hG.ti _ _ Ww;generalize hX:ev G S x=X at hK hx;split at hK
  ·rename_i cs;obtain⟨hle,hK⟩:=c_ hK;have hle:CG.offset+fi.size<=cs.length:=aG hle;obtain⟨vs,hv,hl,hr⟩:=hx;obtain⟨z,hz,hz1,hz2⟩:=vT (w:=w) Sv vs CG.offset (by omega) Sv.Ot;have fN:(execOp a.eval o).run P w=.ok (.value z) w:=by
    simp[execOp,ho,hv,Instr.field,underlying,hu,J2,asAgg,hz]
   rw[kh]at hK;rcases xa hK with⟨ha,hK⟩|⟨ha,c,hc,hK⟩
   ·obtain⟨e1,e2⟩:=hz1 ha;refine .calc h fN hK ⟨z.cells,e1,?_,λj c hj=>?_⟩
    ·rw[<-br,e2];simp;omega
    ·have GM:j<fi.size:=by have:=(aE.1 hj).1;simp at this;omega
     rw[bU GM,bm]at hj;have e3:z.cells.getD j undef=vs.getD (CG.offset+j) undef:=by
      have:z.cells.toList[j]?=vs.toList[CG.offset+j]?:=by rw[e2,bU GM,bm]
      simp only[cw]at this;simp[aK,this]
     rw[e3];exact hr _ c hj
   ·have h1:=Sv.Ot ha;rw[h1]at hc;have hj:cs[CG.offset]?=some c:=by
     have:((cs.drop CG.offset).take 1)[0]?=some c:=by rw[hc];rfl
     rw[bU (by omega),bm]at this;exact this
    refine .calc h fN hK ?_
    rw[hz2 ha];exact ej (ef (hr _ c hj))
  ·cases hK
 ·cases hK
theorem mP(k:IntKind)(n:Int):(asIntOf (.int k n)).run P w=.ok (k,n) w:=rfl
theorem qA{i:Int}{K:Nat->Option R}:∀{n:Nat},ou i n K=some r->∃q,q<n/\i=(q:Int)/\K q=some r
 | 0,h=>by cases h
 | n+1,h=>by
  simp only[ou]at h;cases hc:decide (i=(n:Int))with
  | true=>rw[hc]at h;exact⟨n,by omega,bj hc,h⟩
  | false=>
   rw[hc]at h;obtain⟨q,h1,h2⟩:=qA h;exact⟨q,by omega,h2⟩
theorem DH{n:Nat}{i:Int}{K:Nat->Option R}(h:yn n i K=some r):0<=i/\i<(n:Int)/\K i.toNat=some r:=by
 unfold yn at h;cases hc:Nat.ble n 16 with
 | true=>
  rw[hc]at h;obtain⟨q,h1,h2,h3⟩:=qA h;subst h2;exact⟨by omega,by omega,by simpa using h3⟩
 | false=>
  rw[hc]at h;exact kC h
theorem xI(hG:et P G){t:TypeId}{x i:Operand}(ho:o.op=.indexAddr t x i)(h:dj W0 F0 U m L w μ F)(hE:Env G S a L)(hK:fM G o.op S m id K=some r) :
  lK P o a w W0 F0 U id L K r:=by
 rw[ho]at hK;simp only[fM]at hK;obtain⟨ti,mr,hK⟩:=cS hK;have hT:=hG.ti t ti mr;obtain⟨d,hd,hk⟩:=hT.uJ;have hx:=hE.rel h x;have hi:=hE.rel h i;generalize hX:ev G S x=X at hK hx;split at hK
 ·rename_i e fT;rw[fT]at hk;cases d<;>simp[fR]at hk;rename_i e';subst hk;obtain⟨ei,sZ,jr⟩:=cS hK;clear hK;have Pu:=hG.ti _ _ sZ;obtain⟨k,n,Ph,hK⟩:=gv jr;clear jr;rw[Ph]at hi;have Ph:=(eg hi).1;have go:∀ad len cap,a.eval x=.slice (some ad) len cap->0<=n->n<len->(execOp a.eval o).run P w=.ok (.value (.pointer (some (ad.add (n.toNat*ei.size))))) w:=by
   intro ad len cap hv h0 h1;have hc:0<=n/\n<(len:Int):=⟨h0,h1⟩;simp[execOp,ho,hv,Ph,Instr.indexAt,mP,underlying,hd,hc,Pu.kD w]
  cases X
  case sl fl sz xs=>
   simp only at hK;obtain⟨hs,jr⟩:=c_ hK;clear hK;have hs:=aw hs;obtain⟨h0,h1,hK⟩:=kC jr;clear jr;obtain⟨_,hx⟩:=hx;generalize Cq:a.eval x=av at hx;cases hx with
   | xt=>simp at h1;omega
   | sl fl sz xs ad cap u hF Po lv nc hc hr=>
    obtain⟨f1,f2⟩:=eJ sz xs lv;have hn:n.toNat<xs.length:=by omega
    have hlen:((xs.getD n.toNat .undef).cells).length=sz:=by
     have:xs.getD n.toNat .undef=xs[n.toNat]:=by simp[List.getD,hn]
     rw[this];exact lv _ (aZ _)
    have hb:(n.toNat+1)*sz<=xs.length*sz:=bf _ hn;rw[cn]at hb;refine .calc h (go ad _ cap Cq h0 h1) hK ⟨λ_=>rfl,?_⟩
    rw[<-hs];refine .rd _ _ (λj=>u (n.toNat*sz+j)) (by rw[kj];exact hF (by rintro rfl;simp at hn)) (λj hj=>?_) (λj c hj=>?_)
    ·rw[kI];rw[hlen]at hj;exact hc _ (by omega)
    ·have GM:j<sz:=by have:=(aE.1 hj).1;omega
     rw[<-f2 _ hn _ GM]at hj;exact hr _ c hj
  case own j off l=>
   simp only at hK;obtain⟨bl,hj,jr⟩:=cS hK;clear hK;cases bl with
   | box _ _=>cases jr
   | row fl sz xs=>
    simp only at jr;obtain⟨hs,A6⟩:=c_ jr;clear jr;have hs:=aw hs;obtain⟨h0,h1,hK⟩:=kC A6;clear A6;obtain⟨_,hu,hp⟩:=hx;obtain⟨ad,cap,hv,kM,hlen,eI⟩:=hp fl sz xs hj;rcases eI with⟨_,rfl⟩|⟨b,o',nn,A1,fG,rfl,Cp,eI⟩
    ·omega
    rcases eI with rfl|⟨rfl,Ei⟩
    ·omega
    refine .calc h (go _ _ cap hv h0 h1) hK ⟨λ_=>rfl,hu,λiA jL oN mK=>?_⟩
    rw[hj]at mK;cases mK;refine⟨by omega,b,o',nn,fG,?_⟩;rw[addr_add,<-hs,bK,bE];congr 3;omega
  case bs j=>
   simp only at hK;obtain⟨bl,hj,jr⟩:=cS hK;clear hK;cases bl with
   | row _ _ _=>cases jr
   | box tb cs=>
    simp only at jr;obtain⟨hs,A6⟩:=c_ jr;clear jr;have hs:=aw hs;obtain⟨q,hq,hnq,hK⟩:=qA A6;clear A6;obtain⟨_,hu,hp⟩:=hx;obtain⟨b,nn,fG,hv⟩:=hp tb cs hj;refine .calc h (go _ _ _ hv (by omega) (by omega)) hK ⟨λ_=>rfl,hu,λxq kN mK=>⟨b,nn,fG,?_⟩⟩
    rw[addr_add,hs];congr 3;omega
  all_goals cases hK
 ·rename_i n e fT;rw[fT]at hk;cases d<;>simp[fR]at hk;rename_i n' e';obtain⟨wH,nz⟩:=hk;subst wH;subst nz;obtain⟨ei,sZ,jr⟩:=cS hK;clear hK;have Pu:=hG.ti _ _ sZ;obtain⟨k,i',Ph,hK⟩:=gv jr;clear jr;rw[Ph]at hi;have Ph:=(eg hi).1;have go:∀ad,a.eval x=.pointer (some ad)->0<=i'->i'<n->(execOp a.eval o).run P w=.ok (.value (.pointer (some (ad.add (i'.toNat*ei.size))))) w:=by
   intro ad hv h0 h1;have hc:0<=i'/\i'<(n:Int):=⟨h0,h1⟩;simp[execOp,ho,hv,Ph,Instr.indexAt,mP,underlying,hd,hc,Pu.kD w,Instr.sureAddr]
  cases X
  case ptr j off=>
   simp only at hK;obtain⟨bl,hj,jr⟩:=cS hK;clear hK;cases bl with
   | row _ _ _=>cases jr
   | box tb cs=>
    obtain⟨h0,h1,hK⟩:=DH jr;clear jr;obtain⟨_,O_,hp⟩:=hx;obtain⟨b,nn,fG,hv⟩:=hp tb cs hj;refine .calc h (go _ hv h0 h1) hK ⟨λ_=>rfl,O_,λxq kN mK=>⟨b,nn,fG,?_⟩⟩
    rw[addr_add,Nat.add_comm]
  case rd cs=>
   simp only at hK;obtain⟨h0,h1,jr⟩:=kC hK;clear hK;obtain⟨_,hx⟩:=hx;generalize Cq:a.eval x=av at hx;cases hx with|rd cs ad u hF hc hr=>
   refine .calc h (go _ Cq h0 h1) jr ⟨λ_=>rfl,?_⟩
   rw[kh];refine .rd _ _ (λj=>u (i'.toNat*ei.size+j)) (by rw[kj];exact hF) (λj hj=>?_) (λj c hj=>?_)
   ·rw[kI];exact hc _ (by simp at hj;omega)
   ·rw[bm]at hj;exact hr _ c hj
  all_goals cases hK
 ·cases hK
theorem Hb(hG:et P G){t:TypeId}{x i:Operand}(ho:o.op=.index t x i)(h:dj W0 F0 U m L w μ F)(hE:Env G S a L)(hK:fM G o.op S m id K=some r) :
  lK P o a w W0 F0 U id L K r:=by
 rw[ho]at hK;simp only[fM]at hK;obtain⟨ti,mr,hK⟩:=cS hK;obtain⟨d,hd,hk⟩:=(hG.ti t ti mr).uJ;split at hK
 ·rename_i fT;rw[fT]at hk;cases d<;>simp[fR]at hk;obtain⟨s,hs,hK⟩:=iH hK;obtain⟨k,n,hn,hK⟩:=gv hK;obtain⟨h0,h1,hK⟩:=kC hK;have hx:=hE.rel h x;have hi:=hE.rel h i;rw[hs]at hx;rw[hn]at hi;refine .calc h (v:=.int .u8 (s.data.getD n.toNat 0).toNat) ?_ hK (gK rfl)
  have eT:n.toNat<s.size:=by omega
  have Mk : n.toNat<s.data.size:=eT;have e:s[n.toNat]?=some (s.data.getD n.toNat 0):=by
   rw[getElem?_pos s n.toNat eT];congr 1;simp only[Array.getD,Mk,dif_pos];rfl
  simp[execOp,ho,(eg hx).1,(eg hi).1,Instr.index,mP,underlying,hd,h0,e]
 ·cases hK
end
section
variable {R:Type} {P:Program} {G:fv} {o:Oper} {a:Act} {w w' : World} {W0:fh} {F0 U F:Nat->Prop} {id:Nat} {L:AV->Value->Prop} {K:AV->Mem->Option R} {r:R} {m:Mem} {μ:Mu} {S:List AV}
theorem Jq{x:Option AV}{h:Int}{K:Int->Option R}(hK:D0 x h K=some r):(x=none/\K 0=some r)\/∃k n,x=some (.v (.int k n))/\0<=n/\n<=h/\K n=some r:=by
 cases x with
 | none=>exact .inl ⟨rfl,hK⟩
 | some x=>
  obtain⟨k,n,rfl,jr⟩:=gv hK;obtain⟨h1,A6⟩:=c_ jr;simp at h1;exact .inr ⟨k,n,rfl,h1.1,h1.2,A6⟩
theorem JZ{x:Option AV}{n:Int}{K:Int->Option R}{N:Option R}(hK:Mp x n K N=some r):(x=none/\N=some r)\/∃k h,x=some (.v (.int k h))/\0<=h/\h<=n/\K h=some r:=by
 cases x with
 | none=>exact .inl ⟨rfl,hK⟩
 | some x=>
  obtain⟨k,n,rfl,jr⟩:=gv hK;obtain⟨h1,A6⟩:=c_ jr;simp at h1;exact .inr ⟨k,n,rfl,h1.1,h1.2,A6⟩
def P5(x:Option Value)(XG n:Nat):Prop:=(x=none/\n=XG)\/∃k i,x=some (.int k i)/\0<=i/\i.toNat=n
theorem lE{b:Bool}{len cap l h:Nat}{lo hi:Option Value}(hh:P5 hi len h)(T6:h<=cap)(hl:P5 lo 0 l)(T4:l<=h) :
  (Instr.sliceBounds b len cap lo hi none).run P w=.ok (l,h,cap) w:=by
 have bound:∀(k:IntKind) (i:Int) (y n:Nat) (c:BoundsCode),0<=i->i.toNat=n->n<=y->(Instr.sliceBound (.int k i) y c).run P w=.ok n w:=by
  intro k i y n c h0 h1 h2;have:0<=i/\i<=(y:Int):=⟨h0,by omega⟩;simp[Instr.sliceBound,mP,this,h1]
 unfold Instr.sliceBounds;rcases hh with⟨rfl,rfl⟩|⟨k,i,rfl,GN,QA⟩<;>rcases hl with⟨rfl,rfl⟩|⟨k',i',rfl,Sh,Sg⟩
 ·simp
 ·simp[bound k' i' _ _ _ Sh Sg T4]
 ·simp[bound k i _ _ _ GN QA T6]
 ·simp[bound k i _ _ _ GN QA T6,bound k' i' _ _ _ Sh Sg T4]
theorem mU{lo hi:Option Operand}{n:Nat}{A:Int->Int->Option R}{B:Int->Option R}(h:dj W0 F0 U m L w μ F)(hE:Env G S a L)
  (hK:Mp (hi.map (ev G S)) n (λh=>D0 (lo.map (ev G S)) h λl=>A h l) (D0 (lo.map (ev G S)) n λl=>B l)=some r) :
  ∃l e:Nat,P5 (lo.map a.eval) 0 l/\P5 (hi.map a.eval) n e/\l<=e/\e<=n/\((hi.isSome=true/\A e l=some r)\/(hi=none/\e=n/\B l=some r)):=by
 have low:∀(e:Nat) (K:Int->Option R),D0 (lo.map (ev G S)) e K=some r->∃l:Nat,P5 (lo.map a.eval) 0 l/\l<=e/\K l=some r:=by
  intro e K hK;rcases Jq hK with⟨h1,h2⟩|⟨k,n,h1,h2,h3,h4⟩
  ·rw[Option.map_eq_none_iff]at h1;subst h1;exact⟨0,.inl ⟨rfl,rfl⟩,cB _,h2⟩
  ·rw[aD]at h1;obtain⟨x,rfl,hx⟩:=h1;have:=hE.rel h x;rw[hx]at this;refine⟨n.toNat,.inr ⟨k,n,by simp[(eg this).1],h2,rfl⟩,by omega,?_⟩;rw[Int.toNat_of_nonneg h2];exact h4
 rcases JZ hK with⟨h1,h2⟩|⟨k,e,h1,h2,h3,h4⟩
 ·rw[Option.map_eq_none_iff]at h1;subst h1;obtain⟨l,hl,hle,hB⟩:=low n _ h2;exact⟨l,n,hl,.inl ⟨rfl,rfl⟩,hle,aH _,.inr ⟨rfl,rfl,hB⟩⟩
 ·rw[aD]at h1;obtain⟨x,rfl,hx⟩:=h1;have hv:=hE.rel h x;rw[hx]at hv;have e' : ((e.toNat:Nat):Int)=e:=Int.toNat_of_nonneg h2;rw[<-e']at h4;obtain⟨l,hl,hle,hA⟩:=low e.toNat _ h4;exact⟨l,e.toNat,hl,.inr ⟨k,e,by simp[(eg hv).1],h2,rfl⟩,hle,by omega,.inl ⟨rfl,hA⟩⟩
theorem KW{ad:Addr}{k:Nat}(h:ad.spot=none):(ad.add k).spot=none:=by
 unfold Addr.add;split
 ·exact h
 ·rfl
theorem Ar{fl:Fl}{x:AV}(h:x.Qr=true):xl fl x:=⟨by cases x<;>first|rfl|(cases h),λ_=>h⟩
theorem iK{cs:List AV}(h:∀c∈cs,c.cells=[c]):dm cs=cs:=by
 induction cs with
 | nil=>rfl
 | cons c cs ih=>
  have:dm (c::cs)=c.cells++dm cs:=by simp[dm]
  rw[this,h c (by simp),ih (λx hx=>h x (by simp[hx]))];rfl
theorem Ha(hG:et P G){t:TypeId}{x:Operand}{lo hi mx:Option Operand}(ho:o.op=.slice t x lo hi mx)(h:dj W0 F0 U m L w μ F)(hE:Env G S a L)(hK:fM G o.op S m id K=some r) :
  lK P o a w W0 F0 U id L K r:=by
 rw[ho]at hK;simp only[fM]at hK;obtain⟨Wa,eM⟩:=c_ hK;clear hK;have Wa:mx=none:=by simpa using Wa
 subst Wa;obtain⟨ti,mr,hK⟩:=cS eM;clear eM;have hT:=hG.ti t ti mr;obtain⟨d,hd,hk⟩:=hT.uJ;have hx:=hE.rel h x;cases fT:ti.kd with
 | string=>
  rw[fT]at hk hK;cases d<;>simp[fR]at hk;simp only at hK;obtain⟨s,hs,eM⟩:=iH hK;clear hK;rw[hs]at hx;have hv:=(eg hx).1;obtain⟨l,e,hl,he,hle,Sl,hK⟩:=mU h hE eM;clear eM;have fN:(execOp a.eval o).run P w=.ok (.value (.string (s.extract l e))) w:=by
   simp[execOp,ho,hv,Instr.sliceAt,Instr.slice,underlying,hd,lE he Sl hl hle]
  rcases hK with⟨_,hK⟩|⟨_,rfl,hK⟩
  ·exact .calc h fN hK (gK rfl)
  ·exact .calc h fN hK (gK rfl)
 | slice e=>
  rw[fT]at hk hK;cases d<;>simp[fR]at hk;subst hk;simp only at hK;obtain⟨ei,sZ,eM⟩:=cS hK;clear hK;have Pu:=hG.ti _ _ sZ;have go:∀ad len cap l h,a.eval x=.slice ad len cap->P5 (lo.map a.eval) 0 l->P5 (hi.map a.eval) len h->l<=h->h<=cap->
    (execOp a.eval o).run P w=.ok (.value (.slice (if cap=l then ad else ad.map (·.add (l*ei.size))) (h - l) (cap - l))) w:=by
   intro ad len cap l h hv hl hh T4 T6;simp[execOp,ho,hv,Instr.sliceAt,Instr.slice,underlying,hd,lE hh T6 hl T4,Pu.kD w]
  generalize hX:ev G S x=X at eM hx;split at eM
  ·-- nil
   have hv:=(eg hx).1;obtain⟨l,e,hl,he,hle,Sl,hK⟩:=mU (n:=0) h hE eM;have e0:e=0:=by omega
   have l0:l=0:=by omega
   subst e0;subst l0;have fN:=go none 0 0 0 0 hv hl he (aH _) (aH _);simp only[ck,Nat.sub_self]at fN;rcases hK with⟨_,hK⟩|⟨_,_,hK⟩<;>exact .calc h fN hK (gK rfl)
  ·-- a slice Q_ is only read
   rename_i fl sz xs;obtain⟨hs,jr⟩:=c_ eM;clear eM;have hs:=aw hs;obtain⟨l,e,hl,he,hle,Sl,hK⟩:=mU h hE jr;clear jr;obtain⟨_,hx⟩:=hx;have key:∃v,(execOp a.eval o).run P w=.ok (.value v) w/\Rel w F (.sl fl sz ((xs.take e).drop l)) v:=by
    generalize Cq:a.eval x=av at hx;cases hx with
    | xt=>
     have e0:e=0:=by simpa using Sl
     have l0:l=0:=by omega
     subst e0;subst l0;refine⟨_,go none 0 0 0 0 Cq hl (by simpa using he) (aH _) (aH _),?_⟩;simp only[ck,Nat.sub_self,List.take_nil,List.drop_nil];exact .xt fl sz
    | sl fl sz xs ad cap u hF Po lv nc hc hr Qw=>
     refine⟨_,go (some ad) _ cap l e Cq hl he hle (by omega),?_⟩;have hlen:((xs.take e).drop l).length=e - l:=by simp;omega
     have RX : ∀x∈(xs.take e).drop l,x.cells.length=sz:=λx hx=>lv x (aX (bg hx));have xE : ∀x∈dm ((xs.take e).drop l),xl fl x:=by
      intro x hx;simp only[dm,aY]at hx;obtain⟨y,hy,hx⟩:=hx;exact nc x (by simp only[dm,aY];exact⟨y,aX (bg hy),hx⟩)
     by_cases ic:cap=l
     ·subst ic;have:(xs.take e).drop cap=[]:=List.drop_eq_nil_of_le (by simp;omega);rw[this];have h0:e - cap=0:=by omega
      simp only[ck,Nat.sub_self,h0];exact .sl fl sz [] ad 0 (λ_=>undef) (λhx=>absurd rfl hx) (cB _) (by simp) (by simp[dm]) (by simp[dm]) (by simp[dm]) (λ_ h=>absurd rfl h)
     ·rw[af ic];simp only[cE];have k:=Rel.sl (w:=w) (F:=F) fl sz ((xs.take e).drop l) (ad.add (l*ei.size)) (cap - l) (λj=>u (l*sz+j)) (λhx=>by rw[kj];exact hF (by rintro rfl;simp at hx)) (by rw[hlen];omega) RX xE ?_ ?_ (λh1 h2=>KW (Qw h1 (by rintro rfl;simp at h2)))
      ·rw[hlen]at k;exact k
      ·intro j hj;rw[(eJ sz _ RX).1,hlen]at hj;rw[kI,<-hs];refine hc _ ?_;rw[(eJ sz xs lv).1];have h1:(l+(e - l))*sz<=xs.length*sz:=bf _ (by omega);rw[bK]at h1;omega
      ·intro j c hj;rw[gW sz l _ (λx hx=>lv x (aX hx)),bm]at hj;exact hr _ c (fZ sz e xs _ c hj)
   obtain⟨v,fN,nb⟩:=key;rcases hK with⟨_,hK⟩|⟨_,rfl,hK⟩
   ·exact .calc h fN hK ⟨λ_=>nb.na rfl,nb⟩
   ·rw[List.take_length]at nb;exact .calc h fN hK ⟨λ_=>nb.na rfl,nb⟩
  ·-- Yh own
   rename_i j off n;obtain⟨bl,hj,jr⟩:=cS eM;clear eM;cases bl with
   | box _ _=>cases jr
   | row fl sz xs=>
    simp only at jr;obtain⟨hs,A6⟩:=c_ jr;clear jr;have hs:=aw hs;obtain⟨l,e,hl,he,hle,Sl,hK⟩:=mU h hE A6;clear A6;obtain⟨_,hu,hp⟩:=hx;obtain⟨ad,cap,hv,kM,hlen,eI⟩:=hp fl sz xs hj;have fN:=go ad _ cap l e hv hl he hle (by omega);have fin:∀n',lenOf xs.length (l+off) n'=e - l->fg w F μ m U (.own j (l+off) n') (.slice (if cap=l then ad else ad.map (·.add (l*ei.size))) (e - l) (cap - l)):=by
     intro n' T3;refine⟨λ_=>rfl,hu,λiA jL oN mK=>?_⟩;rw[hj]at mK;cases mK;rw[T3];refine⟨_,_,rfl,by omega,by omega,?_⟩;rcases eI with⟨rfl,rfl⟩|⟨b,o',nn,A1,fG,rfl,Cp,eI⟩
     ·left;exact⟨by split<;>rfl,by omega⟩
     ·right;by_cases ic:cap=l
      ·rw[ag ic];exact⟨b,o',nn,A1,fG,rfl,Cp,.inl (by omega)⟩
      ·rw[af ic];refine⟨b,o',nn,A1.add (l*ei.size),fG,rfl,by rw[kj];exact Cp,?_⟩;rcases eI with rfl|⟨rfl,Ei⟩
       ·left;omega
       ·right;rw[addr_add,<-hs];refine⟨by rw[bK];congr 1;omega,?_⟩;rw[show l+off+(cap - l)=off+cap by omega];exact Ei
    rcases hK with⟨_,hK⟩|⟨_,rfl,hK⟩
    ·exact .calc h fN hK (fin _ (by simp[lenOf]))
    ·refine .calc h fN hK (fin _ ?_)
     cases n with
     | none=>simp[lenOf];omega
     | some n=>simp[lenOf]
  ·cases eM
 | arr n e=>
  rw[fT]at hk hK;cases d<;>simp[fR]at hk;obtain⟨rfl,rfl⟩:=hk;simp only at hK;obtain⟨ei,sZ,eM⟩:=cS hK;clear hK;have Pu:=hG.ti _ _ sZ;generalize hX:ev G S x=X at eM hx;cases X
  case rd cs=>
   simp only at eM;obtain⟨hc,hK⟩:=c_ eM;clear eM;simp only[ae]at hc;obtain⟨⟨⟨⟨⟨c1,c2⟩,c3⟩,c4⟩,c5⟩,c6⟩:=hc;have c1:=aw c1;have c2:lo=none:=by simpa using c2
   have c3:hi=none:=by simpa using c3
   have c4:=aw c4;subst c2;subst c3;obtain⟨_,hx⟩:=hx;generalize Cq:a.eval x=av at hx;cases hx with|rd cs ad u hF hc hr=>
   have hb:=lE (P:=P) (w:=w) (b:=false) (len:=n) (cap:=n) (l:=0) (h:=n) (lo:=none) (hi:=none) (.inl ⟨rfl,rfl⟩) (aH _) (.inl ⟨rfl,rfl⟩) (cB _);have had:ad.add 0=ad:=by simp[Addr.add]
   have fN:(execOp a.eval o).run P w=.ok (.value (.slice (some ad) n n)) w:=by
    simp[execOp,ho,Cq,Instr.sliceAt,underlying,hd,Instr.sureAddr,hb,Pu.kD w,had]
   have Fz:∀c∈cs,c.cells=[c]:=λc hc=>by
    have:=aA.1 c6 c hc;cases c<;>first|rfl|cases this
   have J3:dm cs=cs:=iK Fz;have k:=Rel.sl (w:=w) (F:=F) ei.flat 1 cs ad n u (λ_=>hF) (by omega) (λx hx=>by rw[Fz x hx];rfl) (λx hx=>by rw[J3]at hx;exact Ar (aA.1 c6 x hx))
    (λj hj=>by rw[J3]at hj;exact hc j hj) (λj c hj=>by rw[J3]at hj;exact hr j c hj) (λh=>by cases h)
   rw[c4]at k;exact .calc h fN hK ⟨λ_=>rfl,k⟩
  all_goals cases eM
 | _=>rw[fT]at hK;cases hK
end
section
variable {R:Type} {P:Program} {G:fv} {o:Oper} {a:Act} {w w' : World} {W0:fh} {F0 U F:Nat->Prop} {id:Nat} {L:AV->Value->Prop} {K:AV->Mem->Option R} {r:R} {m:Mem} {μ:Mu} {S:List AV}
theorem Hw{x:AV}{v:Value}{K:Fl->Nat->List AV->Option R}(h:dj W0 F0 U m L w μ F)(hx:fg w F μ m U x v)(hK:jF m x K=some r)(I:List Nat)(hI:∀i∈lG x,i∈I) :
  ∃fl sz xs,K fl sz xs=some r/\Rel w (λb=>F b\/eS μ m I b) (.sl fl sz xs) v/\(∀x∈xs,x.cells.length=sz)/\(∀x∈dm xs,xl fl x):=by
 unfold jF at hK;split at hK
 ·have:=(eg hx).1;subst this;exact⟨_,_,_,hK,.xt _ _,by simp,by simp[dm]⟩
 ·rename_i fl sz xs;obtain⟨_,hx⟩:=hx;refine⟨_,_,_,hK,Rel.mono hx (λb hb=>.inl hb) (λ_ _=>rfl),?_,?_⟩
  ·cases hx with
   | xt=>simp
   | sl _ _ _ _ _ _ _ _ hs=>exact hs
  ·cases hx with
   | xt=>simp[dm]
   | sl _ _ _ _ _ _ _ _ _ hf=>exact hf
 ·rename_i j off l;split at hK
  ·rename_i fl sz xs hm;refine⟨_,_,_,hK,C4 h hx hm I (hI j (by simp[lG])),?_,?_⟩
   ·intro y hy;rw[nt]at hy;exact(h.lQ j _ hm).1 y (bg (aX hy))
   ·intro y hy;rw[nt]at hy;simp only[dm,aY]at hy;obtain⟨z,hz,hy⟩:=hy;exact(h.lQ j _ hm).2.1 y (by simp only[dm,aY];exact⟨z,bg (aX hz),hy⟩)
  ·cases hK
 ·cases hK
theorem Ds{x:AV}{v:Value}{K:Nat->Option R}(h:dj W0 F0 U m L w μ F)(hx:fg w F μ m U x v)(hK:oq m x K=some r) :
  ∃n ad cap,K n=some r/\v=.slice ad n cap:=by
 unfold oq at hK;split at hK
 ·have:=(eg hx).1;subst this;exact⟨0,_,_,hK,rfl⟩
 ·rename_i fl sz xs;obtain⟨_,hx⟩:=hx;cases hx with
  | xt=>exact⟨0,_,_,hK,rfl⟩
  | sl=>exact⟨_,_,_,hK,rfl⟩
 ·rename_i j off l;split at hK
  ·rename_i fl sz xs hm;obtain⟨_,hu,hx⟩:=hx;obtain⟨ad,cap,hv,_⟩:=hx fl sz xs hm;exact⟨_,_,_,hK,hv⟩
  ·cases hK
 ·rename_i j;split at hK
  ·rename_i tb cs hm;obtain⟨_,hu,hx⟩:=hx;obtain⟨b,n,_,hv⟩:=hx tb cs hm;exact⟨_,_,_,hK,hv⟩
  ·cases hK
 ·cases hK
theorem MQ(hG:et P G){c:Call}(ho:o.op=.call c)(hc:c.callee=.builtin .len)(h:dj W0 F0 U m L w μ F)(hE:Env G S a L)(hK:fM G o.op S m id K=some r):lK P o a w W0 F0 U id L K r:=by
 rw[ho]at hK;simp only[fM,hc]at hK;split at hK
 ·rename_i t x ht xC;obtain⟨ti,mr,eM⟩:=cS hK;clear hK;obtain⟨d,hd,hk⟩:=(hG.ti t ti mr).uJ;have ha:c.args=#[x]:=by rw[<-xC]
  have tV:c.argTypes=#[t]:=by rw[<-ht]
  have hx:=hE.rel h x;split at eM
  ·rename_i fT;rw[fT]at hk;cases d<;>simp[fR]at hk;obtain⟨s,hs,hK⟩:=iH eM;rw[hs]at hx;exact .calc h (v:=.int .i64 s.size) (by simp[execOp,ho,resolve,hc,ha,tV,invoke,builtin,(eg hx).1,run_len_string w t _ s hd,goInt]) hK (gK rfl)
  ·rename_i e fT;rw[fT]at hk;cases d<;>simp[fR]at hk;obtain⟨n,ad,cap,hK,hv⟩:=Ds h hx eM;exact .calc h (v:=.int .i64 n) (by simp[execOp,ho,resolve,hc,ha,tV,invoke,builtin,hv,Builtin.len_,bu hd,goInt]) hK (gK rfl)
  ·cases eM
 ·cases hK
theorem MO{c:Call}(ho:o.op=.call c)(hc:c.callee=.builtin .min)(h:dj W0 F0 U m L w μ F)(hE:Env G S a L)(hK:fM G o.op S m id K=some r):lK P o a w W0 F0 U id L K r:=by
 rw[ho]at hK;simp only[fM,hc]at hK;split at hK
 ·rename_i x y xC;obtain⟨k,n,Fx,eM⟩:=gv hK;obtain⟨n',pg,jr⟩:=iI eM;have hx:=hE.rel h x;have hy:=hE.rel h y;rw[Fx]at hx;rw[pg]at hy;have ha:c.args=#[x,y]:=by rw[<-xC]
  exact .calc h (v:=.int k (if n'<n then n' else n)) (by simp[execOp,ho,resolve,hc,ha,invoke,builtin,(eg hx).1,(eg hy).1,run_min_int2]) jr (gK rfl)
 ·cases hK
theorem MP{c:Call}(ho:o.op=.call c)(hc:c.callee=.builtin .max)(h:dj W0 F0 U m L w μ F)(hE:Env G S a L)(hK:fM G o.op S m id K=some r):lK P o a w W0 F0 U id L K r:=by
 rw[ho]at hK;simp only[fM,hc]at hK;split at hK
 ·rename_i x y xC;obtain⟨k,n,Fx,eM⟩:=gv hK;obtain⟨n',pg,jr⟩:=iI eM;have hx:=hE.rel h x;have hy:=hE.rel h y;rw[Fx]at hx;rw[pg]at hy;have ha:c.args=#[x,y]:=by rw[<-xC]
  exact .calc h (v:=.int k (if n'>n then n' else n)) (by simp[execOp,ho,resolve,hc,ha,invoke,builtin,(eg hx).1,(eg hy).1,run_max_int2]) jr (gK rfl)
 ·cases hK
theorem vC:∀(xs:List AV) (bs:List UInt8),strOf xs=some bs->∃ns:List Int,xs=ns.map (λn=>vu n)/\bs=ns.map λn=>UInt8.ofNat n.toNat
 | [],bs,h=>by simp[strOf]at h;subst h;exact⟨[],rfl,rfl⟩
 | x::r,bs,h=>by
  unfold strOf at h;split at h
  ·rename_i heq;cases heq
  ·rename_i n r' heq;cases heq;simp only[aD]at h;obtain⟨YY,h1,rfl⟩:=h;obtain⟨ns,rfl,rfl⟩:=vC _ _ h1;exact⟨n::ns,rfl,rfl⟩
  ·cases h
theorem foldl_push:∀(ns:List Int) (r:ByteArray),ns.foldl (λr n=>r.push (UInt8.ofNat n.toNat)) r=⟨r.data++(ns.map λn=>UInt8.ofNat n.toNat).toArray⟩
 | [],r=>by simp
 | b::l,r=>by
  simp only[bx,List.foldl_cons];rw[foldl_push l];simp[ByteArray.push]
theorem CQ(hG:et P G){s d:TypeId}{x:Operand}(ho:o.op=.convert s d x)(h:dj W0 F0 U m L w μ F)(hE:Env G S a L)(hid:∀j,j<8->¬ U (id+j))(hK:fM G o.op S m id K=some r) :
  lK P o a w W0 F0 U id L K r:=by
 rw[ho]at hK;simp only[fM]at hK;obtain⟨si,hsi,eM⟩:=cS hK;clear hK;obtain⟨di,YH,hK⟩:=cS eM;clear eM;obtain⟨sd,Qx,HT⟩:=(hG.ti s si hsi).uJ;obtain⟨dd,De,GP⟩:=(hG.ti d di YH).uJ;have hx:=hE.rel h x;split at hK
 ·rename_i k0 k h1 h2;rw[h1]at HT;rw[h2]at GP;cases sd<;>simp[fR]at HT;cases dd<;>simp[fR]at GP;subst GP;obtain⟨k',n,Fx,hK⟩:=gv hK;rw[Fx]at hx;exact .calc h (by simp[execOp,ho,convert,bu Qx,bu De,(eg hx).1,Conv.intToInt]) hK (gK rfl)
 ·rename_i h1 h2;rw[h1]at HT;rw[h2]at GP;cases sd<;>simp[fR]at HT;cases dd<;>simp[fR]at GP;obtain⟨q,Fx,hK⟩:=iH hK;rw[Fx]at hx;exact .calc h (by simp[execOp,ho,convert,bu Qx,bu De,(eg hx).1]) hK (gK rfl)
 ·rename_i e h1 h2;rw[h1]at HT;rw[h2]at GP;cases sd<;>simp[fR]at HT;cases dd<;>simp[fR]at GP;subst GP;obtain⟨ei,sZ,eM⟩:=cS hK;clear hK;obtain⟨ed,QC,J8⟩:=(hG.ti _ ei sZ).uJ;split at eM
  ·rename_i h3;rw[h3]at J8;cases ed<;>simp[fR]at J8;subst J8;obtain⟨q,Fx,hK⟩:=iH eM;rw[Fx]at hx;have hv:=(eg hx).1;have hl:(q.toList.map λb=>vu b.toNat).length=q.size:=by simp[cJ]
   have fN:=run_bytes_of_string (P:=P) w s d e q Qx De QC;have kM:q.size<=grownCap w q.size 0 e:=grownCap_ge w _ _ _;have lv:(bytesRow q (grownCap w q.size 0 e)).size=grownCap w q.size 0 e:=by simp[bytesRow];omega
   refine .row (C:=bytesRow q (grownCap w q.size 0 e)) (t:=e) (ht:=(hG.ti _ _ sZ).tid) (f:=((bytesRow q (grownCap w q.size 0 e)).size,(bytesRow q (grownCap w q.size 0 e)).size+1)) (cap:=grownCap w q.size 0 e) h hid (by rw[hl];simp[execOp,ho,hv,fN]) ?_ (j9 w.drew _) ?_ ?_ ?_ ?_ ?_ ?_ hK
   ·exact(Below.refl _ w).drew.alloc (aH _) _
   ·exact .inr (aH _)
   ·intro y hy;simp at hy;obtain⟨_,_,rfl⟩:=hy;rfl
   ·intro y hy;rw[iK (λc hc=>by simp at hc;obtain⟨_,_,rfl⟩:=hc;rfl)]at hy;simp at hy;obtain⟨_,_,rfl⟩:=hy;exact⟨rfl,λ_=>rfl⟩
   ·rw[hl];exact kM
   ·omega
   ·intro j c hj;have nc:dm (q.toList.map λb=>vu b.toNat)=q.toList.map λb=>vu b.toNat:=iK (λc hc=>by simp at hc;obtain⟨_,_,rfl⟩:=hc;rfl);rw[nc]at hj;simp only[aP,aD]at hj;obtain⟨b,hb,rfl⟩:=hj;have mK : j<q.data.size:=by
     have:=(aE.1 hb).1;simpa[cJ]using this
    have jP : q.data[j]=b:=by
     have:=(aE.1 hb).2;simpa[cJ]using this
    rw[aK,bytesRow_at _ _ _ mK,jP];exact .v _ rfl
  ·cases eM
 ·rename_i e e' h1 h2;rw[h1]at HT;rw[h2]at GP;cases sd<;>simp[fR]at HT;cases dd<;>simp[fR]at GP;subst HT;subst GP;obtain⟨Co,eM⟩:=c_ hK;clear hK;rw[ae]at Co;have Kc:=aw Co.1;have WM:=aw Co.2;subst Kc;subst WM;obtain⟨ei,sZ,jr⟩:=cS eM;clear eM;obtain⟨ed,QC,J8⟩:=(hG.ti _ ei sZ).uJ;split at jr
  ·rename_i h3;rw[h3]at J8;cases ed<;>simp[fR]at J8;subst J8;generalize hX:ev G S x=X at jr hx;split at jr
   ·rename_i j;obtain⟨bl,hj,A6⟩:=cS jr;clear jr;split at A6
    ·rename_i fl sz y ys;obtain⟨HR,hu,hp⟩:=hx;obtain⟨ad,cap,hv,kM,hlen,eI⟩:=hp _ _ _ hj;have hl0:lenOf (y::ys).length 0 none=ys.length+1:=rfl;rw[hl0]at kM hlen hv;obtain⟨hs,nc,iR⟩:=h.lQ j _ hj;rcases eI with⟨_,rfl⟩|⟨b,o',nn,A1,fG,rfl,Cp,eI⟩
     ·omega
     rcases eI with rfl|⟨rfl,Ei⟩
     ·omega
     rcases iR with⟨h0,_⟩|⟨b',Gn,C,f,eh,hh,Ck,ni,hr⟩
     ·cases h0
     rw[fG]at eh;simp only[bh,bI]at eh;obtain⟨rfl,rfl,rfl⟩:=eh;have fX:=h.own j _ b o' C.size hj fG;have V0:w.shape? b=some (fl.te,C.size):=by simp[World.shape?,hh]
     have Wq:∀k,k≠b->(w.freeze ⟨b,C.size,none⟩ 1).heap[k]?=w.heap[k]?:=by
      intro k hk;simp[World.freeze,Array.getElem?_modify,Ne.symm hk]
     have hhb:(w.freeze ⟨b,C.size,none⟩ 1).heap[b]?=some (.cells C fl.te (if f.1==f.2 then(C.size,C.size+1)else(min f.1 C.size,max f.2 (C.size+1)))):=by
      obtain⟨lo,hi⟩:=f;simp[World.freeze,Array.getElem?_modify,hh]
     have FE:kt W0 (w.freeze ⟨b,C.size,none⟩ 1):=
      ⟨h.below.os,h.below.tape,h.below.output,by simpa[World.freeze]using h.below.size,λk hk=>(Wq k (λe=>fX.1 (e ▸ hk))).trans (h.below.block k hk)⟩
     have R1:m.gB j (some (.row fl sz (y::ys)))=m:=by
      funext i;by_cases e:i=j
      ·subst e;rw[Mem.dQ,hj]
      ·rw[Mem.dy _ _ e]
     have rT:=h.store (w':=w.freeze ⟨b,C.size,none⟩ 1) hj fG (x':=.row fl sz (y::ys)) ⟨rfl,rfl⟩ FE (by simp[World.freeze]) Wq
      ⟨hs,nc,.inr ⟨b,o',C,_,fG,hhb,Ck,ni.mark,λk c hk=>(hr k c hk).mono (λ_ hb=>hb) (λk hk=>Wq k (λe=>fX.2.2 (e ▸ hk)))⟩⟩
     rw[R1]at rT;refine⟨_,m,a.eval x,w.freeze ⟨b,C.size,none⟩ 1,.inl ?_,A6,μ,F,?_⟩
     ·rw[hv];simp[execOp,ho,hv,convert,bu Qx,bu QC,markStringish,V0]
     ·have h':=rT.wider (U':=U8 U id) (λi hi=>.inl hi);exact{ h' with
       dT:=by
        rintro z u (hy|⟨rfl,rfl⟩)
        ·exact h'.dT z u hy
        ·exact⟨HR,.inl hu,λiA jL oN Fx=>by
          rw[hj]at Fx;cases Fx;exact⟨_,cap,hv,kM,hlen,.inr ⟨b,o',C.size,_,fG,rfl,rfl,.inr ⟨rfl,Ei⟩⟩⟩⟩ }
    ·cases A6
   ·cases jr
  ·cases jr
 ·rename_i e h1 h2;rw[h1]at HT;rw[h2]at GP;cases sd<;>simp[fR]at HT;cases dd<;>simp[fR]at GP;subst HT;obtain⟨ei,sZ,eM⟩:=cS hK;clear hK;obtain⟨ed,QC,J8⟩:=(hG.ti _ ei sZ).uJ;split at eM
  ·rename_i h3;rw[h3]at J8;cases ed<;>simp[fR]at J8;subst J8;obtain⟨fl,sz,xs,jr,nb,hs,_⟩:=Hw h hx eM (lG (ev G S x)) (λ_ hi=>hi);obtain⟨bs,WN,hK⟩:=cS jr;obtain⟨ns,rfl,rfl⟩:=vC _ _ WN;refine .calc h (v:=.string ⟨(ns.map λn=>UInt8.ofNat n.toNat).toArray⟩) ?_ hK (gK rfl)
   generalize Cq:a.eval x=v at nb;have nc:dm (ns.map λn=>vu n)=ns.map λn=>vu n:=iK (λc hc=>by simp at hc;obtain⟨_,_,rfl⟩:=hc;rfl);generalize hy:(ns.map λn=>vu n)=ys at nb nc;cases nb with
   | xt=>
    have:ns=[]:=by simpa using hy
    subst this;simp[execOp,ho,Cq,run_convert_bytes_string w s d e _ _ _ Qx QC De,Conv.bytesToString];rfl
   | sl _ _ _ ad cap u hF Po hs hf hc hr=>
    have Sd:(loadCells ad ys.length).run P w=.ok (ns.map (Value.int .u8)).toArray w:=by
     have:=run_loadCells_list (P:=P) w ad (ns.map (Value.int .u8)) (λj v hj=>by
      simp only[aP,aD]at hj;obtain⟨n,hn,rfl⟩:=hj;have h1:(dm ys)[j]?=some (vu n):=by rw[nc,<-hy];simp[hn]
      have h2:=hr j _ h1;have h3:u j=.int .u8 n:=by generalize u j=z at h2;cases h2;rfl
      rw[hc j (aE.1 h1).1,h3])
     rw[<-hy];simpa using this
    have:=run_bytesToString (P:=P) w ad ys.length cap ns Sd;rw[foldl_push]at this;simp[execOp,ho,Cq,run_convert_bytes_string w s d e _ _ _ Qx QC De,this]
  ·cases eM
 ·cases hK
end
def TI.Dm(t:TI):AV:=bif t.isAgg then .agg t.tv else t.tv.headD .undef
section
variable {R:Type} {P:Program} {G:fv} {o:Oper} {a:Act} {w w' : World} {W0:fh} {F0 U F:Nat->Prop} {id:Nat} {L:AV->Value->Prop} {K:AV->Mem->Option R} {r:R} {m:Mem} {μ:Mu} {S:List AV}
theorem kX{t:TypeId}{ti:TI}(hT:pv P t ti):ti.Dm.cells=ti.tv:=by
 unfold TI.Dm;cases h:ti.isAgg with
 | true=>rfl
 | false=>
  have h1:=hT.Ot h;rw[<-hT.Nc]at h1;obtain⟨v,hv⟩:=b_.1 h1;simp[TI.tv,hv,AV.cells]
theorem zw{t:TypeId}{ti:TI}{fl:Fl}(hT:pv P t ti):∀c∈ti.Dm.cells,xl fl c:=by
 rw[kX hT];intro c hc;simp only[TI.tv,cD]at hc;obtain⟨v,_,rfl⟩:=hc;exact Ar (x:=.v _) rfl
theorem wO{n:Nat}{z:AV}{j:Nat}{c:AV}(hc:(dm (List.replicate n z))[j]?=some c):z.cells[j % z.cells.length]?=some c:=by
 obtain⟨h1,h2⟩:=eJ z.cells.length (List.replicate n z) (λx hx=>by rw[(bY.1 hx).2]);have hj:=(aE.1 hc).1;rw[h1,bX]at hj;have h0:0<z.cells.length:=by
  rcases Nat.eq_zero_or_pos z.cells.length with h|h
  ·rw[h]at hj;omega
  ·exact h
 have:=h2 (j / z.cells.length) (by rw[bX];exact(Nat.div_lt_iff_lt_mul h0).2 hj) (j % z.cells.length) (Nat.mod_lt _ h0);rw[Nat.mul_comm,Nat.div_add_mod,hc]at this;have e:(List.replicate n z).getD (j / z.cells.length) .undef=z:=by
  have eT:j / z.cells.length<n:=(Nat.div_lt_iff_lt_mul h0).2 hj;rw[ah,List.getElem?_replicate];simp[eT]
 rw[e]at this;exact this.symm
theorem xH(hG:et P G){t:TypeId}{x y:Operand}(ho:o.op=.makeSlice t x y)(h:dj W0 F0 U m L w μ F)(hE:Env G S a L)(hid:∀j,j<8->¬ U (id+j))(hK:fM G o.op S m id K=some r) :
  lK P o a w W0 F0 U id L K r:=by
 rw[ho]at hK;simp only[fM]at hK;obtain⟨ti,mr,eM⟩:=cS hK;clear hK;obtain⟨d,hd,hk⟩:=(hG.ti t ti mr).uJ;split at eM
 ·rename_i e fT;rw[fT]at hk;cases d<;>simp[fR]at hk;subst hk;obtain⟨ei,sZ,hK⟩:=cS eM;clear eM;have hT:=hG.ti _ ei sZ;obtain⟨n,hn,eM⟩:=iI hK;clear hK;obtain⟨c,hc,jr⟩:=iI eM;clear eM;obtain⟨hb,hK⟩:=c_ jr;clear jr;simp only[ae,ay]at hb;obtain⟨⟨⟨⟨b1,b2⟩,b3⟩,b4⟩,b5⟩:=hb;subst b3;have b4:=aG b4;have b5:=aG b5;obtain⟨i,hi,_,lv,QF,z,hz,xB,Qs⟩:=hT.jM w;have hx:=hE.rel h x;have hy:=hE.rel h y;rw[hn]at hx;rw[hc]at hy;obtain⟨q,rfl⟩:∃q:Nat,c=q:=⟨c.toNat,(Int.toNat_of_nonneg b1).symm⟩;have hq:q<=1000000000:=by simp[fe]at b2;omega
  have YM:i.bytes*q<=4096*1000000000:=Nat.mul_le_mul (by omega) hq;have fN:=run_make (P:=P) w t _ i z hd hi hz .i64 .i64 q q b1 (Int.le_refl _) (by omega) (by omega);simp only[au]at fN hK;change K (.own id 0 none) (m.gB id (some (.row ei.flat ei.size (List.replicate q ei.Dm))))=some r at hK;have hl:(List.replicate q ei.Dm).length=q:=by simp
  have GF:ei.Dm.cells.length=ei.size:=by rw[kX hT];simp[TI.tv,hT.Nc]
  refine .row (C:=madeCells z.cells (q*i.size)) (t:=e) (ht:=hT.tid) (f:=(0,0)) (cap:=q) h hid (by rw[hl];simp[execOp,ho,(eg hx).1,(eg hy).1,fN]) (lA w _) (j9 w _) ?_ ?_ ?_ ?_ ?_ ?_ hK
  ·exact .inl rfl
  ·intro v hv;rw[(bY.1 hv).2];exact GF
  ·intro v hv;simp only[dm,aY]at hv;obtain⟨u,hu,hv⟩:=hv;rw[(bY.1 hu).2]at hv;exact zw hT v hv
  ·rw[hl];exact aH _
  ·rw[size_madeCells,lv];exact aH _
  ·intro j c hj;have Sf:=(aE.1 hj).1;rw[(eJ ei.size _ (λv hv=>by rw[(bY.1 hv).2];exact GF)).1,hl]at Sf;have:=wO hj;rw[GF,kX hT]at this;simp only[TI.tv,aP,aD]at this;obtain⟨v,hv,rfl⟩:=this;have Ee:one v=true:=aA.1 hT.Ag v (aT hv);have K_:z.cells.size=ei.size:=by rw[<-br,xB,hT.Nc]
   have e:(madeCells z.cells (q*i.size)).getD j undef=v:=by
    have h1:j<q*i.size:=by rw[lv];exact Sf
    have h2:z.cells[j % ei.size]?=some v:=by rw[<-xB]at hv;simpa using hv
    have h3:z.cells[j % ei.size]! = v:=by rw[getElem!_def,h2]
    simp[madeCells,aK,h1,K_,h3]
   rw[e];exact .v v Ee
 ·cases eM
theorem wN(off:Nat):∀(vs:List Value) (k:Nat) (C:Array Value),(vs.zipIdx k).foldl (λcs (c,j)=>cs.setIfInBounds (off+j) c) C=lV C (off+k) vs
 | [],_,_=>rfl
 | v::vs,k,C=>by
  rw[List.zipIdx_cons,List.foldl_cons,wN off vs,lV];rfl
theorem po(off:Nat)(vs C:Array Value):vs.zipIdx.foldl (λcs (c,j)=>cs.setIfInBounds (off+j) c) C=lV C off vs.toList:=by
 rw[<-Array.foldl_toList,Array.toList_zipIdx];exact wN off vs.toList 0 C
theorem CI(h:dj W0 F0 U m L w μ F)(hE:Env G S a L)(pl:Nat->Option (Nat × Nat)):∀(parts:List (Nat × Operand)) (zs:List AV) (C:Array Value) (cs:List AV),
  sj pl zs (parts.map fun(i,x)=>(i,ev G S x))=some cs->C.size=zs.length->(∀j c,zs[j]?=some c->fL w F μ m U c (C.getD j undef))->
  ∃C',Instr.fill pl C (parts.map fun(i,x)=>(i,a.eval x))=some C'/\C'.size=cs.length/\∀j c,cs[j]?=some c->fL w F μ m U c (C'.getD j undef)
 | [],zs,C,cs,hK,hl,hr=>by
  simp[sj]at hK;subst hK;exact⟨C,rfl,hl,hr⟩
 | (i,x)::parts,zs,C,cs,hK,hl,hr=>by
  simp only[bx,sj]at hK;split at hK
  ·rename_i off size oK;obtain⟨hc,hK⟩:=c_ hK;simp only[ae]at hc;obtain⟨⟨c1,c2⟩,c3⟩:=hc;have c1:=aw c1;have c2:=aG c2;obtain⟨h1,h2,_⟩:=pT (hE.rel h x) c3;have Az:(a.eval x).cells.toList.length=size:=by rw[br,h1,c1]
   obtain⟨C',e1,e2,e3⟩:=CI h hE pl parts _ (lV C off (a.eval x).cells.toList) cs hK (by rw[eN,hl];simp[c1];omega) (λj c hj=>by
    by_cases Cj:j<off
    ·rw[bz,aO (by simp;omega),bU Cj]at hj;rw[il _ _ _ _ (.inl Cj)];exact hr j c hj
    ·by_cases hhi:j<off+size
     ·rw[aO (by simp[c1];omega),aR (by simp;omega)]at hj;have Pa:(zs.take off).length=off:=by simp;omega
      rw[Pa]at hj;have:=rh (a.eval x).cells.toList C off (j - off) (by omega) (by omega);rw[show off+(j - off)=j by omega]at this;rw[this];have:=h2 _ c hj;have eT:j - off<(a.eval x).cells.size:=by rw[<-br];omega
      simpa[Array.getD,eT]using this
     ·rw[aR (by simp[c1];omega),bm]at hj;have Pa:(zs.take off++(ev G S x).cells).length=off+size:=by simp[c1];omega
      rw[Pa,show off+size+(j - (off+size))=j by omega]at hj;rw[il _ _ _ _ (.inr (by omega))];exact hr j c hj)
   refine⟨C',?_,e2,e3⟩;simp only[bx,Instr.fill,oK];have lv:(a.eval x).cells.size=size:=by rw[h1,c1]
   rw[af (by simp[lv];omega),po];exact e1
  ·cases hK
theorem nC(hG:et P G):∀(fs:List Field) (l:List (Nat × Nat)),lz G (fs.map λf=>(f.type,f.offset))=some l->
  fs.mapM (λf=>(P.info? f.type).map λi=>(f.offset,i.size))=some l
 | [],l,h=>by simp[lz]at h;subst h;rfl
 | f::fs,l,h=>by
  simp only[bx,lz]at h;split at h
  ·rename_i fi s h1 h2;cases h;obtain⟨i,hi,lv,_⟩:=(hG.ti _ _ h1).info;simp[List.mapM_cons,hi,lv,nC hG fs s h2]
  ·cases h
theorem Hg(hG:et P G){t:TypeId}{parts:Array (Nat × Operand)}(ho:o.op=.build t parts)(h:dj W0 F0 U m L w μ F)(hE:Env G S a L)(hK:fM G o.op S m id K=some r) :
  lK P o a w W0 F0 U id L K r:=by
 rw[ho]at hK;simp only[fM]at hK;obtain⟨ti,mr,eM⟩:=cS hK;clear hK;obtain⟨qN,hK⟩:=c_ eM;clear eM;obtain⟨pl,oK,eM⟩:=cS hK;clear hK;obtain⟨cs,xF,hK⟩:=cS eM;clear eM;have hT:=hG.ti t ti mr;obtain⟨d,hd,hk⟩:=hT.uJ;obtain⟨it,hit,lv,_,z,hz,xB,_⟩:=hT.info;obtain⟨C,h1,h2,h3⟩:=CI h hE pl parts.toList ti.tv z.cells cs xF (by rw[<-br,xB];simp[TI.tv]) (λj c hj=>by
  simp only[TI.tv,aP,aD]at hj;obtain⟨y,hy,rfl⟩:=hj;have ho:one y=true:=aA.1 hT.Ag y (aT hy);rw[<-xB]at hy;have e:z.cells.getD j undef=y:=by
   simp at hy;simp[aK,hy]
  rw[e];exact⟨λ_=>ho,.v y ho⟩)
 have Pq:P.built t (parts.map fun(i,x)=>(i,a.eval x)).toList=some C:=by
  unfold placeOf at oK;split at oK
  ·rename_i fs fT;rw[fT]at hk;cases d<;>simp[fR]at hk;rename_i fields;split at oK
   ·rename_i l hl;cases oK;rw[<-hk]at hl;have:=nC hG fields.toList l hl;simp only[Program.built,hit,hd,hz,this];simpa using h1
   ·cases oK
  ·rename_i n e fT;rw[fT]at hk;cases d<;>simp[fR]at hk;obtain⟨_,rfl⟩:=hk;split at oK
   ·rename_i ei sZ;cases oK;obtain⟨ie,hie,hes,_⟩:=(hG.ti _ _ sZ).info;simp only[Program.built,hit,hd,hz,hie,hes];simpa using h1
   ·cases oK
  ·cases oK
 refine .calc h (v:=.agg C) ?_ hK ⟨C,rfl,h2,h3⟩
 simp only[execOp,ho,cv,run_build w t _ C Pq,cg];rfl
end
section
variable {R:Type} {P:Program} {G:fv} {o:Oper} {a:Act} {w w' : World} {W0:fh} {F0 U F:Nat->Prop} {id:Nat} {L L' : AV->Value->Prop} {K:AV->Mem->Option R} {r:R} {m:Mem} {μ:Mu} {S:List AV}
theorem dj.zr(h:dj W0 F0 U m L w μ F){id:Nat}{x:sv}{q:Option (Nat × Nat × Nat)}(hid:¬ U id)(hB:kt W0 w')(lv:w.heap.size<=w'.heap.size)
  (FE:∀k,k<w.heap.size->(∀o n,q≠some (k,o,n))->w'.heap[k]?=w.heap[k]?)
  (hq:∀b o n,q=some (b,o,n)->¬ W0.N b/\b<w'.heap.size/\¬ F b/\∀i y o' n',m i=some y->μ i≠some (b,o',n'))
  (hx:Holds w' F (λi=>if i=id then q else μ i) (m.gB id (some x)) (λi=>U i\/i=id) id x)
  (hL:∀y v,L' y v->L y v\/fg w' F (λi=>if i=id then q else μ i) (m.gB id (some x)) (λi=>U i\/i=id) y v) :
  dj W0 F0 (λi=>U i\/i=id) (m.gB id (some x)) L' w' (λi=>if i=id then q else μ i) F:=by
 have sT:∀i,U i->eO (m i) (m.gB id (some x) i)/\(m.gB id (some x) i≠none->(λi=>if i=id then q else μ i) i=μ i):=by
  intro i hi;have:i≠id:=λe=>hid (e ▸ hi);rw[Mem.dy _ _ this];exact⟨.refl _,λ_=>by simp[this]⟩
 have hw:∀k,F k->w'.heap[k]?=w.heap[k]?:=λk hk=>FE k (h.dW k hk).1 (λo n e=>(hq k o n e).2.2.1 hk);have fX:∀i y b o n,m i=some y->μ i=some (b,o,n)->w'.heap[b]?=w.heap[b]?:=λi y b o n hy hb=>
  FE b (h.own i y b o n hy hb).2.1 (λo' n' e=>(hq b o' n' e).2.2.2 i y o n hy hb)
 refine{ below:=hB,dW:=λb hb=>⟨bB (h.dW b hb).1 lv,(h.dW b hb).2⟩,sub:=h.sub,gl:=h.gl,used:=?_,lQ:=?_,own:=?_,inj:=?_,dT:=?_ }
 ·intro i y hy;by_cases e:i=id
  ·exact .inr e
  ·rw[Mem.dy _ _ e]at hy;exact .inl (h.used i y hy)
 ·intro i y hy;by_cases e:i=id
  ·subst e;rw[Mem.dQ]at hy;cases hy;exact hx
  ·rw[Mem.dy _ _ e]at hy;exact(h.lQ i y hy).mono (λ_ hb=>hb) hw (λ_ hi=>.inl hi) sT (by simp[e]) (λb o n hb=>fX i y b o n hy hb)
 ·intro i y b1 o1 n1 hy pR;by_cases e:i=id
  ·subst e;simp only[ck]at pR;obtain⟨h1,h2,h3,_⟩:=hq b1 o1 n1 pR;exact⟨h1,h2,h3⟩
  ·rw[Mem.dy _ _ e]at hy;simp only[e,if_false]at pR;obtain⟨h1,h2,h3⟩:=h.own i y b1 o1 n1 hy pR;exact⟨h1,bB h2 lv,h3⟩
 ·intro i i' y y' b1 o1 n1 o2 n2 hy pg pR yP;by_cases e:i=id
  ·by_cases e' : i'=id
   ·rw[e,e']
   ·exfalso;rw[Mem.dy _ _ e']at pg;simp only[e',if_false]at yP;simp only[e,ck]at pR;exact(hq _ _ _ pR).2.2.2 i' y' o2 n2 pg yP
  ·by_cases e' : i'=id
   ·exfalso;rw[Mem.dy _ _ e]at hy;simp only[e,if_false]at pR;simp only[e',ck]at yP;exact(hq _ _ _ yP).2.2.2 i y o1 n1 hy pR
   ·rw[Mem.dy _ _ e]at hy;rw[Mem.dy _ _ e']at pg;simp only[e,if_false]at pR;simp only[e',if_false]at yP;exact h.inj i i' y y' b1 o1 n1 o2 n2 hy pg pR yP
 ·intro y v hy;rcases hL y v hy with hy|hy
  ·exact(h.dT y v hy).mono (λ_ hb=>hb) hw (λ_ hi=>.inl hi) sT
  ·exact hy
structure PX(P:Program)(e:TypeId)(size:Nat)(tx:TypeId)(x:Value)(n:Nat)(news:List Value)(w:World):Prop where
 newsLen:news.length=n*size
 room:∀(t ty:TypeId) (i:TypeInfo),P.underlying t=some (.slice e)->P.info? e=some i->i.size=size->∀(b off jC lD:Nat),jC+n<=lD->
  (∀j,j<news.length->(w.cell? ⟨b,off+jC*i.size+j,none⟩).isSome=true)->(∀j,j<news.length->w.frozen? ⟨b,off+jC*i.size+j,none⟩=false)->
  (Builtin.append_ #[t,tx] ty #[.slice (some ⟨b,off,none⟩) jC lD,x]).run P w=.ok (.slice (some ⟨b,off,none⟩) (jC+n) lD) (w.setCells b (off+jC*i.size) news)
 grow:∀(t ty:TypeId) (i:TypeInfo) (z:Value),P.underlying t=some (.slice e)->P.info? e=some i->i.size=size->i.zero=some z->i.bytes<=4096->∀(base:Option Addr) (jC lD:Nat) (olds:List Value),
  (Builtin.firstCells i.size jC (.slice base jC lD)).run P w.drew=.ok olds.toArray w.drew->lD<jC+n->0<n->jC+n<=1000000000->Builtin.nextslicecap (jC+n) lD*i.bytes<=281474976710656->
  (Builtin.append_ #[t,tx] ty #[.slice base jC lD,x]).run P w=.ok (.slice (some ⟨w.heap.size,0,none⟩) (jC+n) (grownCap w (jC+n) lD e))
   (w.drew.alloc (.cells ((olds++news).toArray++Builtin.zeroCells z.cells (grownCap w (jC+n) lD e - (jC+n))) e))
 nothing:∀(t ty:TypeId) (i:TypeInfo),P.underlying t=some (.slice e)->P.info? e=some i->i.size=size->n=0->∀(base:Option Addr) (jC lD:Nat),jC<=lD->
  (Builtin.append_ #[t,tx] ty #[.slice base jC lD,x]).run P w=.ok (.slice base jC lD) w
theorem Src.Ov{e:TypeId}{size:Nat}{tx:TypeId}{x:Value}{n:Nat}{news:List Value}(h:Src P size tx x n news w):PX P e size tx x n news w:=by
 refine⟨h.newsLen,?_,?_,?_⟩
 ·intro t ty i ht hi hs b off jC lD hr hc hf;subst hs;exact run_append_room_src (P:=P) w t tx ty e i ht hi b off jC lD x n news h hr hc hf
 ·intro t ty i z ht hi hs hz hb base jC lD olds ho hg h0 hm Ef;subst hs;exact run_append_grow_src (P:=P) w t tx ty e i z ht hi hz base jC lD olds ho x n news h hg (by omega) Ef
 ·intro t ty i ht hi hs hn base jC lD hle;subst hs;subst hn;have:news=[]:=aV.1 (by rw[h.newsLen];simp);subst this;exact run_append_nothing (P:=P) w t tx ty e i ht hi base jC lD hle x h
theorem Dk{e:TypeId}{i0:TypeInfo}{z0:Value}{tx:TypeId}{kn:IntKind}(TZ:P.underlying tx=some (.int kn))(GN:P.info? e=some i0)(RO:i0.zero=some z0)(K_:z0.cells.size=i0.size)(h1:0<i0.size)(Ee:∀u∈z0.cells.toList,u.oneCell'=true)
  (hb0:i0.bytes<=4096) (k:Nat) (hk:k<=1000000000):PX P e i0.size tx (.int .i64 k) k (Builtin.zeroCells z0.cells k).toList w:=by
 have hw:IntKind.i64.wrap (k:Int)=k:=by rw[IntKind.wrap_i64];omega
 have Yq:IntKind.i64.wrap 0=0:=by rw[IntKind.wrap_i64];rfl
 have V_:¬ ((k:Int)<0):=by omega
 have YM:k*i0.bytes<=1000000000*4096:=Nat.mul_le_mul hk hb0;have W7:¬ (281474976710656<(k:Int)*(i0.bytes:Int)):=by
  rw[<-Int.natCast_mul];omega
 have hlen:(Builtin.zeroCells z0.cells k).toList.length=k*i0.size:=by rw[br,size_zeroCells,K_]
 have RM:∀u∈(Builtin.zeroCells z0.cells k).toList,u.oneCell'=true:=by
  intro u hu;have hu:u∈Builtin.zeroCells z0.cells k:=by simpa using hu
  unfold Builtin.zeroCells at hu;rw[Array.mem_map]at hu;obtain⟨j,_,rfl⟩:=hu;have eT:j % z0.cells.size<z0.cells.size:=Nat.mod_lt _ (by omega);rw[getElem!_pos z0.cells (j % z0.cells.size) eT];exact Ee _ (by simp)
 refine⟨hlen,?_,?_,?_⟩
 ·intro t ty i ht hi hs b off jC lD yN hc hf;rw[GN]at hi;cases hi;by_cases FF:k=0
  ·subst FF;have xD:(Builtin.zeroCells z0.cells 0).toList=[]:=aV.1 (by rw[hlen];simp);rw[xD];have hle:jC<=lD:=yN;simp[Builtin.append_,bu ht,bu TZ,sizeOf,typeInfo,GN,asInt,asIntOf,Yq,hle,storeCells,World.setCells]
  ·have rT:=run_storeCells_cells (P:=P) b (off+jC*i0.size) (Builtin.zeroCells z0.cells k).toList 0 w (by simpa using hc) (by simpa using hf) RM;simp only[bE]at rT;have hns:¬ (k*i0.size=0):=Nat.mul_ne_zero FF (by omega);simp[Builtin.append_,bu ht,bu TZ,sizeOf,typeInfo,zeroValue,GN,RO,asInt,asIntOf,hw,V_,W7,hns,yN,Addr.add_lit,rT]
 ·intro t ty i z ht hi hs hz hb base jC lD olds ho hg h0 hm Ef;rw[GN]at hi;cases hi;rw[RO]at hz;cases hz;have:=Lib.run_append_grow_zeros (P:=P) w t tx ty e i0 z0 .i64 kn ht TZ GN RO base jC lD olds ho k h0 h1 hg (by omega) (by omega) Ef;rw[this];congr 4;apply Array.ext';simp
 ·intro t ty i ht hi hs hn base jC lD hle;subst hn;cases base<;>simp[Builtin.append_,bu ht,bu TZ,sizeOf,typeInfo,GN,asInt,asIntOf,Yq,hle,storeCells]
structure Yields(P:Program)(w:World)(F:Nat->Prop)(e:TypeId)(size:Nat)(fl:Fl)(u:TypeId)(v:Value)(ys:List AV)(news:List Value):Prop where
 src:PX P e size u v ys.length news w
 cells:∀y∈ys,y.cells.length=size
 ok:∀c∈dm ys,xl fl c
 rel:∀(j:Nat) (c:AV),(dm ys)[j]?=some c->Rel w F c (news.getD j undef)
theorem zA{u e:TypeId}{ei:TI}{kn:IntKind}(hu:P.underlying u=some (.int kn))(hT:pv P e ei)(hb:ei.bytes<=4096)(h1:0<ei.size)(k:Nat)(hk:k<=1000000000) :
  ∃news,Yields P w F e ei.size ei.flat u (.int .i64 k) (List.replicate k ei.Dm) news:=by
 obtain⟨i,hi,_,lv,QF,z,hz,xB,Qs⟩:=hT.jM w;have K_:z.cells.size=ei.size:=by rw[<-br,xB,hT.Nc]
 have GF:ei.Dm.cells.length=ei.size:=by rw[kX hT];simp[TI.tv,hT.Nc]
 refine⟨(Builtin.zeroCells z.cells k).toList,?_,?_,?_,?_⟩
 ·rw[bX,<-lv];refine Dk hu hi hz (by omega) (by omega) (λv hv=>?_) (by omega) k hk;rw[xB]at hv;rw[lq];exact aA.1 hT.Ag v hv
 ·intro v hv;rw[(bY.1 hv).2];exact GF
 ·intro v hv;simp only[dm,aY]at hv;obtain⟨u,hu,hv⟩:=hv;rw[(bY.1 hu).2]at hv;exact zw hT v hv
 ·intro j c hj;have Sf:=(aE.1 hj).1;rw[(eJ ei.size _ (λv hv=>by rw[(bY.1 hv).2];exact GF)).1,bX]at Sf;have:=wO hj;rw[GF,kX hT]at this;simp only[TI.tv,aP,aD]at this;obtain⟨v,hv,rfl⟩:=this;have Ee:one v=true:=aA.1 hT.Ag v (aT hv);have e:(Builtin.zeroCells z.cells k).toList.getD j undef=v:=by
   have h2:z.cells[j % ei.size]?=some v:=by rw[<-xB]at hv;simpa using hv
   have h3:z.cells[j % ei.size]! = v:=by rw[getElem!_def,h2]
   rw[ah];simp[Builtin.zeroCells,K_,Sf,h3]
  rw[e];exact .v v Ee
theorem zB{x:AV}{v:Value}{K:Fl->Nat->List AV->Option R}{u e e' : TypeId}{fl:Fl}{size:Nat}(hu:P.underlying u=some (.slice e'))(h:dj W0 F0 U m L w μ F)(hx:fg w F μ m U x v)
  (hK:jF m x (λiA sz ys=>bif(iA==fl&&Nat.beq sz size)||(Nat.beq sz 0&&ys.isEmpty)then K iA sz ys else none)=some r) :
  ∃iA sz ys news,K iA sz ys=some r/\Yields P w F e size fl u v ys news:=by
 have nil:∀(c:Nat),Yields P w F e size fl u (.slice none 0 c) [] []:=λc=>⟨Src.Ov (.ofNil w hu c),by simp,by simp[dm],by simp[dm]⟩;have full:∀(iA : Fl) (sz:Nat) (ys:List AV) (ad:Addr) (cap:Nat) (f:Nat->Value),((iA==fl&&Nat.beq sz size)||(Nat.beq sz 0&&ys.isEmpty))=true->(∀x∈ys,x.cells.length=sz)->(∀c∈dm ys,xl iA c)->
   (∀j,j<(dm ys).length->w.cell? (ad.add j)=some (f j))->(∀j c,(dm ys)[j]?=some c->Rel w F c (f j))->
   Yields P w F e size fl u (.slice (some ad) ys.length cap) ys ((List.range (dm ys).length).map f):=by
  intro iA sz ys ad cap f hc hs fF kS nb;have tU : ∀x∈ys,x.cells.length=size:=by
   intro x hx;rw[bC,ae,ae]at hc;rcases hc with⟨_,hc⟩|⟨_,hc⟩
   ·rw[hs x hx,aw hc]
   ·simp at hc;subst hc;cases hx
  have GJ : ∀c∈dm ys,xl fl c:=by
   intro c WG;rw[bC,ae,ae]at hc;rcases hc with⟨hc,_⟩|⟨_,hc⟩
   ·have:iA=fl:=by simpa using hc
    rw[<-this];exact fF c WG
   ·simp at hc;subst hc;simp[dm]at WG
  have J0:∀j,j<(dm ys).length->((List.range (dm ys).length).map f)[j]?=some (f j):=by intro j hj;simp[hj]
  refine⟨Src.Ov (.ofSlice w hu ad _ cap _ ?_ ?_ ?_),tU,GJ,?_⟩
  ·rw[aj,List.length_range,(eJ size ys tU).1]
  ·intro j v hj;have eT:j<(dm ys).length:=by have:=(aE.1 hj).1;simpa using this
   rw[J0 j eT]at hj;cases hj;exact kS j eT
  ·intro v hv;simp only[cD,bM]at hv;obtain⟨j,hj,rfl⟩:=hv;rw[lq];have hg:(dm ys)[j]?=some (dm ys)[j]:=aN hj;exact(nb j _ hg).na (GJ _ (aZ hj)).1
  ·intro j c hj;have eT:=(aE.1 hj).1;rw[ah,J0 j eT];exact nb j c hj
 unfold jF at hK;split at hK
 ·obtain⟨hc,hK⟩:=c_ hK;have:=(eg hx).1;subst this;exact⟨_,_,_,_,hK,nil 0⟩
 ·rename_i iA sz xs;obtain⟨hc,hK⟩:=c_ hK;obtain⟨_,hx⟩:=hx;cases hx with
  | xt=>exact⟨_,_,_,_,hK,nil 0⟩
  | sl _ _ _ ad cap f hF Po hs hf kS hr=>exact⟨_,_,_,_,hK,full iA sz xs ad cap f hc hs hf kS hr⟩
 ·rename_i j off l;split at hK
  ·rename_i iA sz xs hm;obtain⟨hc,hK⟩:=c_ hK;obtain⟨_,O_,hx⟩:=hx;obtain⟨ad,cap,rfl,kM,hlen,hp⟩:=hx iA sz xs hm;obtain⟨hs,nc,iR⟩:=h.lQ j _ hm;have sS:=nt off l xs;generalize hn:lenOf xs.length off l=n at *;generalize hY:rowOf off l xs=ys at *;have hl:ys.length=n:=by rw[sS];simp;omega
   have tU : ∀x∈ys,x.cells.length=sz:=λx hx=>hs x (bg (aX (by rwa[sS]at hx)));have xE : ∀x∈dm ys,xl iA x:=by
    intro x hx;rw[sS]at hx;simp only[dm,aY]at hx;obtain⟨y,hy,hx⟩:=hx;exact nc x (by simp only[dm,aY];exact⟨y,bg (aX hy),hx⟩)
   rcases hp with⟨rfl,rfl⟩|⟨b,o,nn,ad,fG,rfl,hb,eI⟩
   ·have h0:n=0:=by omega
    subst h0;have:ys=[]:=aV.1 hl;subst this;exact⟨_,_,_,_,hK,nil 0⟩
   ·by_cases h0:n=0
    ·subst h0;have:ys=[]:=aV.1 hl;subst this;exact⟨_,_,_,_,hK,full iA sz [] ad cap (λ_=>undef) hc (by simp) (by simp[dm]) (by simp[dm]) (by simp[dm])⟩
    ·rcases eI with rfl|⟨rfl,Ei⟩
     ·omega
     ·rcases iR with⟨rfl,eh⟩|⟨b',o',C,f,eh,hh,hC,ni,hr⟩
      ·rw[fG]at eh;cases eh
      ·rw[fG]at eh;simp only[bh,bI]at eh;obtain⟨rfl,rfl,rfl⟩:=eh;have:=full iA sz ys ⟨b,o+off*sz,none⟩ cap (λj=>C.getD (o+(off*sz+j)) undef) hc tU xE ?_ ?_
       ·rw[hl]at this;exact⟨_,_,_,_,hK,this⟩
       ·intro j hj;rw[(eJ sz _ tU).1,hl]at hj;rw[jS];have h1:(off+n)*sz<=xs.length*sz:=bf _ hlen;rw[bK]at h1;rw[show o+off*sz+j=o+(off*sz+j) by omega];exact cell_of hh (by omega)
       ·intro j c hj;rw[sS]at hj;have hj:=fZ sz n _ j c hj;rw[gW sz off xs hs,bm]at hj;exact hr _ c hj
  ·cases hK
 ·cases hK
end
section
variable {R:Type} {P:Program} {G:fv} {o:Oper} {a:Act} {w w' : World} {W0:fh} {F0 U F:Nat->Prop} {id:Nat} {L L' : AV->Value->Prop} {K:AV->Mem->Option R} {r:R} {m:Mem} {μ:Mu} {S:List AV}
theorem mS{c:Call}{x y:Operand}{t u:TypeId}(ho:o.op=.call c)(hc:c.callee=.builtin .append)(ha:c.args=#[x,y])(tV:c.argTypes=#[t,u]){v:Value}
  (h:(Builtin.append_ #[t,u] o.type #[a.eval x,a.eval y]).run P w=.ok v w'):(execOp a.eval o).run P w=.ok (.value v) w':=by
 simp[execOp,ho,resolve,hc,ha,tV,invoke,builtin,h]
theorem gS(xs ys:List AV):dm (xs++ys)=dm xs++dm ys:=by simp[dm]
theorem A0{xs ys:List AV}{size:Nat}{olds news:List Value}{D:List Value}(Cj:olds.length=xs.length*size)(Ms:∀x∈xs,x.cells.length=size)(hcy:∀x∈ys,x.cells.length=size)
  (N1:news.length=ys.length*size)
  (hx:∀j c,(dm xs)[j]?=some c->Rel w F c (olds.getD j undef)) (hy:∀j c,(dm ys)[j]?=some c->Rel w F c (news.getD j undef)) :
  ∀j c,(dm (xs++ys))[j]?=some c->Rel w F c ((olds++news++D).getD j undef):=by
 intro j c hj;rw[gS]at hj;have e1:=(eJ size xs Ms).1;have e2:=(eJ size ys hcy).1;have eT:=(aE.1 hj).1;rw[ai,e1,e2]at eT;rw[ah,aO (by rw[ai];omega)];by_cases h:j<xs.length*size
 ·rw[aO (by omega)]at hj;rw[aO (by omega),<-ah];exact hx j c hj
 ·rw[aR (by omega),e1]at hj;rw[aR (by omega),Cj,<-ah];exact hy _ c hj
theorem lJ{t u e:TypeId}{ei:TI}{x y:Operand}{c:Call}(hT:pv P e ei)(hd:P.underlying t=some (.slice e))(ho:o.op=.call c)(hc:c.callee=.builtin .append)(ha:c.args=#[x,y])(tV:c.argTypes=#[t,u])
  (h:dj W0 F0 U m L w μ F) (hid:∀j,j<8->¬ U (id+j)) {base:Option Addr} {xs ys:List AV} {cap:Nat} {olds news:List Value} (hb:ei.bytes<=4096)
  (hv:a.eval x=.slice base xs.length cap) (Ms:∀x∈xs,x.cells.length=ei.size) (R8:∀c∈dm xs,xl ei.flat c) (Cj:olds.length=xs.length*ei.size)
  (hrx:∀j c,(dm xs)[j]?=some c->Rel w F c (olds.getD j undef)) (hold:(Builtin.firstCells ei.size xs.length (.slice base xs.length cap)).run P w.drew=.ok olds.toArray w.drew)
  (hY:Yields P w F e ei.size ei.flat u (a.eval y) ys news) (qL:0<ys.length) (Cm:cap<xs.length+ys.length) (hm:xs.length+ys.length<=fe)
  (hK:K (.own id 0 none) (m.gB id (some (.row ei.flat ei.size (xs++ys))))=some r):lK P o a w W0 F0 U id L K r:=by
 obtain⟨i,hi,_,lv,QF,z,hz,xB,Qs⟩:=hT.jM w;have sT:xs.length+ys.length<=1000000000:=hm;have YM:(xs.length+ys.length)*i.bytes<=1000000000*4096:=Nat.mul_le_mul sT (by omega);have Ef:=growslice_fits Cm (bytes:=i.bytes) (by omega);have fN:=hY.src.grow t o.type i z hd hi lv hz (by omega) base xs.length cap olds (by rw[lv];exact hold) Cm qL (by omega) Ef;have N1:=hY.src.newsLen;have Sj:=grownCap_ge w (xs.length+ys.length) cap e;have K_:z.cells.size=ei.size:=by rw[<-br,xB,hT.Nc]
 have hl:(xs++ys).length=xs.length+ys.length:=ai;have GF:(Builtin.zeroCells z.cells (grownCap w (xs.length+ys.length) cap e - (xs.length+ys.length))).size=(grownCap w (xs.length+ys.length) cap e - (xs.length+ys.length))*ei.size:=by rw[size_zeroCells,K_]
 refine .row (C:=(olds++news).toArray++Builtin.zeroCells z.cells (grownCap w (xs.length+ys.length) cap e - (xs.length+ys.length))) (t:=e) (ht:=hT.tid) (f:=(0,0)) (cap:=grownCap w (xs.length+ys.length) cap e) h hid
  (by rw[hl];exact mS ho hc ha tV (by rw[hv];exact fN)) ((Below.refl _ w).drew.alloc (aH _) _) (j9 w.drew _) ?_ ?_ ?_ ?_ ?_ ?_ hK
 ·exact .inl rfl
 ·intro v hv;rcases aS.1 hv with hv|hv
  ·exact Ms v hv
  ·exact hY.cells v hv
 ·intro v hv;rw[gS]at hv;rcases aS.1 hv with hv|hv
  ·exact R8 v hv
  ·exact hY.ok v hv
 ·omega
 ·rw[Array.size_append,GF];simp only[List.size_toArray,ai,Cj,N1];rw[Nat.sub_mul,bK];have:=bf ei.size Sj;rw[bK]at this;omega
 ·intro j c hj;have:=A0 (D:=(Builtin.zeroCells z.cells (grownCap w (xs.length+ys.length) cap e - (xs.length+ys.length))).toList) Cj Ms hY.cells N1 hrx hY.rel j c hj;have e' : ((olds++news).toArray++Builtin.zeroCells z.cells (grownCap w (xs.length+ys.length) cap e - (xs.length+ys.length))).getD j undef
    = (olds++news++(Builtin.zeroCells z.cells (grownCap w (xs.length+ys.length) cap e - (xs.length+ys.length))).toList).getD j undef:=by
   rw[ah,aK,<-cw];simp
  rw[e'];exact this
theorem xo{u:TypeId}{s:ByteArray}{e:TypeId}{ei:TI}(hu:P.underlying u=some .string)(hs:ei.size=1):Yields P w F e ei.size ei.flat u (.string s) (s.toList.map λb=>vu b.toNat) (byteCells s):=by
 have nc:dm (s.toList.map λb=>vu b.toNat)=s.toList.map λb=>vu b.toNat:=iK (λc hc=>by simp at hc;obtain⟨_,_,rfl⟩:=hc;rfl);have hl:(s.toList.map λb=>vu b.toNat).length=s.size:=by simp[cJ]
 refine⟨by rw[hl,hs];exact Src.Ov (.ofString w hu s),?_,?_,?_⟩
 ·intro y hy;simp at hy;obtain⟨_,_,rfl⟩:=hy;rw[hs];rfl
 ·intro y hy;rw[nc]at hy;simp at hy;obtain⟨_,_,rfl⟩:=hy;exact Ar (x:=.v _) rfl
 ·intro j c hj;rw[nc]at hj;simp only[aP,aD]at hj;obtain⟨b,hb,rfl⟩:=hj;have:(byteCells s).getD j undef=.int .u8 b.toNat:=by
   rw[cJ]at hb;rw[ah];simp only[byteCells,aP,hb];rfl
  rw[this];exact .v _ rfl
end
end Go.Proofs.Ev
end