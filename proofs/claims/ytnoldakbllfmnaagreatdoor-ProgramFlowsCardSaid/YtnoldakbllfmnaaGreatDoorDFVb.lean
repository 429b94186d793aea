import Derived.Test.YtnoldakbllfmnaaGreatDoorDFVa
import Derived.ChangeAgain
noncomputable section
namespace Go.Proofs.Ev
open Go Go.RowKit
set_option linter.unusedVariables false
section
variable {R:Type} {P:Program} {G:Cfg} {o:Oper} {a:Act} {w w' : World} {W0:Base} {F0 U F:Nat→Prop} {id:Nat} {L L' : AV→Value→Prop} {K:AV→Mem→Option R} {r:R} {m:Mem} {μ:Mu} {S:List AV}
theorem fill_lit {ei:TI} (h:InvAt W0 F0 U m L w μ F) (hE:Env G S a L) (I:List Nat):∀ (parts:List (Nat × Operand)) (i0:Nat) (C:Array Value) (xs:List AV),
  litOk i0 (parts.map fun (i,x)=>(i,ev G S x))=true→keepL m ei (parts.map fun (_,x)=>ev G S x)=some xs→(∀ i∈(parts.map fun (_,x)=>ev G S x).flatMap idsA,i∈I)→
  (i0+parts.length)*ei.size≤C.size→
  ∃ C',Instr.fill (fun i=>some (i*ei.size,ei.size)) C (parts.map fun (i,x)=>(i,a.eval x))=some C'∧C'.size=C.size∧(∀ k,k < i0*ei.size→C'.getD k undef=C.getD k undef)∧
   xs.length=parts.length∧(∀ x∈xs,x.cells.length=ei.size)∧(∀ c∈flatL xs,okE ei.flat c)∧
   ∀ j c,(flatL xs)[j]?=some c→Rel w (fun b=>F b∨blksOf μ m I b) c (C'.getD (i0*ei.size+j) undef)
 | [],i0,C,xs,hl,hk,hI,hC=>by
  simp [keepL] at hk
  subst hk
  exact ⟨C,rfl,rfl,fun _ _=>rfl,rfl,by simp,by simp [flatL],by simp [flatL]⟩
 | (i,x)::parts,i0,C,xs,hl,hk,hI,hC=>by
  simp only [List.map_cons,litOk,Bool.and_eq_true] at hl
  obtain ⟨hi,hl⟩:=hl
  have hi:=Nat.eq_of_beq_eq_true hi
  subst hi
  simp only [List.map_cons,keepL] at hk
  split at hk
  ·rename_i y s hy hs
   cases hk
   have hX:=hE.rel h x
   obtain ⟨k1,k2,k3,k4⟩:=keepE_rel h hX hy I (fun j hj=>hI j (by simp only [List.map_cons,List.flatMap_cons,List.mem_append]; exact .inl hj))
   obtain ⟨h1,h2,h3⟩:=rel_cells k1 k3
   have hsl:(a.eval x).cells.toList.length=ei.size:=by rw [Array.length_toList,h1,k2]
   have hsz:(a.eval x).cells.size=ei.size:=by rw [h1,k2]
   simp only [List.length_cons] at hC
   have hC1:(i0+1+parts.length)*ei.size≤C.size:=by rw [show i0+1+parts.length=i0+(parts.length+1) by omega]; exact hC
   have hC2:i0*ei.size+ei.size≤C.size:=by
    have:(i0+1)*ei.size≤(i0+1+parts.length)*ei.size:=Nat.mul_le_mul_right _ (by omega)
    rw [Nat.succ_mul] at this
    omega
   obtain ⟨C',e1,e2,e3,e4,e5,e6,e7⟩:=fill_lit h hE I parts (i0+1) (wrAt C (i0*ei.size) (a.eval x).cells.toList) s hl hs (fun j hj=>hI j (by simp only [List.map_cons,List.flatMap_cons,List.mem_append]; exact .inr hj)) (by rw [wrAt_size]; exact hC1)
   have hfl:flatL (y::s)=y.cells++flatL s:=by simp [flatL]
   refine ⟨C',?_,by rw [e2,wrAt_size],?_,by simp [e4],?_,?_,?_⟩
   ·simp only [List.map_cons,Instr.fill]
    rw [if_neg (by simp [hsz]; omega),foldl_wrAt']
    exact e1
   ·intro k hk
    rw [e3 k (by rw [Nat.succ_mul]; omega),wrAt_out _ _ _ _ (.inl hk)]
   ·intro z hz
    rcases List.mem_cons.1 hz with rfl | hz
    ·exact k2
    ·exact e5 z hz
   ·intro c hc
    rw [hfl] at hc
    rcases List.mem_append.1 hc with hc | hc
    ·exact ⟨List.all_eq_true.1 k3 c hc,fun hf=>k4 hf c hc⟩
    ·exact e6 c hc
   ·intro j c hj
    rw [hfl] at hj
    by_cases hlt:j < ei.size
    ·rw [List.getElem?_append_left (by omega)] at hj
     have:=h2 j c hj
     rw [e3 _ (by rw [Nat.succ_mul]; omega)]
     have e:=wrAt_getD (vs:=(a.eval x).cells.toList) (C:=C) (o:=i0*ei.size) (j:=j) (by omega) (by omega)
     rw [e]
     have e' : (a.eval x).cells.toList.getD j undef=(a.eval x).cells.getD j undef:=by simp [List.getD_eq_getElem?_getD,Array.getD_eq_getD_getElem?]
     rw [e']
     exact this
    ·rw [List.getElem?_append_right (by omega),k2] at hj
     have:=e7 _ c hj
     rw [show (i0+1)*ei.size+(j - ei.size)=i0*ei.size+j by rw [Nat.succ_mul]; omega] at this
     exact this
  ·cases hk
theorem fill_fns {ei:TI} (h1:ei.size=1) (h:InvAt W0 F0 U m L w μ F) (hE:Env G S a L):∀ (parts:List (Nat × Operand)) (i0:Nat) (C:Array Value),
  litOk i0 (parts.map fun (i,x)=>(i,ev G S x))=true→(parts.map fun (_,x)=>ev G S x).all AV.okD=true→i0+parts.length≤C.size→
  ∃ C',Instr.fill (fun i=>some (i*ei.size,ei.size)) C (parts.map fun (i,x)=>(i,a.eval x))=some C'∧C'.size=C.size∧(∀ k,k < i0→C'.getD k undef=C.getD k undef)∧
   ∀ j c,(parts.map fun (_,x)=>ev G S x)[j]?=some c→RelC w F μ m U c (C'.getD (i0+j) undef)
 | [],i0,C,hl,hk,hC=>⟨C,rfl,rfl,fun _ _=>rfl,by simp⟩
 | (i,x)::parts,i0,C,hl,hk,hC=>by
  simp only [List.map_cons,litOk,Bool.and_eq_true] at hl
  obtain ⟨hi,hl⟩:=hl
  have hi:=Nat.eq_of_beq_eq_true hi
  subst hi
  simp only [List.map_cons,List.all_cons,Bool.and_eq_true] at hk
  have hcl:(ev G S x).cells=[ev G S x]∧(ev G S x).okC=true:=by
   have:=hk.1
   cases hX:ev G S x <;> rw [hX] at this <;> first | (cases this; done) | exact ⟨rfl,rfl⟩
  obtain ⟨q1,q2,_⟩:=cells_rel (hE.rel h x) (by rw [hcl.1]; simp [hcl.2])
  rw [hcl.1] at q1 q2
  have q1:(a.eval x).cells.size=1:=q1
  have q3:=q2 0 _ rfl
  have hsl:(a.eval x).cells.toList.length=1:=by rw [Array.length_toList,q1]
  simp only [List.length_cons] at hC
  obtain ⟨C',e1,e2,e3,e4⟩:=fill_fns h1 h hE parts (i0+1) (wrAt C i0 (a.eval x).cells.toList) hl hk.2 (by rw [wrAt_size]; omega)
  refine ⟨C',?_,by rw [e2,wrAt_size],fun k hk=>?_,fun j c hj=>?_⟩
  ·simp only [List.map_cons,Instr.fill]
   rw [if_neg (by simp [q1,h1]; omega),foldl_wrAt',h1,Nat.mul_one]
   rw [h1] at e1
   exact e1
  ·rw [e3 k (by omega),wrAt_out _ _ _ _ (.inl hk)]
  ·cases j with
   | zero=>
    simp only [List.map_cons,List.getElem?_cons_zero,Option.some.injEq] at hj
    subst hj
    rw [e3 _ (by omega)]
    have e:=wrAt_getD (vs:=(a.eval x).cells.toList) (C:=C) (o:=i0) (j:=0) (by omega) (by omega)
    rw [e]
    have e' : (a.eval x).cells.toList.getD 0 undef=(a.eval x).cells.getD 0 undef:=by simp [List.getD_eq_getElem?_getD,Array.getD_eq_getD_getElem?]
    rw [e']
    exact q3
   | succ j=>
    have:=e4 j c (by simpa using hj)
    rw [show i0+(j+1)=i0+1+j by omega]
    exact this
theorem did_buildSlice (hG:CfgOk P G) {t:TypeId} {len:Nat} {parts:Array (Nat × Operand)} (ho:o.op=.buildSlice t len parts) (h:InvAt W0 F0 U m L w μ F) (hE:Env G S a L) (hid:∀ j,j < 8→¬ U (id+j)) (hK:opK G o.op S m id K=some r) :
  Did P o a w W0 F0 U id L K r:=by
 rw [ho] at hK
 simp only [opK] at hK
 obtain ⟨ti,hti,hK1⟩:=withSome_some hK
 clear hK
 obtain ⟨d,hd,hk⟩:=(hG.ti t ti hti).und
 split at hK1
 ·rename_i e hkd
  rw [hkd] at hk
  cases d <;> simp [kdOk] at hk
  subst hk
  obtain ⟨ei,hei,hK⟩:=withSome_some hK1
  clear hK1
  have hT:=hG.ti _ ei hei
  cases hot:isOther ei.kd with
  | true=>
   rw [hot,cond_true] at hK
   obtain ⟨hc,hK1⟩:=bif_some hK
   clear hK
   simp only [Bool.and_eq_true] at hc
   obtain ⟨⟨⟨⟨c1,c2⟩,c3⟩,c4⟩,c5⟩:=hc
   have c1:=Nat.eq_of_beq_eq_true c1
   have c3:=Nat.le_of_ble_eq_true c3
   have c4:=Nat.eq_of_beq_eq_true c4
   obtain ⟨i,hi,_,hsz,hby,z,hz,hzc,hza⟩:=hT.run_info w
   have hpl:parts.toList.length=len:=by rw [Array.length_toList,c1]
   have go:∀ C:Array Value,C.size=len*ei.size→(∀ C',Instr.fill (fun i=>some (i*ei.size,ei.size)) C (parts.toList.map fun (i,x)=>(i,a.eval x))=some C'→
     (Instr.buildSlice t len (parts.map fun (i,x)=>(i,a.eval x))).run P w=.ok (.slice (some ⟨w.heap.size,0,none⟩) len len) (w.alloc (.cells C' e)))→Did P o a w W0 F0 U id L K r:=by
    intro C hC hrun
    obtain ⟨C',e1,e2,e3,e4⟩:=fill_fns c4 h hE parts.toList 0 C c2 c5 (by rw [hpl,hC,c4]; omega)
    have hrun:=hrun C' e1
    have hll:(parts.toList.map fun (_,x)=>ev G S x).length=len:=by rw [List.length_map,hpl]
    refine .bs (C:=C') (t:=e) h hid (by rw [hll]; simp [execOp,ho,hrun]) (by rw [hll,e2,hC,c4]; omega) (fun j c hj=>by have:=e4 j c hj; rw [Nat.zero_add] at this; exact this) hK1
   by_cases h0:len*ei.size=0
   ·refine go #[] (by simp [h0]) (fun C' hC'=>?_)
    simp [Instr.buildSlice,run_underlying hd,sizeOf,typeInfo,hi,hsz,h0,hC',newRow,Array.range_zero']
   ·refine go (madeCells z.cells (len*ei.size)) (size_madeCells _ _) (fun C' hC'=>?_)
    have:¬ (16777216 < len*ei.size):=by omega
    simp only [madeCells] at hC'
    simp [Instr.buildSlice,run_underlying hd,sizeOf,typeInfo,zeroValue,hi,hz,hsz,this,h0,hC',newRow]
  | false=>
  rw [hot,cond_false] at hK
  obtain ⟨hc,hK1⟩:=bif_some hK
  clear hK
  simp only [Bool.and_eq_true] at hc
  obtain ⟨⟨⟨c1,c2⟩,c3⟩,c4⟩:=hc
  have c1:=Nat.eq_of_beq_eq_true c1
  have c3:=Nat.le_of_ble_eq_true c3
  obtain ⟨xs,hxs,hK⟩:=withSome_some hK1
  clear hK1
  obtain ⟨i,hi,_,hsz,hby,z,hz,hzc,hza⟩:=hT.run_info w
  have hpl:parts.toList.length=len:=by rw [Array.length_toList,c1]
  obtain ⟨I,hI⟩ : ∃ I,I=(parts.toList.map fun (_,x)=>ev G S x).flatMap idsA:=⟨_,rfl⟩
  have go:∀ C:Array Value,C.size=len*ei.size→(∀ C',Instr.fill (fun i=>some (i*ei.size,ei.size)) C (parts.toList.map fun (i,x)=>(i,a.eval x))=some C'→
    (Instr.buildSlice t len (parts.map fun (i,x)=>(i,a.eval x))).run P w=.ok (.slice (some ⟨w.heap.size,0,none⟩) len len) (w.alloc (.cells C' e)))→Did P o a w W0 F0 U id L K r:=by
   intro C hC hrun
   obtain ⟨C',e1,e2,e3,e4,e5,e6,e7⟩:=fill_lit h hE I parts.toList 0 C xs c2 hxs (fun j hj=>by rw [hI]; exact hj) (by rw [hpl,hC]; simp)
   have hrun:=hrun C' e1
   rw [← hI] at hK
   refine .row (C:=C') (t:=e) (ht:=hT.tid) (f:=(0,0)) (cap:=len) (h.freeze I) hid (by rw [e4,hpl]; simp [execOp,ho,hrun]) (below_alloc w _) (alloc_heap w _) (.inl rfl) e5 e6 (by omega) (by rw [e2,hC]; exact Nat.le_refl _) (fun j c hj=>by simpa using e7 j c hj) hK
  by_cases h0:len*ei.size=0
  ·refine go #[] (by simp [h0]) (fun C' hC'=>?_)
   simp [Instr.buildSlice,run_underlying hd,sizeOf,typeInfo,hi,hsz,h0,hC',newRow,Array.range_zero']
  ·refine go (madeCells z.cells (len*ei.size)) (size_madeCells _ _) (fun C' hC'=>?_)
   have:¬ (16777216 < len*ei.size):=by omega
   simp only [madeCells] at hC'
   simp [Instr.buildSlice,run_underlying hd,sizeOf,typeInfo,zeroValue,hi,hz,hsz,this,h0,hC',newRow]
 ·cases hK1
theorem Mem.upd_self {m:Mem} {j:Nat} {x:Blk} (h:m j=some x):m.upd j (some x)=m:=by
 funext i
 by_cases e:i=j
 ·subst e; rw [Mem.upd_same,h]
 ·rw [Mem.upd_other _ _ e]
theorem did_clear (hG:CfgOk P G) {c:Call} (ho:o.op=.call c) (hc:c.callee=.builtin .clear) (h:InvAt W0 F0 U m L w μ F) (hE:Env G S a L) (hK:opK G o.op S m id K=some r) :
    Did P o a w W0 F0 U id L K r:=by
  rw [ho] at hK
  simp only [opK,hc] at hK
  split at hK
  · rename_i t x ht hxs
    have ha:c.args=#[x]:=by rw [← hxs]
    have hat:c.argTypes=#[t]:=by rw [← ht]
    obtain ⟨ti,hti,hK1⟩:=withSome_some hK
    clear hK
    obtain ⟨d,hd,hk⟩:=(hG.ti t ti hti).und
    split at hK1
    · rename_i e hkd
      rw [hkd] at hk
      cases d <;> simp [kdOk] at hk
      subst hk
      obtain ⟨ei,hei,hK⟩:=withSome_some hK1
      clear hK1
      have hT:=hG.ti _ ei hei
      have hx:=hE.rel h x
      generalize hX:ev G S x=X at hK hx
      split at hK
      · rename_i j off l
        obtain ⟨bl,hj,hK1⟩:=withSome_some hK
        clear hK
        cases bl with
        | box _ _=>cases hK1
        | row fl sz xs=>
          simp only at hK1
          obtain ⟨hs0,hK⟩:=bif_some hK1
          clear hK1
          have hs0:=Nat.eq_of_beq_eq_true hs0
          subst hs0
          obtain ⟨i,hi,_,hsz,hby,z,hz,hzc,hza⟩:=hT.run_info w
          obtain ⟨_,hu,hp⟩:=hx
          obtain ⟨ad,cap,hv,hcap,hlen,hcase⟩:=hp _ _ xs hj
          obtain ⟨hs,hfl,hrow⟩:=h.blk j _ hj
          change K .undef (m.upd j (some (.row fl ei.size (xs.take off++List.replicate (lenOf xs.length off l) ei.zel++xs.drop (lenOf xs.length off l+off)))))=some r at hK
          generalize hn:lenOf xs.length off l=n at *
          have hzs:z.cells.size=ei.size:=by rw [← Array.length_toList,hzc,hT.szl]
          have ex:∀ w',(Builtin.clear_ #[t] o.type #[a.eval x]).run P w=.ok (.tuple #[]) w'→(execOp a.eval o).run P w=.ok (.value (.tuple #[])) w':=by
            intro w' hr
            simp [execOp,ho,resolve,hc,ha,hat,invoke,builtin,hr]
          by_cases hn0:n=0
          · subst hn0
            have e1:xs.take off++List.replicate 0 ei.zel++xs.drop (0+off)=xs:=by simp
            rw [e1,Mem.upd_self hj] at hK
            refine .calc h (v:=.tuple #[]) (ex w ?_) hK ⟨fun h=>by simp [AV.okC] at h,.undef _⟩
            rw [hv]
            cases ad <;> simp [Builtin.clear_,run_underlying hd]
          · rcases hcase with ⟨rfl,rfl⟩ | ⟨b,o',nn,ad',hμ,rfl,hbl,hcase⟩
            · omega
            rcases hcase with rfl | ⟨rfl,hbd⟩
            · omega
            rcases hrow with ⟨_,hμ'⟩ | ⟨b',o'',C,f,hμ',hh,hlC,hfr,hr⟩
            · rw [hμ] at hμ'; cases hμ'
            rw [hμ] at hμ'
            simp only [Option.some.injEq,Prod.mk.injEq] at hμ'
            obtain ⟨rfl,rfl,rfl⟩:=hμ'
            have hown:=h.own j _ b o' C.size hj hμ
            have hzn:(Builtin.zeroCells z.cells n).toList.length=n*ei.size:=by rw [Array.length_toList,size_zeroCells,hzs]
            have hlim:o'+off*ei.size+n*ei.size≤C.size:=by
              have:=Nat.mul_le_mul_right ei.size hlen
              rw [Nat.add_mul] at this
              omega
            have hzget:∀ k,k < n*ei.size→∃ v,ei.zero[k % ei.size]?=some v∧(Builtin.zeroCells z.cells n).toList[k]?=some v:=by
              intro k hk
              have h0:0 < ei.size:=by
                rcases Nat.eq_zero_or_pos ei.size with h | h
                · rw [h] at hk; omega
                · exact h
              have hm:=Nat.mod_lt k h0
              have hlt:k % ei.size < z.cells.size:=by omega
              refine ⟨z.cells[k % ei.size],by rw [← hzc]; simp [hlt],?_⟩
              have h3:z.cells[k % ei.size]! = z.cells[k % ei.size]:=by rw [getElem!_def,Array.getElem?_eq_getElem hlt]
              simp [Builtin.zeroCells,hzs,hk,h3]
            have hones:∀ v∈(Builtin.zeroCells z.cells n).toList,v.oneCell'=true:=by
              intro v hv
              obtain ⟨k,hk,rfl⟩:=List.getElem_of_mem hv
              obtain ⟨v',hv1,hv2⟩:=hzget k (by omega)
              rw [List.getElem?_eq_getElem hk] at hv2
              cases hv2
              rw [one_oneCell]
              exact List.all_eq_true.1 hT.ones _ (List.mem_of_getElem? hv1)
            have hst:=run_storeCells_cells (P:=P) b (o'+off*ei.size) (Builtin.zeroCells z.cells n).toList 0 w
              (by intro k hk; rw [Nat.add_zero,cell_of hh (by omega)]; rfl)
              (by
                intro k hk
                have:=hfr.at (o'+off*ei.size+0+k) (by omega)
                simp [World.frozen?,hh]
                intro hle
                simp only [Nat.add_zero] at this
                omega)
              hones
            rw [Nat.add_zero] at hst
            have hw:∀ k,k≠b→(w.setCells b (o'+off*ei.size) (Builtin.zeroCells z.cells n).toList).heap[k]?=w.heap[k]?:=fun k hk=>setCells_other b _ _ _ k hk
            have hzl:ei.zel.cells.length=ei.size:=by rw [zel_cells hT]; simp [TI.zav,hT.szl]
            have hoff:off≤xs.length:=by omega
            have hcs:∀ x∈xs.take off++List.replicate n ei.zel++xs.drop (n+off),x.cells.length=ei.size:=by
              intro v hv
              rcases List.mem_append.1 hv with hv | hv
              · rcases List.mem_append.1 hv with hv | hv
                · exact hs v (List.mem_of_mem_take hv)
                · rw [(List.mem_replicate.1 hv).2]; exact hzl
              · exact hs v (List.mem_of_mem_drop hv)
            have hlx:(xs.take off++List.replicate n ei.zel++xs.drop (n+off)).length=xs.length:=by simp; omega
            have hinv:=h.store (w':=w.setCells b (o'+off*ei.size) (Builtin.zeroCells z.cells n).toList) hj hμ (x':=.row fl ei.size (xs.take off++List.replicate n ei.zel++xs.drop (n+off))) ⟨rfl,hlx⟩
              (setCells_keeps b _ _ _ h.below hown.1) (setCells_size b _ _ _) hw ?_
            · refine ⟨.undef,_,.tuple #[],w.setCells b (o'+off*ei.size) (Builtin.zeroCells z.cells n).toList,.inl (ex _ ?_),hK,μ,F,?_⟩
              · rw [hv]
                cases n with
                | zero=>exact absurd rfl hn0
                | succ n=>simp [Builtin.clear_,run_underlying hd,zeroValue,typeInfo,hi,hz,hst]
              · have h':=hinv.wider (U':=U8 U id) (fun i hi=>.inl hi)
                exact { h' with
                  pairs:=by
                    rintro y u (hy | ⟨rfl,rfl⟩)
                    · exact h'.pairs y u hy
                    · exact ⟨fun h=>by simp [AV.okC] at h,.undef _⟩ }
            · refine ⟨hcs,?_,.inr ⟨b,o',wrAt C (o'+off*ei.size) (Builtin.zeroCells z.cells n).toList,f,by rw [wrAt_size]; exact hμ,setCells_heap b _ _ _ _ _ _ hh,by rw [wrAt_size,hlx]; exact hlC,by rw [wrAt_size]; exact hfr,?_⟩⟩
              · intro v hv
                simp only [flatL,List.mem_flatMap] at hv
                obtain ⟨u,hu,hv⟩:=hv
                rcases List.mem_append.1 hu with hu | hu
                · rcases List.mem_append.1 hu with hu | hu
                  · exact hfl v (by simp only [flatL,List.mem_flatMap]; exact ⟨u,List.mem_of_mem_take hu,hv⟩)
                  · rw [(List.mem_replicate.1 hu).2] at hv; exact zel_okE hT v hv
                · exact hfl v (by simp only [flatL,List.mem_flatMap]; exact ⟨u,List.mem_of_mem_drop hu,hv⟩)
              · intro k q hk
                have hF:∀ {v},Rel w F q v→Rel (w.setCells b (o'+off*ei.size) (Builtin.zeroCells z.cells n).toList) F q v:=fun hv=>hv.mono (fun _ hb=>hb) (fun k hk=>hw k (fun e=>hown.2.2 (e ▸ hk)))
                have e1:(flatL (xs.take off)).length=off*ei.size:=by rw [(flat_get ei.size _ (fun x hx=>hs x (List.mem_of_mem_take hx))).1,List.length_take,Nat.min_eq_left hoff]
                have e2:(flatL (List.replicate n ei.zel)).length=n*ei.size:=by rw [(flat_get ei.size _ (fun x hx=>by rw [(List.mem_replicate.1 hx).2]; exact hzl)).1]; simp
                rw [flatL_append,flatL_append] at hk
                by_cases hk1:k < off*ei.size
                · rw [List.getElem?_append_left (by rw [List.length_append]; omega),List.getElem?_append_left (by omega)] at hk
                  rw [wrAt_out _ _ _ _ (.inl (by omega))]
                  exact hF (hr k q (flatL_take_get ei.size off xs k q hk))
                · by_cases hk2:k < off*ei.size+n*ei.size
                  · rw [List.getElem?_append_left (by rw [List.length_append]; omega),List.getElem?_append_right (by omega),e1] at hk
                    have hrep:=flat_rep hk
                    rw [hzl,zel_cells hT] at hrep
                    simp only [TI.zav,List.getElem?_map,Option.map_eq_some_iff] at hrep
                    obtain ⟨v,hv1,rfl⟩:=hrep
                    obtain ⟨v',hv2,hv3⟩:=hzget (k - off*ei.size) (by omega)
                    rw [hv1] at hv2
                    cases hv2
                    have:=wrAt_getD (vs:=(Builtin.zeroCells z.cells n).toList) (C:=C) (o:=o'+off*ei.size) (j:=k - off*ei.size) (by omega) (by omega)
                    rw [show o'+off*ei.size+(k - off*ei.size)=o'+k by omega,List.getD_eq_getElem?_getD,hv3] at this
                    rw [this]
                    exact .v _ (List.all_eq_true.1 hT.ones _ (List.mem_of_getElem? hv1))
                  · rw [List.getElem?_append_right (by rw [List.length_append]; omega),List.length_append,e1,e2,flatL_drop ei.size _ xs hs,List.getElem?_drop] at hk
                    rw [wrAt_out _ _ _ _ (.inr (by omega))]
                    have:(n+off)*ei.size+(k - (off*ei.size+n*ei.size))=k:=by rw [Nat.add_mul]; omega
                    rw [this] at hk
                    exact hF (hr k q hk)
      · cases hK
    · cases hK1
  · cases hK
theorem asSl_at {x:AV} {v:Value} {K:Fl→Nat→List AV→Option R} (h:InvAt W0 F0 U m L w μ F) (hx:RelS w F μ m U x v) (hK:asSl m x K=some r) :
  ∃ fl sz ys,K fl sz ys=some r∧(∀ y∈ys,y.cells.length=sz)∧(∀ c∈flatL ys,okE fl c)∧
   ((ys=[]∧∃ c,v=.slice none 0 c)∨∃ ad cap,∃ f:Nat→Value,v=.slice (some ad) ys.length cap∧(∀ j,j < (flatL ys).length→w.cell? (ad.add j)=some (f j))∧∀ j c,(flatL ys)[j]?=some c→Rel w F c (f j)):=by
 unfold asSl at hK
 split at hK
 ·have:=(relS_v hx).1
  subst this
  exact ⟨_,_,_,hK,by simp,by simp [flatL],.inl ⟨rfl,0,rfl⟩⟩
 ·rename_i fl' sz xs
  obtain ⟨_,hx⟩:=hx
  cases hx with
  | slN=>exact ⟨_,_,_,hK,by simp,by simp [flatL],.inl ⟨rfl,0,rfl⟩⟩
  | sl _ _ _ ad cap f hF hcp hs hf hcell hr=>exact ⟨_,_,_,hK,hs,hf,.inr ⟨ad,cap,f,rfl,hcell,hr⟩⟩
 ·rename_i j off l
  split at hK
  ·rename_i fl' sz xs hm
   obtain ⟨_,hu',hx⟩:=hx
   obtain ⟨ad,cap,rfl,hcap,hlen,hp⟩:=hx fl' sz xs hm
   obtain ⟨hs,hfl,hrow⟩:=h.blk j _ hm
   have hys:=rowOf_eq off l xs
   generalize hn:lenOf xs.length off l=n at *
   generalize hY:rowOf off l xs=ys at *
   have hl:ys.length=n:=by rw [hys]; simp; omega
   have hs' : ∀ x∈ys,x.cells.length=sz:=fun x hx=>hs x (List.mem_of_mem_drop (List.mem_of_mem_take (by rwa [hys] at hx)))
   have hfl' : ∀ x∈flatL ys,okE fl' x:=by
    intro x hx
    rw [hys] at hx
    simp only [flatL,List.mem_flatMap] at hx
    obtain ⟨y,hy,hx⟩:=hx
    exact hfl x (by simp only [flatL,List.mem_flatMap]; exact ⟨y,List.mem_of_mem_drop (List.mem_of_mem_take hy),hx⟩)
   rcases hp with ⟨rfl,rfl⟩ | ⟨b,o,nn,ad,hμ,rfl,hb,hcase⟩
   ·have h0:n=0:=by omega
    subst h0
    have:ys=[]:=List.length_eq_zero_iff.1 hl
    subst this
    exact ⟨_,_,_,hK,by simp,by simp [flatL],.inl ⟨rfl,0,rfl⟩⟩
   ·by_cases h0:n=0
    ·subst h0
     have:ys=[]:=List.length_eq_zero_iff.1 hl
     subst this
     exact ⟨_,_,_,hK,by simp,by simp [flatL],.inr ⟨ad,cap,fun _=>undef,rfl,by simp [flatL],by simp [flatL]⟩⟩
    ·rcases hcase with rfl | ⟨rfl,hbd⟩
     ·omega
     ·rcases hrow with ⟨rfl,hμ'⟩ | ⟨b',o',C,f,hμ',hh,hC,hfr,hr⟩
      ·rw [hμ] at hμ'; cases hμ'
      ·rw [hμ] at hμ'
       simp only [Option.some.injEq,Prod.mk.injEq] at hμ'
       obtain ⟨rfl,rfl,rfl⟩:=hμ'
       refine ⟨_,_,_,hK,hs',hfl',.inr ⟨⟨b,o+off*sz,none⟩,cap,fun j=>C.getD (o+(off*sz+j)) undef,by rw [hl],fun j hj=>?_,fun j c hj=>?_⟩⟩
       ·rw [(flat_get sz _ hs').1,hl] at hj
        rw [addr_mid]
        have h1:(off+n)*sz≤xs.length*sz:=Nat.mul_le_mul_right _ hlen
        rw [Nat.add_mul] at h1
        rw [show o+off*sz+j=o+(off*sz+j) by omega]
        exact cell_of hh (by omega)
       ·rw [hys] at hj
        have hj:=flatL_take_get sz n _ j c hj
        rw [flatL_drop sz off xs hs,List.getElem?_drop] at hj
        exact hr _ c hj
  ·cases hK
 ·cases hK
theorem did_copy (hG:CfgOk P G) {c:Call} (ho:o.op=.call c) (hc:c.callee=.builtin .copy) (h:InvAt W0 F0 U m L w μ F) (hE:Env G S a L) (hK:opK G o.op S m id K=some r) :
    Did P o a w W0 F0 U id L K r:=by
  rw [ho] at hK
  simp only [opK,hc] at hK
  split at hK
  · rename_i t u x y ht hxs
    have ha:c.args=#[x,y]:=by rw [← hxs]
    have hat:c.argTypes=#[t,u]:=by rw [← ht]
    obtain ⟨ti,hti,hK1⟩:=withSome_some hK
    clear hK
    obtain ⟨d,hd,hk⟩:=(hG.ti t ti hti).und
    split at hK1
    · rename_i e hkd
      rw [hkd] at hk
      cases d <;> simp [kdOk] at hk
      subst hk
      obtain ⟨ei,hei,hK⟩:=withSome_some hK1
      clear hK1
      have hT:=hG.ti _ ei hei
      have hx:=hE.rel h x
      have hy:=hE.rel h y
      generalize hX:ev G S x=X at hK hx
      split at hK
      · rename_i j off l
        obtain ⟨bl,hj,hK1⟩:=withSome_some hK
        clear hK
        cases bl with
        | box _ _=>cases hK1
        | row fl sz xs=>
          simp only at hK1
          obtain ⟨hs0,hK⟩:=bif_some hK1
          clear hK1
          have hs0:=Nat.eq_of_beq_eq_true hs0
          subst hs0
          obtain ⟨fl',sz',ys,hK1,hys,hyo,hyv⟩:=asSl_at h hy hK
          clear hK
          obtain ⟨hc1,hK⟩:=bif_some hK1
          clear hK1
          rw [Bool.and_eq_true] at hc1
          have hc2:=Nat.eq_of_beq_eq_true hc1.2
          have hc3:fl'=fl:=by simpa using hc1.1
          subst hc2; subst hc3
          obtain ⟨_,hu,hp⟩:=hx
          obtain ⟨ad,cap,hv,hcap,hlen,hcase⟩:=hp _ _ xs hj
          obtain ⟨hs,hfl,hrow⟩:=h.blk j _ hj
          generalize hn:lenOf xs.length off l=n at *
          generalize hkk:min n ys.length=k at *
          have hkn:k≤n:=by omega
          have hky:k≤ys.length:=by omega
          have ex:∀ w' v,(Builtin.copy_ #[t,u] o.type #[a.eval x,a.eval y]).run P w=.ok v w'→(execOp a.eval o).run P w=.ok (.value v) w':=by
            intro w' v hr
            simp [execOp,ho,resolve,hc,ha,hat,invoke,builtin,hr]
          have hkm:Nat.min ys.length n=k:=by show min ys.length n=k; omega
          have hrs:=hT.run_size w
          by_cases hk0:k=0
          · subst hk0
            have e1:xs.take off++ys.take 0++xs.drop (0+off)=xs:=by simp
            rw [e1,Mem.upd_self hj] at hK
            refine .calc h (v:=goInt 0) (ex w _ ?_) hK ⟨fun _=>rfl,.v _ rfl⟩
            rw [hv]
            rcases hyv with ⟨rfl,q,e2⟩ | ⟨ad2,cap2,f,e2,_,_⟩
            · rw [e2]
              cases ad <;> simp [Builtin.copy_,run_underlying hd,Builtin.lenOf,Builtin.firstCells,hrs,storeCells]
            · rw [e2]
              have hld0:(loadCells ad2 0).run P w=.ok #[] w:=rfl
              cases ad <;> simp [Builtin.copy_,run_underlying hd,Builtin.lenOf,Builtin.firstCells,hrs,storeCells,hld0,hkm]
          · rcases hyv with ⟨rfl,q,e2⟩ | ⟨ad2,cap2,f,e2,hcell,hrel⟩
            · simp at hky; omega
            rcases hcase with ⟨rfl,rfl⟩ | ⟨b,o',nn,ad',hμ,rfl,hbl,hcase⟩
            · omega
            rcases hcase with rfl | ⟨rfl,hbd⟩
            · omega
            rcases hrow with ⟨_,hμ'⟩ | ⟨b',o'',C,ff,hμ',hh,hlC,hfr,hr⟩
            · rw [hμ] at hμ'; cases hμ'
            rw [hμ] at hμ'
            simp only [Option.some.injEq,Prod.mk.injEq] at hμ'
            obtain ⟨rfl,rfl,rfl⟩:=hμ'
            have hown:=h.own j _ b o' C.size hj hμ
            have hfy:=(flat_get ei.size _ hys).1
            have hcsl:∀ q,q < k*ei.size→q < (flatL ys).length:=by
              intro q hq
              have:=Nat.mul_le_mul_right ei.size hky
              omega
            obtain ⟨cs,hcs⟩ : ∃ cs,cs=(List.range (k*ei.size)).map f:=⟨_,rfl⟩
            have hcl:cs.length=k*ei.size:=by rw [hcs]; simp
            have hcg:∀ q,q < k*ei.size→cs[q]?=some (f q):=by intro q hq; rw [hcs]; simp [hq]
            have hld:(loadCells ad2 (k*ei.size)).run P w=.ok cs.toArray w:=by
              rw [← hcl]
              refine run_loadCells_list (P:=P) w ad2 cs (fun q v hq=>?_)
              have hlt:q < k*ei.size:=by have:=(List.getElem?_eq_some_iff.1 hq).1; omega
              rw [hcg q hlt] at hq
              cases hq
              exact hcell q (hcsl q hlt)
            have hlim:o'+off*ei.size+k*ei.size≤C.size:=by
              have h1:=Nat.mul_le_mul_right ei.size hlen
              have h2:=Nat.mul_le_mul_right ei.size hkn
              rw [Nat.add_mul] at h1
              omega
            have hones:∀ v∈cs,v.oneCell'=true:=by
              intro v hv
              obtain ⟨q,hq,rfl⟩:=List.getElem_of_mem hv
              have hlt:q < k*ei.size:=by omega
              have e3:=hcg q hlt
              rw [List.getElem?_eq_getElem hq] at e3
              have e3:=Option.some.inj e3
              rw [one_oneCell,e3]
              have hg:=List.getElem?_eq_getElem (hcsl q hlt)
              exact (hrel q _ hg).one_of (hyo _ (List.getElem_mem _)).1
            have hst:=run_storeCells_cells (P:=P) b (o'+off*ei.size) cs 0 w
              (by intro q hq; rw [Nat.add_zero,cell_of hh (by omega)]; rfl)
              (by
                intro q hq
                have:=hfr.at (o'+off*ei.size+0+q) (by omega)
                simp [World.frozen?,hh]
                intro hle
                simp only [Nat.add_zero] at this
                omega)
              hones
            rw [Nat.add_zero] at hst
            have hw:∀ q,q≠b→(w.setCells b (o'+off*ei.size) cs).heap[q]?=w.heap[q]?:=fun q hq=>setCells_other b _ _ _ q hq
            have hoff:off≤xs.length:=by omega
            have htl:(ys.take k).length=k:=by simp; omega
            have hcs' : ∀ x∈xs.take off++ys.take k++xs.drop (k+off),x.cells.length=ei.size:=by
              intro v hv
              rcases List.mem_append.1 hv with hv | hv
              · rcases List.mem_append.1 hv with hv | hv
                · exact hs v (List.mem_of_mem_take hv)
                · exact hys v (List.mem_of_mem_take hv)
              · exact hs v (List.mem_of_mem_drop hv)
            have hlx:(xs.take off++ys.take k++xs.drop (k+off)).length=xs.length:=by simp; omega
            have hinv:=h.store (w':=w.setCells b (o'+off*ei.size) cs) hj hμ (x':=.row fl' ei.size (xs.take off++ys.take k++xs.drop (k+off))) ⟨rfl,hlx⟩
              (setCells_keeps b _ _ _ h.below hown.1) (setCells_size b _ _ _) hw ?_
            · refine ⟨vi k,_,goInt k,w.setCells b (o'+off*ei.size) cs,.inl (ex _ _ ?_),hK,μ,F,?_⟩
              · rw [hv,e2]
                simp [Builtin.copy_,run_underlying hd,Builtin.lenOf,Builtin.firstCells,hrs,hkm,hld,hst]
              · have h':=hinv.wider (U':=U8 U id) (fun i hi=>.inl hi)
                exact { h' with
                  pairs:=by
                    rintro y u (hy | ⟨rfl,rfl⟩)
                    · exact h'.pairs y u hy
                    · exact ⟨fun _=>rfl,.v _ rfl⟩ }
            · refine ⟨hcs',?_,.inr ⟨b,o',wrAt C (o'+off*ei.size) cs,ff,by rw [wrAt_size]; exact hμ,setCells_heap b _ _ _ _ _ _ hh,by rw [wrAt_size,hlx]; exact hlC,by rw [wrAt_size]; exact hfr,?_⟩⟩
              · intro v hv
                simp only [flatL,List.mem_flatMap] at hv
                obtain ⟨u,hu,hv⟩:=hv
                rcases List.mem_append.1 hu with hu | hu
                · rcases List.mem_append.1 hu with hu | hu
                  · exact hfl v (by simp only [flatL,List.mem_flatMap]; exact ⟨u,List.mem_of_mem_take hu,hv⟩)
                  · exact hyo v (by simp only [flatL,List.mem_flatMap]; exact ⟨u,List.mem_of_mem_take hu,hv⟩)
                · exact hfl v (by simp only [flatL,List.mem_flatMap]; exact ⟨u,List.mem_of_mem_drop hu,hv⟩)
              · intro z q hz
                have hF:∀ {v},Rel w F q v→Rel (w.setCells b (o'+off*ei.size) cs) F q v:=fun hv=>hv.mono (fun _ hb=>hb) (fun k hk=>hw k (fun e=>hown.2.2 (e ▸ hk)))
                have e1:(flatL (xs.take off)).length=off*ei.size:=by rw [(flat_get ei.size _ (fun x hx=>hs x (List.mem_of_mem_take hx))).1,List.length_take,Nat.min_eq_left hoff]
                have e2:(flatL (ys.take k)).length=k*ei.size:=by rw [(flat_get ei.size _ (fun x hx=>hys x (List.mem_of_mem_take hx))).1,htl]
                rw [flatL_append,flatL_append] at hz
                by_cases hk1:z < off*ei.size
                · rw [List.getElem?_append_left (by rw [List.length_append]; omega),List.getElem?_append_left (by omega)] at hz
                  rw [wrAt_out _ _ _ _ (.inl (by omega))]
                  exact hF (hr z q (flatL_take_get ei.size off xs z q hz))
                · by_cases hk2:z < off*ei.size+k*ei.size
                  · rw [List.getElem?_append_left (by rw [List.length_append]; omega),List.getElem?_append_right (by omega),e1] at hz
                    have hz:=flatL_take_get ei.size k ys _ q hz
                    have:=wrAt_getD (vs:=cs) (C:=C) (o:=o'+off*ei.size) (j:=z - off*ei.size) (by omega) (by omega)
                    rw [show o'+off*ei.size+(z - off*ei.size)=o'+z by omega,List.getD_eq_getElem?_getD,hcg _ (by omega)] at this
                    rw [this]
                    exact hF (hrel _ q hz)
                  · rw [List.getElem?_append_right (by rw [List.length_append]; omega),List.length_append,e1,e2,flatL_drop ei.size _ xs hs,List.getElem?_drop] at hz
                    rw [wrAt_out _ _ _ _ (.inr (by omega))]
                    have:(k+off)*ei.size+(z - (off*ei.size+k*ei.size))=z:=by rw [Nat.add_mul]; omega
                    rw [this] at hz
                    exact hF (hr z q hz)
      · cases hK
    · cases hK1
  · cases hK
end
end Go.Proofs.Ev
namespace Go.Proofs.Ev
open Go Go.RowKit
set_option linter.unusedVariables false
section
variable {R:Type} {P:Program} {G:Cfg} {o:Oper} {a:Act} {w w' : World} {W0:Base} {F0 U F:Nat→Prop} {id:Nat} {L L' : AV→Value→Prop} {K:AV→Mem→Option R} {r:R} {m:Mem} {μ:Mu} {S:List AV}
theorem did_op (hG:CfgOk P G) (h:InvAt W0 F0 U m L w μ F) (hE:Env G S a L) (hid:∀ j,j < 8→¬ U (id+j)) (hK:opK G o.op S m id K=some r):Did P o a w W0 F0 U id L K r:=by
 cases hop:o.op with
 | move x=>exact did_move (.inl hop) h hE (by rw [hop] at hK; exact hK)
 | assign x=>exact did_move (.inr hop) h hE (by rw [hop] at hK; exact hK)
 | pick c x y=>exact did_pick hop h hE hK
 | alloc t=>exact did_alloc hG hop h hid hK
 | box t x=>exact did_box hop h hE hid hK
 | build t parts=>exact did_build hG hop h hE hK
 | buildSlice t len parts=>exact did_buildSlice hG hop h hE hid hK
 | load t x=>exact did_load hG hop h hE hK
 | store t x y=>exact did_store hG hop h hE hK
 | nilCheck x=>exact did_nilCheck hop h hE hK
 | binOp op t x y yt=>exact did_binOp hG hop h hE hK
 | unOp op t x=>exact did_unOp hop h hE hK
 | convert s d x=>exact did_convert hG hop h hE hid hK
 | makeInterface t x=>exact did_makeInterface hG hop h hE hK
 | makeFunc f fst caps=>exact did_makeFunc hop h hE hK
 | makeSlice t l c=>exact did_makeSlice hG hop h hE hid hK
 | slice t x lo hi mx=>exact did_slice hG hop h hE hK
 | fieldAddr s x f=>exact did_fieldAddr hG hop h hE hK
 | field s x f=>exact did_field hG hop h hE hK
 | indexAddr t x i=>exact did_indexAddr hG hop h hE hK
 | index t x i=>exact did_index hG hop h hE hK
 | extract x i=>exact did_extract hop h hE hK
 | call c=>
  cases hc:c.callee with
  | builtin b=>
   cases b with
   | len=>exact did_len hG hop hc h hE hK
   | append=>exact did_append hG hop hc h hE hid hK
   | clear=>exact did_clear hG hop hc h hE hK
   | copy=>exact did_copy hG hop hc h hE hK
   | min=>exact did_min hop hc h hE hK
   | max=>exact did_max hop hc h hE hK
   | _=>rw [hop] at hK; simp [opK,hc] at hK
  | _=>rw [hop] at hK; simp [opK,hc] at hK
 | _=>rw [hop] at hK; simp [opK] at hK
end
end Go.Proofs.Ev
namespace Go.Proofs.Ev
open Go Go.RowKit
set_option linter.unusedVariables false
structure Came (w w' : World) (F F' : Nat→Prop) (β:Mu):Prop where
 below:Below w.heap.size w w'
 sub:∀ b,F b→F' b
 new:∀ b,F' b→b < w'.heap.size∧(F b∨w.heap.size≤b)
 own:∀ k b o n,β k=some (b,o,n)→w.heap.size≤b∧b < w'.heap.size∧¬ F' b
 inj:∀ k k' b o n o' n',β k=some (b,o,n)→β k'=some (b,o',n')→k=k'
structure CameB (B:Base) (w' : World) (F F' : Nat→Prop) (β:Mu):Prop where
 below:Keeps B w'
 sub:∀ b,F b→F' b
 new:∀ b,F' b→b < w'.heap.size∧(F b∨¬ B.N b)
 own:∀ k b o n,β k=some (b,o,n)→¬ B.N b∧b < w'.heap.size∧¬ F' b
 inj:∀ k k' b o n o' n',β k=some (b,o,n)→β k'=some (b,o',n')→k=k'
theorem CameB.plain {r w w' : World} {hr:Below r.heap.size r w} {F F' : Nat→Prop} {β:Mu} (h:CameB (Base.of r w hr) w' F F' β):Came w w' F F' β:=
 ⟨h.below.below,h.sub,fun b hb=>⟨(h.new b hb).1,(h.new b hb).2.imp id (fun hN=>Nat.le_of_not_lt hN)⟩,fun k b o n hk=>⟨Nat.le_of_not_lt (h.own k b o n hk).1,(h.own k b o n hk).2⟩,h.inj⟩
def nfr:AV→Nat
 | .fr _ _ _=>1
 | _=>0
def nfrL:List AV→Nat
 | []=>0
 | x::r=>nfr x+nfrL r
def nfrA:AV→Nat
 | .agg cs=>nfrL cs
 | x=>nfr x
def ResS (w:World) (F:Nat→Prop) (β:Mu) (k:Nat) (x:AV) (v:Value):Prop:=
 match x with
 | .fr fl sz xs=>Holds w F β (fun _=>none) (fun _=>False) k (.row fl sz xs)∧∃ ad cap,v=.slice ad xs.length cap∧xs.length≤cap∧
   ((ad=none∧cap=0)∨∃ b o n ad',β k=some (b,o,n)∧ad=some ad'∧ad'.block=b∧(cap=0∨(ad'=⟨b,o,none⟩∧o+cap*sz≤n)))
 | x=>Rel w F x v
def ResL (w:World) (F:Nat→Prop) (β:Mu):Nat→List AV→(Nat→Value)→Prop
 | _,[],_=>True
 | k,x::r,u=>ResS w F β k x (u 0)∧ResL w F β (k+nfr x) r (fun j=>u (j+1))
def ResA (w:World) (F:Nat→Prop) (β:Mu) (k:Nat) (x:AV) (v:Value):Prop:=
 match x with
 | .agg cs=>∃ vs:Array Value,v=.agg vs∧vs.size=cs.length∧ResL w F β k cs (fun j=>vs.getD j undef)
 | x=>ResS w F β k x v
def ResAL (w:World) (F:Nat→Prop) (β:Mu):Nat→List AV→(Nat→Value)→Prop
 | _,[],_=>True
 | k,x::r,u=>ResA w F β k x (u 0)∧ResAL w F β (k+nfrA x) r (fun j=>u (j+1))
def Res (w:World) (F:Nat→Prop) (β:Mu) (x:AV) (v:Value):Prop:=
 match x with
 | .tup xs=>∃ vs:Array Value,v=.tuple vs∧vs.size=xs.length∧ResAL w F β 0 xs (fun j=>vs.getD j undef)
 | x=>ResA w F β 0 x v
def Runs (P:Program) (f:FuncId) (vals:Array Value) (w:World) (R:Ending→World→Prop):Prop:=
 ((callFunc f vals).run P w=.ok (.enter f vals) w∧Calls P f vals w R)∨∃ v w',(callFunc f vals).run P w=.ok (.value v) w'∧R (.returned v) w'
def lastTup (aas:List AV):Bool:=match aas.getLast? with
 | some (.tup _)=>true
 | _=>false
def HandsM (P:Program) (R0:World) (f:FuncId) (args bs:List AV) (y:AV) (os:List AV):Prop:=
 ∀ (B:Base) (F:Nat→Prop) (vals:Array Value) (μ:Mu),B.root=R0→vals.size=args.length→
  InvAt B F (fun i=>i < 8*bs.length) (Mem.ofBs bs) (fun c v=>∃ j,args[j]?=some c∧v=vals.getD j undef) B.w μ F→
  (∀ i,i < nbox bs→∃ n,μ i=some (B.bk i,0,n))→
  Runs P f vals B.w fun e w'=>match e with
   | .returned v=>∃ F' μ',InvAt B F (fun i=>i < os.length) (Mem.ofBs os) (fun c u=>c=y∧u=v) w' μ' F'∧∀ i,i < nbox bs→∃ n,μ' i=some (B.bk i,0,n)
   | _=>False
def HandsP (P:Program) (R0:World) (f:FuncId) (aas:List AV) (x:AV):Prop:=
 ∀ (w:World) (F:Nat→Prop) (vals:Array Value),Below R0.heap.size R0 w→(∀ b,F b→b < w.heap.size)→(∀ b,b < R0.heap.size→F b)→vals.size=aas.length→(∀ j c,aas[j]?=some c→Rel w F c (vals.getD j undef))→
  Runs P f vals w fun e w'=>match e with
   | .returned v=>∃ F' β,Came w w' F F' β∧Res w' F' β x v
   | _=>False
def HandsE (P:Program) (R0:World) (f:FuncId) (args bs:List AV) (y b:AV):Prop:=
 ∀ (B:Base) (F:Nat→Prop) (vals:Array Value) (μ:Mu),B.root=R0→vals.size=args.length→
  InvAt B F (fun i=>i < 8*bs.length) (Mem.ofBs bs) (fun c v=>∃ j,args[j]?=some c∧v=vals.getD j undef) B.w μ F→
  Runs P f vals B.w fun e w'=>match e with
   | .returned v=>InvAt B F (fun i=>i < 8*bs.length) (Mem.ofBs [b]) (fun c u=>c=y∧u=v) w' μ F
   | _=>False
def HandsAt (P:Program) (R0:World) (f:FuncId) (aas:List AV) (x:AV):Prop:=
 (lastTup aas=false→HandsP P R0 f aas x)∧(∀ args bs y os,aas=args++[.tup bs]→x=.tup [y,.tup os]→HandsM P R0 f args bs y os)∧
  ∀ args fl sz xs y fl' sz' ys,aas=args++[.tup [.fr fl sz xs]]→x=.tup [y,.fr fl' sz' ys]→ys.length=xs.length∧HandsE P R0 f args [.fr fl sz xs] y (.fr fl' sz' ys)
def Globs (G:Cfg) (R0:World):Prop:=∀ g cs,G.glob g=some cs→Rel R0 (fun b=>b < R0.heap.size) (.rd cs) (.pointer (some ⟨g,0,none⟩))
class Rooted (P:Program) where
 Q:World→Prop
 opened:∀ w,Q w→w.ShapedOpen P
 below:∀ w w',Q w→Below w.heap.size w w'→Q w'
def Hands (P:Program) [Rooted P] (f:FuncId) (aas:List AV) (x:AV):Prop:=∀ R0:World,Rooted.Q P R0→HandsAt P R0 f aas x
theorem Below.shaped {P:Program} {w w' : World} (h:w.ShapedOpen P) (hB:Below w.heap.size w w'):w'.ShapedOpen P:=
 h.keptBut (hB.frame (fun _=>False)) (fun _ h=>h.elim)
def Uk (U:Nat→Prop) (id c:Nat):Nat→Prop:=fun i=>U i∨(id≤i∧i < id+c)
def Dis (β:Mu) (N c:Nat) (m:Mem) (μ:Mu):Prop:=∀ i y b o n,m i=some y→μ i=some (b,o,n)→b < N∨∃ k o' n',k < c∧β k=some (b,o',n')
section
variable {R:Type} {P:Program} {G:Cfg} {o:Oper} {a:Act} {w w' : World} {W0:Base} {F0 U F:Nat→Prop} {id:Nat} {L L' : AV→Value→Prop} {K:AV→Mem→Option R} {r:R} {m:Mem} {μ β:Mu} {S:List AV}
theorem InvAt.also (h:InvAt W0 F0 U m L w μ F) {x:AV} {v:Value} (hx:RelS w F μ m U x v):InvAt W0 F0 U m (fun a b=>L a b∨(a=x∧b=v)) w μ F:=
 { h with pairs:=by rintro y u (hy | ⟨rfl,rfl⟩); exact h.pairs y u hy; exact hx }
theorem impS_ok {N c c' : Nat} {m' : Mem} {x y:AV} {v:Value} (e:impS id c m x=(y,c',m')) (hc:c'≤8) (hid:∀ j,j < 8→¬ U (id+j)) (hN:W0.w.heap.size≤N)
  (h:InvAt W0 F0 (Uk U id c) m L w μ F) (hd:Dis β N c m μ) (hown:∀ k b o n,β k=some (b,o,n)→N≤b∧b < w.heap.size∧¬ F b)
  (hinj:∀ k k' b o n o' n',β k=some (b,o,n)→β k'=some (b,o',n')→k=k') (hr:ResS w F β c x v) :
  c'=c+nfr x∧∃ μ',InvAt W0 F0 (Uk U id c') m' (fun a b=>L a b∨(a=y∧b=v)) w μ' F∧Dis β N c' m' μ'∧((∃ i o l,y=.own i o l)∨Rel w F y v):=by
 have same:(y,c',m')=(x,c,m)→nfr x=0→Rel w F x v→c'=c+nfr x∧∃ μ',InvAt W0 F0 (Uk U id c') m' (fun a b=>L a b∨(a=y∧b=v)) w μ' F∧Dis β N c' m' μ'∧((∃ i o l,y=.own i o l)∨Rel w F y v):=by
  intro e h0 hx
  cases e
  exact ⟨by omega,μ,h.also (relS_of_A (relA_of_C (relC_of_rel hx))),hd,.inr hx⟩
 cases x with
 | fr fl sz xs=>
  simp only [impS] at e
  cases e
  obtain ⟨⟨r1,r2,r3⟩,ad,cap,rfl,hcap,hcase⟩:=hr
  have hnew:¬ (Uk U id c) (id+c):=by
   rintro (hu | hu)
   ·exact hid c (by omega) hu
   ·omega
  refine ⟨rfl,_,(h.adopt (q:=β c) hnew h.below (Nat.le_refl _) (fun _ _ _=>rfl) ?_ ?_ (L':=fun a b=>L a b∨(a=.own (id+c) 0 none∧b=.slice ad xs.length cap)) ?_).wider ?_,?_,.inl ⟨_,_,_,rfl⟩⟩
  ·intro b o n hq
   obtain ⟨h1,h2,h3⟩:=hown c b o n hq
   refine ⟨fun hN=>by have:=W0.lt _ hN; omega,h2,h3,fun i y o' n' hy hb=>?_⟩
   rcases hd i y b o' n' hy hb with hlt | ⟨k,o'',n'',hk,hb'⟩
   ·omega
   ·have:=hinj c k b o n o'' n'' hq hb'
    omega
  ·refine ⟨r1,r2,?_⟩
   rcases r3 with ⟨e1,e2⟩ | ⟨b,o,C,f,e1,e2⟩
   ·exact .inl ⟨e1,by simp [e2]⟩
   ·exact .inr ⟨b,o,C,f,by simp [e1],e2⟩
  ·rintro y v (hy | ⟨rfl,rfl⟩)
   ·exact .inl hy
   ·refine .inr ⟨fun _=>rfl,.inr rfl,fun fl' sz' xs' hx=>?_⟩
    rw [Mem.upd_same] at hx
    cases hx
    refine ⟨ad,cap,by simp [lenOf],by simpa [lenOf] using hcap,by simp [lenOf],?_⟩
    rcases hcase with hcase | ⟨b,o,n,ad',e1,e2,e3,e4⟩
    ·exact .inl hcase
    ·refine .inr ⟨b,o,n,ad',by simp [e1],e2,e3,?_⟩
     simpa using e4
  ·rintro i ((hi | hi) | rfl)
   ·exact .inl hi
   ·exact .inr ⟨hi.1,by omega⟩
   ·exact .inr ⟨by omega,by omega⟩
  ·intro i y b o n hy hb
   by_cases e:i=id+c
   ·subst e
    simp only [if_true] at hb
    exact .inr ⟨c,o,n,by omega,hb⟩
   ·rw [Mem.upd_other _ _ e] at hy
    simp only [e,if_false] at hb
    rcases hd i y b o n hy hb with hlt | ⟨k,o',n',hk,hb'⟩
    ·exact .inl hlt
    ·exact .inr ⟨k,o',n',by omega,hb'⟩
 | _=>exact same e.symm rfl hr
theorem relC_elem (h:InvAt W0 F0 U m L w μ F) {y:AV} {v:Value} (hy:L y v) (he:(∃ i o l,y=.own i o l)∨Rel w F y v):RelC w F μ m U y v:=by
 rcases he with ⟨i,o,l,rfl⟩ | he
 ·exact h.pairs _ _ hy
 ·exact relC_of_rel he
theorem impL_ok {N:Nat} (hid:∀ j,j < 8→¬ U (id+j)) (hN:W0.w.heap.size≤N) (hown:∀ k b o n,β k=some (b,o,n)→N≤b∧b < w.heap.size∧¬ F b)
  (hinj:∀ k k' b o n o' n',β k=some (b,o,n)→β k'=some (b,o',n')→k=k'):∀ (xs ys:List AV) (c c' : Nat) (m m' : Mem) (μ:Mu) (L:AV→Value→Prop) (u:Nat→Value),
  impL id c m xs=(ys,c',m')→c'≤8→InvAt W0 F0 (Uk U id c) m L w μ F→Dis β N c m μ→ResL w F β c xs u→
  c'=c+nfrL xs∧ys.length=xs.length∧∃ μ',InvAt W0 F0 (Uk U id c') m' (fun a b=>L a b∨∃ j,ys[j]?=some a∧b=u j) w μ' F∧Dis β N c' m' μ'∧∀ j y,ys[j]?=some y→(∃ i o l,y=.own i o l)∨Rel w F y (u j)
 | [],ys,c,c',m,m',μ,L,u,e,hc,h,hd,hr=>by
  simp only [impL] at e
  cases e
  exact ⟨rfl,rfl,μ,{ h with pairs:=by rintro y v (hy | ⟨j,hj,_⟩); exact h.pairs y v hy; simp at hj },hd,by simp⟩
 | x::xs,ys,c,c',m,m',μ,L,u,e,hc,h,hd,hr=>by
  simp only [impL] at e
  generalize h1:impS id c m x=q1 at e
  obtain ⟨y,c1,m1⟩:=q1
  simp only at e
  generalize h2:impL id c1 m1 xs=q2 at e
  obtain ⟨s,c2,m2⟩:=q2
  cases e
  have mono:∀ (xs:List AV) (c:Nat) (m:Mem),c≤(impL id c m xs).2.1:=by
   intro xs
   induction xs with
   | nil=>intro c m; exact Nat.le_refl _
   | cons x xs ih=>
    intro c m
    simp only [impL]
    refine Nat.le_trans ?_ (ih _ _)
    cases x <;> simp [impS]
  have hle:=mono xs c1 m1
  rw [h2] at hle
  obtain ⟨e1,μ1,i1,d1,el1⟩:=impS_ok h1 (Nat.le_trans hle hc) hid hN h hd hown hinj hr.1
  subst e1
  obtain ⟨e2,l2,μ2,i2,d2,el2⟩:=impL_ok hid hN hown hinj xs s _ c2 m1 m2 μ1 _ (fun j=>u (j+1)) h2 hc i1 d1 hr.2
  refine ⟨by simp only [nfrL]; omega,by simp [l2],μ2,{ i2 with pairs:=?_ },d2,?_⟩
  ·rintro z v (hz | ⟨j,hj,rfl⟩)
   ·exact i2.pairs z v (.inl (.inl hz))
   ·cases j with
    | zero=>simp at hj; subst hj; exact i2.pairs _ _ (.inl (.inr ⟨rfl,rfl⟩))
    | succ j=>exact i2.pairs _ _ (.inr ⟨j,by simpa using hj,rfl⟩)
  ·intro j z hj
   cases j with
   | zero=>simp at hj; subst hj; exact el1
   | succ j=>exact el2 j z (by simpa using hj)
theorem impA_ok {N c c' : Nat} {m' : Mem} {x y:AV} {v:Value} (e:impA id c m x=(y,c',m')) (hc:c'≤8) (hid:∀ j,j < 8→¬ U (id+j)) (hN:W0.w.heap.size≤N)
  (h:InvAt W0 F0 (Uk U id c) m L w μ F) (hd:Dis β N c m μ) (hown:∀ k b o n,β k=some (b,o,n)→N≤b∧b < w.heap.size∧¬ F b)
  (hinj:∀ k k' b o n o' n',β k=some (b,o,n)→β k'=some (b,o',n')→k=k') (hr:ResA w F β c x v) :
  c'=c+nfrA x∧∃ μ',InvAt W0 F0 (Uk U id c') m' (fun a b=>L a b∨(a=y∧b=v)) w μ' F∧Dis β N c' m' μ'∧((∃ cs,y=.agg cs)∨(∃ i o l,y=.own i o l)∨Rel w F y v):=by
 have other:nfrA x=nfr x→impS id c m x=(y,c',m')→ResS w F β c x v→c'=c+nfrA x∧∃ μ',InvAt W0 F0 (Uk U id c') m' (fun a b=>L a b∨(a=y∧b=v)) w μ' F∧Dis β N c' m' μ'∧((∃ cs,y=.agg cs)∨(∃ i o l,y=.own i o l)∨Rel w F y v):=by
  intro h0 e hr
  obtain ⟨e1,μ',i1,d1,el⟩:=impS_ok e hc hid hN h hd hown hinj hr
  exact ⟨by omega,μ',i1,d1,.inr el⟩
 cases x with
 | agg cs=>
  simp only [impA] at e
  generalize h1:impL id c m cs=q1 at e
  obtain ⟨s,c1,m1⟩:=q1
  cases e
  obtain ⟨vs,rfl,hl,hr⟩:=hr
  obtain ⟨e1,l1,μ',i1,d1,el⟩:=impL_ok hid hN hown hinj cs s c _ m _ μ L _ h1 hc h hd hr
  refine ⟨e1,μ',{ i1 with pairs:=?_ },d1,.inl ⟨s,rfl⟩⟩
  rintro z v (hz | ⟨rfl,rfl⟩)
  ·exact i1.pairs z v (.inl hz)
  ·exact ⟨vs,rfl,hl.trans l1.symm,fun j q hj=>relC_elem i1 (.inr ⟨j,hj,rfl⟩) (el j q hj)⟩
 | _=>exact other rfl e hr
theorem relA_elem (h:InvAt W0 F0 U m L w μ F) {y:AV} {v:Value} (hy:L y v) (he:(∃ cs,y=.agg cs)∨(∃ i o l,y=.own i o l)∨Rel w F y v):RelA w F μ m U y v:=by
 rcases he with ⟨cs,rfl⟩ | he
 ·exact h.pairs _ _ hy
 ·exact relA_of_C (relC_elem h hy he)
theorem impAL_ok {N:Nat} (hid:∀ j,j < 8→¬ U (id+j)) (hN:W0.w.heap.size≤N) (hown:∀ k b o n,β k=some (b,o,n)→N≤b∧b < w.heap.size∧¬ F b)
  (hinj:∀ k k' b o n o' n',β k=some (b,o,n)→β k'=some (b,o',n')→k=k'):∀ (xs ys:List AV) (c c' : Nat) (m m' : Mem) (μ:Mu) (L:AV→Value→Prop) (u:Nat→Value),
  impAL id c m xs=(ys,c',m')→c'≤8→InvAt W0 F0 (Uk U id c) m L w μ F→Dis β N c m μ→ResAL w F β c xs u→
  ys.length=xs.length∧∃ μ',InvAt W0 F0 (Uk U id c') m' (fun a b=>L a b∨∃ j,ys[j]?=some a∧b=u j) w μ' F∧∀ j y,ys[j]?=some y→(∃ cs,y=.agg cs)∨(∃ i o l,y=.own i o l)∨Rel w F y (u j)
 | [],ys,c,c',m,m',μ,L,u,e,hc,h,hd,hr=>by
  simp only [impAL] at e
  cases e
  exact ⟨rfl,μ,{ h with pairs:=by rintro y v (hy | ⟨j,hj,_⟩); exact h.pairs y v hy; simp at hj },by simp⟩
 | x::xs,ys,c,c',m,m',μ,L,u,e,hc,h,hd,hr=>by
  simp only [impAL] at e
  generalize h1:impA id c m x=q1 at e
  obtain ⟨y,c1,m1⟩:=q1
  simp only at e
  generalize h2:impAL id c1 m1 xs=q2 at e
  obtain ⟨s,c2,m2⟩:=q2
  cases e
  have monoL:∀ (xs:List AV) (c:Nat) (m:Mem),c≤(impL id c m xs).2.1:=by
   intro xs
   induction xs with
   | nil=>intro c m; exact Nat.le_refl _
   | cons x xs ih=>
    intro c m
    simp only [impL]
    refine Nat.le_trans ?_ (ih _ _)
    cases x <;> simp [impS]
  have mono:∀ (xs:List AV) (c:Nat) (m:Mem),c≤(impAL id c m xs).2.1:=by
   intro xs
   induction xs with
   | nil=>intro c m; exact Nat.le_refl _
   | cons x xs ih=>
    intro c m
    simp only [impAL]
    refine Nat.le_trans ?_ (ih _ _)
    cases x <;> simp [impA,impS]
    exact monoL _ _ _
  have hle:=mono xs c1 m1
  rw [h2] at hle
  obtain ⟨e1,μ1,i1,d1,el1⟩:=impA_ok h1 (Nat.le_trans hle hc) hid hN h hd hown hinj hr.1
  subst e1
  obtain ⟨l2,μ2,i2,el2⟩:=impAL_ok hid hN hown hinj xs s _ c2 m1 m2 μ1 _ (fun j=>u (j+1)) h2 hc i1 d1 hr.2
  refine ⟨by simp [l2],μ2,{ i2 with pairs:=?_ },?_⟩
  ·rintro z v (hz | ⟨j,hj,rfl⟩)
   ·exact i2.pairs z v (.inl (.inl hz))
   ·cases j with
    | zero=>simp at hj; subst hj; exact i2.pairs _ _ (.inl (.inr ⟨rfl,rfl⟩))
    | succ j=>exact i2.pairs _ _ (.inr ⟨j,by simpa using hj,rfl⟩)
  ·intro j z hj
   cases j with
   | zero=>simp at hj; subst hj; exact el1
   | succ j=>exact el2 j z (by simpa using hj)
theorem imp_ok {c:Nat} {m' : Mem} {x y:AV} {v:Value} (e:imp id m x=(y,c,m')) (hc:c≤8) (hid:∀ j,j < 8→¬ U (id+j))
  (h:InvAt W0 F0 U m L w μ F) {N:Nat} (hN:W0.w.heap.size≤N) (hd:∀ i y b o n,m i=some y→μ i=some (b,o,n)→b < N) (hown:∀ k b o n,β k=some (b,o,n)→N≤b∧b < w.heap.size∧¬ F b)
  (hinj:∀ k k' b o n o' n',β k=some (b,o,n)→β k'=some (b,o',n')→k=k') (hr:Res w F β x v) :
  ∃ μ',InvAt W0 F0 (U8 U id) m' (fun a b=>L a b∨(a=y∧b=v)) w μ' F:=by
 have h0:InvAt W0 F0 (Uk U id 0) m L w μ F:=h.wider (fun i hi=>.inl hi)
 have hd0:Dis β N 0 m μ:=fun i y b o n hy hb=>.inl (hd i y b o n hy hb)
 have up:∀ i,Uk U id c i→U8 U id i:=by
  rintro i (hi | hi)
  ·exact .inl hi
  ·exact .inr ⟨hi.1,by omega⟩
 have other:impA id 0 m x=(y,c,m')→ResA w F β 0 x v→∃ μ',InvAt W0 F0 (U8 U id) m' (fun a b=>L a b∨(a=y∧b=v)) w μ' F:=by
  intro e hr
  obtain ⟨_,μ',i1,_⟩:=impA_ok e hc hid hN h0 hd0 hown hinj hr
  exact ⟨μ',i1.wider up⟩
 cases x with
 | tup xs=>
  simp only [imp] at e
  generalize h1:impAL id 0 m xs=q1 at e
  obtain ⟨s,c1,m1⟩:=q1
  cases e
  obtain ⟨vs,rfl,hl,hr⟩:=hr
  obtain ⟨l1,μ',i1,el⟩:=impAL_ok hid hN hown hinj xs s 0 _ m _ μ L _ h1 hc h0 hd0 hr
  refine ⟨μ',InvAt.wider (h:={ i1 with pairs:=?_ }) up⟩
  rintro z v (hz | ⟨rfl,rfl⟩)
  ·exact i1.pairs z v (.inl hz)
  ·exact ⟨vs,rfl,hl.trans l1.symm,fun j q hj=>relA_elem i1 (.inr ⟨j,hj,rfl⟩) (el j q hj)⟩
 | _=>exact other e hr
end
end Go.Proofs.Ev
namespace Go.Proofs.Ev
open Go Go.RowKit
set_option linter.unusedVariables false
def Good (m:Mem) (ord:List Nat):Prop:=ord.Nodup∧∀ i∈ord,m i≠none
theorem good_add {m:Mem} {ord:List Nat} {id:Nat} {b:Blk} (h:Good m ord) (hc:ord.contains id=false) (hm:m id=some b):Good m (ord++[id]):=by
 have hn:id ∉ ord:=by simpa using hc
 refine ⟨?_,?_⟩
 ·rw [List.nodup_append]
  refine ⟨h.1,by simp,?_⟩
  intro a ha b hb
  simp at hb
  subst hb
  exact fun e=>hn (e ▸ ha)
 ·intro i hi
  simp at hi
  rcases hi with hi | rfl
  ·exact h.2 i hi
  ·simp [hm]
theorem good_foldl {m:Mem} {f:List Nat→AV→List Nat} (hf:∀ ord x,Good m ord→Good m (f ord x)):∀ (cs:List AV) (ord:List Nat),Good m ord→Good m (cs.foldl f ord)
 | [],_,h=>h
 | c::cs,ord,h=>good_foldl hf cs _ (hf ord c h)
theorem visit_good {m:Mem}:∀ (n:Nat) (ord:List Nat) (x:AV),Good m ord→Good m (visit n m ord x)
 | 0,_,_,h=>h
 | n+1,ord,x,h=>by
  have ih:=fun ord x=>visit_good (m:=m) n ord x
  have one:∀ id,Good m (bif ord.contains id then ord else match m id with | .some _=>ord++[id] | .none=>ord):=by
   intro id
   cases hc:ord.contains id with
   | true=>exact h
   | false=>
    simp only [cond_false]
    split
    ·rename_i b hb; exact good_add h hc hb
    ·exact h
  unfold visit
  split
  ·exact one _
  ·exact one _
  ·rename_i id off
   cases hc:ord.contains id with
   | true=>exact h
   | false=>
    simp only [cond_false]
    split
    ·rename_i cs hb; exact good_foldl ih _ _ (good_add h hc hb)
    ·rename_i hb; exact good_add h hc hb
    ·exact h
  ·rename_i id
   cases hc:ord.contains id with
   | true=>exact h
   | false=>
    simp only [cond_false]
    split
    ·rename_i cs hb; exact good_foldl ih _ _ (good_add h hc hb)
    ·rename_i hb; exact good_add h hc hb
    ·exact h
  ·exact good_foldl ih _ _ h
  ·exact good_foldl ih _ _ h
  ·exact good_foldl ih _ _ h
  ·exact h
theorem keep_good {m:Mem} {tm:List AV}:∀ (keep:List Tmp) (ord:List Nat),Good m ord→Good m (keep.foldl (fun ord t=>visit 6 m ord (tm.getD t .undef)) ord)
 | [],_,h=>h
 | t::keep,ord,h=>keep_good keep _ (visit_good 6 ord _ h)
theorem idxIn_some {ord:List Nat} {id j:Nat} (h:idxIn ord id=some j):ord[j]?=some id:=by
 unfold idxIn at h
 rw [List.findIdx?_eq_some_iff_getElem] at h
 obtain ⟨hj,he,_⟩:=h
 rw [List.getElem?_eq_getElem hj,Nat.eq_of_beq_eq_true he]
section
variable {R:Type} {P:Program} {G:Cfg} {a:Act} {w w' : World} {W0:Base} {F0 U F F' : Nat→Prop} {id:Nat} {L L' : AV→Value→Prop} {r:R} {m m' : Mem} {μ μ' β:Mu} {S:List AV}
theorem undefB {v:Value} {μ:Mu} {m:Mem} {U:Nat→Prop}:RelB w F μ m U .undef v:=⟨fun h=>by simp [AV.okC] at h,.undef _⟩
theorem ren_rel {ord:List Nat}:∀ (n:Nat) (x:AV) (v:Value),Rel w F x v→Rel w F (ren n ord x) v
 | 0,_,v,_=>.undef v
 | n+1,x,v,h=>by
  cases h with
  | v _ h=>exact .v _ h
  | undef _=>exact .undef _
  | errN=>exact .errN
  | errS t x=>exact .errS _ _
  | slN fl sz=>exact .slN fl sz
  | sl fl sz xs ad cap u h1 h2 h3 h4 h5 h6 h7=>exact .sl fl sz xs ad cap u h1 h2 h3 h4 h5 h6 h7
  | rd cs ad u h1 h2 h3=>exact .rd cs ad u h1 h2 h3
  | agg cs vs hl hr=>
   refine .agg _ vs (by simp [hl]) (fun j c hj=>?_)
   simp only [List.getElem?_map,Option.map_eq_some_iff] at hj
   obtain ⟨y,hy,rfl⟩:=hj
   exact ren_rel n y _ (hr j y hy)
  | fn f cs vs v hv hl hr=>
   refine .fn f _ vs _ hv (by simp [hl]) (fun j c hj=>?_)
   simp only [List.getElem?_map,Option.map_eq_some_iff] at hj
   obtain ⟨y,hy,rfl⟩:=hj
   exact ren_rel n y _ (hr j y hy)
structure Cut (ord:List Nat) (m m' : Mem) (μ μ' : Mu) (U' : Nat→Prop):Prop where
 mem:∀ j id,ord[j]?=some id→m' j=none∨∃ b,m id=some b∧m' j=some (renB ord (some b))
 mu:∀ j id,ord[j]?=some id→μ' j=μ id
 used:∀ j id,ord[j]?=some id→U' j
theorem ren_B {ord:List Nat} {U' : Nat→Prop} (hc:Cut ord m m' μ μ' U') (n:Nat) {x:AV} {v:Value} (h:RelB w F μ m U x v):RelB w F μ' m' U' (ren n ord x) v:=by
 cases n with
 | zero=>exact undefB
 | succ n=>
  obtain ⟨h1,h⟩:=h
  have byval:Rel w F x v→RelB w F μ' m' U' (ren (n+1) ord x) v:=fun h=>relB_of_rel (ren_rel (n+1) x v h)
  cases x with
  | own id off l=>
   simp only [ren]
   split
   ·rename_i j hj
    have hj:=idxIn_some hj
    refine ⟨fun _=>h1 rfl,hc.used j id hj,fun fl sz xs hx=>?_⟩
    rcases hc.mem j id hj with hm | ⟨b,hb,hm⟩
    ·rw [hm] at hx; cases hx
    ·rw [hm] at hx
     cases b with
     | box tb cs=>cases hx
     | row fl' sz' xs'=>
      cases hx
      rw [hc.mu j id hj]
      exact h.2 _ _ _ hb
   ·exact undefB
  | elt id i off=>
   simp only [ren]
   split
   ·rename_i j hj
    have hj:=idxIn_some hj
    refine ⟨fun _=>h1 rfl,hc.used j id hj,fun fl sz xs hx=>?_⟩
    rcases hc.mem j id hj with hm | ⟨b,hb,hm⟩
    ·rw [hm] at hx; cases hx
    ·rw [hm] at hx
     cases b with
     | box tb cs=>cases hx
     | row fl' sz' xs'=>
      cases hx
      rw [hc.mu j id hj]
      exact h.2 _ _ _ hb
   ·exact undefB
  | ptr id off=>
   simp only [ren]
   split
   ·rename_i j hj
    have hj:=idxIn_some hj
    refine ⟨fun _=>h1 rfl,hc.used j id hj,fun tb cs hx=>?_⟩
    rcases hc.mem j id hj with hm | ⟨b,hb,hm⟩
    ·rw [hm] at hx; cases hx
    ·rw [hm] at hx
     cases b with
     | box tb' cs'=>rw [hc.mu j id hj]; cases hx; exact h.2 _ _ hb
     | row fl' sz' xs'=>cases hx
   ·exact undefB
  | bs id=>
   simp only [ren]
   split
   ·rename_i j hj
    have hj:=idxIn_some hj
    refine ⟨fun _=>h1 rfl,hc.used j id hj,fun tb cs hx=>?_⟩
    rcases hc.mem j id hj with hm | ⟨b,hb,hm⟩
    ·rw [hm] at hx; cases hx
    ·rw [hm] at hx
     cases b with
     | box tb' cs'=>rw [hc.mu j id hj]; cases hx; rw [List.length_map]; exact h.2 _ _ hb
     | row fl' sz' xs'=>cases hx
   ·exact undefB
  | fr _ _ _=>exact h.elim
  | v _=>exact byval h
  | sl _ _ _=>exact byval h
  | rd _=>exact byval h
  | agg _=>exact byval h
  | tup _=>exact byval h
  | fn _ _=>exact byval h
  | err _=>exact byval h
  | undef=>exact byval h
theorem ren_C {ord:List Nat} {U' : Nat→Prop} (hc:Cut ord m m' μ μ' U') (n:Nat) {x:AV} {v:Value} (h:RelC w F μ m U x v):RelC w F μ' m' U' (ren n ord x) v:=by
 cases n with
 | zero=>exact relC_of_B undefB
 | succ n=>
  cases x
  case fn f cs=>
   obtain ⟨vs,e,hl,hr⟩:=h
   refine ⟨vs,e,by simp [hl],fun j c hj=>?_⟩
   simp only [List.getElem?_map,Option.map_eq_some_iff] at hj
   obtain ⟨y,hy,rfl⟩:=hj
   exact ren_B hc n (hr j y hy)
  all_goals exact relC_of_B (ren_B (U:=U) hc (n+1) h)
theorem ren_A {ord:List Nat} {U' : Nat→Prop} (hc:Cut ord m m' μ μ' U') (n:Nat) {x:AV} {v:Value} (h:RelA w F μ m U x v):RelA w F μ' m' U' (ren n ord x) v:=by
 cases n with
 | zero=>exact relA_of_C (relC_of_B undefB)
 | succ n=>
  cases x
  case agg cs=>
   obtain ⟨vs,e,hl,hr⟩:=h
   refine ⟨vs,e,by simp [hl],fun j c hj=>?_⟩
   simp only [List.getElem?_map,Option.map_eq_some_iff] at hj
   obtain ⟨y,hy,rfl⟩:=hj
   exact ren_C hc n (hr j y hy)
  all_goals exact relA_of_C (ren_C (U:=U) hc (n+1) h)
theorem ren_S {ord:List Nat} {U' : Nat→Prop} (hc:Cut ord m m' μ μ' U') (n:Nat) {x:AV} {v:Value} (h:RelS w F μ m U x v):RelS w F μ' m' U' (ren n ord x) v:=by
 cases n with
 | zero=>exact relS_of_A (relA_of_C (relC_of_B undefB))
 | succ n=>
  cases x
  case tup cs=>
   obtain ⟨vs,e,hl,hr⟩:=h
   refine ⟨vs,e,by simp [hl],fun j c hj=>?_⟩
   simp only [List.getElem?_map,Option.map_eq_some_iff] at hj
   obtain ⟨y,hy,rfl⟩:=hj
   exact ren_A hc n (hr j y hy)
  all_goals exact relS_of_A (ren_A (U:=U) hc (n+1) h)
end
end Go.Proofs.Ev
namespace Go.Proofs.Ev
open Go Go.RowKit
set_option linter.unusedVariables false
def DidW {R:Type} (P:Program) (o:Oper) (a:Act) (w:World) (W0:Base) (F0 U:Nat→Prop) (id:Nat) (L:AV→Value→Prop) (K:AV→Mem→Option R) (r:R):Prop:=
 ∀ (next:Act→World→Prop) (Q:Exit→Act→World→Prop),
  (∀ x m' v w',K x m'=some r→Inv W0 F0 (U8 U id) m' (fun y u=>L y u∨(y=x∧u=v)) w'→next (a.put o.dst v) w')→o.wp P a w next Q
section
variable {R:Type} {P:Program} {G:Cfg} {o:Oper} {a:Act} {w w' : World} {W0:Base} {F0 U F F' : Nat→Prop} {id:Nat} {L L' : AV→Value→Prop} {K:AV→Mem→Option R} {r:R} {m:Mem} {μ β:Mu} {S:List AV}
theorem Did.toW (h:Did P o a w W0 F0 U id L K r):DidW P o a w W0 F0 U id L K r:=by
 obtain ⟨x,m',v,w',hr,hK,hI⟩:=h
 intro next Q hn
 unfold Oper.wp
 rcases hr with hr | ⟨hr,rfl⟩
 ·rw [hr]; exact hn x m' v w' hK hI
 ·rw [hr]; exact hn x m' _ w' hK hI
theorem InvAt.more (h:InvAt W0 F0 U m L w μ F) (hs:∀ b,F b→F' b) (hn:∀ b,F' b→b < w.heap.size∧(F b∨(¬ W0.N b∧∀ i y o n,m i=some y→μ i≠some (b,o,n)))):InvAt W0 F0 U m L w μ F' where
 below:=h.below
 foreign:=fun b hb=>⟨(hn b hb).1,by
  rcases (hn b hb).2 with h1 | h1
  ·exact (h.foreign b h1).2
  ·exact .inr h1.1⟩
 sub:=fun b hb=>hs b (h.sub b hb)
 gl:=fun b hb=>hs b (h.gl b hb)
 used:=h.used
 blk:=fun i x hx=>(h.blk i x hx).mono hs (fun _ _=>rfl) (fun _ hi=>hi) (fun i _=>⟨.refl _,fun _=>rfl⟩) rfl (fun _ _ _ _=>rfl)
 own:=fun i x b o n hx hb=>⟨(h.own i x b o n hx hb).1,(h.own i x b o n hx hb).2.1,fun hF=>by
  rcases (hn b hF).2 with h1 | h1
  ·exact (h.own i x b o n hx hb).2.2 h1
  ·exact h1.2 i x o n hx hb⟩
 inj:=h.inj
 pairs:=fun x v hx=>(h.pairs x v hx).mono hs (fun _ _=>rfl) (fun _ hi=>hi) (fun i _=>⟨.refl _,fun _=>rfl⟩)
theorem resS_clean {k:Nat} {x:AV} {v:Value} (hc:cleanS x=true) (h:ResS w F' β k x v):ResS w F β k x v:=by
 cases x with
 | v y=>cases h with | v _ h=>exact .v _ h
 | err b=>cases h with | errN=>exact .errN | errS t x=>exact .errS t x
 | fr fl sz xs=>
  have hf:fl.b=true:=hc
  obtain ⟨⟨h1,h2,h3⟩,h4⟩:=h
  refine ⟨⟨h1,h2,?_⟩,h4⟩
  rcases h3 with h3 | ⟨b,o,C,f,e1,e2,e3,e4,e5⟩
  ·exact .inl h3
  ·refine .inr ⟨b,o,C,f,e1,e2,e3,e4,fun j c hj=>?_⟩
   have h5:=e5 j c hj
   have h6:=(h2 c (List.mem_of_getElem? hj)).2 hf
   cases c <;> first | (cases h6; done) | skip
   cases h5 with | v _ h=>exact .v _ h
 | _=>cases hc
theorem resL_clean:∀ (xs:List AV) (k:Nat) (u:Nat→Value),xs.all cleanS=true→ResL w F' β k xs u→ResL w F β k xs u
 | [],_,_,_,_=>trivial
 | x::xs,k,u,hc,h=>by
  simp only [List.all_cons,Bool.and_eq_true] at hc
  exact ⟨resS_clean hc.1 h.1,resL_clean xs _ _ hc.2 h.2⟩
theorem resA_clean {k:Nat} {x:AV} {v:Value} (hc:cleanA x=true) (h:ResA w F' β k x v):ResA w F β k x v:=by
 cases x with
 | agg cs=>obtain ⟨vs,e,hl,hr⟩:=h; exact ⟨vs,e,hl,resL_clean cs _ _ hc hr⟩
 | _=>
  simp only [ResA,cleanA] at h hc ⊢
  exact resS_clean hc h
theorem resAL_clean:∀ (xs:List AV) (k:Nat) (u:Nat→Value),xs.all cleanA=true→ResAL w F' β k xs u→ResAL w F β k xs u
 | [],_,_,_,_=>trivial
 | x::xs,k,u,hc,h=>by
  simp only [List.all_cons,Bool.and_eq_true] at hc
  exact ⟨resA_clean hc.1 h.1,resAL_clean xs _ _ hc.2 h.2⟩
theorem res_clean {x:AV} {v:Value} (hc:cleanR x=true) (h:Res w F' β x v):Res w F β x v:=by
 cases x with
 | tup xs=>obtain ⟨vs,e,hl,hr⟩:=h; exact ⟨vs,e,hl,resAL_clean xs _ _ hc hr⟩
 | _=>
  simp only [Res,cleanR] at h hc ⊢
  exact resA_clean hc h
theorem normS_rel {k:SK} {x y:AV} {v:Value} (e:normS k x=some y) (h:Rel w F x v):Rel w F y v:=by
 cases k with
 | slice fl sz=>
  simp only [normS] at e
  split at e
  ·cases e; cases h; exact .slN _ _
  ·obtain ⟨h1,e⟩:=bif_some e
   rw [Bool.and_eq_true] at h1
   have e1:=eq_of_beq h1.1
   have e2:=Nat.eq_of_beq_eq_true h1.2
   subst e1; subst e2
   cases e
   exact h
  ·cases e
 | any=>
  simp only [normS] at e
  split at e
  ·cases e; cases h; exact .errN
  ·cases e; cases h; exact .errS _ _
  ·cases e; exact h
 | _=>simp only [normS] at e; cases e; exact h
theorem normL_rel:∀ (ks:List SK) (xs ys:List AV) (u:Nat→Value),normL ks xs=some ys→(∀ j c,xs[j]?=some c→Rel w F c (u j))→ys.length≤xs.length∧ys.length=ks.length∧∀ j c,ys[j]?=some c→Rel w F c (u j)
 | [],xs,ys,u,e,h=>by simp [normL] at e; subst e; exact ⟨Nat.zero_le _,rfl,by simp⟩
 | k::ks,[],ys,u,e,h=>by simp [normL] at e
 | k::ks,x::xs,ys,u,e,h=>by
  simp only [normL] at e
  split at e
  ·rename_i y s hy hs
   cases e
   obtain ⟨l1,l2,h2⟩:=normL_rel ks xs s (fun j=>u (j+1)) hs (fun j c hj=>h (j+1) c (by simpa using hj))
   refine ⟨by simpa using l1,by simp [l2],fun j c hj=>?_⟩
   cases j with
   | zero=>simp at hj; subst hj; exact normS_rel hy (h 0 x rfl)
   | succ j=>exact h2 j c (by simpa using hj)
  ·cases e
theorem normA_rel {t:TypeId} {x y:AV} {v:Value} (hG:CfgOk P G) (e:normA G t x=some y) (h:Rel w F x v):Rel w F y v:=by
 unfold normA at e
 split at e
 ·rename_i ti hti
  have hT:=hG.ti t ti hti
  split at e
  ·rename_i cs
   obtain ⟨h1,e⟩:=bif_some e
   have h1:=Nat.eq_of_beq_eq_true h1
   rw [Option.map_eq_some_iff] at e
   obtain ⟨ys,hy,rfl⟩:=e
   cases h with | agg cs vs hl hr=>
   obtain ⟨l1,l2,h2⟩:=normL_rel _ _ _ _ hy hr
   exact .agg ys vs (by rw [hl,l2,hT.sksl,h1]) h2
  ·rename_i cs
   split at e
   ·split at e
    ·rename_i ei hei
     rw [Option.map_eq_some_iff] at e
     obtain ⟨ys,hy,rfl⟩:=e
     cases h with | rd cs ad u hF hc hr=>
     obtain ⟨l1,l2,h2⟩:=normL_rel _ _ _ _ hy hr
     exact .rd ys ad u hF (fun j hj=>hc j (by omega)) h2
    ·cases e
   ·cases e
  ·split at e
   ·exact normS_rel e h
   ·cases e
 ·cases e
theorem normAL_rel (hG:CfgOk P G):∀ (ts:List TypeId) (xs ys:List AV) (u:Nat→Value),normAL G ts xs=some ys→(∀ j c,xs[j]?=some c→Rel w F c (u j))→ys.length=xs.length∧∀ j c,ys[j]?=some c→Rel w F c (u j)
 | [],[],ys,u,e,h=>by simp [normAL] at e; subst e; exact ⟨rfl,by simp⟩
 | [],_::_,ys,u,e,h=>by simp [normAL] at e
 | _::_,[],ys,u,e,h=>by simp [normAL] at e
 | t::ts,x::xs,ys,u,e,h=>by
  simp only [normAL] at e
  split at e
  ·rename_i y s hy hs
   cases e
   obtain ⟨l1,h2⟩:=normAL_rel hG ts xs s (fun j=>u (j+1)) hs (fun j c hj=>h (j+1) c (by simpa using hj))
   refine ⟨by simp [l1],fun j c hj=>?_⟩
   cases j with
   | zero=>simp at hj; subst hj; exact normA_rel hG hy (h 0 x rfl)
   | succ j=>exact h2 j c (by simpa using hj)
  ·cases e
end
end Go.Proofs.Ev
namespace Go.Proofs.Ev
open Go Go.RowKit
set_option linter.unusedVariables false
theorem avBlk_blkAV (b:Blk):avBlk (blkAV b)=some b:=by cases b <;> rfl
theorem ofBs_map (ord:List Nat) (f:Nat→Blk) (j:Nat):Mem.ofBs (ord.map fun i=>blkAV (f i)) j=(ord[j]?).map f:=by
 unfold Mem.ofBs
 simp only [List.getElem?_map]
 cases ord[j]? with
 | none=>rfl
 | some i=>exact avBlk_blkAV _
theorem visits_good {m:Mem} (xs:List AV):Good m (xs.foldl (visit 6 m) []):=good_foldl (fun ord x h=>visit_good 6 ord x h) xs [] ⟨by simp,by simp⟩
theorem ordM_good (m:Mem) (xs:List AV):Good m (ordM m xs):=by
 obtain ⟨h1,h2⟩:=visits_good (m:=m) xs
 unfold ordM
 refine ⟨?_,fun i hi=>?_⟩
 ·rw [List.nodup_append]
  refine ⟨h1.filter _,h1.filter _,?_⟩
  intro a ha b hb e
  subst e
  simp only [List.mem_filter] at ha hb
  have:=hb.2
  rw [ha.2] at this
  cases this
 ·rcases List.mem_append.1 hi with hi | hi
  ·exact h2 i (List.mem_filter.1 hi).1
  ·exact h2 i (List.mem_filter.1 hi).1
theorem ordM_boxes (m:Mem) (xs:List AV):(ordM m xs).filter (fun i=>isBx (m i))=(xs.foldl (visit 6 m) []).filter (fun i=>isBx (m i)):=by
 unfold ordM
 rw [List.filter_append,List.filter_filter,List.filter_filter]
 simp
theorem ordM_box (m:Mem) (xs:List AV) {j:Nat} (hj:j < ((ordM m xs).filter fun i=>isBx (m i)).length):∃ id tb cs,(ordM m xs)[j]?=some id∧m id=some (.box tb cs):=by
 rw [ordM_boxes] at hj
 obtain ⟨id,hid⟩ : ∃ id,((xs.foldl (visit 6 m) []).filter fun i=>isBx (m i))[j]?=some id:=⟨_,List.getElem?_eq_getElem hj⟩
 have hb:=(List.mem_filter.1 (List.mem_of_getElem? hid)).2
 refine ⟨id,?_⟩
 have e:(ordM m xs)[j]?=some id:=by
  unfold ordM
  rw [List.getElem?_append_left hj]
  exact hid
 cases hm:m id with
 | none=>rw [hm] at hb; cases hb
 | some b=>
  cases b with
  | box tb cs=>exact ⟨tb,cs,e,rfl⟩
  | row fl sz ys=>rw [hm] at hb; cases hb
theorem ordM_row (m:Mem) (xs:List AV) {j id:Nat} (hj:((ordM m xs).filter fun i=>isBx (m i)).length≤j) (h:(ordM m xs)[j]?=some id):isBx (m id)=false:=by
 rw [ordM_boxes] at hj
 unfold ordM at h
 rw [List.getElem?_append_right hj] at h
 have:=(List.mem_filter.1 (List.mem_of_getElem? h)).2
 simpa using this
theorem nbox_le:∀ (bs:List AV) (k:Nat),(∀ j c,bs[j]?=some c→j < k→∃ tb cs,c=.fn tb cs)→(∀ c,bs[k]?=some c→∀ tb cs,c≠.fn tb cs)→k≤bs.length→nbox bs=k
 | [],k,_,_,h=>by
  have:k=0:=by simpa using h
  subst this
  rfl
 | x::bs,0,_,h2,_=>by
  have:=h2 x rfl
  cases x <;> first | rfl | exact absurd rfl (this _ _)
 | x::bs,k+1,h1,h2,h3=>by
  obtain ⟨tb,cs,rfl⟩:=h1 0 x rfl (by omega)
  simp only [nbox]
  rw [nbox_le bs k (fun j c hj hk=>h1 (j+1) c (by simpa using hj) (by omega)) (fun c hc=>h2 c (by simpa using hc)) (by simpa using h3)]
theorem nbox_ordM (m:Mem) (xs:List AV):nbox ((ordM m xs).map fun i=>blkAV (renB (ordM m xs) (m i)))=((ordM m xs).filter fun i=>isBx (m i)).length:=by
 apply nbox_le
 ·intro j c hj hk
  obtain ⟨id,tb,cs,h1,h2⟩:=ordM_box m xs hk
  rw [List.getElem?_map,h1] at hj
  simp only [Option.map_some,Option.some.injEq,h2] at hj
  exact ⟨_,_,hj.symm⟩
 ·intro c hc tb cs
  rw [List.getElem?_map] at hc
  cases h:(ordM m xs)[((ordM m xs).filter fun i=>isBx (m i)).length]? with
  | none=>rw [h] at hc; cases hc
  | some id=>
   rw [h] at hc
   have hb:=ordM_row m xs (Nat.le_refl _) h
   have hne:=(ordM_good m xs).2 id (List.mem_of_getElem? h)
   simp only [Option.map_some,Option.some.injEq] at hc
   cases hm:m id with
   | none=>exact absurd hm hne
   | some b=>
    cases b with
    | box tb cs=>rw [hm] at hb; cases hb
    | row fl sz ys=>
     rw [hm] at hc
     rw [← hc]
     intro e
     cases e
 ·rw [List.length_map]
  exact List.length_filter_le _ _
section
variable {R:Type} {P:Program} {G:Cfg} {o:Oper} {a:Act} {w w' : World} {W0:Base} {F0 U F F' : Nat→Prop} {id:Nat} {L L' : AV→Value→Prop} {K:AV→Mem→Option R} {r:R} {m m' : Mem} {μ μ' β:Mu} {S:List AV}
def RelM (w:World) (F:Nat→Prop) (μ:Mu) (m:Mem) (U:Nat→Prop) (x:AV) (v:Value):Prop:=
 match x with
 | .ptr _ _ | .fn _ _=>RelS w F μ m U x v
 | x=>Rel w F x v
theorem RelM.s {x:AV} {v:Value} (h:RelM w F μ m U x v):RelS w F μ m U x v:=by
 cases x <;> first | exact h | exact relS_of_A (relA_of_C (relC_of_rel h))
theorem frz_mono (h:InvAt W0 F0 U m L w μ F) (I:List Nat) {x:AV} {v:Value} (hx:RelS w F μ m U x v):RelS w (fun b=>F b∨blksOf μ m I b) μ (frz m I) U x v:=by
 refine hx.mono (fun _ h=>.inl h) (fun _ _=>rfl) (fun _ h=>h) (fun i _=>⟨?_,fun _=>rfl⟩)
 rw [frz_none]
 split
 ·cases m i with | none=>trivial | some y=>cases y <;> trivial
 ·exact .refl _
theorem capsM_rel (h:InvAt W0 F0 U m L w μ F) (I:List Nat):∀ (cs ys:List AV) (u:Nat→Value),capsM m cs=some ys→(∀ j c,cs[j]?=some c→RelB w F μ m U c (u j))→(∀ i∈cs.flatMap idsS,i∈I)→
  ys.length=cs.length∧∀ j c,ys[j]?=some c→RelB w (fun b=>F b∨blksOf μ m I b) μ (frz m I) U c (u j)
 | [],ys,u,hv,_,_=>by simp [capsM] at hv; subst hv; exact ⟨rfl,by simp⟩
 | x::r,ys,u,hv,hr,hI=>by
  simp only [capsM] at hv
  split at hv
  ·rename_i y s hy hs
   cases hv
   obtain ⟨l2,r2⟩:=capsM_rel h I r s (fun j=>u (j+1)) hs (fun j c hj=>hr (j+1) c (by simpa using hj)) (fun i hi=>hI i (by simp only [List.flatMap_cons,List.mem_append]; exact .inr hi))
   refine ⟨by simp [l2],fun j c hj=>?_⟩
   cases j with
   | succ j=>exact r2 j c (by simpa using hj)
   | zero=>
    simp at hj
    subst hj
    have hx:=hr 0 x rfl
    have hv' : valS m x=some y→RelB w (fun b=>F b∨blksOf μ m I b) μ (frz m I) U y (u 0):=fun hy=>
     relB_of_rel (valS_rel h (relC_of_B hx) hy I (fun i hi=>hI i (by simp only [List.flatMap_cons,List.mem_append]; exact .inl hi)))
    cases x with
    | ptr id off=>
     simp at hy
     subst hy
     have:=frz_mono h I (relS_of_A (relA_of_C (relC_of_B hx)))
     exact this
    | _=>exact hv' hy
  ·cases hv
theorem argM_rel (h:InvAt W0 F0 U m L w μ F) (I:List Nat) {x y:AV} {v:Value} (hx:RelS w F μ m U x v) (hv:argM m x=some y) (hI:∀ i∈idsM m x,i∈I) :
  RelM w (fun b=>F b∨blksOf μ m I b) μ (frz m I) U y v:=by
 have other:valA m x=some y→(∀ i∈idsF m x,i∈I)→(∀ f cs,x≠.fn f cs)→(∀ id off,x≠.ptr id off)→RelM w (fun b=>F b∨blksOf μ m I b) μ (frz m I) U y v:=by
  intro hv hI h1 h2
  have hr:=valA_rel h hx hv I hI
  cases y with
  | ptr=>cases hr
  | fn g cs=>
   exfalso
   cases x <;> simp only [valA,valP,valS,asSl] at hv <;> first | (cases hv; done) | exact h1 _ _ rfl | exact h2 _ _ rfl | (simp at hv; done) | (split at hv <;> cases hv) | skip
  | _=>exact hr
 cases x with
 | ptr id off=>
  simp only [argM,Option.some.injEq] at hv
  subst hv
  exact frz_mono h I hx
 | fn f caps=>
  simp only [argM,Option.map_eq_some_iff] at hv
  obtain ⟨ys,hys,rfl⟩:=hv
  obtain ⟨vs,hv0,hl,hr⟩:=hx
  obtain ⟨l1,r1⟩:=capsM_rel h I caps ys (fun j=>vs.getD j undef) hys hr hI
  exact ⟨vs,hv0,by rw [l1,hl],r1⟩
 | _=>exact other hv hI (by simp) (by simp)
theorem argML_rel (h:InvAt W0 F0 U m L w μ F) (I:List Nat):∀ (xs ys:List AV) (u:Nat→Value),argML m xs=some ys→(∀ j c,xs[j]?=some c→RelS w F μ m U c (u j))→(∀ i∈xs.flatMap (idsM m),i∈I)→
  ys.length=xs.length∧∀ j c,ys[j]?=some c→RelM w (fun b=>F b∨blksOf μ m I b) μ (frz m I) U c (u j)
 | [],ys,u,hv,_,_=>by simp [argML] at hv; subst hv; exact ⟨rfl,by simp⟩
 | x::r,ys,u,hv,hr,hI=>by
  simp only [argML] at hv
  split at hv
  ·rename_i y s hy hs
   cases hv
   obtain ⟨l2,r2⟩:=argML_rel h I r s (fun j=>u (j+1)) hs (fun j c hj=>hr (j+1) c (by simpa using hj)) (fun i hi=>hI i (by simp only [List.flatMap_cons,List.mem_append]; exact .inr hi))
   refine ⟨by simp [l2],fun j c hj=>?_⟩
   cases j with
   | zero=>simp at hj; subst hj; exact argM_rel h I (hr 0 x rfl) hy (fun i hi=>hI i (by simp only [List.flatMap_cons,List.mem_append]; exact .inl hi))
   | succ j=>exact r2 j c (by simpa using hj)
  ·cases hv
theorem normML_rel (hG:CfgOk P G):∀ (ts:List TypeId) (xs ys:List AV) (u:Nat→Value),normML G ts xs=some ys→(∀ j c,xs[j]?=some c→RelM w F μ m U c (u j))→ys.length=xs.length∧∀ j c,ys[j]?=some c→RelS w F μ m U c (u j)
 | [],xs,ys,u,e,h=>by simp [normML] at e; subst e; exact ⟨rfl,fun j c hj=>(h j c hj).s⟩
 | _::_,[],ys,u,e,h=>by simp [normML] at e
 | t::ts,x::xs,ys,u,e,h=>by
  simp only [normML] at e
  split at e
  ·rename_i y s hy hs
   cases e
   obtain ⟨l2,r2⟩:=normML_rel hG ts xs s (fun j=>u (j+1)) hs (fun j c hj=>h (j+1) c (by simpa using hj))
   refine ⟨by simp [l2],fun j c hj=>?_⟩
   cases j with
   | succ j=>exact r2 j c (by simpa using hj)
   | zero=>
    simp at hj
    subst hj
    have hx:=h 0 x rfl
    cases x <;> simp only [normM] at hy <;> first | (cases hy; exact hx.s) | exact relS_of_A (relA_of_C (relC_of_rel (normA_rel hG hy hx)))
  ·cases e
theorem mapI_rel {f:Nat→Nat}:∀ (n:Nat) (x:AV) (v:Value),Rel w F x v→Rel w F (mapI n f x) v
 | 0,_,v,_=>.undef v
 | n+1,x,v,h=>by
  cases h with
  | v _ h=>exact .v _ h
  | undef _=>exact .undef _
  | errN=>exact .errN
  | errS t x=>exact .errS _ _
  | slN fl sz=>exact .slN fl sz
  | sl fl sz xs ad cap u h1 h2 h3 h4 h5 h6 h7=>exact .sl fl sz xs ad cap u h1 h2 h3 h4 h5 h6 h7
  | rd cs ad u h1 h2 h3=>exact .rd cs ad u h1 h2 h3
  | agg cs vs hl hr=>
   refine .agg _ vs (by simp [hl]) (fun j c hj=>?_)
   simp only [List.getElem?_map,Option.map_eq_some_iff] at hj
   obtain ⟨y,hy,rfl⟩:=hj
   exact mapI_rel n y _ (hr j y hy)
  | fn g cs vs v hv hl hr=>
   refine .fn g _ vs _ hv (by simp [hl]) (fun j c hj=>?_)
   simp only [List.getElem?_map,Option.map_eq_some_iff] at hj
   obtain ⟨y,hy,rfl⟩:=hj
   exact mapI_rel n y _ (hr j y hy)
structure Moved (f:Nat→Nat) (m m' : Mem) (μ μ' : Mu) (U U' : Nat→Prop):Prop where
 mem:∀ j,U j→m' (f j)≠none→∃ b,m j=some b∧m' (f j)=mapBlk f (some b)
 mu:∀ j,U j→m' (f j)≠none→μ' (f j)=μ j
 used:∀ j,U j→m' (f j)≠none→U' (f j)
 gone:∀ j,U j→m' (f j)=none→U' (f j)
theorem mapI_B {f:Nat→Nat} {U' : Nat→Prop} (hc:Moved f m m' μ μ' U U') (n:Nat) {x:AV} {v:Value} (h:RelB w F μ m U x v):RelB w F μ' m' U' (mapI n f x) v:=by
 cases n with
 | zero=>exact undefB
 | succ n=>
  obtain ⟨h1,h⟩:=h
  have byval:Rel w F x v→RelB w F μ' m' U' (mapI (n+1) f x) v:=fun h=>relB_of_rel (mapI_rel (n+1) x v h)
  have usd:∀ j,U j→U' (f j):=fun j hj=>by
   by_cases e:m' (f j)=none
   ·exact hc.gone j hj e
   ·exact hc.used j hj e
  cases x with
  | own id off l=>
   refine ⟨fun _=>h1 rfl,usd _ h.1,fun fl sz xs hx=>?_⟩
   have hne:m' (f id)≠none:=by rw [hx]; simp
   obtain ⟨b,hb,hb'⟩:=hc.mem id h.1 hne
   rw [hx] at hb'
   rw [hc.mu id h.1 hne]
   cases b with
   | box tb cs=>cases hb'
   | row fl' sz' xs'=>cases hb'; exact h.2 _ _ _ hb
  | elt id i off=>
   refine ⟨fun _=>h1 rfl,usd _ h.1,fun fl sz xs hx=>?_⟩
   have hne:m' (f id)≠none:=by rw [hx]; simp
   obtain ⟨b,hb,hb'⟩:=hc.mem id h.1 hne
   rw [hx] at hb'
   rw [hc.mu id h.1 hne]
   cases b with
   | box tb cs=>cases hb'
   | row fl' sz' xs'=>cases hb'; exact h.2 _ _ _ hb
  | ptr id off=>
   refine ⟨fun _=>h1 rfl,usd _ h.1,fun tb cs hx=>?_⟩
   have hne:m' (f id)≠none:=by rw [hx]; simp
   obtain ⟨b,hb,hb'⟩:=hc.mem id h.1 hne
   rw [hc.mu id h.1 hne]
   cases b with
   | box tb' cs'=>exact h.2 _ _ hb
   | row fl' sz' xs'=>rw [hx] at hb'; cases hb'
  | bs id=>
   refine ⟨fun _=>h1 rfl,usd _ h.1,fun tb cs hx=>?_⟩
   have hne:m' (f id)≠none:=by rw [hx]; simp
   obtain ⟨b,hb,hb'⟩:=hc.mem id h.1 hne
   rw [hc.mu id h.1 hne]
   rw [hx] at hb'
   cases b with
   | box tb' cs'=>cases hb'; rw [List.length_map]; exact h.2 _ _ hb
   | row fl' sz' xs'=>cases hb'
  | fr _ _ _=>exact h.elim
  | v _=>exact byval h
  | sl _ _ _=>exact byval h
  | rd _=>exact byval h
  | agg _=>exact byval h
  | tup _=>exact byval h
  | fn _ _=>exact byval h
  | err _=>exact byval h
  | undef=>exact byval h
theorem mapI_C {f:Nat→Nat} {U' : Nat→Prop} (hc:Moved f m m' μ μ' U U') (n:Nat) {x:AV} {v:Value} (h:RelC w F μ m U x v):RelC w F μ' m' U' (mapI n f x) v:=by
 cases n with
 | zero=>exact relC_of_B undefB
 | succ n=>
  cases x
  case fn g cs=>
   obtain ⟨vs,e,hl,hr⟩:=h
   refine ⟨vs,e,by simp [hl],fun j c hj=>?_⟩
   simp only [List.getElem?_map,Option.map_eq_some_iff] at hj
   obtain ⟨y,hy,rfl⟩:=hj
   exact mapI_B hc n (hr j y hy)
  all_goals exact relC_of_B (mapI_B (U:=U) hc (n+1) h)
theorem plain_same {x:AV} {v:Value} {w1:World} {F1:Nat→Prop} {μ1:Mu} {m1:Mem} {U1:Nat→Prop} (hp:plainR x=true) (h:RelS w F μ m U x v):RelS w1 F1 μ1 m1 U1 x v:=by
 have hS:∀ {x:AV} {v:Value},plainS x=true→RelC w F μ m U x v→RelC w1 F1 μ1 m1 U1 x v:=by
  intro x v hp h
  cases x with
  | v y=>obtain ⟨h1,h2⟩:=h; cases h2 with | v _ h3=>exact ⟨h1,.v _ h3⟩
  | err b=>obtain ⟨h1,h2⟩:=h; cases h2 with | errN=>exact ⟨h1,.errN⟩ | errS t y=>exact ⟨h1,.errS t y⟩
  | _=>cases hp
 have hA:∀ {x:AV} {v:Value},plainA x=true→RelA w F μ m U x v→RelA w1 F1 μ1 m1 U1 x v:=by
  intro x v hp h
  cases x
  case agg cs=>
   obtain ⟨vs,e,hl,hr⟩:=h
   exact ⟨vs,e,hl,fun j c hj=>hS (List.all_eq_true.1 hp c (List.mem_of_getElem? hj)) (hr j c hj)⟩
  all_goals exact relA_of_C (hS hp h)
 cases x
 case tup cs=>
  obtain ⟨vs,e,hl,hr⟩:=h
  exact ⟨vs,e,hl,fun j c hj=>hA (List.all_eq_true.1 hp c (List.mem_of_getElem? hj)) (hr j c hj)⟩
 all_goals exact relS_of_A (hA hp h)
end
end Go.Proofs.Ev
namespace Go.Proofs.Ev
open Go Go.RowKit
set_option linter.unusedVariables false
section
variable {R:Type} {P:Program} {G:Cfg} {o:Oper} {a:Act} {w w' : World} {W0:Base} {F0 U F F' : Nat→Prop} {id:Nat} {L L' : AV→Value→Prop} {K:AV→Mem→Option R} {r:R} {m m' : Mem} {μ μ' β:Mu} {S:List AV}
def Same2 (m m' : Mem) (μ μ' : Mu) (i:Nat):Prop:=
 (SameShape (m i) (m' i)∧(m' i≠none→μ' i=μ i))∨∃ tb cs tb' cs' b n n',m i=some (.box tb cs)∧m' i=some (.box tb' cs')∧μ i=some (b,0,n)∧μ' i=some (b,0,n')∧cs'.length=cs.length
theorem RelB.mono2 {U' : Nat→Prop} {x:AV} {v:Value} (h:RelB w F μ m U x v) (hF:∀ b,F b→F' b) (hw:∀ b,F b→w'.heap[b]?=w.heap[b]?) (hU:∀ i,U i→U' i) (hm:∀ i,U i→Same2 m m' μ μ' i):RelB w' F' μ' m' U' x v:=by
 have byval:Rel w F x v→RelB w' F' μ' m' U' x v:=fun h=>relB_of_rel (h.mono hF hw)
 have one:∀ i,U i→(SameShape (m i) (m' i)∧(m' i≠none→μ' i=μ i))→(x=.own i 0 none→True)→(∀ j,(∃ o l,x=.own j o l)∨(∃ a b,x=.elt j a b)∨(∃ o,x=.ptr j o)∨x=.bs j→j=i)→RelB w' F' μ' m' U' x v:=by
  intro i hi hs _ hx
  have h0:=h
  obtain ⟨h1,h2⟩:=h
  cases x with
  | own id off l=>
   obtain rfl:=hx id (.inl ⟨off,l,rfl⟩)
   exact RelB.mono (U:=fun j=>j=id) (m:=m) (μ:=μ) (F:=F) (w:=w) ⟨h1,rfl,h2.2⟩ hF hw (fun j hj=>by subst hj; exact hU _ hi) (fun j hj=>by subst hj; exact hs)
  | elt id a b=>
   obtain rfl:=hx id (.inr (.inl ⟨a,b,rfl⟩))
   exact RelB.mono (U:=fun j=>j=id) (m:=m) (μ:=μ) (F:=F) (w:=w) ⟨h1,rfl,h2.2⟩ hF hw (fun j hj=>by subst hj; exact hU _ hi) (fun j hj=>by subst hj; exact hs)
  | ptr id off=>
   obtain rfl:=hx id (.inr (.inr (.inl ⟨off,rfl⟩)))
   exact RelB.mono (U:=fun j=>j=id) (m:=m) (μ:=μ) (F:=F) (w:=w) ⟨h1,rfl,h2.2⟩ hF hw (fun j hj=>by subst hj; exact hU _ hi) (fun j hj=>by subst hj; exact hs)
  | bs id=>
   obtain rfl:=hx id (.inr (.inr (.inr rfl)))
   exact RelB.mono (U:=fun j=>j=id) (m:=m) (μ:=μ) (F:=F) (w:=w) ⟨h1,rfl,h2.2⟩ hF hw (fun j hj=>by subst hj; exact hU _ hi) (fun j hj=>by subst hj; exact hs)
  | fr _ _ _=>exact h2.elim
  | v _=>exact byval h2
  | sl _ _ _=>exact byval h2
  | rd _=>exact byval h2
  | agg _=>exact byval h2
  | tup _=>exact byval h2
  | fn _ _=>exact byval h2
  | err _=>exact byval h2
  | undef=>exact byval h2
 have h0:=h
 obtain ⟨h1,h2⟩:=h
 cases x with
 | own id off l=>
  rcases hm id h2.1 with hs | ⟨tb,cs,tb',cs',b,n,n',e1,e2,e3,e4,e5⟩
  ·exact one id h2.1 hs (fun _=>trivial) (fun j hj=>by rcases hj with ⟨_,_,hj⟩ | ⟨_,_,hj⟩ | ⟨_,hj⟩ | hj <;> cases hj; rfl)
  ·exact ⟨h1,hU _ h2.1,fun fl sz xs hx=>by rw [e2] at hx; cases hx⟩
 | elt id i off=>
  rcases hm id h2.1 with hs | ⟨tb,cs,tb',cs',b,n,n',e1,e2,e3,e4,e5⟩
  ·exact one id h2.1 hs (fun _=>trivial) (fun j hj=>by rcases hj with ⟨_,_,hj⟩ | ⟨_,_,hj⟩ | ⟨_,hj⟩ | hj <;> cases hj; rfl)
  ·exact ⟨h1,hU _ h2.1,fun fl sz xs hx=>by rw [e2] at hx; cases hx⟩
 | ptr id off=>
  rcases hm id h2.1 with hs | ⟨tb,cs,tb',cs',b,n,n',e1,e2,e3,e4,e5⟩
  ·exact one id h2.1 hs (fun _=>trivial) (fun j hj=>by rcases hj with ⟨_,_,hj⟩ | ⟨_,_,hj⟩ | ⟨_,hj⟩ | hj <;> cases hj; rfl)
  ·refine ⟨h1,hU _ h2.1,fun tb0 cs0 hx=>?_⟩
   obtain ⟨b0,n0,g1,g2⟩:=h2.2 tb cs e1
   rw [e3] at g1
   cases g1
   exact ⟨b,n',e4,g2⟩
 | bs id=>
  rcases hm id h2.1 with hs | ⟨tb,cs,tb',cs',b,n,n',e1,e2,e3,e4,e5⟩
  ·exact one id h2.1 hs (fun _=>trivial) (fun j hj=>by rcases hj with ⟨_,_,hj⟩ | ⟨_,_,hj⟩ | ⟨_,hj⟩ | hj <;> cases hj; rfl)
  ·refine ⟨h1,hU _ h2.1,fun tb0 cs0 hx=>?_⟩
   obtain ⟨b0,n0,g1,g2⟩:=h2.2 tb cs e1
   rw [e3] at g1
   cases g1
   rw [e2] at hx
   cases hx
   rw [e5]
   exact ⟨b,n',e4,g2⟩
 | fr _ _ _=>exact h2.elim
 | v _=>exact byval h2
 | sl _ _ _=>exact byval h2
 | rd _=>exact byval h2
 | agg _=>exact byval h2
 | tup _=>exact byval h2
 | fn _ _=>exact byval h2
 | err _=>exact byval h2
 | undef=>exact byval h2
theorem RelC.mono2 {U' : Nat→Prop} {x:AV} {v:Value} (h:RelC w F μ m U x v) (hF:∀ b,F b→F' b) (hw:∀ b,F b→w'.heap[b]?=w.heap[b]?) (hU:∀ i,U i→U' i) (hm:∀ i,U i→Same2 m m' μ μ' i):RelC w' F' μ' m' U' x v:=by
 cases x
 case fn f cs=>obtain ⟨vs,e,hl,h⟩:=h; exact ⟨vs,e,hl,fun j c hc=>(h j c hc).mono2 hF hw hU hm⟩
 all_goals exact relC_of_B (RelB.mono2 (U:=U) h hF hw hU hm)
theorem RelA.mono2 {U' : Nat→Prop} {x:AV} {v:Value} (h:RelA w F μ m U x v) (hF:∀ b,F b→F' b) (hw:∀ b,F b→w'.heap[b]?=w.heap[b]?) (hU:∀ i,U i→U' i) (hm:∀ i,U i→Same2 m m' μ μ' i):RelA w' F' μ' m' U' x v:=by
 cases x
 case agg cs=>obtain ⟨vs,e,hl,h⟩:=h; exact ⟨vs,e,hl,fun j c hc=>(h j c hc).mono2 hF hw hU hm⟩
 all_goals exact relA_of_C (RelC.mono2 (U:=U) h hF hw hU hm)
theorem RelS.mono2 {U' : Nat→Prop} {x:AV} {v:Value} (h:RelS w F μ m U x v) (hF:∀ b,F b→F' b) (hw:∀ b,F b→w'.heap[b]?=w.heap[b]?) (hU:∀ i,U i→U' i) (hm:∀ i,U i→Same2 m m' μ μ' i):RelS w' F' μ' m' U' x v:=by
 cases x
 case tup cs=>obtain ⟨vs,e,hl,h⟩:=h; exact ⟨vs,e,hl,fun j c hc=>(h j c hc).mono2 hF hw hU hm⟩
 all_goals exact relS_of_A (RelA.mono2 (U:=U) h hF hw hU hm)
def handed (ord:List Nat) (μ:Mu) (b:Nat):Prop:=∃ (j id o n:Nat),ord[j]?=some id∧μ id=some (b,o,n)
def Base.sub (W0:Base) (ord:List Nat) (μ:Mu) (w:World) (hk:Keeps W0 w) (hn:∀ b,handed ord μ b→¬ W0.N b):Base where
 root:=W0.root
 w:=w
 N:=fun b=>b < w.heap.size∧¬ handed ord μ b
 lt:=fun b h=>h.1
 rootN:=fun b hb=>⟨Nat.lt_of_lt_of_le hb hk.root.size,fun h=>hn b h (W0.rootN b hb)⟩
 rootB:=hk.root
 bk:=fun i=>(((ord[i]?).bind μ).map (·.1)).getD 0
theorem InvAt.handOver (h:InvAt W0 F0 U m L w μ F) {ord:List Nat} (hg:Good m ord) (hn:∀ b,handed ord μ b→¬ W0.N b) {L' : AV→Value→Prop} (hL:∀ c v,L' c v→∃ n x,c=ren n ord x∧RelS w F μ m U x v) :
  InvAt (W0.sub ord μ w h.below hn) F (fun i=>i < 8*ord.length) (Mem.ofBs (ord.map fun i=>blkAV (renB ord (m i)))) L' w (fun j=>(ord[j]?).bind μ) F:=by
 have hmem:∀ j b',Mem.ofBs (ord.map fun i=>blkAV (renB ord (m i))) j=some b'→∃ id b,ord[j]?=some id∧m id=some b∧b'=renB ord (some b):=by
  intro j b' hj
  rw [ofBs_map,Option.map_eq_some_iff] at hj
  obtain ⟨id,hid,rfl⟩:=hj
  cases hm:m id with
  | none=>exact absurd hm (hg.2 id (List.mem_of_getElem? hid))
  | some b=>exact ⟨id,b,hid,hm,rfl⟩
 have hlt:∀ (j id:Nat),ord[j]?=some id→j < ord.length:=fun j id hj=>(List.getElem?_eq_some_iff.1 hj).1
 have hc:Cut ord m (Mem.ofBs (ord.map fun i=>blkAV (renB ord (m i)))) μ (fun j=>(ord[j]?).bind μ) (fun i=>i < 8*ord.length):=by
  refine ⟨fun j id hj=>?_,fun j id hj=>by simp [hj],fun j id hj=>by have:=hlt j id hj; show j < 8*ord.length; omega⟩
  cases hm:m id with
  | none=>exact absurd hm (hg.2 id (List.mem_of_getElem? hj))
  | some b=>exact .inr ⟨b,rfl,by rw [ofBs_map,hj,Option.map_some,hm]⟩
 refine { below:=Keeps.refl _,foreign:=fun b hb=>⟨(h.foreign b hb).1,.inl hb⟩,sub:=fun _ hb=>hb,gl:=fun b hb=>h.gl b hb,used:=?_,blk:=?_,own:=?_,inj:=?_,pairs:=?_ }
 ·intro j b' hj
  obtain ⟨id,b,hid,_,_⟩:=hmem j b' hj
  exact hc.used j id hid
 ·intro j b' hj
  obtain ⟨id,b,hid,hb,rfl⟩:=hmem j b' hj
  have hB:=h.blk id b hb
  cases b with
  | box tb cs=>
   obtain ⟨b,C,f,e1,e2,e3,e4,e5⟩:=hB
   refine ⟨b,C,f,by simp [hid,e1],e2,by simpa using e3,e4,fun k c hk=>?_⟩
   simp only [List.getElem?_map,Option.map_eq_some_iff] at hk
   obtain ⟨y,hy,rfl⟩:=hk
   exact ren_C hc 3 (e5 k y hy)
  | row fl sz xs=>
   obtain ⟨e1,e2,e3⟩:=hB
   refine ⟨e1,e2,?_⟩
   simpa [hid] using e3
 ·intro j b' b o n hj hb
  obtain ⟨id,b1,hid,hb1,rfl⟩:=hmem j b' hj
  simp only [hid,Option.bind_some] at hb
  obtain ⟨_,h2,h3⟩:=h.own id b1 b o n hb1 hb
  exact ⟨fun hN=>hN.2 ⟨j,id,o,n,hid,hb⟩,h2,h3⟩
 ·intro j j' b1 b2 b o n o' n' hj hj' hb hb'
  obtain ⟨id,c1,hid,hc1,rfl⟩:=hmem j b1 hj
  obtain ⟨id',c2,hid',hc2,rfl⟩:=hmem j' b2 hj'
  simp only [hid,Option.bind_some] at hb
  simp only [hid',Option.bind_some] at hb'
  have e:=h.inj id id' c1 c2 b o n o' n' hc1 hc2 hb hb'
  subst e
  exact (List.getElem?_inj (hlt j _ hid) hg.1).1 (hid.trans hid'.symm)
 ·intro c v hcv
  obtain ⟨n,x,rfl,hx⟩:=hL c v hcv
  exact ren_S hc n hx
theorem idxIn_none {ord:List Nat} {id:Nat} (h:idxIn ord id=none):id ∉ ord:=by
 intro hm
 unfold idxIn at h
 rw [List.findIdx?_eq_none_iff] at h
 have:=h id hm
 simp at this
theorem InvAt.takeBack (h:InvAt W0 F0 U m L w μ F) {ord I:List Nat} {kb:Nat} (hg:Good m ord) (hdis:∀ i∈ord,i ∉ I) (hn:∀ b,handed ord μ b→¬ W0.N b) (hid:∀ j,j < 8→¬ U (id+j))
  (hkb:∀ j,j < kb→∃ i tb cs,ord[j]?=some i∧m i=some (.box tb cs)) {os:List AV} (hos:okOut m ord kb os=true) {y:AV} {v:Value} (hp:plainR y=true)
  (hI:InvAt (W0.sub ord μ w h.below hn) (fun b=>F b∨blksOf μ m I b) (fun i=>i < os.length) (Mem.ofBs os) (fun c u=>c=y∧u=v) w' μ' F')
  (hbk:∀ j,j < kb→∃ n,μ' j=some ((W0.sub ord μ w h.below hn).bk j,0,n)) :
  ∃ μ'' ,InvAt W0 F0 (U8 U id) (outM m ord kb id I os) (fun c u=>L c u∨(c=y∧u=v)) w' μ'' F':=by
 obtain ⟨⟨ho1,ho2⟩,ho3⟩ : (kb≤os.length∧os.length - kb≤8)∧_:=by
  unfold okOut at hos
  rw [Bool.and_eq_true,Bool.and_eq_true] at hos
  exact ⟨⟨Nat.le_of_ble_eq_true hos.1.1,Nat.le_of_ble_eq_true hos.1.2⟩,hos.2⟩
 have hbox:∀ j,j < kb→∃ i tb cs cs',ord[j]?=some i∧m i=some (.box tb cs)∧os[j]?=some (.fn tb cs')∧cs'.length=cs.length:=by
  intro j hj
  obtain ⟨i,tb,cs,h1,h2⟩:=hkb j hj
  have:=List.all_eq_true.1 ho3 j (List.mem_range.2 hj)
  rw [List.getD_eq_getElem?_getD,h1,Option.getD_some,h2] at this
  split at this
  ·rename_i tb' cs' tb0 cs0 e1 e2
   cases e2
   rw [Bool.and_eq_true] at this
   obtain rfl:=Nat.eq_of_beq_eq_true this.2
   exact ⟨i,_,cs,cs',h1,h2,e1,Nat.eq_of_beq_eq_true this.1⟩
  ·cases this
 have hlt:∀ (j i:Nat),ord[j]?=some i→j < ord.length:=fun j id hj=>(List.getElem?_eq_some_iff.1 hj).1
 have hordU:∀ j i,ord[j]?=some i→U i:=fun j i hj=>by
  cases hm:m i with
  | none=>exact absurd hm (hg.2 i (List.mem_of_getElem? hj))
  | some b=>exact h.used i b hm
 have notNew:∀ i,U i→¬ (id≤i∧i < id+8):=fun i hi hr=>hid (i - id) (by omega) (by rw [show id+(i - id)=i by omega]; exact hi)
 -- the new memory,by cases
 have outNew:∀ j,kb≤j→j < os.length→outM m ord kb id I os (id+(j - kb))=mapBlk (rhoM ord kb id) (Mem.ofBs os j):=by
  intro j h1 h2
  have e:(Nat.ble id (id+(j - kb))&&Nat.blt (id+(j - kb)) (id+(os.length - kb)))=true:=by
   rw [Bool.and_eq_true]
   exact ⟨Nat.ble_eq_true_of_le (by omega),Nat.ble_eq_true_of_le (by show id+(j - kb)+1≤_; omega)⟩
  unfold outM
  rw [e,cond_true]
  rw [show kb+(id+(j - kb) - id)=j by omega]
 have outOld:∀ i,U i→outM m ord kb id I os i=match idxIn ord i with
   | some j=>bif Nat.blt j kb then mapBlk (rhoM ord kb id) (Mem.ofBs os j) else none
   | none=>bif I.contains i then none else m i:=by
  intro i hi
  have e:(Nat.ble id i&&Nat.blt i (id+(os.length - kb)))=false:=by
   rw [← Bool.not_eq_true,Bool.and_eq_true]
   rintro ⟨h1,h2⟩
   have h1:=Nat.le_of_ble_eq_true h1
   have h2:i+1≤_:=Nat.le_of_ble_eq_true h2
   exact notNew i hi (by omega)
  unfold outM
  rw [e]
  rfl
 have idx_of:∀ j i,ord[j]?=some i→idxIn ord i=some j:=by
  intro j i hj
  cases hx:idxIn ord i with
  | none=>exact absurd (List.mem_of_getElem? hj) (idxIn_none hx)
  | some j'=>
   have h1:=idxIn_some hx
   rw [(List.getElem?_inj (hlt j' i h1) hg.1).1 (h1.trans hj.symm)]
 have outBox:∀ j i,j < kb→ord[j]?=some i→outM m ord kb id I os i=mapBlk (rhoM ord kb id) (Mem.ofBs os j):=by
  intro j i h1 h2
  rw [outOld i (hordU j i h2),idx_of j i h2]
  have:Nat.blt j kb=true:=Nat.ble_eq_true_of_le h1
  simp only [this,cond_true]
 have outRow:∀ j i,kb≤j→ord[j]?=some i→outM m ord kb id I os i=none:=by
  intro j i h1 h2
  rw [outOld i (hordU j i h2),idx_of j i h2]
  have:Nat.blt j kb=false:=by rw [← Bool.not_eq_true]; exact fun e=>by have:j+1≤kb:=Nat.le_of_ble_eq_true e; omega
  simp only [this,cond_false]
 have outRest:∀ i,U i→i ∉ ord→outM m ord kb id I os i=frz m I i:=by
  intro i hi hno
  rw [outOld i hi,frz_none]
  cases hx:idxIn ord i with
  | some j=>exact absurd (List.mem_of_getElem? (idxIn_some hx)) hno
  | none=>
   simp only
   by_cases hI' : i∈I
   ·rw [if_pos hI']; have:I.contains i=true:=by simpa using hI'
    rw [this]; rfl
   ·rw [if_neg hI']; have:I.contains i=false:=by simpa using hI'
    rw [this]; rfl
 -- which ids there are
 have ids:∀ i b,outM m ord kb id I os i=some b→(∃ j,kb≤j∧j < os.length∧i=id+(j - kb))∨(∃ j,j < kb∧ord[j]?=some i)∨(i ∉ ord∧i ∉ I∧m i=some b∧¬ (id≤i∧i < id+(os.length - kb))):=by
  intro i b hi
  by_cases hr:id≤i∧i < id+(os.length - kb)
  ·exact .inl ⟨kb+(i - id),by omega,by omega,by omega⟩
  ·right
   have e:(Nat.ble id i&&Nat.blt i (id+(os.length - kb)))=false:=by
    rw [← Bool.not_eq_true,Bool.and_eq_true]
    rintro ⟨h1,h2⟩
    have h1:=Nat.le_of_ble_eq_true h1
    have h2:i+1≤_:=Nat.le_of_ble_eq_true h2
    exact hr ⟨h1,h2⟩
   unfold outM at hi
   rw [e,cond_false] at hi
   cases hx:idxIn ord i with
   | some j=>
    rw [hx] at hi
    simp only at hi
    cases hb:Nat.blt j kb with
    | true=>exact .inl ⟨j,Nat.le_of_ble_eq_true hb,idxIn_some hx⟩
    | false=>rw [hb] at hi; cases hi
   | none=>
    rw [hx] at hi
    simp only at hi
    cases hc:I.contains i with
    | true=>rw [hc] at hi; cases hi
    | false=>rw [hc] at hi; exact .inr ⟨idxIn_none hx,by simpa using hc,hi,hr⟩
 obtain ⟨ν,hν⟩ : ∃ ν:Mu,ν=fun i=>if id≤i∧i < id+(os.length - kb) then μ' (kb+(i - id)) else (match idxIn ord i with | some j=>if j < kb then μ' j else μ i | none=>μ i):=⟨_,rfl⟩
 have νnew:∀ j,kb≤j→j < os.length→ν (id+(j - kb))=μ' j:=by
  intro j h1 h2
  rw [hν]
  simp only
  rw [if_pos (by omega),show kb+(id+(j - kb) - id)=j by omega]
 have νbox:∀ j i,j < kb→ord[j]?=some i→ν i=μ' j:=by
  intro j i h1 h2
  rw [hν]
  simp only
  rw [if_neg (fun hr=>notNew i (hordU j i h2) (by omega)),idx_of j i h2]
  simp only [h1,if_true]
 have νrest:∀ i,U i→i ∉ ord→ν i=μ i:=by
  intro i hi hno
  rw [hν]
  simp only
  rw [if_neg (fun hr=>notNew i hi (by omega))]
  cases hx:idxIn ord i with
  | some j=>exact absurd (List.mem_of_getElem? (idxIn_some hx)) hno
  | none=>rfl
 -- the variables stay in their blocks
 have bk_eq:∀ j i,j < kb→ord[j]?=some i→∃ tb cs cs' b n n',m i=some (.box tb cs)∧os[j]?=some (.fn tb cs')∧cs'.length=cs.length∧μ i=some (b,0,n)∧μ' j=some (b,0,n'):=by
  intro j i hj hi
  obtain ⟨i',tb,cs,cs',h1,h2,h3,h4⟩:=hbox j hj
  rw [hi] at h1
  cases h1
  obtain ⟨b,C,f,e1,e2,_⟩:=h.blk i _ h2
  obtain ⟨n,hn'⟩:=hbk j hj
  have eb:(W0.sub ord μ w h.below hn).bk j=b:=by
   show (((ord[j]?).bind μ).map (·.1)).getD 0=b
   rw [hi]
   simp [e1]
  rw [eb] at hn'
  exact ⟨tb,cs,cs',b,_,n,h2,h3,h4,e1,hn'⟩
 have keepN:∀ b,b < w.heap.size→¬ handed ord μ b→w'.heap[b]?=w.heap[b]?:=fun b h1 h2=>hI.below.block b ⟨h1,h2⟩
 have hF1:∀ b,(F b∨blksOf μ m I b)→b < w.heap.size∧¬ handed ord μ b:=by
  intro b hb
  refine ⟨?_,?_⟩
  ·rcases hb with hb | ⟨i,_,hi,o,n,e⟩
   ·exact (h.foreign b hb).1
   ·cases hm:m i with
    | none=>exact absurd hm hi
    | some x=>exact (h.own i x b o n hm e).2.1
  ·rintro ⟨j,i,o,n,hj,hμ⟩
   cases hm:m i with
   | none=>exact absurd hm (hg.2 i (List.mem_of_getElem? hj))
   | some x=>
    rcases hb with hb | ⟨i',hi',hmi',o',n',e'⟩
    ·exact (h.own i x b o n hm hμ).2.2 hb
    ·cases hm' : m i' with
     | none=>exact absurd hm' hmi'
     | some x'=>
      have:=h.inj i i' x x' b o n o' n' hm hm' hμ e'
      subst this
      exact hdis i (List.mem_of_getElem? hj) hi'
 have hw' : ∀ b,(F b∨blksOf μ m I b)→w'.heap[b]?=w.heap[b]?:=fun b hb=>keepN b (hF1 b hb).1 (hF1 b hb).2
 have hsub:∀ b,(F b∨blksOf μ m I b)→F' b:=hI.sub
 -- what the caller's values lead to
 have hz:=h.freeze I
 have hsame:∀ i,U i→Same2 (frz m I) (outM m ord kb id I os) μ ν i:=by
  intro i hi
  by_cases hin:i∈ord
  ·obtain ⟨j,hj⟩:=List.getElem?_of_mem hin
   have hfz:frz m I i=m i:=by rw [frz_none,if_neg (hdis i hin)]
   by_cases hjk:j < kb
   ·obtain ⟨tb,cs,cs',b,n,n',e1,e2,e3,e4,e5⟩:=bk_eq j i hjk hj
    refine .inr ⟨tb,cs,tb,cs'.map (mapI 3 (rhoM ord kb id)),b,n,n',by rw [hfz]; exact e1,?_,e4,by rw [νbox j i hjk hj]; exact e5,by rw [List.length_map]; exact e3⟩
    rw [outBox j i hjk hj]
    unfold Mem.ofBs
    rw [e2]
    rfl
   ·refine .inl ⟨?_,fun hne=>absurd (outRow j i (by omega) hj) hne⟩
    rw [outRow j i (by omega) hj]
    cases frz m I i with | none=>trivial | some b=>cases b <;> trivial
  ·refine .inl ⟨?_,fun _=>νrest i hi hin⟩
   rw [outRest i hi hin]
   exact .refl _
 -- ids of the callee,as the caller has them
 have rhoNew:∀ j,kb≤j→rhoM ord kb id j=id+(j - kb):=by
  intro j hj
  have:Nat.blt j kb=false:=by rw [← Bool.not_eq_true]; exact fun e=>by have:j+1≤kb:=Nat.le_of_ble_eq_true e; omega
  simp [rhoM,this]
 have rhoBox:∀ j i,j < kb→ord[j]?=some i→rhoM ord kb id j=i:=by
  intro j i hj hi
  have:Nat.blt j kb=true:=Nat.ble_eq_true_of_le hj
  simp [rhoM,this,List.getD_eq_getElem?_getD,hi]
 have hmoved:Moved (rhoM ord kb id) (Mem.ofBs os) (outM m ord kb id I os) μ' ν (fun i=>i < os.length) (U8 U id):=by
  have mem1:∀ j,j < os.length→outM m ord kb id I os (rhoM ord kb id j)=mapBlk (rhoM ord kb id) (Mem.ofBs os j)∧ν (rhoM ord kb id j)=μ' j∧U8 U id (rhoM ord kb id j):=by
   intro j hj
   by_cases hjk:j < kb
   ·obtain ⟨i,tb,cs,h1,h2⟩:=hkb j hjk
    rw [rhoBox j i hjk h1]
    exact ⟨outBox j i hjk h1,νbox j i hjk h1,.inl (hordU j i h1)⟩
   ·rw [rhoNew j (by omega)]
    exact ⟨outNew j (by omega) hj,νnew j (by omega) hj,.inr (by omega)⟩
  refine ⟨fun j hj hne=>?_,fun j hj _=>(mem1 j hj).2.1,fun j hj _=>(mem1 j hj).2.2,fun j hj _=>(mem1 j hj).2.2⟩
  have h1:=(mem1 j hj).1
  cases hb:Mem.ofBs os j with
  | none=>rw [hb] at h1; exact absurd h1 hne
  | some b=>exact ⟨b,rfl,by rw [h1,hb]⟩
 have holdsNew:∀ j i b',rhoM ord kb id j=i→ν i=μ' j→outM m ord kb id I os i=mapBlk (rhoM ord kb id) (Mem.ofBs os j)→outM m ord kb id I os i=some b'→Holds w' F' ν (outM m ord kb id I os) (U8 U id) i b':=by
  intro j i b' hr hn1 ho hb'
  cases hb:Mem.ofBs os j with
  | none=>rw [hb] at ho; rw [ho] at hb'; cases hb'
  | some b=>
   have hB:=hI.blk j b hb
   rw [ho,hb] at hb'
   cases b with
   | box tb cs=>
    cases hb'
    obtain ⟨b,C,f,e1,e2,e3,e4,e5⟩:=hB
    refine ⟨b,C,f,by rw [hn1]; exact e1,e2,by simpa using e3,e4,fun k c hk=>?_⟩
    simp only [List.getElem?_map,Option.map_eq_some_iff] at hk
    obtain ⟨z,hz,rfl⟩:=hk
    exact mapI_C hmoved 3 (e5 k z hz)
   | row fl sz xs=>
    cases hb'
    obtain ⟨e1,e2,e3⟩:=hB
    refine ⟨e1,e2,?_⟩
    rw [hn1]
    exact e3
 have someOf:∀ j i b',outM m ord kb id I os i=mapBlk (rhoM ord kb id) (Mem.ofBs os j)→outM m ord kb id I os i=some b'→∃ b,Mem.ofBs os j=some b:=by
  intro j i b' h1 h2
  cases hb:Mem.ofBs os j with
  | none=>rw [hb] at h1; rw [h1] at h2; cases h2
  | some b=>exact ⟨b,rfl⟩
 -- each id's block: in the callee's terms,or one that was not touched
 have src:∀ i b',outM m ord kb id I os i=some b'→∀ b o n,ν i=some (b,o,n)→(∃ j c,Mem.ofBs os j=some c∧μ' j=some (b,o,n)∧rhoM ord kb id j=i)∨(i ∉ ord∧i ∉ I∧m i=some b'∧μ i=some (b,o,n)):=by
  intro i b' hi b o n hb
  rcases ids i b' hi with ⟨j,h1,h2,rfl⟩ | ⟨j,h1,h2⟩ | ⟨h1,h2,h3,h4⟩
  ·obtain ⟨c,hc⟩:=someOf j _ b' (outNew j h1 h2) hi
   exact .inl ⟨j,c,hc,by rw [← νnew j h1 h2]; exact hb,rhoNew j h1⟩
  ·obtain ⟨c,hc⟩:=someOf j _ b' (outBox j i h1 h2) hi
   exact .inl ⟨j,c,hc,by rw [← νbox j i h1 h2]; exact hb,rhoBox j i h1 h2⟩
  ·exact .inr ⟨h1,h2,h3,by rw [← νrest i (h.used i b' h3) h1]; exact hb⟩
 have restN:∀ i x b o n,i ∉ ord→m i=some x→μ i=some (b,o,n)→b < w.heap.size∧¬ handed ord μ b:=by
  intro i x b o n hno hm hμ
  refine ⟨(h.own i x b o n hm hμ).2.1,?_⟩
  rintro ⟨j,i',o',n',hj,hμ'⟩
  cases hm' : m i' with
  | none=>exact absurd hm' (hg.2 i' (List.mem_of_getElem? hj))
  | some x'=>
   have:=h.inj i i' x x' b o n o' n' hm hm' hμ hμ'
   subst this
   exact hno (List.mem_of_getElem? hj)
 have subN:∀ b,W0.N b→(W0.sub ord μ w h.below hn).N b:=fun b hb=>⟨Nat.lt_of_lt_of_le (W0.lt b hb) h.below.size,fun hh=>hn b hh hb⟩
 refine ⟨ν,{ below:=?_,foreign:=?_,sub:=fun b hb=>hsub b (.inl (h.sub b hb)),gl:=fun b hb=>hsub b (.inl (h.gl b hb)),used:=?_,blk:=?_,own:=?_,inj:=?_,pairs:=?_ }⟩
 ·exact ⟨hI.below.os.trans h.below.os,hI.below.tape.trans h.below.tape,hI.below.output.trans h.below.output,Nat.le_trans h.below.size hI.below.size,fun b hb=>(hI.below.block b (subN b hb)).trans (h.below.block b hb)⟩
 ·intro b hb
  obtain ⟨h1,h2⟩:=hI.foreign b hb
  refine ⟨h1,?_⟩
  rcases h2 with h2 | h2
  ·exact (hz.foreign b h2).2
  ·exact .inr (fun hN=>h2 (subN b hN))
 ·intro i b' hi
  rcases ids i b' hi with ⟨j,h1,h2,rfl⟩ | ⟨j,h1,h2⟩ | ⟨h1,h2,h3,h4⟩
  ·exact .inr (by omega)
  ·exact .inl (hordU j i h2)
  ·exact .inl (h.used i b' h3)
 ·intro i b' hi
  rcases ids i b' hi with ⟨j,h1,h2,rfl⟩ | ⟨j,h1,h2⟩ | ⟨h1,h2,h3,h4⟩
  ·exact holdsNew j _ b' (rhoNew j h1) (νnew j h1 h2) (outNew j h1 h2) hi
  ·exact holdsNew j _ b' (rhoBox j i h1 h2) (νbox j i h1 h2) (outBox j i h1 h2) hi
  ·have hfz:frz m I i=some b':=by rw [frz_none,if_neg h2]; exact h3
   have hB:=hz.blk i b' hfz
   have hUi:=h.used i b' h3
   cases b' with
   | box tb cs=>
    obtain ⟨b,C,f,e1,e2,e3,e4,e5⟩:=hB
    obtain ⟨r1,r2⟩:=restN i _ b _ _ h1 h3 e1
    exact ⟨b,C,f,by rw [νrest i hUi h1]; exact e1,by rw [keepN b r1 r2]; exact e2,e3,e4,fun k c hk=>(e5 k c hk).mono2 hsub hw' (fun i hi=>.inl hi) hsame⟩
   | row fl sz xs=>
    obtain ⟨e1,e2,e3⟩:=hB
    refine ⟨e1,e2,?_⟩
    rw [νrest i hUi h1]
    rcases e3 with e3 | ⟨b,o,C,f,g1,g2,g3,g4,g5⟩
    ·exact .inl e3
    ·obtain ⟨r1,r2⟩:=restN i _ b _ _ h1 h3 g1
     exact .inr ⟨b,o,C,f,g1,by rw [keepN b r1 r2]; exact g2,g3,g4,fun k c hk=>(g5 k c hk).mono hsub hw'⟩
 ·intro i b' b o n hi hb
  rcases src i b' hi b o n hb with ⟨j,c,hc,hμ,_⟩ | ⟨h1,h2,h3,hμ⟩
  ·obtain ⟨g1,g2,g3⟩:=hI.own j c b o n hc hμ
   exact ⟨fun hN=>g1 (subN b hN),g2,g3⟩
  ·obtain ⟨g1,g2,g3⟩:=h.own i b' b o n h3 hμ
   obtain ⟨r1,r2⟩:=restN i _ b _ _ h1 h3 hμ
   refine ⟨g1,Nat.lt_of_lt_of_le g2 hI.below.size,fun hF'=>?_⟩
   rcases (hI.foreign b hF').2 with q | q
   ·rcases q with q | ⟨i',hi',hmi',o',n',e'⟩
    ·exact g3 q
    ·cases hm' : m i' with
     | none=>exact absurd hm' hmi'
     | some x'=>
      have:=h.inj i i' b' x' b o n o' n' h3 hm' hμ e'
      subst this
      exact h2 hi'
   ·exact q ⟨r1,r2⟩
 ·intro i i' x x' b o n o' n' hi hi' hb hb'
  rcases src i x hi b o n hb with ⟨j,c,hc,hμ,hr⟩ | ⟨h1,h2,h3,hμ⟩
  ·rcases src i' x' hi' b o' n' hb' with ⟨j',c',hc',hμ',hr'⟩ | ⟨h1',h2',h3',hμ'⟩
   ·have:=hI.inj j j' c c' b o n o' n' hc hc' hμ hμ'
    subst this
    rw [← hr,← hr']
   ·obtain ⟨r1,r2⟩:=restN i' _ b _ _ h1' h3' hμ'
    exact absurd ⟨r1,r2⟩ (hI.own j c b o n hc hμ).1
  ·rcases src i' x' hi' b o' n' hb' with ⟨j',c',hc',hμ',hr'⟩ | ⟨h1',h2',h3',hμ'⟩
   ·obtain ⟨r1,r2⟩:=restN i _ b _ _ h1 h3 hμ
    exact absurd ⟨r1,r2⟩ (hI.own j' c' b o' n' hc' hμ').1
   ·exact h.inj i i' x x' b o n o' n' h3 h3' hμ hμ'
 ·rintro c u (hc | ⟨rfl,rfl⟩)
  ·exact (hz.pairs c u hc).mono2 hsub hw' (fun i hi=>.inl hi) hsame
  ·exact plain_same hp (hI.pairs _ _ ⟨rfl,rfl⟩)
end
end Go.Proofs.Ev
namespace Go.Proofs.Ev
open Go Go.RowKit
set_option linter.unusedVariables false
section
variable {R:Type} {P:Program} {G:Cfg} {o:Oper} {a:Act} {w w' : World} {W0:Base} {F0 U F F' : Nat→Prop} {id:Nat} {L L' : AV→Value→Prop} {K:AV→Mem→Option R} {r:R} {m:Mem} {μ β:Mu} {S:List AV}
theorem lastTup_snoc (xs:List AV) (bs:List AV):lastTup (xs++[.tup bs])=true:=by simp [lastTup]
theorem cond_tup {b:Bool} {x:AV} {bs:List AV} (h:(bif b then some x else none)=some (.tup bs)):x=.tup bs:=by cases b <;> simp at h; exact h
theorem normAL_last (G:Cfg):∀ (ts:List TypeId) (xs ys:List AV),normAL G ts xs=some ys→(∀ y∈xs,∀ bs,y≠.tup bs)→∀ y∈ys,∀ bs,y≠.tup bs
 | [],[],ys,e,h=>by simp [normAL] at e; subst e; simp
 | [],_::_,ys,e,h=>by simp [normAL] at e
 | _::_,[],ys,e,h=>by simp [normAL] at e
 | t::ts,x::xs,ys,e,h=>by
  simp only [normAL] at e
  split at e
  ·rename_i y s hy hs
   cases e
   intro z hz bs
   rcases List.mem_cons.1 hz with rfl | hz
   ·have hx:=h x (by simp)
    intro e
    subst e
    unfold normA at hy
    split at hy
    ·split at hy
     ·rename_i cs
      cases hb:Nat.beq cs.length _ <;> rw [hb] at hy
      ·cases hy
      ·simp only [cond_true,Option.map_eq_some_iff] at hy
       obtain ⟨_,_,hy⟩:=hy
       cases hy
     ·split at hy
      ·split at hy
       ·simp only [Option.map_eq_some_iff] at hy
        obtain ⟨_,_,hy⟩:=hy
        cases hy
       ·cases hy
      ·cases hy
     ·split at hy
      ·rename_i k _
       cases k <;> simp only [normS] at hy <;> (try (cases hy; exact hx _ rfl))
       ·split at hy
        ·cases hy
        ·exact absurd (cond_tup hy) (by simp)
        ·cases hy
       ·split at hy
        ·cases hy
        ·cases hy
        ·cases hy; exact hx _ rfl
      ·cases hy
    ·cases hy
   ·exact normAL_last G ts xs s hs (fun y hy=>h y (by simp [hy])) z hz bs
  ·cases e
theorem valAL_last (m:Mem):∀ (xs ys:List AV),valAL m xs=some ys→∀ y∈ys,∀ bs,y≠.tup bs
 | [],ys,e=>by simp [valAL] at e; subst e; simp
 | x::xs,ys,e=>by
  simp only [valAL] at e
  split at e
  ·rename_i y s hy hs
   cases e
   intro z hz bs
   rcases List.mem_cons.1 hz with rfl | hz
   ·intro e
    subst e
    cases x <;> simp only [valA,valP,valS,asSl] at hy <;> first | (cases hy; done) | (simp at hy; done) | skip
    all_goals (repeat' split at hy)
    all_goals first | (cases hy; done) | (simp at hy; done)
   ·exact valAL_last m xs s hs z hz bs
  ·cases e
theorem markL_rel (h:InvAt W0 F0 U m L w μ F) (I:List Nat):∀ (us ys:List AV) (u:Nat→Value),valAL m us=some ys→(∀ j c,us[j]?=some c→RelS w F μ m U c (u j))→(∀ i∈us.flatMap (idsF m),i∈I)→
  (markL us ys).length=ys.length∧∀ j c,(markL us ys)[j]?=some c→Rel w (fun b=>F b∨blksOf μ m I b) c (u j)
 | [],ys,u,hv,_,_=>by simp [valAL] at hv; subst hv; exact ⟨rfl,by simp [markL]⟩
 | x::r,ys,u,hv,hr,hI=>by
  simp only [valAL] at hv
  split at hv
  ·rename_i y s hy hs
   cases hv
   obtain ⟨l2,r2⟩:=markL_rel h I r s (fun j=>u (j+1)) hs (fun j c hj=>hr (j+1) c (by simpa using hj)) (fun i hi=>hI i (by simp only [List.flatMap_cons,List.mem_append]; exact .inr hi))
   have hx:=hr 0 x rfl
   have hI0:∀ i∈idsF m x,i∈I:=fun i hi=>hI i (by simp only [List.flatMap_cons,List.mem_append]; exact .inl hi)
   have h0:Rel w (fun b=>F b∨blksOf μ m I b) (match (generalizing:=false) x,y with | .own _ _ _,.sl fl sz xs=>.sl ⟨fl.b,fl.te,true⟩ sz xs | _,y=>y) (u 0):=by
    have hy0:=valA_rel h hx hy I hI0
    split
    ·rename_i id off l fl sz xs
     simp only [valA,valP,valS,asSl] at hy
     split at hy
     ·rename_i fl' sz' xs' hm
      cases hy
      exact asSl_st true h hx hm I (hI0 id (by simp [idsF,idsB,idsS]))
     ·cases hy
    ·exact hy0
   refine ⟨by simp only [markL,List.length_cons,l2],fun j c hj=>?_⟩
   cases j with
   | zero=>simp only [markL,List.getElem?_cons_zero,Option.some.injEq] at hj; subst hj; exact h0
   | succ j=>exact r2 j c (by simpa [markL] using hj)
  ·cases hv
theorem normALr_rel (hG:CfgOk P G):∀ (ts:List TypeId) (xs ys:List AV) (u:Nat→Value),normALr G ts xs=some ys→(∀ j c,xs[j]?=some c→Rel w F c (u j))→ys.length=xs.length∧∀ j c,ys[j]?=some c→Rel w F c (u j)
 | [],[],ys,u,e,h=>by simp [normALr] at e; subst e; exact ⟨rfl,by simp⟩
 | [],_::_,ys,u,e,h=>by simp [normALr] at e
 | _::_,[],ys,u,e,h=>by simp [normALr] at e
 | t::ts,x::xs,ys,u,e,h=>by
  simp only [normALr] at e
  split at e
  ·rename_i y s hy hs
   cases e
   obtain ⟨l1,h2⟩:=normALr_rel hG ts xs s (fun j=>u (j+1)) hs (fun j c hj=>h (j+1) c (by simpa using hj))
   refine ⟨by simp [l1],fun j c hj=>?_⟩
   cases j with
   | succ j=>exact h2 j c (by simpa using hj)
   | zero=>
    simp at hj
    subst hj
    have hx:=h 0 x rfl
    unfold normAr at hy
    split at hy
    ·(repeat' split at hy) <;> first | (cases hy; done) | (obtain ⟨_,hy⟩:=bif_some hy; cases hy; exact hx)
    ·exact normA_rel hG hy hx
  ·cases e
theorem normALr_last (G:Cfg):∀ (ts:List TypeId) (xs ys:List AV),normALr G ts xs=some ys→(∀ y∈xs,∀ bs,y≠.tup bs)→∀ y∈ys,∀ bs,y≠.tup bs
 | [],[],ys,e,h=>by simp [normALr] at e; subst e; simp
 | [],_::_,ys,e,h=>by simp [normALr] at e
 | _::_,[],ys,e,h=>by simp [normALr] at e
 | t::ts,x::xs,ys,e,h=>by
  simp only [normALr] at e
  split at e
  ·rename_i y s hy hs
   cases e
   intro z hz bs
   rcases List.mem_cons.1 hz with rfl | hz
   ·unfold normAr at hy
    split at hy
    ·(repeat' split at hy) <;> first | (cases hy; done) | (obtain ⟨_,hy⟩:=bif_some hy; cases hy; simp)
    ·refine normAL_last G [t] [x] [z] ?_ (fun y hy=>h y (by simp at hy; simp [hy])) z (by simp) bs
     simp only [normAL,hy]
   ·exact normALr_last G ts xs s hs (fun y hy=>h y (by simp [hy])) z hz bs
  ·cases e
theorem markL_last:∀ (us ys:List AV),(∀ y∈ys,∀ bs,y≠.tup bs)→∀ y∈markL us ys,∀ bs,y≠.tup bs
 | [],ys,h=>by cases ys <;> exact h
 | _::_,[],h=>by simp [markL]
 | x::r,y::s,h=>by
  intro z hz bs
  unfold markL at hz
  rcases List.mem_cons.1 hz with rfl | hz
  ·split
   ·simp
   ·exact h y (by simp) bs
  ·exact markL_last r s (fun y hy=>h y (by simp [hy])) z hz bs
theorem normR_rel (hG:CfgOk P G) (h:InvAt W0 F0 U m L w μ F) (I:List Nat) {g:FuncId} {us as0 aas:List AV} {u:Nat→Value} (hv:valAL m us=some as0) (hr:∀ j c,us[j]?=some c→RelS w F μ m U c (u j)) (hI:∀ i∈us.flatMap (idsF m),i∈I) (e:normR G g us as0=some aas) :
  aas.length=as0.length∧∀ j c,aas[j]?=some c→Rel w (fun b=>F b∨blksOf μ m I b) c (u j):=by
 unfold normR at e
 cases hg:G.rows g with
 | false=>
  rw [hg] at e
  exact normAL_rel hG _ _ _ _ e (valAL_rel h I _ _ u hv hr hI).2
 | true=>
  rw [hg] at e
  obtain ⟨l1,r1⟩:=markL_rel h I us as0 u hv hr hI
  obtain ⟨l2,r2⟩:=normALr_rel hG _ _ _ _ e r1
  exact ⟨l2.trans l1,r2⟩
theorem normR_last {g:FuncId} {us as0 aas:List AV} (hv:valAL m us=some as0) (e:normR G g us as0=some aas):∀ y∈aas,∀ bs,y≠.tup bs:=by
 unfold normR at e
 cases hg:G.rows g with
 | false=>rw [hg] at e; exact normAL_last G _ _ _ e (valAL_last m _ _ hv)
 | true=>rw [hg] at e; exact normALr_last G _ _ _ e (markL_last us as0 (valAL_last m _ _ hv))
theorem last_false {ys:List AV} (h:∀ y∈ys,∀ bs,y≠.tup bs):lastTup ys=false:=by
 unfold lastTup
 split
 ·rename_i bs e
  exact absurd rfl (h _ (List.mem_of_getLast? e) bs)
 ·rfl
theorem both_rel {xs ys:List AV} {us vs:Array Value} (hl:us.size=xs.length) (h1:∀ j q,xs[j]?=some q→RelS w F μ m U q (us.getD j undef)) (h2:∀ j q,ys[j]?=some q→RelS w F μ m U q (vs.getD j undef)) :
  ∀ j q,(xs++ys)[j]?=some q→RelS w F μ m U q ((us++vs).getD j undef):=by
 intro j q hj
 by_cases hlt:j < us.size
 ·rw [List.getElem?_append_left (by omega)] at hj
  rw [Array.getD_eq_getD_getElem?,Array.getElem?_append_left hlt,← Array.getD_eq_getD_getElem?]
  exact h1 j q hj
 ·rw [List.getElem?_append_right (by omega)] at hj
  rw [Array.getD_eq_getD_getElem?,Array.getElem?_append_right (by omega),← Array.getD_eq_getD_getElem?,hl]
  exact h2 _ q hj
theorem did_callM (hG:CfgOk P G) {C:FuncId→List AV→(AV→Option R)→Option R} (hC:∀ g aas (K:AV→Option R) r,C g aas K=some r→∃ x,K x=some r∧HandsAt P W0.root g aas x)
  {g:FuncId} {us:List AV} {vals:Array Value} (hexec:(execOp a.eval o).run P w=(callFunc g vals).run P w) (hvl:vals.size=us.length) (hargs:∀ j q,us[j]?=some q→RelS w F μ m U q (vals.getD j undef))
  (h:InvAt W0 F0 U m L w μ F) (hid:∀ j,j < 8→¬ U (id+j)) (hK:callM G C g us m id K=some r) :
  DidW P o a w W0 F0 U id L K r:=by
 unfold callM at hK
 obtain ⟨xs0,hxs0,hK1⟩:=withSome_some hK
 clear hK
 obtain ⟨xs,hxs,hK⟩:=withSome_some hK1
 clear hK1
 obtain ⟨I,hI⟩ : ∃ I,I=us.flatMap (idsM m):=⟨_,rfl⟩
 rw [← hI] at hK
 obtain ⟨ord,hord⟩ : ∃ ord,ord=ordM m xs:=⟨_,rfl⟩
 rw [← hord] at hK
 have hdis:∀ i∈ord,i ∉ I:=by
  intro i hi hiI
  have:(ord.any fun i=>I.contains i)=true:=List.any_eq_true.2 ⟨i,hi,by simpa using hiI⟩
  rw [this] at hK
  cases hK
 have hK0:∀ {b:Bool} {A:Option R},(bif b then none else A)=some r→A=some r:=by intro b A h; cases b <;> first | exact h | cases h
 replace hK:=hK0 hK
 obtain ⟨x,hK1,hHands⟩:=hC _ _ _ _ hK
 clear hK
 split at hK1
 ·rename_i y os
  obtain ⟨hpo,hK⟩:=bif_some hK1
  rw [Bool.and_eq_true] at hpo
  have hM:=hHands.2.1 _ _ _ _ rfl rfl
  obtain ⟨l0,r0⟩:=argML_rel h I _ _ (fun j=>vals.getD j undef) hxs0 hargs (fun i hi=>by rw [hI]; exact hi)
  obtain ⟨l1,r1⟩:=normML_rel hG _ _ _ _ hxs r0
  have hz:=h.freeze I
  have hfz:∀ i∈ord,frz m I i=m i:=fun i hi=>by rw [frz_none,if_neg (hdis i hi)]
  have hgm:Good m ord:=by rw [hord]; exact ordM_good m xs
  have hg:Good (frz m I) ord:=⟨hgm.1,fun i hi=>by rw [hfz i hi]; exact hgm.2 i hi⟩
  have hn:∀ b,handed ord μ b→¬ W0.N b:=by
   rintro b ⟨j,i,o,n,hj,hμ⟩
   have hi:=List.mem_of_getElem? hj
   cases hm:m i with
   | none=>exact absurd hm (hgm.2 i hi)
   | some x=>exact (h.own i x b o n hm hμ).1
  -- the values that are handed over,in memory as it was (frozen ids are none of those)
  have hover:=hz.handOver (ord:=ord) hg hn (L':=fun c v=>∃ j,(xs.map (ren 4 ord))[j]?=some c∧v=vals.getD j undef) (by
   rintro c v ⟨j,hj,rfl⟩
   rw [List.getElem?_map,Option.map_eq_some_iff] at hj
   obtain ⟨x,hx,rfl⟩:=hj
   exact ⟨4,x,rfl,r1 j x hx⟩)
  have ebs:(ord.map fun i=>blkAV (renB ord (frz m I i)))=ord.map fun i=>blkAV (renB ord (m i)):=List.map_congr_left fun i hi=>by rw [hfz i hi]
  rw [ebs] at hover
  have ekb:nbox (ord.map fun i=>blkAV (renB ord (m i)))=(ord.filter fun i=>isBx (m i)).length:=by rw [hord]; exact nbox_ordM m xs
  have hkb:∀ j,j < (ord.filter fun i=>isBx (m i)).length→∃ i tb cs,ord[j]?=some i∧m i=some (.box tb cs):=by
   intro j hj
   rw [hord] at hj ⊢
   exact ordM_box m xs hj
  have hsz:vals.size=(xs.map (ren 4 ord)).length:=by rw [List.length_map,l1,l0,hvl]
  have hbk:∀ i,i < nbox (ord.map fun i=>blkAV (renB ord (m i)))→∃ n,(ord[i]?).bind μ=some ((W0.sub ord μ w h.below hn).bk i,0,n):=by
   intro j hj
   rw [ekb] at hj
   obtain ⟨i,tb,cs,h1,h2⟩:=hkb j hj
   obtain ⟨b,C,f,e1,_⟩:=h.blk i _ h2
   refine ⟨C.size,?_⟩
   show (ord[j]?).bind μ=some ((((ord[j]?).bind μ).map (·.1)).getD 0,0,C.size)
   rw [h1]
   simp [e1]
  have hrun:=hM (W0.sub ord μ w h.below hn) (fun b=>F b∨blksOf μ m I b) vals (fun j=>(ord[j]?).bind μ) rfl hsz (by
   have:(ord.map fun i=>blkAV (renB ord (m i))).length=ord.length:=List.length_map ..
   rw [this]
   exact hover) hbk
  have key:∀ (v:Value) (w' : World),(∃ F' μ',InvAt (W0.sub ord μ w h.below hn) (fun b=>F b∨blksOf μ m I b) (fun i=>i < os.length) (Mem.ofBs os) (fun c u=>c=y∧u=v) w' μ' F'∧
    ∀ i,i < nbox (ord.map fun i=>blkAV (renB ord (m i)))→∃ n,μ' i=some ((W0.sub ord μ w h.below hn).bk i,0,n))→
    ∃ m',K y m'=some r∧Inv W0 F0 (U8 U id) m' (fun c u=>L c u∨(c=y∧u=v)) w':=by
   rintro v w' ⟨F',μ',hI',hb'⟩
   rw [ekb] at hb'
   obtain ⟨μ'',hfin⟩:=h.takeBack hgm hdis hn hid hkb hpo.2 hpo.1 hI' hb'
   exact ⟨_,hK,μ'',F',hfin⟩
  intro next Q hnext
  unfold Oper.wp
  rw [hexec]
  rcases hrun with ⟨e,hcalls⟩ | ⟨v,w',e,hv⟩
  ·have e' : (callFunc g vals).run P w=.ok (.enter g vals) w:=e
   rw [e']
   refine Calls.mono hcalls fun en w' he=>?_
   cases en with
   | returned v=>
    obtain ⟨m',hK,hI⟩:=key v w' he
    exact hnext y m' v w' hK hI
   | panicked _=>exact he.elim
   | outgrown=>exact he.elim
  ·have e' : (callFunc g vals).run P w=.ok (.value v) w':=e
   rw [e']
   obtain ⟨m',hK,hI⟩:=key v w' hv
   exact hnext y m' v w' hK hI
 ·cases hK1
theorem InvAt.rowBack (h:InvAt W0 F0 U m L w μ F) {j:Nat} {fl:Fl} {sz:Nat} {xs ys:List AV} (hm:m j=some (.row fl sz xs)) (hn:∀ b,handed [j] μ b→¬ W0.N b) (hl:ys.length=xs.length) {y z:AV} {v:Value} (hz:backE j y=some z)
    (hE:InvAt (W0.sub [j] μ w h.below hn) F (fun i=>i < 8) (Mem.ofBs [.fr fl sz ys]) (fun c u=>c=y∧u=v) w' (fun k=>(([j]:List Nat)[k]?).bind μ) F) :
    InvAt W0 F0 U (m.upd j (some (.row fl sz ys))) (fun c u=>L c u∨(c=z∧u=v)) w' μ F:=by
  have hd:∀ b,handed [j] μ b→∃ o n,μ j=some (b,o,n):=by
    rintro b ⟨k,i,o,n,hk,hb⟩
    cases k with
    | zero=>simp at hk; subst hk; exact ⟨o,n,hb⟩
    | succ k=>simp at hk
  have hnf:∀ b,handed [j] μ b→¬ F b:=fun b hb=>by
    obtain ⟨o,n,e⟩:=hd b hb
    exact (h.own j _ b o n hm e).2.2
  have hw:∀ b,F b→w'.heap[b]?=w.heap[b]?:=fun b hb=>hE.below.block b ⟨(h.foreign b hb).1,fun hh=>hnf b hh hb⟩
  have hsz:w.heap.size≤w'.heap.size:=hE.below.size
  have hmm:∀ i,U i→SameShape (m i) ((m.upd j (some (.row fl sz ys))) i)∧((m.upd j (some (.row fl sz ys))) i≠none→μ i=μ i):=by
    intro i _
    refine ⟨?_,fun _=>rfl⟩
    by_cases e:i=j
    · subst e; rw [Mem.upd_same,hm]; exact ⟨rfl,hl⟩
    · rw [Mem.upd_other _ _ e]; exact .refl _
  refine {
    below:=⟨hE.below.os.trans h.below.os,hE.below.tape.trans h.below.tape,hE.below.output.trans h.below.output,Nat.le_trans h.below.size hsz,fun k hk=>?_⟩
    foreign:=fun b hb=>⟨(hE.foreign b hb).1,(h.foreign b hb).2⟩
    sub:=h.sub
    gl:=h.gl
    used:=fun i x hx=>?_
    blk:=fun i x hx=>?_
    own:=fun i x b o n hx hb=>?_
    inj:=fun i i' x x' b o n o' n' hx hx' hb hb'=>?_
    pairs:=?_ }
  · have hlt:k < w.heap.size:=Nat.lt_of_lt_of_le (W0.lt k hk) h.below.size
    exact (hE.below.block k ⟨hlt,fun hh=>hn k hh hk⟩).trans (h.below.block k hk)
  · by_cases e:i=j
    · subst e; exact h.used i _ hm
    · rw [Mem.upd_other _ _ e] at hx; exact h.used i x hx
  · by_cases e:i=j
    · subst e
      rw [Mem.upd_same] at hx
      cases hx
      have h0:=hE.blk 0 (.row fl sz ys) rfl
      obtain ⟨a1,a2,a3⟩:=h0
      refine ⟨a1,a2,?_⟩
      simpa using a3
    · rw [Mem.upd_other _ _ e] at hx
      refine (h.blk i x hx).mono (fun _ hb=>hb) hw (fun _ hi=>hi) hmm rfl (fun b o n hb=>?_)
      refine hE.below.block b ⟨(h.own i x b o n hx hb).2.1,fun hh=>?_⟩
      obtain ⟨o',n',e'⟩:=hd b hh
      exact e (h.inj i j _ _ b o n o' n' hx hm hb e')
  · by_cases e:i=j
    · subst e
      have:=h.own i _ b o n hm hb
      exact ⟨this.1,Nat.lt_of_lt_of_le this.2.1 hsz,this.2.2⟩
    · rw [Mem.upd_other _ _ e] at hx
      have:=h.own i x b o n hx hb
      exact ⟨this.1,Nat.lt_of_lt_of_le this.2.1 hsz,this.2.2⟩
  · have ex:∀ i x,(m.upd j (some (.row fl sz ys))) i=some x→∃ x',m i=some x':=by
      intro i x hx
      by_cases e:i=j
      · subst e; exact ⟨_,hm⟩
      · rw [Mem.upd_other _ _ e] at hx; exact ⟨x,hx⟩
    obtain ⟨q,hq⟩:=ex i x hx
    obtain ⟨q',hq'⟩:=ex i' x' hx'
    exact h.inj i i' q q' b o n o' n' hq hq' hb hb'
  · rintro x u (hx | ⟨rfl,rfl⟩)
    · exact (h.pairs x u hx).mono (fun _ hb=>hb) hw (fun _ hi=>hi) hmm
    · have h0:=hE.pairs y u ⟨rfl,rfl⟩
      unfold backE at hz
      split at hz
      · rename_i off l
        cases hz
        have h0:RelB w' F (fun k=>(([j]:List Nat)[k]?).bind μ) (Mem.ofBs [.fr fl sz ys]) (fun i=>i < 8) (.own 0 off l) u:=h0
        obtain ⟨h1,h2,h3⟩:=h0
        refine ⟨fun _=>h1 rfl,h.used j _ hm,fun fl' sz' xs' hx=>?_⟩
        rw [Mem.upd_same] at hx
        cases hx
        have:=h3 fl sz ys rfl
        simpa using this
      · cases hz
        obtain ⟨vs,e,hl,hr⟩:=h0
        exact ⟨vs,e,hl,by simp⟩
      · cases hz
theorem did_callE {C:FuncId→List AV→(AV→Option R)→Option R} (hC:∀ g aas (K:AV→Option R) r,C g aas K=some r→∃ x,K x=some r∧HandsAt P W0.root g aas x)
  {g:FuncId} {us:List AV} {vals:Array Value} (hexec:(execOp a.eval o).run P w=(callFunc g vals).run P w) (hvl:vals.size=us.length) (hargs:∀ j q,us[j]?=some q→RelS w F μ m U q (vals.getD j undef))
  (h:InvAt W0 F0 U m L w μ F) (hid:∀ j,j < 8→¬ U (id+j)) (hK:callE C g us m K=some r) :
  DidW P o a w W0 F0 U id L K r:=by
 unfold callE at hK
 split at hK
 ·rename_i j off l rest
  obtain ⟨b,hm,hK⟩:=withSome_some hK
  split at hK
  ·rename_i fl sz xs
   obtain ⟨hv,hK⟩:=bif_some hK
   obtain ⟨x,hK1,hHands⟩:=hC _ _ _ _ hK
   clear hK
   split at hK1
   ·rename_i y fl' sz' ys
    obtain ⟨hq,hK⟩:=bif_some hK1
    obtain ⟨z,hz,hK⟩:=withSome_some hK
    rw [Bool.and_eq_true] at hq
    have e1:=eq_of_beq hq.1
    have e2:=Nat.eq_of_beq_eq_true hq.2
    subst e1 e2
    have hn:∀ b,handed [j] μ b→¬ W0.N b:=by
     rintro b ⟨k,i,o,n,hk,hb⟩
     cases k with
     | zero=>simp at hk; subst hk; exact (h.own j _ b o n hm hb).1
     | succ k=>simp at hk
    have hg:Good m [j]:=⟨by simp,fun i hi=>by simp at hi; subst hi; rw [hm]; simp⟩
    obtain ⟨e3,hM⟩:=hHands.2.2 _ _ _ _ _ _ _ _ rfl rfl
    have hover:=h.handOver (ord:=[j]) hg hn (L':=fun c v=>∃ k,(AV.own 0 off l::rest)[k]?=some c∧v=vals.getD k undef) (by
     rintro c v ⟨k,hk,rfl⟩
     refine ⟨1,(AV.own j off l::rest).getD k .undef,?_,?_⟩
     ·cases k with
      | zero=>simp at hk; subst hk; simp [ren,idxIn,List.findIdx?_cons]
      | succ k=>
       simp at hk
       have hvk:=List.all_eq_true.1 hv c (List.mem_of_getElem? hk)
       rw [List.getD_cons_succ,List.getD_eq_getElem?_getD,hk]
       cases c <;> first | rfl | (cases hvk; done)
     ·cases k with
      | zero=>exact hargs 0 _ rfl
      | succ k=>
       simp at hk
       rw [List.getD_cons_succ,List.getD_eq_getElem?_getD,hk]
       exact hargs (k+1) c (by simpa using hk))
    have hbs:([j]:List Nat).map (fun i=>blkAV (renB [j] (m i)))=[AV.fr fl' sz' xs]:=by simp [hm,renB,blkAV]
    rw [hbs] at hover
    have hrun:=hM (W0.sub [j] μ w h.below hn) F vals (fun k=>(([j]:List Nat)[k]?).bind μ) rfl (by simpa using hvl) hover
    have key:∀ (v:Value) (w' : World),InvAt (W0.sub [j] μ w h.below hn) F (fun i=>i < 8*[AV.fr fl' sz' xs].length) (Mem.ofBs [.fr fl' sz' ys]) (fun c u=>c=y∧u=v) w' (fun k=>(([j]:List Nat)[k]?).bind μ) F→
      Inv W0 F0 (U8 U id) (m.upd j (some (.row fl' sz' ys))) (fun c u=>L c u∨(c=z∧u=v)) w':=by
     intro v w' hI'
     exact ⟨μ,F,(h.rowBack hm hn e3 hz hI').wider (fun i hi=>.inl hi)⟩
    intro next Q hnext
    unfold Oper.wp
    rw [hexec]
    rcases hrun with ⟨e,hcalls⟩ | ⟨v,w',e,hv⟩
    ·have e' : (callFunc g vals).run P w=.ok (.enter g vals) w:=e
     rw [e']
     refine Calls.mono hcalls fun en w' he=>?_
     cases en with
     | returned v=>exact hnext z _ v w' hK (key v w' he)
     | panicked _=>exact he.elim
     | outgrown=>exact he.elim
    ·have e' : (callFunc g vals).run P w=.ok (.value v) w':=e
     rw [e']
     exact hnext z _ v w' hK (key v w' hv)
   ·cases hK1
  ·cases hK
 ·cases hK
theorem did_call (hG:CfgOk P G) {C:FuncId→List AV→(AV→Option R)→Option R} (hC:∀ g aas (K:AV→Option R) r,C g aas K=some r→∃ x,K x=some r∧HandsAt P W0.root g aas x)
  {g:FuncId} {us:List AV} {vals:Array Value} (hexec:(execOp a.eval o).run P w=(callFunc g vals).run P w) (hvl:vals.size=us.length) (hargs:∀ j q,us[j]?=some q→RelS w F μ m U q (vals.getD j undef))
  (h:InvAt W0 F0 U m L w μ F) (hid:∀ j,j < 8→¬ U (id+j)) {dr:Bool} (hK:callK G C dr g us m id K=some r) :
  DidW P o a w W0 F0 U id L K r:=by
 unfold callK at hK
 cases hptr:us.any hasPtr with
 | true=>
  rw [hptr,cond_true] at hK
  cases dr with
  | true=>cases hK
  | false=>exact did_callM hG hC hexec hvl hargs h hid hK
 | false=>
 rw [hptr,cond_false] at hK
 cases hrf:G.refs g with
 | true=>
  rw [hrf,cond_true] at hK
  cases dr with
  | true=>cases hK
  | false=>exact did_callE hC hexec hvl hargs h hid hK
 | false=>
 rw [hrf,cond_false] at hK
 have hK0:∀ {b:Bool} {A:Option R},(bif b then none else A)=some r→A=some r:=by intro b A h; cases b <;> first | exact h | cases h
 obtain ⟨as0,has0,hK1⟩:=withSome_some hK
 clear hK
 obtain ⟨aas,has,hK⟩:=withSome_some hK1
 clear hK1
 obtain ⟨x,hK1,hHands⟩:=hC _ _ _ _ hK
 clear hK
 obtain ⟨I,hI⟩ : ∃ I,I=us.flatMap (idsF m):=⟨_,rfl⟩
 obtain ⟨l0,r0⟩:=valAL_rel h I _ _ (fun j=>vals.getD j undef) has0 hargs (fun i hi=>by rw [hI]; exact hi)
 obtain ⟨l1,r1⟩:=normR_rel hG h I has0 hargs (fun i hi=>by rw [hI]; exact hi) has
 have hz:=h.freeze I
 have hsz:vals.size=aas.length:=by rw [l1,l0,hvl]
 have key:∀ (v:Value) (w' : World),(∃ F' β,Came w w' (fun b=>F b∨blksOf μ m I b) F' β∧Res w' F' β x v)→∃ x' m',K x' m'=some r∧Inv W0 F0 (U8 U id) m' (fun y u=>L y u∨(y=x'∧u=v)) w':=by
  rintro v w' ⟨F',β,hcame,hres⟩
  have hs:=h.below.size
  cases hcl:cleanR x with
  | true=>
   rw [hcl] at hK1
   simp only [cond_true] at hK1
   generalize hq:imp id m x=q at hK1
   obtain ⟨y,cc,m'⟩:=q
   obtain ⟨hc8,hK⟩:=bif_some hK1
   obtain ⟨μ',hinv⟩:=imp_ok hq (Nat.le_of_ble_eq_true hc8) hid (h.world hcame.below) (N:=w.heap.size) hs (fun i y b o n hy hb=>(h.own i y b o n hy hb).2.1)
    (fun k b o n hb=>⟨(hcame.own k b o n hb).1,(hcame.own k b o n hb).2.1,fun hF=>(hcame.own k b o n hb).2.2 (hcame.sub b (.inl hF))⟩) hcame.inj (res_clean hcl hres)
   exact ⟨y,m',hK,μ',F,hinv⟩
  | false=>
   rw [hcl] at hK1
   simp only [cond_false] at hK1
   ·replace hK1:=hK0 hK1
    rw [← hI] at hK1
    generalize hq:imp id (frz m I) x=q at hK1
    obtain ⟨y,cc,m'⟩:=q
    obtain ⟨hc8,hK⟩:=bif_some hK1
    have hz':=(hz.world hcame.below).more (F':=F') hcame.sub (fun b hb=>⟨(hcame.new b hb).1,by
     rcases (hcame.new b hb).2 with h1 | h1
     ·exact .inl h1
     ·refine .inr ⟨W0.new h.below h1,fun i y o n hy hb'=>?_⟩
      have:=(hz.own i y b o n hy hb').2.1
      omega⟩)
    obtain ⟨μ',hinv⟩:=imp_ok hq (Nat.le_of_ble_eq_true hc8) hid hz' (N:=w.heap.size) hs (fun i y b o n hy hb=>(hz.own i y b o n hy hb).2.1) (fun k b o n hb=>hcame.own k b o n hb) hcame.inj hres
    exact ⟨y,m',hK,μ',F',hinv⟩
 intro next Q hn
 have hrun:=hHands.1 (last_false (normR_last has0 has)) w (fun b=>F b∨blksOf μ m I b) vals h.below.root (fun b hb=>(hz.foreign b hb).1) (fun b hb=>.inl (h.gl b hb)) hsz r1
 unfold Oper.wp
 rw [hexec]
 rcases hrun with ⟨e,hcalls⟩ | ⟨v,w',e,hv⟩
 ·rw [e]
  refine Calls.mono hcalls fun en w' he=>?_
  cases en with
  | returned v=>
   obtain ⟨x',m',hK,hI⟩:=key v w' he
   exact hn x' m' v w' hK hI
  | panicked _=>exact he.elim
  | outgrown=>exact he.elim
 ·rw [e]
  obtain ⟨x',m',hK,hI⟩:=key v w' hv
  exact hn x' m' v w' hK hI
theorem did_oper (hG:CfgOk P G) {C:FuncId→List AV→(AV→Option R)→Option R} (hC:∀ g aas (K:AV→Option R) r,C g aas K=some r→∃ x,K x=some r∧HandsAt P W0.root g aas x)
  (h:InvAt W0 F0 U m L w μ F) (hE:Env G S a L) (hid:∀ j,j < 8→¬ U (id+j)) {dr:Bool} (hK:operK G C dr o S m id K=some r):DidW P o a w W0 F0 U id L K r:=by
 unfold operK at hK
 split at hK
 ·rename_i c hop
  split at hK
  ·rename_i f hc
   split at hK
   ·rename_i g caps hf
    have hK0:∀ {b:Bool} {A:Option R},(bif b then none else A)=some r→A=some r:=by intro b A h; cases b <;> first | exact h | cases h
    replace hK:=hK0 hK
    have hfn:=hE.rel h f
    rw [hf] at hfn
    obtain ⟨vs,hvf,hvl,hvr⟩:=hfn
    have ra:∀ j q,(c.args.toList.map (ev G S))[j]?=some q→RelS w F μ m U q ((c.args.map a.eval).getD j undef):=by
     intro j q hj
     simp only [List.getElem?_map,Array.getElem?_toList,Option.map_eq_some_iff] at hj
     obtain ⟨y,hy,rfl⟩:=hj
     have e:(c.args.map a.eval).getD j undef=a.eval y:=by
      rw [Array.getD_eq_getD_getElem?]
      simp [hy]
     rw [e]
     exact hE.rel h y
    have rc:∀ j q,caps[j]?=some q→RelS w F μ m U q (vs.getD j undef):=fun j q hj=>relS_of_A (relA_of_C (relC_of_B (hvr j q hj)))
    cases hb:Nat.blt g bnd with
    | true=>
     rw [hb,cond_true] at hK
     have hvf:a.eval f=.func (.func g) #[] vs:=by rw [hvf,fnV,hb]; rfl
     exact did_call hG hC (vals:=c.args.map a.eval++vs) (by simp [execOp,hop,resolve,hc,hvf,Deferred.ofValue,invoke]) (by simp [hvl]) (both_rel (by simp) ra rc) h hid hK
    | false=>
     rw [hb,cond_false] at hK
     have hvf:a.eval f=.func (.func (g - bnd)) vs #[]:=by rw [hvf,fnV,hb]; rfl
     exact did_call hG hC (vals:=vs++c.args.map a.eval) (by simp [execOp,hop,resolve,hc,hvf,Deferred.ofValue,invoke]) (by simp [hvl]) (both_rel hvl rc ra) h hid hK
   ·cases hK
  ·exact (did_op hG h hE hid hK).toW
 ·rename_i t p x hop
  have hK0:∀ {b:Bool} {A:Option R},(bif b then none else A)=some r→A=some r:=by intro b A h; cases b <;> first | exact h | cases h
  have hK1:=hK0 hK
  rw [← hop] at hK1
  exact (did_op hG h hE hid hK1).toW
 ·rename_i t n parts hop
  have hK0:∀ {b:Bool} {A:Option R},(bif b then none else A)=some r→A=some r:=by intro b A h; cases b <;> first | exact h | cases h
  have hK1:=hK0 hK
  rw [← hop] at hK1
  exact (did_op hG h hE hid hK1).toW
 ·exact (did_op hG h hE hid hK).toW
end
end Go.Proofs.Ev
namespace Go.Proofs.Ev
open Go Go.RowKit
set_option linter.unusedVariables false
def EnvC (G:Cfg) (W0:Base) (x:AV) (v:Value):Prop:=
 (∃ g cs,G.glob g=some cs∧x=.rd cs∧v=.pointer (some ⟨g,0,none⟩))∨∃ i,i < G.kb∧x=.ptr i 0∧v=.pointer (some ⟨W0.bk i,0,none⟩)
def EnvL (G:Cfg) (W0:Base) (S:List AV) (a:Act) (x:AV) (v:Value):Prop:=
 (∃ t,x=S.getD t .undef∧v=a.tmps.getD t undef)∨EnvC G W0 x v
structure StOk (G:Cfg) (W0:Base) (F0 U:Nat→Prop) (m:Mem) (S:List AV) (a:Act) (w:World):Prop where
 defers:a.defers=[]
 len:S.length≤a.tmps.size
 inv:Inv W0 F0 U m (EnvL G W0 S a) w
section
variable {R:Type} {P:Program} {G:Cfg} {o:Oper} {a:Act} {w w' : World} {W0:Base} {F0 U F F' : Nat→Prop} {id:Nat} {L L' : AV→Value→Prop} {r:R} {m:Mem} {μ β:Mu} {S:List AV}
theorem envL:Env G S a (EnvL G W0 S a):=⟨fun t=>.inl ⟨t,rfl,rfl⟩,fun g cs h=>.inr (.inl ⟨g,cs,h,rfl,rfl⟩)⟩
theorem getD_set (S:List AV) (d t:Nat) (x:AV):(S.set d x).getD t .undef=if t=d∧d < S.length then x else S.getD t .undef:=by
 simp only [List.getD_eq_getElem?_getD,List.getElem?_set]
 by_cases e:d=t
 ·subst e
  by_cases h:d < S.length
  ·simp [h]
  ·simp [h]
 ·have:¬ t=d:=fun h=>e h.symm
  simp [e,this]
theorem tmps_set (C:Array Value) (d t:Nat) (v:Value):(C.setIfInBounds d v).getD t undef=if t=d∧d < C.size then v else C.getD t undef:=by
 simp only [Array.getD_eq_getD_getElem?,Array.getElem?_setIfInBounds]
 by_cases e:d=t
 ·subst e
  by_cases h:d < C.size
  ·simp [h]
  ·simp [h]
 ·have:¬ t=d:=fun h=>e h.symm
  simp [e,this]
theorem StOk.put (h:StOk G W0 F0 U m S a w) {d:Option Tmp} {x:AV} {v:Value} {m' : Mem} {U' : Nat→Prop} (hI:Inv W0 F0 U' m' (fun y u=>EnvL G W0 S a y u∨(y=x∧u=v)) w'):StOk G W0 F0 U' m' (put S d x) (a.put d v) w':=by
 cases d with
 | none=>exact ⟨h.defers,h.len,hI.weaken (fun x v hx=>.inl hx)⟩
 | some d=>
  refine ⟨h.defers,by simpa [Ev.put,Act.put] using h.len,?_⟩
  obtain ⟨μ,F,hI⟩:=hI
  refine ⟨μ,F,{ hI with pairs:=?_ }⟩
  rintro y u (⟨t,rfl,rfl⟩ | hg)
  ·simp only [Ev.put,Act.put,getD_set,tmps_set]
   have hlen:=h.len
   by_cases e:t=d
   ·subst e
    by_cases h1:t < S.length
    ·have h2:t < a.tmps.size:=by omega
     simp only [h1,h2,and_self,if_true]
     exact hI.pairs _ _ (.inr ⟨rfl,rfl⟩)
    ·have h3:S.getD t .undef=.undef:=by rw [List.getD_eq_getElem?_getD,List.getElem?_eq_none (Nat.le_of_not_lt h1)]; rfl
     simp only [h1,and_false,if_false,h3]
     exact ⟨fun h=>by simp [AV.okC] at h,.undef _⟩
   ·simp only [e,false_and,if_false]
    exact hI.pairs _ _ (.inl (.inl ⟨t,rfl,rfl⟩))
  ·exact hI.pairs _ _ (.inl (.inr hg))
theorem StOk.same (h:StOk G W0 F0 U m S a w) {S' : List AV} (hl:S'.length=S.length) (hs:∀ t,S'.getD t .undef=S.getD t .undef):StOk G W0 F0 U m S' a w:=by
 refine ⟨h.defers,by rw [hl]; exact h.len,h.inv.weaken ?_⟩
 rintro x v (⟨t,rfl,rfl⟩ | hx)
 ·exact .inl ⟨t,hs t,rfl⟩
 ·exact .inr hx
theorem StOk.setSame (h:StOk G W0 F0 U m S a w) {d:Nat} {x:AV} (hx:S.getD d .undef=x):StOk G W0 F0 U m (S.set d x) a w:=by
 refine h.same (by simp) (fun t=>?_)
 rw [getD_set]
 by_cases e:t=d
 ·subst e
  by_cases h1:t < S.length
  ·rw [if_pos ⟨rfl,h1⟩]; exact hx.symm
  ·simp [h1]
 ·simp [e]
theorem StOk.undef (h:StOk G W0 F0 U m S a w) {d:Option Tmp} {U' : Nat→Prop} (hU:∀ i,U i→U' i):StOk G W0 F0 U' m (Ev.put S d (.tup [])) (a.put d Go.undef) w:=by
 refine h.put ?_
 obtain ⟨μ,F,hI⟩:=h.inv
 have hx:RelS w F μ m U (.tup []) Go.undef:=⟨#[],rfl,rfl,by simp⟩
 exact ⟨μ,F,(hI.also hx).wider hU⟩
theorem step_ok (hG:CfgOk P G) {C:FuncId→List AV→(AV→Option R)→Option R} (hC:∀ g aas (K:AV→Option R) r,C g aas K=some r→∃ x,K x=some r∧HandsAt P W0.root g aas x)
  {ops:Array Oper} {n i:Nat} {K:List AV→Mem→Option R} (h:StOk G W0 F0 U m S a w) (hid:∀ j,j < 8→¬ U (8*(n+i)+j)) {dr:Bool} (hK:stepK G C dr ops.toList n i S m K=some r)
  {next:Act→World→Prop} {Q:Exit→Act→World→Prop} (hn:∀ S' m' a' w',K S' m'=some r→StOk G W0 F0 (U8 U (8*(n+i))) m' S' a' w'→next a' w'):wpOp P ops Q i next a w:=by
 unfold stepK at hK
 split at hK
 ·rename_i o ho
  have ho' : ops[i]?=some o:=by rw [← ho]; simp
  -- the operation itself
  have run:∀ {S1:List AV},StOk G W0 F0 U m S1 a w→operK G C dr o S1 m (8*(n+i)) (fun x m=>K (put S1 o.dst x) m)=some r→o.wp P a w next Q:=by
   intro S1 h1 hK
   obtain ⟨μ,F,hI⟩:=h1.inv
   exact did_oper hG hC hI envL hid hK next Q (fun x m' v w' hKx hIx=>hn _ m' _ w' hKx (h1.put hIx))
  split at hK
  ·rename_i hg
   have hw:Region.wanted o (yielded ops a.tmps)=true:=by simp [Region.wanted,hg]
   simp only [wpOp,ho',hw,if_true]
   exact .inl (run h hK)
  ·rename_i g want hg
   split at hK
   ·rename_i og hog
    have hog' : ops[g]?=some og:=by rw [← hog]; simp
    split at hK
    ·rename_i d hd
     split at hK
     ·rename_i hp
      have hpv:a.tmps.getD d Go.undef=.tuple #[]:=by
       obtain ⟨μ,F,hI⟩:=h.inv
       have:=hI.pairs _ _ (.inl ⟨d,rfl,rfl⟩)
       rw [hp] at this
       obtain ⟨vs,e,hl,_⟩:=this
       rw [e,Array.size_eq_zero_iff.1 hl]
      have hy:yielded ops a.tmps g=none:=by
       unfold yielded
       simp only [hog',Option.bind_some,hd]
       rw [Array.getD_eq_getD_getElem?] at hpv
       cases hq:a.tmps[d]? with
       | none=>rfl
       | some q=>rw [hq] at hpv; simp at hpv; rw [hpv]
      have hwant:Region.wanted o (yielded ops a.tmps)=false:=by
       simp only [Region.wanted,hg,hy]
       cases want <;> rfl
      simp only [wpOp,ho',hwant]
      exact hn _ _ _ _ hK (h.undef (fun i hi=>.inl hi))
     obtain ⟨p,hp,hK⟩:=withBool_some hK
     have hpv:a.tmps.getD d Go.undef=.bool p:=by
      obtain ⟨μ,F,hI⟩:=h.inv
      have:=hI.pairs _ _ (.inl ⟨d,rfl,rfl⟩)
      rw [hp] at this
      exact (relS_v this).1
     have hy:yielded ops a.tmps g=some p:=by
      unfold yielded
      simp only [hog',Option.bind_some,hd]
      rw [Array.getD_eq_getD_getElem?] at hpv
      cases hq:a.tmps[d]? with
      | none=>rw [hq] at hpv; cases hpv
      | some q=>rw [hq] at hpv; simp at hpv; rw [hpv]
     have hS:=h.setSame (x:=vb p) hp
     have hwant:Region.wanted o (yielded ops a.tmps)=(p==want):=by
      simp only [Region.wanted,hg,hy]
      cases p <;> cases want <;> rfl
     simp only [wpOp,ho',hwant]
     cases p <;> cases want
     ·exact .inl (run hS hK)
     ·exact hn _ _ _ _ hK (hS.undef (fun i hi=>.inl hi))
     ·exact hn _ _ _ _ hK (hS.undef (fun i hi=>.inl hi))
     ·exact .inl (run hS hK)
    ·cases hK
   ·cases hK
 ·cases hK
def Ul (U:Nat→Prop) (n:Nat) (l:List Nat):Nat→Prop:=fun i=>U i∨∃ k∈l,8*(n+k)≤i∧i < 8*(n+k)+8
theorem ops_ok (hG:CfgOk P G) {C:FuncId→List AV→(AV→Option R)→Option R} (hC:∀ g aas (K:AV→Option R) r,C g aas K=some r→∃ x,K x=some r∧HandsAt P W0.root g aas x)
  {ops:Array Oper} {n:Nat} {dr:Nat→Bool} {pre:Nat→List AV→Mem→Bool} {K:List AV→Mem→Option R} {Q:Exit→Act→World→Prop}:∀ (l:List Nat) (U:Nat→Prop) (m:Mem) (S:List AV) (a:Act) (w:World),
  StOk G W0 F0 U m S a w→(∀ i∈l,∀ j,j < 8→¬ U (8*(n+i)+j))→l.Nodup→opsK G C dr pre ops.toList n l S m K=some r→
  (∀ S' m' a' w',K S' m'=some r→StOk G W0 F0 (Ul U n l) m' S' a' w'→Q .normal a' w')→wpOps P ops Q l a w
 | [],U,m,S,a,w,h,_,_,hK,hn=>hn S m a w hK ⟨h.defers,h.len,by
   obtain ⟨μ,F,hI⟩:=h.inv
   exact ⟨μ,F,hI.wider (fun i hi=>.inl hi)⟩⟩
 | i::l,U,m,S,a,w,h,hid,hnd,hK,hn=>by
  rw [wpOps_cons]
  simp only [opsK] at hK
  obtain ⟨_,hK⟩:=bif_some hK
  rw [List.nodup_cons] at hnd
  refine step_ok hG hC h (hid i (by simp)) hK (fun S' m' a' w' hK' h'=>?_)
  refine ops_ok hG hC l _ m' S' a' w' h' ?_ hnd.2 hK' ?_
  ·rintro k hk j hj (hu | hu)
   ·exact hid k (by simp [hk]) j hj hu
   ·have:k≠i:=fun e=>hnd.1 (e ▸ hk)
    omega
  ·intro S2 m2 a2 w2 hK2 h2
   refine hn S2 m2 a2 w2 hK2 ⟨h2.defers,h2.len,?_⟩
   obtain ⟨μ,F,hI⟩:=h2.inv
   refine ⟨μ,F,hI.wider ?_⟩
   rintro q ((hq | hq) | ⟨k,hk,hq⟩)
   ·exact .inl hq
   ·exact .inr ⟨i,by simp,hq⟩
   ·exact .inr ⟨k,by simp [hk],hq⟩
def At (G:Cfg) (W0:Base) (F0:Nat→Prop) (S:St) (a:Act) (w:World):Prop:=StOk G W0 F0 (fun i=>i < 8*S.nxt) S.m S.tm a w
theorem region_ok (hG:CfgOk P G) {C:FuncId→List AV→(AV→Option R)→Option R} (hC:∀ g aas (K:AV→Option R) r,C g aas K=some r→∃ x,K x=some r∧HandsAt P W0.root g aas x)
  {ops:Array Oper} {S:St} {K:St→Option R} {rid:Nat} (h:At G W0 F0 S a w) (hK:regionK G C ops false S K=some r) :
  (Code.region rid ops false).wp P (fun e a' w'=>e=.normal∧∃ S',K S'=some r∧At G W0 F0 S' a' w') a w:=by
 refine wp_region (ops_ok hG hC (List.range ops.size) _ _ _ a w h ?_ List.nodup_range hK ?_)
 ·intro i _ j hj hu; omega
 ·intro S' m' a' w' hK' h'
  refine ⟨rfl,_,hK',h'.defers,h'.len,?_⟩
  obtain ⟨μ,F,hI⟩:=h'.inv
  refine ⟨μ,F,hI.wider ?_⟩
  rintro q (hq | ⟨k,hk,hq⟩)
  ·simp only; omega
  ·simp only [List.mem_range] at hk
   simp only
   omega
end
end Go.Proofs.Ev
namespace Go.Proofs.Ev
open Go Go.RowKit
set_option linter.unusedVariables false
theorem pickI_one {R:Type} {i:Int} {r:R}:∀ (n:Nat) (K:Nat→Option R),pickI i n K=some r→∃ q:Nat,i=(q:Int)∧K q=some r
 | 0,K,h=>by simp [pickI] at h
 | n+1,K,h=>by
  unfold pickI at h
  by_cases e:i=(n:Int)
  ·rw [decide_eq_true e] at h
   exact ⟨n,e,h⟩
  ·rw [decide_eq_false e] at h
   exact pickI_one n K h
theorem splitK_eq {R:Type} {S:St} {t c n:Nat} {K:St→Option R} {r:R} (h:splitK S t c n K=some r):K S=some r:=by
 unfold splitK at h
 split at h
 ·rename_i id o _
  split at h
  ·rename_i tb cs hm
   split at h
   ·rename_i k x hc
    obtain ⟨q,rfl,hq⟩:=pickI_one _ _ h
    have hs:cs.set (o+c) (.v (.int k (q:Int)))=cs:=by
     obtain ⟨hlt,e⟩:=List.getElem?_eq_some_iff.1 hc
     rw [← e]
     exact List.set_getElem_self hlt
    rw [hs] at hq
    have hu:S.m.upd id (Option.some (.box tb cs))=S.m:=Mem.upd_self hm
    rw [hu] at hq
    exact hq
   ·cases h
  ·cases h
 ·cases h
theorem splits_eq {R:Type} {r:R}:∀ (l:List (Nat × Option Nat × Fl × Nat)) (S:St) (K:St→Option R),splits l S K=some r→K S=some r
 | [],S,K,h=>h
 | (t,.some j,fl,n)::l,S,K,h=>by
  unfold splits at h
  cases hb:Nat.ble 2000000 j with
  | true=>rw [hb,cond_true] at h; exact splits_eq l S K (splitK_eq h)
  | false=>rw [hb,cond_false] at h; exact splits_eq l S K h
 | (_,.none,_,_)::l,S,K,h=>splits_eq l S K h
def Ends (P:Program) (b:Frame) (cs:List Frame) (a:Act) (todo:List Item) (w:World) (T:Value→World→Prop):Prop:=
 ∃ v w' fr,T v w'∧Steps P (lone (b.at a todo) cs w) (lone fr cs w')∧fr.fn=b.fn∧fr.leaving P w' (.returned v)
theorem Ends.step {P:Program} {b:Frame} {cs:List Frame} {a a' : Act} {todo todo' : List Item} {w w' : World} {T:Value→World→Prop} (h:Steps P (lone (b.at a todo) cs w) (lone (b.at a' todo') cs w')) (h' : Ends P b cs a' todo' w' T) :
  Ends P b cs a todo w T:=by
 obtain ⟨v,w1,fr,hT,hs,hf,hl⟩:=h'
 exact ⟨v,w1,fr,hT,.trans h hs,hf,hl⟩
section
variable {R:Type} {P:Program} {G:Cfg} {a:Act} {w w' : World} {W0:Base} {F0 U F F' : Nat→Prop} {id:Nat} {L L' : AV→Value→Prop} {r:R} {m:Mem} {μ β:Mu} {S:List AV}
theorem At.cond {S:St} (h:At G W0 F0 S a w) {c:Operand} {p:Bool} (hc:ev G S.tm c=vb p):a.eval c=.bool p∧At G W0 F0 { S with tm:=refine c p S.tm } a w:=by
 obtain ⟨μ,F,hI⟩:=h.inv
 have hv:=envL.rel hI c
 rw [hc] at hv
 refine ⟨(relS_v hv).1,?_⟩
 cases c with
 | tmp t=>exact StOk.setSame (S:=S.tm) h hc
 | _=>exact h
variable (hG:CfgOk P G) {C:FuncId→List AV→(AV→Option R)→Option R} (hC:∀ g aas (K:AV→Option R) r,C g aas K=some r→∃ x,K x=some r∧HandsAt P W0.root g aas x)
 {b:Frame} {cs:List Frame} {fn:Func} (hb:b.kind=.normal) (hf:P.funcs[b.fn]?=some fn) {T:R→Value→World→Prop}
 {cut:Nat→Option Keep} {fin:St→Option R} (hfin:∀ S a w r,fin S=some r→At G W0 F0 S a w→∃ v,(results fn a.tmps).run P w=.ok v w∧T r v w)
 (hdraw:∀ rid ops draw (S:St) (K:St→Option R) a w r,At G W0 F0 S a w→regionK G C ops draw S K=some r→(Code.region rid ops draw).wp P (fun e a' w'=>e=.normal∧∃ S',K S'=some r∧At G W0 F0 S' a' w') a w)
include hb hf hfin in
theorem fin_ok {S:St} {a:Act} {w:World} {r:R} (hK:fin S=some r) (h:At G W0 F0 S a w) {todo:List Item}:∃ v,T r v w∧({ b.at a todo with mode:=.returning }:Frame).leaving P w (.returned v):=by
 obtain ⟨v,hr,hT⟩:=hfin S a w r hK h
 exact ⟨v,hT,rfl,h.defers,hb,fn,hf,hr⟩
include hb hf hfin hdraw in
theorem go_ok {rec:List Item→St→Option R} (hrec:∀ todo S a w r keep,rec todo (clean G.kb keep S)=some r→there G.kb (keep.nils.foldl rown S).m=true→At G W0 F0 S a w→Ends P b cs a todo w (T r)):∀ (n:Nat) (todo:List Item) (S:St) (a:Act) (w:World) (r:R),
  goK G C cut fin rec n todo S=some r→At G W0 F0 S a w→Ends P b cs a todo w (T r)
 | 0,todo,S,a,w,r,hK,h=>by simp [goK] at hK
 | n+1,todo,S,a,w,r,hK,h=>by
  have ih:=fun todo S a w r=>go_ok hrec n todo S a w r
  unfold goK at hK
  split at hK
  ·obtain ⟨v,hT,hl⟩:=fin_ok hb hf hfin hK h (todo:=[])
   exact ⟨v,w,_,hT,.one step_end,rfl,hl⟩
  ·exact .step (.one step_inBlock) (ih _ _ _ _ _ hK h)
  ·exact .step (.one step_inLoop) (ih _ _ _ _ _ hK h)
  ·rename_i c k
   split at hK
   ·exact .step (.one step_skip) (ih _ _ _ _ _ hK h)
   ·exact .step (.one step_label) (ih _ _ _ _ _ hK h)
   ·exact .step (.one step_seq) (ih _ _ _ _ _ hK h)
   ·rename_i c t e
    obtain ⟨p,hp,hK⟩:=withBool_some hK
    obtain ⟨hv,hA⟩:=h.cond hp
    have hs:=step_cond (P:=P) (b:=b) (k:=k) (cs:=cs) (w:=w) (x:=t) (y:=e) hv
    cases p with
    | true=>exact .step (.one (by simpa using hs)) (ih _ _ _ _ _ hK hA)
    | false=>exact .step (.one (by simpa using hs)) (ih _ _ _ _ _ hK hA)
   ·exact .step (.one step_block) (ih _ _ _ _ _ hK h)
   ·exact .step (.one step_loop) (ih _ _ _ _ _ hK h)
   ·obtain ⟨k',hk',hK⟩:=withSome_some hK
    exact .step (.one (step_exit hk')) (ih _ _ _ _ _ hK h)
   ·obtain ⟨v,hT,hl⟩:=fin_ok hb hf hfin hK h (todo:=k)
    exact ⟨v,w,_,hT,.one step_ret,rfl,hl⟩
   ·rename_i rid ops draw
    split at hK
    ·obtain ⟨ht,hK⟩:=bif_some hK
     exact hrec _ _ _ _ _ _ hK ht h
    ·obtain ⟨e,a',w',⟨rfl,S',hK',hA⟩,harr⟩:=hdraw rid ops draw S _ a w r h hK b k cs
     exact .step harr (ih _ _ _ _ _ hK' hA)
   ·cases hK
  ·cases hK
include hb hf hfin hdraw in
theorem run_ok (hclean:∀ keep S a w,there G.kb (keep.nils.foldl rown S).m=true→At G W0 F0 S a w→At G W0 F0 (clean G.kb keep S) a w):∀ (n:Nat) (todo:List Item) (S:St) (a:Act) (w:World) (r:R),
  runK G C cut fin n todo S=some r→At G W0 F0 S a w→Ends P b cs a todo w (T r)
 | 0,todo,S,a,w,r,hK,h=>by simp [runK] at hK
 | n+1,todo,S,a,w,r,hK,h=>by
  simp only [runK] at hK
  unfold atK at hK
  split at hK
  ·rename_i rid ops draw k
   have hK:=splits_eq _ _ _ hK
   obtain ⟨e,a',w',⟨rfl,S',hK',hA⟩,harr⟩:=hdraw rid ops draw S _ a w r h hK b k cs
   exact .step harr (go_ok hb hf hfin hdraw (fun todo S a w r keep hK ht h=>run_ok hclean n todo _ a w r hK (hclean keep S a w ht h)) 1000 _ _ _ _ _ hK' hA)
  ·cases hK
end
end Go.Proofs.Ev
namespace Go.Proofs.Ev
open Go Go.RowKit
set_option linter.unusedVariables false
theorem keepT_length (keep:List Tmp) (ord:List Nat):∀ (xs:List AV) (i:Nat),(keepT keep ord i xs).length=xs.length
 | [],_=>rfl
 | x::xs,i=>by simp [keepT,keepT_length keep ord xs]
theorem keepT_get (keep:List Tmp) (ord:List Nat):∀ (xs:List AV) (i t:Nat),(keepT keep ord i xs).getD t .undef=.undef∨(keepT keep ord i xs).getD t .undef=ren 4 ord (xs.getD t .undef)
 | [],_,t=>.inl (by simp [keepT])
 | x::xs,i,0=>by
  simp only [keepT]
  cases keep.contains i with
  | true=>exact .inr rfl
  | false=>exact .inl rfl
 | x::xs,i,t+1=>keepT_get keep ord xs (i+1) t
section
variable {R:Type} {P:Program} {G:Cfg} {a:Act} {w w' : World} {W0:Base} {F0 U F F' : Nat→Prop} {id:Nat} {L L' : AV→Value→Prop} {r:R} {m m' : Mem} {μ μ' β:Mu} {S:List AV}
theorem there_good {kb:Nat} (h:there kb m=true):Good m (List.range kb):=by
 refine ⟨List.nodup_range,fun i hi e=>?_⟩
 have:=List.all_eq_true.1 h i hi
 rw [e] at this
 cases this
theorem visit_pre {m:Mem}:∀ (n:Nat) (ord:List Nat) (x:AV),∃ t,visit n m ord x=ord++t:=by
 intro n
 induction n with
 | zero=>intro ord x; exact ⟨[],by simp [visit]⟩
 | succ n ih=>
  have hl:∀ (cs:List AV) (ord:List Nat),∃ t,cs.foldl (visit n m) ord=ord++t:=by
   intro cs
   induction cs with
   | nil=>intro ord; exact ⟨[],by simp⟩
   | cons c cs ih2=>
    intro ord
    obtain ⟨t1,e1⟩:=ih ord c
    obtain ⟨t2,e2⟩:=ih2 (visit n m ord c)
    exact ⟨t1++t2,by rw [List.foldl_cons,e2,e1,List.append_assoc]⟩
  intro ord x
  unfold visit
  split
  ·cases ord.contains _ with
   | true=>exact ⟨[],by simp⟩
   | false=>simp only [cond_false]; split <;> first | exact ⟨_,rfl⟩ | exact ⟨[],by simp⟩
  ·cases ord.contains _ with
   | true=>exact ⟨[],by simp⟩
   | false=>simp only [cond_false]; split <;> first | exact ⟨_,rfl⟩ | exact ⟨[],by simp⟩
  ·cases ord.contains _ with
   | true=>exact ⟨[],by simp⟩
   | false=>
    simp only [cond_false]
    split
    ·obtain ⟨t,e⟩:=hl _ (ord++[_])
     exact ⟨_,by rw [e,List.append_assoc]⟩
    ·exact ⟨_,rfl⟩
    ·exact ⟨[],by simp⟩
  ·cases ord.contains _ with
   | true=>exact ⟨[],by simp⟩
   | false=>
    simp only [cond_false]
    split
    ·obtain ⟨t,e⟩:=hl _ (ord++[_])
     exact ⟨_,by rw [e,List.append_assoc]⟩
    ·exact ⟨_,rfl⟩
    ·exact ⟨[],by simp⟩
  all_goals first | exact hl _ _ | exact ⟨[],by simp⟩
theorem visits_pre {α:Type} {m:Mem} {f:α→AV}:∀ (l:List α) (ord:List Nat),∃ t,l.foldl (fun ord q=>visit 6 m ord (f q)) ord=ord++t
 | [],ord=>⟨[],by simp⟩
 | q::l,ord=>by
  obtain ⟨t1,e1⟩:=visit_pre (m:=m) 6 ord (f q)
  obtain ⟨t2,e2⟩:=visits_pre (f:=f) l (visit 6 m ord (f q))
  exact ⟨t1++t2,by rw [List.foldl_cons,e2,e1,List.append_assoc]⟩
theorem pre_get {kb:Nat} {ord t:List Nat} (h:ord=List.range kb++t) {i:Nat} (hi:i < kb):ord[i]?=some i:=by
 rw [h,List.getElem?_append_left (by simpa using hi)]
 simp [hi]
theorem pre_idx {kb:Nat} {ord t:List Nat} (h:ord=List.range kb++t) (hn:ord.Nodup) {i:Nat} (hi:i < kb):idxIn ord i=some i:=by
 have hg:=pre_get h hi
 cases e:idxIn ord i with
 | none=>
  unfold idxIn at e
  rw [List.findIdx?_eq_none_iff] at e
  have:=e i (List.mem_of_getElem? hg)
  simp at this
 | some j=>
  have hj:=idxIn_some e
  have:j < ord.length:=(List.getElem?_eq_some_iff.1 hj).1
  rw [(List.getElem?_inj this hn).1 (hj.trans hg.symm)]
theorem visits_good2 {α:Type} {m:Mem} {f:α→AV}:∀ (l:List α) (ord:List Nat),Good m ord→Good m (l.foldl (fun ord q=>visit 6 m ord (f q)) ord)
 | [],ord,h=>h
 | q::l,ord,h=>visits_good2 l _ (visit_good 6 ord (f q) h)
theorem clean0_ok (keep:List Tmp) (S:St) (a:Act) (w:World) (hth:there G.kb S.m=true) (h:At G W0 F0 S a w):At G W0 F0 (clean0 G.kb keep S) a w:=by
 obtain ⟨μ,F,hI⟩:=h.inv
 obtain ⟨ord,hord⟩ : ∃ ord,ord=(List.range G.kb).foldl (fun ord i=>visit 6 S.m ord (boxed S.m i)) (keep.foldl (fun ord t=>visit 6 S.m ord (S.tm.getD t .undef)) (List.range G.kb)):=⟨_,rfl⟩
 have hgood:Good S.m ord:=by rw [hord]; exact visits_good2 _ _ (keep_good keep _ (there_good hth))
 obtain ⟨t0,ht0⟩ : ∃ t,ord=List.range G.kb++t:=by
  rw [hord]
  obtain ⟨t1,e1⟩:=visits_pre (m:=S.m) (f:=fun t=>S.tm.getD t .undef) keep (List.range G.kb)
  obtain ⟨t2,e2⟩:=visits_pre (m:=S.m) (f:=boxed S.m) (List.range G.kb) (keep.foldl (fun ord t=>visit 6 S.m ord (S.tm.getD t .undef)) (List.range G.kb))
  exact ⟨t1++t2,by rw [e2,e1,List.append_assoc]⟩
 have hcl:clean0 G.kb keep S=⟨keepT keep ord 0 S.tm,Mem.ofList (ord.map fun i=>renB ord (S.m i)),ord.length⟩:=by rw [hord]; rfl
 have hmem:∀ j b',Mem.ofList (ord.map fun i=>renB ord (S.m i)) j=some b'→∃ id b,ord[j]?=some id∧S.m id=some b∧b'=renB ord (some b):=by
  intro j b' hj
  simp only [Mem.ofList,List.getElem?_map,Option.map_eq_some_iff] at hj
  obtain ⟨id,hid,rfl⟩:=hj
  cases hm:S.m id with
  | none=>exact absurd hm (hgood.2 id (List.mem_of_getElem? hid))
  | some b=>exact ⟨id,b,hid,hm,rfl⟩
 have hlt:∀ (j id:Nat),ord[j]?=some id→j < ord.length:=fun j id hj=>(List.getElem?_eq_some_iff.1 hj).1
 have hc:Cut ord S.m (Mem.ofList (ord.map fun i=>renB ord (S.m i))) μ (fun j=>(ord[j]?).bind μ) (fun i=>i < 8*ord.length):=by
  refine ⟨fun j id hj=>?_,fun j id hj=>by simp [hj],fun j id hj=>by have:=hlt j id hj; show j < 8*ord.length; omega⟩
  cases hm:S.m id with
  | none=>exact absurd hm (hgood.2 id (List.mem_of_getElem? hj))
  | some b=>exact .inr ⟨b,rfl,by simp [Mem.ofList,hj,hm]⟩
 rw [hcl]
 refine ⟨h.defers,by simpa [keepT_length] using h.len,fun j=>(ord[j]?).bind μ,F,?_⟩
 refine { below:=hI.below,foreign:=hI.foreign,sub:=hI.sub,gl:=hI.gl,used:=?_,blk:=?_,own:=?_,inj:=?_,pairs:=?_ }
 ·intro j b' hj
  obtain ⟨id,b,hid,_,_⟩:=hmem j b' hj
  exact hc.used j id hid
 ·intro j b' hj
  obtain ⟨id,b,hid,hb,rfl⟩:=hmem j b' hj
  have hB:=hI.blk id b hb
  cases b with
  | box tb cs=>
   obtain ⟨b,C,f,e1,e2,e3,e4,e5⟩:=hB
   refine ⟨b,C,f,by simp [hid,e1],e2,by simpa using e3,e4,fun k c hk=>?_⟩
   simp only [List.getElem?_map,Option.map_eq_some_iff] at hk
   obtain ⟨y,hy,rfl⟩:=hk
   exact ren_C hc 3 (e5 k y hy)
  | row fl sz xs=>
   obtain ⟨e1,e2,e3⟩:=hB
   refine ⟨e1,e2,?_⟩
   simpa [hid] using e3
 ·intro j b' b o n hj hb
  obtain ⟨id,b1,hid,hb1,rfl⟩:=hmem j b' hj
  simp only [hid,Option.bind_some] at hb
  exact hI.own id b1 b o n hb1 hb
 ·intro j j' b1 b2 b o n o' n' hj hj' hb hb'
  obtain ⟨id,c1,hid,hc1,rfl⟩:=hmem j b1 hj
  obtain ⟨id',c2,hid',hc2,rfl⟩:=hmem j' b2 hj'
  simp only [hid,Option.bind_some] at hb
  simp only [hid',Option.bind_some] at hb'
  have e:=hI.inj id id' c1 c2 b o n o' n' hc1 hc2 hb hb'
  subst e
  exact (List.getElem?_inj (hlt j _ hid) hgood.1).1 (hid.trans hid'.symm)
 ·rintro x v (⟨t,rfl,rfl⟩ | ⟨g,cs,hg,rfl,rfl⟩ | ⟨i,hi,rfl,rfl⟩)
  ·have hp:=hI.pairs _ _ (.inl ⟨t,rfl,rfl⟩)
   rcases keepT_get keep ord S.tm 0 t with e | e
   ·rw [e]; exact relS_of_A (relA_of_C (relC_of_B undefB))
   ·rw [e]; exact ren_S hc 4 hp
  ·exact hI.pairs _ _ (.inr (.inl ⟨g,cs,hg,rfl,rfl⟩))
  ·have:=ren_S hc 4 (hI.pairs _ _ (.inr (.inr ⟨i,hi,rfl,rfl⟩)))
   simpa only [ren,pre_idx ht0 hgood.1 hi] using this
theorem At.setT {S:St} (h:At G W0 F0 S a w) {t:Nat} {x:AV} {n' : Nat} (hI:InvAt W0 F0 U m' (EnvL G W0 S.tm a) w μ F) (hx:RelS w F μ m' U x (a.tmps.getD t Go.undef)) (hU:∀ i,U i→i < 8*n') :
  At G W0 F0 ⟨S.tm.set t x,m',n'⟩ a w:=by
 have hI' : InvAt W0 F0 U m' (EnvL G W0 (S.tm.set t x) a) w μ F:=by
  refine { hI with pairs:=?_ }
  rintro y v (⟨t',rfl,rfl⟩ | hg)
  ·by_cases e:t'=t
   ·subst e
    by_cases hlt:t' < S.tm.length
    ·simpa [List.getD_eq_getElem?_getD,hlt] using hx
    ·have:=hI.pairs _ _ (.inl ⟨t',rfl,rfl⟩)
     simpa [List.getD_eq_getElem?_getD,List.getElem?_set,hlt] using this
   ·have:=hI.pairs _ _ (.inl ⟨t',rfl,rfl⟩)
    simpa [List.getD_eq_getElem?_getD,List.getElem?_set_ne (Ne.symm e)] using this
  ·exact hI.pairs _ _ (.inr hg)
 exact ⟨h.defers,by simpa using h.len,μ,F,hI'.wider hU⟩
theorem own_nil {id:Nat} {fl:Fl} {sz:Nat} (hu:U id) (hm:m id=some (.row fl sz [])):RelC w F μ m U (.own id 0 none) (.slice none 0 0):=by
 refine ⟨fun _=>rfl,hu,fun fl' sz' xs hx=>?_⟩
 rw [hm] at hx
 cases hx
 exact ⟨none,0,by simp [lenOf],by simp [lenOf],by simp [lenOf],.inl ⟨rfl,rfl⟩⟩
theorem At.freshRow {S:St} (h:At G W0 F0 S a w) (fl:Fl) (sz:Nat) :
  ∃ μ F,InvAt W0 F0 (fun i=>i < 8*S.nxt∨i=8*S.nxt) (S.m.upd (8*S.nxt) (some (.row fl sz []))) (EnvL G W0 S.tm a) w μ F:=by
 obtain ⟨μ,F,hI⟩:=h.inv
 refine ⟨_,F,hI.adopt (q:=none) (x:=.row fl sz []) (L':=EnvL G W0 S.tm a) (by show ¬ (_ < _); omega) hI.below (Nat.le_refl _) (fun _ _ _=>rfl) (by simp) ⟨by simp,by simp [flatL],.inl ⟨rfl,by simp⟩⟩ (fun y v hy=>.inl hy)⟩
theorem InvAt.setBox {S:St} (hI:InvAt W0 F0 U m (EnvL G W0 S.tm a) w μ F) {id j:Nat} {tb:TypeId} {cs:List AV} {x:AV} (hid:m id=some (.box tb cs)) (hx:∀ v,(∃ C:Array Value,v=C.getD j Go.undef∧∀ k c,cs[k]?=some c→RelC w F μ m U c (C.getD k Go.undef))→j < cs.length→RelC w F μ m U x v) :
  InvAt W0 F0 U (m.upd id (some (.box tb (cs.set j x)))) (EnvL G W0 S.tm a) w μ F:=by
 have hmm:∀ i,U i→SameShape (m i) (m.upd id (some (.box tb (cs.set j x))) i)∧(m.upd id (some (.box tb (cs.set j x))) i≠none→μ i=μ i):=by
  intro i hi
  refine ⟨?_,fun _=>rfl⟩
  by_cases e:i=id
  ·subst e; rw [Mem.upd_same,hid]; simp [SameShape]
  ·rw [Mem.upd_other _ _ e]; exact .refl _
 have hex:∀ i y,m.upd id (some (.box tb (cs.set j x))) i=some y→∃ y',m i=some y':=by
  intro i y hy
  by_cases e:i=id
  ·subst e; exact ⟨_,hid⟩
  ·rw [Mem.upd_other _ _ e] at hy; exact ⟨y,hy⟩
 refine { below:=hI.below,foreign:=hI.foreign,sub:=hI.sub,gl:=hI.gl,used:=?_,blk:=?_,own:=?_,inj:=?_,pairs:=?_ }
 ·intro i y hy
  obtain ⟨y',h'⟩:=hex i y hy
  exact hI.used i y' h'
 ·intro i y hy
  by_cases e:i=id
  ·subst e
   rw [Mem.upd_same] at hy
   cases hy
   obtain ⟨b,C,f,e1,e2,e3,e4,e5⟩:=hI.blk i _ hid
   refine ⟨b,C,f,e1,e2,by simpa using e3,e4,fun k c hk=>?_⟩
   rw [List.getElem?_set] at hk
   split at hk
   ·rename_i ejk
    subst ejk
    split at hk
    ·rename_i hlt
     cases hk
     exact (hx _ ⟨C,rfl,e5⟩ hlt).mono (fun _ h=>h) (fun _ _=>rfl) (fun _ h=>h) hmm
    ·cases hk
   ·exact (e5 k c hk).mono (fun _ h=>h) (fun _ _=>rfl) (fun _ h=>h) hmm
  ·rw [Mem.upd_other _ _ e] at hy
   exact (hI.blk i y hy).mono (fun _ h=>h) (fun _ _=>rfl) (fun _ h=>h) hmm rfl (fun _ _ _ _=>rfl)
 ·intro i y b o n hy hb
  obtain ⟨y',h'⟩:=hex i y hy
  exact hI.own i y' b o n h' hb
 ·intro i i' y y' b o n o' n' hy hy' hb hb'
  obtain ⟨z,hz⟩:=hex i y hy
  obtain ⟨z',hz'⟩:=hex i' y' hy'
  exact hI.inj i i' z z' b o n o' n' hz hz' hb hb'
 ·intro y v hy
  exact (hI.pairs y v hy).mono (fun _ h=>h) (fun _ _=>rfl) (fun _ h=>h) hmm
theorem thaw_ok (S:St) (t:Nat) (h:At G W0 F0 S a w):At G W0 F0 (thaw S t) a w:=by
 unfold thaw
 split
 ·rename_i y hy
  obtain ⟨μ,F,hI⟩:=h.inv
  have hx:=hI.pairs _ _ (.inl ⟨t,rfl,rfl⟩)
  exact h.setT (hI.freeze _) (relS_of_A (relA_of_C (relC_of_rel (valA_rel hI hx hy _ (fun i hi=>hi))))) (fun _ hi=>hi)
 ·exact h
theorem rown_ok (S:St) (e:Nat × Option Nat × Fl × Nat) (h:At G W0 F0 S a w):At G W0 F0 (rown S e) a w:=by
 obtain ⟨t,oj,fl,sz⟩:=e
 obtain ⟨μ,F,hI⟩:=h.freshRow fl sz
 have hU:∀ i,(i < 8*S.nxt∨i=8*S.nxt)→i < 8*(S.nxt+1):=by intro i hi; omega
 have hown:=own_nil (w:=w) (F:=F) (μ:=μ) (U:=fun i=>i < 8*S.nxt∨i=8*S.nxt) (.inr rfl) (Mem.upd_same S.m (8*S.nxt) (some (.row fl sz [])))
 have ht:=hI.pairs _ _ (.inl ⟨t,rfl,rfl⟩)
 cases oj with
 | none=>
  simp only [rown]
  split
  ·rename_i hnil
   rw [hnil] at ht
   rw [← (relS_v ht).1] at hown
   exact h.setT hI (relS_of_A (relA_of_C hown)) hU
  ·exact h
 | some j=>
  simp only [rown]
  cases Nat.ble 1000000 j
  case true=>exact thaw_ok S t h
  simp only [cond_false]
  split
  ·rename_i cs hcs
   split
   ·rename_i hj
    rw [hcs] at ht
    obtain ⟨vs,e,hl,hr⟩:=ht
    refine h.setT hI ⟨vs,e,by simpa using hl,fun k c hk=>?_⟩ hU
    rw [List.getElem?_set] at hk
    split at hk
    ·rename_i ejk
     subst ejk
     split at hk
     ·cases hk
      have:=hr j _ hj
      rw [← (relS_v (relS_of_A (relA_of_C this))).1] at hown
      exact hown
     ·cases hk
    ·exact hr k c hk
   ·exact h
  ·rename_i id off hp
   split
   ·rename_i tb cs hm
    split
    ·rename_i hj
     have hlt:id < 8*S.nxt:=by
      obtain ⟨μ0,F0',hI0⟩:=h.inv
      exact hI0.used id _ hm
     have hne:id≠8*S.nxt:=by omega
     refine ⟨h.defers,h.len,μ,F,(InvAt.setBox hI (id:=id) (j:=j) (cs:=cs) (x:=.own (8*S.nxt) 0 none) ?_ ?_).wider hU⟩
     ·rw [Mem.upd_other _ _ hne]; exact hm
     ·rintro v ⟨C,rfl,hC⟩ _
      have:=hC j _ hj
      rw [← (relS_v (relS_of_A (relA_of_C this))).1] at hown
      exact hown
    ·exact h
   ·exact h
  ·exact h
theorem clean_ok (k:Keep) (S:St) (a:Act) (w:World) (ht:there G.kb (k.nils.foldl rown S).m=true) (h:At G W0 F0 S a w):At G W0 F0 (clean G.kb k S) a w:=by
 have:∀ (l:List (Nat × Option Nat × Fl × Nat)) (S:St),At G W0 F0 S a w→At G W0 F0 (l.foldl rown S) a w:=by
  intro l
  induction l with
  | nil=>intro S h; exact h
  | cons e l ih=>intro S h; exact ih _ (rown_ok S e h)
 exact clean0_ok _ _ _ _ ht (this _ _ h)
end
end Go.Proofs.Ev
namespace Go.Proofs.Ev
open Go Go.RowKit
set_option linter.unusedVariables false
section
variable {R:Type} {P:Program} {G:Cfg} {a:Act} {w w' : World} {W0:Base} {F0 U F F' : Nat→Prop} {id:Nat} {L L' : AV→Value→Prop} {r:R} {m m' : Mem} {μ μ' β:Mu} {S:List AV}
abbrev Src1:=Option Nat × Option (Nat × Nat × Nat)
def okSrc (m:Mem) (μ:Mu) (q:Src1):Prop:=(∀ i,q.1=some i→m i≠none)∧∀ b o n,q.2=some (b,o,n)→∃ i o' n',q.1=some i∧μ i=some (b,o',n')
def Exp1 (w:World) (F:Nat→Prop) (m:Mem) (μ:Mu) (ids ids' : List Nat) (E:List Src1):Prop:=
 ids'=(E.filterMap (·.1)).reverse++ids∧(ids.Nodup→ids'.Nodup)∧∀ q∈E,okSrc m μ q
def Fits (β:Mu) (k:Nat) (E:List Src1):Prop:=∀ (t:Nat) (q:Src1),E[t]?=some q→β (k+t)=q.2
theorem expS_some {k:SK} {x:AV} {v:Value} {ids:List Nat} {K:List Nat→AV→Option R} (h:InvAt W0 F0 U m L w μ F) (hx:RelC w F μ m U x v) (hK:expS m ids k x K=some r) :
  ∃ ids' y E,K ids' y=some r∧Exp1 w F m μ ids ids' E∧E.length=nfr y∧(∀ cs,y≠.tup cs)∧(∀ cs,y≠.agg cs)∧∀ β k,Fits β k E→ResS w F β k y v:=by
 have plain:∀ y,K ids y=some r→nfr y=0→(∀ cs,y≠.tup cs)→(∀ cs,y≠.agg cs)→(∀ β k,ResS w F β k y v)→∃ ids' y E,K ids' y=some r∧Exp1 w F m μ ids ids' E∧E.length=nfr y∧(∀ cs,y≠.tup cs)∧(∀ cs,y≠.agg cs)∧∀ β k,Fits β k E→ResS w F β k y v:=
  fun y hK h0 h1 h2 hr=>⟨ids,y,[],hK,⟨rfl,fun h=>h,by simp⟩,by simp [h0],h1,h2,fun β k _=>hr β k⟩
 have flat:(withV x fun y=>K ids (.v y))=some r→∃ ids' y E,K ids' y=some r∧Exp1 w F m μ ids ids' E∧E.length=nfr y∧(∀ cs,y≠.tup cs)∧(∀ cs,y≠.agg cs)∧∀ β k,Fits β k E→ResS w F β k y v:=by
  intro hK
  obtain ⟨y,rfl,hK⟩:=withV_some hK
  exact plain (.v y) hK rfl (by simp) (by simp) (fun _ _=>hx.2)
 cases k with
 | slice fl sz=>
  simp only [expS] at hK
  split at hK
  ·rename_i id off l
   cases hc:ids.contains id with
   | true=>rw [hc] at hK; cases hK
   | false=>
    rw [hc] at hK
    simp only [cond_false] at hK
    split at hK
    ·rename_i fl' sz' xs hm
     obtain ⟨h1,hK⟩:=bif_some hK
     rw [Bool.and_eq_true] at h1
     have e1:=eq_of_beq h1.1
     have e2:=Nat.eq_of_beq_eq_true h1.2
     subst e1; subst e2
     have hni:id ∉ ids:=by simpa using hc
     obtain ⟨_,hu,hp⟩:=hx
     obtain ⟨ad,cap,rfl,hcap,hlen,hcase⟩:=hp _ _ xs hm
     obtain ⟨hs,hfl,hrow⟩:=h.blk id _ hm
     have he:=rowOf_eq off l xs
     generalize rowOf off l xs=ys at hK he
     generalize hn:lenOf xs.length off l=n at *
     have hl:ys.length=n:=by rw [he]; simp; omega
     have hs' : ∀ x∈ys,x.cells.length=sz':=fun x hx=>hs x (List.mem_of_mem_drop (List.mem_of_mem_take (he ▸ hx)))
     have hfl' : ∀ x∈flatL ys,okE fl' x:=by
      intro x hx
      rw [he] at hx
      simp only [flatL,List.mem_flatMap] at hx
      obtain ⟨y,hy,hx⟩:=hx
      exact hfl x (by simp only [flatL,List.mem_flatMap]; exact ⟨y,List.mem_of_mem_drop (List.mem_of_mem_take hy),hx⟩)
     have mk:∀ B:Option (Nat × Nat × Nat),(∀ b o n,B=some (b,o,n)→∃ o' n',μ id=some (b,o',n'))→(∀ β k,β k=B→ResS w F β k (.fr fl' sz' ys) (.slice ad n cap))→
       ∃ ids' y E,K ids' y=some r∧Exp1 w F m μ ids ids' E∧E.length=nfr y∧(∀ cs,y≠.tup cs)∧(∀ cs,y≠.agg cs)∧∀ β k,Fits β k E→ResS w F β k y (.slice ad n cap):=by
      intro B hB hr
      refine ⟨_,_,[(some id,B)],hK,⟨rfl,fun hnd=>?_,?_⟩,rfl,by simp,by simp,fun β k hf=>hr β k (by simpa using hf 0 _ rfl)⟩
      ·rw [List.nodup_cons]; exact ⟨hni,hnd⟩
      ·intro q hq
       simp at hq
       subst hq
       refine ⟨fun i hi=>?_,fun b o n hb=>?_⟩
       ·cases hi; simp [hm]
       ·obtain ⟨o',n',h'⟩:=hB b o n hb
        exact ⟨id,o',n',rfl,h'⟩
     rcases hcase with ⟨rfl,rfl⟩ | ⟨b,o,N,ad',hμ,rfl,hbl,hcase⟩
     ·have h0:n=0:=by omega
      have:ys=[]:=List.length_eq_zero_iff.1 (by omega)
      subst this; subst h0
      exact mk none (by simp) (fun β k hβ=>⟨⟨by simp,by simp [flatL],.inl ⟨rfl,hβ⟩⟩,none,0,rfl,Nat.le_refl _,.inl ⟨rfl,rfl⟩⟩)
     ·rcases hrow with ⟨_,hμ'⟩ | ⟨b',o',C,f,hμ',hh,hC,hfr,hr⟩
      ·rw [hμ] at hμ'; cases hμ'
      rw [hμ] at hμ'
      simp only [Option.some.injEq,Prod.mk.injEq] at hμ'
      obtain ⟨rfl,rfl,rfl⟩:=hμ'
      refine mk (some (b,o+off*sz',C.size)) (fun b1 o1 n1 e=>by cases e; exact ⟨o,C.size,hμ⟩) (fun β k hβ=>?_)
      have hle:=Nat.mul_le_mul_right sz' hlen
      rw [Nat.add_mul] at hle
      refine ⟨⟨hs',hfl',.inr ⟨b,o+off*sz',C,f,hβ,hh,by rw [hl]; omega,hfr,fun j c hj=>?_⟩⟩,some ad',cap,by rw [hl],by omega,.inr ⟨b,o+off*sz',C.size,ad',hβ,rfl,hbl,?_⟩⟩
      ·rw [he] at hj
       have hj:=flatL_take_get sz' n _ j c hj
       rw [flatL_drop sz' off xs hs,List.getElem?_drop] at hj
       have:=hr _ c hj
       rwa [← Nat.add_assoc] at this
      ·rcases hcase with hcase | ⟨e1,e2⟩
       ·exact .inl hcase
       ·refine .inr ⟨e1,?_⟩
        rw [Nat.add_mul] at e2
        omega
    ·cases hK
  ·obtain ⟨_,hx⟩:=hx
   cases hx
   exact ⟨ids,_,[(none,none)],hK,⟨rfl,fun h=>h,by simp [okSrc]⟩,rfl,by simp,by simp,fun β k hf=>⟨⟨by simp,by simp [flatL],.inl ⟨rfl,by simpa using hf 0 _ rfl⟩⟩,none,0,rfl,Nat.le_refl _,.inl ⟨rfl,rfl⟩⟩⟩
  ·exact hx.2.elim
  ·cases hK
 | any=>
  simp only [expS] at hK
  split at hK
  ·obtain ⟨_,hx⟩:=hx
   cases hx
   exact plain _ hK rfl (by simp) (by simp) (fun _ _=>.errN)
  ·obtain ⟨_,hx⟩:=hx
   cases hx
   exact plain _ hK rfl (by simp) (by simp) (fun _ _=>.errS _ _)
  ·exact plain _ hK rfl (by simp) (by simp) (fun _ _=>hx.2)
  ·cases hK
 | _=>exact flat hK
theorem exp1_append {ids ids1 ids2:List Nat} {E1 E2:List Src1} (h1:Exp1 w F m μ ids ids1 E1) (h2:Exp1 w F m μ ids1 ids2 E2):Exp1 w F m μ ids ids2 (E1++E2):=by
 obtain ⟨rfl,n1,o1⟩:=h1
 obtain ⟨rfl,n2,o2⟩:=h2
 refine ⟨by simp,fun h=>n2 (n1 h),fun q hq=>?_⟩
 rcases List.mem_append.1 hq with hq | hq
 ·exact o1 q hq
 ·exact o2 q hq
theorem fits_append {β:Mu} {k:Nat} {E1 E2:List Src1} (h:Fits β k (E1++E2)):Fits β k E1∧Fits β (k+E1.length) E2:=by
 refine ⟨fun t q hq=>h t q ?_,fun t q hq=>?_⟩
 ·rw [List.getElem?_append_left (List.getElem?_eq_some_iff.1 hq).1]; exact hq
 ·have:=h (E1.length+t) q (by rw [List.getElem?_append_right (by omega),Nat.add_sub_cancel_left]; exact hq)
  rwa [← Nat.add_assoc] at this
theorem expL_some (h:InvAt W0 F0 U m L w μ F):∀ (ks:List SK) (xs:List AV) (ids:List Nat) (u:Nat→Value) (K:List Nat→List AV→Option R),(∀ j c,xs[j]?=some c→RelC w F μ m U c (u j))→expL m ids ks xs K=some r→
  ∃ ids' ys E,K ids' ys=some r∧Exp1 w F m μ ids ids' E∧E.length=nfrL ys∧ys.length=xs.length∧∀ β k,Fits β k E→ResL w F β k ys u
 | [],[],ids,u,K,hx,hK=>⟨ids,[],[],hK,⟨rfl,fun h=>h,by simp⟩,rfl,rfl,fun _ _ _=>trivial⟩
 | [],_::_,ids,u,K,hx,hK=>by simp [expL] at hK
 | _::_,[],ids,u,K,hx,hK=>by simp [expL] at hK
 | k::ks,x::xs,ids,u,K,hx,hK=>by
  simp only [expL] at hK
  obtain ⟨ids1,y,E1,hK1,x1,l1,_,_,r1⟩:=expS_some h (hx 0 x rfl) hK
  obtain ⟨ids2,s,E2,hK2,x2,l2,l3,r2⟩:=expL_some h ks xs ids1 (fun j=>u (j+1)) _ (fun j c hj=>hx (j+1) c (by simpa using hj)) hK1
  refine ⟨ids2,y::s,E1++E2,hK2,exp1_append x1 x2,by simp [nfrL,l1,l2],by simp [l3],fun β k hf=>?_⟩
  obtain ⟨f1,f2⟩:=fits_append hf
  rw [l1] at f2
  exact ⟨r1 β k f1,r2 β _ f2⟩
theorem expA_some {ti:TI} {x:AV} {v:Value} {ids:List Nat} {K:List Nat→AV→Option R} (h:InvAt W0 F0 U m L w μ F) (hx:RelS w F μ m U x v) (hK:expA m ids ti x K=some r) :
  ∃ ids' y E,K ids' y=some r∧Exp1 w F m μ ids ids' E∧E.length=nfrA y∧(∀ cs,y≠.tup cs)∧∀ β k,Fits β k E→ResA w F β k y v:=by
 unfold expA at hK
 split at hK
 ·rename_i cs
  obtain ⟨_,hK⟩:=bif_some hK
  obtain ⟨vs,rfl,hl,hr⟩:=hx
  obtain ⟨ids',ys,E,hK,x1,l1,l2,r1⟩:=expL_some h _ _ ids (fun j=>vs.getD j undef) _ hr hK
  exact ⟨ids',.agg ys,E,hK,x1,l1,by simp,fun β k hf=>⟨vs,rfl,by omega,r1 β k hf⟩⟩
 ·rename_i hna
  split at hK
  ·rename_i k hks
   have hxc:RelC w F μ m U x v:=by
    cases x
    case agg cs=>exact absurd rfl (hna cs)
    case tup cs=>
     cases k <;> simp [expS,withV] at hK
    all_goals exact hx
   obtain ⟨ids',y,E,hK,x1,l1,h1,h2,r1⟩:=expS_some h hxc hK
   refine ⟨ids',y,E,hK,x1,?_,h1,fun β k hf=>?_⟩
   ·cases y <;> first | exact l1 | exact absurd rfl (h2 _)
   ·have:=r1 β k hf
    cases y <;> first | exact this | exact absurd rfl (h2 _)
  ·cases hK
theorem expAL_some (hG:CfgOk P G) (h:InvAt W0 F0 U m L w μ F):∀ (ts:List TypeId) (xs:List AV) (ids:List Nat) (u:Nat→Value) (K:List Nat→List AV→Option R),(∀ j c,xs[j]?=some c→RelS w F μ m U c (u j))→expAL G m ids ts xs K=some r→
  ∃ ids' ys E,K ids' ys=some r∧Exp1 w F m μ ids ids' E∧ys.length=xs.length∧(∀ y∈ys,∀ cs,y≠.tup cs)∧∀ β k,Fits β k E→ResAL w F β k ys u
 | [],[],ids,u,K,hx,hK=>⟨ids,[],[],hK,⟨rfl,fun h=>h,by simp⟩,rfl,by simp,fun _ _ _=>trivial⟩
 | [],_::_,ids,u,K,hx,hK=>by simp [expAL] at hK
 | _::_,[],ids,u,K,hx,hK=>by simp [expAL] at hK
 | t::ts,x::xs,ids,u,K,hx,hK=>by
  simp only [expAL] at hK
  obtain ⟨ti,hti,hK⟩:=withSome_some hK
  obtain ⟨ids1,y,E1,hK1,x1,l1,n1,r1⟩:=expA_some h (hx 0 x rfl) hK
  obtain ⟨ids2,s,E2,hK2,x2,l3,n2,r2⟩:=expAL_some hG h ts xs ids1 (fun j=>u (j+1)) _ (fun j c hj=>hx (j+1) c (by simpa using hj)) hK1
  refine ⟨ids2,y::s,E1++E2,hK2,exp1_append x1 x2,by simp [l3],?_,fun β k hf=>?_⟩
  ·intro z hz
   rcases List.mem_cons.1 hz with rfl | hz
   ·exact n1
   ·exact n2 z hz
  ·obtain ⟨f1,f2⟩:=fits_append hf
   rw [l1] at f2
   exact ⟨r1 β k f1,r2 β _ f2⟩
end
end Go.Proofs.Ev
namespace Go.Proofs.Ev
open Go Go.RowKit
set_option linter.unusedVariables false
section
variable {R:Type} {P:Program} {G:Cfg} {a:Act} {w w' : World} {W0:Base} {F0 U F F' : Nat→Prop} {id:Nat} {L L' : AV→Value→Prop} {r:R} {m m' : Mem} {μ μ' β:Mu}
abbrev resVal (tmps:Array Value):ResultVar→Sem Value
 | .tmp t=>pure (tmps.getD t Go.undef)
 | .cell a t=>do loadVar t (← asAddr (tmps.getD a Go.undef))
theorem resK_some (hG:CfgOk P G) {S:St} (h:InvAt W0 F0 U S.m (EnvL G W0 S.tm a) w μ F):∀ (rs:List ResultVar) (K:List AV→Option R),resK G S rs K=some r→
  ∃ xs vs,K xs=some r∧(rs.mapM (resVal a.tmps)).run P w=.ok vs w∧vs.length=xs.length∧∀ j c,xs[j]?=some c→RelS w F μ S.m U c (vs.getD j Go.undef)
 | [],K,hK=>⟨[],[],hK,rfl,rfl,by simp⟩
 | .tmp t::rs,K,hK=>by
  simp only [resK] at hK
  obtain ⟨xs,vs,hK,hrun,hl,hr⟩:=resK_some hG h rs _ hK
  refine ⟨_,a.tmps.getD t Go.undef::vs,hK,by simp [List.mapM_cons,resVal,hrun],by simp [hl],fun j c hj=>?_⟩
  cases j with
  | zero=>simp at hj; subst hj; exact h.pairs _ _ (.inl ⟨t,by simp,rfl⟩)
  | succ j=>exact hr j c (by simpa using hj)
 | .cell q t::rs,K,hK=>by
  simp only [resK] at hK
  obtain ⟨ti,hti,hK1⟩:=withSome_some hK
  clear hK
  have hT:=hG.ti t ti hti
  have hq:=h.pairs _ _ (.inl ⟨q,rfl,rfl⟩)
  split at hK1
  ·rename_i j off hp
   rw [hp] at hq
   obtain ⟨bl,hj,hK⟩:=withSome_some hK1
   clear hK1
   cases bl with
   | row _ _ _=>cases hK
   | box tb cs=>
    simp only at hK
    obtain ⟨hle,hK1⟩:=bif_some hK
    clear hK
    have hle:=Nat.le_of_ble_eq_true hle
    obtain ⟨_,hu,hpp⟩:=hq
    obtain ⟨b,n,hμ,hv⟩:=hpp tb cs hj
    obtain ⟨b',C,f,hμ',hh,hl,hfr,hr⟩:=h.blk j _ hj
    rw [hμ] at hμ'
    simp only [Option.some.injEq,Prod.mk.injEq] at hμ'
    obtain ⟨rfl,_,rfl⟩:=hμ'
    obtain ⟨r1,r2⟩:=run_loadVar (w:=w) hT ⟨b,off,none⟩ ((List.range ti.size).map fun k=>C.getD (off+k) Go.undef) (by simp) (fun k v hk=>by
     simp only [List.getElem?_map,Option.map_eq_some_iff] at hk
     obtain ⟨k',hk',rfl⟩:=hk
     obtain ⟨hk1,rfl⟩:=List.getElem?_eq_some_iff.1 hk'
     have h2:k < ti.size:=by simpa using hk1
     rw [addr_mid,List.getElem_range]
     exact cell_of hh (by omega))
    rw [chop_drop] at hK1
    have hcell:∀ k c,((cs.drop off).take ti.size)[k]?=some c→RelC w F μ S.m U c (C.getD (off+k) Go.undef):=by
     intro k c hk
     have hlt:k < ti.size:=by have:=(List.getElem?_eq_some_iff.1 hk).1; simp at this; omega
     rw [List.getElem?_take_of_lt hlt,List.getElem?_drop] at hk
     exact hr _ c hk
    have hlen:((cs.drop off).take ti.size).length=ti.size:=by simp; omega
    have fin:∀ x v,(loadVar t ⟨b,off,none⟩).run P w=.ok v w→RelS w F μ S.m U x v→(resK G S rs fun xs=>K (x::xs))=some r→
      ∃ xs vs,K xs=some r∧((ResultVar.cell q t::rs).mapM (resVal a.tmps)).run P w=.ok vs w∧vs.length=xs.length∧∀ j c,xs[j]?=some c→RelS w F μ S.m U c (vs.getD j Go.undef):=by
     intro x v hrunv hrel hK
     obtain ⟨xs,vs,hK,hrun,hl,hr⟩:=resK_some hG h rs _ hK
     refine ⟨_,v::vs,hK,by simp [List.mapM_cons,resVal,hrun,hv,asAddr,hrunv],by simp [hl],fun j c hj=>?_⟩
     cases j with
     | zero=>simp at hj; subst hj; simpa using hrel
     | succ j=>exact hr j c (by simpa using hj)
    rcases asm_some hK1 with ⟨ha,hK⟩ | ⟨ha,c,hc,hK⟩
    ·refine fin (.agg ((cs.drop off).take ti.size)) _ (r1 ha) ⟨_,rfl,by simp; omega,fun k c hk=>?_⟩ hK
     have hlt:k < ti.size:=by have:=(List.getElem?_eq_some_iff.1 hk).1; omega
     have e:((List.range ti.size).map fun k=>C.getD (off+k) Go.undef).toArray.getD k Go.undef=C.getD (off+k) Go.undef:=by simp [Array.getD_eq_getD_getElem?,hlt]
     rw [e]
     exact hcell k c hk
    ·have h1:=hT.sz1 ha
     refine fin c _ (r2 ha _ (by rw [h1]; rfl)) (relS_of_A (relA_of_C (hcell 0 c (by rw [hc]; rfl)))) hK
  ·cases hK1
theorem nodup_filterMap {E:List Src1} (h:(E.filterMap (·.1)).Nodup):∀ (k k' i:Nat) (q q' : Src1),E[k]?=some q→E[k']?=some q'→q.1=some i→q'.1=some i→k=k':=by
 induction E with
 | nil=>intro k k' i q q' h1; simp at h1
 | cons e E ih=>
  have hnd:(E.filterMap (·.1)).Nodup:=by
   cases he:e.1 with
   | none=>simpa [List.filterMap_cons,he] using h
   | some j=>rw [List.filterMap_cons,he] at h; exact (List.nodup_cons.1 h).2
  have hmem:∀ (k i:Nat) (q:Src1),E[k]?=some q→q.1=some i→i∈E.filterMap (·.1):=fun k i q hk hq=>List.mem_filterMap.2 ⟨q,List.mem_of_getElem? hk,hq⟩
  have hno:∀ (k i:Nat) (q:Src1),E[k]?=some q→q.1=some i→e.1=some i→False:=by
   intro k i q hk hq he
   rw [List.filterMap_cons,he] at h
   exact (List.nodup_cons.1 h).1 (hmem k i q hk hq)
  intro k k' i q q' h1 h2 h3 h4
  cases k with
  | zero=>
   cases k' with
   | zero=>rfl
   | succ k'=>simp at h1; subst h1; exact (hno k' i q' (by simpa using h2) h4 h3).elim
  | succ k=>
   cases k' with
   | zero=>simp at h2; subst h2; exact (hno k i q (by simpa using h1) h3 h4).elim
   | succ k'=>rw [ih hnd k k' i q q' (by simpa using h1) (by simpa using h2) h3 h4]
theorem finK_ok (hG:CfgOk P G) {fn:Func} {S:St} {K:AV→Option R} (h:At G W0 F0 S a w) (hK:finK G fn.resultTypes.toList fn.results.toList S K=some r) :
  ∃ v x,(results fn a.tmps).run P w=.ok v w∧K x=some r∧∃ F' β,CameB W0 w F0 F' β∧Res w F' β x v:=by
 obtain ⟨μ,F,hI⟩:=h.inv
 unfold finK at hK
 obtain ⟨xs,vs,hK1,hrun,hl,hr⟩:=resK_some hG hI _ _ hK
 obtain ⟨ids,ys,E,hK2,⟨e1,e2,e3⟩,l1,n1,r1⟩:=expAL_some hG hI _ _ [] (fun j=>vs.getD j Go.undef) _ hr hK1
 have hnd:(E.filterMap (·.1)).Nodup:=by
  have:=e2 (by simp)
  rw [e1,List.append_nil] at this
  exact (List.pairwise_reverse.1 this).imp (fun h=>h.symm)
 obtain ⟨β,hβ⟩ : ∃ β:Mu,β=fun k=>(E[k]?).bind (·.2):=⟨_,rfl⟩
 have hfit:Fits β 0 E:=by intro t q hq; rw [hβ]; simp [hq]
 have hcame:CameB W0 w F0 F β:=by
  have src:∀ k b o n,β k=some (b,o,n)→∃ q i o' n',E[k]?=some q∧q.1=some i∧S.m i≠none∧μ i=some (b,o',n'):=by
   intro k b o n hk
   rw [hβ] at hk
   simp only [Option.bind_eq_some_iff] at hk
   obtain ⟨q,hq,hk⟩:=hk
   obtain ⟨s1,s2⟩:=e3 q (List.mem_of_getElem? hq)
   obtain ⟨i,o',n',hi,hm⟩:=s2 b o n hk
   exact ⟨q,i,o',n',hq,hi,s1 i hi,hm⟩
  refine ⟨hI.below,hI.sub,hI.foreign,?_,?_⟩
  ·intro k b o n hk
   obtain ⟨q,i,o',n',hq,hi,hm,hμ⟩:=src k b o n hk
   cases hmi:S.m i with
   | none=>exact absurd hmi hm
   | some y=>exact hI.own i y b o' n' hmi hμ
  ·intro k k' b o n o2 n2 hk hk'
   obtain ⟨q,i,o',n',hq,hi,hm,hμ⟩:=src k b o n hk
   obtain ⟨q',i',o'',n'',hq',hi',hm',hμ'⟩:=src k' b o2 n2 hk'
   cases hmi:S.m i with
   | none=>exact absurd hmi hm
   | some y=>
    cases hmi' : S.m i' with
    | none=>exact absurd hmi' hm'
    | some y'=>
     have:=hI.inj i i' y y' b o' n' o'' n'' hmi hmi' hμ hμ'
     subst this
     exact nodup_filterMap hnd k k' i q q' hq hq' hi hi'
 have hrun' : (results fn a.tmps).run P w=.ok (if h:vs.toArray.size=1 then vs.toArray[0] else .tuple vs.toArray) w:=by
  have:(fn.results.mapM (resVal a.tmps)).run P w=.ok vs.toArray w:=by
   rw [Array.mapM_eq_mapM_toList]
   simp [hrun]
  have e:results fn a.tmps=(fn.results.mapM (resVal a.tmps) >>= fun vs=>pure (if h:vs.size=1 then vs[0] else .tuple vs)):=by
   unfold results
   refine congrArg (fun m=>m >>= _) ?_
   congr 1
  rw [e,Sem.run_bind,this]
  rfl
 have res:=r1 β 0 hfit
 refine ⟨_,(match ys with | [y]=>y | ys=>.tup ys),hrun',?_,F,β,hcame,?_⟩
 ·rcases ys with _ | ⟨y,_ | ⟨z,zs⟩⟩ <;> exact hK2
 ·split
  ·rename_i y
   have hv1:vs.length=1:=by rw [hl,← l1]; rfl
   obtain ⟨v,rfl⟩:=List.length_eq_one_iff.1 hv1
   have:=res.1
   have hn:=n1 y (by simp)
   cases y <;> first | exact this | exact absurd rfl (hn _)
  ·rename_i hne
   have hv1:¬ vs.toArray.size=1:=by
    intro h1
    have:ys.length=1:=by rw [l1,← hl]; simpa using h1
    obtain ⟨y,hy⟩:=List.length_eq_one_iff.1 this
    exact hne y hy
   rw [dif_neg hv1]
   exact ⟨vs.toArray,rfl,by simp [hl,l1],by simpa using res⟩
theorem start_ok {R0:World} (hB:Below R0.heap.size R0 w) {fn:Func} {args:List AV} {vals:Array Value} (hglob:Globs G R0) (hkb:G.kb=0) (hF:∀ b,F b→b < w.heap.size) (hgl:∀ b,b < R0.heap.size→F b) (hl:vals.size=args.length) (hr:∀ j c,args[j]?=some c→Rel w F c (vals.getD j Go.undef)) :
  At G (Base.of R0 w hB) F (start fn args) { tmps:=vals++Array.replicate (fn.ntmps - vals.size) Go.undef,defers:=[] } w:=by
 refine ⟨rfl,by simp [start,hl],fun _=>none,F,?_⟩
 refine { below:=Keeps.refl _,foreign:=fun b hb=>⟨hF b hb,.inl hb⟩,sub:=fun _ h=>h,gl:=hgl,used:=by simp [start],blk:=by simp [start],own:=by simp [start],inj:=by simp [start],pairs:=?_ }
 rintro x v (⟨t,rfl,rfl⟩ | ⟨g,cs,hg,rfl,rfl⟩ | ⟨i,hi,_⟩)
 ·by_cases ht:t < args.length
  ·have e1:(start fn args).tm.getD t .undef=args[t]:=by simp [start,List.getD_eq_getElem?_getD,List.getElem?_append_left ht,ht]
   have e2:(vals++Array.replicate (fn.ntmps - vals.size) Go.undef).getD t Go.undef=vals.getD t Go.undef:=by
    rw [Array.getD_eq_getD_getElem?,Array.getElem?_append_left (by omega),Array.getD_eq_getD_getElem?]
   rw [e1,e2]
   exact relS_of_A (relA_of_C (relC_of_rel (hr t _ (List.getElem?_eq_getElem ht))))
  ·have e1:(start fn args).tm.getD t .undef=.undef:=by
    simp only [start,List.getD_eq_getElem?_getD]
    rw [List.getElem?_append_right (by omega),List.getElem?_replicate]
    split <;> rfl
   rw [e1]
   exact relS_of_A (relA_of_C (relC_of_B undefB))
 ·exact relS_of_A (relA_of_C (relC_of_rel ((hglob g cs hg).mono hgl fun b hb=>hB.block b hb)))
 ·rw [hkb] at hi; exact absurd hi (Nat.not_lt_zero _)
def HandsIn (P:Program) [Rooted P] (f:FuncId) (aas:List AV) (x:AV):Prop:=
 ∀ (R0 w:World) (F:Nat→Prop) (vals:Array Value),Rooted.Q P R0→Below R0.heap.size R0 w→(∀ b,F b→b < w.heap.size)→(∀ b,b < R0.heap.size→F b)→vals.size=aas.length→(∀ j c,aas[j]?=some c→Rel w F c (vals.getD j undef))→
  (callFunc f vals).run P w=.ok (.enter f vals) w∧Calls P f vals w fun e w'=>match e with
   | .returned v=>∃ F' β,Came w w' F F' β∧Res w' F' β x v
   | _=>False
theorem HandsIn.hands [Rooted P] {f:FuncId} {aas:List AV} {x:AV} (h:HandsIn P f aas x) (hl:lastTup aas=false):Hands P f aas x:=
 fun R0 hQ=>⟨fun _ w F vals hB h1 h2 h3 h4=>.inl (h R0 w F vals hQ hB h1 h2 h3 h4),fun args bs _ _ e _=>(by rw [e,lastTup_snoc] at hl; cases hl),fun args _ _ _ _ _ _ _ e _=>(by rw [e,lastTup_snoc] at hl; cases hl)⟩
theorem fun_ok [Rooted P] (hG:CfgOk P G) (hglob:∀ R0,Rooted.Q P R0→Globs G R0) (hkb:G.kb=0) {C:FuncId→List AV→(AV→Option R)→Option R} (hC:∀ g aas (K:AV→Option R) r,C g aas K=some r→∃ x,K x=some r∧Hands P g aas x)
  {cut : Nat → Option Keep} {f : FuncId} {fn : Func} {args : List AV} {x : AV} {n : Nat} (hf : P.funcs[f]? = some fn) (hname : (fn.name == "runtime.NumGoroutine") = false) (hbody : fn.body.isNone = false)
  (hdraw:∀ (W0:Base) (F0:Nat→Prop),Rooted.Q P W0.root→∀ rid ops draw (S:St) (K:St→Option R) a w r,At G W0 F0 S a w→regionK G C ops draw S K=some r→(Code.region rid ops draw).wp P (fun e a' w'=>e=.normal∧∃ S',K S'=some r∧At G W0 F0 S' a' w') a w)
  {K:AV→Option R} {r:R} (hx:∀ y,K y=some r→y=x) (hK:funK G C cut fn n args K=some r):HandsIn P f args x:=by
 intro R0 w F vals hQ hB hF hgl hl hr
 have n1 : ¬ fn.name = "runtime.NumGoroutine" := by simpa using hname
 have n2:¬ fn.body=none:=by intro e; simp [e] at hbody
 refine ⟨by simp [callFunc,hf,n1,n2],?_⟩
 unfold funK at hK
 split at hK
 ·rename_i c hc
  intro cs
  obtain ⟨b,hb⟩ : ∃ b:Frame,b={ (default:Frame) with fn:=f,kind:=.normal }:=⟨_,rfl⟩
  have henter:Frame.enter P f vals .normal=b.at { tmps:=vals++Array.replicate (fn.ntmps - vals.size) Go.undef,defers:=[] } [.code c]:=by
   simp [Frame.enter,Frame.at,hf,hc,hb]
  have hst:=start_ok (G:=G) hB (fn:=fn) (hglob R0 hQ) hkb hF hgl hl hr
  have hfin:∀ (S:St) (a:Act) (w' : World) (r:R),finK G fn.resultTypes.toList fn.results.toList S K=some r→At G (Base.of R0 w hB) F S a w'→∃ v,(results fn a.tmps).run P w'=.ok v w'∧(∃ y,K y=some r∧∃ F' β,Came w w' F F' β∧Res w' F' β y v):=by
   intro S a w' r hK hA
   obtain ⟨v,x,h1,h2,h3⟩:=finK_ok hG hA hK
   obtain ⟨F',β,h4,h5⟩:=h3
   exact ⟨v,h1,x,h2,F',β,h4.plain,h5⟩
  have:=go_ok (P:=P) (G:=G) (C:=C) (b:=b) (cs:=cs) (fn:=fn) (T:=fun r v w'=>∃ y,K y=some r∧∃ F' β,Came w w' F F' β∧Res w' F' β y v) (cut:=cut) (W0:=Base.of R0 w hB) (F0:=F) (by rw [hb]) (by rw [hb]; exact hf) hfin (hdraw _ F hQ)
   (fun todo S a ww r keep hK ht h=>run_ok (P:=P) (G:=G) (C:=C) (b:=b) (cs:=cs) (fn:=fn) (T:=fun r v w'=>∃ y,K y=some r∧∃ F' β,Came w w' F F' β∧Res w' F' β y v) (cut:=cut) (by rw [hb]) (by rw [hb]; exact hf) hfin (hdraw _ F hQ) clean_ok n todo _ a ww r hK (clean_ok keep S a ww ht h))
   1000 _ _ _ _ _ hK hst
  obtain ⟨v,w',fr,⟨y,hy,hT⟩,hs,hfn,hlv⟩:=this
  rw [hx y hy] at hT
  rw [← henter] at hs
  exact ⟨.returned v,w',fr,hT,hs,by rw [hfn,hb],hlv⟩
 ·cases hK
end
end Go.Proofs.Ev
namespace Go.Proofs.Ev
open Go Go.RowKit
set_option linter.unusedVariables false
section
variable {R R' : Type} {G:Cfg} {S:List AV} {m:Mem} {id:Nat}
theorem bif_bind {c:Bool} {A:Option R'} {k:R'→Option R}:(bif c then A else none).bind k=bif c then A.bind k else none:=by cases c <;> rfl
theorem bif_bind2 {c:Bool} {A B:Option R'} {k:R'→Option R}:(bif c then A else B).bind k=bif c then A.bind k else B.bind k:=by cases c <;> rfl
theorem withSome_bind {α:Type} {x:Option α} {F:α→Option R'} {k:R'→Option R}:(withSome x F).bind k=withSome x fun y=>(F y).bind k:=by cases x <;> rfl
theorem withV_bind {x:AV} {F:Value→Option R'} {k:R'→Option R}:(withV x F).bind k=withV x fun y=>(F y).bind k:=by cases x <;> rfl
theorem withInt_bind {q:IntKind} {x:AV} {F:Int→Option R'} {k:R'→Option R}:(withInt q x F).bind k=withInt q x fun y=>(F y).bind k:=by
 cases x with
 | v y=>cases y with
  | int k' n=>simp only [withInt]; cases decide (k'=q) <;> rfl
  | _=>rfl
 | _=>rfl
theorem withIntK_bind {x:AV} {F:IntKind→Int→Option R'} {k:R'→Option R}:(withIntK x F).bind k=withIntK x fun q y=>(F q y).bind k:=by
 cases x with
 | v y=>cases y <;> rfl
 | _=>rfl
theorem withBool_bind {x:AV} {F:Bool→Option R'} {k:R'→Option R}:(withBool x F).bind k=withBool x fun y=>(F y).bind k:=by
 cases x with
 | v y=>cases y <;> rfl
 | _=>rfl
theorem withStr_bind {x:AV} {F:ByteArray→Option R'} {k:R'→Option R}:(withStr x F).bind k=withStr x fun y=>(F y).bind k:=by
 cases x with
 | v y=>cases y <;> rfl
 | _=>rfl
theorem withIdx_bind {n:Nat} {i:Int} {F:Nat→Option R'} {k:R'→Option R}:(withIdx n i F).bind k=withIdx n i fun y=>(F y).bind k:=bif_bind
theorem withCons_bind {cs:List AV} {F:AV→List AV→Option R'} {k:R'→Option R}:(withCons cs F).bind k=withCons cs fun c r=>(F c r).bind k:=by cases cs <;> rfl
theorem withSl_bind {fl:Fl} {sz:Nat} {x:AV} {F:List AV→Option R'} {k:R'→Option R}:(withSl fl sz x F).bind k=withSl fl sz x fun y=>(F y).bind k:=by
 unfold withSl
 split
 ·rfl
 ·exact bif_bind
 ·rfl
theorem decS_bind {q:SK} {x:AV} {F:AV→Option R'} {k:R'→Option R}:(decS q x F).bind k=decS q x fun y=>(F y).bind k:=by
 cases q <;> simp only [decS,withInt_bind,withBool_bind,withStr_bind,withSl_bind]
theorem decL_bind {k:R'→Option R}:∀ (qs:List SK) (cs:List AV) (F:List AV→Option R'),(decL qs cs F).bind k=decL qs cs fun y=>(F y).bind k
 | [],_,_=>rfl
 | q::qs,cs,F=>by
  simp only [decL,withCons_bind,decS_bind]
  congr 1; funext c r; congr 1; funext c'
  exact decL_bind qs r _
theorem asm_bind {t:TI} {cs:List AV} {F:AV→Option R'} {k:R'→Option R}:(asm t cs F).bind k=asm t cs fun y=>(F y).bind k:=by
 unfold asm
 rw [bif_bind2]
 congr 1
 split <;> rfl
theorem slLen_bind {x:AV} {F:Nat→Option R'} {k:R'→Option R}:(slLen m x F).bind k=slLen m x fun y=>(F y).bind k:=by
 unfold slLen
 split <;> first | rfl | (split <;> rfl)
theorem pickI_bind {i:Int} {F:Nat→Option R'} {k:R'→Option R}:∀ {n:Nat},(pickI i n F).bind k=pickI i n fun y=>(F y).bind k
 | 0=>rfl
 | n+1=>by
  simp only [pickI]
  rw [bif_bind2,pickI_bind]
theorem pickA_bind {n:Nat} {i:Int} {F:Nat→Option R'} {k:R'→Option R}:(pickA n i F).bind k=pickA n i fun y=>(F y).bind k:=by
 unfold pickA
 rw [bif_bind2,pickI_bind,withIdx_bind]
theorem asSl_bind {x:AV} {F:Fl→Nat→List AV→Option R'} {k:R'→Option R}:(asSl m x F).bind k=asSl m x fun a b c=>(F a b c).bind k:=by
 unfold asSl
 split <;> first | rfl | (split <;> rfl)
theorem loK_bind {x:Option AV} {h:Int} {F:Int→Option R'} {k:R'→Option R}:(loK x h F).bind k=loK x h fun y=>(F y).bind k:=by
 cases x with
 | none=>rfl
 | some x=>simp only [loK,withIntK_bind,bif_bind]
theorem hiK_bind {x:Option AV} {h:Int} {F:Int→Option R'} {N:Option R'} {k:R'→Option R}:(hiK x h F N).bind k=hiK x h (fun y=>(F y).bind k) (N.bind k):=by
 cases x with
 | none=>rfl
 | some x=>simp only [hiK,withIntK_bind,bif_bind]
theorem eqSel_bind {op:BinOp} {b:Bool} {F:Bool→Option R'} {k:R'→Option R}:(eqSel op b F).bind k=eqSel op b fun y=>(F y).bind k:=by cases op <;> rfl
theorem eqL_bind {k:R'→Option R}:∀ (qs:List SK) (xs ys:List AV) (F:Bool→Option R'),(eqL qs xs ys F).bind k=eqL qs xs ys fun y=>(F y).bind k:=by
 intro qs xs ys F
 rw [eqL_eq,eqL_eq,Option.bind_assoc]
theorem unK_bind {op:UnOp} {x:AV} {F:AV→Option R'} {k:R'→Option R}:(unK op x F).bind k=unK op x fun y=>(F y).bind k:=by
 unfold unK
 split <;> rfl
theorem binV_bind {op:BinOp} {x y:Value} {F:Value→Option R'} {k:R'→Option R}:(binV op x y F).bind k=binV op x y fun z=>(F z).bind k:=by
 unfold binV
 split
 ·split
  ·exact bif_bind
  ·exact bif_bind
  ·rw [bif_bind]
   congr 1
   split <;> first | rfl | exact bif_bind2
 ·split <;> first | rfl | exact bif_bind
 ·rfl
theorem binK_bind {op:BinOp} {t:TypeId} {c:Bool} {x y:AV} {F:AV→Option R'} {k:R'→Option R}:(binK G op t c x y F).bind k=binK G op t c x y fun z=>(F z).bind k:=by
 unfold binK
 split <;> first | rfl | (rw [bif_bind,eqSel_bind]) | exact binV_bind | skip
 split
 ·rw [bif_bind,eqL_bind]
  congr 1
  congr 1
  funext c
  exact eqSel_bind
 ·rfl
theorem opK_nat (o:Op) (K:AV→Mem→Option R):opK G o S m id K=(opK G o S m id fun x m=>some (x,m)).bind fun q=>K q.1 q.2:=by
 cases o <;> simp only [opK]
 all_goals repeat' first
  | with_reducible rfl
  | (simp only [withSome_bind,withV_bind,withInt_bind,withIntK_bind,withBool_bind,withStr_bind,withIdx_bind,pickI_bind,pickA_bind,decL_bind,asm_bind,slLen_bind,asSl_bind,loK_bind,hiK_bind,unK_bind,binK_bind,bif_bind2,Option.bind_some,Option.bind_none])
  | (refine congrArg (withSome _) (funext fun _=>?_))
  | (refine congrArg (withBool _) (funext fun _=>?_))
  | (refine congrArg (withStr _) (funext fun _=>?_))
  | (refine congrArg (withV _) (funext fun _=>?_))
  | (refine congrArg (withInt _ _) (funext fun _=>?_))
  | (refine congrArg (withIntK _) (funext fun _=>funext fun _=>?_))
  | (refine congrArg (asSl _ _) (funext fun _=>funext fun _=>funext fun _=>?_))
  | (refine congrArg (fun z=>bif _ then z else none) ?_)
  | split
end
end Go.Proofs.Ev
namespace Go.Proofs.Ev
open Go Go.RowKit
set_option linter.unusedVariables false
section
variable {R R' : Type} {G:Cfg} {S S' : List AV} {m m' : Mem} {id:Nat}
theorem parts_congr {parts:Array (Nat × Operand)} (h:∀ x∈parts.map (·.2),ev G S x=ev G S' x):(parts.toList.map fun (i,x)=>(i,ev G S x))=parts.toList.map fun (i,x)=>(i,ev G S' x):=by
 refine List.map_congr_left fun p hp=>?_
 obtain ⟨i,x⟩:=p
 have e:=h x (Array.mem_map.2 ⟨(i,x),by simpa using hp,rfl⟩)
 simp only [e]
theorem parts_congr' {parts:Array (Nat × Operand)} (h:∀ x∈parts.map (·.2),ev G S x=ev G S' x):(parts.toList.map fun (_,x)=>ev G S x)=parts.toList.map fun (_,x)=>ev G S' x:=by
 refine List.map_congr_left fun p hp=>?_
 obtain ⟨i,x⟩:=p
 exact h x (Array.mem_map.2 ⟨(i,x),by simpa using hp,rfl⟩)
theorem args_congr {xs:Array Operand} (h:∀ x∈xs,ev G S x=ev G S' x):xs.toList.map (ev G S)=xs.toList.map (ev G S'):=
 List.map_congr_left fun x hx=>h x (by simpa using hx)
theorem opK_congr (o:Op) (K:AV→Mem→Option R) (h:∀ x∈o.operands,ev G S x=ev G S' x):opK G o S m id K=opK G o S' m id K:=by
 cases o <;> simp only [Op.operands] at h
 case build t ps=>simp only [opK,parts_congr (S:=S) (S':=S') fun x hx=>h x (by simpa using hx)]
 case buildSlice t n ps=>simp only [opK,parts_congr (S:=S) (S':=S') fun x hx=>h x (by simpa using hx),parts_congr' (S:=S) (S':=S') fun x hx=>h x (by simpa using hx)]
 case makeFunc fn first captured=>
  have e:captured.toList.map (ev G S)=captured.toList.map (ev G S'):=args_congr fun x hx=>h x (by simp [hx])
  have e2:first.toList.map (ev G S)=first.toList.map (ev G S'):=args_congr fun x hx=>h x (by simp [hx])
  simp only [opK,e,e2]
 case slice t x lo hi mx=>cases lo <;> cases hi <;> cases mx <;> simp_all [opK]
 case call c=>
  have ha:∀ x∈c.args.toList,ev G S x=ev G S' x:=fun x hx=>h x (by simp [Call.operands]; exact .inr (by simpa using hx))
  simp only [opK]
  split
  ·split
   ·rename_i h1 h2; rw [ha _ (by rw [h2]; simp)]
   ·rfl
  ·split
   ·rename_i h1 h2; rw [ha _ (by rw [h2]; simp),ha _ (by rw [h2]; simp)]
   ·rfl
  ·split
   ·rename_i h1 h2; rw [ha _ (by rw [h2]; simp)]
   ·rfl
  ·split
   ·rename_i h1 h2; rw [ha _ (by rw [h2]; simp),ha _ (by rw [h2]; simp)]
   ·rfl
  ·split
   ·rename_i h2; rw [ha _ (by rw [h2]; simp),ha _ (by rw [h2]; simp)]
   ·rfl
  ·split
   ·rename_i h2; rw [ha _ (by rw [h2]; simp),ha _ (by rw [h2]; simp)]
   ·rfl
  ·rfl
 all_goals first | rfl | (simp_all [opK]; done)
end
end Go.Proofs.Ev
namespace Go.Proofs.Ev
open Go Go.RowKit
set_option linter.unusedVariables false
section
variable {R R' : Type} {G:Cfg} {S S' : List AV} {m m' m2:Mem} {id:Nat}
theorem opK_pure (o:Op) (K:AV→Mem→Option R) (h:pureOp o=true):opK G o S m id K=(opK G o S m2 id fun x _=>some x).bind fun x=>K x m:=by
 cases o <;> simp only [pureOp] at h
 case call c=>
  split at h
  ·rename_i hc
   simp only [opK,hc]
   split <;> simp only [withIntK_bind,withInt_bind,Option.bind_some,Option.bind_none]
  ·rename_i hc
   simp only [opK,hc]
   split <;> simp only [withIntK_bind,withInt_bind,Option.bind_some,Option.bind_none]
  ·cases h
 all_goals first | (cases h; done) | skip
 all_goals simp only [opK]
 all_goals repeat' first
  | with_reducible rfl
  | (simp only [withSome_bind,withV_bind,withIntK_bind,withBool_bind,withStr_bind,withIdx_bind,asm_bind,unK_bind,binK_bind,bif_bind2,Option.bind_some,Option.bind_none])
  | (refine congrArg (withSome _) (funext fun _=>?_))
  | (refine congrArg (withBool _) (funext fun _=>?_))
  | (refine congrArg (withStr _) (funext fun _=>?_))
  | (refine congrArg (withV _) (funext fun _=>?_))
  | (refine congrArg (withInt _ _) (funext fun _=>?_))
  | (refine congrArg (withIntK _) (funext fun _=>funext fun _=>?_))
  | (refine congrArg (fun z=>bif _ then z else none) ?_)
  | split
theorem slLen_congr {x:AV} {F:Nat→Option R} (h:∀ j∈topIds x,m2 j=m j):slLen m x F=slLen m2 x F:=by
 cases x
 case own id off l=>simp only [slLen,h id (by simp [topIds])]
 case bs id=>simp only [slLen,h id (by simp [topIds])]
 case v x=>
  by_cases hx:x=.slice none 0 0
  ·subst hx; rfl
  ·have:∀ m,slLen m (.v x) F=none:=by
    intro m
    unfold slLen
    split <;> simp_all
   rw [this,this]
 all_goals rfl
theorem opK_read (o:Op) (K:AV→Mem→Option R) (h:readOp o=true) (hm:∀ x∈o.operands,∀ j∈topIds (ev G S x),m2 j=m j) :
  opK G o S m id K=(opK G o S m2 id fun x _=>some x).bind fun x=>K x m:=by
 cases o <;> simp only [readOp] at h
 case call c=>
  split at h
  ·rename_i hc
   simp only [opK,hc]
   split
   ·rename_i t x h1 h2
    have hx:=hm x (by
     have:x∈c.args.toList:=by rw [h2]; simp
     simp only [Op.operands,Call.operands]
     exact Array.mem_append.2 (.inr (by simpa using this)))
    simp only [withSome_bind]
    refine congrArg (withSome _) (funext fun ti=>?_)
    split
    ·simp only [withStr_bind,Option.bind_some]
    ·rw [slLen_congr hx]; simp only [slLen_bind,Option.bind_some]
    ·rfl
   ·rfl
  ·cases h
 all_goals first | (cases h; done) | skip
 all_goals simp only [Op.operands] at hm
 case load t a=>
  have ha:=hm a (by simp)
  simp only [opK]
  generalize ev G S a=X at ha
  cases X <;> (try simp only [topIds,List.mem_singleton,forall_eq] at ha) <;> simp only [withSome_bind] <;> refine congrArg (withSome _) (funext fun ti=>?_) <;> (try simp only [ha]) <;> repeat' first
   | with_reducible rfl
   | (simp only [decL_bind,asm_bind,bif_bind2,Option.bind_some,Option.bind_none])
   | (refine congrArg (withSome _) (funext fun _=>?_))
   | split
 case nilCheck a=>
  have ha:=hm a (by simp)
  simp only [opK]
  generalize ev G S a=X at ha
  cases X <;> (try simp only [topIds,List.mem_singleton,forall_eq] at ha) <;> (try simp only [ha]) <;> repeat' first
   | with_reducible rfl
   | (simp only [withSome_bind,Option.bind_some,Option.bind_none])
   | (refine congrArg (withSome _) (funext fun _=>?_))
   | split
 case fieldAddr t a f=>
  have ha:=hm a (by simp)
  simp only [opK]
  generalize ev G S a=X at ha
  cases X <;> (try simp only [topIds,List.mem_singleton,forall_eq] at ha) <;> simp only [withSome_bind] <;> refine congrArg (withSome _) (funext fun ti=>?_) <;> (try simp only [ha]) <;> repeat' first
   | with_reducible rfl
   | (simp only [withSome_bind,bif_bind2,Option.bind_some,Option.bind_none])
   | (refine congrArg (withSome _) (funext fun _=>?_))
   | (refine congrArg (fun z=>bif _ then z else none) ?_)
   | split
 case indexAddr t a i=>
  have ha:=hm a (by simp)
  simp only [opK]
  generalize ev G S a=X at ha
  cases X <;> (try simp only [topIds,List.mem_singleton,forall_eq] at ha) <;> simp only [withSome_bind] <;> refine congrArg (withSome _) (funext fun ti=>?_) <;> (try simp only [ha]) <;> repeat' first
   | with_reducible rfl
   | (simp only [withSome_bind,withIntK_bind,withIdx_bind,pickI_bind,pickA_bind,bif_bind2,Option.bind_some,Option.bind_none])
   | (refine congrArg (withSome _) (funext fun _=>?_))
   | (refine congrArg (withIntK _) (funext fun _=>funext fun _=>?_))
   | (refine congrArg (fun z=>bif _ then z else none) ?_)
   | split
 case slice t a lo hi mx=>
  have ha:=hm a (by simp)
  have key:∀ X,(∀ j∈topIds X,m2 j=m j)→(∀ x:Value,X=.v x→x=.slice none 0 0∨∀ a n c,x≠.slice a n c)→ev G S a=X→opK G (.slice t a lo hi mx) S m id K=(opK G (.slice t a lo hi mx) S m2 id fun x _=>some x).bind fun x=>K x m:=by
   intro X ha hv hX
   simp only [opK,hX]
   rcases X with x | _ | ⟨j,off,n⟩ | _ | _ | _ | cs | _ | _ | _ | _ | _ | _
   case v=>
    rcases hv x rfl with rfl | hne
    ·simp only [bif_bind2,withSome_bind,Option.bind_none]
     refine congrArg (fun z=>bif _ then z else none) ?_
     refine congrArg (withSome _) (funext fun ti=>?_)
     repeat' first
      | with_reducible rfl
      | (simp only [withSome_bind,withStr_bind,loK_bind,hiK_bind,Option.bind_some,Option.bind_none])
      | (refine congrArg (withSome _) (funext fun _=>?_))
      | split
    ·simp only [bif_bind2,withSome_bind,Option.bind_none]
     refine congrArg (fun z=>bif _ then z else none) ?_
     refine congrArg (withSome _) (funext fun ti=>?_)
     cases x
     case slice a n c=>exact absurd rfl (hne a n c)
     all_goals repeat' first
      | with_reducible rfl
      | (simp only [withSome_bind,withStr_bind,loK_bind,hiK_bind,Option.bind_some,Option.bind_none])
      | (refine congrArg (withSome _) (funext fun _=>?_))
      | split
   case own=>
    have ha:=ha j (by simp [topIds])
    simp only [bif_bind2,withSome_bind,Option.bind_none]
    refine congrArg (fun z=>bif _ then z else none) ?_
    refine congrArg (withSome _) (funext fun ti=>?_)
    repeat' first
     | with_reducible rfl
     | (rw [ha])
     | (simp only [withSome_bind,withStr_bind,loK_bind,hiK_bind,bif_bind2,Option.bind_some,Option.bind_none])
     | (refine congrArg (withSome _) (funext fun _=>?_))
     | (refine congrArg (fun z=>bif _ then z else none) ?_)
     | split
   all_goals simp only [bif_bind2,withSome_bind,Option.bind_none]
   all_goals refine congrArg (fun z=>bif _ then z else none) ?_
   all_goals refine congrArg (withSome _) (funext fun ti=>?_)
   all_goals repeat' first
    | with_reducible rfl
    | (simp only [withSome_bind,withStr_bind,loK_bind,hiK_bind,bif_bind2,Option.bind_some,Option.bind_none])
    | (refine congrArg (withSome _) (funext fun _=>?_))
    | (refine congrArg (fun z=>bif _ then z else none) ?_)
    | split
  by_cases hbad:∃ p n c,ev G S a=.v (.slice p n c)∧¬ (p=none∧n=0∧c=0)
  ·obtain ⟨p,n,c,hX,hne⟩:=hbad
   have none1:∀ (m:Mem) {R:Type} (K:AV→Mem→Option R),opK G (.slice t a lo hi mx) S m id K=none:=by
    intro m R K
    simp only [opK,hX]
    cases mx.isNone
    ·rfl
    ·cases G.tab t with
     | none=>rfl
     | some ti=>
      simp only [cond_true,withSome]
      split
      ·rfl
      ·rename_i e _
       cases G.tab e with
       | none=>rfl
       | some ei=>
        cases p <;> cases n <;> cases c <;> first | rfl | exact absurd ⟨rfl,rfl,rfl⟩ hne
      ·rename_i n' e _
       cases G.tab e with
       | none=>rfl
       | some ei=>rfl
      ·rfl
   rw [none1,none1]
   rfl
  ·refine key _ ha (fun x hx=>?_) rfl
   by_cases hs:∃ p n c,x=.slice p n c
   ·obtain ⟨p,n,c,rfl⟩:=hs
    by_cases h0:p=none∧n=0∧c=0
    ·obtain ⟨rfl,rfl,rfl⟩:=h0; exact .inl rfl
    ·exact absurd ⟨p,n,c,hx,h0⟩ hbad
   ·exact .inr (fun p n c e=>hs ⟨p,n,c,e⟩)
end
end Go.Proofs.Ev
namespace Go.Proofs.Ev
open Go Go.RowKit
set_option linter.unusedVariables false
section
variable {R R' : Type} {G:Cfg} {S S' : List AV} {m m' m2:Mem} {id:Nat}
theorem Mem.upd_eta (m:Mem) (id:Nat):m.upd id (m id)=m:=by
 funext j
 by_cases e:j=id
 ·subst e; rw [Mem.upd_same]
 ·rw [Mem.upd_other _ _ e]
theorem asSl_congr {x:AV} {F:Fl→Nat→List AV→Option R} (h:∀ j∈topIds x,m2 j=m j):asSl m x F=asSl m2 x F:=by
 cases x
 case own id off l=>simp only [asSl,h id (by simp [topIds])]
 case v x=>
  by_cases hx:x=.slice none 0 0
  ·subst hx; rfl
  ·have:∀ m,asSl m (.v x) F=none:=by
    intro m
    unfold asSl
    split <;> simp_all
   rw [this,this]
 all_goals rfl
def Local (G:Cfg) (o:Op) (S:List AV) (m m2:Mem) (id:Nat):Prop:=
 ∀ {R:Type} (K:AV→Mem→Option R),opK G o S m id K=(opK G o S m2 id fun x m'=>some (x,m' id)).bind fun q=>K q.1 (m.upd id q.2)
theorem local_read {o:Op} (h:readOp o=true) (hm:∀ x∈o.operands,∀ j∈topIds (ev G S x),m2 j=m j) (hid:m2 id=m id):Local G o S m m2 id:=by
 intro R K
 rw [opK_read (m2:=m2) o K h hm,opK_read (m:=m2) (m2:=m2) o (fun x m'=>some (x,m' id)) h (fun _ _ _ _=>rfl),Option.bind_assoc]
 congr 1
 funext x
 simp only [Option.bind_some,hid,Mem.upd_eta]
theorem local_make {o:Op} (h:makeOp o=true) (hm:∀ x∈o.operands,∀ j∈topIds (ev G S x),m2 j=m j) (hid:m2 id=m id):Local G o S m m2 id:=by
 intro R K
 cases o <;> simp only [makeOp] at h
 all_goals first | (cases h; done) | skip
 case convert s d x=>
  have hx:=hm x (by simp [Op.operands])
  simp only [opK,withSome_bind]
  refine congrArg (withSome _) (funext fun si=>?_)
  refine congrArg (withSome _) (funext fun di=>?_)
  split
  ·simp only [withIntK_bind,Option.bind_some,hid,Mem.upd_eta]
  ·simp only [withStr_bind,Option.bind_some,hid,Mem.upd_eta]
  ·simp only [withSome_bind]
   refine congrArg (withSome _) (funext fun ei=>?_)
   split
   ·simp only [withStr_bind,Option.bind_some,Mem.upd_same]
   ·rfl
  ·simp only [bif_bind2,withSome_bind,Option.bind_none]
   refine congrArg (fun z=>bif _ then z else none) ?_
   refine congrArg (withSome _) (funext fun ei=>?_)
   split
   ·generalize hX:ev G S x=X at hx
    split
    ·rename_i j
     simp only [withSome_bind,hx j (by simp [topIds])]
     refine congrArg (withSome _) (funext fun bl=>?_)
     split
     ·simp only [Option.bind_some,hid,Mem.upd_eta]
     ·rfl
    ·rfl
   ·rfl
  ·simp only [withSome_bind]
   refine congrArg (withSome _) (funext fun ei=>?_)
   split
   ·rw [asSl_congr hx]; simp only [asSl_bind,withSome_bind,Option.bind_some,hid,Mem.upd_eta]
   ·rfl
  ·rfl
 all_goals simp only [opK]
 all_goals repeat' first
  | with_reducible rfl
  | (simp only [withSome_bind,withInt_bind,bif_bind2,Option.bind_some,Option.bind_none,Mem.upd_same])
  | (refine congrArg (withSome _) (funext fun _=>?_))
  | split
theorem valS_noids {c:AV} (h:idsS c=[]):valS m c=valS m2 c:=by
 cases c <;> first | rfl | (simp [idsS] at h; done)
theorem valL_noids:∀ (cs:List AV),cs.flatMap idsS=[]→valL m cs=valL m2 cs
 | [],_=>rfl
 | c::cs,h=>by
  rw [List.flatMap_cons,List.append_eq_nil_iff] at h
  simp only [valL,valS_noids (m:=m) (m2:=m2) h.1,valL_noids cs h.2]
theorem keepE_noids {ti:TI} {x:AV} (h:idsA x=[]):keepE m ti x=keepE m2 ti x:=by
 have:valE m x=valE m2 x:=by
  cases x
  case agg cs=>simp only [valE,valL_noids (m:=m) (m2:=m2) cs h]
  all_goals (have h':=h; simp only [idsA] at h'; exact valS_noids (m:=m) (m2:=m2) h')
 simp only [keepE,this]
theorem keepL_noids {ti:TI}:∀ (xs:List AV),xs.flatMap idsA=[]→keepL m ti xs=keepL m2 ti xs
 | [],_=>rfl
 | x::xs,h=>by
  rw [List.flatMap_cons,List.append_eq_nil_iff] at h
  simp only [keepL,keepE_noids (m:=m) (m2:=m2) h.1,keepL_noids xs h.2]
theorem local_build {t:TypeId} {len:Nat} {parts:Array (Nat × Operand)} (h:((parts.toList.map fun (_,x)=>ev G S x).flatMap idsA)=[]):Local G (.buildSlice t len parts) S m m2 id:=by
 intro R K
 simp only [opK,h,frz,List.foldl_nil]
 simp only [withSome_bind]
 refine congrArg (withSome _) (funext fun ti=>?_)
 split
 ·simp only [withSome_bind]
  refine congrArg (withSome _) (funext fun ei=>?_)
  cases isOther ei.kd
  case true=>simp only [cond_true,bif_bind2,Option.bind_some,Option.bind_none,Mem.upd_same]
  simp only [cond_false]
  rw [bif_bind2,keepL_noids (m:=m) (m2:=m2) _ h]
  simp only [withSome_bind,Option.bind_some,Option.bind_none,Mem.upd_same]
 ·rfl
end
end Go.Proofs.Ev
namespace Go.Proofs.Ev
open Go Go.RowKit
set_option linter.unusedVariables false
def over (m:Mem) (id:Nat) (f:Mem):Mem:=fun j=>bif Nat.ble id j&&Nat.blt j (id+8) then f j else m j
section
variable {R:Type} {G:Cfg} {S S' : List AV} {m m' m2:Mem} {id:Nat} {C:FuncId→List AV→(AV→Option R)→Option R} {dr:Bool} {o:Oper} {r:R}
def Natural (C:FuncId→List AV→(AV→Option R)→Option R):Prop:=
 ∀ g aas (K:AV→Option R) r,C g aas K=some r→∃ x,K x=some r∧∀ (K' : AV→Option R) r',K' x=some r'→C g aas K'=some r'
def Does (G:Cfg) (C:FuncId→List AV→(AV→Option R)→Option R) (dr:Bool) (o:Oper) (S:List AV) (m:Mem) (id:Nat) (x:AV) (m' : Mem):Prop:=
 ∀ (K:AV→Mem→Option R) r,K x m'=some r→operK G C dr o S m id K=some r
theorem opK_inv {op:Op} {K:AV→Mem→Option R} (h:opK G op S m id K=some r):∃ x m',K x m'=some r∧∀ (K' : AV→Mem→Option R) r',K' x m'=some r'→opK G op S m id K'=some r':=by
 rw [opK_nat] at h
 rw [Option.bind_eq_some_iff] at h
 obtain ⟨⟨x,m'⟩,h1,h2⟩:=h
 refine ⟨x,m',h2,fun K' r' hK'=>?_⟩
 rw [opK_nat,h1]
 exact hK'
theorem callE_inv (hC:Natural C) {f:FuncId} {args:List AV} {K:AV→Mem→Option R} (h:callE C f args m K=some r) :
  ∃ x m',K x m'=some r∧∀ (K' : AV→Mem→Option R) r',K' x m'=some r'→callE C f args m K'=some r':=by
 unfold callE at h
 split at h
 ·rename_i j off l rest
  obtain ⟨b,hm,h⟩:=withSome_some h
  split at h
  ·rename_i fl sz xs
   obtain ⟨hv,h⟩:=bif_some h
   obtain ⟨y,h3,h4⟩:=hC _ _ _ _ h
   split at h3
   ·rename_i z fl' sz' ys
    obtain ⟨hq,h3⟩:=bif_some h3
    obtain ⟨z',hz,h3⟩:=withSome_some h3
    refine ⟨_,_,h3,fun K' r' hK'=>?_⟩
    unfold callE
    simp only [hm,withSome,hv,cond_true]
    refine h4 _ _ ?_
    simp only [hq,cond_true,hz]
    exact hK'
   ·cases h3
  ·cases h
 ·cases h
theorem callK_inv (hC:Natural C) {f:FuncId} {args:List AV} {K:AV→Mem→Option R} (h:callK G C dr f args m id K=some r) :
  ∃ x m',K x m'=some r∧∀ (K' : AV→Mem→Option R) r',K' x m'=some r'→callK G C dr f args m id K'=some r':=by
 unfold callK at h
 cases hp:args.any hasPtr with
 | true=>
  rw [hp] at h
  cases dr with
  | true=>cases h
  | false=>
   simp only [cond_true,cond_false] at h
   unfold callM at h
   obtain ⟨xs0,hx0,h⟩:=withSome_some h
   obtain ⟨xs,hx1,h⟩:=withSome_some h
   cases ha:((ordM m xs).any fun i=>(args.flatMap (idsM m)).contains i) with
   | true=>rw [ha] at h; cases h
   | false=>
    rw [ha] at h
    simp only [cond_false] at h
    obtain ⟨y,h3,h4⟩:=hC _ _ _ _ h
    split at h3
    ·rename_i z os
     obtain ⟨hp2,h3⟩:=bif_some h3
     refine ⟨_,_,h3,fun K' r' hK'=>?_⟩
     unfold callK callM
     rw [hp]
     simp only [cond_true,cond_false,hx0,hx1,withSome,ha]
     refine h4 _ _ ?_
     simp only [hp2,cond_true]
     exact hK'
    ·cases h3
 | false=>
  rw [hp] at h
  simp only [cond_false] at h
  cases hrf:G.refs f with
  | true=>
   rw [hrf] at h
   cases dr with
   | true=>cases h
   | false=>
    simp only [cond_true,cond_false] at h
    obtain ⟨x,m',h1,h2⟩:=callE_inv hC h
    refine ⟨x,m',h1,fun K' r' hK'=>?_⟩
    unfold callK
    rw [hp,hrf]
    simp only [cond_true,cond_false]
    exact h2 K' r' hK'
  | false=>
  rw [hrf] at h
  simp only [cond_false] at h
  obtain ⟨aas,h1,h⟩:=withSome_some h
  obtain ⟨aas',h2,h⟩:=withSome_some h
  obtain ⟨y,h3,h4⟩:=hC _ _ _ _ h
  have fin:∀ (K' : AV→Mem→Option R) r',(bif cleanR y then (match imp id m y with | (x,c,m')=>bif Nat.ble c 8 then K' x m' else none)
    else bif dr&&!(args.flatMap (idsF m)).isEmpty then none
    else (match imp id (frz m (args.flatMap (idsF m))) y with | (x,c,m')=>bif Nat.ble c 8 then K' x m' else none))=some r'→callK G C dr f args m id K'=some r':=by
   intro K' r' h
   unfold callK
   rw [hp,hrf]
   simp only [cond_false,h1,h2,withSome]
   exact h4 _ _ h
  cases hcl:cleanR y with
  | true=>
   rw [hcl] at h3
   simp only [cond_true] at h3
   obtain ⟨hc8,h3⟩:=bif_some h3
   refine ⟨_,_,h3,fun K' r' hK'=>fin K' r' ?_⟩
   rw [hcl]
   simp only [cond_true,hc8]
   exact hK'
  | false=>
   rw [hcl] at h3
   simp only [cond_false] at h3
   cases hq:(dr&&!(args.flatMap (idsF m)).isEmpty) with
   | true=>rw [hq] at h3; cases h3
   | false=>
    rw [hq] at h3
    simp only [cond_false] at h3
    obtain ⟨hc8,h3⟩:=bif_some h3
    refine ⟨_,_,h3,fun K' r' hK'=>fin K' r' ?_⟩
    rw [hcl,hq]
    simp only [cond_false,hc8,cond_true]
    exact hK'
theorem operK_inv (hC:Natural C) {K:AV→Mem→Option R} (h:operK G C dr o S m id K=some r):∃ x m',K x m'=some r∧Does G C dr o S m id x m':=by
 unfold operK at h
 unfold Does operK
 split at h
 ·split at h
  ·split at h
   ·rename_i g caps hf
    cases hb:(dr&&!(caps.all AV.okB)) with
    | true=>rw [hb] at h; cases h
    | false=>
     rw [hb] at h
     cases hg:Nat.blt g bnd with
     | true=>
      rw [hg] at h
      obtain ⟨x,m',h1,h2⟩:=callK_inv hC h
      exact ⟨x,m',h1,fun K' r' hK'=>h2 K' r' hK'⟩
     | false=>
      rw [hg] at h
      obtain ⟨x,m',h1,h2⟩:=callK_inv hC h
      exact ⟨x,m',h1,fun K' r' hK'=>h2 K' r' hK'⟩
   ·cases h
  ·rename_i hn
   obtain ⟨x,m',h1,h2⟩:=opK_inv h
   exact ⟨x,m',h1,fun K' r' hK'=>h2 K' r' hK'⟩
 ·rename_i t p x hop
  cases hb:(dr&&!((isElt (ev G S p)&&(idsA (ev G S x)).isEmpty)||isPt (ev G S p))) with
  | true=>rw [hb] at h; cases h
  | false=>
   rw [hb] at h
   rw [cond_false] at h
   obtain ⟨x,m',h1,h2⟩:=opK_inv h
   exact ⟨x,m',h1,fun K' r' hK'=>by rw [cond_false]; exact h2 K' r' hK'⟩
 ·rename_i t n parts hop
  cases hb:(dr&&!(killB G t||((parts.toList.map fun (_,x)=>ev G S x).flatMap idsA).isEmpty)) with
  | true=>rw [hb] at h; cases h
  | false=>
   rw [hb] at h
   rw [cond_false] at h
   obtain ⟨x,m',h1,h2⟩:=opK_inv h
   exact ⟨x,m',h1,fun K' r' hK'=>by rw [cond_false]; exact h2 K' r' hK'⟩
 ·obtain ⟨x,m',h1,h2⟩:=opK_inv h
  exact ⟨x,m',h1,fun K' r' hK'=>h2 K' r' hK'⟩
theorem operK_congr {K:AV→Mem→Option R} (h:∀ x∈o.op.operands,ev G S x=ev G S' x):operK G C dr o S m id K=operK G C dr o S' m id K:=by
 unfold operK
 cases hop:o.op
 case call c=>
  rw [hop] at h
  simp only
  split
  ·rename_i f hc
   have hf:ev G S f=ev G S' f:=h f (by simp [Op.operands,Call.operands,hc])
   have ha:c.args.toList.map (ev G S)=c.args.toList.map (ev G S'):=args_congr fun x hx=>h x (by simp only [Op.operands,Call.operands]; exact Array.mem_append.2 (.inr hx))
   rw [hf,ha]
  ·exact opK_congr _ K h
 case store t p x=>
  rw [hop] at h
  have e1:ev G S p=ev G S' p:=h p (by simp [Op.operands])
  have e2:ev G S x=ev G S' x:=h x (by simp [Op.operands])
  simp only [e1,e2,opK_congr (.store t p x) K h]
 case buildSlice t n parts=>
  rw [hop] at h
  have e:(parts.toList.map fun (_,x)=>ev G S x)=parts.toList.map fun (_,x)=>ev G S' x:=List.map_congr_left fun p hp=>h p.2 (by
   show p.2∈(parts.toList.map (·.2)).toArray
   exact List.mem_toArray.2 (List.mem_map.2 ⟨p,hp,rfl⟩))
  simp only [e,opK_congr (.buildSlice t n parts) K h]
 all_goals exact opK_congr _ K (by rw [hop] at h; exact h)
end
end Go.Proofs.Ev
namespace Go.Proofs.Ev
open Go Go.RowKit
set_option linter.unusedVariables false
section
variable {id:Nat}
def Ups (lo hi:Nat) (m m' m2 m2' : Mem):Prop:=∀ j,(lo≤j∧j < hi→m2' j=m' j)∧(¬ (lo≤j∧j < hi)→m' j=m j∧m2' j=m2 j)
theorem Ups.trans {a b c:Nat} {m m1 m2 n n1 n2:Mem} (hab:a≤b) (hbc:b≤c) (h1:Ups a b m m1 n n1) (h2:Ups b c m1 m2 n1 n2):Ups a c m m2 n n2:=by
 intro j
 refine ⟨fun hj=>?_,fun hj=>?_⟩
 ·by_cases hb:b≤j
  ·exact (h2 j).1 ⟨hb,hj.2⟩
  ·obtain ⟨e1,e2⟩:=(h2 j).2 (by omega)
   rw [e1,e2]
   exact (h1 j).1 ⟨hj.1,by omega⟩
 ·obtain ⟨e1,e2⟩:=(h2 j).2 (by omega)
  obtain ⟨e3,e4⟩:=(h1 j).2 (by omega)
  exact ⟨e1.trans e3,e2.trans e4⟩
theorem impS_ups (x:AV) (c:Nat) (m n:Mem):∃ c' y m' n',impS id c m x=(y,c',m')∧impS id c n x=(y,c',n')∧c≤c'∧Ups (id+c) (id+c') m m' n n':=by
 cases x with
 | fr fl sz xs=>
  refine ⟨c+1,_,_,_,rfl,rfl,by omega,fun j=>⟨fun hj=>?_,fun hj=>?_⟩⟩
  ·have:j=id+c:=by omega
   subst this
   rw [Mem.upd_same,Mem.upd_same]
  ·have:j≠id+c:=by omega
   exact ⟨Mem.upd_other _ _ this,Mem.upd_other _ _ this⟩
 | _=>exact ⟨c,_,_,_,rfl,rfl,Nat.le_refl _,fun j=>⟨fun hj=>by omega,fun _=>⟨rfl,rfl⟩⟩⟩
theorem impL_ups:∀ (xs:List AV) (c:Nat) (m n:Mem),∃ c' ys m' n',impL id c m xs=(ys,c',m')∧impL id c n xs=(ys,c',n')∧c≤c'∧Ups (id+c) (id+c') m m' n n'
 | [],c,m,n=>⟨c,[],m,n,rfl,rfl,Nat.le_refl _,fun j=>⟨fun hj=>by omega,fun _=>⟨rfl,rfl⟩⟩⟩
 | x::xs,c,m,n=>by
  obtain ⟨c1,y,m1,n1,e1,e2,h1,u1⟩:=impS_ups (id:=id) x c m n
  obtain ⟨c2,ys,m2,n2,e3,e4,h2,u2⟩:=impL_ups xs c1 m1 n1
  exact ⟨c2,y::ys,m2,n2,by simp only [impL,e1,e3],by simp only [impL,e2,e4],by omega,u1.trans (by omega) (by omega) u2⟩
theorem impA_ups (x:AV) (c:Nat) (m n:Mem):∃ c' y m' n',impA id c m x=(y,c',m')∧impA id c n x=(y,c',n')∧c≤c'∧Ups (id+c) (id+c') m m' n n':=by
 have other:∀ x,(∀ m,impA id c m x=impS id c m x)→∃ c' y m' n',impA id c m x=(y,c',m')∧impA id c n x=(y,c',n')∧c≤c'∧Ups (id+c) (id+c') m m' n n':=by
  intro x h
  rw [h,h]
  exact impS_ups x c m n
 cases x with
 | agg cs=>
  obtain ⟨c1,ys,m1,n1,e1,e2,h1,u1⟩:=impL_ups (id:=id) cs c m n
  exact ⟨c1,.agg ys,m1,n1,by simp only [impA,e1],by simp only [impA,e2],h1,u1⟩
 | _=>exact other _ (fun _=>rfl)
theorem impAL_ups:∀ (xs:List AV) (c:Nat) (m n:Mem),∃ c' ys m' n',impAL id c m xs=(ys,c',m')∧impAL id c n xs=(ys,c',n')∧c≤c'∧Ups (id+c) (id+c') m m' n n'
 | [],c,m,n=>⟨c,[],m,n,rfl,rfl,Nat.le_refl _,fun j=>⟨fun hj=>by omega,fun _=>⟨rfl,rfl⟩⟩⟩
 | x::xs,c,m,n=>by
  obtain ⟨c1,y,m1,n1,e1,e2,h1,u1⟩:=impA_ups (id:=id) x c m n
  obtain ⟨c2,ys,m2,n2,e3,e4,h2,u2⟩:=impAL_ups xs c1 m1 n1
  exact ⟨c2,y::ys,m2,n2,by simp only [impAL,e1,e3],by simp only [impAL,e2,e4],by omega,u1.trans (by omega) (by omega) u2⟩
theorem imp_ups (x:AV) (m n:Mem):∃ c y m' n',imp id m x=(y,c,m')∧imp id n x=(y,c,n')∧Ups id (id+c) m m' n n':=by
 have other:∀ x,(∀ m,imp id m x=impA id 0 m x)→∃ c y m' n',imp id m x=(y,c,m')∧imp id n x=(y,c,n')∧Ups id (id+c) m m' n n':=by
  intro x h
  rw [h,h]
  obtain ⟨c1,y,m1,n1,e1,e2,h1,u1⟩:=impA_ups (id:=id) x 0 m n
  exact ⟨c1,y,m1,n1,e1,e2,u1⟩
 cases x with
 | tup xs=>
  obtain ⟨c1,ys,m1,n1,e1,e2,h1,u1⟩:=impAL_ups (id:=id) xs 0 m n
  exact ⟨c1,.tup ys,m1,n1,by simp only [imp,e1],by simp only [imp,e2],u1⟩
 | _=>exact other _ (fun _=>rfl)
theorem imp_over {x y:AV} {c:Nat} {m m' m2:Mem} (h:imp id m x=(y,c,m')) (hc:c≤8) (hm:∀ j,id≤j→j < id+8→m2 j=m j):m'=over m id m'∧imp id m2 x=(y,c,over m2 id m'):=by
 obtain ⟨c1,y1,m1,n1,e1,e2,u⟩:=imp_ups (id:=id) x m m2
 rw [e1] at h
 cases h
 have hb:∀ j,(Nat.ble id j&&Nat.blt j (id+8))=true↔id≤j∧j < id+8:=by
  intro j
  rw [Bool.and_eq_true]
  constructor
  ·intro h; exact ⟨Nat.le_of_ble_eq_true h.1,by simpa using h.2⟩
  ·intro h; exact ⟨Nat.ble_eq_true_of_le h.1,by simpa using h.2⟩
 have h1:m'=over m id m':=by
  funext j
  unfold over
  cases hj:(Nat.ble id j&&Nat.blt j (id+8)) with
  | true=>rfl
  | false=>
   have:¬ (id≤j∧j < id+8):=fun h=>by rw [(hb j).2 h] at hj; cases hj
   exact ((u j).2 (by omega)).1
 have h2:n1=over m2 id m':=by
  funext j
  unfold over
  cases hj:(Nat.ble id j&&Nat.blt j (id+8)) with
  | true=>
   have hr:=(hb j).1 hj
   by_cases hk:id≤j∧j < id+c
   ·exact (u j).1 hk
   ·obtain ⟨e3,e4⟩:=(u j).2 hk
    show n1 j=m' j
    rw [e3,e4]
    exact hm j hr.1 hr.2
  | false=>
   have:¬ (id≤j∧j < id+8):=fun h=>by rw [(hb j).2 h] at hj; cases hj
   exact ((u j).2 (by omega)).2
 exact ⟨h1,by rw [e2,← h2]⟩
end
end Go.Proofs.Ev
namespace Go.Proofs.Ev
open Go Go.RowKit
set_option linter.unusedVariables false
section
variable {R:Type} {G:Cfg} {S S' : List AV} {m m' m2:Mem} {id:Nat} {C:FuncId→List AV→(AV→Option R)→Option R} {dr:Bool} {o:Oper} {r:R}
theorem valS_congr {x:AV} (h:∀ j∈topIds x,m2 j=m j):valS m x=valS m2 x:=by
 cases x
 case own id off l=>
  simp only [valS]
  exact asSl_congr h
 all_goals rfl
theorem valL_congr:∀ (cs:List AV),(∀ j∈cs.flatMap topIds,m2 j=m j)→valL m cs=valL m2 cs
 | [],_=>rfl
 | x::cs,h=>by
  simp only [List.flatMap_cons,List.mem_append] at h
  simp only [valL,valS_congr (fun j hj=>h j (.inl hj)),valL_congr cs (fun j hj=>h j (.inr hj))]
theorem valP_congr {x:AV} (hp:∀ i off,x≠.ptr i off) (h:∀ j∈topIds x,m2 j=m j):valP m x=valP m2 x:=by
 cases x
 case ptr i off=>exact absurd rfl (hp i off)
 case own id off l=>
  simp only [valP]
  exact valS_congr h
 all_goals rfl
theorem valPL_congr:∀ (cs:List AV),(cs.any fun | .ptr _ _=>true | _=>false)=false→(∀ j∈cs.flatMap topIds,m2 j=m j)→valPL m cs=valPL m2 cs
 | [],_,_=>rfl
 | x::cs,hp,h=>by
  simp only [List.flatMap_cons,List.mem_append] at h
  simp only [List.any_cons,Bool.or_eq_false_iff] at hp
  have hx:∀ i off,x≠.ptr i off:=by intro i off e; subst e; simp at hp
  simp only [valPL,valP_congr hx (fun j hj=>h j (.inl hj)),valPL_congr cs hp.2 (fun j hj=>h j (.inr hj))]
theorem valA_congr {x:AV} (hp:hasPtr x=false) (h:∀ j∈deepIds x,m2 j=m j):valA m x=valA m2 x:=by
 cases x
 case agg cs=>simp only [valA,valL_congr cs h]
 case fn f cs=>simp only [valA,valPL_congr cs hp h]
 case ptr i off=>cases hp
 case own id off l=>
  simp only [valA,valP]
  exact valS_congr h
 all_goals rfl
theorem valAL_congr:∀ (xs:List AV),xs.any hasPtr=false→(∀ x∈xs,∀ j∈deepIds x,m2 j=m j)→valAL m xs=valAL m2 xs
 | [],_,_=>rfl
 | x::xs,hp,h=>by
  simp only [List.any_cons,Bool.or_eq_false_iff] at hp
  simp only [valAL,valA_congr hp.1 (h x (by simp)),valAL_congr xs hp.2 (fun y hy=>h y (by simp [hy]))]
theorem local_of' {op:Op} (loc:∀ ma mb:Mem,(∀ y∈op.operands,∀ j∈topIds (ev G S y),mb j=ma j)→mb id=ma id→Local G op S ma mb id) {K:AV→Mem→Option R} (hK:opK G op S m id K=some r) :
  ∃ x m',K x m'=some r∧m'=over m id m'∧∀ m2,(∀ y∈op.operands,∀ j∈topIds (ev G S y),m2 j=m j)→(∀ j,id≤j→j < id+8→m2 j=m j)→
   ∀ (K' : AV→Mem→Option R) r',K' x (over m2 id m')=some r'→opK G op S m2 id K'=some r':=by
 have h0:=loc m m (fun _ _ _ _=>rfl) rfl K
 rw [hK] at h0
 have h0:=h0.symm
 rw [Option.bind_eq_some_iff] at h0
 obtain ⟨⟨x,b⟩,h1,h2⟩:=h0
 have ho:∀ m3:Mem,(∀ j,id≤j→j < id+8→m3 j=m j)→m3.upd id b=over m3 id (m.upd id b):=by
  intro m3 h3
  funext j
  unfold over
  by_cases e:j=id
  ·subst e
   rw [Mem.upd_same,Mem.upd_same]
   have:(Nat.ble j j&&Nat.blt j (j+8))=true:=by
    rw [Bool.and_eq_true]
    exact ⟨Nat.ble_eq_true_of_le (Nat.le_refl _),by simp [Nat.blt]⟩
   rw [this]
   rfl
  ·rw [Mem.upd_other _ _ e,Mem.upd_other _ _ e]
   cases hj:(Nat.ble id j&&Nat.blt j (id+8)) with
   | false=>rfl
   | true=>
    rw [Bool.and_eq_true] at hj
    exact h3 j (Nat.le_of_ble_eq_true hj.1) (by simpa using hj.2)
 refine ⟨x,m.upd id b,h2,ho m (fun _ _ _=>rfl),fun m2 hr hi K' r' hK'=>?_⟩
 rw [loc m2 m (fun y hy j hj=>(hr y hy j hj).symm) (hi id (Nat.le_refl _) (by omega)).symm K',h1]
 simp only [Option.bind_some]
 rw [ho m2 hi]
 exact hK'
theorem local_of {op:Op} (h:readOp op=true∨makeOp op=true) {K:AV→Mem→Option R} (hK:opK G op S m id K=some r) :
  ∃ x m',K x m'=some r∧m'=over m id m'∧∀ m2,(∀ y∈op.operands,∀ j∈topIds (ev G S y),m2 j=m j)→(∀ j,id≤j→j < id+8→m2 j=m j)→
   ∀ (K' : AV→Mem→Option R) r',K' x (over m2 id m')=some r'→opK G op S m2 id K'=some r':=
 local_of' (fun ma mb h1 h2=>by
  rcases h with h | h
  ·exact local_read h h1 h2
  ·exact local_make h h1 h2) hK
def kill1 (m:Mem):Option Nat→Mem
 | none=>m
 | some j=>m.upd j none
def kill (m f:Mem) (ks:List Nat):Mem:=fun j=>bif ks.contains j then f j else m j
theorem kill_in {m f:Mem} {ks:List Nat} {j:Nat} (h:j∈ks):kill m f ks j=f j:=by
 have:ks.contains j=true:=by simpa using h
 unfold kill
 rw [this]
 rfl
theorem kill_out {m f:Mem} {ks:List Nat} {j:Nat} (h:j ∉ ks):kill m f ks j=m j:=by
 have:ks.contains j=false:=by simpa using h
 unfold kill
 rw [this]
 rfl
theorem kill1_eq (m:Mem) (k:Option Nat):kill1 m k=kill m (fun _=>none) k.toList:=by
 funext j
 cases k with
 | none=>rfl
 | some i=>
  show (m.upd i none) j=_
  by_cases e:j=i
  ·subst e; rw [Mem.upd_same,kill_in (by simp)]
  ·rw [Mem.upd_other _ _ e,kill_out (by simp [e])]
def appSrc (ei ui:TI) (m:Mem) (y:AV) (K:List AV→Option R):Option R:=match ui.kd with
 | .string=>bif Nat.beq ei.size 1 then withStr y fun s=>K (s.toList.map fun b=>vu b.toNat) else none
 | .slice _=>asSl m y fun fl sz ys=>bif (fl==ei.flat&&Nat.beq sz ei.size)||(Nat.beq sz 0&&ys.isEmpty) then K ys else none
 | .int _=>withInt .i64 y fun n=>bif decide ((0:Int)≤n)&&decide (n≤most) then K (List.replicate n.toNat (bif ei.isAgg then .agg ei.zav else ei.zav.headD .undef)) else none
 | _=>none
def appTo (ei:TI) (m:Mem) (id:Nat) (x:AV) (ys:List AV) (K:AV→Mem→Option R):Option R:=match x with
 | .v (.slice none 0 0)=>bif decide (ys.length≤most) then K (.own id 0 none) (m.upd id (Option.some (.row ei.flat ei.size ys))) else none
 | .own j off none=>withSome (m j) fun
  | .row fl sz xs=>bif fl==ei.flat&&Nat.beq sz ei.size then
    bif decide ((chop off xs).length+ys.length≤most) then K (.own id 0 none) ((m.upd j none).upd id (Option.some (.row fl sz (chop off xs++ys)))) else none
   else none
  | _=>none
 | _=>none
theorem appSrc_inv {ei ui:TI} {y:AV} {K:List AV→Option R} (h:appSrc ei ui m y K=some r) :
  ∃ ys,K ys=some r∧∀ m2,(∀ j∈topIds y,m2 j=m j)→∀ (K' : List AV→Option R) r',K' ys=some r'→appSrc ei ui m2 y K'=some r':=by
 unfold appSrc at h
 cases hk:ui.kd
 all_goals (rw [hk] at h)
 all_goals first | (cases h; done) | skip
 ·simp only at h
  cases y
  case own id off l=>
   simp only [asSl] at h
   cases hm:m id with
   | none=>rw [hm] at h; cases h
   | some b=>
    rw [hm] at h
    cases b with
    | box t cs=>cases h
    | row fl sz xs=>
     simp only at h
     obtain ⟨hb,h⟩:=bif_some h
     refine ⟨_,h,fun m2 hm2 K' r' hK'=>?_⟩
     unfold appSrc
     rw [hk]
     simp only [asSl]
     rw [hm2 id (by simp [topIds]),hm]
     simp only [hb,cond_true]
     exact hK'
  case sl fl sz xs=>
   simp only [asSl] at h
   obtain ⟨hb,h⟩:=bif_some h
   refine ⟨_,h,fun m2 hm2 K' r' hK'=>?_⟩
   unfold appSrc
   rw [hk]
   simp only [asSl,hb,cond_true]
   exact hK'
  case v x=>
   by_cases hx:x=.slice none 0 0
   ·subst hx
    simp only [asSl] at h
    obtain ⟨hb,h⟩:=bif_some h
    refine ⟨_,h,fun m2 hm2 K' r' hK'=>?_⟩
    unfold appSrc
    rw [hk]
    simp only [asSl,hb,cond_true]
    exact hK'
   ·exfalso
    unfold asSl at h
    split at h <;> simp_all
  all_goals (exfalso; simp only [asSl] at h; cases h)
 ·simp only at h
  obtain ⟨n,hy,h8⟩:=withInt_some h
  have h9:=bif_some h8
  clear h h8
  obtain ⟨hb,h⟩:=h9
  subst hy
  refine ⟨_,h,fun m2 hm2 K' r' hK'=>?_⟩
  unfold appSrc
  rw [hk]
  simp only [withInt,decide_true,cond_true,hb]
  exact hK'
 ·simp only at h
  have h9:=bif_some h
  clear h
  obtain ⟨hb,h⟩:=h9
  cases y
  case v x=>
   cases x
   case string s=>
    simp only [withStr] at h
    refine ⟨_,h,fun m2 hm2 K' r' hK'=>?_⟩
    unfold appSrc
    rw [hk]
    simp only [withStr,hb,cond_true]
    exact hK'
   all_goals (exfalso; simp only [withStr] at h; cases h)
  all_goals (exfalso; simp only [withStr] at h; cases h)
theorem over_upd (m:Mem) (id:Nat) (b:Option Blk) (m2:Mem) (h:∀ j,id≤j→j < id+8→m2 j=m j):m2.upd id b=over m2 id (m.upd id b):=by
 funext j
 unfold over
 by_cases e:j=id
 ·subst e
  rw [Mem.upd_same,Mem.upd_same]
  have:(Nat.ble j j&&Nat.blt j (j+8))=true:=by
   rw [Bool.and_eq_true]
   exact ⟨Nat.ble_eq_true_of_le (Nat.le_refl _),by simp [Nat.blt]⟩
  rw [this]
  rfl
 ·rw [Mem.upd_other _ _ e,Mem.upd_other _ _ e]
  cases hj:(Nat.ble id j&&Nat.blt j (id+8)) with
  | false=>rfl
  | true=>
   rw [Bool.and_eq_true] at hj
   exact h j (Nat.le_of_ble_eq_true hj.1) (by simpa using hj.2)
theorem appTo_inv {ei:TI} {x:AV} {ys:List AV} {K:AV→Mem→Option R} (h:appTo ei m id x ys K=some r) :
  ∃ z m' k,K z m'=some r∧m'=over (kill1 m k) id m'∧(∀ j,k=some j→j∈topIds x∧∃ fl sz xs,m j=some (.row fl sz xs))∧
   ∀ m2,(∀ j∈topIds x,m2 j=m j)→(∀ j,id≤j→j < id+8→m2 j=m j)→∀ (K' : AV→Mem→Option R) r',K' z (over (kill1 m2 k) id m')=some r'→appTo ei m2 id x ys K'=some r':=by
 unfold appTo at h
 split at h
 ·obtain ⟨hb,h⟩:=bif_some h
  refine ⟨_,_,none,h,over_upd m id _ m (fun _ _ _=>rfl),by simp,fun m2 _ hi K' r' hK'=>?_⟩
  unfold appTo
  simp only [hb,cond_true]
  rw [over_upd m id _ m2 hi]
  exact hK'
 ·rename_i j off
  obtain ⟨b,hm,h⟩:=withSome_some h
  cases b with
  | box t cs=>cases h
  | row fl sz xs=>
   simp only at h
   obtain ⟨hb,h⟩:=bif_some h
   obtain ⟨hc,h⟩:=bif_some h
   have hku:∀ m2:Mem,(∀ i,id≤i→i < id+8→m2 i=m i)→∀ i,id≤i→i < id+8→(kill1 m2 (some j)) i=(m.upd j none) i:=by
    intro m2 hi i h1 h2
    show (m2.upd j none) i=_
    by_cases e:i=j
    ·subst e; rw [Mem.upd_same,Mem.upd_same]
    ·rw [Mem.upd_other _ _ e,Mem.upd_other _ _ e]; exact hi i h1 h2
   refine ⟨_,_,some j,h,over_upd (m.upd j none) id _ (kill1 m (some j)) (fun _ _ _=>rfl),?_,fun m2 hr hi K' r' hK'=>?_⟩
   ·intro i hi
    cases hi
    exact ⟨by simp [topIds],_,_,_,hm⟩
   ·unfold appTo
    have e:=hr j (by simp [topIds])
    simp only [e,hm,withSome,hb,hc,cond_true]
    rw [show m2.upd j none=kill1 m2 (some j) from rfl,over_upd (m.upd j none) id _ (kill1 m2 (some j)) (hku m2 hi)]
    exact hK'
 ·cases h
theorem app_foot0 {op:Op} (hst:∀ t p x,op≠.store t p x) (ha:appOp op=true) {K:AV→Mem→Option R} (hK:opK G op S m id K=some r) :
  ∃ x m' k,K x m'=some r∧m'=over (kill1 m k) id m'∧(∀ j,k=some j→(∃ y∈op.operands,j∈topIds (ev G S y))∧∃ fl sz xs,m j=some (.row fl sz xs))∧
   ∀ m2,(∀ y∈op.operands,∀ j∈topIds (ev G S y),m2 j=m j)→(∀ j,id≤j→j < id+8→m2 j=m j)→
    ∀ (K' : AV→Mem→Option R) r',K' x (over (kill1 m2 k) id m')=some r'→opK G op S m2 id K'=some r':=by
 cases op <;> (try (cases ha; done)) <;> (try (exact absurd rfl (hst _ _ _)))
 rename_i c
 cases hc:c.callee <;> (try (simp [appOp,hc] at ha; done))
 rename_i b
 cases b <;> (try (simp [appOp,hc] at ha; done))
 clear ha
 have key:∀ (m:Mem) (K:AV→Mem→Option R),opK G (.call c) S m id K=match c.argTypes.toList,c.args.toList with
   | [t,u],[x,y]=>withSome (G.tab t) fun ti=>withSome (G.tab u) fun ui=>match ti.kd with
    | .slice e=>withSome (G.tab e) fun ei=>
     bif Nat.ble ei.bytes 4096&&Nat.ble 1 ei.bytes&&Nat.ble 1 ei.size then appSrc ei ui m (ev G S y) fun ys=>appTo ei m id (ev G S x) ys K
     else none
    | _=>none
   | _,_=>none:=by
  intro m K
  simp only [opK,hc]
  rfl
 rw [key] at hK
 simp only [key]
 split at hK
 ·rename_i t u x y h1 h2
  have hx:x∈(Op.call c).operands:=by
   simp only [Op.operands,Call.operands]
   exact Array.mem_append.2 (.inr (by rw [← Array.mem_toList_iff,h2]; simp))
  have hy:y∈(Op.call c).operands:=by
   simp only [Op.operands,Call.operands]
   exact Array.mem_append.2 (.inr (by rw [← Array.mem_toList_iff,h2]; simp))
  obtain ⟨ti,e1,hK⟩:=withSome_some hK
  obtain ⟨ui,e2,hK⟩:=withSome_some hK
  cases hkd:ti.kd <;> rw [hkd] at hK <;> (try (cases hK; done))
  rename_i e
  simp only at hK
  obtain ⟨ei,e3,hK⟩:=withSome_some hK
  obtain ⟨hb,hK⟩:=bif_some hK
  obtain ⟨ys,hK,hs⟩:=appSrc_inv hK
  obtain ⟨z,m',k,hK,hm',hkj,ht⟩:=appTo_inv hK
  refine ⟨z,m',k,hK,hm',fun j hj=>⟨⟨x,hx,(hkj j hj).1⟩,(hkj j hj).2⟩,fun m2 hr hi K' r' hK'=>?_⟩
  simp only [e1,e2,e3,withSome,hkd,hb,cond_true]
  exact hs m2 (fun j hj=>hr y hy j hj) _ _ (ht m2 (fun j hj=>hr x hx j hj) hi _ _ hK')
 ·cases hK
theorem over_kill (m m2:Mem) (id j:Nat) (b:Option Blk) (h:∀ i,id≤i→i < id+8→m2 i=m i):m2.upd j b=over (kill m2 (fun _=>b) [j]) id (m.upd j b):=by
 have hk:kill m2 (fun _=>b) [j]=m2.upd j b:=by
  funext i
  by_cases e:i=j
  ·subst e; rw [Mem.upd_same,kill_in (by simp)]
  ·rw [Mem.upd_other _ _ e,kill_out (by simp [e])]
 rw [hk]
 funext i
 unfold over
 cases hi:(Nat.ble id i&&Nat.blt i (id+8)) with
 | false=>rfl
 | true=>
  rw [Bool.and_eq_true] at hi
  show (m2.upd j b) i=(m.upd j b) i
  by_cases e:i=j
  ·subst e; rw [Mem.upd_same,Mem.upd_same]
  ·rw [Mem.upd_other _ _ e,Mem.upd_other _ _ e]; exact h i (Nat.le_of_ble_eq_true hi.1) (by simpa using hi.2)
def Foot (G:Cfg) (S:List AV) (op:Op) (m:Mem) (id:Nat) (K:AV→Mem→Option R) (r:R) (D:AV→List Nat):Prop:=
 ∃ x m' ks f,K x m'=some r∧m'=over (kill m f ks) id m'∧(∀ j∈ks,(∃ y∈op.operands,j∈D (ev G S y))∧isBox (f j)=isBox (m j)∧(isBox (m j)=false∨∃ t p x off,op=.store t p x∧ev G S p=.ptr j off))∧
   ∀ m2,(∀ y∈op.operands,∀ j∈D (ev G S y),m2 j=m j)→(∀ j,id≤j→j < id+8→m2 j=m j)→
    ∀ (K' : AV→Mem→Option R) r',K' x (over (kill m2 f ks) id m')=some r'→opK G op S m2 id K'=some r'
theorem app_foot {op:Op} (ha:appOp op=true) (hok:∀ t p x,op=.store t p x→(isElt (ev G S p)=true∧idsA (ev G S x)=[])∨isPt (ev G S p)=true) {K:AV→Mem→Option R} (hK:opK G op S m id K=some r) :
  Foot G S op m id K r topIds:=by
 by_cases hst:∀ t p x,op≠.store t p x
 ·obtain ⟨x,m',k,h1,h2,h3,h4⟩:=app_foot0 hst ha hK
  refine ⟨x,m',k.toList,fun _=>none,h1,by rw [← kill1_eq]; exact h2,fun j hj=>?_,fun m2 a b K' r' c=>h4 m2 a b K' r' (by rw [kill1_eq]; exact c)⟩
  obtain ⟨a1,fl,sz,xs,a2⟩:=h3 j (by simpa using hj)
  exact ⟨a1,by rw [a2]; rfl,.inl (by rw [a2]; rfl)⟩
 ·obtain ⟨t,p,x,rfl⟩ : ∃ t p x,op=.store t p x:=by
   cases op <;> first | exact ⟨_,_,_,rfl⟩ | (exfalso; exact hst (fun _ _ _ h=>by cases h))
  have hok:=hok t p x rfl
  have hpo:p∈(Op.store t p x).operands:=by simp [Op.operands]
  unfold Foot
  simp only [opK] at hK ⊢
  obtain ⟨ti,e1,hK⟩:=withSome_some hK
  cases hp:ev G S p <;> rw [hp] at hK hok <;> (try (rcases hok with hok | hok <;> simp [isElt,isPt] at hok; done))
  case ptr j off=>
   simp only at hK
   obtain ⟨b0,hm,hK⟩:=withSome_some hK
   cases b0 with
   | row fl sz xs=>cases hK
   | box tb cs=>
    simp only at hK
    obtain ⟨hb,hK⟩:=bif_some hK
    refine ⟨_,_,[j],_,hK,over_kill m m id j _ (fun _ _ _=>rfl),?_,fun m2 hr hi K' r' hK'=>?_⟩
    ·intro j' hj'
     cases List.mem_singleton.1 hj'
     exact ⟨⟨p,hpo,by rw [hp]; simp [topIds]⟩,by rw [hm]; rfl,.inr ⟨t,p,x,off,rfl,hp⟩⟩
    ·have e:=hr p hpo j (by rw [hp]; simp [topIds])
     simp only [e1,withSome,e,hm,hb,cond_true]
     rw [over_kill m m2 id j _ hi]
     exact hK'
  case elt j i off=>
   obtain ⟨_,hx⟩ : isElt (AV.elt j i off)=true∧idsA (ev G S x)=[]:=by
    rcases hok with hok | hok
    ·exact hok
    ·cases hok
   simp only at hK
   obtain ⟨b0,hm,hK⟩:=withSome_some hK
   cases b0 with
   | box tb cs=>cases hK
   | row fl sz xs=>
    simp only at hK
    obtain ⟨hb,hK⟩:=bif_some hK
    obtain ⟨y,hy,hK⟩:=withSome_some hK
    rw [hx] at hK hb
    refine ⟨_,_,[j],_,hK,over_kill m m id j _ (fun _ _ _=>rfl),?_,fun m2 hr hi K' r' hK'=>?_⟩
    ·intro j' hj'
     cases List.mem_singleton.1 hj'
     exact ⟨⟨p,hpo,by rw [hp]; simp [topIds]⟩,by rw [hm]; rfl,.inl (by rw [hm]; rfl)⟩
    ·have e:=hr p hpo j (by rw [hp]; simp [topIds])
     have hy2:keepE m2 ti (ev G S x)=some y:=by rw [← hy]; exact keepE_noids hx
     simp only [e1,withSome,e,hm,hx,hb,cond_true,hy2]
     have e9:=over_kill m m2 id j (some (.row fl sz (xs.set i y))) hi
     show K' _ (m2.upd j (some (.row fl sz (xs.set i y))))=some r'
     rw [e9]
     exact hK'
theorem valS_rows {x y:AV} (h:valS m x=some y):∀ j∈idsS x,isBox (m j)=false:=by
 intro j hj
 cases x <;> (try (simp [idsS] at hj; done))
 case own id off l=>
  simp only [idsS,List.mem_singleton] at hj
  subst hj
  simp only [valS,asSl] at h
  cases hm:m j with
  | none=>rfl
  | some b=>
   rw [hm] at h
   cases b with
   | box t cs=>cases h
   | row fl sz xs=>rfl
 case elt id i off=>simp [valS] at h
theorem valL_rows:∀ (cs ys:List AV),valL m cs=some ys→∀ j∈cs.flatMap idsS,isBox (m j)=false
 | [],_,_,j,hj=>by simp at hj
 | x::cs,ys,h,j,hj=>by
  simp only [valL] at h
  rw [List.flatMap_cons,List.mem_append] at hj
  cases e1:valS m x with
  | none=>rw [e1] at h; cases h
  | some y=>
   cases e2:valL m cs with
   | none=>rw [e1,e2] at h; cases h
   | some s=>
    rcases hj with hj | hj
    ·exact valS_rows e1 j hj
    ·exact valL_rows cs s e2 j hj
theorem keepL_rows {ti:TI}:∀ (xs ys:List AV),keepL m ti xs=some ys→∀ j∈xs.flatMap idsA,isBox (m j)=false
 | [],_,_,j,hj=>by simp at hj
 | x::xs,ys,h,j,hj=>by
  simp only [keepL] at h
  rw [List.flatMap_cons,List.mem_append] at hj
  cases e1:keepE m ti x with
  | none=>rw [e1] at h; cases h
  | some y=>
   cases e2:keepL m ti xs with
   | none=>rw [e1,e2] at h; cases h
   | some s=>
    rcases hj with hj | hj
    ·unfold keepE at e1
     cases e3:valE m x with
     | none=>rw [e3] at e1; cases e1
     | some z=>
      cases x
      case agg cs=>
       simp only [valE,Option.map_eq_some_iff] at e3
       obtain ⟨w,e3,_⟩:=e3
       exact valL_rows cs w e3 j hj
      all_goals (simp only [valE] at e3; exact valS_rows e3 j hj)
    ·exact keepL_rows xs s e2 j hj
theorem idsS_top {x:AV} {j:Nat} (h:j∈idsS x):j∈topIds x:=by cases x <;> first | exact h | (simp [idsS] at h)
theorem idsA_deep {x:AV} {j:Nat} (h:j∈idsA x):j∈deepIds x:=by
 cases x
 case agg cs=>
  obtain ⟨c,hc,hj⟩:=List.mem_flatMap.1 h
  exact List.mem_flatMap.2 ⟨c,hc,idsS_top hj⟩
 all_goals first | exact h | (simp [idsA,idsS] at h)
theorem keepE_congr {ti:TI} {x:AV} (h:∀ j∈deepIds x,m2 j=m j):keepE m ti x=keepE m2 ti x:=by
 have:valE m x=valE m2 x:=by
  cases x
  case agg cs=>simp only [valE,valL_congr cs h]
  all_goals (simp only [valE]; exact valS_congr (fun j hj=>h j (by first | exact hj | (simp [topIds] at hj))))
 simp only [keepE,this]
theorem keepL_congr {ti:TI}:∀ (xs:List AV),(∀ x∈xs,∀ j∈deepIds x,m2 j=m j)→keepL m ti xs=keepL m2 ti xs
 | [],_=>rfl
 | x::xs,h=>by simp only [keepL,keepE_congr (h x (by simp)),keepL_congr xs fun y hy=>h y (by simp [hy])]
theorem frz_kill (m:Mem) (ids:List Nat):frz m ids=kill m (fun _=>none) ids:=by
 funext j
 rw [frz_none]
 by_cases h:j∈ids
 ·rw [if_pos h,kill_in h]
 ·rw [if_neg h,kill_out h]
theorem build_foot {t:TypeId} {len:Nat} {parts:Array (Nat × Operand)} {K:AV→Mem→Option R} (hK:opK G (.buildSlice t len parts) S m id K=some r):Foot G S (.buildSlice t len parts) m id K r deepIds:=by
 have hin:∀ x,x∈(parts.toList.map fun (_,x)=>ev G S x)→∃ y∈(Op.buildSlice t len parts).operands,x=ev G S y:=by
  intro x hx
  obtain ⟨p,hp,rfl⟩:=List.mem_map.1 hx
  refine ⟨p.2,?_,rfl⟩
  show p.2∈(parts.toList.map (·.2)).toArray
  exact List.mem_toArray.2 (List.mem_map.2 ⟨p,hp,rfl⟩)
 unfold Foot
 simp only [opK] at hK ⊢
 obtain ⟨ti,e1,hK⟩:=withSome_some hK
 cases hkd:ti.kd <;> rw [hkd] at hK <;> (try (cases hK; done))
 rename_i e
 simp only at hK
 obtain ⟨ei,e2,hK⟩:=withSome_some hK
 cases ho:isOther ei.kd with
 | true=>
  rw [ho,cond_true] at hK
  obtain ⟨hb,hK⟩:=bif_some hK
  refine ⟨_,_,[],fun _=>none,hK,?_,by simp,fun m2 hr hi K' r' hK'=>?_⟩
  ·have:kill m (fun _=>none) []=m:=by funext j; exact kill_out (by simp)
   rw [this]
   exact over_upd m id _ m (fun _ _ _=>rfl)
  ·have:kill m2 (fun _=>none) []=m2:=by funext j; exact kill_out (by simp)
   rw [this,← over_upd m id _ m2 hi] at hK'
   simp only [e1,withSome,hkd,e2,ho,hb,cond_true]
   exact hK'
 | false=>
  rw [ho,cond_false] at hK
  obtain ⟨hb,hK⟩:=bif_some hK
  obtain ⟨xs,hx,hK⟩:=withSome_some hK
  refine ⟨_,_,(parts.toList.map fun (_,x)=>ev G S x).flatMap idsA,fun _=>none,hK,?_,fun j hj=>?_,fun m2 hr hi K' r' hK'=>?_⟩
  ·rw [← frz_kill]
   exact over_upd _ id _ _ (fun _ _ _=>rfl)
  ·have hbx:=keepL_rows _ _ hx j hj
   obtain ⟨x,hx1,hx2⟩:=List.mem_flatMap.1 hj
   obtain ⟨y,hy1,rfl⟩:=hin x hx1
   exact ⟨⟨y,hy1,idsA_deep hx2⟩,by rw [hbx]; rfl,.inl hbx⟩
  ·have hx2:keepL m2 ei (parts.toList.map fun (_,x)=>ev G S x)=some xs:=by
    rw [← hx]
    refine (keepL_congr _ fun x hx1 j hj=>?_).symm
    obtain ⟨y,hy1,rfl⟩:=hin x hx1
    exact hr y hy1 j hj
   simp only [e1,withSome,hkd,e2,ho,hb,cond_true,cond_false,hx2]
   rw [← frz_kill] at hK'
   have hi' : ∀ j,id≤j→j < id+8→frz m2 ((parts.toList.map fun (_,x)=>ev G S x).flatMap idsA) j=frz m ((parts.toList.map fun (_,x)=>ev G S x).flatMap idsA) j:=by
    intro j h1 h2
    rw [frz_none,frz_none,hi j h1 h2]
   rw [over_upd (frz m _) id _ (frz m2 _) hi']
   exact hK'
end
end Go.Proofs.Ev
namespace Go.Proofs.Ev
open Go Go.RowKit
set_option linter.unusedVariables false
section
variable {R:Type} {G:Cfg} {S S' : List AV} {m m' m2:Mem} {id:Nat} {C:FuncId→List AV→(AV→Option R)→Option R} {o:Oper} {r:R}
theorem over_self (m:Mem) (id:Nat):over m id m=m:=by
 funext j
 unfold over
 cases (Nat.ble id j&&Nat.blt j (id+8)) <;> rfl
theorem flatMap_same {f g:AV→List Nat}:∀ (xs:List AV),(∀ x∈xs,f x=g x)→xs.flatMap f=xs.flatMap g
 | [],_=>rfl
 | x::xs,h=>by rw [List.flatMap_cons,List.flatMap_cons,h x (by simp),flatMap_same xs (fun y hy=>h y (by simp [hy]))]
theorem idsF_congr {x:AV} (hp:hasPtr x=false):idsF m x=idsF m2 x:=by
 have hB:∀ x,(∀ i off,x≠.ptr i off)→idsB m x=idsB m2 x:=by
  intro x hx
  cases x
  case ptr i off=>exact absurd rfl (hx i off)
  all_goals rfl
 cases x
 case fn f cs=>
  simp only [idsF]
  simp only [hasPtr] at hp
  refine flatMap_same cs fun y hy=>hB y ?_
  intro i off e
  subst e
  have:=List.any_eq_false.1 hp _ hy
  simp at this
 case ptr i off=>cases hp
 all_goals rfl
theorem idsFL_congr {xs:List AV} (hp:xs.any hasPtr=false):xs.flatMap (idsF m)=xs.flatMap (idsF m2):=
 flatMap_same xs fun x hx=>idsF_congr (by simpa using List.any_eq_false.1 hp x hx)
theorem call_local (hC:Natural C) {f:FuncId} {args:List AV} {K:AV→Mem→Option R} (h:callK G C true f args m id K=some r) :
  ∃ x m',K x m'=some r∧m'=over m id m'∧∀ m2,(∀ y∈args,∀ j∈deepIds y,m2 j=m j)→(∀ j,id≤j→j < id+8→m2 j=m j)→
   ∀ (K' : AV→Mem→Option R) r',K' x (over m2 id m')=some r'→callK G C true f args m2 id K'=some r':=by
 unfold callK at h
 cases hp:args.any hasPtr with
 | true=>rw [hp] at h; cases h
 | false=>
  rw [hp] at h
  rw [cond_false] at h
  cases hrf:G.refs f with
  | true=>rw [hrf] at h; cases h
  | false=>
  rw [hrf] at h
  simp only [cond_false,Bool.true_and] at h
  obtain ⟨aas,h1,h⟩:=withSome_some h
  obtain ⟨aas',h2,h⟩:=withSome_some h
  obtain ⟨y,h3,h4⟩:=hC _ _ _ _ h
  have fin:∀ m2,(∀ y∈args,∀ j∈deepIds y,m2 j=m j)→∀ (K' : AV→Mem→Option R) r',(bif cleanR y then (match imp id m2 y with | (x,c,m')=>bif Nat.ble c 8 then K' x m' else none)
    else bif !(args.flatMap (idsF m2)).isEmpty then none
    else (match imp id (frz m2 (args.flatMap (idsF m2))) y with | (x,c,m')=>bif Nat.ble c 8 then K' x m' else none))=some r'→callK G C true f args m2 id K'=some r':=by
   intro m2 hm K' r' h
   unfold callK
   rw [hp,hrf,← valAL_congr args hp hm]
   simp only [cond_false,Bool.true_and,h1,h2,withSome]
   exact h4 _ _ h
  have same:(match imp id m y with | (x,c,m')=>bif Nat.ble c 8 then K x m' else none)=some r→(∀ m2,(∀ y∈args,∀ j∈deepIds y,m2 j=m j)→∀ (K' : AV→Mem→Option R) r',(match imp id m2 y with | (x,c,m')=>bif Nat.ble c 8 then K' x m' else none)=some r'→callK G C true f args m2 id K'=some r')→
    ∃ x m',K x m'=some r∧m'=over m id m'∧∀ m2,(∀ y∈args,∀ j∈deepIds y,m2 j=m j)→(∀ j,id≤j→j < id+8→m2 j=m j)→
     ∀ (K' : AV→Mem→Option R) r',K' x (over m2 id m')=some r'→callK G C true f args m2 id K'=some r':=by
   intro h3 hf
   generalize hq:imp id m y=q at h3
   obtain ⟨x,c,m'⟩:=q
   obtain ⟨hc8,h3⟩:=bif_some h3
   refine ⟨x,m',h3,(imp_over hq (Nat.le_of_ble_eq_true hc8) (fun _ _ _=>rfl)).1,fun m2 hr hi K' r' hK'=>hf m2 hr K' r' ?_⟩
   rw [(imp_over hq (Nat.le_of_ble_eq_true hc8) hi).2]
   simp only [hc8,cond_true]
   exact hK'
  cases hcl:cleanR y with
  | true=>
   rw [hcl] at h3
   exact same h3 (fun m2 hm K' r' h=>fin m2 hm K' r' (by rw [hcl]; exact h))
  | false=>
   rw [hcl] at h3
   simp only [cond_false] at h3
   cases hq:(args.flatMap (idsF m)).isEmpty with
   | false=>rw [hq] at h3; cases h3
   | true=>
    rw [hq] at h3
    have he:args.flatMap (idsF m)=[]:=by simpa using hq
    rw [he] at h3
    refine same h3 (fun m2 hm K' r' h=>fin m2 hm K' r' ?_)
    rw [hcl,← idsFL_congr (m:=m) hp,he]
    exact h
theorem inL_mem {l:List Nat} {j:Nat}:inL l j=true↔j∈l:=by
 unfold inL
 rw [List.any_eq_true]
 constructor
 ·rintro ⟨x,hx,e⟩; rw [Nat.eq_of_beq_eq_true e]; exact hx
 ·intro h; exact ⟨j,h,Nat.beq_refl j⟩
theorem idxIn_notin {ord:List Nat} {id:Nat} (h:id ∉ ord):idxIn ord id=none:=by
 unfold idxIn
 rw [List.findIdx?_eq_none_iff]
 intro x hx
 rw [← Bool.not_eq_true]
 intro e
 exact h (Nat.eq_of_beq_eq_true e ▸ hx)
theorem over_far (m:Mem) (id:Nat) (f:Mem) (j:Nat) (hj:¬ (id≤j∧j < id+8)):over m id f j=m j:=by
 unfold over
 cases hb:(Nat.ble id j&&Nat.blt j (id+8)) with
 | false=>rfl
 | true=>
  rw [Bool.and_eq_true] at hb
  exact absurd ⟨Nat.le_of_ble_eq_true hb.1,by simpa using hb.2⟩ hj
theorem callK_far (hC:Natural C) {f:FuncId} {args:List AV} {K:AV→Mem→Option R} (h:callK G C false f args m id K=some r) :
  ∃ x m',K x m'=some r∧(∀ (K' : AV→Mem→Option R) r',K' x m'=some r'→callK G C false f args m id K'=some r')∧
   ∀ l,touchK G f args m=some l→∀ j,j ∉ l→¬ (id≤j∧j < id+8)→m' j=m j:=by
 unfold callK at h
 cases hp:args.any hasPtr with
 | true=>
  rw [hp] at h
  simp only [cond_true,cond_false] at h
  unfold callM at h
  obtain ⟨xs0,hx0,h⟩:=withSome_some h
  obtain ⟨xs,hx1,h⟩:=withSome_some h
  cases ha:((ordM m xs).any fun i=>(args.flatMap (idsM m)).contains i) with
  | true=>rw [ha] at h; cases h
  | false=>
   rw [ha] at h
   simp only [cond_false] at h
   obtain ⟨y,h3,h4⟩:=hC _ _ _ _ h
   split at h3
   ·rename_i z os
    obtain ⟨hp2,h3⟩:=bif_some h3
    refine ⟨_,_,h3,fun K' r' hK'=>?_,fun l hl j hj hr=>?_⟩
    ·unfold callK callM
     rw [hp]
     simp only [cond_true,cond_false,hx0,hx1,withSome,ha]
     refine h4 _ _ ?_
     simp only [hp2,cond_true]
     exact hK'
    ·unfold touchK at hl
     rw [hp] at hl
     simp only [cond_true,hx0,hx1] at hl
     cases hl
     rw [List.mem_append,not_or] at hj
     rw [Bool.and_eq_true] at hp2
     have h8:=hp2.2
     unfold okOut at h8
     rw [Bool.and_eq_true,Bool.and_eq_true] at h8
     have h9:=Nat.le_of_ble_eq_true h8.1.2
     unfold outM
     rw [idxIn_notin hj.1]
     have e1:(Nat.ble id j&&Nat.blt j (id+(os.length - ((ordM m xs).filter fun i=>isBx (m i)).length)))=false:=by
      rw [← Bool.not_eq_true,Bool.and_eq_true]
      rintro ⟨a1,a2⟩
      have a1:=Nat.le_of_ble_eq_true a1
      have a2:j < id+(os.length - ((ordM m xs).filter fun i=>isBx (m i)).length):=by simpa using a2
      omega
     have e2:(args.flatMap (idsM m)).contains j=false:=by
      rw [← Bool.not_eq_true]
      intro e
      exact hj.2 (by simpa using e)
     rw [e1,e2]
     rfl
   ·cases h3
 | false=>
  rw [hp] at h
  simp only [cond_false] at h
  have tk:touchK G f args m=some (args.flatMap (idsF m)):=by unfold touchK; rw [hp]; rfl
  cases hrf:G.refs f with
  | true=>
   rw [hrf] at h
   simp only [cond_true] at h
   obtain ⟨x,m',h1,h2,h3⟩ : ∃ x m',K x m'=some r∧(∀ (K' : AV→Mem→Option R) r',K' x m'=some r'→callE C f args m K'=some r')∧∀ j,j ∉ args.flatMap (idsF m)→m' j=m j:=by
    unfold callE at h
    split at h
    ·rename_i j off l rest
     obtain ⟨b,hm,h⟩:=withSome_some h
     split at h
     ·rename_i fl sz xs
      obtain ⟨hv,h⟩:=bif_some h
      obtain ⟨y,h3,h4⟩:=hC _ _ _ _ h
      split at h3
      ·rename_i z fl' sz' ys
       obtain ⟨hq,h3⟩:=bif_some h3
       obtain ⟨z',hz,h3⟩:=withSome_some h3
       refine ⟨_,_,h3,fun K' r' hK'=>?_,fun i hi=>?_⟩
       ·unfold callE
        simp only [hm,withSome,hv,cond_true]
        refine h4 _ _ ?_
        simp only [hq,cond_true,hz]
        exact hK'
       ·refine Mem.upd_other _ _ ?_
        rintro rfl
        exact hi (by simp [idsF,idsB,idsS])
      ·cases h3
     ·cases h
    ·cases h
   refine ⟨x,m',h1,fun K' r' hK'=>?_,fun l hl j hj _=>h3 j (by rw [tk] at hl; cases hl; exact hj)⟩
   unfold callK
   rw [hp,hrf]
   simp only [cond_true,cond_false]
   exact h2 K' r' hK'
  | false=>
   rw [hrf] at h
   simp only [cond_false] at h
   obtain ⟨aas,h1,h⟩:=withSome_some h
   obtain ⟨aas',h2,h⟩:=withSome_some h
   obtain ⟨y,h3,h4⟩:=hC _ _ _ _ h
   have fin:∀ (K' : AV→Mem→Option R) r',(bif cleanR y then (match imp id m y with | (x,c,m')=>bif Nat.ble c 8 then K' x m' else none)
     else bif false&&!(args.flatMap (idsF m)).isEmpty then none
     else (match imp id (frz m (args.flatMap (idsF m))) y with | (x,c,m')=>bif Nat.ble c 8 then K' x m' else none))=some r'→callK G C false f args m id K'=some r':=by
    intro K' r' h
    unfold callK
    rw [hp,hrf]
    simp only [cond_false,h1,h2,withSome]
    exact h4 _ _ h
   cases hcl:cleanR y with
   | true=>
    rw [hcl] at h3
    simp only [cond_true] at h3
    obtain ⟨hc8,h3⟩:=bif_some h3
    refine ⟨_,_,h3,fun K' r' hK'=>fin K' r' ?_,fun l hl j hj hr=>?_⟩
    ·rw [hcl]
     simp only [cond_true,hc8]
     exact hK'
    ·rw [(imp_over (m:=m) (x:=y) (y:=(imp id m y).1) (c:=(imp id m y).2.1) (m':=(imp id m y).2.2) rfl (Nat.le_of_ble_eq_true hc8) (m2:=m) (fun _ _ _=>rfl)).1]
     exact over_far _ _ _ _ hr
   | false=>
    rw [hcl] at h3
    simp only [cond_false,Bool.false_and] at h3
    obtain ⟨hc8,h3⟩:=bif_some h3
    refine ⟨_,_,h3,fun K' r' hK'=>fin K' r' ?_,fun l hl j hj hr=>?_⟩
    ·rw [hcl]
     simp only [cond_false,Bool.false_and,hc8,cond_true]
     exact hK'
    ·rw [tk] at hl
     cases hl
     rw [(imp_over (m:=frz m (args.flatMap (idsF m))) (x:=y) (y:=(imp id (frz m (args.flatMap (idsF m))) y).1) (c:=(imp id (frz m (args.flatMap (idsF m))) y).2.1) (m':=(imp id (frz m (args.flatMap (idsF m))) y).2.2) rfl (Nat.le_of_ble_eq_true hc8) (m2:=frz m (args.flatMap (idsF m))) (fun _ _ _=>rfl)).1]
     rw [over_far _ _ _ _ hr,frz_none,if_neg hj]
def Far (R:Type) (G:Cfg) (C:FuncId→List AV→(AV→Option R)→Option R) (dr:Bool) (o:Oper) (S:List AV) (m:Mem) (id:Nat) (J:Nat→Prop):Prop:=
 ∀ (K:AV→Mem→Option R) r,operK G C dr o S m id K=some r→∃ x m',K x m'=some r∧Does G C dr o S m id x m'∧∀ j,J j→m' j=m j
theorem far_none (hC:Natural C) {dr:Bool}:Far R G C dr o S m id (fun _=>False):=fun K r h=>by
 obtain ⟨x,m',h1,h2⟩:=operK_inv hC h
 exact ⟨x,m',h1,h2,fun _ h=>h.elim⟩
theorem far_touch (hC:Natural C) {T:List Nat} {J:Nat→Prop} (hc:callOp o.op=true) (hT:touchOk G o.op S m T=true) (hJ:∀ j,J j→inL T j=false∧¬ (id≤j∧j < id+8)):Far R G C false o S m id J:=by
 intro K r h
 cases hop:o.op <;> rw [hop] at hc <;> (try (cases hc; done))
 rename_i c
 cases hcl:c.callee with
 | builtin b=>simp [callOp,hcl] at hc
 | invoke _ _=>simp [callOp,hcl] at hc
 | value f=>
  cases hf:ev G S f
  case fn g caps=>
   obtain ⟨g',us,ht,heq⟩ : ∃ g' us,touch G o.op S m=touchK G g' us m∧∀ (K:AV→Mem→Option R),operK G C false o S m id K=callK G C false g' us m id K:=by
    cases hb:Nat.blt g bnd with
    | true=>exact ⟨g,c.args.toList.map (ev G S)++caps,by simp only [touch,hop,hcl,hf,hb,cond_true],fun K=>by unfold operK; simp only [hop,hcl,hf,hb]; rfl⟩
    | false=>exact ⟨g - bnd,caps++c.args.toList.map (ev G S),by simp only [touch,hop,hcl,hf,hb,cond_false],fun K=>by unfold operK; simp only [hop,hcl,hf,hb]; rfl⟩
   rw [heq] at h
   obtain ⟨x,m',h1,h2,h3⟩:=callK_far hC h
   refine ⟨x,m',h1,fun K' r' hK'=>by rw [heq]; exact h2 K' r' hK',fun j hj=>?_⟩
   obtain ⟨j1,j2⟩:=hJ j hj
   unfold touchOk at hT
   rw [ht] at hT
   cases hl:touchK G g' us m with
   | some l=>
    rw [hl] at hT
    refine h3 l hl j (fun hm=>?_) j2
    have:=List.all_eq_true.1 hT j hm
    rw [j1] at this
    cases this
   | none=>
    exfalso
    -- such a call does not come to an end
    unfold touchK at hl
    unfold callK at h
    cases hp:us.any hasPtr with
    | false=>rw [hp] at hl; cases hl
    | true=>
     rw [hp] at hl h
     simp only [cond_true,cond_false] at hl h
     unfold callM at h
     obtain ⟨xs0,hx0,h⟩:=withSome_some h
     obtain ⟨xs,hx1,h⟩:=withSome_some h
     simp only [hx0,hx1] at hl
     cases hl
  all_goals (exfalso; unfold operK at h; simp only [hop,hcl,hf] at h; cases h)
end
end Go.Proofs.Ev
namespace Go.Proofs.Ev
open Go Go.RowKit
set_option linter.unusedVariables false
section
variable {R:Type} {G:Cfg} {S S' : List AV} {m m' m2:Mem} {id:Nat} {C:FuncId→List AV→(AV→Option R)→Option R} {o:Oper} {r:R}
theorem topIds_deep {x:AV} {j:Nat} (h:j∈topIds x):j∈deepIds x:=by
 cases x <;> first | exact h | (simp [topIds] at h)
theorem oper_local (hC:Natural C) (hl:localOp o.op=true) (hkl:killOp G o.op=false) {K:AV→Mem→Option R} (h:operK G C true o S m id K=some r) :
  ∃ x m',K x m'=some r∧m'=over m id m'∧∀ m2 S',(∀ y∈o.op.operands,ev G S y=ev G S' y)→(∀ y∈o.op.operands,∀ j∈deepIds (ev G S y),m2 j=m j)→(∀ j,id≤j→j < id+8→m2 j=m j)→
   Does G C true o S' m2 id x (over m2 id m'):=by
 have fin:∀ {x:AV} {m' : Mem} {m2:Mem} {S' : List AV},(∀ y∈o.op.operands,ev G S y=ev G S' y)→(∀ (K' : AV→Mem→Option R) r',K' x (over m2 id m')=some r'→operK G C true o S m2 id K'=some r')→Does G C true o S' m2 id x (over m2 id m'):=by
  intro x m' m2 S' hs hd K' r' hK'
  rw [← operK_congr hs]
  exact hd K' r' hK'
 have ops:(readOp o.op=true∨makeOp o.op=true)→(∀ m K,operK G C true o S m id K=opK G o.op S m id K)→∃ x m',K x m'=some r∧m'=over m id m'∧∀ m2 S',(∀ y∈o.op.operands,ev G S y=ev G S' y)→(∀ y∈o.op.operands,∀ j∈deepIds (ev G S y),m2 j=m j)→(∀ j,id≤j→j < id+8→m2 j=m j)→
   Does G C true o S' m2 id x (over m2 id m'):=by
  intro hrm heq
  rw [heq] at h
  obtain ⟨x,m',h1,h2,h3⟩:=local_of hrm h
  exact ⟨x,m',h1,h2,fun m2 S' hs hr hi=>fin hs (fun K' r' hK'=>by
   rw [heq]
   exact h3 m2 (fun y hy j hj=>hr y hy j (topIds_deep hj)) hi K' r' hK')⟩
 simp only [localOp,Bool.or_eq_true] at hl
 cases hop:o.op
 case call c=>
  cases hc:c.callee with
  | value f=>
   cases hf:ev G S f
   case fn g caps=>
    have hok:caps.all AV.okB=true:=by
     unfold operK at h
     simp only [hop,hc,hf] at h
     cases hb:caps.all AV.okB with
     | true=>rfl
     | false=>rw [hb] at h; cases h
    obtain ⟨g',us,has,heq⟩ : ∃ g' us,(∀ y∈us,y∈c.args.toList.map (ev G S)∨y∈caps)∧∀ m K,operK G C true o S m id K=callK G C true g' us m id K:=by
     cases hb:Nat.blt g bnd with
     | true=>exact ⟨g,_,fun y hy=>List.mem_append.1 hy,fun m K=>by unfold operK; simp only [hop,hc,hf,hok,hb]; rfl⟩
     | false=>exact ⟨g - bnd,caps++c.args.toList.map (ev G S),fun y hy=>(List.mem_append.1 hy).symm,fun m K=>by unfold operK; simp only [hop,hc,hf,hok,hb]; rfl⟩
    rw [heq] at h
    obtain ⟨x,m',h1,h2,h3⟩:=call_local hC h
    refine ⟨x,m',h1,h2,fun m2 S' hs hr hi=>?_⟩
    rw [← hop] at hs hr
    refine fin hs (fun K' r' hK'=>?_)
    rw [heq]
    refine h3 m2 (fun y hy j hj=>?_) hi K' r' hK'
    rcases has y hy with hy | hy
    ·obtain ⟨q,hq,rfl⟩:=List.mem_map.1 hy
     refine hr q ?_ j hj
     rw [hop]
     simp only [Op.operands,Call.operands]
     exact Array.mem_append.2 (.inr (by simpa using hq))
    ·refine hr f ?_ j ?_
     ·rw [hop]; simp [Op.operands,Call.operands,hc]
     ·rw [hf]
      have hyo:=List.all_eq_true.1 hok y hy
      refine List.mem_flatMap.2 ⟨y,hy,?_⟩
      cases y <;> first | exact hj | (simp [AV.okB,AV.okC] at hyo)
   all_goals (exfalso; unfold operK at h; simp only [hop,hc,hf] at h; cases h)
  | builtin b=>
   rw [← hop]
   refine ops ?_ (fun m K=>by unfold operK; simp only [hop,hc])
   rcases hl with (hl | hl) | hl
   ·exact hl
   ·rw [hop] at hl; simp [callOp,hc] at hl
   ·rw [hop] at hl; simp [buildOp] at hl
  | invoke _ _=>rw [hop] at hl; simp [readOp,makeOp,callOp,buildOp,hc] at hl
 case buildSlice t n parts=>
  have hnil:((parts.toList.map fun (_,x)=>ev G S x).flatMap idsA)=[]:=by
   have hkb:killB G t=false:=by
    rw [hop] at hkl
    unfold killOp at hkl
    rw [Bool.or_eq_false_iff] at hkl
    exact hkl.2
   unfold operK at h
   simp only [hop,hkb,Bool.false_or] at h
   cases hb:((parts.toList.map fun (_,x)=>ev G S x).flatMap idsA).isEmpty with
   | true=>simpa using hb
   | false=>rw [hb] at h; cases h
  have heq:∀ m K,operK G C true o S m id K=opK G o.op S m id K:=by
   intro m K
   unfold operK
   simp only [hop,hnil]
   cases killB G t <;> rfl
  rw [heq] at h
  obtain ⟨x,m',h1,h2,h3⟩:=local_of' (by rw [hop]; exact fun ma mb _ _=>local_build hnil) h
  refine ⟨x,m',h1,h2,fun m2 S' hs hr hi=>fin (by rw [hop]; exact hs) (fun K' r' hK'=>?_)⟩
  rw [heq]
  exact h3 m2 (fun y hy j hj=>hr y (by rw [hop] at hy; exact hy) j (topIds_deep hj)) hi K' r' hK'
 case store t p x=>exfalso; rw [hop] at hl; simp [readOp,makeOp,callOp,buildOp] at hl
 all_goals
  rw [← hop]
  refine ops ?_ (fun m K=>by unfold operK; simp only [hop])
  rcases hl with (hl | hl) | hl
  ·exact hl
  ·rw [hop] at hl; simp [callOp] at hl
  ·rw [hop] at hl; simp [buildOp] at hl
theorem oper_mix (hC:Natural C) (hl:mixOp o.op=true) {K:AV→Mem→Option R} (h:operK G C true o S m id K=some r) :
  ∃ x m' ks f,K x m'=some r∧m'=over (kill m f ks) id m'∧(∀ j∈ks,killOp G o.op=true∧(∃ y∈o.op.operands,j∈deepIds (ev G S y))∧isBox (f j)=isBox (m j)∧(isBox (m j)=false∨∃ t p x off,o.op=.store t p x∧ev G S p=.ptr j off))∧
   ∀ m2 S',(∀ y∈o.op.operands,ev G S y=ev G S' y)→(∀ y∈o.op.operands,∀ j∈deepIds (ev G S y),m2 j=m j)→(∀ j,id≤j→j < id+8→m2 j=m j)→
   Does G C true o S' m2 id x (over (kill m2 f ks) id m'):=by
 have fin:∀ {D:AV→List Nat},(∀ {x:AV} {j:Nat},j∈D x→j∈deepIds x)→killOp G o.op=true→(∀ m K,operK G C true o S m id K=opK G o.op S m id K)→Foot G S o.op m id K r D→∃ x m' ks f,K x m'=some r∧m'=over (kill m f ks) id m'∧(∀ j∈ks,killOp G o.op=true∧(∃ y∈o.op.operands,j∈deepIds (ev G S y))∧isBox (f j)=isBox (m j)∧(isBox (m j)=false∨∃ t p x off,o.op=.store t p x∧ev G S p=.ptr j off))∧
   ∀ m2 S',(∀ y∈o.op.operands,ev G S y=ev G S' y)→(∀ y∈o.op.operands,∀ j∈deepIds (ev G S y),m2 j=m j)→(∀ j,id≤j→j < id+8→m2 j=m j)→
   Does G C true o S' m2 id x (over (kill m2 f ks) id m'):=by
  intro D hD hk heq hF
  obtain ⟨x,m',ks,f,h1,h2,h3,h4⟩:=hF
  refine ⟨x,m',ks,f,h1,h2,fun j hj=>?_,fun m2 S' hs hr hi K' r' hK'=>?_⟩
  ·obtain ⟨⟨y,hy,hyj⟩,h5,h6⟩:=h3 j hj
   exact ⟨hk,⟨y,hy,hD hyj⟩,h5,h6⟩
  ·rw [← operK_congr hs,heq]
   exact h4 m2 (fun y hy j hj=>hr y hy j (hD hj)) hi _ _ hK'
 cases hka:appOp o.op with
 | true=>
  have hst:∀ t p x,o.op=.store t p x→(isElt (ev G S p)=true∧idsA (ev G S x)=[])∨isPt (ev G S p)=true:=by
   intro t p x hop
   unfold operK at h
   simp only [hop] at h
   cases hb:((isElt (ev G S p)&&(idsA (ev G S x)).isEmpty)||isPt (ev G S p)) with
   | true=>
    rw [Bool.or_eq_true,Bool.and_eq_true] at hb
    rcases hb with hb | hb
    ·exact .inl ⟨hb.1,by simpa using hb.2⟩
    ·exact .inr hb
   | false=>rw [hb] at h; cases h
  have heq:∀ m K,operK G C true o S m id K=opK G o.op S m id K:=by
   intro m K
   cases hop:o.op
   case store t p x=>
    have hb:((isElt (ev G S p)&&(idsA (ev G S x)).isEmpty)||isPt (ev G S p))=true:=by
     rcases hst t p x hop with ⟨s1,s2⟩ | s1
     ·rw [s1,s2]; rfl
     ·rw [s1,Bool.or_true]
    unfold operK
    simp only [hop,hb]
    rfl
   case call c=>
    unfold operK
    simp only [hop]
    rw [hop] at hka
    cases hc:c.callee
    case builtin b=>simp only
    all_goals (exfalso; simp [appOp,hc] at hka)
   all_goals (exfalso; rw [hop] at hka; simp [appOp] at hka)
  rw [heq] at h
  exact fin topIds_deep (by unfold killOp; rw [hka,Bool.true_or]) heq (app_foot hka hst h)
 | false=>
  have hl:localOp o.op=true:=by
   unfold mixOp at hl
   rw [hka,Bool.or_false] at hl
   exact hl
  cases hk:killOp G o.op with
  | false=>
   obtain ⟨x,m',h1,h2,h3⟩:=oper_local hC hl hk h
   have hn:∀ m:Mem,kill m (fun _=>none) []=m:=fun m=>by funext j; exact kill_out (by simp)
   exact ⟨x,m',[],fun _=>none,h1,by rw [hn]; exact h2,by simp,fun m2 S' a b c=>by rw [hn]; exact h3 m2 S' a b c⟩
  | true=>
   have hk':=hk
   unfold killOp at hk'
   rw [hka,Bool.false_or] at hk'
   cases hop:o.op <;> rw [hop] at hk' <;> (try (cases hk'; done))
   rename_i t len parts
   have heq:∀ m K,operK G C true o S m id K=opK G o.op S m id K:=by
    intro m K
    unfold operK
    simp only [hop,hk']
    rfl
   rw [heq,hop] at h
   rw [← hop]
   have h9:=fin (D:=deepIds) (fun h=>h) hk heq (by rw [hop]; exact build_foot h)
   rw [hk] at h9
   exact h9
end
end Go.Proofs.Ev
namespace Go.Proofs.Ev
open Go Go.RowKit
set_option linter.unusedVariables false
section
variable {R:Type} {G:Cfg} {S S' : List AV} {m m' m2:Mem} {C:FuncId→List AV→(AV→Option R)→Option R} {dr:Bool} {o:Oper} {r:R} {all:List Oper} {n i:Nat}
def want (all:List Oper) (S:List AV) (o:Oper):Option Bool:=
 match o.guard with
 | none=>some true
 | some (g,w)=>match all[g]? with
  | some og=>match og.dst with
   | some d=>match S.getD d .undef with
    | .v (.bool p)=>some (p==w)
    | .tup []=>some false
    | _=>none
   | none=>none
  | none=>none
theorem set_same {S:List AV} {d:Nat} {p:Bool} (h:S.getD d .undef=vb p):S.set d (vb p)=S:=by
 apply List.ext_getElem?
 intro t
 rw [List.getElem?_set]
 by_cases e:d=t
 ·subst e
  rw [List.getD_eq_getElem?_getD] at h
  cases hs:S[d]? with
  | none=>rw [hs] at h; cases h
  | some y=>
   rw [hs] at h
   have hlt:=(List.getElem?_eq_some_iff.1 hs).1
   simp at h
   simp [hlt,h]
 ·simp [e]
theorem stepK_eq {K:List AV→Mem→Option R} (ho:all[i]?=some o):stepK G C dr all n i S m K=match want all S o with
  | some true=>operK G C dr o S m (8*(n+i)) fun x m=>K (put S o.dst x) m
  | some false=>K (put S o.dst (.tup [])) m
  | none=>none:=by
 unfold stepK want
 simp only [ho]
 cases hg:o.guard with
 | none=>simp only
 | some gw=>
  obtain ⟨g,w⟩:=gw
  simp only
  cases hog:all[g]? with
  | none=>simp only
  | some og=>
   simp only
   cases hd:og.dst with
   | none=>simp only
   | some d=>
    simp only
    generalize hx:S.getD d .undef=X
    cases X with
    | v y=>
     cases y with
     | bool p=>
      simp only [withBool]
      cases p <;> cases w <;> simp [set_same hx]
     | _=>simp only [withBool]
    | tup xs=>
     cases xs with
     | nil=>simp only
     | cons=>simp only [withBool]
    | _=>simp only [withBool]
end
end Go.Proofs.Ev
namespace Go.Proofs.Ev
open Go Go.RowKit
set_option linter.unusedVariables false
section
variable {R:Type} {G:Cfg} {S S' : List AV} {m m' m2:Mem} {C:FuncId→List AV→(AV→Option R)→Option R} {dr:Bool} {o:Oper} {r:R} {ops:Array Oper} {n i:Nat}
theorem ev_put {d:Option Tmp} {v:AV} {x:Operand} (h:∀ t,d=some t→x≠.tmp t):ev G (put S d v) x=ev G S x:=by
 cases d with
 | none=>rfl
 | some t=>
  cases x with
  | tmp k=>
   have hne:t≠k:=fun e=>h t rfl (e ▸ rfl)
   simp only [ev,put,List.getD_eq_getElem?_getD,List.getElem?_set_ne hne]
  | _=>rfl
theorem looks_op {o:Oper} {d:Option Tmp} (h:∀ t,d=some t→t ∉ o.looksAt ops):∀ x∈o.op.operands,∀ t,d=some t→x≠.tmp t:=by
 intro x hx t ht e
 subst e
 exact h t ht (List.mem_append_left _ (List.mem_filterMap.2 ⟨.tmp t,by simpa using hx,rfl⟩))
theorem ev_looks {o:Oper} {d:Option Tmp} {v:AV} (h:∀ t,d=some t→t ∉ o.looksAt ops):∀ x∈o.op.operands,ev G (put S d v) x=ev G S x:=
 fun x hx=>ev_put (looks_op h x hx)
theorem want_put {o:Oper} {d:Option Tmp} {v:AV} (h:∀ t,d=some t→t ∉ o.looksAt ops):want ops.toList (put S d v) o=want ops.toList S o:=by
 cases d with
 | none=>rfl
 | some t=>
  unfold want
  cases hg:o.guard with
  | none=>rfl
  | some gw=>
   obtain ⟨g,w⟩:=gw
   simp only
   cases hog:ops.toList[g]? with
   | none=>rfl
   | some og=>
    simp only
    cases hd:og.dst with
    | none=>rfl
    | some k=>
     have hog' : ops[g]?=some og:=by rw [← hog]; simp
     have hne:t≠k:=fun e=>h t rfl (by subst e; simp [Oper.looksAt,hg,hog',hd])
     have e:(put S (some t) v).getD k .undef=S.getD k .undef:=by simp only [put,List.getD_eq_getElem?_getD,List.getElem?_set_ne hne]
     simp only [e]
theorem put_comm {d e:Option Tmp} {v u:AV} (h:∀ t,d=some t→e≠some t):put (put S d v) e u=put (put S e u) d v:=by
 cases d with
 | none=>rfl
 | some t=>
  cases e with
  | none=>rfl
  | some k=>
   have hne:t≠k:=fun hh=>h t rfl (hh ▸ rfl)
   simp only [put]
   exact List.set_comm _ _ hne
end
end Go.Proofs.Ev
namespace Go.Proofs.Ev
open Go Go.RowKit
set_option linter.unusedVariables false
section
variable {R:Type} {G:Cfg} {S S' : List AV} {m m' m2:Mem} {C:FuncId→List AV→(AV→Option R)→Option R} {o:Oper} {r:R} {ops:Array Oper} {n:Nat} {tb:Nat→Bool}
theorem pureOp_inv {dr:Bool} {id:Nat} (h:pureOp o.op=true) {K:AV→Mem→Option R} (hK:operK G C dr o S m id K=some r) :
  ∃ x,K x m=some r∧∀ m2 dr2,Does G C dr2 o S m2 id x m2:=by
 have heq:∀ dr m id (K:AV→Mem→Option R),operK G C dr o S m id K=opK G o.op S m id K:=by
  intro dr m id K
  unfold operK
  cases hop:o.op
  case call c=>
   rw [hop] at h
   cases hc:c.callee with
   | value f=>simp [pureOp,hc] at h
   | _=>simp only [hc]
  case buildSlice t n ps=>rw [hop] at h; cases h
  case store t p x=>rw [hop] at h; cases h
  all_goals rfl
 rw [heq,opK_pure (m2:=m) o.op K h,Option.bind_eq_some_iff] at hK
 obtain ⟨x,h1,h2⟩:=hK
 refine ⟨x,h2,fun m2 dr2 K' r' hK'=>?_⟩
 rw [heq,opK_pure (m2:=m) o.op K' h,h1]
 exact hK'
theorem readOp_inv {dr:Bool} {id:Nat} (h:readOp o.op=true) {K:AV→Mem→Option R} (hK:operK G C dr o S m id K=some r) :
  ∃ x,K x m=some r∧∀ m2 dr2,(∀ y∈o.op.operands,∀ j∈topIds (ev G S y),m2 j=m j)→Does G C dr2 o S m2 id x m2:=by
 have heq:∀ dr m id (K:AV→Mem→Option R),operK G C dr o S m id K=opK G o.op S m id K:=by
  intro dr m id K
  unfold operK
  cases hop:o.op
  case call c=>
   rw [hop] at h
   cases hc:c.callee with
   | value f=>simp [readOp,hc] at h
   | _=>simp only [hc]
  case buildSlice t n ps=>rw [hop] at h; cases h
  case store t p x=>rw [hop] at h; cases h
  all_goals rfl
 rw [heq,opK_read (m2:=m) o.op K h (fun _ _ _ _=>rfl),Option.bind_eq_some_iff] at hK
 obtain ⟨x,h1,h2⟩:=hK
 refine ⟨x,h2,fun m2 dr2 hm K' r' hK'=>?_⟩
 rw [heq,opK_read (m:=m2) (m2:=m) o.op K' h (fun y hy j hj=>(hm y hy j hj).symm),h1]
 exact hK'
theorem swap_ok (hC:Natural C) {a b:Nat} {p q:Oper} {da db:Bool} {K:List AV→Mem→Option R} (hp:ops.toList[a]?=some p) (hq:ops.toList[b]?=some q) (hab:a≠b) (hap:p.apart ops q=true)
  (hcls:pureOp p.op=true∨pureOp q.op=true∨(mixOp p.op=true∧mixOp q.op=true∧da=true∧db=true∧
   (∀ y∈p.op.operands,∀ j∈deepIds (ev G S y),¬ (8*(n+b)≤j∧j < 8*(n+b)+8))∧(∀ y∈q.op.operands,∀ j∈deepIds (ev G S y),¬ (8*(n+a)≤j∧j < 8*(n+a)+8))∧
   (killOp G p.op=true→∀ y∈q.op.operands,∀ j∈deepIds (ev G S y),isBox (m j)=true)∧(killOp G q.op=true→∀ y∈p.op.operands,∀ j∈deepIds (ev G S y),isBox (m j)=true)∧
   (stOp p.op=true→∀ y∈q.op.operands,∀ j∈deepIds (ev G S y),tb j=false)∧(stOp q.op=true→∀ y∈p.op.operands,∀ j∈deepIds (ev G S y),tb j=false)∧stOk G tb S p.op=true∧stOk G tb S q.op=true)∨
   (readOp p.op=true∧Far R G C db q S m (8*(n+b)) (fun j=>∃ z∈p.op.operands,j∈topIds (ev G S z)))∨(readOp q.op=true∧Far R G C da p S m (8*(n+a)) (fun j=>∃ z∈q.op.operands,j∈topIds (ev G S z))))
  (h:stepK G C da ops.toList n a S m (fun S1 m1=>stepK G C db ops.toList n b S1 m1 K)=some r) :
  stepK G C db ops.toList n b S m (fun S1 m1=>stepK G C da ops.toList n a S1 m1 K)=some r:=by
 obtain ⟨h1,h2,h3⟩:=Oper.apart_spec hap
 rw [stepK_eq hq]
 rw [stepK_eq hp] at h
 have cq:∀ (v:AV),want ops.toList (put S p.dst v) q=want ops.toList S q:=fun v=>want_put h1
 have cp:∀ (v:AV),want ops.toList (put S q.dst v) p=want ops.toList S p:=fun v=>want_put h3
 have eq:∀ (v:AV),∀ x∈q.op.operands,ev G (put S p.dst v) x=ev G S x:=fun v=>ev_looks h1
 have ep:∀ (v:AV),∀ x∈p.op.operands,ev G (put S q.dst v) x=ev G S x:=fun v=>ev_looks h3
 cases wp:want ops.toList S p with
 | none=>rw [wp] at h; cases h
 | some bp=>
  rw [wp] at h
  cases bp with
  | false=>
   simp only at h
   rw [stepK_eq hq,cq] at h
   cases wq:want ops.toList S q with
   | none=>rw [wq] at h; cases h
   | some bq=>
    rw [wq] at h
    cases bq with
    | false=>
     simp only at h ⊢
     rw [stepK_eq hp,cp,wp]
     simp only
     rw [← put_comm h2]
     exact h
    | true=>
     simp only at h ⊢
     rw [operK_congr (eq _)] at h
     obtain ⟨x,m1,k1,k2⟩:=operK_inv hC h
     refine k2 _ _ ?_
     rw [stepK_eq hp,cp,wp]
     simp only
     rw [← put_comm h2]
     exact k1
  | true=>
   simp only at h
   cases wq:want ops.toList S q with
   | none=>
    obtain ⟨x,m1,k1,_⟩:=operK_inv hC h
    rw [stepK_eq hq,cq,wq] at k1
    cases k1
   | some bq=>
    cases bq with
    | false=>
     obtain ⟨x,m1,k1,k2⟩:=operK_inv hC h
     rw [stepK_eq hq,cq,wq] at k1
     simp only at k1 ⊢
     rw [stepK_eq hp,cp,wp]
     simp only
     rw [operK_congr (ep _)]
     refine k2 _ _ ?_
     rw [← put_comm h2]
     exact k1
    | true=>
     simp only
     rcases hcls with hpu | hpu | ⟨l1,l2,rfl,rfl,ra,rb,bq,bp,sq,sp,tp,tq⟩ | ⟨hre,hfar⟩ | ⟨hre,hfar⟩
     ·obtain ⟨x,k1,k2⟩:=pureOp_inv hpu h
      rw [stepK_eq hq,cq,wq] at k1
      simp only at k1
      rw [operK_congr (eq _)] at k1
      obtain ⟨y,m2,k3,k4⟩:=operK_inv hC k1
      refine k4 _ _ ?_
      rw [stepK_eq hp,cp,wp]
      simp only
      rw [operK_congr (ep _)]
      refine k2 m2 _ _ _ ?_
      rw [← put_comm h2]
      exact k3
     ·obtain ⟨x,m1,k1,k2⟩:=operK_inv hC h
      rw [stepK_eq hq,cq,wq] at k1
      simp only at k1
      rw [operK_congr (eq _)] at k1
      obtain ⟨y,k3,k4⟩:=pureOp_inv hpu k1
      refine k4 m _ _ _ ?_
      rw [stepK_eq hp,cp,wp]
      simp only
      rw [operK_congr (ep _)]
      refine k2 _ _ ?_
      rw [← put_comm h2]
      exact k3
     ·have hdis:8*(n+a)+8≤8*(n+b)∨8*(n+b)+8≤8*(n+a):=by omega
      have out:∀ (m:Mem) (id:Nat) (f:Mem) (j:Nat),¬ (id≤j∧j < id+8)→over m id f j=m j:=by
       intro m id f j hj
       unfold over
       cases hb:(Nat.ble id j&&Nat.blt j (id+8)) with
       | false=>rfl
       | true=>
        rw [Bool.and_eq_true] at hb
        exact absurd ⟨Nat.le_of_ble_eq_true hb.1,by simpa using hb.2⟩ hj
      have tgt:∀ {o:Oper} {j:Nat},stOk G tb S o.op=true→(∃ t p x off,o.op=.store t p x∧ev G S p=.ptr j off)→stOp o.op=true∧tb j=true:=by
       rintro o j ht ⟨t,p,x,off,e1,e2⟩
       rw [e1] at ht ⊢
       simp only [stOk,e2] at ht
       exact ⟨rfl,ht⟩
      obtain ⟨x,m1,kp,fp,k1,e1,j1,k2⟩:=oper_mix hC l1 h
      rw [stepK_eq hq,cq,wq] at k1
      simp only at k1
      rw [operK_congr (eq _)] at k1
      obtain ⟨y,m2,kq,fq,k3,e2,j2,k4⟩:=oper_mix hC l2 k1
      -- what is changed by 'p' is not looked at by 'q',nor one of its own ids; and the other way round
      have p1:∀ j∈kp,(∀ z∈q.op.operands,j ∉ deepIds (ev G S z))∧¬ (8*(n+b)≤j∧j < 8*(n+b)+8):=by
       intro j hj
       obtain ⟨ha,⟨z,hz,hzj⟩,_,hrow⟩:=j1 j hj
       refine ⟨fun z' hz' hj'=>?_,ra z hz j hzj⟩
       rcases hrow with hrow | hrow
       ·rw [bq ha z' hz' j hj'] at hrow; cases hrow
       ·obtain ⟨t1,t2⟩:=tgt tp hrow
        rw [sq t1 z' hz' j hj'] at t2
        cases t2
      have q1:∀ j∈kq,(∀ z∈p.op.operands,j ∉ deepIds (ev G S z))∧¬ (8*(n+a)≤j∧j < 8*(n+a)+8):=by
       intro j hj
       obtain ⟨ha,⟨z,hz,hzj⟩,_,hrow⟩:=j2 j hj
       have hout:=rb z hz j hzj
       refine ⟨fun z' hz' hj'=>?_,hout⟩
       rcases hrow with hrow | hrow
       ·rw [e1,out _ _ _ _ hout] at hrow
        have hb:=bp ha z' hz' j hj'
        by_cases hkp:j∈kp
        ·rw [kill_in hkp,(j1 j hkp).2.2.1,hb] at hrow; cases hrow
        ·rw [kill_out hkp,hb] at hrow; cases hrow
       ·obtain ⟨t1,t2⟩:=tgt tq hrow
        rw [sp t1 z' hz' j hj'] at t2
        cases t2
      have aq:∀ z∈q.op.operands,∀ j∈deepIds (ev G S z),m j=m1 j:=by
       intro z hz j hj
       rw [e1,out _ _ _ _ (rb z hz j hj),kill_out (fun e=>(p1 j e).1 z hz hj)]
      have ao:∀ j,8*(n+b)≤j→j < 8*(n+b)+8→m j=m1 j:=by
       intro j hj1 hj2
       rw [e1,out _ _ _ _ (by omega),kill_out (fun e=>(p1 j e).2 ⟨hj1,hj2⟩)]
      refine k4 m S (fun _ _=>rfl) aq ao _ _ ?_
      rw [stepK_eq hp,cp,wp]
      simp only
      refine k2 _ _ (fun z hz=>(ep _ z hz).symm) (fun z hz j hj=>?_) (fun j hj1 hj2=>?_) _ _ ?_
      ·rw [out _ _ _ _ (ra z hz j hj),kill_out (fun e=>(q1 j e).1 z hz hj)]
      ·rw [out _ _ _ _ (by omega),kill_out (fun e=>(q1 j e).2 ⟨hj1,hj2⟩)]
      ·have e3:over (kill (over (kill m fq kq) (8*(n+b)) m2) fp kp) (8*(n+a)) m1=m2:=by
        rw [e2]
        funext j
        by_cases ha:8*(n+a)≤j∧j < 8*(n+a)+8
        ·have hb:¬ (8*(n+b)≤j∧j < 8*(n+b)+8):=by omega
         rw [out _ (8*(n+b)) _ _ hb,kill_out (fun e=>(q1 j e).2 ha)]
         have:(Nat.ble (8*(n+a)) j&&Nat.blt j (8*(n+a)+8))=true:=by
          rw [Bool.and_eq_true]
          exact ⟨Nat.ble_eq_true_of_le ha.1,by have:=ha.2; simp [Nat.blt]; omega⟩
         simp only [over,this,cond_true]
        ·rw [out _ (8*(n+a)) _ _ ha]
         by_cases hb:8*(n+b)≤j∧j < 8*(n+b)+8
         ·rw [kill_out (fun e=>(p1 j e).2 hb)]
          have:(Nat.ble (8*(n+b)) j&&Nat.blt j (8*(n+b)+8))=true:=by
           rw [Bool.and_eq_true]
           exact ⟨Nat.ble_eq_true_of_le hb.1,by have:=hb.2; simp [Nat.blt]; omega⟩
          simp only [over,this,cond_true]
         ·rw [out _ (8*(n+b)) m2 j hb]
          have hm1:m1 j=(kill m fp kp) j:=by rw [e1,out _ _ _ _ ha]
          by_cases hkp:j∈kp
          ·have hkq:j ∉ kq:=by
            intro e
            obtain ⟨_,⟨z,hz,hzj⟩,_⟩:=j1 j hkp
            exact (q1 j e).1 z hz hzj
           rw [kill_in hkp,kill_out hkq,hm1,kill_in hkp]
          ·rw [kill_out hkp,out _ _ _ _ hb]
           by_cases hkq:j∈kq
           ·rw [kill_in hkq,kill_in hkq]
           ·rw [kill_out hkq,kill_out hkq,hm1,kill_out hkp]
       rw [e3,← put_comm h2]
       exact k3
     ·obtain ⟨x,k1,k2⟩:=readOp_inv hre h
      rw [stepK_eq hq,cq,wq] at k1
      simp only at k1
      rw [operK_congr (eq _)] at k1
      obtain ⟨y,m2,k3,k4,k5⟩:=hfar _ _ k1
      refine k4 _ _ ?_
      rw [stepK_eq hp,cp,wp]
      simp only
      rw [operK_congr (ep _)]
      refine k2 m2 _ (fun z hz j hj=>k5 j ⟨z,hz,hj⟩) _ _ ?_
      rw [← put_comm h2]
      exact k3
     ·obtain ⟨x,m1,k1,k2,k5⟩:=hfar _ _ h
      rw [stepK_eq hq,cq,wq] at k1
      simp only at k1
      rw [operK_congr (eq _)] at k1
      obtain ⟨y,k3,k4⟩:=readOp_inv hre k1
      refine k4 m _ (fun z hz j hj=>(k5 j ⟨z,hz,hj⟩).symm) _ _ ?_
      rw [stepK_eq hp,cp,wp]
      simp only
      rw [operK_congr (ep _)]
      refine k2 _ _ ?_
      rw [← put_comm h2]
      exact k3
end
end Go.Proofs.Ev
end
