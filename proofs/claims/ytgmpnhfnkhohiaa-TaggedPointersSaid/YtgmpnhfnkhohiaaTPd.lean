/- Functions of the library by their contracts: slices.Grow of nil, slices.Clone. -/
import Derived.Test.YtgmpnhfnkhohiaaTPb
import Derived.Shelf.Spec.SlicesGrow
import Derived.Shelf.SlLaysE0
import Derived.Shelf.RegionOpenPlain
import Derived.WalkKit
import Derived.Deep.LoopGhost
import Derived.Lib.Walk
import Derived.Lib.SliceRun
import Derived.Maps.AppendAt

namespace Go.Proofs
open Go.Shelf Go.RowKit Go.Lib
set_option linter.unusedVariables false

namespace Ev
/-- A function of the program's own text by a contract. -/
theorem hands_calls {P : Program} {f : FuncId} {fn : Func} {args : List AV} {x : AV} (hf : P.funcs[f]? = some fn) (hname : (fn.name == "runtime.NumGoroutine") = false) (hbody : fn.body.isNone = false)
    (h : ∀ (w : World) (F : Nat → Prop) (vals : Array Value), (∀ b, F b → b < w.heap.size) → vals.size = args.length → (∀ j c, args[j]? = some c → Rel w F c (vals.getD j Go.undef)) →
      Calls P f vals w fun e w' => match e with
      | .returned v => ∃ F' β, Came w w' F F' β ∧ Res w' F' β x v
      | _ => False) : HandsIn P f args x := by
  intro w F vals h1 h2 h3
  have n1 : ¬ fn.name = "runtime.NumGoroutine" := by simpa using hname
  have n2 : ¬ fn.body = none := by intro e; simp [e] at hbody
  exact ⟨by simp [callFunc, hf, n1, n2], h w F vals h1 h2 h3⟩

theorem vals1 {w : World} {F : Nat → Prop} {x : AV} {vals : Array Value} (hl : vals.size = [x].length) (h : ∀ j c, [x][j]? = some c → Rel w F c (vals.getD j Go.undef)) : ∃ u, vals = #[u] ∧ Rel w F x u := by
  obtain ⟨l⟩ := vals
  match l, hl with
  | [u], _ => exact ⟨u, rfl, h 0 x rfl⟩
theorem vals2 {w : World} {F : Nat → Prop} {x y : AV} {vals : Array Value} (hl : vals.size = [x, y].length) (h : ∀ j c, [x, y][j]? = some c → Rel w F c (vals.getD j Go.undef)) : ∃ u v, vals = #[u, v] ∧ Rel w F x u ∧ Rel w F y v := by
  obtain ⟨l⟩ := vals
  match l, hl with
  | [u, v], _ => exact ⟨u, v, rfl, h 0 x rfl, h 1 y rfl⟩
theorem vals3 {w : World} {F : Nat → Prop} {x y z : AV} {vals : Array Value} (hl : vals.size = [x, y, z].length) (h : ∀ j c, [x, y, z][j]? = some c → Rel w F c (vals.getD j Go.undef)) : ∃ u v t, vals = #[u, v, t] ∧ Rel w F x u ∧ Rel w F y v ∧ Rel w F z t := by
  obtain ⟨l⟩ := vals
  match l, hl with
  | [u, v, t], _ => exact ⟨u, v, t, rfl, h 0 x rfl, h 1 y rfl, h 2 z rfl⟩
theorem rel_v {w : World} {F : Nat → Prop} {x v : Value} (h : Rel w F (.v x) v) : v = x := by cases h; rfl

theorem Came.same {w : World} {F : Nat → Prop} (hF : ∀ b, F b → b < w.heap.size) : Came w w F F (fun _ => none) :=
  ⟨Below.refl _ _, fun _ h => h, fun b hb => ⟨hF b hb, .inl hb⟩, by simp, by simp⟩

theorem grow_hands {P : Program} {G : Cfg} {ρ : Ren} (L : Lays8.n4 P ρ) (hG : CfgOk P G) {ei : TI} (hei : G.tab (ρ.t 25) = some ei) (hb : ei.bytes ≤ 4096) (hs : 1 ≤ ei.size) {fl : Bool} {fn : Func} (hf : P.funcs[ρ.f 4]? = some fn)
    (hname : (fn.name == "runtime.NumGoroutine") = false) (hbody : fn.body.isNone = false) (k : Nat) (hk : k ≤ most) :
    HandsIn P (ρ.f 4) [.v (.slice none 0 0), .v (.int .i64 k)] (.fr fl ei.size []) := by
  refine hands_calls hf hname hbody fun w F vals hF hl hr => ?_
  obtain ⟨u, v, rfl, hu, hv⟩ := vals2 hl hr
  obtain rfl := rel_v hu
  obtain rfl := rel_v hv
  obtain ⟨i, hi, e1, e2, z, hz, hzc, _⟩ := (hG.ti _ _ hei).info
  have hk' : k ≤ 1000000000 := hk
  by_cases h0 : k = 0
  · subst h0
    refine (Any8.slices_Grow_room L none 0 0 0 w (by omega) (by omega) (by omega) (by omega)).mono ?_
    rintro e w' ⟨rfl, rfl⟩
    exact ⟨F, fun _ => none, Came.same hF, ⟨by simp, by simp [flatL], .inl ⟨rfl, rfl⟩⟩, none, 0, rfl, by simp, .inl ⟨rfl, rfl⟩⟩
  · have hzs : z.cells.size = ei.size := by rw [← Array.length_toList, hzc, (hG.ti _ _ hei).szl]
    refine (Any8.slices_Grow_grow L i z hi hz (by omega) none 0 0 k [] w (by omega) (by omega) ?_ (by omega) (by simp) (fun _ => rfl) (by simp)).mono ?_
    · rw [Nat.zero_add, e2]
      have := Nat.mul_le_mul hk' hb
      omega
    rintro e w' ⟨rfl, rfl⟩
    have hge : k ≤ grownCap w (0 + k) 0 (ρ.t 25) := by have := grownCap_ge w (0 + k) 0 (ρ.t 25); omega
    obtain ⟨C, hC⟩ : ∃ C, C = (([] : List Value).toArray ++ Builtin.zeroCells z.cells (0 + k - 0) ++ Builtin.zeroCells z.cells (grownCap w (0 + k) 0 (ρ.t 25) - (0 + k))) := ⟨_, rfl⟩
    have hsz : C.size = grownCap w (0 + k) 0 (ρ.t 25) * ei.size := by
      rw [hC]
      simp only [Array.size_append, size_zeroCells, hzs, List.size_toArray, List.length_nil, Nat.zero_add, Nat.sub_zero]
      rw [← Nat.add_mul]
      congr 1
      simp only [Nat.zero_add] at hge
      omega
    rw [← hC]
    generalize grownCap w (0 + k) 0 (ρ.t 25) = cap at *
    have hheap : ((w.drew).alloc (.cells C (ρ.t 25))).heap[w.heap.size]? = some (.cells C (ρ.t 25)) := alloc_heap w.drew _
    have hsize : ((w.drew).alloc (.cells C (ρ.t 25))).heap.size = w.heap.size + 1 := by
      show (w.heap.push _).size = _
      simp
    refine ⟨F, fun j => if j = 0 then some (w.heap.size, 0, C.size) else none, ⟨?_, fun _ h => h, ?_, ?_, ?_⟩, ⟨by simp, by simp [flatL], .inr ⟨w.heap.size, 0, C, ρ.t 25, (0, 0), rfl, hheap, by simp, ?_, by simp [flatL]⟩⟩, _, cap, rfl, by simp, .inr ⟨w.heap.size, 0, C.size, _, rfl, rfl, rfl, .inr ⟨rfl, by omega⟩⟩⟩
    · exact ((Below.refl _ w).drew).alloc (Nat.le_refl _) _
    · intro b hb
      refine ⟨?_, .inl hb⟩
      have := hF b hb
      omega
    · intro j b o n hj
      replace hj : (if j = 0 then some (w.heap.size, 0, C.size) else none) = some (b, o, n) := hj
      split at hj
      · cases hj
        refine ⟨Nat.le_refl _, by omega, fun hb => ?_⟩
        exact absurd (hF _ hb) (Nat.lt_irrefl _)
      · cases hj
    · intro j j' b o n o' n' hj hj'
      replace hj : (if j = 0 then some (w.heap.size, 0, C.size) else none) = some (b, o, n) := hj
      replace hj' : (if j' = 0 then some (w.heap.size, 0, C.size) else none) = some (b, o', n') := hj'
      split at hj
      · split at hj'
        · rename_i e1 e2; rw [e1, e2]
        · cases hj'
      · cases hj
    · intro j _ h
      omega
end Ev

set_option maxHeartbeats 2000000 in
set_option maxRecDepth 100000 in
theorem Ev.clone_calls {P : Program} {ρ : Ren} (L : SlLaysE0.n41 P ρ) (i0 : TypeInfo) (z : Value) (size bytes : Nat) (hi : P.info? (ρ.t 23) = some i0) (hz0 : i0.zero = some z) (hz1 : i0.size = size) (hz2 : i0.bytes = bytes) (hzs : z.cells.size = size) (hsz : 0 < size)
    (z23 : ∀ w, (Go.sizeOf (ρ.t 23)).run P w = .ok size w) (ad : Addr) (n c : Nat) (news : List Value) (w : World) (hl : news.length = n * size) (hn : n ≤ maxLen) (hbig : n * bytes ≤ 140737488355328)
    (hc : ∀ j u, news[j]? = some u → w.cell? (ad.add j) = some u) (h1 : ∀ u ∈ news, u.oneCell' = true) :
    Calls P (ρ.f 41) #[.slice (some ad) n c] w fun e w' => ∃ v', e = .returned v' ∧ w'.ownsRow w.heap.size (ρ.t 23) size v' n news ∧ Below w.heap.size w w' := by
  have mixed := L.mixed; have t4 := L.t4; have a4 := L.a4; have z4 := L.z4; have v4 := L.v4; have t22 := L.t22; have a22 := L.a22; have z22 := L.z22; have v22 := L.v22
  have q22 : ∀ (w : World) (a : Option Addr) (n c n' c' : Nat), (binOp .eql (ρ.t 22) (.slice a n c) (.slice none n' c')).run P w = .ok (.bool a.isNone) w := fun w a n c n' c' => Lib.run_eql_slice_nil w _ _ a n c n' c' L.t22
  have u22 : ∀ w, Sem.run P (underlying (ρ.t 22)) w = .ok (TypeDesc.slice (ρ.t 23)) w := run_underlying t22
  have A : Aside (∀ j u, news[j]? = some u → w.cell? (ad.add j) = some u) := hc
  clear hc
  obtain ⟨_, _, FG⟩ := L.f41
  go_enter FG, SlBodyN.n41_ntmps ρ
  go_wp2_with (at_builtin; refine wpList_append_own_at _ rfl _ _ (ρ.t 22) rfl w.heap.size (ρ.t 23) i0 z size bytes t22 hi hz0 hz1 hz2 hzs hsz _ _ _ rfl (World.ownsRow_made w #[] 0 (Nat.le_refl _) (Nat.zero_le _) (by simp)) ad n c news rfl ?qc1 ?qc2 ?qc3 ?qc4 ?qc5 ?qc6 ?_)
  case qc1 => exact hl
  case qc2 =>
    intro j u hj
    exact Lib.cell?_alloc_some _ (A.out j u hj)
  case qc3 => exact h1
  case qc4 => rw [Nat.zero_add]; exact hn
  case qc5 => rw [Nat.zero_add]; exact hbig
  case qc6 => simp
  intro v' w1 hown hgrow hnil _
  go_wp2
  go_ret
  refine ⟨v', rfl, by simpa using hown, ?_⟩
  exact ((Below.refl _ w).alloc (Nat.le_refl _) _).grown hgrow (by simp) (by intro k hk; simp [Value.ownBlock] at hk; omega)

theorem Ev.clone_nil_calls {P : Program} {ρ : Ren} (L : SlLaysE0.n41 P ρ) (n c : Nat) (w : World) :
    Calls P (ρ.f 41) #[.slice none n c] w fun e w' => e = .returned (.slice none 0 0) ∧ w' = w := by
  have mixed := L.mixed; have t4 := L.t4; have a4 := L.a4; have z4 := L.z4; have v4 := L.v4; have t22 := L.t22; have a22 := L.a22; have z22 := L.z22; have v22 := L.v22
  have q22 : ∀ (w : World) (a : Option Addr) (n c n' c' : Nat), (binOp .eql (ρ.t 22) (.slice a n c) (.slice none n' c')).run P w = .ok (.bool a.isNone) w := fun w a n c n' c' => Lib.run_eql_slice_nil w _ _ a n c n' c' L.t22
  obtain ⟨_, _, FG⟩ := L.f41
  go_enter FG, SlBodyN.n41_ntmps ρ
  go_wp2
  go_ret
  exact ⟨rfl, rfl⟩

namespace Ev
/-- What a call of its own hands over: a row whose cells are told. -/
theorem res_ownsRow {w w' : World} {F : Nat → Prop} {e : TypeId} {size : Nat} {v : Value} {fl : Bool} {xs : List AV} {news : List Value} (hF : ∀ b, F b → b < w.heap.size) (hown : w'.ownsRow w.heap.size e size v xs.length news) (hB : Below w.heap.size w w')
    (hs : ∀ x ∈ xs, x.cells.length = size) (hf : ∀ x ∈ flatL xs, okE fl x) (hr : ∀ j c, (flatL xs)[j]? = some c → Rel w' F c (news.getD j Go.undef)) :
    ∃ F' β, Came w w' F F' β ∧ Res w' F' β (.fr fl size xs) v := by
  obtain ⟨hl, hv⟩ := hown
  rcases hv with ⟨rfl, h0⟩ | ⟨g, cap, cur, rfl, hbg, hg, hnc, hcm, hcs, htake⟩
  · have : xs = [] := List.length_eq_zero_iff.1 h0
    subst this
    exact ⟨F, fun _ => none, ⟨hB, fun _ h => h, fun b hb => ⟨Nat.lt_of_lt_of_le (hF b hb) hB.size, .inl hb⟩, by simp, by simp⟩, ⟨by simp, by simp [flatL], .inl ⟨rfl, rfl⟩⟩, none, 0, rfl, by simp, .inl ⟨rfl, rfl⟩⟩
  · have hlt : g < w'.heap.size := (Array.getElem?_eq_some_iff.1 hg).1
    have hfl := (flat_get size xs hs).1
    refine ⟨F, fun j => if j = 0 then some (g, 0, cur.size) else none, ⟨hB, fun _ h => h, fun b hb => ⟨Nat.lt_of_lt_of_le (hF b hb) hB.size, .inl hb⟩, ?_, ?_⟩, ⟨hs, hf, .inr ⟨g, 0, cur, e, (0, 0), rfl, hg, ?_, ?_, ?_⟩⟩, _, cap, rfl, hnc, .inr ⟨g, 0, cur.size, _, rfl, rfl, rfl, .inr ⟨rfl, by omega⟩⟩⟩
    · intro j b o n hj
      replace hj : (if j = 0 then some (g, 0, cur.size) else none) = some (b, o, n) := hj
      split at hj
      · cases hj
        exact ⟨hbg, hlt, fun hb => by have := hF _ hb; omega⟩
      · cases hj
    · intro j j' b o n o' n' hj hj'
      replace hj : (if j = 0 then some (g, 0, cur.size) else none) = some (b, o, n) := hj
      replace hj' : (if j' = 0 then some (g, 0, cur.size) else none) = some (b, o', n') := hj'
      split at hj
      · split at hj'
        · rename_i e1 e2; rw [e1, e2]
        · cases hj'
      · cases hj
    · rw [hcs]
      have := Nat.mul_le_mul_right size hnc
      omega
    · intro j _ h
      omega
    · intro j c hj
      have := hr j c hj
      have hj' : j < xs.length * size := by have := (List.getElem?_eq_some_iff.1 hj).1; omega
      rw [← htake] at this
      rw [List.getD_eq_getElem?_getD, List.getElem?_take_of_lt hj', Array.getElem?_toList] at this
      rw [Nat.zero_add, Array.getD_eq_getD_getElem?]
      exact this

theorem clone_hands {P : Program} {G : Cfg} {ρ : Ren} (L : SlLaysE0.n41 P ρ) (hG : CfgOk P G) {ei : TI} (hei : G.tab (ρ.t 23) = some ei) (hb : ei.bytes ≤ 4096) (hs : 1 ≤ ei.size) {fl : Bool} {fn : Func} (hf : P.funcs[ρ.f 41]? = some fn)
    (hname : (fn.name == "runtime.NumGoroutine") = false) (hbody : fn.body.isNone = false) (xs : List AV) (hk : xs.length ≤ most) :
    HandsIn P (ρ.f 41) [.sl fl ei.size xs] (.fr fl ei.size xs) := by
  refine hands_calls hf hname hbody fun w F vals hF hl hr => ?_
  obtain ⟨u, rfl, hu⟩ := vals1 hl hr
  have hT := hG.ti _ _ hei
  obtain ⟨i, hi, e1, e2, z, hz, hzc, _⟩ := hT.info
  have hzs : z.cells.size = ei.size := by rw [← Array.length_toList, hzc, hT.szl]
  have hk' : xs.length ≤ 1000000000 := hk
  cases hu with
  | slN =>
    refine (clone_nil_calls L 0 0 w).mono ?_
    rintro e w' ⟨rfl, rfl⟩
    exact ⟨F, fun _ => none, Came.same hF, ⟨by simp, by simp [flatL], .inl ⟨rfl, rfl⟩⟩, none, 0, rfl, by simp, .inl ⟨rfl, rfl⟩⟩
  | sl _ _ _ ad cap f hFa hcp hsz hok hcell hrel =>
    have hfl := (flat_get ei.size xs hsz).1
    have hget : ∀ j, j < (flatL xs).length → ((List.range (flatL xs).length).map f)[j]? = some (f j) := by intro j hj; simp [hj]
    refine (clone_calls L i z ei.size ei.bytes hi hz e1 e2 hzs (by omega) (fun w => hT.run_size w) ad xs.length cap ((List.range (flatL xs).length).map f) w (by rw [List.length_map, List.length_range, hfl]) (by unfold maxLen; omega) ?_ ?_ ?_).mono ?_
    · have := Nat.mul_le_mul hk' hb
      omega
    · intro j u hj
      have hlt : j < (flatL xs).length := by have := (List.getElem?_eq_some_iff.1 hj).1; simpa using this
      rw [hget j hlt] at hj
      cases hj
      exact hcell j hlt
    · intro v hv
      simp only [List.mem_map, List.mem_range] at hv
      obtain ⟨j, hj, rfl⟩ := hv
      rw [one_oneCell]
      have hg : (flatL xs)[j]? = some (flatL xs)[j] := List.getElem?_eq_getElem hj
      exact (hrel j _ hg).one_of (hok _ (List.getElem_mem hj)).1
    · rintro e w' ⟨v', rfl, hown, hB⟩
      refine res_ownsRow hF hown hB hsz hok fun j c hj => ?_
      have hlt := (List.getElem?_eq_some_iff.1 hj).1
      rw [List.getD_eq_getElem?_getD, hget j hlt]
      exact (hrel j c hj).mono (fun _ h => h) (fun b hb => hB.block b (hF b hb))
end Ev
end Go.Proofs
