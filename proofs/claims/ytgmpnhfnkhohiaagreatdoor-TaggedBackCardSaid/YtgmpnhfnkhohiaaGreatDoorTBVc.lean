/- A table of types, checked. -/
import Derived.Test.YtgmpnhfnkhohiaaGreatDoorTBVb
import Derived.Shelf.Spec.SlicesGrow
import Derived.Shelf.SlLaysE0
import Derived.Shelf.RegionOpenPlain
import Derived.WalkKit
import Derived.Deep.LoopGhost
import Derived.Lib.Walk
import Derived.Lib.SliceRun
import Derived.Maps.AppendAt
import Derived.OpenShut
import Derived.ChangeArms
import Derived.ProofKit
import Derived.ShutString
import Derived.ChangeOld
import Derived.Below
import Derived.Carry
import Derived.SizedLaws
import Derived.HandedShaped
import Derived.Shelf.Strings.Builder1
import Derived.Shelf.Strconv.ErrVarAll
import Derived.Shelf.Strings.SlTrimAscii
import Derived.LaidLaws
import Derived.MakeChecks

namespace Go.Proofs.Ev
open Go Go.RowKit
set_option linter.unusedVariables false
def zeroEq : Value → Value → Bool
  | .int k a, .int k' b => decide (k = k') && decide (a = b)
  | .bool a, .bool b => a == b
  | .string a, .string b => a.data.isEmpty && b.data.isEmpty
  | .slice none n c, .slice none n' c' => Nat.beq n n' && Nat.beq c c'
  | .pointer none, .pointer none | .nilIface, .nilIface | .nilFunc, .nilFunc => true
  | _, _ => false
theorem zeroEq_eq {x y : Value} (h : zeroEq x y = true) : x = y := by
  unfold zeroEq at h
  split at h
  · rw [Bool.and_eq_true] at h
    rw [of_decide_eq_true h.1, of_decide_eq_true h.2]
  · rw [eq_of_beq h]
  · rename_i a b
    rw [Bool.and_eq_true] at h
    obtain ⟨a⟩ := a
    obtain ⟨b⟩ := b
    have h1 : a = #[] := by simpa using h.1
    have h2 : b = #[] := by simpa using h.2
    rw [h1, h2]
  · rw [Bool.and_eq_true] at h
    rw [Nat.eq_of_beq_eq_true h.1, Nat.eq_of_beq_eq_true h.2]
  · rfl
  · rfl
  · rfl
  · cases h
def zerosEq : List Value → List Value → Bool
  | [], [] => true
  | x :: r, y :: s => zeroEq x y && zerosEq r s
  | _, _ => false
theorem zerosEq_eq : ∀ {x y : List Value}, zerosEq x y = true → x = y
  | [], [], _ => rfl
  | x :: r, y :: s, h => by
    simp only [zerosEq, Bool.and_eq_true] at h
    rw [zeroEq_eq h.1, zerosEq_eq h.2]
  | [], _ :: _, h => by cases h
  | _ :: _, [], h => by cases h
def isAggV : Value → Bool
  | .agg _ => true
  | _ => false
theorem isAggV_eq {z : Value} (h : isAggV z = true) : z = .agg z.cells := by
  cases z <;> first | rfl | cases h
def tiOkB (P : Program) (t : TypeId) (ti : TI) : Bool :=
  (match P.info? t with
   | some i => Nat.beq i.size ti.size && (Nat.beq i.bytes ti.bytes && (match i.zero with | some z => zerosEq z.cells.toList ti.zero && (!ti.isAgg || isAggV z) | none => false))
   | none => false) &&
  ((match P.underlying t with
   | some d => kdOk ti.kd d && (match d with | .struct fields => (fields.toList.all fun f => !(f.name == "_")) && !P.stoodInHeld t | _ => true)
   | none => false) &&
  ((ti.isAgg == ti.kd.agg) && (ti.zero.all one && (Nat.beq ti.zero.length ti.size && (Nat.beq ti.sks.length ti.size && (Nat.beq ti.tid t && (ti.isAgg || Nat.beq ti.size 1)))))))
theorem tiOk_of {P : Program} {t : TypeId} {ti : TI} (h : tiOkB P t ti = true) : TiOk P t ti := by
  unfold tiOkB at h
  simp only [Bool.and_eq_true] at h
  obtain ⟨h1, h2, h3, h4, h5, h6, h8, h7⟩ := h
  refine ⟨?_, ?_, eq_of_beq h3, h4, Nat.eq_of_beq_eq_true h5, Nat.eq_of_beq_eq_true h6, ?_, Nat.eq_of_beq_eq_true h8, ?_⟩
  · cases hi : P.info? t with
    | none => rw [hi] at h1; cases h1
    | some i =>
      rw [hi] at h1
      simp only [Bool.and_eq_true] at h1
      obtain ⟨e1, e2, e3⟩ := h1
      refine ⟨i, rfl, Nat.eq_of_beq_eq_true e1, Nat.eq_of_beq_eq_true e2, ?_⟩
      cases hz : i.zero with
      | none => rw [hz] at e3; cases e3
      | some z =>
        rw [hz] at e3
        simp only [Bool.and_eq_true] at e3
        refine ⟨z, rfl, zerosEq_eq e3.1, fun ha => ?_⟩
        have := e3.2
        rw [ha] at this
        exact isAggV_eq this
  · cases hu : P.underlying t with
    | none => rw [hu] at h2; cases h2
    | some d => rw [hu] at h2; simp only [Bool.and_eq_true] at h2; exact ⟨d, rfl, h2.1⟩
  · intro ha
    rw [ha] at h7
    exact Nat.eq_of_beq_eq_true h7
  · intro fields hu
    rw [hu] at h2
    simp only [Bool.and_eq_true] at h2
    refine ⟨fun f hf => ?_, by simpa using h2.2.2⟩
    have := List.all_eq_true.1 h2.2.1 f hf
    simpa using this
/-- The types 'a' to 'a + n - 1'. -/
def cfgOkB (P : Program) (G : Cfg) (a n : Nat) : Bool :=
  (List.range n).all fun i => match G.tab (a + i) with
    | .some ti => tiOkB P (a + i) ti && (match kindsOf G 9 (a + i) with | .some _ => !P.eqGuardType P.depth (a + i) | .none => true)
    | .none => true
theorem cfgOk_of {P : Program} {G : Cfg} {n : Nat} (hn : ∀ t, n ≤ t → G.tab t = none) (h : cfgOkB P G 0 n = true) : CfgOk P G := by
  have key : ∀ t ti, G.tab t = some ti → tiOkB P t ti = true ∧ (match kindsOf G 9 t with | .some _ => !P.eqGuardType P.depth t | .none => true) = true := by
    intro t ti ht
    have hlt : t < n := by
      by_cases hlt : t < n
      · exact hlt
      · rw [hn t (Nat.le_of_not_lt hlt)] at ht; cases ht
    have := List.all_eq_true.1 h t (List.mem_range.2 hlt)
    simp only [Nat.zero_add, ht, Bool.and_eq_true] at this
    exact this
  refine ⟨fun t ti ht => tiOk_of (key t ti ht).1, fun t ks hk => ?_⟩
  cases ht : G.tab t with
  | none => simp [kindsOf, ht] at hk
  | some ti =>
    have := (key t ti ht).2
    rw [hk] at this
    simpa using this
end Go.Proofs.Ev

/- Functions of the library by their contracts: slices.Grow of nil, slices.Clone. -/
namespace Go.Proofs
open Go.Shelf Go.RowKit Go.Lib
set_option linter.unusedVariables false
namespace Ev
/-- A function of the program's own text by a contract. -/
theorem hands_calls {P : Program} [Rooted P] {f : FuncId} {fn : Func} {args : List AV} {x : AV} (hf : P.funcs[f]? = some fn) (hname : (fn.name == "runtime.NumGoroutine") = false) (hbody : fn.body.isNone = false)
    (h : ∀ (w : World) (F : Nat → Prop) (vals : Array Value), Rooted.Q P w → (∀ b, F b → b < w.heap.size) → vals.size = args.length → (∀ j c, args[j]? = some c → Rel w F c (vals.getD j Go.undef)) →
      Calls P f vals w fun e w' => match e with
      | .returned v => ∃ F' β, Came w w' F F' β ∧ Res w' F' β x v
      | _ => False) : HandsIn P f args x := by
  intro R0 w F vals hQ hB h1 h2 h3
  have n1 : ¬ fn.name = "runtime.NumGoroutine" := by simpa using hname
  have n2 : ¬ fn.body = none := by intro e; simp [e] at hbody
  exact ⟨by simp [callFunc, hf, n1, n2], h w F vals (Rooted.below _ _ hQ hB) h1 h2 h3⟩
theorem vals1 {w : World} {F : Nat → Prop} {x : AV} {vals : Array Value} (hl : vals.size = [x].length) (h : ∀ j c, [x][j]? = some c → Rel w F c (vals.getD j Go.undef)) : ∃ u, vals = #[u] ∧ Rel w F x u := by
  obtain ⟨l⟩ := vals
  match l, hl with
  | [u], _ => exact ⟨u, rfl, h 0 x rfl⟩
theorem vals2 {w : World} {F : Nat → Prop} {x y : AV} {vals : Array Value} (hl : vals.size = [x, y].length) (h : ∀ j c, [x, y][j]? = some c → Rel w F c (vals.getD j Go.undef)) : ∃ u v, vals = #[u, v] ∧ Rel w F x u ∧ Rel w F y v := by
  obtain ⟨l⟩ := vals
  match l, hl with
  | [u, v], _ => exact ⟨u, v, rfl, h 0 x rfl, h 1 y rfl⟩
theorem rel_v {w : World} {F : Nat → Prop} {x v : Value} (h : Rel w F (.v x) v) : v = x := by cases h; rfl
theorem Came.same {w : World} {F : Nat → Prop} (hF : ∀ b, F b → b < w.heap.size) : Came w w F F (fun _ => none) :=
  ⟨Below.refl _ _, fun _ h => h, fun b hb => ⟨hF b hb, .inl hb⟩, by simp, by simp⟩
theorem Came.of_below {w w' : World} {F : Nat → Prop} (hF : ∀ b, F b → b < w.heap.size) (hB : Below w.heap.size w w') : Came w w' F F (fun _ => none) :=
  ⟨hB, fun _ h => h, fun b hb => ⟨Nat.lt_of_lt_of_le (hF b hb) hB.size, .inl hb⟩, by simp, by simp⟩
theorem grow_hands {P : Program} [Rooted P] {G : Cfg} {ρ : Ren} (L : Lays8.n4 P ρ) (hG : CfgOk P G) {ei : TI} (hei : G.tab (ρ.t 25) = some ei) (hb : ei.bytes ≤ 4096) (hs : 1 ≤ ei.size) {fl : Fl} (ht : fl.te = ρ.t 25) {fn : Func} (hf : P.funcs[ρ.f 4]? = some fn)
    (hname : (fn.name == "runtime.NumGoroutine") = false) (hbody : fn.body.isNone = false) (k : Nat) (hk : k ≤ most) :
    HandsIn P (ρ.f 4) [.v (.slice none 0 0), .v (.int .i64 k)] (.fr fl ei.size []) := by
  refine hands_calls hf hname hbody fun w F vals _ hF hl hr => ?_
  obtain ⟨u, v, rfl, hu, hv⟩ := vals2 hl hr
  obtain rfl := rel_v hu
  obtain rfl := rel_v hv
  obtain ⟨i, hi, e1, e2, z, hz, hzc, _⟩ := (hG.ti _ _ hei).info
  have hk' : k ≤ 1000000000 := hk
  by_cases h0 : k = 0
  · subst h0
    refine (Any8.slices_Grow_room L none 0 0 0 w (by omega) (by omega) (by omega) (by omega)).mono ?_
    rintro e w' ⟨rfl, rfl⟩
    exact ⟨F, fun _ => none, Came.same hF, ⟨by simp, by simp [flatL], .inl ⟨rfl, rfl⟩⟩, none, 0, rfl, by simp, .inl ⟨rfl, rfl⟩⟩
  · have hzs : z.cells.size = ei.size := by rw [← Array.length_toList, hzc, (hG.ti _ _ hei).szl]
    refine (Any8.slices_Grow_grow L i z hi hz (by omega) none 0 0 k [] w (by omega) (by omega) ?_ (by omega) (by simp) (fun _ => rfl) (by simp)).mono ?_
    · rw [Nat.zero_add, e2]
      have := Nat.mul_le_mul hk' hb
      omega
    rintro e w' ⟨rfl, rfl⟩
    have hge : k ≤ grownCap w (0 + k) 0 (ρ.t 25) := by have := grownCap_ge w (0 + k) 0 (ρ.t 25); omega
    obtain ⟨C, hC⟩ : ∃ C, C = (([] : List Value).toArray ++ Builtin.zeroCells z.cells (0 + k - 0) ++ Builtin.zeroCells z.cells (grownCap w (0 + k) 0 (ρ.t 25) - (0 + k))) := ⟨_, rfl⟩
    have hsz : C.size = grownCap w (0 + k) 0 (ρ.t 25) * ei.size := by
      rw [hC]
      simp only [Array.size_append, size_zeroCells, hzs, List.size_toArray, List.length_nil, Nat.zero_add, Nat.sub_zero]
      rw [← Nat.add_mul]
      congr 1
      simp only [Nat.zero_add] at hge
      omega
    rw [← hC]
    generalize grownCap w (0 + k) 0 (ρ.t 25) = cap at *
    have hheap : ((w.drew).alloc (.cells C (ρ.t 25))).heap[w.heap.size]? = some (.cells C (ρ.t 25)) := alloc_heap w.drew _
    have hsize : ((w.drew).alloc (.cells C (ρ.t 25))).heap.size = w.heap.size + 1 := by
      show (w.heap.push _).size = _
      simp
    refine ⟨F, fun j => if j = 0 then some (w.heap.size, 0, C.size) else none, ⟨?_, fun _ h => h, ?_, ?_, ?_⟩, ⟨by simp, by simp [flatL], .inr ⟨w.heap.size, 0, C, (0, 0), rfl, by rw [ht]; exact hheap, by simp, ?_, by simp [flatL]⟩⟩, _, cap, rfl, by simp, .inr ⟨w.heap.size, 0, C.size, _, rfl, rfl, rfl, .inr ⟨rfl, by omega⟩⟩⟩
    · exact ((Below.refl _ w).drew).alloc (Nat.le_refl _) _
    · intro b hb
      refine ⟨?_, .inl hb⟩
      have := hF b hb
      omega
    · intro j b o n hj
      replace hj : (if j = 0 then some (w.heap.size, 0, C.size) else none) = some (b, o, n) := hj
      split at hj
      · cases hj
        refine ⟨Nat.le_refl _, by omega, fun hb => ?_⟩
        exact absurd (hF _ hb) (Nat.lt_irrefl _)
      · cases hj
    · intro j j' b o n o' n' hj hj'
      replace hj : (if j = 0 then some (w.heap.size, 0, C.size) else none) = some (b, o, n) := hj
      replace hj' : (if j' = 0 then some (w.heap.size, 0, C.size) else none) = some (b, o', n') := hj'
      split at hj
      · split at hj'
        · rename_i e1 e2; rw [e1, e2]
        · cases hj'
      · cases hj
    · intro j _ h
      omega
end Ev
set_option maxHeartbeats 2000000 in
set_option maxRecDepth 100000 in
theorem Ev.clone_calls {P : Program} {ρ : Ren} (L : SlLaysE0.n41 P ρ) (i0 : TypeInfo) (z : Value) (size bytes : Nat) (hi : P.info? (ρ.t 23) = some i0) (hz0 : i0.zero = some z) (hz1 : i0.size = size) (hz2 : i0.bytes = bytes) (hzs : z.cells.size = size) (hsz : 0 < size)
    (z23 : ∀ w, (Go.sizeOf (ρ.t 23)).run P w = .ok size w) (ad : Addr) (n c : Nat) (news : List Value) (w : World) (hl : news.length = n * size) (hn : n ≤ maxLen) (hbig : n * bytes ≤ 140737488355328)
    (hc : ∀ j u, news[j]? = some u → w.cell? (ad.add j) = some u) (h1 : ∀ u ∈ news, u.oneCell' = true) :
    Calls P (ρ.f 41) #[.slice (some ad) n c] w fun e w' => ∃ v', e = .returned v' ∧ w'.ownsRow w.heap.size (ρ.t 23) size v' n news ∧ Below w.heap.size w w' := by
  have mixed := L.mixed; have t4 := L.t4; have a4 := L.a4; have z4 := L.z4; have v4 := L.v4; have t22 := L.t22; have a22 := L.a22; have z22 := L.z22; have v22 := L.v22
  have q22 : ∀ (w : World) (a : Option Addr) (n c n' c' : Nat), (binOp .eql (ρ.t 22) (.slice a n c) (.slice none n' c')).run P w = .ok (.bool a.isNone) w := fun w a n c n' c' => Lib.run_eql_slice_nil w _ _ a n c n' c' L.t22
  have u22 : ∀ w, Sem.run P (underlying (ρ.t 22)) w = .ok (TypeDesc.slice (ρ.t 23)) w := run_underlying t22
  have A : Aside (∀ j u, news[j]? = some u → w.cell? (ad.add j) = some u) := hc
  clear hc
  obtain ⟨_, _, FG⟩ := L.f41
  go_enter FG, SlBodyN.n41_ntmps ρ
  go_wp2_with (at_builtin; refine wpList_append_own_at _ rfl _ _ (ρ.t 22) rfl w.heap.size (ρ.t 23) i0 z size bytes t22 hi hz0 hz1 hz2 hzs hsz _ _ _ rfl (World.ownsRow_made w #[] 0 (Nat.le_refl _) (Nat.zero_le _) (by simp)) ad n c news rfl ?qc1 ?qc2 ?qc3 ?qc4 ?qc5 ?qc6 ?_)
  case qc1 => exact hl
  case qc2 =>
    intro j u hj
    exact Lib.cell?_alloc_some _ (A.out j u hj)
  case qc3 => exact h1
  case qc4 => rw [Nat.zero_add]; exact hn
  case qc5 => rw [Nat.zero_add]; exact hbig
  case qc6 => simp
  intro v' w1 hown hgrow hnil _
  go_wp2
  go_ret
  refine ⟨v', rfl, by simpa using hown, ?_⟩
  exact ((Below.refl _ w).alloc (Nat.le_refl _) _).grown hgrow (by simp) (by intro k hk; simp [Value.ownBlock] at hk; omega)
theorem Ev.clone_nil_calls {P : Program} {ρ : Ren} (L : SlLaysE0.n41 P ρ) (n c : Nat) (w : World) :
    Calls P (ρ.f 41) #[.slice none n c] w fun e w' => e = .returned (.slice none 0 0) ∧ w' = w := by
  have mixed := L.mixed; have t4 := L.t4; have a4 := L.a4; have z4 := L.z4; have v4 := L.v4; have t22 := L.t22; have a22 := L.a22; have z22 := L.z22; have v22 := L.v22
  have q22 : ∀ (w : World) (a : Option Addr) (n c n' c' : Nat), (binOp .eql (ρ.t 22) (.slice a n c) (.slice none n' c')).run P w = .ok (.bool a.isNone) w := fun w a n c n' c' => Lib.run_eql_slice_nil w _ _ a n c n' c' L.t22
  obtain ⟨_, _, FG⟩ := L.f41
  go_enter FG, SlBodyN.n41_ntmps ρ
  go_wp2
  go_ret
  exact ⟨rfl, rfl⟩
namespace Ev
/-- What a call of its own hands over: a row whose cells are told. -/
theorem res_ownsRow {w w' : World} {F : Nat → Prop} {e : TypeId} {size : Nat} {v : Value} {fl : Fl} {xs : List AV} {news : List Value} (ht : fl.te = e) (hF : ∀ b, F b → b < w.heap.size) (hown : w'.ownsRow w.heap.size e size v xs.length news) (hB : Below w.heap.size w w')
    (hs : ∀ x ∈ xs, x.cells.length = size) (hf : ∀ x ∈ flatL xs, okE fl x) (hr : ∀ j c, (flatL xs)[j]? = some c → Rel w' F c (news.getD j Go.undef)) :
    ∃ F' β, Came w w' F F' β ∧ Res w' F' β (.fr fl size xs) v := by
  obtain ⟨hl, hv⟩ := hown
  rcases hv with ⟨rfl, h0⟩ | ⟨g, cap, cur, rfl, hbg, hg, hnc, hcm, hcs, htake⟩
  · have : xs = [] := List.length_eq_zero_iff.1 h0
    subst this
    exact ⟨F, fun _ => none, ⟨hB, fun _ h => h, fun b hb => ⟨Nat.lt_of_lt_of_le (hF b hb) hB.size, .inl hb⟩, by simp, by simp⟩, ⟨by simp, by simp [flatL], .inl ⟨rfl, rfl⟩⟩, none, 0, rfl, by simp, .inl ⟨rfl, rfl⟩⟩
  · have hlt : g < w'.heap.size := (Array.getElem?_eq_some_iff.1 hg).1
    have hfl := (flat_get size xs hs).1
    refine ⟨F, fun j => if j = 0 then some (g, 0, cur.size) else none, ⟨hB, fun _ h => h, fun b hb => ⟨Nat.lt_of_lt_of_le (hF b hb) hB.size, .inl hb⟩, ?_, ?_⟩, ⟨hs, hf, .inr ⟨g, 0, cur, (0, 0), rfl, by rw [ht]; exact hg, ?_, ?_, ?_⟩⟩, _, cap, rfl, hnc, .inr ⟨g, 0, cur.size, _, rfl, rfl, rfl, .inr ⟨rfl, by omega⟩⟩⟩
    · intro j b o n hj
      replace hj : (if j = 0 then some (g, 0, cur.size) else none) = some (b, o, n) := hj
      split at hj
      · cases hj
        exact ⟨hbg, hlt, fun hb => by have := hF _ hb; omega⟩
      · cases hj
    · intro j j' b o n o' n' hj hj'
      replace hj : (if j = 0 then some (g, 0, cur.size) else none) = some (b, o, n) := hj
      replace hj' : (if j' = 0 then some (g, 0, cur.size) else none) = some (b, o', n') := hj'
      split at hj
      · split at hj'
        · rename_i e1 e2; rw [e1, e2]
        · cases hj'
      · cases hj
    · rw [hcs]
      have := Nat.mul_le_mul_right size hnc
      omega
    · intro j _ h
      omega
    · intro j c hj
      have := hr j c hj
      have hj' : j < xs.length * size := by have := (List.getElem?_eq_some_iff.1 hj).1; omega
      rw [← htake] at this
      rw [List.getD_eq_getElem?_getD, List.getElem?_take_of_lt hj', Array.getElem?_toList] at this
      rw [Nat.zero_add, Array.getD_eq_getD_getElem?]
      exact this
theorem clone_hands {P : Program} [Rooted P] {G : Cfg} {ρ : Ren} (L : SlLaysE0.n41 P ρ) (hG : CfgOk P G) {ei : TI} (hei : G.tab (ρ.t 23) = some ei) (hb : ei.bytes ≤ 4096) (hs : 1 ≤ ei.size) {fl : Fl} (ht : fl.te = ρ.t 23) {fn : Func} (hf : P.funcs[ρ.f 41]? = some fn)
    (hname : (fn.name == "runtime.NumGoroutine") = false) (hbody : fn.body.isNone = false) (xs : List AV) (hk : xs.length ≤ most) :
    HandsIn P (ρ.f 41) [.sl fl ei.size xs] (.fr fl ei.size xs) := by
  refine hands_calls hf hname hbody fun w F vals _ hF hl hr => ?_
  obtain ⟨u, rfl, hu⟩ := vals1 hl hr
  have hT := hG.ti _ _ hei
  obtain ⟨i, hi, e1, e2, z, hz, hzc, _⟩ := hT.info
  have hzs : z.cells.size = ei.size := by rw [← Array.length_toList, hzc, hT.szl]
  have hk' : xs.length ≤ 1000000000 := hk
  cases hu with
  | slN =>
    refine (clone_nil_calls L 0 0 w).mono ?_
    rintro e w' ⟨rfl, rfl⟩
    exact ⟨F, fun _ => none, Came.same hF, ⟨by simp, by simp [flatL], .inl ⟨rfl, rfl⟩⟩, none, 0, rfl, by simp, .inl ⟨rfl, rfl⟩⟩
  | sl _ _ _ ad cap f hFa hcp hsz hok hcell hrel =>
    have hfl := (flat_get ei.size xs hsz).1
    have hget : ∀ j, j < (flatL xs).length → ((List.range (flatL xs).length).map f)[j]? = some (f j) := by intro j hj; simp [hj]
    refine (clone_calls L i z ei.size ei.bytes hi hz e1 e2 hzs (by omega) (fun w => hT.run_size w) ad xs.length cap ((List.range (flatL xs).length).map f) w (by rw [List.length_map, List.length_range, hfl]) (by unfold maxLen; omega) ?_ ?_ ?_).mono ?_
    · have := Nat.mul_le_mul hk' hb
      omega
    · intro j u hj
      have hlt : j < (flatL xs).length := by have := (List.getElem?_eq_some_iff.1 hj).1; simpa using this
      rw [hget j hlt] at hj
      cases hj
      exact hcell j hlt
    · intro v hv
      simp only [List.mem_map, List.mem_range] at hv
      obtain ⟨j, hj, rfl⟩ := hv
      rw [one_oneCell]
      have hg : (flatL xs)[j]? = some (flatL xs)[j] := List.getElem?_eq_getElem hj
      exact (hrel j _ hg).one_of (hok _ (List.getElem_mem hj)).1
    · rintro e w' ⟨v', rfl, hown, hB⟩
      refine res_ownsRow ht hF hown hB hsz hok fun j c hj => ?_
      have hlt := (List.getElem?_eq_some_iff.1 hj).1
      rw [List.getD_eq_getElem?_getD, hget j hlt]
      exact (hrel j c hj).mono (fun _ h => h) (fun b hb => hB.block b (hF b hb))
end Ev
end Go.Proofs

/- A law's arguments: what stands in the machine's memory when a call begins, as abstract values. -/
namespace Go.Proofs.Ev
open Go Go.RowKit
set_option linter.unusedVariables false
/-- Parts, one behind the other. -/
def ArgF (A : TypeId → List AV → Prop) : List (TypeId × Nat) → List AV → Prop
  | [], cs => cs = []
  | f :: r, cs => ∃ p q, cs = p ++ q ∧ A f.1 p ∧ ArgF A r q
def rowF (e sz m : Nat) : List (TypeId × Nat) := (List.range m).map fun i => (e, i * sz)
/-- The cells of a value of a type, as they may come in. -/
def Arg (G : Cfg) : Nat → TypeId → List AV → Prop
  | 0, _, _ => False
  | n + 1, t, cs => match G.tab t with
    | .some ti => match ti.kd with
      | .int k => ∃ i : Int, cs = [.v (.int k i)] ∧ (Lit.int k i).wf = true
      | .string => ∃ s : ByteArray, cs = [.v (.string s)] ∧ s.size ≤ maxLen
      | .bool => ∃ b, cs = [vb b]
      | .slice e => match G.tab e with
        | .some ei => ∃ xs : List AV, cs = [.sl ei.flat ei.size xs] ∧ xs.length ≤ maxLen ∧ ∀ y ∈ xs, bif ei.isAgg then ∃ ds, y = .agg ds ∧ Arg G n e ds else Arg G n e [y]
        | .none => False
      | .struct fs => ArgF (Arg G n) fs cs
      | .arr m e => match G.tab e with
        | .some ei => ArgF (Arg G n) (rowF e ei.size m) cs
        | .none => False
      | _ => False
    | .none => False
def tiles (G : Cfg) : Nat → List (TypeId × Nat) → Nat → Bool
  | o, [], s => Nat.beq o s
  | o, f :: r, s => Nat.beq f.2 o && (match G.tab f.1 with | .some fi => tiles G (o + fi.size) r s | .none => false)
/-- Types that are looked at. 'fl': no slices in it. -/
def argTy (G : Cfg) : Nat → Bool → TypeId → Bool
  | 0, _, _ => false
  | n + 1, fl, t => match G.tab t with
    | .some ti => match ti.kd with
      | .int _ | .string | .bool => true
      | .slice e => !fl && (match G.tab e with | .some ei => Nat.ble 1 ei.size && argTy G n ei.isFlat e | .none => false)
      | .struct fs => tiles G 0 fs ti.size && fs.all fun f => argTy G n fl f.1
      | .arr m e => match G.tab e with | .some ei => tiles G 0 (rowF e ei.size m) ti.size && argTy G n fl e | .none => false
      | _ => false
    | .none => false
section
variable {P : Program} {G : Cfg} {w : World} {H : Type} {enc : TypeId × Value → H} {held : Bool}
theorem argF_all {A : TypeId → List AV → Prop} {Q : AV → Prop} : ∀ {l : List (TypeId × Nat)} {cs : List AV}, (∀ f ∈ l, ∀ p, A f.1 p → ∀ c ∈ p, Q c) → ArgF A l cs → ∀ c ∈ cs, Q c
  | [], cs, _, h, c, hc => by cases h; cases hc
  | f :: r, cs, hA, h, c, hc => by
    obtain ⟨p, q, rfl, h1, h2⟩ := h
    rcases List.mem_append.1 hc with hc | hc
    · exact hA f (by simp) p h1 c hc
    · exact argF_all (fun f hf => hA f (by simp [hf])) h2 c hc
theorem arg_okE : ∀ (n : Nat) (fl : Fl) (t : TypeId) (cs : List AV), argTy G n fl.b t = true → Arg G n t cs → ∀ c ∈ cs, okE fl c
  | 0, _, _, _, h, _ => by cases h
  | n + 1, fl, t, cs, h, ha => by
    simp only [argTy, Arg] at h ha
    cases ht : G.tab t with
    | none => rw [ht] at ha; exact ha.elim
    | some ti =>
      rw [ht] at h ha
      simp only at h ha
      intro c hc
      cases hk : ti.kd <;> rw [hk] at h ha <;> simp only at h ha
      case int k => obtain ⟨i, rfl, _⟩ := ha; simp at hc; subst hc; exact ⟨rfl, fun _ => rfl⟩
      case string => obtain ⟨i, rfl, _⟩ := ha; simp at hc; subst hc; exact ⟨rfl, fun _ => rfl⟩
      case bool => obtain ⟨i, rfl⟩ := ha; simp at hc; subst hc; exact ⟨rfl, fun _ => rfl⟩
      case slice e =>
        cases he : G.tab e with
        | none => rw [he] at ha; exact ha.elim
        | some ei =>
          rw [he] at ha
          obtain ⟨xs, rfl, _⟩ := ha
          simp at hc
          subst hc
          refine ⟨rfl, fun hf => ?_⟩
          rw [hf] at h
          cases h
      case struct fs =>
        rw [Bool.and_eq_true] at h
        exact argF_all (fun f hf p hp c hc => arg_okE n fl f.1 p (List.all_eq_true.1 h.2 f hf) hp c hc) ha c hc
      case arr m e =>
        cases he : G.tab e with
        | none => rw [he] at ha; exact ha.elim
        | some ei =>
          rw [he] at h ha
          simp only at h ha
          rw [Bool.and_eq_true] at h
          refine argF_all (fun f hf p hp c hc => ?_) ha c hc
          obtain ⟨i, _, rfl⟩ := List.mem_map.1 hf
          exact arg_okE n fl e p h.2 hp c hc
      all_goals exact ha.elim
theorem tiles_le {G : Cfg} : ∀ {l : List (TypeId × Nat)} {o s : Nat}, tiles G o l s = true → o ≤ s
  | [], o, s, h => Nat.le_of_eq (Nat.eq_of_beq_eq_true h)
  | f :: r, o, s, h => by
    simp only [tiles, Bool.and_eq_true] at h
    cases hf : G.tab f.1 with
    | none => rw [hf] at h; cases h.2
    | some fi => rw [hf] at h; have := tiles_le h.2; omega
/-- What is shown of a type. -/
abbrev Opens (P : Program) (G : Cfg) (w : World) (enc : TypeId × Value → H) (held : Bool) (n : Nat) (t : TypeId) : Prop :=
  ∀ (fuel : Nat) (cs : List Value) x, DataW.trod enc P w 0 (fun _ => true) held fuel t cs = some x →
    ∃ avs : List AV, avs.length = cs.length ∧ (∀ j c, avs[j]? = some c → Rel w (fun b => b < w.heap.size) c (cs.getD j undef)) ∧ Arg G n t avs
theorem cellsOf_ti (hG : CfgOk P G) {t : TypeId} {ti : TI} (ht : G.tab t = some ti) : P.cellsOf t = ti.size := by
  obtain ⟨i, hi, h1, _⟩ := (hG.ti t ti ht).info
  simp [Program.cellsOf, hi, h1]
theorem opens_parts (hG : CfgOk P G) {n m : Nat} {cs : List Value} : ∀ {l : List (TypeId × Nat)} {o : Nat}, tiles G o l cs.length = true → (∀ f ∈ l, Opens P G w enc held n f.1) →
    (∀ f ∈ l, ∃ y, DataW.trod enc P w 0 (fun _ => true) held m f.1 ((cs.drop f.2).take (P.cellsOf f.1)) = some y) →
    ∃ avs : List AV, avs.length = cs.length - o ∧ (∀ j c, avs[j]? = some c → Rel w (fun b => b < w.heap.size) c (cs.getD (o + j) undef)) ∧ ArgF (Arg G n) l avs
  | [], o, h, _, _ => ⟨[], by have := Nat.eq_of_beq_eq_true h; simp; omega, by simp, rfl⟩
  | f :: r, o, h, hO, hT => by
    simp only [tiles, Bool.and_eq_true] at h
    obtain ⟨h1, h2⟩ := h
    have h1 := Nat.eq_of_beq_eq_true h1
    cases hf : G.tab f.1 with
    | none => rw [hf] at h2; cases h2
    | some fi =>
      rw [hf] at h2
      simp only at h2
      have hle := tiles_le h2
      obtain ⟨y, hy⟩ := hT f (by simp)
      rw [cellsOf_ti hG hf] at hy
      obtain ⟨p, p1, p2, p3⟩ := hO f (by simp) _ _ _ hy
      obtain ⟨q, q1, q2, q3⟩ := opens_parts hG h2 (fun g hg => hO g (by simp [hg])) (fun g hg => hT g (by simp [hg]))
      have pl : p.length = fi.size := by rw [p1]; simp; omega
      refine ⟨p ++ q, by simp [pl, q1]; omega, fun j c hj => ?_, p, q, rfl, p3, q3⟩
      by_cases hlt : j < p.length
      · rw [List.getElem?_append_left hlt] at hj
        have := p2 j c hj
        rw [List.getD_eq_getElem?_getD, List.getElem?_take_of_lt (by omega), List.getElem?_drop, h1] at this
        rw [List.getD_eq_getElem?_getD]
        exact this
      · rw [List.getElem?_append_right (by omega)] at hj
        have := q2 _ c hj
        rw [show o + fi.size + (j - p.length) = o + j by omega] at this
        exact this
theorem arg_single {n : Nat} {t : TypeId} {ti : TI} {c : AV} (ht : G.tab t = some ti) (hk : ti.kd.agg = false) (h : Arg G n t [c]) : c.cells = [c] := by
  cases n with
  | zero => exact h.elim
  | succ n =>
    simp only [Arg, ht] at h
    cases hkd : ti.kd <;> rw [hkd] at h hk <;> simp only at h
    case int k => obtain ⟨i, h, _⟩ := h; cases h; rfl
    case string => obtain ⟨i, h, _⟩ := h; cases h; rfl
    case bool => obtain ⟨i, h⟩ := h; cases h; rfl
    case slice e =>
      cases he : G.tab e with
      | none => rw [he] at h; exact h.elim
      | some ei => rw [he] at h; obtain ⟨xs, h, _⟩ := h; cases h; rfl
    case struct => cases hk
    case arr => cases hk
    all_goals exact h.elim
theorem opens (hG : CfgOk P G) : ∀ (n : Nat) (fl : Bool) (t : TypeId), argTy G n fl t = true → Opens P G w enc held n t
  | 0, _, _, h => by cases h
  | n + 1, fl, t, h => by
    intro fuel cs x hx
    simp only [argTy] at h
    cases ht : G.tab t with
    | none => rw [ht] at h; cases h
    | some ti =>
      rw [ht] at h
      simp only at h
      have hT := hG.ti t ti ht
      obtain ⟨d, hd, hkd⟩ := hT.und
      have one1 : ∀ (c : AV) (v : Value), Rel w (fun b => b < w.heap.size) c v → ∀ j c', [c][j]? = some c' → Rel w (fun b => b < w.heap.size) c' ([v].getD j undef) := by
        intro c v hr j c' hj
        cases j with
        | zero => simp at hj; subst hj; exact hr
        | succ j => simp at hj
      cases hk : ti.kd <;> rw [hk] at h hkd <;> simp only at h
      case int k =>
        cases d <;> simp only [kdOk] at hkd <;> first | cases hkd | skip
        have e := of_decide_eq_true hkd
        subst e
        obtain ⟨i, rfl, _, hw⟩ := DataW.trod_int hd hx
        exact ⟨[.v (.int _ i)], rfl, one1 _ _ (.v _ rfl), by simp only [Arg, ht, hk]; exact ⟨i, rfl, hw⟩⟩
      case string =>
        cases d <;> simp only [kdOk] at hkd <;> first | cases hkd | skip
        obtain ⟨s, rfl, _, hw⟩ := DataW.trod_string hd hx
        exact ⟨[.v (.string s)], rfl, one1 _ _ (.v _ rfl), by simp only [Arg, ht, hk]; exact ⟨s, rfl, hw⟩⟩
      case bool =>
        cases d <;> simp only [kdOk] at hkd <;> first | cases hkd | skip
        obtain ⟨b, rfl, _⟩ := DataW.trod_bool hd hx
        exact ⟨[vb b], rfl, one1 _ _ (.v _ rfl), by simp only [Arg, ht, hk]; exact ⟨b, rfl⟩⟩
      case slice e =>
        cases d <;> simp only [kdOk] at hkd <;> first | cases hkd | skip
        have e' := Nat.eq_of_beq_eq_true hkd
        subst e'
        rw [Bool.and_eq_true] at h
        cases he : G.tab e with
        | none => rw [he] at h; cases h.2
        | some ei =>
          rw [he] at h
          simp only [Bool.and_eq_true] at h
          have hsz1 := Nat.le_of_ble_eq_true h.2.1
          have hE := hG.ti e ei he
          have hA : ∀ (xs : List AV), xs.length ≤ maxLen → (∀ y ∈ xs, bif ei.isAgg then ∃ ds, y = .agg ds ∧ Arg G n e ds else Arg G n e [y]) → Arg G (n + 1) t [.sl ei.flat ei.size xs] := by
            intro xs h1 h2
            simp only [Arg, ht, hk, he]
            exact ⟨xs, rfl, h1, h2⟩
          rcases DataW.trod_slice hd hx with ⟨rfl, _⟩ | ⟨a, len, cap, elems, rest, m, _, rfl, _, _, hl, hm, hlen, hel, _, _⟩
          · exact ⟨[.sl ei.flat ei.size []], rfl, one1 _ _ (.slN _ _), hA [] (Nat.zero_le _) (by simp)⟩
          · rw [cellsOf_ti hG he] at hel
            have each : ∀ i, ∃ avs : List AV, i < len → ∃ ci : List Value, ci.length = ei.size ∧ (∀ j, j < ei.size → w.cell? ((a.add (i * ei.size)).add j) = ci[j]?) ∧ avs.length = ei.size ∧ (∀ j c, avs[j]? = some c → Rel w (fun b => b < w.heap.size) c (ci.getD j undef)) ∧ Arg G n e avs := by
              intro i
              by_cases hi : i < len
              · have h1 := hel i hi
                have h2 : elems[i]? = some elems[i] := List.getElem?_eq_getElem (by omega)
                rw [h2, Option.bind_eq_some_iff] at h1
                obtain ⟨ci, hci, htr⟩ := h1
                obtain ⟨_, c1, c2⟩ := World.cells?_some hci
                obtain ⟨avs, v1, v2, v3⟩ := opens hG n ei.isFlat e h.2.2 _ _ _ htr
                exact ⟨avs, fun _ => ⟨ci, c1, c2, by rw [v1, c1], v2, v3⟩⟩
              · exact ⟨[], fun h => absurd h hi⟩
            obtain ⟨A, hAv⟩ : ∃ A : Nat → List AV, ∀ i, i < len → ∃ ci : List Value, ci.length = ei.size ∧ (∀ j, j < ei.size → w.cell? ((a.add (i * ei.size)).add j) = ci[j]?) ∧ (A i).length = ei.size ∧ (∀ j c, (A i)[j]? = some c → Rel w (fun b => b < w.heap.size) c (ci.getD j undef)) ∧ Arg G n e (A i) :=
              ⟨fun i => Classical.choose (each i), fun i => Classical.choose_spec (each i)⟩
            have hcellsA : ∀ i, i < len → (bif ei.isAgg then AV.agg (A i) else (A i).headD .undef).cells = A i := by
              intro i hi
              obtain ⟨ci, _, _, al, _, aa⟩ := hAv i hi
              cases hag : ei.isAgg with
              | true => rfl
              | false =>
                have s1 := hE.sz1 hag
                rw [s1] at al
                obtain ⟨c, hc⟩ := List.length_eq_one_iff.1 al
                rw [hc] at aa
                rw [hc]
                exact arg_single he (by rw [← hE.agg, hag]) aa
            obtain ⟨xs, hxs⟩ : ∃ xs, xs = (List.range len).map fun i => bif ei.isAgg then AV.agg (A i) else (A i).headD .undef := ⟨_, rfl⟩
            have hxl : xs.length = len := by rw [hxs]; simp
            have hget : ∀ i, i < len → xs.getD i .undef = bif ei.isAgg then AV.agg (A i) else (A i).headD .undef := by intro i hi; rw [hxs]; simp [List.getD_eq_getElem?_getD, hi]
            have hmem : ∀ y ∈ xs, ∃ i, i < len ∧ y = bif ei.isAgg then AV.agg (A i) else (A i).headD .undef := by
              intro y hy
              rw [hxs] at hy
              obtain ⟨i, hi, rfl⟩ := List.mem_map.1 hy
              exact ⟨i, List.mem_range.1 hi, rfl⟩
            have hcs : ∀ y ∈ xs, y.cells.length = ei.size := by
              intro y hy
              obtain ⟨i, hi, rfl⟩ := hmem y hy
              rw [hcellsA i hi]
              obtain ⟨ci, _, _, al, _⟩ := hAv i hi
              exact al
            obtain ⟨f1, f2⟩ := flat_get ei.size xs hcs
            have hok : ∀ c ∈ flatL xs, okE ei.flat c := by
              intro c hc
              simp only [flatL, List.mem_flatMap] at hc
              obtain ⟨y, hy, hc⟩ := hc
              obtain ⟨i, hi, rfl⟩ := hmem y hy
              rw [hcellsA i hi] at hc
              obtain ⟨ci, _, _, _, _, aa⟩ := hAv i hi
              exact arg_okE n ei.flat e _ h.2.2 aa c hc
            have split : ∀ j, j < (flatL xs).length → ∃ i k, i < len ∧ k < ei.size ∧ j = i * ei.size + k := by
              intro j hj
              rw [f1, hxl] at hj
              exact ⟨j / ei.size, j % ei.size, Nat.div_lt_of_lt_mul (by rwa [Nat.mul_comm]), Nat.mod_lt _ (by omega), by rw [Nat.mul_comm]; exact (Nat.div_add_mod j ei.size).symm⟩
            have hcell : ∀ i k, i < len → k < ei.size → ∃ ci : List Value, w.cell? (a.add (i * ei.size + k)) = some (ci.getD k undef) ∧ ∀ c, (A i)[k]? = some c → Rel w (fun b => b < w.heap.size) c (ci.getD k undef) := by
              intro i k hi hk
              obtain ⟨ci, c1, c2, _, c4, _⟩ := hAv i hi
              refine ⟨ci, ?_, fun c hc => c4 k c hc⟩
              have := c2 k hk
              rw [addr_add_add] at this
              rw [this, List.getD_eq_getElem?_getD, List.getElem?_eq_getElem (by omega)]
              rfl
            refine ⟨[.sl ei.flat ei.size xs], rfl, one1 _ _ ?_, hA xs (by omega) ?_⟩
            · have := Rel.sl (w := w) (F := fun b => b < w.heap.size) ei.flat ei.size xs a cap (fun j => (w.cell? (a.add j)).getD undef) ?_ (by omega) hcs hok ?_ ?_
              · rw [hxl] at this; exact this
              · intro hne
                have h0 : 0 < len := by
                  rw [← hxl]
                  exact List.length_pos_iff.2 hne
                obtain ⟨ci, hci, _⟩ := hcell 0 0 h0 (by omega)
                rw [Nat.zero_mul, Nat.zero_add] at hci
                show a.block < _
                rcases Nat.lt_or_ge a.block w.heap.size with h' | h'
                · exact h'
                · have hbl : (a.add 0).block = a.block := add_block a 0
                  simp [World.cell?, hbl, Array.getElem?_eq_none h'] at hci
              · intro j hj
                obtain ⟨i, k, hi, hk, rfl⟩ := split j hj
                obtain ⟨ci, hci, _⟩ := hcell i k hi hk
                rw [hci]
                rfl
              · intro j c hj
                obtain ⟨i, k, hi, hk, rfl⟩ := split j ((List.getElem?_eq_some_iff.1 hj).1)
                rw [f2 i (by omega) k hk, hget i hi, hcellsA i hi] at hj
                obtain ⟨ci, hci, hr⟩ := hcell i k hi hk
                rw [hci]
                exact hr c hj
            · intro y hy
              obtain ⟨i, hi, rfl⟩ := hmem y hy
              obtain ⟨ci, _, _, al, _, aa⟩ := hAv i hi
              cases hag : ei.isAgg with
              | true => exact ⟨A i, rfl, aa⟩
              | false =>
                have s1 := hE.sz1 hag
                rw [s1] at al
                obtain ⟨c, hc⟩ := List.length_eq_one_iff.1 al
                rw [hc] at aa ⊢
                exact aa
      case struct fs =>
        cases d <;> simp only [kdOk] at hkd <;> first | cases hkd | skip
        rename_i fields
        have hfs := eq_of_beq hkd
        rw [Bool.and_eq_true] at h
        obtain ⟨xs, m, _, _, hcl, hxl, hall⟩ := DataW.trod_struct hd hx
        rw [cellsOf_ti hG ht] at hcl
        obtain ⟨avs, v1, v2, v3⟩ := opens_parts (m := m) hG (l := fs) (o := 0) (cs := cs) (by rw [hcl]; exact h.1) (fun f hf => opens hG n fl f.1 (List.all_eq_true.1 h.2 f hf)) (by
          intro f hf
          rw [← hfs] at hf
          obtain ⟨fld, hfld, rfl⟩ := List.mem_map.1 hf
          obtain ⟨i, hi, he⟩ := List.getElem_of_mem hfld
          have h2 : fields[i]? = some fld := by
            rw [← he]
            simp at hi
            simp [hi]
          have h3 := hall i fld h2
          have h4 : i < xs.length := by rw [hxl]; simpa using hi
          rw [List.getElem?_eq_getElem h4] at h3
          exact ⟨_, h3⟩)
        exact ⟨avs, by simpa using v1, by simpa using v2, by simp only [Arg, ht, hk]; exact v3⟩
      case arr m e =>
        cases d <;> simp only [kdOk] at hkd <;> first | cases hkd | skip
        rw [Bool.and_eq_true] at hkd
        have e1 := Nat.eq_of_beq_eq_true hkd.1
        have e2 := Nat.eq_of_beq_eq_true hkd.2
        subst e1
        subst e2
        cases he : G.tab e with
        | none => rw [he] at h; cases h
        | some ei =>
          rw [he] at h
          simp only [Bool.and_eq_true] at h
          obtain ⟨xs, m', _, _, hcl, hxl, hall⟩ := DataW.trod_array hd hx
          rw [cellsOf_ti hG ht] at hcl
          obtain ⟨avs, v1, v2, v3⟩ := opens_parts (m := m') hG (l := rowF e ei.size m) (o := 0) (cs := cs) (by rw [hcl]; exact h.1) (by
              intro f hf
              obtain ⟨i, _, rfl⟩ := List.mem_map.1 hf
              exact opens hG n fl e h.2) (by
            intro f hf
            obtain ⟨i, hi, rfl⟩ := List.mem_map.1 hf
            have hi := List.mem_range.1 hi
            have h3 := hall i hi
            rw [cellsOf_ti hG he, List.getElem?_eq_getElem (by omega)] at h3
            rw [cellsOf_ti hG he]
            exact ⟨_, h3⟩)
          exact ⟨avs, by simpa using v1, by simpa using v2, by simp only [Arg, ht, hk, he]; exact v3⟩
      all_goals cases h
end
end Go.Proofs.Ev

/- A law that returns true, out of its evaluation: the row's contract. -/
namespace Go.Proofs.Ev
open Go Go.RowKit Go.ChangeShapes Go.WideShapes Go.ChangeAt
set_option linter.unusedVariables false
/-- An argument's value. -/
def ArgV (G : Cfg) (n : Nat) (t : TypeId) (x : AV) : Prop :=
  match G.tab t with
  | .some ti => ∃ ys, Arg G n t ys ∧ x = bif ti.isAgg then .agg ys else ys.headD .undef
  | .none => False
def ArgL (G : Cfg) (n : Nat) : List TypeId → List AV → Prop
  | [], xs => xs = []
  | t :: ts, xs => ∃ x r, xs = x :: r ∧ ArgV G n t x ∧ ArgL G n ts r
section
variable {P : Program} {G : Cfg} {w W W' : World} {H : Type} {enc : TypeId × Value → H} {held : Bool}
theorem arg_open (hG : CfgOk P G) {n : Nat} {t : TypeId} (hty : argTy G n false t = true) {r : Reach} {base : Nat} {v : Value} {d : DataW H} {ps : List MemPlace} (hval : Value.okWide P w r base t v)
    (h : DataW.Trod enc P w 0 (fun _ => true) held t v d ps) : ∃ x, ArgV G n t x ∧ Rel w (fun b => b < w.heap.size) x v := by
  obtain ⟨fuel, h⟩ := h
  obtain ⟨ys, h1, h2, h3⟩ := opens hG n false t hty _ _ _ h
  unfold ArgV
  cases ht : G.tab t with
  | none =>
    cases n with
    | zero => cases hty
    | succ n => simp only [argTy, ht] at hty; cases hty
  | some ti =>
    simp only
    obtain ⟨d, hd, hkd⟩ := (hG.ti t ti ht).und
    refine ⟨_, ⟨ys, h3, rfl⟩, ?_⟩
    have agg : ∀ cs, v = .agg cs → ti.isAgg = true → Rel w (fun b => b < w.heap.size) (bif ti.isAgg then AV.agg ys else ys.headD .undef) v := by
      rintro cs rfl ha
      rw [ha]
      simp only [Value.cells, Array.length_toList] at h1 h2
      refine .agg ys cs h1.symm fun j c hj => ?_
      have := h2 j c hj
      rwa [List.getD_eq_getElem?_getD, Array.getElem?_toList, ← Array.getD_eq_getD_getElem?] at this
    have one1 : v.cells = #[v] → ti.isAgg = false → Rel w (fun b => b < w.heap.size) (bif ti.isAgg then AV.agg ys else ys.headD .undef) v := by
      intro hv ha
      rw [ha]
      rw [hv] at h1 h2
      obtain ⟨c, hc⟩ := List.length_eq_one_iff.1 (show ys.length = 1 by simpa using h1)
      subst hc
      exact h2 0 c rfl
    have hag := (hG.ti t ti ht).agg
    cases n with
    | zero => cases hty
    | succ n =>
      simp only [argTy, ht] at hty
      cases hk : ti.kd <;> rw [hk] at hty hkd hag <;> simp only at hty
      case int k =>
        cases d <;> simp only [kdOk] at hkd <;> first | cases hkd | skip
        obtain ⟨i, rfl⟩ := okWide_int hd hval
        exact one1 rfl hag
      case string =>
        cases d <;> simp only [kdOk] at hkd <;> first | cases hkd | skip
        obtain ⟨i, rfl⟩ := okWide_string hd hval
        exact one1 rfl hag
      case bool =>
        cases d <;> simp only [kdOk] at hkd <;> first | cases hkd | skip
        obtain ⟨i, rfl⟩ := okWide_bool hd hval
        exact one1 rfl hag
      case slice e =>
        cases d <;> simp only [kdOk] at hkd <;> first | cases hkd | skip
        obtain ⟨a, l, c, rfl⟩ := okWide_slice hd hval
        exact one1 rfl hag
      case struct fs =>
        cases d <;> simp only [kdOk] at hkd <;> first | cases hkd | skip
        obtain ⟨cs, rfl, _⟩ := okWide_struct hd hval
        exact agg cs rfl hag
      case arr m e =>
        cases d <;> simp only [kdOk] at hkd <;> first | cases hkd | skip
        simp only [Value.okWide, hd] at hval
        obtain ⟨cs, rfl, _⟩ := hval
        exact agg cs rfl hag
      all_goals cases hty
theorem args_open (hG : CfgOk P G) {n : Nat} {r : Reach} {base : Nat} : ∀ {ts : List TypeId} {vs : List Value} {ds : List (DataW H)} {ps : List MemPlace}, (ts.all fun t => argTy G n false t) = true →
    (∀ (j : Nat) t v, ts[j]? = some t → vs[j]? = some v → Value.okWide P w r base t v) → DataW.TrodAll enc P w 0 (fun _ => true) held ts vs ds ps →
    ∃ xs : List AV, xs.length = vs.length ∧ (∀ j c, xs[j]? = some c → Rel w (fun b => b < w.heap.size) c (vs.getD j undef)) ∧ ArgL G n ts xs
  | [], vs, ds, ps, _, _, h => by
    obtain ⟨rfl, _, _⟩ := trodAll_nil h
    exact ⟨[], rfl, by simp, rfl⟩
  | t :: ts, vs, ds, ps, ht, hval, h => by
    obtain ⟨v, vs', d, ds', p, q, rfl, rfl, rfl, h1, h2⟩ := trodAll_cons h
    rw [List.all_cons, Bool.and_eq_true] at ht
    obtain ⟨x, a1, a2⟩ := arg_open hG ht.1 (hval 0 t v rfl rfl) h1
    obtain ⟨xs, b1, b2, b3⟩ := args_open hG ht.2 (fun j t v h1 h2 => hval (j + 1) t v h1 h2) h2
    refine ⟨x :: xs, by simp [b1], fun j c hj => ?_, x, xs, rfl, a1, b3⟩
    cases j with
    | zero => simp at hj; subst hj; simpa using a2
    | succ j => exact b2 j c (by simpa using hj)
theorem args_back (hl : laidOutB P = true) (hB : Below W.heap.size W W') : ∀ {ts : List TypeId} {vs : List Value} {ds : List (DataW H)} {ps : List MemPlace}, (ts.all fun t => P.readableRec t && decide (t < P.types.size)) = true →
    DataW.TrodAll enc P W 0 (fun _ => true) true ts vs ds ps → DataW.TrodAll enc P W' 0 (fun b => decide (b < W.heap.size)) true ts vs ds ps
  | [], vs, ds, ps, _, h => by
    obtain ⟨rfl, rfl, rfl⟩ := trodAll_nil h
    exact trodAll_mk0
  | t :: ts, vs, ds, ps, ht, h => by
    obtain ⟨v, vs', d, ds', p, q, rfl, rfl, rfl, h1, h2⟩ := trodAll_cons h
    rw [List.all_cons, Bool.and_eq_true, Bool.and_eq_true] at ht
    refine trodAll_cons_mk (Below.trod hl ht.1.1 (of_decide_eq_true ht.1.2) h1 hB ?_) (args_back hl hB ht.2 h2)
    obtain ⟨m, hm⟩ := h1
    exact DataW.trod_lt m _ _ _ hm
/-- A law whose evaluation is true for whatever comes in. -/
theorem law_calls [Rooted P] (hG : CfgOk P G) (hl : laidOutB P = true) {f : FuncId} {fn : Func} {s : ChangeSpec} {args : Array Value} {ds gs : List (DataW H)} {before : List MemPlace} {n base : Nat} {rt : TypeId}
    (hty : (fn.params.toList.all fun t => argTy G n false t) = true) (hread : (fn.params.toList.all fun t => P.readableRec t && decide (t < P.types.size)) = true)
    (hres : fn.resultTypes = #[rt]) (hrt : P.underlying rt = some .bool) (hvars : s.vars = []) (hspec : ∀ ds : List (DataW H), ds.length = fn.params.size → s.fn H ds = { results := [.lit (.bool true)], args := ds })
    (hval : ∀ (j : Nat) t v, fn.params[j]? = some t → args[j]? = some v → Value.okWide P W .any base t v) (hW : DataW.Whole enc P fn.params.toList s.vars false W args.toList ds gs before)
    (hQ : Rooted.Q P W) (hands : ∀ xs, ArgL G n fn.params.toList xs → HandsIn P f xs (vb true)) :
    Calls P f args W fun e W' => ∃ v, e = .returned v ∧ s.post enc P fn false true false false W args v W' := by
  have hW' := hW
  obtain ⟨p, q, hA, hV, rfl, hfz, hnd⟩ := hW
  rw [hvars] at hV
  obtain ⟨rfl, rfl⟩ := trodVars_none hV
  obtain ⟨xs, x1, x2, x3⟩ := args_open hG hty (fun j t v h1 h2 => hval j t v (by simpa using h1) (by simpa using h2)) hA
  have hh := (hands xs x3 W W (fun b => b < W.heap.size) args hQ (Below.refl _ W) (fun _ h => h) (by simpa using x1.symm) (fun j c hj => by
    have := x2 j c hj
    rwa [List.getD_eq_getElem?_getD, Array.getElem?_toList, ← Array.getD_eq_getD_getElem?] at this)).2
  refine hh.mono fun e W' he => ?_
  cases e with
  | returned v =>
    obtain ⟨F', β, hcame, hr⟩ := he
    have hv : v = .bool true := rel_v hr
    subst hv
    have hdl : ds.length = fn.params.size := by
      have : ∀ {ts : List TypeId} {vs : List Value} {ds : List (DataW H)} {ps : List MemPlace}, DataW.TrodAll enc P W 0 (fun _ => true) true ts vs ds ps → ds.length = ts.length := by
        intro ts
        induction ts with
        | nil => intro vs ds ps h; obtain ⟨_, rfl, _⟩ := trodAll_nil h; rfl
        | cons t ts ih => intro vs ds ps h; obtain ⟨v, vs', d, ds', p, q, rfl, rfl, rfl, h1, h2⟩ := trodAll_cons h; simp [ih h2]
      simpa using this hA
    refine ⟨_, rfl, ds, [], _, [], p, [], hW', ?_, ?_, ?_, hcame.below.frame _, fun h => by cases h⟩
    · rw [List.append_nil, hspec ds hdl, hres]
      exact trodAll_mk1 (shut_bool hrt _)
    · rw [List.append_nil, hspec ds hdl]
      exact args_back hl hcame.below hread hA
    · rw [List.append_nil, hspec ds hdl, hvars]
      rfl
  | _ => exact he.elim
end
end Go.Proofs.Ev

/- Functions that are handed variables. -/
namespace Go.Proofs.Ev
open Go Go.RowKit
set_option linter.unusedVariables false
section
variable {R : Type} {P : Program} {G : Cfg} {a : Act} {w w' : World} {W0 : Base} {F0 U F F' : Nat → Prop} {id : Nat} {L L' : AV → Value → Prop} {r : R} {m m' : Mem} {μ μ' β : Mu}
theorem kindsOf_kb (G : Cfg) (k : Nat) : ∀ n t, kindsOf { G with kb := k } n t = kindsOf G n t
  | 0, t => rfl
  | n + 1, t => by
    have : kindsOf { G with kb := k } n = kindsOf G n := funext (kindsOf_kb G k n)
    simp only [kindsOf, this]
theorem CfgOk.kb (h : CfgOk P G) (k : Nat) : CfgOk P { G with kb := k } := ⟨h.ti, fun t ks hk => h.eqg t ks (by rw [← kindsOf_kb G k]; exact hk)⟩
theorem rowb_ok (S : St) (e : Nat × Nat × Fl × Nat) (h : At G W0 F0 S a w) : At G W0 F0 (rowb S e) a w := by
  obtain ⟨i, j, fl, sz⟩ := e
  obtain ⟨μ, F, hI⟩ := h.freshRow fl sz
  have hU : ∀ i, (i < 8 * S.nxt ∨ i = 8 * S.nxt) → i < 8 * (S.nxt + 1) := by intro i hi; omega
  have hown := own_nil (w := w) (F := F) (μ := μ) (U := fun i => i < 8 * S.nxt ∨ i = 8 * S.nxt) (.inr rfl) (Mem.upd_same S.m (8 * S.nxt) (some (.row fl sz [])))
  simp only [rowb]
  split
  · rename_i tb cs hm
    split
    · rename_i hj
      have hlt : i < 8 * S.nxt := by
        obtain ⟨μ0, F0', hI0⟩ := h.inv
        exact hI0.used i _ hm
      have hne : i ≠ 8 * S.nxt := by omega
      refine ⟨h.defers, h.len, μ, F, (InvAt.setBox hI (id := i) (j := j) (cs := cs) (x := .own (8 * S.nxt) 0 none) ?_ ?_).wider hU⟩
      · rw [Mem.upd_other _ _ hne]; exact hm
      · rintro v ⟨C, rfl, hC⟩ _
        have := hC j _ hj
        rw [← (relS_v (relS_of_A (relA_of_C this))).1] at hown
        exact hown
    · exact h
  · exact h
theorem errN_of {v : Value} (h : RelC w F μ m U (.v .nilIface) v) : RelC w F μ m U (.err false) v := by
  obtain ⟨_, h2⟩ := h
  cases h2
  exact relC_of_rel .errN
theorem errS_of {t : TypeId} {x v : Value} (h : RelC w F μ m U (.v (.iface t x)) v) : RelC w F μ m U (.err true) v := by
  obtain ⟨_, h2⟩ := h
  cases h2
  exact relC_of_rel (.errS _ _)
theorem plainK_rel : ∀ (ks : List SK) (xs ys : List AV) (u : Nat → Value), plainK ks xs = some ys → (∀ j c, xs[j]? = some c → RelC w F μ m U c (u j)) →
    ys.length = xs.length ∧ ∀ j c, ys[j]? = some c → plainS c = true ∧ RelC w F μ m U c (u j) := by
  intro ks
  induction ks with
  | nil =>
    intro xs ys u e h
    cases xs with
    | nil => simp [plainK] at e; subst e; exact ⟨rfl, by simp⟩
    | cons x xs => simp [plainK] at e
  | cons k ks ih =>
    intro xs ys u e h
    have step : ∀ (x y : AV) (r s : List AV), xs = x :: r → ys = y :: s → plainK ks r = some s → plainS y = true → (RelC w F μ m U x (u 0) → RelC w F μ m U y (u 0)) →
        ys.length = xs.length ∧ ∀ j c, ys[j]? = some c → plainS c = true ∧ RelC w F μ m U c (u j) := by
      intro x y r s e1 e2 e3 e4 e5
      subst e1 e2
      obtain ⟨l2, r2⟩ := ih r s (fun j => u (j + 1)) e3 (fun j c hj => h (j + 1) c (by simpa using hj))
      refine ⟨by simp [l2], fun j c hj => ?_⟩
      cases j with
      | zero => simp at hj; subst hj; exact ⟨e4, e5 (h 0 x rfl)⟩
      | succ j => exact r2 j c (by simpa using hj)
    cases xs with
    | nil => cases k <;> simp [plainK] at e
    | cons x r =>
      have hv : ∀ {A : Option (List AV)}, (∀ y, x = .v y → A = (match plainK ks r with | .some s => Option.some (.v y :: s) | _ => none)) → ((∀ y, x ≠ .v y) → A = none) → A = some ys →
          ys.length = (x :: r).length ∧ ∀ j c, ys[j]? = some c → plainS c = true ∧ RelC w F μ m U c (u j) := by
        intro A h1 h2 eA
        cases x
        case v y =>
          rw [h1 y rfl] at eA
          split at eA
          · rename_i s hs
            cases eA
            exact step _ _ _ _ rfl rfl hs rfl (fun h => h)
          · cases eA
        all_goals (rw [h2 (fun y => by simp)] at eA; cases eA)
      cases k
      case slice => simp [plainK] at e
      case any =>
        simp only [plainK] at e
        split at e
        · rename_i y s hy hs
          cases e
          split at hy
          · cases hy
            exact step _ _ _ _ rfl rfl hs rfl errN_of
          · cases hy
            exact step _ _ _ _ rfl rfl hs rfl errS_of
          · cases hy
            exact step _ _ _ _ rfl rfl hs rfl (fun h => h)
          · cases hy
        · cases e
      all_goals refine hv (fun y hy => ?_) (fun hn => ?_) e
      all_goals first | (subst hy; rfl; done) | (cases x <;> first | exact absurd rfl (hn _) | rfl)
theorem plainV_rel {ti : TI} {x y : AV} {v : Value} (e : plainV ti x = some y) (h : RelS w F μ m U x v) : plainA y = true ∧ RelA w F μ m U y v := by
  have one : ∀ (hx : RelC w F μ m U x v), (match plainK ti.sks [x] with | some [y] => some y | _ => none) = some y → plainA y = true ∧ RelA w F μ m U y v := by
    intro hx e
    split at e
    · rename_i y' hy
      cases e
      obtain ⟨_, r2⟩ := plainK_rel (w := w) (F := F) (μ := μ) (m := m) (U := U) ti.sks [x] [y] (fun _ => v) hy (fun j c hj => by
        cases j with
        | zero => simp at hj; subst hj; exact hx
        | succ j => simp at hj)
      obtain ⟨p1, p2⟩ := r2 0 y rfl
      refine ⟨?_, relA_of_C p2⟩
      cases y <;> first | exact p1 | cases p1
    · cases e
  cases x
  case agg cs =>
    simp only [plainV] at e
    obtain ⟨_, e⟩ := bif_some e
    rw [Option.map_eq_some_iff] at e
    obtain ⟨ys, hy, rfl⟩ := e
    obtain ⟨vs, rfl, hl, hr⟩ := h
    obtain ⟨l2, r2⟩ := plainK_rel ti.sks cs ys (fun j => vs.getD j undef) hy hr
    refine ⟨List.all_eq_true.2 fun c hc => ?_, vs, rfl, by rw [l2]; exact hl, fun j c hj => (r2 j c hj).2⟩
    obtain ⟨j, hj⟩ := List.getElem?_of_mem hc
    exact (r2 j c hj).1
  case tup cs =>
    exfalso
    simp only [plainV] at e
    split at e
    · rename_i y' hy
      cases hk : ti.sks with
      | nil => rw [hk] at hy; simp [plainK] at hy
      | cons k ks => rw [hk] at hy; cases k <;> simp [plainK] at hy
    · cases e
  all_goals exact one h e
theorem plainVL_rel : ∀ (ts : List TypeId) (xs ys : List AV) (u : Nat → Value), plainVL G ts xs = some ys → (∀ j c, xs[j]? = some c → RelS w F μ m U c (u j)) →
    ys.length = xs.length ∧ ∀ j c, ys[j]? = some c → plainA c = true ∧ RelA w F μ m U c (u j)
  | [], [], ys, u, e, h => by simp [plainVL] at e; subst e; exact ⟨rfl, by simp⟩
  | [], _ :: _, ys, u, e, h => by simp [plainVL] at e
  | _ :: _, [], ys, u, e, h => by simp [plainVL] at e
  | t :: ts, x :: r, ys, u, e, h => by
    simp only [plainVL] at e
    split at e
    · split at e
      · rename_i y s hy hs
        cases e
        obtain ⟨l2, r2⟩ := plainVL_rel ts r s (fun j => u (j + 1)) hs (fun j c hj => h (j + 1) c (by simpa using hj))
        refine ⟨by simp [l2], fun j c hj => ?_⟩
        cases j with
        | zero => simp at hj; subst hj; exact plainV_rel hy (h 0 x rfl)
        | succ j => exact r2 j c (by simpa using hj)
      · cases e
    · cases e
theorem cut_of {ord : List Nat} (hg : Good m ord) : Cut ord m (Mem.ofBs (ord.map fun i => blkAV (renB ord (m i)))) μ (fun j => (ord[j]?).bind μ) (fun i => i < ord.length) := by
  refine ⟨fun j id hj => ?_, fun j id hj => by simp [hj], fun j id hj => (List.getElem?_eq_some_iff.1 hj).1⟩
  cases hm : m id with
  | none => exact absurd hm (hg.2 id (List.mem_of_getElem? hj))
  | some b => exact .inr ⟨b, rfl, by rw [ofBs_map, hj]; simp [hm]⟩
theorem InvAt.cutTo (hI : InvAt W0 F0 U m L w μ F) {ord : List Nat} (hgood : Good m ord)
    (hL : ∀ c v, L' c v → RelS w F (fun j => (ord[j]?).bind μ) (Mem.ofBs (ord.map fun i => blkAV (renB ord (m i)))) (fun i => i < ord.length) c v) :
    InvAt W0 F0 (fun i => i < ord.length) (Mem.ofBs (ord.map fun i => blkAV (renB ord (m i)))) L' w (fun j => (ord[j]?).bind μ) F := by
  have hmem : ∀ j b', Mem.ofBs (ord.map fun i => blkAV (renB ord (m i))) j = some b' → ∃ id b, ord[j]? = some id ∧ m id = some b ∧ b' = renB ord (some b) := by
    intro j b' hj
    rw [ofBs_map, Option.map_eq_some_iff] at hj
    obtain ⟨id, hid, rfl⟩ := hj
    cases hm : m id with
    | none => exact absurd hm (hgood.2 id (List.mem_of_getElem? hid))
    | some b => exact ⟨id, b, hid, hm, rfl⟩
  have hlt : ∀ (j id : Nat), ord[j]? = some id → j < ord.length := fun j id hj => (List.getElem?_eq_some_iff.1 hj).1
  have hc := cut_of (μ := μ) hgood
  refine { below := hI.below, foreign := hI.foreign, sub := hI.sub, used := ?_, blk := ?_, own := ?_, inj := ?_, pairs := hL }
  · intro j b' hj
    obtain ⟨id, b, hid, _, _⟩ := hmem j b' hj
    exact hc.used j id hid
  · intro j b' hj
    obtain ⟨id, b, hid, hb, rfl⟩ := hmem j b' hj
    have hB := hI.blk id b hb
    cases b with
    | box tb cs =>
      obtain ⟨b, C, f, e1, e2, e3, e4, e5⟩ := hB
      refine ⟨b, C, f, by simp [hid, e1], e2, by simpa using e3, e4, fun k c hk => ?_⟩
      simp only [List.getElem?_map, Option.map_eq_some_iff] at hk
      obtain ⟨y, hy, rfl⟩ := hk
      exact ren_C hc 3 (e5 k y hy)
    | row fl sz xs =>
      obtain ⟨e1, e2, e3⟩ := hB
      refine ⟨e1, e2, ?_⟩
      simpa [hid] using e3
  · intro j b' b o n hj hb
    obtain ⟨id, b1, hid, hb1, rfl⟩ := hmem j b' hj
    simp only [hid, Option.bind_some] at hb
    exact hI.own id b1 b o n hb1 hb
  · intro j j' b1 b2 b o n o' n' hj hj' hb hb'
    obtain ⟨id, c1, hid, hc1, rfl⟩ := hmem j b1 hj
    obtain ⟨id', c2, hid', hc2, rfl⟩ := hmem j' b2 hj'
    simp only [hid, Option.bind_some] at hb
    simp only [hid', Option.bind_some] at hb'
    have e := hI.inj id id' c1 c2 b o n o' n' hc1 hc2 hb hb'
    subst e
    exact (List.getElem?_inj (hlt j _ hid) hgood.1).1 (hid.trans hid'.symm)
theorem visits_good2 {α : Type} {m : Mem} {f : α → AV} : ∀ (l : List α) (ord : List Nat), Good m ord → Good m (l.foldl (fun ord q => visit 6 m ord (f q)) ord)
  | [], ord, h => h
  | q :: l, ord, h => visits_good2 l _ (visit_good 6 ord (f q) h)
theorem finM_ok (hG : CfgOk P G) {fn : Func} {nils : List (Nat × Nat × Fl × Nat)} {S : St} {K : AV → Option R} (h : At G W0 F0 S a w) (hK : finM G nils fn.resultTypes.toList fn.results.toList S K = some r) :
    ∃ v y os, (results fn a.tmps).run P w = .ok v w ∧ K (.tup [y, .tup os]) = some r ∧
      ∃ F' μ', InvAt W0 F0 (fun i => i < os.length) (Mem.ofBs os) (fun c u => c = y ∧ u = v) w μ' F' ∧ ∀ i, i < G.kb → ∃ n, μ' i = some (W0.bk i, 0, n) := by
  obtain ⟨μ, F, hI⟩ := h.inv
  unfold finM at hK
  obtain ⟨xs, vs, hK1, hrun, hl, hr⟩ := resK_some hG hI _ _ hK
  clear hK
  obtain ⟨ys, hys, hK2⟩ := withSome_some hK1
  clear hK1
  obtain ⟨l1, r1⟩ := plainVL_rel _ _ _ (fun j => vs.getD j Go.undef) hys hr
  obtain ⟨hth, hK⟩ := bif_some hK2
  clear hK2
  have hS : At G W0 F0 (nils.foldl rowb S) a w := by
    have : ∀ (l : List (Nat × Nat × Fl × Nat)) (S : St), At G W0 F0 S a w → At G W0 F0 (l.foldl rowb S) a w := by
      intro l
      induction l with
      | nil => intro S h; exact h
      | cons e l ih => intro S h; exact ih _ (rowb_ok S e h)
    exact this _ _ h
  generalize nils.foldl rowb S = S' at hK hth hS
  obtain ⟨μ1, F1, hI1⟩ := hS.inv
  have hrun' : (results fn a.tmps).run P w = .ok (if h : vs.toArray.size = 1 then vs.toArray[0] else .tuple vs.toArray) w := by
    have : (fn.results.mapM (resVal a.tmps)).run P w = .ok vs.toArray w := by
      rw [Array.mapM_eq_mapM_toList]
      simp [hrun]
    have e : results fn a.tmps = (fn.results.mapM (resVal a.tmps) >>= fun vs => pure (if h : vs.size = 1 then vs[0] else .tuple vs)) := by
      unfold results
      refine congrArg (fun m => m >>= _) ?_
      congr 1
    rw [e, Sem.run_bind, this]
    rfl
  have hy : plainR (match ys with | [y] => y | ys => .tup ys) = true ∧ RelS w F μ S.m (fun i => i < 8 * S.nxt) (match ys with | [y] => y | ys => .tup ys) (if h : vs.toArray.size = 1 then vs.toArray[0] else .tuple vs.toArray) := by
    split
    · rename_i y
      have hv1 : vs.length = 1 := by rw [hl, ← l1]; rfl
      obtain ⟨v, rfl⟩ := List.length_eq_one_iff.1 hv1
      obtain ⟨p1, p2⟩ := r1 0 y rfl
      refine ⟨?_, relS_of_A p2⟩
      cases y <;> first | exact p1 | cases p1
    · rename_i hne
      have hv1 : ¬ vs.toArray.size = 1 := by
        intro h1
        have : ys.length = 1 := by rw [l1, ← hl]; simpa using h1
        obtain ⟨y, hy⟩ := List.length_eq_one_iff.1 this
        exact hne y hy
      rw [dif_neg hv1]
      refine ⟨List.all_eq_true.2 fun c hc => ?_, vs.toArray, rfl, by simp [hl, l1], fun j c hj => by simpa using (r1 j c hj).2⟩
      obtain ⟨j, hj⟩ := List.getElem?_of_mem hc
      exact (r1 j c hj).1
  refine ⟨_, _, _, hrun', hK, ?_⟩
  obtain ⟨ord, hord⟩ : ∃ ord, ord = (List.range G.kb).foldl (fun ord i => visit 6 S'.m ord (.agg (match S'.m i with | .some (.box _ cs) => cs | _ => []))) (List.range G.kb) := ⟨_, rfl⟩
  have hgood : Good S'.m ord := by rw [hord]; exact visits_good2 _ _ (there_good hth)
  obtain ⟨t0, ht0⟩ : ∃ t, ord = List.range G.kb ++ t := by rw [hord]; exact visits_pre _ _
  have ho : outs G.kb S' = ord.map fun i => blkAV (renB ord (S'.m i)) := by rw [hord]; rfl
  rw [ho, List.length_map]
  refine ⟨F1, fun j => (ord[j]?).bind μ1, ?_, ?_⟩
  · have := hI1.cutTo hgood (L' := fun c u => c = (match ys with | [y] => y | ys => .tup ys) ∧ u = (if h : vs.toArray.size = 1 then vs.toArray[0] else .tuple vs.toArray)) (by
      rintro c u ⟨rfl, rfl⟩
      exact plain_same hy.1 hy.2)
    exact this
  · intro i hi
    have hp := hI1.pairs _ _ (.inr (.inr ⟨i, hi, rfl, rfl⟩))
    have hb : isBx (S'.m i) = true := List.all_eq_true.1 hth i (List.mem_range.2 hi)
    cases hm : S'.m i with
    | none => rw [hm] at hb; cases hb
    | some b =>
      cases b with
      | row _ _ _ => rw [hm] at hb; cases hb
      | box tb cs =>
        obtain ⟨_, _, hpp⟩ := hp
        obtain ⟨b, n, hμ, hv⟩ := hpp tb cs hm
        cases hv
        exact ⟨n, by show (ord[i]?).bind μ1 = _; rw [pre_get ht0 hi]; exact hμ⟩
theorem nbox_lt : ∀ (bs : List AV), nbox bs ≤ bs.length
  | [] => Nat.le_refl _
  | x :: r => by
    have := nbox_lt r
    cases x <;> simp [nbox]
    exact this
theorem startM_ok {fn : Func} {args bs : List AV} {vals : Array Value} (hglob : ∀ g, G.glob g = none) (hkb : G.kb = nbox bs) (hl : vals.size = args.length)
    (hI : InvAt W0 F0 (fun i => i < 8 * bs.length) (Mem.ofBs bs) (fun c v => ∃ j, args[j]? = some c ∧ v = vals.getD j undef) W0.w μ F0) (hbk : ∀ i, i < nbox bs → ∃ n, μ i = some (W0.bk i, 0, n)) :
    At G W0 F0 (startM fn args bs) { tmps := vals ++ Array.replicate (fn.ntmps - vals.size) Go.undef, defers := [] } W0.w := by
  refine ⟨rfl, by simp [startM, hl], μ, F0, ?_⟩
  refine { hI with pairs := ?_ }
  rintro x v (⟨t, rfl, rfl⟩ | ⟨g, cs, hg, _⟩ | ⟨i, hi, rfl, rfl⟩)
  · by_cases ht : t < args.length
    · have e1 : (startM fn args bs).tm.getD t .undef = args[t] := by simp [startM, List.getD_eq_getElem?_getD, List.getElem?_append_left ht, ht]
      have e2 : (vals ++ Array.replicate (fn.ntmps - vals.size) Go.undef).getD t Go.undef = vals.getD t Go.undef := by
        rw [Array.getD_eq_getD_getElem?, Array.getElem?_append_left (by omega), Array.getD_eq_getD_getElem?]
      rw [e1, e2]
      exact hI.pairs _ _ ⟨t, List.getElem?_eq_getElem ht, rfl⟩
    · have e1 : (startM fn args bs).tm.getD t .undef = .undef := by
        simp only [startM, List.getD_eq_getElem?_getD]
        rw [List.getElem?_append_right (by omega), List.getElem?_replicate]
        split <;> rfl
      rw [e1]
      exact relS_of_A (relA_of_C (relC_of_B undefB))
  · rw [hglob] at hg; cases hg
  · rw [hkb] at hi
    obtain ⟨n, hn⟩ := hbk i hi
    have := nbox_lt bs
    refine ⟨fun _ => rfl, ?_, fun tb cs hcs => ⟨_, n, hn, rfl⟩⟩
    show i < 8 * bs.length
    omega
/-- As 'HandsM', of a function of the program's own text. -/
def HandsMIn (P : Program) [Rooted P] (f : FuncId) (args bs : List AV) (y : AV) (os : List AV) : Prop :=
  ∀ (B : Base) (F : Nat → Prop) (vals : Array Value) (μ : Mu), Rooted.Q P B.root → vals.size = args.length →
    InvAt B F (fun i => i < 8 * bs.length) (Mem.ofBs bs) (fun c v => ∃ j, args[j]? = some c ∧ v = vals.getD j undef) B.w μ F → (∀ i, i < nbox bs → ∃ n, μ i = some (B.bk i, 0, n)) →
    (callFunc f vals).run P B.w = .ok (.enter f vals) B.w ∧ Calls P f vals B.w fun e w' => match e with
      | .returned v => ∃ F' μ', InvAt B F (fun i => i < os.length) (Mem.ofBs os) (fun c u => c = y ∧ u = v) w' μ' F' ∧ ∀ i, i < nbox bs → ∃ n, μ' i = some (B.bk i, 0, n)
      | _ => False
theorem HandsMIn.hands [Rooted P] {f : FuncId} {args bs : List AV} {y : AV} {os : List AV} (h : HandsMIn P f args bs y os) : Hands P f (args ++ [.tup bs]) (.tup [y, .tup os]) :=
  fun R0 hQ => ⟨fun hl => absurd hl (by simp [lastTup_snoc]), fun args' bs' y' os' e1 e2 => by
    obtain ⟨rfl, e3⟩ := List.append_inj' e1 rfl
    cases e3
    cases e2
    intro B F vals μ hB h1 h2 h3
    exact .inl (h B F vals μ (hB ▸ hQ) h1 h2 h3)⟩
/-- A function that is handed variables, as its body is evaluated. -/
theorem funM_ok [Rooted P] (hG : CfgOk P G) (hglob : ∀ g, G.glob g = none) {C : FuncId → List AV → (AV → Option R) → Option R}
    {cut : Nat → Option Keep} {nils : List (Nat × Nat × Fl × Nat)} {f : FuncId} {fn : Func} {args bs : List AV} {y : AV} {os : List AV} {n : Nat} (hkb : G.kb = nbox bs) (hf : P.funcs[f]? = some fn) (hname : (fn.name == "runtime.NumGoroutine") = false) (hbody : fn.body.isNone = false)
    (hdraw : ∀ (W0 : Base) (F0 : Nat → Prop), Rooted.Q P W0.root → ∀ rid ops draw (S : St) (K : St → Option R) a w r, At G W0 F0 S a w → regionK G C ops draw S K = some r → (Code.region rid ops draw).wp P (fun e a' w' => e = .normal ∧ ∃ S', K S' = some r ∧ At G W0 F0 S' a' w') a w)
    {K : AV → Option R} {r : R} (hx : ∀ z, K z = some r → z = .tup [y, .tup os]) (hK : funM G C cut nils fn n args bs K = some r) : HandsMIn P f args bs y os := by
  intro B F vals μ hQ hl hI hbk
  have n1 : ¬ fn.name = "runtime.NumGoroutine" := by simpa using hname
  have n2 : ¬ fn.body = none := by intro e; simp [e] at hbody
  refine ⟨by simp [callFunc, hf, n1, n2], ?_⟩
  unfold funM at hK
  split at hK
  · rename_i c hc
    intro cs
    obtain ⟨b, hb⟩ : ∃ b : Frame, b = { (default : Frame) with fn := f, kind := .normal } := ⟨_, rfl⟩
    have henter : Frame.enter P f vals .normal = b.at { tmps := vals ++ Array.replicate (fn.ntmps - vals.size) Go.undef, defers := [] } [.code c] := by
      simp [Frame.enter, Frame.at, hf, hc, hb]
    have hst := startM_ok (G := G) (fn := fn) hglob hkb hl hI hbk
    have hfin : ∀ (S : St) (a : Act) (w' : World) (r : R), finM G nils fn.resultTypes.toList fn.results.toList S K = some r → At G B F S a w' → ∃ v, (results fn a.tmps).run P w' = .ok v w' ∧
        (∃ y os, K (.tup [y, .tup os]) = some r ∧ ∃ F' μ', InvAt B F (fun i => i < os.length) (Mem.ofBs os) (fun c u => c = y ∧ u = v) w' μ' F' ∧ ∀ i, i < G.kb → ∃ n, μ' i = some (B.bk i, 0, n)) := by
      intro S a w' r hK hA
      obtain ⟨v, y, os, h1, h2, h3⟩ := finM_ok hG hA hK
      exact ⟨v, h1, y, os, h2, h3⟩
    have := go_ok (P := P) (G := G) (C := C) (b := b) (cs := cs) (fn := fn) (T := fun r v w' => ∃ y os, K (.tup [y, .tup os]) = some r ∧ ∃ F' μ', InvAt B F (fun i => i < os.length) (Mem.ofBs os) (fun c u => c = y ∧ u = v) w' μ' F' ∧ ∀ i, i < G.kb → ∃ n, μ' i = some (B.bk i, 0, n)) (cut := cut) (W0 := B) (F0 := F) (by rw [hb]) (by rw [hb]; exact hf) hfin (hdraw _ F hQ)
      (fun todo S a ww r keep hK ht h => run_ok (P := P) (G := G) (C := C) (b := b) (cs := cs) (fn := fn) (T := fun r v w' => ∃ y os, K (.tup [y, .tup os]) = some r ∧ ∃ F' μ', InvAt B F (fun i => i < os.length) (Mem.ofBs os) (fun c u => c = y ∧ u = v) w' μ' F' ∧ ∀ i, i < G.kb → ∃ n, μ' i = some (B.bk i, 0, n)) (cut := cut) (by rw [hb]) (by rw [hb]; exact hf) hfin (hdraw _ F hQ) clean_ok n todo _ a ww r hK (clean_ok keep S a ww ht h))
      1000 _ _ _ _ _ hK hst
    obtain ⟨v, w', fr, ⟨y', os', hy, hT⟩, hs, hfn, hlv⟩ := this
    have e := hx _ hy
    cases e
    rw [hkb] at hT
    rw [← henter] at hs
    exact ⟨.returned v, w', fr, hT, hs, by rw [hfn, hb], hlv⟩
  · cases hK
theorem handsM_of [Rooted P] (hG : CfgOk P G) (hmix : P.follows .mixedOrders = true) (hglob : ∀ g, G.glob g = none) {C : FuncId → List AV → (AV → Option R) → Option R} (hC : Tells P C)
    {cut : Nat → Option Keep} {nils : List (Nat × Nat × Fl × Nat)} {f : FuncId} {fn : Func} {args bs : List AV} {y : AV} {os : List AV} {n : Nat} (hkb : G.kb = nbox bs) (hf : P.funcs[f]? = some fn) (hname : (fn.name == "runtime.NumGoroutine") = false) (hbody : fn.body.isNone = false)
    {K : AV → Option R} {r : R} (hx : ∀ z, K z = some r → z = .tup [y, .tup os]) (hK : funM G C cut nils fn n args bs K = some r) : HandsMIn P f args bs y os :=
  funM_ok hG hglob hkb hf hname hbody (fun W0 F0 hQ rid ops draw S K a w r h hK => region_any hG hmix (hC.at (R0 := W0.root) hQ) hC.natural h hK) hx hK
theorem funM_getD {C : FuncId → List AV → (AV → Option R) → Option R} {cut : Nat → Option Keep} {nils : List (Nat × Nat × Fl × Nat)} {fn : Func} {n : Nat} {args bs : List AV} {K : AV → Option R} (h : fn.body.isNone = false) :
    funM G C cut nils fn n args bs K = goK G C cut (fun S => finM G nils fn.resultTypes.toList fn.results.toList S K) (runK G C cut (fun S => finM G nils fn.resultTypes.toList fn.results.toList S K) n) 1000 [.code (fn.body.getD .skip)] (startM fn args bs) := by
  unfold funM
  cases hb : fn.body with
  | none => rw [hb] at h; cases h
  | some c => rfl
theorem tells_at2 [Rooted P] {g c : FuncId} {aas : List AV} {b : Bool} {x y : (AV → Option R) → Option R} (h1 : Tells1 P c aas x) (h2 : Tells1 P g aas y) : Tells1 P g aas (bif Nat.beq g c && b then x else y) := by
  cases h : Nat.beq g c && b with
  | true =>
    rw [Bool.and_eq_true] at h
    cases Nat.eq_of_beq_eq_true h.1
    exact h1
  | false => exact h2
end
end Go.Proofs.Ev

/- strings.Builder: its pointer to itself. -/
namespace Go.Proofs.Ev
open Go Go.RowKit
set_option linter.unusedVariables false
/-- The ids of a cell are of those. -/
def inU (U : Nat → Prop) : AV → Prop
  | .own id _ _ | .elt id _ _ | .ptr id _ => U id
  | .fn _ _ => False
  | _ => True
section
variable {P : Program} {w w' : World} {W0 : Base} {F0 U U' F F' : Nat → Prop} {L L' : AV → Value → Prop} {m m' : Mem} {μ μ' : Mu}
theorem RelB.shrink {x : AV} {v : Value} (h : RelB w F μ m U x v) (hx : inU U' x) : RelB w F μ m U' x v := by
  obtain ⟨h1, h2⟩ := h
  refine ⟨h1, ?_⟩
  cases x <;> first | exact ⟨hx, h2.2⟩ | exact h2
theorem RelC.shrink {x : AV} {v : Value} (h : RelC w F μ m U x v) (hx : inU U' x) : RelC w F μ m U' x v := by
  cases x
  case fn => exact hx.elim
  all_goals exact RelB.shrink (U := U) (w := w) (F := F) (μ := μ) (m := m) h hx
theorem InvAt.shrink (h : InvAt W0 F0 U m L w μ F) (hU : ∀ i, m i ≠ none → U' i) (hb : ∀ i tb cs, m i = some (.box tb cs) → ∀ c ∈ cs, inU U' c) (hL : ∀ c v, L' c v → RelS w F μ m U' c v) : InvAt W0 F0 U' m L' w μ F := by
  refine { below := h.below, foreign := h.foreign, sub := h.sub, used := fun i x hx => hU i (by rw [hx]; simp), blk := ?_, own := h.own, inj := h.inj, pairs := hL }
  intro i x hx
  have hB := h.blk i x hx
  cases x with
  | box tb cs =>
    obtain ⟨b, C, f, e1, e2, e3, e4, e5⟩ := hB
    exact ⟨b, C, f, e1, e2, e3, e4, fun j c hj => (e5 j c hj).shrink (hb i tb cs hx c (List.mem_of_getElem? hj))⟩
  | row fl sz xs => exact hB
theorem ofBs_cons_upd {x y : AV} {z : Blk} (hz : avBlk y = some z) (rest : List AV) : (Mem.ofBs (x :: rest)).upd 0 (some z) = Mem.ofBs (y :: rest) := by
  funext i
  cases i with
  | zero => rw [Mem.upd_same]; exact hz.symm
  | succ i => rw [Mem.upd_other _ _ (by omega)]; simp [Mem.ofBs]
theorem ofBs_rows {rest : List AV} (hr : ∀ x ∈ rest, ∃ fl sz xs, x = .fr fl sz xs) {y : AV} {i : Nat} {tb : TypeId} {cs : List AV} (h : Mem.ofBs (y :: rest) i = some (.box tb cs)) : i = 0 := by
  cases i with
  | zero => rfl
  | succ i =>
    simp only [Mem.ofBs, List.getElem?_cons_succ] at h
    cases hx : rest[i]? with
    | none => rw [hx] at h; cases h
    | some x =>
      rw [hx] at h
      obtain ⟨fl, sz, xs, rfl⟩ := hr x (List.mem_of_getElem? hx)
      cases h
variable {f : FuncId} {T : TypeId} {c1 : AV} {rest : List AV}
/-- What was handed to a call with one variable, and rows. -/
theorem shrinkM {y : AV} (hI : InvAt W0 F0 (fun i => i < 8 * (rest.length + 1)) (Mem.ofBs (.fn T [.ptr 0 0, c1] :: rest)) L w μ F) (h1 : inU (fun i => i < rest.length + 1) c1) (hr : ∀ x ∈ rest, ∃ fl sz xs, x = .fr fl sz xs)
    (hL : ∀ c v, L' c v → RelS w F μ (Mem.ofBs (.fn T [.ptr 0 0, c1] :: rest)) (fun i => i < rest.length + 1) c v) :
    InvAt W0 F0 (fun i => i < rest.length + 1) (Mem.ofBs (.fn T [.ptr 0 0, c1] :: rest)) L' w μ F := by
  refine hI.shrink ?_ ?_ hL
  · intro i hi
    show i < rest.length + 1
    refine Nat.lt_of_not_le fun hle => hi ?_
    simp only [Mem.ofBs]
    rw [List.getElem?_eq_none (by simpa using hle)]
  · intro i tb cs hx c hc
    obtain rfl := ofBs_rows hr hx
    have : some (Blk.box T [.ptr 0 0, c1]) = some (.box tb cs) := hx
    cases this
    simp only [List.mem_cons, List.not_mem_nil, or_false] at hc
    rcases hc with rfl | rfl
    · show 0 < rest.length + 1
      omega
    · exact h1
theorem unit_rel : RelS w F μ m U (.tup []) (.tuple #[]) := ⟨#[], rfl, rfl, by simp⟩
theorem copyCheck_used [Rooted P] (hc : ∀ b w, w.cell? ⟨b, 0, none⟩ = some (.pointer (some ⟨b, 0, none⟩)) → Calls P f #[.pointer (some ⟨b, 0, none⟩)] w fun e w' => e = .returned (.tuple #[]) ∧ w' = w)
    (hcall : ∀ args w, (callFunc f args).run P w = .ok (.enter f args) w) (h1 : inU (fun i => i < rest.length + 1) c1) (hr : ∀ x ∈ rest, ∃ fl sz xs, x = .fr fl sz xs) :
    HandsMIn P f [.ptr 0 0] (.fn T [.ptr 0 0, c1] :: rest) (.tup []) (.fn T [.ptr 0 0, c1] :: rest) := by
  intro B F vals μ hQ hl hI hbk
  refine ⟨hcall _ _, ?_⟩
  obtain ⟨v0, rfl⟩ : ∃ v0, vals = #[v0] := by
    obtain ⟨l⟩ := vals
    match l, hl with
    | [u], _ => exact ⟨u, rfl⟩
  have hp := hI.pairs (.ptr 0 0) v0 ⟨0, rfl, rfl⟩
  have hm : Mem.ofBs (.fn T [.ptr 0 0, c1] :: rest) 0 = some (.box T [.ptr 0 0, c1]) := rfl
  obtain ⟨_, hu, hpp⟩ := hp
  obtain ⟨b, n, hμ, rfl⟩ := hpp _ _ hm
  obtain ⟨b', C, fz, hμ', hh, hlC, hfr, hrel⟩ := hI.blk 0 _ hm
  rw [hμ] at hμ'
  simp only [Option.some.injEq, Prod.mk.injEq] at hμ'
  obtain ⟨rfl, _, rfl⟩ := hμ'
  have hC2 : C.size = 2 := by simpa using hlC.symm
  have e0 : C.getD 0 undef = .pointer (some ⟨b, 0, none⟩) := by
    obtain ⟨_, _, hq⟩ := hrel 0 _ rfl
    obtain ⟨b2, n2, g1, g2⟩ := hq _ _ hm
    rw [hμ] at g1
    cases g1
    exact g2
  refine (hc b B.w (by rw [cell_of hh (by omega), e0])).mono ?_
  rintro e w' ⟨rfl, rfl⟩
  exact ⟨F, μ, shrinkM (y := .undef) hI h1 hr (by rintro c v ⟨rfl, rfl⟩; exact unit_rel), hbk⟩
theorem copyCheck_new [Rooted P] (hc : ∀ b w, w.cell? ⟨b, 0, none⟩ = some (.pointer none) → w.shape? b = some (T, 2) → w.frozen? ⟨b, 0, none⟩ = false →
      Calls P f #[.pointer (some ⟨b, 0, none⟩)] w fun e w' => e = .returned (.tuple #[]) ∧ w' = w.setCell ⟨b, 0, none⟩ (.pointer (some ⟨b, 0, none⟩)))
    (hcall : ∀ args w, (callFunc f args).run P w = .ok (.enter f args) w) (h1 : inU (fun i => i < rest.length + 1) c1) (hr : ∀ x ∈ rest, ∃ fl sz xs, x = .fr fl sz xs) :
    HandsMIn P f [.ptr 0 0] (.fn T [.v (.pointer none), c1] :: rest) (.tup []) (.fn T [.ptr 0 0, c1] :: rest) := by
  intro B F vals μ hQ hl hI hbk
  refine ⟨hcall _ _, ?_⟩
  obtain ⟨v0, rfl⟩ : ∃ v0, vals = #[v0] := by
    obtain ⟨l⟩ := vals
    match l, hl with
    | [u], _ => exact ⟨u, rfl⟩
  have hp := hI.pairs (.ptr 0 0) v0 ⟨0, rfl, rfl⟩
  have hm : Mem.ofBs (.fn T [.v (.pointer none), c1] :: rest) 0 = some (.box T [.v (.pointer none), c1]) := rfl
  obtain ⟨_, hu, hpp⟩ := hp
  obtain ⟨b, n, hμ, rfl⟩ := hpp _ _ hm
  obtain ⟨b', C, fz, hμ', hh, hlC, hfr, hrel⟩ := hI.blk 0 _ hm
  rw [hμ] at hμ'
  simp only [Option.some.injEq, Prod.mk.injEq] at hμ'
  obtain ⟨rfl, _, rfl⟩ := hμ'
  have hC2 : C.size = 2 := by simpa using hlC.symm
  have e0 : C.getD 0 undef = .pointer none := (relS_v (relS_of_A (relA_of_C (hrel 0 _ rfl)))).1
  have hfz : B.w.frozen? ⟨b, 0, none⟩ = false := by
    obtain ⟨lo, hi⟩ := fz
    have := hfr 0 (by omega)
    simp only [World.frozen?, hh]
    simpa using this
  refine (hc b B.w (by rw [cell_of hh (by omega), e0]) (by simp [World.shape?, hh, hC2]) hfz).mono ?_
  rintro e w' ⟨rfl, rfl⟩
  have hown := hI.own 0 _ b 0 C.size hm hμ
  have hst := hI.store (w' := B.w.setCells b 0 [.pointer (some ⟨b, 0, none⟩)]) hm hμ (x' := .box T [.ptr 0 0, c1]) rfl (setCells_keeps b _ _ _ hI.below hown.1) (setCells_size b _ _ _) (fun k hk => setCells_other b _ _ _ k hk) (by
    have hmm := store_hm (U := fun i => i < 8 * (AV.fn T [.v (.pointer none), c1] :: rest).length) (μ := μ) (x' := .box T [.ptr 0 0, c1]) hm rfl
    refine ⟨b, wrAt C 0 [.pointer (some ⟨b, 0, none⟩)], fz, by rw [wrAt_size]; exact hμ, setCells_heap b _ _ _ _ _ _ hh, by rw [wrAt_size, hC2]; rfl, by rw [wrAt_size]; exact hfr, fun k c hk => ?_⟩
    match k, hk with
    | 0, hk =>
      simp at hk
      subst hk
      have := wrAt_in [.pointer (some ⟨b, 0, none⟩)] C 0 0 (by simp) (by simp; omega)
      refine ⟨fun _ => ?_, hu, fun tb cs hx => ⟨b, C.size, hμ, ?_⟩⟩
      · rw [this]; rfl
      · exact this
    | 1, hk =>
      simp at hk
      subst hk
      rw [wrAt_out _ _ _ _ (.inr (by simp))]
      exact (hrel 1 _ rfl).mono (fun _ h => h) (fun j hj => setCells_other b _ _ _ j (fun e => hown.2.2 (e ▸ hj))) (fun _ h => h) hmm)
  rw [ofBs_cons_upd (y := .fn T [.ptr 0 0, c1]) rfl] at hst
  exact ⟨F, μ, shrinkM (y := .undef) hst h1 hr (by rintro c v ⟨rfl, rfl⟩; exact unit_rel), hbk⟩
end
end Go.Proofs.Ev

/- strings.Builder: its string. -/
namespace Go.Proofs
open Go.Shelf Go.RowKit
set_option linter.unusedVariables false
variable {P : Program} {ρ : Ren}
set_option maxHeartbeats 2000000 in
set_option maxRecDepth 100000 in
theorem bstring_calls (L : Lays.n169 P ρ) (X : Builder.Extra P ρ) (b n cap : Nat) (ao q : Option Addr) (s : ByteArray) (w w1 w2 : World) (c1 : w.drew.cell? ⟨b, 1, none⟩ = some (.slice ao n cap))
    (hSD : (Builtin.unsafeSliceData_ #[(ρ.t 37)] (ρ.t 127) #[.slice ao n cap]).run P w.drew = .ok (.pointer q) w1) (c2 : w1.cell? ⟨b, 1, none⟩ = some (.slice ao n cap))
    (hUS : (Builtin.unsafeString_ #[(ρ.t 127), (ρ.t 3)] (ρ.t 9) #[.pointer q, .int .i64 n]).run P w1 = .ok (.string s) w2) :
    Calls P (ρ.f 169) #[.pointer (some ⟨b, 0, none⟩)] w fun e w' => e = .returned (.string s) ∧ w' = w2 := by
  have c0 : w.cell? ⟨b, 1, none⟩ = some (.slice ao n cap) := c1
  have mixed := L.mixed
  have t72 := L.t72; have a72 := L.a72; have z72 := L.z72; have v72 := L.v72; have u72 := run_underlying L.t72
  have t70 := L.t70; have a70 := L.a70; have z70 := L.z70; have v70 := L.v70; have u70 := run_underlying L.t70
  have t37 := L.t37; have a37 := L.a37; have z37 := L.z37; have v37 := L.v37; have u37 := run_underlying L.t37
  have t127 := L.t127; have a127 := L.a127; have z127 := L.z127; have v127 := L.v127; have u127 := run_underlying L.t127
  have t3 := L.t3; have a3 := L.a3; have z3 := L.z3; have v3 := L.v3; have u3 := run_underlying L.t3
  have t9 := L.t9; have a9 := L.a9; have z9 := L.z9; have v9 := L.v9; have u9 := run_underlying L.t9
  have t5 := X.t5; have a5 := X.a5; have z5 := X.z5; have v5 := X.v5; have u5 := run_underlying X.t5
  go_enter L.f169, Body.n169_ntmps ρ
  go_wp2
  go_region_o
  all_goals (go_wp2; go_ret; exact ⟨rfl, rfl⟩)
/-- In a row of 'count' bytes, n of them lie side by side from a place on. -/
theorem liesAt_bytes_off {e : TypeId} (hc : P.cellsOf e = 1) (count o n : Nat) (hn : o + n ≤ count) : liesAt P P.depth e count o e n = true := by
  have hd : P.depth = (2 * (P.types.size + Made.depth) + 1) + 1 := rfl
  rw [hd]
  simp only [liesAt, Bool.or_eq_true]
  left
  rw [hd]
  simp [rowAt, hc, hn, sameLayout, Nat.mod_one]
end Go.Proofs

/- strings.Builder: its string, as a contract. -/
namespace Go.Proofs.Ev
open Go Go.Proofs Go.Shelf Go.RowKit
set_option linter.unusedVariables false
section
variable {P : Program} {w w' : World} {B : Base} {F : Nat → Prop} {L : AV → Value → Prop} {μ : Mu} {T : TypeId} {c0 c1 c1' : AV} {rest : List AV} {s : ByteArray}
theorem bstring_fin (hI : InvAt B F (fun i => i < 8 * (rest.length + 1)) (Mem.ofBs (.fn T [c0, c1] :: rest)) L B.w μ F) (hc0 : c0 = .v (.pointer none) ∨ c0 = .ptr 0 0) (h1 : c1' = .undef ∨ (c1' = c1 ∧ ∃ x, c1 = .v x))
    (hK : Keeps B w') (hsz : B.w.heap.size ≤ w'.heap.size) (hF : ∀ b, F b → w'.heap[b]? = B.w.heap[b]?) (hb : ∀ b o n, μ 0 = some (b, o, n) → w'.heap[b]? = B.w.heap[b]?) :
    InvAt B F (fun i => i < 1) (Mem.ofBs [.fn T [c0, c1']]) (fun c u => c = .v (.string s) ∧ u = .string s) w' μ F := by
  have hm : Mem.ofBs (.fn T [c0, c1] :: rest) 0 = some (.box T [c0, c1]) := rfl
  obtain ⟨b, C, fz, hμ, hh, hlC, hfr, hrel⟩ := hI.blk 0 _ hm
  have only : ∀ i x, Mem.ofBs [AV.fn T [c0, c1']] i = some x → i = 0 ∧ x = .box T [c0, c1'] := by
    intro i x hx
    cases i with
    | zero => cases hx; exact ⟨rfl, rfl⟩
    | succ i => simp [Mem.ofBs] at hx
  refine { below := hK, foreign := fun b hb => ⟨Nat.lt_of_lt_of_le (hI.foreign b hb).1 hsz, (hI.foreign b hb).2⟩, sub := hI.sub, used := ?_, blk := ?_, own := ?_, inj := ?_, pairs := ?_ }
  · intro i x hx
    rw [(only i x hx).1]
    exact Nat.zero_lt_one
  · intro i x hx
    obtain ⟨rfl, rfl⟩ := only i x hx
    refine ⟨b, C, fz, hμ, by rw [hb b _ _ hμ]; exact hh, hlC, hfr, fun j c hj => ?_⟩
    match j, hj with
    | 0, hj =>
      simp at hj
      subst hj
      have h0 := hrel 0 _ rfl
      rcases hc0 with rfl | rfl
      · exact plain_same (x := .v _) (U1 := fun i => i < 1) (m1 := fun _ => none) (μ1 := μ) rfl (relS_of_A (relA_of_C h0))
      · obtain ⟨g1, _, g3⟩ := h0
        obtain ⟨b2, n2, g4, g5⟩ := g3 _ _ hm
        exact ⟨g1, Nat.zero_lt_one, fun tb cs _ => ⟨b2, n2, g4, g5⟩⟩
    | 1, hj =>
      simp at hj
      subst hj
      rcases h1 with rfl | ⟨rfl, x, rfl⟩
      · exact relC_of_B undefB
      · exact plain_same (x := .v x) (U1 := fun i => i < 1) (m1 := fun _ => none) (μ1 := μ) rfl (relS_of_A (relA_of_C (hrel 1 _ rfl)))
  · intro i x b' o n hx hμ'
    obtain ⟨rfl, rfl⟩ := only i x hx
    obtain ⟨g1, g2, g3⟩ := hI.own 0 _ b' o n hm hμ'
    exact ⟨g1, Nat.lt_of_lt_of_le g2 hsz, g3⟩
  · intro i i' x x' _ _ _ _ _ hx hx' _ _
    rw [(only i x hx).1, (only i' x' hx').1]
  · rintro c u ⟨rfl, rfl⟩
    exact relS_mk rfl
theorem run_loadBytes2 (w : World) : ∀ (l : List Int) (a : Addr) (acc : ByteArray), (∀ j x, l[j]? = some x → w.cell? (a.add j) = some (.int .u8 x)) →
    (loadBytes a acc l.length).run P w = .ok ⟨acc.data ++ (l.map fun n => UInt8.ofNat n.toNat).toArray⟩ w
  | [], a, acc, _ => by simp [loadBytes]
  | x :: l, a, acc, h => by
    have h0 : w.cell? a = some (.int .u8 x) := by
      have := h 0 x rfl
      simpa [Addr.add] using this
    have ih := run_loadBytes2 w l (a.add 1) (acc.push (x.toNat).toUInt8) (fun j y hy => by
      have := h (j + 1) y (by simpa using hy)
      have e : (a.add 1).add j = a.add (j + 1) := by
        unfold Addr.add
        by_cases hj : j = 0
        · subst hj; simp
        · simp [hj]; omega
      rw [e]; exact this)
    simp only [List.length_cons, loadBytes, Sem.run_bind, run_load, h0, Result.andThen]
    rw [ih]
    congr 1
    apply ByteArray.ext
    simp [ByteArray.push]
theorem run_unsafeString2 (w : World) (pt it ty e : TypeId) (hp : P.underlying pt = some (.pointer e)) (hc : P.cellsOf e = 1) (g o cells : Nat) (hsh : w.shape? g = some (e, cells)) (l : List Int) (h0 : l.length ≠ 0) (hn : o + l.length ≤ cells) (h63 : l.length ≤ 9223372036854775807)
    (hcell : ∀ j x, l[j]? = some x → w.cell? ((⟨g, o, none⟩ : Addr).add j) = some (.int .u8 x)) :
    (Builtin.unsafeString_ #[pt, it] ty #[.pointer (some ⟨g, o, none⟩), .int .i64 l.length]).run P w = .ok (.string ⟨(l.map fun n => UInt8.ofNat n.toNat).toArray⟩) (w.freeze ⟨g, o, none⟩ l.length) := by
  have hlb := run_loadBytes2 (P := P) w l ⟨g, o, none⟩ .empty hcell
  have hlies := liesAt_bytes_off (P := P) hc (cells / P.cellsOf e) o l.length (by rw [hc]; simpa using hn)
  have h63' : ¬ (9223372036854775807 : Int) < (l.length : Int) := by omega
  have hdef : Builtin.unsafeString_ #[pt, it] ty #[.pointer (some ⟨g, o, none⟩), .int .i64 l.length] =
      (do
        let n ← asInt (.int .i64 l.length)
        if n < 0 then runtimePanic (.error "unsafe.String: len out of range")
        if n > IntKind.i64.max then unsupported (.unsafePointer "String: a length above the largest int")
        if n = 0 then pure (.string .empty)
        else if ← variablesAt ⟨g, o, none⟩ (← elemOf pt) n.toNat then do
          let s ← loadBytes ⟨g, o, none⟩ .empty n.toNat
          freeze ⟨g, o, none⟩ n.toNat
          pure (.string s)
        else unsupported (.unsafePointer "String: not so many bytes at ptr")) := rfl
  rw [hdef]
  have hmax : IntKind.i64.max = 9223372036854775807 := rfl
  have hneg : ¬ (l.length : Int) < 0 := by omega
  simp [asInt, asIntOf, hmax, h63', hneg, h0, variablesAt, hsh, elemOf, run_underlying hp, hlies, hlb]
theorem freeze_other (w : World) (a : Addr) (n k : Nat) (hk : k ≠ a.block) : (w.freeze a n).heap[k]? = w.heap[k]? := by
  unfold World.freeze
  split
  · rfl
  · simp only [Array.getElem?_modify]
    rw [if_neg (fun e => hk e.symm)]
theorem freeze_size (w : World) (a : Addr) (n : Nat) : (w.freeze a n).heap.size = w.heap.size := by
  unfold World.freeze
  split
  · rfl
  · simp
theorem freeze_keeps (w : World) (a : Addr) (n : Nat) {B : Base} (h : Keeps B w) (hb : ¬ B.N a.block) : Keeps B (w.freeze a n) := by
  refine ⟨?_, ?_, ?_, by rw [freeze_size]; exact h.size, fun k hk => (freeze_other w a n k (fun e => hb (e ▸ hk))).trans (h.block k hk)⟩
  all_goals (unfold World.freeze; split)
  · exact h.os
  · exact h.os
  · exact h.tape
  · exact h.tape
  · exact h.output
  · exact h.output
end
end Go.Proofs.Ev

/- strings.Builder's String: the contracts. -/
namespace Go.Proofs.Ev
open Go Go.Proofs Go.Shelf Go.RowKit
set_option linter.unusedVariables false
section
variable {P : Program} {ρ : Ren} {T : TypeId} {c0 : AV}
theorem bstring_row [Rooted P] (L : Lays.n169 P ρ) (X : Builder.Extra P ρ) (hcall : ∀ args w, (callFunc (ρ.f 169) args).run P w = .ok (.enter (ρ.f 169) args) w) (hc0 : c0 = .v (.pointer none) ∨ c0 = .ptr 0 0)
    {fl : Fl} (hfl : fl.te = ρ.t 5) {xs : List AV} {l : List UInt8} (hs : strOf xs = some l) (hmost : xs.length ≤ most) :
    HandsMIn P (ρ.f 169) [.ptr 0 0] [.fn T [c0, .own 1 0 none], .fr fl 1 xs] (vs ⟨l.toArray⟩) [.fn T [c0, .undef]] := by
  intro B F vals μ hQ hl hI hbk
  refine ⟨hcall _ _, ?_⟩
  obtain ⟨v0, rfl⟩ : ∃ v0, vals = #[v0] := by
    obtain ⟨l⟩ := vals
    match l, hl with
    | [u], _ => exact ⟨u, rfl⟩
  obtain ⟨ns, rfl, rfl⟩ := strOf_some _ _ hs
  have hp := hI.pairs (.ptr 0 0) v0 ⟨0, rfl, rfl⟩
  have hm : Mem.ofBs [.fn T [c0, .own 1 0 none], .fr fl 1 (ns.map fun n => vu n)] 0 = some (.box T [c0, .own 1 0 none]) := rfl
  have hm1 : Mem.ofBs [.fn T [c0, .own 1 0 none], .fr fl 1 (ns.map fun n => vu n)] 1 = some (.row fl 1 (ns.map fun n => vu n)) := rfl
  obtain ⟨_, hu, hpp⟩ := hp
  obtain ⟨b, n, hμ, rfl⟩ := hpp _ _ hm
  obtain ⟨b', C, fz, hμ', hh, hlC, hfr, hrel⟩ := hI.blk 0 _ hm
  rw [hμ] at hμ'
  simp only [Option.some.injEq, Prod.mk.injEq] at hμ'
  obtain ⟨rfl, _, rfl⟩ := hμ'
  have hC2 : C.size = 2 := by simpa using hlC.symm
  obtain ⟨_, _, hown⟩ := hrel 1 _ rfl
  obtain ⟨ao, cap, e1, hcap, _, hrow⟩ := hown _ _ _ hm1
  simp only [lenOf, List.length_map, Nat.sub_zero] at e1 hcap
  have c1 : B.w.cell? ⟨b, 1, none⟩ = some (.slice ao ns.length cap) := by rw [cell_of hh (by omega), e1]
  have hB : Below B.w.heap.size B.w B.w.drew := (Below.refl _ B.w).drew
  have hlt : b < B.w.heap.size := (Array.getElem?_eq_some_iff.1 hh).1
  have fin : ∀ (q : Option Addr) (w1 w2 : World), (Builtin.unsafeSliceData_ #[(ρ.t 37)] (ρ.t 127) #[.slice ao ns.length cap]).run P B.w.drew = .ok (.pointer q) w1 → w1.cell? ⟨b, 1, none⟩ = some (.slice ao ns.length cap) →
      (Builtin.unsafeString_ #[(ρ.t 127), (ρ.t 3)] (ρ.t 9) #[.pointer q, .int .i64 ns.length]).run P w1 = .ok (.string ⟨(ns.map fun n => UInt8.ofNat n.toNat).toArray⟩) w2 →
      Keeps B w2 → B.w.heap.size ≤ w2.heap.size → (∀ k, F k → w2.heap[k]? = B.w.heap[k]?) → w2.heap[b]? = B.w.heap[b]? →
      Calls P (ρ.f 169) #[.pointer (some ⟨b, 0, none⟩)] B.w fun e w' => match e with
      | .returned v => ∃ F' μ', InvAt B F (fun i => i < [AV.fn T [c0, .undef]].length) (Mem.ofBs [AV.fn T [c0, .undef]]) (fun c u => c = vs ⟨(ns.map fun n => UInt8.ofNat n.toNat).toArray⟩ ∧ u = v) w' μ' F' ∧ ∀ i, i < nbox [AV.fn T [c0, .own 1 0 none], .fr fl 1 (ns.map fun n => vu n)] → ∃ n, μ' i = some (B.bk i, 0, n)
      | _ => False := by
    intro q w1 w2 h1 h2 h3 h4 h5 h6 h7
    refine (bstring_calls L X b ns.length cap ao q _ B.w w1 w2 c1 h1 h2 h3).mono ?_
    rintro e w' ⟨rfl, rfl⟩
    refine ⟨F, μ, bstring_fin (rest := [.fr fl 1 (ns.map fun n => vu n)]) hI hc0 (.inl rfl) h4 h5 h6 (fun k o n hk => ?_), hbk⟩
    rw [hμ] at hk
    cases hk
    exact h7
  have empty : ∀ q w1, ns = [] → (Builtin.unsafeSliceData_ #[(ρ.t 37)] (ρ.t 127) #[.slice ao ns.length cap]).run P B.w.drew = .ok (.pointer q) w1 → Below B.w.heap.size B.w w1 → _ := fun q w1 hn h1 hb =>
    fin q w1 w1 h1 (by
      have : w1.heap[b]? = B.w.heap[b]? := hb.block b hlt
      rw [cell_of (this.trans hh) (by omega), e1]) (by subst hn; exact Any.unsafeString_none L X _ _) (hI.below.trans hb) hb.size (fun k hk => hb.block k (hI.foreign k hk).1) (hb.block b hlt)
  rcases hrow with ⟨rfl, rfl⟩ | ⟨b1, o, n, ad, hμ1, rfl, hadb, had⟩
  · have hn : ns = [] := List.length_eq_zero_iff.1 (by omega)
    exact empty none B.w.drew hn rfl hB
  · have hrow1 := hI.blk 1 _ hm1
    obtain ⟨_, _, hrow1⟩ := hrow1
    rcases hrow1 with ⟨_, h0⟩ | ⟨b2, o2, C1, fz1, hμ2, hh1, hle, hfr1, hcells⟩
    · rw [hμ1] at h0; cases h0
    rw [hμ1] at hμ2
    simp only [Option.some.injEq, Prod.mk.injEq] at hμ2
    obtain ⟨rfl, rfl, rfl⟩ := hμ2
    have hsh : B.w.shape? b1 = some (ρ.t 5, C1.size) := by simp [World.shape?, hh1, hfl]
    by_cases hc : cap = 0
    · subst hc
      have hn : ns = [] := List.length_eq_zero_iff.1 (by omega)
      refine empty _ _ hn (Lib.run_unsafeSliceData_zero B.w.drew _ _ (ρ.t 5) L.t127 ad ns.length (ρ.t 5, C1.size) ?_) (hB.alloc (Nat.le_refl _) _)
      rw [hadb]
      exact hsh
    · rcases had with rfl | ⟨rfl, hle2⟩
      · exact absurd rfl hc
      simp only [Nat.zero_mul, Nat.add_zero, Nat.mul_one, Nat.zero_add, List.length_map] at *
      have hSD : (Builtin.unsafeSliceData_ #[(ρ.t 37)] (ρ.t 127) #[.slice (some ⟨b1, o, none⟩) ns.length cap]).run P B.w.drew = .ok (.pointer (some ⟨b1, o, none⟩)) B.w.drew := Lib.run_unsafeSliceData_row _ _ _ _ _ _ hc
      by_cases h0 : ns.length = 0
      · exact empty _ _ (List.length_eq_zero_iff.1 h0) hSD hB
      · have hown1 := hI.own 1 _ b1 o C1.size hm1 hμ1
        have hne : b ≠ b1 := by
          intro e
          subst e
          have := hI.inj 0 1 _ _ b 0 C.size o C1.size hm hm1 hμ hμ1
          omega
        have hmost' : ns.length ≤ 1000000000 := by simpa [most] using hmost
        have hUS := run_unsafeString2 (P := P) B.w.drew (ρ.t 127) (ρ.t 3) (ρ.t 9) (ρ.t 5) L.t127 X.cellsByte b1 o C1.size hsh ns h0 (by omega) (by omega) (fun j x hj => by
          have hjl : j < ns.length := (List.getElem?_eq_some_iff.1 hj).1
          have hfl1 : flatL (ns.map fun n => vu n) = ns.map fun n => vu n := flatL_single (fun c hc => by simp at hc; obtain ⟨_, _, rfl⟩ := hc; rfl)
          have := hcells j (vu x) (by rw [hfl1, List.getElem?_map, hj]; rfl)
          have e : ((⟨b1, o, none⟩ : Addr).add j) = ⟨b1, o + j, none⟩ := by
            unfold Addr.add
            by_cases hj0 : j = 0
            · subst hj0; rfl
            · simp [hj0]
          rw [e]
          have hc2 := cell_of (w := B.w.drew) (k := o + j) hh1 (by omega)
          rw [hc2]
          rw [rel_v this])
        refine fin _ B.w.drew _ hSD c1 hUS (freeze_keeps _ _ _ (hI.below.trans hB) hown1.1) (by rw [freeze_size]; exact hB.size) (fun k hk => ?_) ?_
        · have hkb : k ≠ b1 := fun e => hown1.2.2 (by rw [← e]; exact hk)
          rw [freeze_other _ _ _ _ hkb]
          exact hB.block k (hI.foreign k hk).1
        · rw [freeze_other _ _ _ _ hne]
          exact hB.block b hlt
end
end Go.Proofs.Ev

/- A new slice of strings, as a call hands it back. -/
namespace Go.Proofs.Ev
open Go Go.Proofs Go.RowKit
set_option linter.unusedVariables false
theorem flat_strs (l : List ByteArray) : flatL (l.map fun s => vs s) = l.map fun s => vs s := flatL_single (fun c hc => by simp at hc; obtain ⟨_, _, rfl⟩ := hc; rfl)
theorem strs_res {w : World} {F : Nat → Prop} {fl : Fl} {e : TypeId} {k : Nat} {l : List ByteArray} (ht : fl.te = e) (hF : ∀ b, F b → b < w.heap.size) (hl : l.length = k) (hk : k ≤ most) :
    ∃ F' β, Came w (w.alloc (.cells (l.map Value.string).toArray e)) F F' β ∧ Res (w.alloc (.cells (l.map Value.string).toArray e)) F' β (.fr fl 1 (l.map fun s => vs s)) (.slice (some ⟨w.heap.size, 0, none⟩) k k) := by
  subst hl
  have hk' : l.length ≤ 1000000000 := by simpa [most] using hk
  refine res_ownsRow (size := 1) (news := l.map Value.string) ht hF ⟨by simp, .inr ⟨w.heap.size, l.length, (l.map Value.string).toArray, by simp, Nat.le_refl _, alloc_heap w _, by simp, by unfold maxLen; omega, by simp, by simp [List.take_of_length_le]⟩⟩ (below_alloc w _) ?_ ?_ ?_
  · intro x hx
    simp at hx
    obtain ⟨_, _, rfl⟩ := hx
    rfl
  · intro x hx
    rw [flat_strs] at hx
    simp at hx
    obtain ⟨_, _, rfl⟩ := hx
    exact ⟨rfl, fun _ => rfl⟩
  · intro j c hj
    rw [flat_strs, List.getElem?_map, Option.map_eq_some_iff] at hj
    obtain ⟨s, hs, rfl⟩ := hj
    have : (l.map Value.string).getD j undef = .string s := by rw [List.getD_eq_getElem?_getD, List.getElem?_map, hs]; rfl
    rw [this]
    exact .v _ rfl
end Go.Proofs.Ev

/- What is known of the worlds in which a law is entered: their shape, and that certain variables hold errors. -/
namespace Go.Proofs.Ev
open Go Go.Proofs Go.RowKit
set_option linter.unusedVariables false
def Sents (P : Program) (ns : List String) (w : World) : Prop := w.ShapedOpen P ∧ ∀ n, ns.contains n = true → ∃ tp p, w.var? P n = some #[.iface tp p]
theorem var?_below {P : Program} {w w' : World} {n : String} {cs : Array Value} (hB : Below w.heap.size w w') (h : w.var? P n = some cs) : w'.var? P n = some cs := by
  unfold World.var? at h ⊢
  cases hg : P.globalNamed n with
  | none => simp [hg] at h
  | some g =>
    simp only [hg, Option.bind_some] at h ⊢
    have hlt : g < w.heap.size := by
      rcases Nat.lt_or_ge g w.heap.size with h' | h'
      · exact h'
      · simp [Array.getElem?_eq_none h'] at h
    rw [hB.block g hlt]
    exact h
abbrev sents (P : Program) (ns : List String) : Rooted P :=
  ⟨Sents P ns, fun _ h => h.1, fun w w' h hB => ⟨Below.shaped h.1 hB, fun n hn => by obtain ⟨tp, p, e⟩ := h.2 n hn; exact ⟨tp, p, var?_below hB e⟩⟩⟩
theorem Sents.at {P : Program} {ns : List String} {w : World} (h : Sents P ns w) {n : String} (hn : ns.contains n = true) : ∃ tp p, w.var? P n = some #[.iface tp p] := h.2 n hn
end Go.Proofs.Ev

/- strconv.Atoi at every text that is not too long, and strings.Trim, as calls of the evaluation. -/
namespace Go.Proofs.Ev
open Go Go.Proofs Go.RowKit Go.Shelf
set_option linter.unusedVariables false
noncomputable def atoiR (l : List UInt8) : Int × Bool := match Lib.atoiAll l with
  | .ok v => (v, false)
  | .range => (Lib.atoiSat l, true)
  | _ => (0, true)
theorem atoi_calls {P : Program} {ρ : Ren} (L : LaysC.n172 P ρ) {w : World} {F : Nat → Prop} (hF : ∀ b, F b → b < w.heap.size) (s : ByteArray) (hs : s.size ≤ 281474976710656)
    (h1 : ∃ tp p, w.var? P "strconv.ErrSyntax" = some #[.iface tp p]) (h2 : ∃ tp p, w.var? P "strconv.ErrRange" = some #[.iface tp p]) :
    Calls P (ρ.f 172) #[.string s] w fun e w' => match e with
      | .returned v => ∃ F' β, Came w w' F F' β ∧ Res w' F' β (.tup [.v (.int .i64 (atoiR s.data.toList).1), .err (atoiR s.data.toList).2]) v
      | _ => False := by
  obtain ⟨t1, p1, h1⟩ := h1
  obtain ⟨t2, p2, h2⟩ := h2
  unfold atoiR
  rcases hx : Lib.atoiAll s.data.toList with v | - | -
  · refine (Any.strconv_Atoi_ok L s (by omega) v hx w).mono ?_
    rintro e w' ⟨rfl, hw⟩
    have hB : Below w.heap.size w w' := by
      rcases hw with rfl | ⟨t, rfl⟩
      · exact Below.refl _ _
      · exact Lib.bytesWorld_below _ _ _
    exact ⟨F, fun _ => none, Came.of_below hF hB, #[_, _], rfl, rfl, .v _ rfl, .errN, trivial⟩
  · refine (Any.strconv_Atoi_syntax_var L s hs hx t1 p1 w h1).mono ?_
    rintro e w' ⟨N, rfl, _, _, hB⟩
    exact ⟨F, fun _ => none, Came.of_below hF hB, #[_, _], rfl, rfl, .v _ rfl, .errS _ _, trivial⟩
  · refine (Any.strconv_Atoi_range_var L s hs hx t2 p2 w h2).mono ?_
    rintro e w' ⟨N, rfl, _, _, hB⟩
    exact ⟨F, fun _ => none, Came.of_below hF hB, #[_, _], rfl, rfl, .v _ rfl, .errS _ _, trivial⟩
end Go.Proofs.Ev

/- A law whose row lists variables with what they hold. -/
namespace Go.Proofs.Ev
open Go Go.Proofs Go.RowKit
set_option linter.unusedVariables false
section
variable {H : Type} {enc : TypeId × Value → H}
/-- From a row that asks something of the world besides, the world's shape known. -/
theorem returns_of_laid {a : Assume} {C : Checked} {os : Os} {f : FuncId} {fn : Func} {s : ChangeSpec} {conds : List PathCond} {apart fresh handsOn again : Bool} {X : World → Array Value → Prop}
    (hX : ∀ (w w' : World) (args : Array Value), w.heap = w'.heap → X w args → X w' args)
    (own : ownKnob C.prog.godebug = none) (started : os.Started) (noInit : C.prog.inits.idxOf? f = none) (hfn : C.prog.funcs[f]? = some fn)
    (witness : ∃ (w : World) (tape : Tape) (i : Input), w.os = os ∧ (w.forCall tape i).Shaped C.prog ∧ i.vars = [] ∧ Input.okWide C.prog (w.forCall tape i) .any w.heap.size f i ∧
      ((s.pre enc C.prog fn conds apart (w.forCall tape i).memory i.args ∧ X (w.forCall tape i).memory i.args) ∧ sizedMet enc C.prog fn (OpenSpec.ofChange s) apart (w.forCall tape i).memory i.args) ∧ a.holds C.prog (lone (Frame.enter C.prog f i.args .normal) [] (w.forCall tape i)))
    (contract : ∀ (W : World) (base : Nat) (args : Array Value) (ds gs : List (DataW H)) (before : List MemPlace),
      (∀ (j : Nat) t v, fn.params[j]? = some t → args[j]? = some v → Value.okWide C.prog W .any base t v) →
      DataW.Whole enc C.prog fn.params.toList s.vars apart W args.toList ds gs before → W.ShapedOpen C.prog → X W args →
      Calls C.prog f args W fun e W' => ∃ v, e = .returned v ∧ s.post enc C.prog fn apart fresh handsOn again W args v W') :
    ReturnsInHanded a C os f .any (fun w args => (s.pre enc C.prog fn conds apart w args ∧ X w args) ∧ sizedMet enc C.prog fn (OpenSpec.ofChange s) apart w args) (s.post enc C.prog fn apart fresh handsOn again) := by
  refine returnsInHanded_of_calls own started noInit witness ?_
  intro w tape i _ hsh _ hok hpre hholds
  obtain ⟨_, _, _, fn', hfn', _, _, _, _, hval⟩ := hok
  have e : fn' = fn := Option.some.inj (hfn'.symm.trans hfn)
  subst e
  obtain ⟨⟨⟨ds, gs, before, hw, hc⟩, hx⟩, hz⟩ := hpre
  have hw' := DataW.Whole.of_heap (w' := w.forCall tape i) (by rfl) hw
  refine (contract (w.forCall tape i) w.heap.size i.args ds gs before hval hw' hsh (hX _ _ _ (by rfl) hx)).mono fun e W' ⟨v, he, hp⟩ => ?_
  subst he
  exact ChangeSpec.post_blind hp
end
theorem laidMet_tail {P : Program} {x : String × DataW Unit} {r : List (String × DataW Unit)} {w : World} (h : laidMet P (x :: r) w) : laidMet P r w := by
  obtain ⟨ps, hv, hnd, hrows⟩ := h
  obtain ⟨n, d⟩ := x
  obtain ⟨g, t, cs, fuel, p, q, _, _, _, _, hq, rfl⟩ := hv
  exact ⟨q, hq, List.Nodup.sublist (List.sublist_append_right _ _) hnd, fun b off hm => hrows b off (List.mem_append_right _ hm)⟩
def isIf : Option TypeDesc → Bool
  | some (.interface _) => true
  | _ => false
def holdsIf (P : Program) (n : String) : Bool := match P.globalNamed n with
  | some g => (match P.globals[g]? with | some x => isIf (P.underlying x.type) | none => false)
  | none => false
/-- A listed variable of an interface type that holds a value of some type. -/
theorem sent_of_laid {P : Program} {n nm : String} {d : DataW Unit} {r : List (String × DataW Unit)} {W : World} (h : laidMet P ((n, .iface nm d) :: r) W) (hc : holdsIf P n = true) : ∃ tp p, W.var? P n = some #[.iface tp p] := by
  obtain ⟨ps, ⟨g0, t0, cs0, f0, p0, q0, hg0, ht0, hv0, hd0, _, e0⟩, _, _⟩ := h
  unfold holdsIf at hc
  rw [hg0] at hc
  simp only at hc
  cases hx : P.globals[g0]? with
  | none => rw [hx] at hc; cases hc
  | some x =>
    rw [hx] at hc ht0
    simp only [Option.map_some, Option.some.injEq] at ht0
    subst ht0
    simp only at hc
    cases hu : P.underlying x.type with
    | none => rw [hu] at hc; cases hc
    | some td =>
      rw [hu] at hc
      cases td <;> (try (cases hc; done))
      obtain ⟨f1, u, v, e, _, _⟩ := iface_of_trod hu hd0
      exact ⟨u, v, by rw [hv0]; congr 1; apply Array.ext'; simpa using e⟩
theorem Sents.nil {P : Program} {w : World} (h : w.ShapedOpen P) : Sents P [] w := ⟨h, fun n hn => by cases hn⟩
theorem Sents.cons {P : Program} {w : World} {ns : List String} {n : String} (h : Sents P ns w) (hn : ∃ tp p, w.var? P n = some #[.iface tp p]) : Sents P (n :: ns) w := by
  refine ⟨h.1, fun m hm => ?_⟩
  rw [List.contains_cons, Bool.or_eq_true] at hm
  rcases hm with hm | hm
  · rw [eq_of_beq hm]; exact hn
  · exact h.2 m hm
end Go.Proofs.Ev
