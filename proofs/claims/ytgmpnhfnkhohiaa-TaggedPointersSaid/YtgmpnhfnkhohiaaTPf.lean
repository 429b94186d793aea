/- A law's arguments: what stands in the machine's memory when a call begins, as abstract values. -/
import Derived.Test.YtgmpnhfnkhohiaaTPd
import Derived.OpenShut
import Derived.ChangeArms
import Derived.WalkKit
import Derived.ProofKit
import Derived.ShutString
import Derived.ChangeOld
import Derived.Below
import Derived.Carry
import Derived.SizedLaws

namespace Go.Proofs.Ev
open Go Go.RowKit
set_option linter.unusedVariables false

/-- Parts, one behind the other. -/
def ArgF (A : TypeId → List AV → Prop) : List (TypeId × Nat) → List AV → Prop
  | [], cs => cs = []
  | f :: r, cs => ∃ p q, cs = p ++ q ∧ A f.1 p ∧ ArgF A r q
def rowF (e sz m : Nat) : List (TypeId × Nat) := (List.range m).map fun i => (e, i * sz)

/-- The cells of a value of a type, as they may come in. -/
def Arg (G : Cfg) : Nat → TypeId → List AV → Prop
  | 0, _, _ => False
  | n + 1, t, cs => match G.tab t with
    | .some ti => match ti.kd with
      | .int k => ∃ i : Int, cs = [.v (.int k i)] ∧ (Lit.int k i).wf = true
      | .string => ∃ s : ByteArray, cs = [.v (.string s)] ∧ s.size ≤ maxLen
      | .bool => ∃ b, cs = [vb b]
      | .slice e => match G.tab e with
        | .some ei => ∃ xs : List AV, cs = [.sl ei.flat ei.size xs] ∧ xs.length ≤ maxLen ∧ ∀ y ∈ xs, bif ei.isAgg then ∃ ds, y = .agg ds ∧ Arg G n e ds else Arg G n e [y]
        | .none => False
      | .struct fs => ArgF (Arg G n) fs cs
      | .arr m e => match G.tab e with
        | .some ei => ArgF (Arg G n) (rowF e ei.size m) cs
        | .none => False
      | _ => False
    | .none => False

def tiles (G : Cfg) : Nat → List (TypeId × Nat) → Nat → Bool
  | o, [], s => Nat.beq o s
  | o, f :: r, s => Nat.beq f.2 o && (match G.tab f.1 with | .some fi => tiles G (o + fi.size) r s | .none => false)
/-- Types that are looked at. 'fl': no slices in it. -/
def argTy (G : Cfg) : Nat → Bool → TypeId → Bool
  | 0, _, _ => false
  | n + 1, fl, t => match G.tab t with
    | .some ti => match ti.kd with
      | .int _ | .string | .bool => true
      | .slice e => !fl && (match G.tab e with | .some ei => Nat.ble 1 ei.size && argTy G n ei.flat e | .none => false)
      | .struct fs => tiles G 0 fs ti.size && fs.all fun f => argTy G n fl f.1
      | .arr m e => match G.tab e with | .some ei => tiles G 0 (rowF e ei.size m) ti.size && argTy G n fl e | .none => false
      | _ => false
    | .none => false

section
variable {P : Program} {G : Cfg} {w : World} {H : Type} {enc : TypeId × Value → H} {held : Bool}

theorem argF_all {A : TypeId → List AV → Prop} {Q : AV → Prop} : ∀ {l : List (TypeId × Nat)} {cs : List AV}, (∀ f ∈ l, ∀ p, A f.1 p → ∀ c ∈ p, Q c) → ArgF A l cs → ∀ c ∈ cs, Q c
  | [], cs, _, h, c, hc => by cases h; cases hc
  | f :: r, cs, hA, h, c, hc => by
    obtain ⟨p, q, rfl, h1, h2⟩ := h
    rcases List.mem_append.1 hc with hc | hc
    · exact hA f (by simp) p h1 c hc
    · exact argF_all (fun f hf => hA f (by simp [hf])) h2 c hc

theorem arg_okE : ∀ (n : Nat) (fl : Bool) (t : TypeId) (cs : List AV), argTy G n fl t = true → Arg G n t cs → ∀ c ∈ cs, okE fl c
  | 0, _, _, _, h, _ => by cases h
  | n + 1, fl, t, cs, h, ha => by
    simp only [argTy, Arg] at h ha
    cases ht : G.tab t with
    | none => rw [ht] at ha; exact ha.elim
    | some ti =>
      rw [ht] at h ha
      simp only at h ha
      intro c hc
      cases hk : ti.kd <;> rw [hk] at h ha <;> simp only at h ha
      case int k => obtain ⟨i, rfl, _⟩ := ha; simp at hc; subst hc; exact ⟨rfl, fun _ => rfl⟩
      case string => obtain ⟨i, rfl, _⟩ := ha; simp at hc; subst hc; exact ⟨rfl, fun _ => rfl⟩
      case bool => obtain ⟨i, rfl⟩ := ha; simp at hc; subst hc; exact ⟨rfl, fun _ => rfl⟩
      case slice e =>
        cases he : G.tab e with
        | none => rw [he] at ha; exact ha.elim
        | some ei =>
          rw [he] at ha
          obtain ⟨xs, rfl, _⟩ := ha
          simp at hc
          subst hc
          refine ⟨rfl, fun hf => ?_⟩
          rw [hf] at h
          cases h
      case struct fs =>
        rw [Bool.and_eq_true] at h
        exact argF_all (fun f hf p hp c hc => arg_okE n fl f.1 p (List.all_eq_true.1 h.2 f hf) hp c hc) ha c hc
      case arr m e =>
        cases he : G.tab e with
        | none => rw [he] at ha; exact ha.elim
        | some ei =>
          rw [he] at h ha
          simp only at h ha
          rw [Bool.and_eq_true] at h
          refine argF_all (fun f hf p hp c hc => ?_) ha c hc
          obtain ⟨i, _, rfl⟩ := List.mem_map.1 hf
          exact arg_okE n fl e p h.2 hp c hc
      all_goals exact ha.elim

theorem tiles_le {G : Cfg} : ∀ {l : List (TypeId × Nat)} {o s : Nat}, tiles G o l s = true → o ≤ s
  | [], o, s, h => Nat.le_of_eq (Nat.eq_of_beq_eq_true h)
  | f :: r, o, s, h => by
    simp only [tiles, Bool.and_eq_true] at h
    cases hf : G.tab f.1 with
    | none => rw [hf] at h; cases h.2
    | some fi => rw [hf] at h; have := tiles_le h.2; omega

/-- What is shown of a type. -/
abbrev Opens (P : Program) (G : Cfg) (w : World) (enc : TypeId × Value → H) (held : Bool) (n : Nat) (t : TypeId) : Prop :=
  ∀ (fuel : Nat) (cs : List Value) x, DataW.trod enc P w 0 (fun _ => true) held fuel t cs = some x →
    ∃ avs : List AV, avs.length = cs.length ∧ (∀ j c, avs[j]? = some c → Rel w (fun b => b < w.heap.size) c (cs.getD j undef)) ∧ Arg G n t avs

theorem cellsOf_ti (hG : CfgOk P G) {t : TypeId} {ti : TI} (ht : G.tab t = some ti) : P.cellsOf t = ti.size := by
  obtain ⟨i, hi, h1, _⟩ := (hG.ti t ti ht).info
  simp [Program.cellsOf, hi, h1]

theorem opens_parts (hG : CfgOk P G) {n m : Nat} {cs : List Value} : ∀ {l : List (TypeId × Nat)} {o : Nat}, tiles G o l cs.length = true → (∀ f ∈ l, Opens P G w enc held n f.1) →
    (∀ f ∈ l, ∃ y, DataW.trod enc P w 0 (fun _ => true) held m f.1 ((cs.drop f.2).take (P.cellsOf f.1)) = some y) →
    ∃ avs : List AV, avs.length = cs.length - o ∧ (∀ j c, avs[j]? = some c → Rel w (fun b => b < w.heap.size) c (cs.getD (o + j) undef)) ∧ ArgF (Arg G n) l avs
  | [], o, h, _, _ => ⟨[], by have := Nat.eq_of_beq_eq_true h; simp; omega, by simp, rfl⟩
  | f :: r, o, h, hO, hT => by
    simp only [tiles, Bool.and_eq_true] at h
    obtain ⟨h1, h2⟩ := h
    have h1 := Nat.eq_of_beq_eq_true h1
    cases hf : G.tab f.1 with
    | none => rw [hf] at h2; cases h2
    | some fi =>
      rw [hf] at h2
      simp only at h2
      have hle := tiles_le h2
      obtain ⟨y, hy⟩ := hT f (by simp)
      rw [cellsOf_ti hG hf] at hy
      obtain ⟨p, p1, p2, p3⟩ := hO f (by simp) _ _ _ hy
      obtain ⟨q, q1, q2, q3⟩ := opens_parts hG h2 (fun g hg => hO g (by simp [hg])) (fun g hg => hT g (by simp [hg]))
      have pl : p.length = fi.size := by rw [p1]; simp; omega
      refine ⟨p ++ q, by simp [pl, q1]; omega, fun j c hj => ?_, p, q, rfl, p3, q3⟩
      by_cases hlt : j < p.length
      · rw [List.getElem?_append_left hlt] at hj
        have := p2 j c hj
        rw [List.getD_eq_getElem?_getD, List.getElem?_take_of_lt (by omega), List.getElem?_drop, h1] at this
        rw [List.getD_eq_getElem?_getD]
        exact this
      · rw [List.getElem?_append_right (by omega)] at hj
        have := q2 _ c hj
        rw [show o + fi.size + (j - p.length) = o + j by omega] at this
        exact this

theorem arg_single {n : Nat} {t : TypeId} {ti : TI} {c : AV} (ht : G.tab t = some ti) (hk : ti.kd.agg = false) (h : Arg G n t [c]) : c.cells = [c] := by
  cases n with
  | zero => exact h.elim
  | succ n =>
    simp only [Arg, ht] at h
    cases hkd : ti.kd <;> rw [hkd] at h hk <;> simp only at h
    case int k => obtain ⟨i, h, _⟩ := h; cases h; rfl
    case string => obtain ⟨i, h, _⟩ := h; cases h; rfl
    case bool => obtain ⟨i, h⟩ := h; cases h; rfl
    case slice e =>
      cases he : G.tab e with
      | none => rw [he] at h; exact h.elim
      | some ei => rw [he] at h; obtain ⟨xs, h, _⟩ := h; cases h; rfl
    case struct => cases hk
    case arr => cases hk
    all_goals exact h.elim

theorem opens (hG : CfgOk P G) : ∀ (n : Nat) (fl : Bool) (t : TypeId), argTy G n fl t = true → Opens P G w enc held n t
  | 0, _, _, h => by cases h
  | n + 1, fl, t, h => by
    intro fuel cs x hx
    simp only [argTy] at h
    cases ht : G.tab t with
    | none => rw [ht] at h; cases h
    | some ti =>
      rw [ht] at h
      simp only at h
      have hT := hG.ti t ti ht
      obtain ⟨d, hd, hkd⟩ := hT.und
      have one1 : ∀ (c : AV) (v : Value), Rel w (fun b => b < w.heap.size) c v → ∀ j c', [c][j]? = some c' → Rel w (fun b => b < w.heap.size) c' ([v].getD j undef) := by
        intro c v hr j c' hj
        cases j with
        | zero => simp at hj; subst hj; exact hr
        | succ j => simp at hj
      cases hk : ti.kd <;> rw [hk] at h hkd <;> simp only at h
      case int k =>
        cases d <;> simp only [kdOk] at hkd <;> first | cases hkd | skip
        have e := of_decide_eq_true hkd
        subst e
        obtain ⟨i, rfl, _, hw⟩ := DataW.trod_int hd hx
        exact ⟨[.v (.int _ i)], rfl, one1 _ _ (.v _ rfl), by simp only [Arg, ht, hk]; exact ⟨i, rfl, hw⟩⟩
      case string =>
        cases d <;> simp only [kdOk] at hkd <;> first | cases hkd | skip
        obtain ⟨s, rfl, _, hw⟩ := DataW.trod_string hd hx
        exact ⟨[.v (.string s)], rfl, one1 _ _ (.v _ rfl), by simp only [Arg, ht, hk]; exact ⟨s, rfl, hw⟩⟩
      case bool =>
        cases d <;> simp only [kdOk] at hkd <;> first | cases hkd | skip
        obtain ⟨b, rfl, _⟩ := DataW.trod_bool hd hx
        exact ⟨[vb b], rfl, one1 _ _ (.v _ rfl), by simp only [Arg, ht, hk]; exact ⟨b, rfl⟩⟩
      case slice e =>
        cases d <;> simp only [kdOk] at hkd <;> first | cases hkd | skip
        have e' := Nat.eq_of_beq_eq_true hkd
        subst e'
        rw [Bool.and_eq_true] at h
        cases he : G.tab e with
        | none => rw [he] at h; cases h.2
        | some ei =>
          rw [he] at h
          simp only [Bool.and_eq_true] at h
          have hsz1 := Nat.le_of_ble_eq_true h.2.1
          have hE := hG.ti e ei he
          have hA : ∀ (xs : List AV), xs.length ≤ maxLen → (∀ y ∈ xs, bif ei.isAgg then ∃ ds, y = .agg ds ∧ Arg G n e ds else Arg G n e [y]) → Arg G (n + 1) t [.sl ei.flat ei.size xs] := by
            intro xs h1 h2
            simp only [Arg, ht, hk, he]
            exact ⟨xs, rfl, h1, h2⟩
          rcases DataW.trod_slice hd hx with ⟨rfl, _⟩ | ⟨a, len, cap, elems, rest, m, _, rfl, _, _, hl, hm, hlen, hel, _, _⟩
          · exact ⟨[.sl ei.flat ei.size []], rfl, one1 _ _ (.slN _ _), hA [] (Nat.zero_le _) (by simp)⟩
          · rw [cellsOf_ti hG he] at hel
            have each : ∀ i, ∃ avs : List AV, i < len → ∃ ci : List Value, ci.length = ei.size ∧ (∀ j, j < ei.size → w.cell? ((a.add (i * ei.size)).add j) = ci[j]?) ∧ avs.length = ei.size ∧ (∀ j c, avs[j]? = some c → Rel w (fun b => b < w.heap.size) c (ci.getD j undef)) ∧ Arg G n e avs := by
              intro i
              by_cases hi : i < len
              · have h1 := hel i hi
                have h2 : elems[i]? = some elems[i] := List.getElem?_eq_getElem (by omega)
                rw [h2, Option.bind_eq_some_iff] at h1
                obtain ⟨ci, hci, htr⟩ := h1
                obtain ⟨_, c1, c2⟩ := World.cells?_some hci
                obtain ⟨avs, v1, v2, v3⟩ := opens hG n ei.flat e h.2.2 _ _ _ htr
                exact ⟨avs, fun _ => ⟨ci, c1, c2, by rw [v1, c1], v2, v3⟩⟩
              · exact ⟨[], fun h => absurd h hi⟩
            obtain ⟨A, hAv⟩ : ∃ A : Nat → List AV, ∀ i, i < len → ∃ ci : List Value, ci.length = ei.size ∧ (∀ j, j < ei.size → w.cell? ((a.add (i * ei.size)).add j) = ci[j]?) ∧ (A i).length = ei.size ∧ (∀ j c, (A i)[j]? = some c → Rel w (fun b => b < w.heap.size) c (ci.getD j undef)) ∧ Arg G n e (A i) :=
              ⟨fun i => Classical.choose (each i), fun i => Classical.choose_spec (each i)⟩
            have hcellsA : ∀ i, i < len → (bif ei.isAgg then AV.agg (A i) else (A i).headD .undef).cells = A i := by
              intro i hi
              obtain ⟨ci, _, _, al, _, aa⟩ := hAv i hi
              cases hag : ei.isAgg with
              | true => rfl
              | false =>
                have s1 := hE.sz1 hag
                rw [s1] at al
                obtain ⟨c, hc⟩ := List.length_eq_one_iff.1 al
                rw [hc] at aa
                rw [hc]
                exact arg_single he (by rw [← hE.agg, hag]) aa
            obtain ⟨xs, hxs⟩ : ∃ xs, xs = (List.range len).map fun i => bif ei.isAgg then AV.agg (A i) else (A i).headD .undef := ⟨_, rfl⟩
            have hxl : xs.length = len := by rw [hxs]; simp
            have hget : ∀ i, i < len → xs.getD i .undef = bif ei.isAgg then AV.agg (A i) else (A i).headD .undef := by intro i hi; rw [hxs]; simp [List.getD_eq_getElem?_getD, hi]
            have hmem : ∀ y ∈ xs, ∃ i, i < len ∧ y = bif ei.isAgg then AV.agg (A i) else (A i).headD .undef := by
              intro y hy
              rw [hxs] at hy
              obtain ⟨i, hi, rfl⟩ := List.mem_map.1 hy
              exact ⟨i, List.mem_range.1 hi, rfl⟩
            have hcs : ∀ y ∈ xs, y.cells.length = ei.size := by
              intro y hy
              obtain ⟨i, hi, rfl⟩ := hmem y hy
              rw [hcellsA i hi]
              obtain ⟨ci, _, _, al, _⟩ := hAv i hi
              exact al
            obtain ⟨f1, f2⟩ := flat_get ei.size xs hcs
            have hok : ∀ c ∈ flatL xs, okE ei.flat c := by
              intro c hc
              simp only [flatL, List.mem_flatMap] at hc
              obtain ⟨y, hy, hc⟩ := hc
              obtain ⟨i, hi, rfl⟩ := hmem y hy
              rw [hcellsA i hi] at hc
              obtain ⟨ci, _, _, _, _, aa⟩ := hAv i hi
              exact arg_okE n ei.flat e _ h.2.2 aa c hc
            have split : ∀ j, j < (flatL xs).length → ∃ i k, i < len ∧ k < ei.size ∧ j = i * ei.size + k := by
              intro j hj
              rw [f1, hxl] at hj
              exact ⟨j / ei.size, j % ei.size, Nat.div_lt_of_lt_mul (by rwa [Nat.mul_comm]), Nat.mod_lt _ (by omega), by rw [Nat.mul_comm]; exact (Nat.div_add_mod j ei.size).symm⟩
            have hcell : ∀ i k, i < len → k < ei.size → ∃ ci : List Value, w.cell? (a.add (i * ei.size + k)) = some (ci.getD k undef) ∧ ∀ c, (A i)[k]? = some c → Rel w (fun b => b < w.heap.size) c (ci.getD k undef) := by
              intro i k hi hk
              obtain ⟨ci, c1, c2, _, c4, _⟩ := hAv i hi
              refine ⟨ci, ?_, fun c hc => c4 k c hc⟩
              have := c2 k hk
              rw [addr_add_add] at this
              rw [this, List.getD_eq_getElem?_getD, List.getElem?_eq_getElem (by omega)]
              rfl
            refine ⟨[.sl ei.flat ei.size xs], rfl, one1 _ _ ?_, hA xs (by omega) ?_⟩
            · have := Rel.sl (w := w) (F := fun b => b < w.heap.size) ei.flat ei.size xs a cap (fun j => (w.cell? (a.add j)).getD undef) ?_ (by omega) hcs hok ?_ ?_
              · rw [hxl] at this; exact this
              · intro hne
                have h0 : 0 < len := by
                  rw [← hxl]
                  exact List.length_pos_iff.2 hne
                obtain ⟨ci, hci, _⟩ := hcell 0 0 h0 (by omega)
                rw [Nat.zero_mul, Nat.zero_add] at hci
                show a.block < _
                rcases Nat.lt_or_ge a.block w.heap.size with h' | h'
                · exact h'
                · have hbl : (a.add 0).block = a.block := add_block a 0
                  simp [World.cell?, hbl, Array.getElem?_eq_none h'] at hci
              · intro j hj
                obtain ⟨i, k, hi, hk, rfl⟩ := split j hj
                obtain ⟨ci, hci, _⟩ := hcell i k hi hk
                rw [hci]
                rfl
              · intro j c hj
                obtain ⟨i, k, hi, hk, rfl⟩ := split j ((List.getElem?_eq_some_iff.1 hj).1)
                rw [f2 i (by omega) k hk, hget i hi, hcellsA i hi] at hj
                obtain ⟨ci, hci, hr⟩ := hcell i k hi hk
                rw [hci]
                exact hr c hj
            · intro y hy
              obtain ⟨i, hi, rfl⟩ := hmem y hy
              obtain ⟨ci, _, _, al, _, aa⟩ := hAv i hi
              cases hag : ei.isAgg with
              | true => exact ⟨A i, rfl, aa⟩
              | false =>
                have s1 := hE.sz1 hag
                rw [s1] at al
                obtain ⟨c, hc⟩ := List.length_eq_one_iff.1 al
                rw [hc] at aa ⊢
                exact aa
      case struct fs =>
        cases d <;> simp only [kdOk] at hkd <;> first | cases hkd | skip
        rename_i fields
        have hfs := eq_of_beq hkd
        rw [Bool.and_eq_true] at h
        obtain ⟨xs, m, _, _, hcl, hxl, hall⟩ := DataW.trod_struct hd hx
        rw [cellsOf_ti hG ht] at hcl
        obtain ⟨avs, v1, v2, v3⟩ := opens_parts (m := m) hG (l := fs) (o := 0) (cs := cs) (by rw [hcl]; exact h.1) (fun f hf => opens hG n fl f.1 (List.all_eq_true.1 h.2 f hf)) (by
          intro f hf
          rw [← hfs] at hf
          obtain ⟨fld, hfld, rfl⟩ := List.mem_map.1 hf
          obtain ⟨i, hi, he⟩ := List.getElem_of_mem hfld
          have h2 : fields[i]? = some fld := by
            rw [← he]
            simp at hi
            simp [hi]
          have h3 := hall i fld h2
          have h4 : i < xs.length := by rw [hxl]; simpa using hi
          rw [List.getElem?_eq_getElem h4] at h3
          exact ⟨_, h3⟩)
        exact ⟨avs, by simpa using v1, by simpa using v2, by simp only [Arg, ht, hk]; exact v3⟩
      case arr m e =>
        cases d <;> simp only [kdOk] at hkd <;> first | cases hkd | skip
        rw [Bool.and_eq_true] at hkd
        have e1 := Nat.eq_of_beq_eq_true hkd.1
        have e2 := Nat.eq_of_beq_eq_true hkd.2
        subst e1
        subst e2
        cases he : G.tab e with
        | none => rw [he] at h; cases h
        | some ei =>
          rw [he] at h
          simp only [Bool.and_eq_true] at h
          obtain ⟨xs, m', _, _, hcl, hxl, hall⟩ := DataW.trod_array hd hx
          rw [cellsOf_ti hG ht] at hcl
          obtain ⟨avs, v1, v2, v3⟩ := opens_parts (m := m') hG (l := rowF e ei.size m) (o := 0) (cs := cs) (by rw [hcl]; exact h.1) (by
              intro f hf
              obtain ⟨i, _, rfl⟩ := List.mem_map.1 hf
              exact opens hG n fl e h.2) (by
            intro f hf
            obtain ⟨i, hi, rfl⟩ := List.mem_map.1 hf
            have hi := List.mem_range.1 hi
            have h3 := hall i hi
            rw [cellsOf_ti hG he, List.getElem?_eq_getElem (by omega)] at h3
            rw [cellsOf_ti hG he]
            exact ⟨_, h3⟩)
          exact ⟨avs, by simpa using v1, by simpa using v2, by simp only [Arg, ht, hk, he]; exact v3⟩
      all_goals cases h
end
end Go.Proofs.Ev

/- A law that returns true, out of its evaluation: the row's contract. -/
namespace Go.Proofs.Ev
open Go Go.RowKit Go.ChangeShapes Go.WideShapes Go.ChangeAt
set_option linter.unusedVariables false

/-- An argument's value. -/
def ArgV (G : Cfg) (n : Nat) (t : TypeId) (x : AV) : Prop :=
  match G.tab t with
  | .some ti => ∃ ys, Arg G n t ys ∧ x = bif ti.isAgg then .agg ys else ys.headD .undef
  | .none => False
def ArgL (G : Cfg) (n : Nat) : List TypeId → List AV → Prop
  | [], xs => xs = []
  | t :: ts, xs => ∃ x r, xs = x :: r ∧ ArgV G n t x ∧ ArgL G n ts r

section
variable {P : Program} {G : Cfg} {w W W' : World} {H : Type} {enc : TypeId × Value → H} {held : Bool}

theorem arg_open (hG : CfgOk P G) {n : Nat} {t : TypeId} (hty : argTy G n false t = true) {r : Reach} {base : Nat} {v : Value} {d : DataW H} {ps : List MemPlace} (hval : Value.okWide P w r base t v)
    (h : DataW.Trod enc P w 0 (fun _ => true) held t v d ps) : ∃ x, ArgV G n t x ∧ Rel w (fun b => b < w.heap.size) x v := by
  obtain ⟨fuel, h⟩ := h
  obtain ⟨ys, h1, h2, h3⟩ := opens hG n false t hty _ _ _ h
  unfold ArgV
  cases ht : G.tab t with
  | none =>
    cases n with
    | zero => cases hty
    | succ n => simp only [argTy, ht] at hty; cases hty
  | some ti =>
    simp only
    obtain ⟨d, hd, hkd⟩ := (hG.ti t ti ht).und
    refine ⟨_, ⟨ys, h3, rfl⟩, ?_⟩
    have agg : ∀ cs, v = .agg cs → ti.isAgg = true → Rel w (fun b => b < w.heap.size) (bif ti.isAgg then AV.agg ys else ys.headD .undef) v := by
      rintro cs rfl ha
      rw [ha]
      simp only [Value.cells, Array.length_toList] at h1 h2
      refine .agg ys cs h1.symm fun j c hj => ?_
      have := h2 j c hj
      rwa [List.getD_eq_getElem?_getD, Array.getElem?_toList, ← Array.getD_eq_getD_getElem?] at this
    have one1 : v.cells = #[v] → ti.isAgg = false → Rel w (fun b => b < w.heap.size) (bif ti.isAgg then AV.agg ys else ys.headD .undef) v := by
      intro hv ha
      rw [ha]
      rw [hv] at h1 h2
      obtain ⟨c, hc⟩ := List.length_eq_one_iff.1 (show ys.length = 1 by simpa using h1)
      subst hc
      exact h2 0 c rfl
    have hag := (hG.ti t ti ht).agg
    cases n with
    | zero => cases hty
    | succ n =>
      simp only [argTy, ht] at hty
      cases hk : ti.kd <;> rw [hk] at hty hkd hag <;> simp only at hty
      case int k =>
        cases d <;> simp only [kdOk] at hkd <;> first | cases hkd | skip
        obtain ⟨i, rfl⟩ := okWide_int hd hval
        exact one1 rfl hag
      case string =>
        cases d <;> simp only [kdOk] at hkd <;> first | cases hkd | skip
        obtain ⟨i, rfl⟩ := okWide_string hd hval
        exact one1 rfl hag
      case bool =>
        cases d <;> simp only [kdOk] at hkd <;> first | cases hkd | skip
        obtain ⟨i, rfl⟩ := okWide_bool hd hval
        exact one1 rfl hag
      case slice e =>
        cases d <;> simp only [kdOk] at hkd <;> first | cases hkd | skip
        obtain ⟨a, l, c, rfl⟩ := okWide_slice hd hval
        exact one1 rfl hag
      case struct fs =>
        cases d <;> simp only [kdOk] at hkd <;> first | cases hkd | skip
        obtain ⟨cs, rfl, _⟩ := okWide_struct hd hval
        exact agg cs rfl hag
      case arr m e =>
        cases d <;> simp only [kdOk] at hkd <;> first | cases hkd | skip
        simp only [Value.okWide, hd] at hval
        obtain ⟨cs, rfl, _⟩ := hval
        exact agg cs rfl hag
      all_goals cases hty

theorem args_open (hG : CfgOk P G) {n : Nat} {r : Reach} {base : Nat} : ∀ {ts : List TypeId} {vs : List Value} {ds : List (DataW H)} {ps : List MemPlace}, (ts.all fun t => argTy G n false t) = true →
    (∀ (j : Nat) t v, ts[j]? = some t → vs[j]? = some v → Value.okWide P w r base t v) → DataW.TrodAll enc P w 0 (fun _ => true) held ts vs ds ps →
    ∃ xs : List AV, xs.length = vs.length ∧ (∀ j c, xs[j]? = some c → Rel w (fun b => b < w.heap.size) c (vs.getD j undef)) ∧ ArgL G n ts xs
  | [], vs, ds, ps, _, _, h => by
    obtain ⟨rfl, _, _⟩ := trodAll_nil h
    exact ⟨[], rfl, by simp, rfl⟩
  | t :: ts, vs, ds, ps, ht, hval, h => by
    obtain ⟨v, vs', d, ds', p, q, rfl, rfl, rfl, h1, h2⟩ := trodAll_cons h
    rw [List.all_cons, Bool.and_eq_true] at ht
    obtain ⟨x, a1, a2⟩ := arg_open hG ht.1 (hval 0 t v rfl rfl) h1
    obtain ⟨xs, b1, b2, b3⟩ := args_open hG ht.2 (fun j t v h1 h2 => hval (j + 1) t v h1 h2) h2
    refine ⟨x :: xs, by simp [b1], fun j c hj => ?_, x, xs, rfl, a1, b3⟩
    cases j with
    | zero => simp at hj; subst hj; simpa using a2
    | succ j => exact b2 j c (by simpa using hj)

theorem args_back (hl : laidOutB P = true) (hB : Below W.heap.size W W') : ∀ {ts : List TypeId} {vs : List Value} {ds : List (DataW H)} {ps : List MemPlace}, (ts.all fun t => P.readableRec t && decide (t < P.types.size)) = true →
    DataW.TrodAll enc P W 0 (fun _ => true) true ts vs ds ps → DataW.TrodAll enc P W' 0 (fun b => decide (b < W.heap.size)) true ts vs ds ps
  | [], vs, ds, ps, _, h => by
    obtain ⟨rfl, rfl, rfl⟩ := trodAll_nil h
    exact trodAll_mk0
  | t :: ts, vs, ds, ps, ht, h => by
    obtain ⟨v, vs', d, ds', p, q, rfl, rfl, rfl, h1, h2⟩ := trodAll_cons h
    rw [List.all_cons, Bool.and_eq_true, Bool.and_eq_true] at ht
    refine trodAll_cons_mk (Below.trod hl ht.1.1 (of_decide_eq_true ht.1.2) h1 hB ?_) (args_back hl hB ht.2 h2)
    obtain ⟨m, hm⟩ := h1
    exact DataW.trod_lt m _ _ _ hm

/-- A law whose evaluation is true for whatever comes in. -/
theorem law_calls (hG : CfgOk P G) (hl : laidOutB P = true) {f : FuncId} {fn : Func} {s : ChangeSpec} {args : Array Value} {ds gs : List (DataW H)} {before : List MemPlace} {n base : Nat} {rt : TypeId}
    (hty : (fn.params.toList.all fun t => argTy G n false t) = true) (hread : (fn.params.toList.all fun t => P.readableRec t && decide (t < P.types.size)) = true)
    (hres : fn.resultTypes = #[rt]) (hrt : P.underlying rt = some .bool) (hvars : s.vars = []) (hspec : ∀ ds : List (DataW H), ds.length = fn.params.size → s.fn H ds = { results := [.lit (.bool true)], args := ds })
    (hval : ∀ (j : Nat) t v, fn.params[j]? = some t → args[j]? = some v → Value.okWide P W .any base t v) (hW : DataW.Whole enc P fn.params.toList s.vars false W args.toList ds gs before)
    (hands : ∀ xs, ArgL G n fn.params.toList xs → HandsIn P f xs (vb true)) :
    Calls P f args W fun e W' => ∃ v, e = .returned v ∧ s.post enc P fn false true false false W args v W' := by
  have hW' := hW
  obtain ⟨p, q, hA, hV, rfl, hfz, hnd⟩ := hW
  rw [hvars] at hV
  obtain ⟨rfl, rfl⟩ := trodVars_none hV
  obtain ⟨xs, x1, x2, x3⟩ := args_open hG hty (fun j t v h1 h2 => hval j t v (by simpa using h1) (by simpa using h2)) hA
  have hh := (hands xs x3 W (fun b => b < W.heap.size) args (fun _ h => h) (by simpa using x1.symm) (fun j c hj => by
    have := x2 j c hj
    rwa [List.getD_eq_getElem?_getD, Array.getElem?_toList, ← Array.getD_eq_getD_getElem?] at this)).2
  refine hh.mono fun e W' he => ?_
  cases e with
  | returned v =>
    obtain ⟨F', β, hcame, hr⟩ := he
    have hv : v = .bool true := rel_v hr
    subst hv
    have hdl : ds.length = fn.params.size := by
      have : ∀ {ts : List TypeId} {vs : List Value} {ds : List (DataW H)} {ps : List MemPlace}, DataW.TrodAll enc P W 0 (fun _ => true) true ts vs ds ps → ds.length = ts.length := by
        intro ts
        induction ts with
        | nil => intro vs ds ps h; obtain ⟨_, rfl, _⟩ := trodAll_nil h; rfl
        | cons t ts ih => intro vs ds ps h; obtain ⟨v, vs', d, ds', p, q, rfl, rfl, rfl, h1, h2⟩ := trodAll_cons h; simp [ih h2]
      simpa using this hA
    refine ⟨_, rfl, ds, [], _, [], p, [], hW', ?_, ?_, ?_, hcame.below.frame _, fun h => by cases h⟩
    · rw [List.append_nil, hspec ds hdl, hres]
      exact trodAll_mk1 (shut_bool hrt _)
    · rw [List.append_nil, hspec ds hdl]
      exact args_back hl hcame.below hread hA
    · rw [List.append_nil, hspec ds hdl, hvars]
      rfl
  | _ => exact he.elim
end
end Go.Proofs.Ev
