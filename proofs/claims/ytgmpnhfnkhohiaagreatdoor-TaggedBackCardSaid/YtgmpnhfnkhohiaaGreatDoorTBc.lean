/- Round trips of dumps: laws on what is written and what is read. -/
import Derived.Test.YtgmpnhfnkhohiaaGreatDoorTBb

namespace Go.Proofs.YtgmpnhfnkhohiaaGreatDoor.Ev
open Go Go.Proofs Go.Proofs.Ev
set_option linter.unusedVariables false
theorem nl_app : ∀ (p r : List UInt8), (∀ x ∈ p, x ≠ 10) → nl (p ++ 10 :: r) = some p.length
  | [], r, _ => by simp [nl]
  | c :: p, r, h => by
    show nl (c :: (p ++ 10 :: r)) = _
    rw [nl_cons, if_neg (h c List.mem_cons_self), nl_app p r (fun x hx => h x (List.mem_cons_of_mem _ hx))]
    rfl
theorem hx_no10 (l : List UInt8) : ∀ x ∈ hx l, x ≠ 10 := by
  have hne : ∀ n, n < 16 → hd n ≠ 10 := by
    intro n hn e
    have := hd_toNat n hn
    rw [e] at this
    have h2 : (10 : UInt8).toNat = 10 := rfl
    rw [h2] at this
    split at this <;> omega
  induction l with
  | nil => intro x h; cases h
  | cons b l ih =>
    intro x h
    have := b.toNat_lt
    rcases List.mem_cons.1 h with rfl | h
    · exact hne _ (by omega)
    · rcases List.mem_cons.1 h with rfl | h
      · exact hne _ (by omega)
      · exact ih x h
theorem R_no10 (a q : List UInt8) (t : Bool) : ∀ x ∈ R a q t, x ≠ 10 := by
  intro x h
  unfold R at h
  simp only [List.mem_append, List.mem_cons, List.mem_nil_iff, or_false] at h
  have h32 : (32 : UInt8) ≠ 10 := by decide
  rcases h with (h | h) | h | h | h | h | h | h | h | h | h
  · exact hx_no10 _ x h
  · subst h; decide
  · subst h; decide
  · exact hx_no10 _ x h
  · subst h; decide
  · exact hx_no10 _ x h
  · subst h; decide
  · exact hx_no10 _ x h
  · subst h; decide
  · exact hx_no10 _ x h
  · rcases h with h | h
    · subst h; decide
    · subst h; cases t <;> decide
theorem dec_no10 {k : Nat} (h : k < 100) : ∀ x ∈ (42 :: Lib.decDigits k : List UInt8), x ≠ 10 := by
  have : ∀ k : Fin 100, ((42 :: (if k.1 < 10 then [UInt8.ofNat (48 + k.1)] else [UInt8.ofNat (48 + k.1 / 10), UInt8.ofNat (48 + k.1 % 10)]) : List UInt8).all fun x => x != 10) = true := by decide +kernel
  have h2 := this ⟨k, h⟩
  have e : Lib.decDigits k = if k < 10 then [UInt8.ofNat (48 + k)] else [UInt8.ofNat (48 + k / 10), UInt8.ofNat (48 + k % 10)] := by
    by_cases h1 : k < 10
    · rw [dec1 h1, if_pos h1]
    · rw [dec2 h1 h, if_neg h1]
  rw [e]
  intro x hx
  have := List.all_eq_true.1 h2 x hx
  simpa using this
theorem dec_good {k : Nat} (h1 : 0 < k) (h : k < 100) : good (Lib.decDigits k) = true ∧ valD (Lib.decDigits k) = k := by
  have : ∀ k : Fin 100, k.1 = 0 ∨ (good (if k.1 < 10 then [UInt8.ofNat (48 + k.1)] else [UInt8.ofNat (48 + k.1 / 10), UInt8.ofNat (48 + k.1 % 10)]) = true ∧ valD (if k.1 < 10 then [UInt8.ofNat (48 + k.1)] else [UInt8.ofNat (48 + k.1 / 10), UInt8.ofNat (48 + k.1 % 10)]) = k.1) := by decide +kernel
  have e : Lib.decDigits k = if k < 10 then [UInt8.ofNat (48 + k)] else [UInt8.ofNat (48 + k / 10), UInt8.ofNat (48 + k % 10)] := by
    by_cases h1 : k < 10
    · rw [dec1 h1, if_pos h1]
    · rw [dec2 h1 h, if_neg h1]
  rw [e]
  rcases this ⟨k, h⟩ with h2 | h2
  · exact absurd h2 (by show ¬ k = 0; omega)
  · exact h2
theorem ofNat_toNat (c : UInt8) : UInt8.ofNat c.toNat = c := by simp
/-- A number without superfluous zeros is written so. -/
theorem good_dec {l : List UInt8} (hg : good l = true) (h : valD l < 100) : 0 < valD l ∧ l = Lib.decDigits (valD l) := by
  have hp := good_pos hg
  obtain ⟨g1, g2, g3⟩ := good_iff.1 hg
  have hpos : 0 < 10 ^ (l.length - 1) := Nat.pow_pos (by omega)
  refine ⟨by omega, ?_⟩
  match l, g1, g2, g3, hp, h with
  | [c], _, g2, g3, _, h =>
    simp only [List.all_cons, List.all_nil, Bool.and_true] at g3
    have hc := (isD_iff c).1 g3
    have hv : valD [c] = c.toNat - 48 := by show 0 * 10 + (c.toNat - 48) = _; omega
    rw [hv, dec1 (by omega), show 48 + (c.toNat - 48) = c.toNat by omega, ofNat_toNat]
  | [c, d], _, g2, g3, _, h =>
    simp only [List.all_cons, List.all_nil, Bool.and_true, Bool.and_eq_true] at g3
    have hc := (isD_iff c).1 g3.1
    have hd := (isD_iff d).1 g3.2
    have hne : c.toNat ≠ 48 := fun e => g2 (UInt8.toNat_inj.1 e)
    have hv : valD [c, d] = (c.toNat - 48) * 10 + (d.toNat - 48) := by show (0 * 10 + (c.toNat - 48)) * 10 + (d.toNat - 48) = _; omega
    rw [hv] at h ⊢
    rw [dec2 (by omega) h, show 48 + ((c.toNat - 48) * 10 + (d.toNat - 48)) / 10 = c.toNat by omega, show 48 + ((c.toNat - 48) * 10 + (d.toNat - 48)) % 10 = d.toNat by omega, ofNat_toNat, ofNat_toNat]
  | c :: d :: e :: r, _, _, _, hp, h =>
    exfalso
    have : 10 ^ 2 ≤ 10 ^ ((c :: d :: e :: r).length - 1) := Nat.pow_le_pow_right (by omega) (by simp)
    omega
section
variable {n : Nat} {l : List UInt8} {ts : List Bool}
theorem P_step {g a k : Nat} {rest s : List UInt8} {us : List Bool} {st : Bool} (h : nl rest = some k) : P n (g + 1) a rest s us st = (match stepL n (rest.take k) s us st with
    | .err e => .err a e
    | .ok s' ts' st' => P n g (a + k + 1) (rest.drop (k + 1)) s' ts' st') := by
  cases rest with
  | nil => cases h
  | cons c r =>
    show (match nl (c :: r) with
      | none => PR.err a 8
      | some k => match stepL n ((c :: r).take k) s us st with
        | .err e => .err a e
        | .ok s' ts' st' => P n g (a + k + 1) ((c :: r).drop (k + 1)) s' ts' st') = _
    rw [h]
theorem take_Q (i : Nat) : l.take (16 * i) ++ Q l i = l.take (16 * (i + 1)) := by
  unfold Q
  rw [show 16 * (i + 1) = 16 * i + 16 by omega, List.take_add]
theorem Q_take {m q : Nat} (h : 16 * q + 16 ≤ m) : Q (l.take m) q = Q l q := by
  unfold Q
  rw [List.drop_take, List.take_take, Nat.min_eq_left (by omega)]
theorem lastQ_take {i : Nat} (h0 : 0 < i) (h : 16 * i ≤ l.length) : lastQ (l.take (16 * i)) = Q l (i - 1) := by
  obtain ⟨q, rfl⟩ : ∃ q, i = q + 1 := ⟨i - 1, by omega⟩
  rw [← lastQ_Q (s := l.take (16 * (q + 1))) (q := q) (by simp; omega), Q_take (by omega)]
  rfl
theorem take_T {i : Nat} (h : i < ts.length) : ts.take i ++ [ts.getD i false] = ts.take (i + 1) := by
  rw [List.take_succ_eq_append_getElem h]
  simp [List.getD_eq_getElem?_getD, h]
theorem lastT_take {i : Nat} (h0 : 0 < i) (h : i ≤ ts.length) : lastT (ts.take i) = ts.getD (i - 1) false := by
  unfold lastT
  rw [List.length_take, Nat.min_eq_left h, List.getD_eq_getElem?_getD, List.getD_eq_getElem?_getD, List.getElem?_take, if_pos (by omega)]
theorem same_true {i : Nat} (h : same l ts i = true) : 0 < i ∧ ts.getD i false = false ∧ ts.getD (i - 1) false = false ∧ Q l i = Q l (i - 1) := by
  unfold same at h
  simp only [Bool.and_eq_true, decide_eq_true_eq, Bool.not_eq_true', beq_iff_eq] at h
  exact ⟨h.1, h.2.1, h.2.2.1, h.2.2.2⟩
theorem same_of {i : Nat} (h0 : 0 < i) (h1 : ts.getD i false = false) (h2 : ts.getD (i - 1) false = false) (h3 : Q l i = Q l (i - 1)) : same l ts i = true := by
  unfold same
  rw [h1, h2, h3, decide_eq_true h0]
  simp
/-- What a run of repeated quadwords is. -/
theorem same_run (hl : l.length = 16 * ts.length) {i : Nat} : ∀ k, i + k ≤ ts.length → (∀ j, j < k → same l ts (i + j) = true) → 0 < k →
    l.take (16 * (i + k)) = l.take (16 * i) ++ Lib.repeatL (lastQ (l.take (16 * i))) k ∧ ts.take (i + k) = ts.take i ++ List.replicate k false ∧ Q l (i + k - 1) = lastQ (l.take (16 * i))
  | 0, _, _, h => absurd h (by omega)
  | 1, hk, hs, _ => by
    obtain ⟨h0, h1, h2, h3⟩ := same_true (hs 0 (by omega))
    have h0 : 0 < i := h0
    have hq : Q l i = lastQ (l.take (16 * i)) := by rw [lastQ_take h0 (by omega)]; exact h3
    refine ⟨?_, ?_, hq⟩
    · rw [← take_Q, Lib.repeatL_one, hq]
    · rw [← take_T (by omega)]
      have : ts.getD i false = false := h1
      rw [this]; rfl
  | k + 2, hk, hs, _ => by
    obtain ⟨i1, i2, i3⟩ := same_run hl (k + 1) (by omega) (fun j hj => hs j (by omega)) (by omega)
    obtain ⟨h0, h1, h2, h3⟩ := same_true (hs (k + 1) (by omega))
    have hq : Q l (i + (k + 1)) = lastQ (l.take (16 * i)) := by
      rw [h3]
      exact i3
    refine ⟨?_, ?_, hq⟩
    · rw [show i + (k + 2) = i + (k + 1) + 1 by omega, ← take_Q, i1, hq, show k + 2 = k + 1 + 1 from rfl, Lib.repeatL_add _ (k + 1) 1, Lib.repeatL_one, List.append_assoc]
    · rw [show i + (k + 2) = i + (k + 1) + 1 by omega, ← take_T (by omega), i2, h1, show k + 2 = k + 1 + 1 from rfl, List.replicate_succ' (n := k + 1), List.append_assoc]
theorem run_same : ∀ d i j, j < run l ts d i → same l ts (i + j) = true
  | 0, i, j, h => by cases h
  | d + 1, i, j, h => by
    have e : run l ts (d + 1) i = if same l ts i then run l ts d (i + 1) + 1 else 0 := rfl
    rw [e] at h
    split at h
    · rename_i hs
      cases j with
      | zero => exact hs
      | succ j =>
        have := run_same d (i + 1) j (by omega)
        rw [show i + (j + 1) = i + 1 + j by omega]
        exact this
    · cases h
theorem run_stop : ∀ d i, run l ts d i < d → same l ts (i + run l ts d i) = false
  | 0, i, h => by cases h
  | d + 1, i, h => by
    have e : run l ts (d + 1) i = if same l ts i then run l ts d (i + 1) + 1 else 0 := rfl
    rw [e] at h ⊢
    split at h
    · rename_i hs
      rw [if_pos hs]
      have := run_stop d (i + 1) (by omega)
      rw [show i + (run l ts d (i + 1) + 1) = i + 1 + run l ts d (i + 1) by omega]
      exact this
    · rename_i hs
      rw [if_neg hs]
      simpa using hs
theorem run_is : ∀ d i k, k ≤ d → (∀ j, j < k → same l ts (i + j) = true) → (k < d → same l ts (i + k) = false) → run l ts d i = k
  | 0, i, k, h, _, _ => by have : k = 0 := by omega
                           subst this; rfl
  | d + 1, i, 0, h, hs, hn => by
    show (if same l ts i then run l ts d (i + 1) + 1 else 0) = 0
    have := hn (by omega)
    rw [Nat.add_zero] at this
    rw [this]; rfl
  | d + 1, i, k + 1, h, hs, hn => by
    show (if same l ts i then run l ts d (i + 1) + 1 else 0) = k + 1
    have h0 := hs 0 (by omega)
    rw [Nat.add_zero] at h0
    rw [h0, if_pos rfl, run_is d (i + 1) k (by omega) (fun j hj => by have := hs (j + 1) (by omega); rwa [show i + (j + 1) = i + 1 + j by omega] at this) (fun hk => by have := hn (by omega); rwa [show i + (k + 1) = i + 1 + k by omega] at this)]
def okT (n : Nat) (l : List UInt8) (ts : List Bool) : Prop := ∀ j, j < ts.length → ts.getD j false = true → pe n (Q l j) = 0
/-- The dump of a storage is read as the storage. -/
theorem P_dump (hl : l.length = 16 * ts.length) (hs : ts.length ≤ 64) (hok : okT n l ts) : ∀ (f i g a : Nat) (st : Bool), i ≤ ts.length → ts.length - i ≤ f → (Df l ts f i).length < g → (st = true → i < ts.length → same l ts i = false) →
    P n g a (Df l ts f i) (l.take (16 * i)) (ts.take i) st = .ok l ts
  | f, i, 0, a, st, _, _, h, _ => absurd h (by omega)
  | f, i, g + 1, a, st, hi, hf, hg, hst => by
    by_cases hlt : i < ts.length
    · obtain ⟨f, rfl⟩ : ∃ f', f = f' + 1 := ⟨f - 1, by omega⟩
      rw [Df_step hlt, List.length_append] at hg
      rw [Df_step hlt]
      have hr := run_le l ts (ts.length - i) i
      have hrs := run_same (l := l) (ts := ts) (ts.length - i) i
      have hrn := run_stop (l := l) (ts := ts) (ts.length - i) i
      generalize hk : run l ts (ts.length - i) i = k at *
      have hti : (ts.take i).length = i := by simp; omega
      by_cases hk0 : 0 < k
      · have hs0 := same_true (hrs 0 hk0)
        rw [Nat.add_zero] at hs0
        obtain ⟨h0, h1, h2, h3⟩ := hs0
        have hstf : st = false := by
          cases st with
          | false => rfl
          | true => have := hst rfl hlt; rw [(by have := hrs 0 hk0; rwa [Nat.add_zero] at this : same l ts i = true)] at this; cases this
        have e1 : item l ts i k = (42 :: Lib.decDigits k) ++ [10] := by unfold item star; rw [if_pos hk0]; rfl
        have e2 : next i k = i + k := by unfold next; rw [if_pos hk0]
        rw [e1, e2, List.length_append] at hg
        simp only [List.length_cons, List.length_nil] at hg
        rw [e1, e2, List.append_assoc, List.singleton_append, P_step (nl_app _ _ (dec_no10 (by omega)))]
        have e3 : ((42 :: Lib.decDigits k) ++ 10 :: Df l ts f (i + k)).take (42 :: Lib.decDigits k).length = 42 :: Lib.decDigits k := List.take_left
        have e4 : ((42 :: Lib.decDigits k) ++ 10 :: Df l ts f (i + k)).drop ((42 :: Lib.decDigits k).length + 1) = Df l ts f (i + k) := by
          rw [← List.drop_drop, List.drop_left]; rfl
        rw [e3, e4]
        obtain ⟨d1, d2⟩ := dec_good hk0 (show k < 100 by omega)
        have hL : stepL n (42 :: Lib.decDigits k) (l.take (16 * i)) (ts.take i) st = .ok (l.take (16 * (i + k))) (ts.take (i + k)) true := by
          unfold stepL
          simp only [if_true]
          unfold stepS
          obtain ⟨r1, r2, _⟩ := same_run hl k (by omega) hrs hk0
          rw [if_pos ⟨d1, by omega, by rw [lastT_take h0 (by omega)]; exact h2, hstf⟩, d2, if_pos (by omega), r1, r2]
        rw [hL]
        simp only
        exact P_dump hl hs hok f (i + k) g _ true (by omega) (by omega) (by omega) (fun _ h => hrn (by omega))
      · have hk1 : k = 0 := by omega
        subst hk1
        have hsame : same l ts i = false := by have := hrn (by omega); rwa [Nat.add_zero] at this
        have e1 : item l ts i 0 = R (be 3 ((16 * i : Nat) : Int)) (Q l i) (ts.getD i false) ++ [10] := by unfold item lineB; rw [if_neg (by omega)]
        have e2 : next i 0 = i + 1 := by unfold next; rw [if_neg (by omega)]
        have hql : (Q l i).length = 16 := Q_length (by omega)
        generalize hR : R (be 3 ((16 * i : Nat) : Int)) (Q l i) (ts.getD i false) = line at *
        have hno : ∀ x ∈ line, x ≠ 10 := by rw [← hR]; exact R_no10 _ _ _
        rw [e1, e2, List.length_append] at hg
        simp only [List.length_cons, List.length_nil] at hg
        rw [e1, e2, List.append_assoc, List.singleton_append, P_step (nl_app _ _ hno)]
        have e3 : (line ++ 10 :: Df l ts f (i + 1)).take line.length = line := List.take_left
        have e4 : (line ++ 10 :: Df l ts f (i + 1)).drop (line.length + 1) = Df l ts f (i + 1) := by
          rw [← List.drop_drop, List.drop_left]; rfl
        rw [e3, e4]
        have hrow : rowQ (ts.take i).length line = some (Q l i, ts.getD i false) := by rw [hti]; exact rowQ_iff.2 ⟨hql, hR.symm⟩
        have hL : stepL n line (l.take (16 * i)) (ts.take i) st = .ok (l.take (16 * (i + 1))) (ts.take (i + 1)) false := by
          have hR2 : stepR n line (l.take (16 * i)) (ts.take i) = .ok (l.take (16 * (i + 1))) (ts.take (i + 1)) false := by
            unfold stepR
            rw [hrow]
            simp only
            rw [if_neg, if_neg (by rw [hti]; omega), if_neg, take_Q, take_T hlt]
            · rintro ⟨h1, h2⟩
              exact h2 (hok i hlt h1)
            · rintro ⟨h1, h2, h3, h4⟩
              rw [hti] at h1
              rw [lastT_take h1 (by omega)] at h3
              rw [lastQ_take h1 (by omega)] at h4
              rw [same_of h1 h2 h3 h4] at hsame
              cases hsame
          cases hline : line with
          | nil => rw [hline] at hR2; exact hR2
          | cons c r =>
            unfold stepL
            have hc : c ≠ 42 := by
              intro e
              have hh : (R (be 3 ((16 * i : Nat) : Int)) (Q l i) (ts.getD i false)).head? = some c := by rw [hR, hline]; rfl
              have hb : ∃ b t, be 3 ((16 * i : Nat) : Int) = b :: t := by
                have : (be 3 ((16 * i : Nat) : Int)).length = 3 := be_length _ _
                match be 3 ((16 * i : Nat) : Int), this with
                | b :: t, _ => exact ⟨b, t, rfl⟩
              obtain ⟨b, t, hb⟩ := hb
              unfold R at hh
              rw [hb] at hh
              simp only [hx, List.cons_append, List.head?_cons, Option.some.injEq] at hh
              have := b.toNat_lt
              have h9 := hd_toNat (b.toNat / 16) (by omega)
              rw [hh, e, show (42 : UInt8).toNat = 42 from rfl] at h9
              split at h9 <;> omega
            simp only [if_neg hc]
            rw [hline] at hR2
            exact hR2
        rw [hL]
        simp only
        exact P_dump hl hs hok f (i + 1) g _ false (by omega) (by omega) (by omega) (fun h => by cases h)
    · rw [Df_end l ts f i hlt]
      have e1 : l.take (16 * i) = l := List.take_of_length_le (by omega)
      have e2 : ts.take i = ts := List.take_of_length_le (by omega)
      rw [e1, e2]
      rfl
termination_by _ _ g => g
/-- Only dumps are read. -/
theorem P_back : ∀ (g a : Nat) (rest s : List UInt8) (us : List Bool) (st : Bool) (u : List UInt8) (vs : List Bool), s.length = 16 * us.length → us.length ≤ 64 → rest.length < g → P n g a rest s us st = .ok u vs →
    u.length = 16 * vs.length ∧ vs.length ≤ 64 ∧ us.length ≤ vs.length ∧ u.take (16 * us.length) = s ∧ vs.take us.length = us ∧ (∀ f, vs.length - us.length ≤ f → Df u vs f us.length = rest) ∧
    (st = true → us.length < vs.length → lastT us = false → same u vs us.length = false) ∧ (∀ j, us.length ≤ j → j < vs.length → vs.getD j false = true → pe n (Q u j) = 0)
  | 0, a, rest, s, us, st, u, vs, _, _, h, _ => absurd h (by omega)
  | g + 1, a, rest, s, us, st, u, vs, hs, hu, hg, h => by
    cases hn : nl rest with
    | none =>
      cases rest with
      | nil =>
        cases h
        refine ⟨hs, hu, Nat.le_refl _, List.take_of_length_le (by omega), List.take_length, fun f _ => Df_end _ _ _ _ (by omega), fun _ h => absurd h (by omega), fun j h1 h2 => absurd h2 (by omega)⟩
      | cons c r =>
        have h : (match nl (c :: r) with
          | none => PR.err a 8
          | some k => match stepL n ((c :: r).take k) s us st with
            | .err e => .err a e
            | .ok s' ts' st' => P n g (a + k + 1) ((c :: r).drop (k + 1)) s' ts' st') = PR.ok u vs := h
        rw [hn] at h
        cases h
    | some k =>
      rw [P_step hn] at h
      have hk := nl_lt hn
      have hsplit : rest = rest.take k ++ 10 :: rest.drop (k + 1) := by
        have h10 := at_nl hn
        obtain ⟨hk', h10'⟩ := List.getElem?_eq_some_iff.1 h10
        rw [← h10', ← List.drop_eq_getElem_cons hk', List.take_append_drop]
      cases hS : stepL n (rest.take k) s us st with
      | err e => rw [hS] at h; cases h
      | ok s2 us2 st2 =>
        rw [hS] at h
        simp only at h
        obtain ⟨i1, i2⟩ := stepL_inv hs hu hS
        obtain ⟨j1, j2, j3, j4, j5, j6, j7, j8⟩ := P_back g _ _ _ _ _ _ _ i1 i2 (by simp; omega) h
        -- what a row of a quadword does
        have row : stepR n (rest.take k) s us = .ok s2 us2 st2 → u.length = 16 * vs.length ∧ vs.length ≤ 64 ∧ us.length ≤ vs.length ∧ u.take (16 * us.length) = s ∧ vs.take us.length = us ∧ (∀ f, vs.length - us.length ≤ f → Df u vs f us.length = rest) ∧
            (st = true → us.length < vs.length → lastT us = false → same u vs us.length = false) ∧ (∀ j, us.length ≤ j → j < vs.length → vs.getD j false = true → pe n (Q u j) = 0) := by
          intro hR
          unfold stepR at hR
          cases hq : rowQ us.length (rest.take k) with
          | none => rw [hq] at hR; cases hR
          | some p =>
            obtain ⟨b, t⟩ := p
            rw [hq] at hR
            simp only at hR
            obtain ⟨hb, hline⟩ := rowQ_iff.1 hq
            by_cases c1 : 0 < us.length ∧ t = false ∧ lastT us = false ∧ b = lastQ s
            · rw [if_pos c1] at hR; cases hR
            · rw [if_neg c1] at hR
              by_cases c2 : us.length = 64
              · rw [if_pos c2] at hR; cases hR
              · rw [if_neg c2] at hR
                by_cases c3 : t = true ∧ pe n b ≠ 0
                · rw [if_pos c3] at hR; cases hR
                · rw [if_neg c3] at hR
                  cases hR
                  have l2 : (us ++ [t]).length = us.length + 1 := by simp
                  rw [l2] at j3 j4 j5 j6 j7 j8
                  have t1 : u.take (16 * us.length) = s := by
                    have := congrArg (List.take (16 * us.length)) j4
                    rw [List.take_take, Nat.min_eq_left (by omega), List.take_left' hs] at this
                    exact this
                  have t2 : vs.take us.length = us := by
                    have := congrArg (List.take us.length) j5
                    rw [List.take_take, Nat.min_eq_left (by omega), List.take_left] at this
                    exact this
                  have hqu : Q u us.length = b := by
                    have := take_Q (l := u) us.length
                    rw [t1, j4] at this
                    exact List.append_cancel_left this
                  have hvt : vs.getD us.length false = t := by
                    have := take_T (ts := vs) (i := us.length) (by omega)
                    rw [t2, j5] at this
                    have := List.append_cancel_left this
                    simpa using this
                  have hsame : same u vs us.length = false := by
                    rw [← Bool.not_eq_true]
                    intro hh
                    obtain ⟨g0, g1, g2, g3⟩ := same_true hh
                    refine c1 ⟨g0, by rw [← hvt]; exact g1, ?_, ?_⟩
                    · rw [← t2, lastT_take g0 (by omega)]; exact g2
                    · rw [← hqu, ← t1, lastQ_take g0 (by omega)]; exact g3
                  refine ⟨j1, j2, by omega, t1, t2, fun f hf => ?_, fun _ _ _ => hsame, fun j h1 h2 h3 => ?_⟩
                  · obtain ⟨f, rfl⟩ : ∃ f', f = f' + 1 := ⟨f - 1, by omega⟩
                    have hrun : run u vs (vs.length - us.length) us.length = 0 := run_is _ _ _ (by omega) (fun j hj => by cases hj) (fun _ => hsame)
                    rw [Df_step (by omega), hrun]
                    have e1 : item u vs us.length 0 = rest.take k ++ [10] := by
                      unfold item lineB; rw [if_neg (by omega), hqu, hvt, ← hline]
                    have e2 : next us.length 0 = us.length + 1 := by unfold next; rw [if_neg (by omega)]
                    rw [e1, e2, j6 f (by omega), List.append_assoc, List.singleton_append]
                    exact hsplit.symm
                  · by_cases he : j = us.length
                    · subst he
                      rw [hvt] at h3
                      rw [hqu]
                      by_cases hpe : pe n b = 0
                      · exact hpe
                      · exact absurd ⟨h3, hpe⟩ c3
                    · exact j8 j (by omega) h2 h3
        cases hline : rest.take k with
        | nil => rw [hline] at hS; exact row (by rw [hline]; exact hS)
        | cons c r =>
          by_cases hc : c = 42
          · subst hc
            rw [hline] at hS
            unfold stepL at hS
            simp only [if_true] at hS
            unfold stepS at hS
            by_cases c1 : good r = true ∧ 0 < us.length ∧ lastT us = false ∧ st = false
            · rw [if_pos c1] at hS
              obtain ⟨hg1, hq0, hlt, hstf⟩ := c1
              by_cases c2 : us.length + valD r ≤ 64
              · rw [if_pos c2] at hS
                cases hS
                obtain ⟨hv0, hdec⟩ := good_dec hg1 (show valD r < 100 by omega)
                generalize hv : valD r = v at *
                have l2 : (us ++ List.replicate v false).length = us.length + v := by simp
                rw [l2] at j3 j4 j5 j6 j7 j8
                have hlqs : (lastQ s).length = 16 := by unfold lastQ; simp; omega
                have t1 : u.take (16 * us.length) = s := by
                  have := congrArg (List.take (16 * us.length)) j4
                  rw [List.take_take, Nat.min_eq_left (by omega), List.take_left' hs] at this
                  exact this
                have t2 : vs.take us.length = us := by
                  have := congrArg (List.take us.length) j5
                  rw [List.take_take, Nat.min_eq_left (by omega), List.take_left] at this
                  exact this
                have hvf : ∀ j, j < v → vs.getD (us.length + j) false = false := by
                  intro j hj
                  have : (vs.take (us.length + v))[us.length + j]? = some false := by
                    rw [j5, List.getElem?_append_right (by omega), Nat.add_sub_cancel_left, List.getElem?_replicate, if_pos hj]
                  rw [List.getElem?_take, if_pos (by omega)] at this
                  rw [List.getD_eq_getElem?_getD, this]; rfl
                have hQs : ∀ j, j < v → Q u (us.length + j) = lastQ s := by
                  intro j hj
                  rw [← Q_take (l := u) (m := 16 * (us.length + v)) (q := us.length + j) (by omega), j4]
                  unfold Q
                  have e : v = j + (v - j - 1 + 1) := by omega
                  rw [show 16 * (us.length + j) = s.length + 16 * j by omega, ← List.drop_drop, List.drop_left]
                  rw [e, Lib.repeatL_add, List.drop_left' (by rw [Lib.repeatL_length, hlqs]; omega)]
                  show (lastQ s ++ Lib.repeatL (lastQ s) (v - j - 1)).take 16 = _
                  rw [← hlqs, List.take_left]
                have hsm : ∀ j, j < v → same u vs (us.length + j) = true := by
                  intro j hj
                  refine same_of (by omega) (hvf j hj) ?_ ?_
                  · by_cases h0 : j = 0
                    · subst h0
                      rw [← t2, lastT_take hq0 (by omega)] at hlt
                      exact hlt
                    · have := hvf (j - 1) (by omega)
                      rwa [show us.length + (j - 1) = us.length + j - 1 by omega] at this
                  · rw [hQs j hj]
                    by_cases h0 : j = 0
                    · subst h0
                      rw [← t1, lastQ_take hq0 (by omega)]
                      rfl
                    · have := hQs (j - 1) (by omega)
                      rw [show us.length + (j - 1) = us.length + j - 1 by omega] at this
                      exact this.symm
                have hlast2 : lastT (us ++ List.replicate v false) = false := by
                  unfold lastT
                  rw [l2, List.getD_eq_getElem?_getD, List.getElem?_append_right (by omega), List.getElem?_replicate, if_pos (by omega)]
                  rfl
                have hrun : run u vs (vs.length - us.length) us.length = v := run_is _ _ _ (by omega) hsm (fun hh => j7 rfl (by omega) hlast2)
                refine ⟨j1, j2, by omega, t1, t2, fun f hf => ?_, fun (h : st = true) => (by rw [hstf] at h; cases h), fun j h1 h2 h3 => ?_⟩
                · obtain ⟨f, rfl⟩ : ∃ f', f = f' + 1 := ⟨f - 1, by omega⟩
                  rw [Df_step (by omega), hrun]
                  have e1 : item u vs us.length v = rest.take k ++ [10] := by
                    unfold item star; rw [if_pos hv0, hline, ← hdec]; rfl
                  have e2 : next us.length v = us.length + v := by unfold next; rw [if_pos hv0]
                  rw [e1, e2, j6 f (by omega), List.append_assoc, List.singleton_append]
                  exact hsplit.symm
                · by_cases he : j < us.length + v
                  · have := hvf (j - us.length) (by omega)
                    rw [show us.length + (j - us.length) = j by omega, h3] at this
                    cases this
                  · exact j8 j (by omega) h2 h3
              · rw [if_neg c2] at hS; cases hS
            · rw [if_neg c1] at hS; cases hS
          · refine row ?_
            rw [hline] at hS ⊢
            unfold stepL at hS
            simp only [if_neg hc] at hS
            exact hS
end
end Go.Proofs.YtgmpnhfnkhohiaaGreatDoor.Ev

/- Loads and stores of pointers, copies: what chapter 3's program and its reference compute is the same. -/
namespace Go.Proofs.YtgmpnhfnkhohiaaGreatDoor.Ev
open Go Go.Proofs Go.Proofs.Ev
set_option linter.unusedVariables false
/-- Whether an offset is that of a quadword. -/
def isQ (s : ByteArray) (a : Int) : Bool := (decide (0 ≤ a) && decide (a ≤ (s.size : Int) - 16)) && decide (a % 16 = 0)
theorem tmod16 {a : Int} (h : 0 ≤ a) : Int.tmod a 16 = a % 16 := Int.tmod_eq_emod_of_nonneg h
theorem place_eq {n : Nat} (hn : 1 ≤ n) (s : ByteArray) (ts : List Bool) {r : Int × Int} (hr : tagged_CheckStorage.F n s (Bl ts) = some r) (h0 : r.2 = 0 → s.size = 16 * ts.length ∧ ts.length ≤ 64) (a : Int) :
    tagged_place.F n s (Bl ts) a = some (bif r.2 != 0 then r.2 else bif isQ s a then 0 else 3) := by
  obtain ⟨m, rfl⟩ : ∃ m, n = m + 1 := ⟨n - 1, by omega⟩
  unfold tagged_place.F tagged_place.e
  rw [hr]
  simp only [Option.bind_some, tagged_place.l, tagged_place.r5]
  cases hc : r.2 != 0 with
  | true => rfl
  | false =>
    obtain ⟨g1, g2⟩ := h0 (by simpa using hc)
    simp only [cond_false, isQ]
    by_cases h1 : a < 0
    · have : ¬ (0 ≤ a) := by omega
      simp [h1, this]
    · have g0 : 0 ≤ a := by omega
      rw [tmod16 g0]
      by_cases h2 : a ≥ (s.size : Int)
      · have : ¬ (a ≤ (s.size : Int) - 16) := by omega
        simp [h1, h2, this]
      · by_cases h3 : a % 16 = 0
        · have : a ≤ (s.size : Int) - 16 := by omega
          simp [h1, h2, h3, this, g0]
        · have : (a % 16 != 0) = true := by simpa using h3
          simp [h1, h2, h3, this]
theorem div16 (q : Nat) (h : q ≤ 1000000) : IntKind.i64.wrap (Int.tdiv ((16 * q : Nat) : Int) 16) = (q : Int) := by rw [Int.tdiv_eq_ediv_of_nonneg (by omega), w64] <;> omega
end Go.Proofs.YtgmpnhfnkhohiaaGreatDoor.Ev

/- Pointers and their bytes; a pointer that is stored is loaded; which storages are valid. -/
namespace Go.Proofs.YtgmpnhfnkhohiaaGreatDoor.Ev
open Go Go.Proofs Go.Proofs.Ev
set_option linter.unusedVariables false
theorem be_succ (s : Nat) (x : Int) : be (s + 1) x = be s (x / 256) ++ [UInt8.ofNat (x % 256).toNat] := by
  unfold be
  rw [List.range_succ, List.map_append]
  congr 1
  · apply List.map_congr_left
    intro j hj
    have hj := List.mem_range.1 hj
    have e : x / 256 ^ (s + 1 - 1 - j) = x / 256 / 256 ^ (s - 1 - j) := by
      rw [show s + 1 - 1 - j = (s - 1 - j) + 1 by omega, Int.pow_succ, Int.mul_comm, Int.ediv_ediv_of_nonneg (by omega)]
    rw [e]
  · simp
theorem val_be : ∀ (s : Nat) (x : Int), 0 ≤ x → x < 256 ^ s → val (be s x) = x.toNat
  | 0, x, h0, h1 => by
    have : x = 0 := by simp at h1; omega
    subst this; rfl
  | s + 1, x, h0, h1 => by
    rw [Int.pow_succ] at h1
    have h2 : x / 256 < 256 ^ s := Int.ediv_lt_of_lt_mul (by omega) h1
    rw [be_succ, val_snoc, val_be s (x / 256) (by omega) h2, UInt8.toNat_ofNat']
    omega
section
variable {n : Nat}
/-- The pointer with the bytes of a pointer. -/
theorem pointerIn_bytes (hn : 7 ≤ n) {a0 a1 a2 a3 : Int} (hc : tagged_CheckPointer.F n a0 a1 a2 a3 = some 0) (h0 : 0 ≤ a0 ∧ a0 ≤ 2) (h1 : 0 ≤ a1 ∧ a1 ≤ 1099511627775) (h2 : 0 ≤ a2 ∧ a2 ≤ 16777215) (h3 : 0 ≤ a3 ∧ a3 ≤ 1023) :
    tagged_PointerIn.F n (bs (bytesOf a0 a1 a2 a3)) = some (a0, a1, a2, a3, 0) := by
  have hB := bytesOf_length a0 a1 a2 a3
  have d0 : (bytesOf a0 a1 a2 a3).drop 0 = [UInt8.ofNat a0.toNat] ++ ([0] ++ (be 2 a3 ++ (be 6 a1 ++ be 6 a2))) := by
    rw [List.drop_zero]
    unfold bytesOf
    have e1 : be 1 a0 = [UInt8.ofNat a0.toNat] := by
      have : be 1 a0 = [UInt8.ofNat (a0 / 256 ^ 0 % 256).toNat] := rfl
      rw [this, Int.pow_zero, Int.ediv_one]
      congr 2
      omega
    have e2 : be 1 0 = [0] := by decide
    rw [e1, e2]
    simp [List.append_assoc]
  obtain ⟨d1, _⟩ := drop_app d0 (j := 1) rfl
  obtain ⟨d2, _⟩ := drop_app d1 (j := 1) rfl
  obtain ⟨d4, t2⟩ := drop_app d2 (j := 2) (be_length _ _)
  obtain ⟨d10, t4⟩ := drop_app d4 (j := 6) (be_length _ _)
  have g0 : (bytesOf a0 a1 a2 a3).getD 0 0 = UInt8.ofNat a0.toNat := (drop_one d0).2
  have g1 : (bytesOf a0 a1 a2 a3).getD 1 0 = 0 := (drop_one d1).2
  generalize bytesOf a0 a1 a2 a3 = B at *
  unfold tagged_PointerIn.F tagged_PointerIn.e
  simp only [bs_size, hB, arr_getD, g0, g1]
  have x1 : (bs B).extract 2 4 = bs (be 2 a3) := by rw [bs_extract]; exact congrArg bs t2
  have x2 : (bs B).extract 4 10 = bs (be 6 a1) := by rw [bs_extract]; exact congrArg bs t4
  have x3 : (bs B).extract 10 16 = bs (be 6 a2) := by
    rw [bs_extract, show (B.drop 10) = be 6 a2 from d10, List.take_of_length_le (by rw [be_length]; omega)]
  have n1 : tagged_number.F n (bs (be 2 a3)) = some a3 := by
    rw [number_eq (bs (be 2 a3)) (by rw [bs_size, be_length]; omega) hn, show (bs (be 2 a3)).data.toList = be 2 a3 from rfl, val_be 2 a3 h3.1 (by omega)]
    congr 1; omega
  have n2 : tagged_number.F n (bs (be 6 a1)) = some a1 := by
    rw [number_eq (bs (be 6 a1)) (by rw [bs_size, be_length]; omega) hn, show (bs (be 6 a1)).data.toList = be 6 a1 from rfl, val_be 6 a1 h1.1 (by omega)]
    congr 1; omega
  have n3 : tagged_number.F n (bs (be 6 a2)) = some a2 := by
    rw [number_eq (bs (be 6 a2)) (by rw [bs_size, be_length]; omega) hn, show (bs (be 6 a2)).data.toList = be 6 a2 from rfl, val_be 6 a2 h2.1 (by omega)]
    congr 1; omega
  have e0 : IntKind.i64.wrap (((UInt8.ofNat a0.toNat).toNat : Nat) : Int) = a0 := by
    rw [UInt8.toNat_ofNat', w64] <;> omega
  rw [x1, x2, x3, n1, n2, n3]
  simp only [Option.bind_some, e0]
  rw [hc]
  rfl
theorem pe_bytes (hn : 7 ≤ n) {a0 a1 a2 a3 : Int} (h : tagged_PointerIn.F n (bs (bytesOf a0 a1 a2 a3)) = some (a0, a1, a2, a3, 0)) : pe n (bytesOf a0 a1 a2 a3) = 0 := by
  unfold pe; rw [h]
variable {l : List UInt8} {ts : List Bool}
theorem checkT_l (hn : 1002 ≤ n) (hl : l.length = 16 * ts.length) (ht : ts.length ≤ 64) (hok : okT n l ts) : ∀ (d i m : Nat), i + d = ts.length → d < m → tagged_CheckStorage.l n m (Bl ts) ts.length i (bs l) (Bl ts) = some ((ts.length : Int), 0)
  | _, _, 0, _, h => absurd h (by omega)
  | 0, i, m + 1, h, _ => by
    have : i = ts.length := by omega
    subst this
    show tagged_CheckStorage.r9 n (tagged_CheckStorage.l n m) some (Bl ts) ts.length (ts.length : Nat) (bs l) (Bl ts) = _
    unfold tagged_CheckStorage.r9
    rw [cond_f (by omega), bl_length]
  | d + 1, i, m + 1, h, hm => by
    have hi : i < ts.length := by omega
    have ih := checkT_l hn hl ht hok d (i + 1) m (by omega) (by omega)
    show tagged_CheckStorage.r9 n (tagged_CheckStorage.l n m) some (Bl ts) ts.length (i : Nat) (bs l) (Bl ts) = _
    unfold tagged_CheckStorage.r9
    rw [cond_t (by omega), bl_length, within_t hi, cond_true, Int.toNat_natCast, bl_getD hi]
    simp only [AV.cells, withCons, withBool]
    rw [wsucc (by omega), ih]
    cases hb : ts.getD i false with
    | false => rfl
    | true =>
      have e1 : IntKind.i64.wrap ((i : Int) * 16) = ((16 * i : Nat) : Int) := by rw [w64] <;> omega
      have e2 : IntKind.i64.wrap (((16 * i : Nat) : Int) + 16) = ((16 * i + 16 : Nat) : Int) := by rw [w64] <;> omega
      simp only [Bool.not_true, cond_false, e1, e2, bs_size]
      rw [upto_t (show 16 * i + 16 ≤ l.length by omega), upto_t2 (show 16 * i ≤ 16 * i + 16 by omega)]
      simp only [cond_true, Int.toNat_natCast, Q_extract]
      obtain ⟨p, p1, _⟩ := pointerIn_eq (n := n) (by omega) (bs (Q l i))
      have hpe := hok i hi hb
      unfold pe at hpe
      rw [p1] at hpe ⊢
      simp only at hpe
      simp only [Option.bind_some, hpe]
      rfl
theorem check_ok (hn : 1002 ≤ n) (hl : l.length = 16 * ts.length) (ht : ts.length ≤ 64) (hok : okT n l ts) : tagged_CheckStorage.F n (bs l) (Bl ts) = some ((ts.length : Int), 0) := by
  unfold tagged_CheckStorage.F tagged_CheckStorage.e
  have e1 : Int.tmod ((l.length : Nat) : Int) 16 = 0 := by rw [Int.tmod_eq_emod_of_nonneg (by omega)]; omega
  have e2 : IntKind.i64.wrap (Int.tdiv ((l.length : Nat) : Int) 16) = ((ts.length : Nat) : Int) := by rw [Int.tdiv_eq_ediv_of_nonneg (by omega), w64] <;> omega
  simp only [bs_size, bl_length, e1, e2, bne_self_eq_false, cond_false]
  rw [cond_f (by omega)]
  exact checkT_l hn hl ht hok ts.length 0 n (by omega) (by omega)
theorem okT_of (hn : 7 ≤ n) (h : ∀ j, (hj : j < ts.length) → ts[j] = true → ∃ p, midrangeref03_In.F n ((bs l).extract (16 * j) (16 * j + 16)) = some p ∧ p.2.2.2.2 = 0) : okT n l ts := by
  intro j hj hb
  have : ts[j] = true := by simpa [List.getD_eq_getElem?_getD, hj] using hb
  obtain ⟨p, p1, p2⟩ := h j hj this
  rw [Q_extract] at p1
  obtain ⟨p', q1, q2⟩ := pointerIn_eq (n := n) hn (bs (Q l j))
  rw [p1] at q2
  cases q2
  unfold pe
  rw [q1]
  exact p2
/-- A storage with a pointer's bytes in a quadword. -/
def put16 (l B : List UInt8) (q : Nat) : List UInt8 := l.take (16 * q) ++ B ++ l.drop (16 * q + 16)
theorem put16_length {B : List UInt8} {q : Nat} (hB : B.length = 16) (h : 16 * q + 16 ≤ l.length) : (put16 l B q).length = l.length := by
  unfold put16; simp; omega
theorem Q_put16 {B : List UInt8} {q : Nat} (hB : B.length = 16) (h : 16 * q + 16 ≤ l.length) (j : Nat) (hj : 16 * j + 16 ≤ l.length) : Q (put16 l B q) j = if j = q then B else Q l j := by
  unfold Q put16
  have ht : (l.take (16 * q)).length = 16 * q := by simp; omega
  by_cases e : j = q
  · subst e
    rw [if_pos rfl, List.append_assoc, List.drop_left' ht, ← hB, List.take_left]
  · rw [if_neg e]
    by_cases hlt : j < q
    · rw [List.append_assoc, List.drop_append_of_le_length (by omega), List.take_append_of_le_length (by simp; omega), List.drop_take, List.take_take, Nat.min_eq_left (by omega)]
    · have e2 : (l.take (16 * q) ++ B).length = 16 * q + 16 := by simp; omega
      rw [show 16 * j = (l.take (16 * q) ++ B).length + (16 * j - (16 * q + 16)) by omega, ← List.drop_drop, List.drop_left, List.drop_drop, e2]
theorem patch_put {B : List UInt8} {q : Nat} (hB : B.length = 16) (h : 16 * q + 16 ≤ l.length) : patch (bs l) (bs B) (16 * q) = bs (put16 l B q) := by
  unfold patch put16
  rw [bs_size, bs_size, hB, bs_extract, bs_extract, bs_append, bs_append, List.drop_zero, Nat.sub_zero, List.take_of_length_le (l := l.drop _) (by simp)]
theorem clr_set {q : Nat} (h : q < ts.length) : (clr ts (16 * q) 16).set q true = ts.set q true := by
  apply List.ext_getElem
  · rw [List.length_set, List.length_set, clr_length]
  · intro j h1 h2
    rw [List.getElem_set, List.getElem_set]
    by_cases e : q = j
    · rw [if_pos e, if_pos e]
    · rw [if_neg e, if_neg e]
      have hj : j < ts.length := by simpa using h2
      simp only [clr, List.getElem_map, List.getElem_range]
      rw [if_neg (by omega)]
      simp [List.getD_eq_getElem?_getD, hj]
/-- One that is stored is loaded. -/
theorem storeLoad_eq (hn : 1000002 ≤ n) (hl : l.length = 16 * ts.length) (ht : ts.length ≤ 64) (hok : okT n l ts) {a0 a1 a2 a3 : Int} (hc : tagged_CheckPointer.F n a0 a1 a2 a3 = some 0)
    (hp : tagged_PointerIn.F n (bs (bytesOf a0 a1 a2 a3)) = some (a0, a1, a2, a3, 0)) (q : Nat) (hq : q < ts.length) :
    ∃ l' ts', ts'.length ≤ 64 ∧ tagged_StorePointer.F n (bs l) (Bl ts) ((16 * q : Nat) : Int) a0 a1 a2 a3 = some (bs l', Bl ts', 0) ∧ tagged_LoadPointer.F n (bs l') (Bl ts') ((16 * q : Nat) : Int) = some (a0, a1, a2, a3, 0) := by
  have hB := bytesOf_length a0 a1 a2 a3
  have hpe := pe_bytes (n := n) (by omega) hp
  have henc := encoded_eq (n := n) hn a0 a1 a2 a3
  rw [show (⟨(bytesOf a0 a1 a2 a3).toArray⟩ : ByteArray) = bs (bytesOf a0 a1 a2 a3) from rfl] at henc
  generalize bytesOf a0 a1 a2 a3 = B at *
  have hck := check_ok (by omega) hl ht hok
  have hisq : ∀ (m : List UInt8), m.length = l.length → isQ (bs m) ((16 * q : Nat) : Int) = true := by
    intro m hm
    unfold isQ
    rw [bs_size, hm]
    simp only [Bool.and_eq_true, decide_eq_true_eq]
    omega
  have hl' := put16_length (l := l) (q := q) hB (by omega)
  refine ⟨put16 l B q, ts.set q true, by rw [List.length_set]; exact ht, ?_, ?_⟩
  · unfold tagged_StorePointer.F tagged_StorePointer.e
    rw [place_eq (by omega) (bs l) ts hck (fun _ => ⟨hl, ht⟩), hisq l rfl, hc, henc]
    simp only [bne_self_eq_false, cond_false, cond_true, Option.bind_some]
    have hput := put_eq n (bs l) (bs B) ts (16 * q) (by rw [bs_size, bs_size]; omega) hl (by omega)
    rw [hput]
    simp only [Option.bind_some, div16 q (by omega), bl_length, clr_length, bs_size, hB]
    rw [within_t hq, cond_true, Int.toNat_natCast, bl_set, clr_set hq, patch_put hB (by omega)]
  · have hck' : tagged_CheckStorage.F n (bs (put16 l B q)) (Bl (ts.set q true)) = some (((ts.set q true).length : Int), 0) := by
      refine check_ok (by omega) (by rw [hl', List.length_set]; exact hl) (by rw [List.length_set]; exact ht) (fun j hj hb => ?_)
      rw [List.length_set] at hj
      rw [Q_put16 hB (by omega) j (by omega)]
      by_cases e : j = q
      · rw [if_pos e]; exact hpe
      · rw [if_neg e]
        refine hok j hj ?_
        rw [List.getD_eq_getElem?_getD, List.getElem?_set_ne (Ne.symm e), ← List.getD_eq_getElem?_getD] at hb
        exact hb
    unfold tagged_LoadPointer.F tagged_LoadPointer.e
    rw [place_eq (by omega) _ _ hck' (fun _ => ⟨by rw [bs_size, hl', List.length_set]; exact hl, by rw [List.length_set]; exact ht⟩), hisq _ hl']
    simp only [bne_self_eq_false, cond_false, cond_true, Option.bind_some, div16 q (by omega), bl_length, List.length_set]
    have hg : (ts.set q true).getD q false = true := by simp [List.getD_eq_getElem?_getD, hq]
    have e1 : IntKind.i64.wrap (((16 * q : Nat) : Int) + 16) = ((16 * q + 16 : Nat) : Int) := by rw [w64] <;> omega
    rw [within_t hq, cond_true, Int.toNat_natCast, bl_getD (by rw [List.length_set]; exact hq), hg]
    simp only [AV.cells, withCons, withBool, Bool.not_true, cond_false, e1, bs_size, hl']
    rw [upto_t (show 16 * q + 16 ≤ l.length by omega), upto_t2 (show 16 * q ≤ 16 * q + 16 by omega)]
    simp only [cond_true, Int.toNat_natCast, Q_extract]
    rw [Q_put16 hB (by omega) q (by omega), if_pos rfl, hp]
    rfl
end
end Go.Proofs.YtgmpnhfnkhohiaaGreatDoor.Ev

/- P3.9: round trips of pointers, storages and dumps. -/
namespace Go.Proofs.YtgmpnhfnkhohiaaGreatDoor.Ev
open Go Go.Proofs Go.Proofs.Ev
set_option linter.unusedVariables false
section
variable {n : Nat} {l : List UInt8} {ts : List Bool}
theorem stepL_err {line s : List UInt8} {us : List Bool} {st : Bool} {e : Int} (h : stepL n line s us st = .err e) : e ≠ 0 := by
  have hS : ∀ rest, stepS rest s us st = .err e → e ≠ 0 := by
    intro rest h
    unfold stepS at h
    split at h
    · split at h
      · cases h
      · cases h; decide
    · cases h; decide
  have hR : ∀ line, stepR n line s us = .err e → e ≠ 0 := by
    intro line h
    unfold stepR at h
    split at h
    · cases h; decide
    · split at h
      · cases h; decide
      · split at h
        · cases h; decide
        · split at h
          · cases h; decide
          · cases h
  cases line with
  | nil =>
    have h : stepR n [] s us = .err e := h
    exact hR _ h
  | cons c r =>
    unfold stepL at h
    by_cases hc : c = 42
    · simp only [if_pos hc] at h; exact hS _ h
    · simp only [if_neg hc] at h; exact hR _ h
theorem P_err_ne : ∀ (f a : Nat) (rest s : List UInt8) (us : List Bool) (st : Bool) (b : Nat) (c : Int), P n f a rest s us st = .err b c → c ≠ 0
  | 0, a, rest, s, us, st, b, c, h => by cases h
  | f + 1, a, [], s, us, st, b, c, h => by cases h
  | f + 1, a, x :: r, s, us, st, b, c, h => by
    cases hk : nl (x :: r) with
    | none =>
      have h : (match nl (x :: r) with
        | none => .err a 8
        | some k => match stepL n ((x :: r).take k) s us st with
          | .err e => .err a e
          | .ok s' ts' st' => P n f (a + k + 1) ((x :: r).drop (k + 1)) s' ts' st') = PR.err b c := h
      rw [hk] at h
      cases h
      decide
    | some k =>
      rw [P_step hk] at h
      cases hS : stepL n ((x :: r).take k) s us st with
      | err e => rw [hS] at h; cases h; exact stepL_err hS
      | ok s2 ts2 st2 =>
        rw [hS] at h
        exact P_err_ne f _ _ _ _ _ _ _ h
theorem Df_length (hl : l.length = 16 * ts.length) (ht : ts.length ≤ 64) : ∀ f i, i ≤ ts.length → (Df l ts f i).length ≤ 46 * (ts.length - i)
  | 0, i, _ => by simp [Df]
  | f + 1, i, hi => by
    by_cases h : i < ts.length
    · rw [Df_step h, List.length_append]
      have hr := run_le l ts (ts.length - i) i
      have h1 := item_le (l := l) (ts := ts) (i := i) (k := run l ts (ts.length - i) i) (by omega) (by omega)
      have hnx : i + 1 ≤ next i (run l ts (ts.length - i) i) ∧ next i (run l ts (ts.length - i) i) ≤ ts.length := by unfold next; split <;> omega
      have h2 := Df_length hl ht f (next i (run l ts (ts.length - i) i)) hnx.2
      omega
    · rw [Df_end l ts _ i h]; simp
/-- The dump of a storage is read as the storage, and only dumps are read. -/
theorem dumped (hn : 1000002 ≤ n) (hl : l.length = 16 * ts.length) (ht : ts.length ≤ 64) (hok : okT n l ts) (T : List UInt8) (hT : T.length ≤ 6000) (C : Option Bool) :
    ((midrangebase_OwnStorage.F n (bs l) (Bl ts)).bind fun p9 =>
  (tagged_Dump.F n p9.1 p9.2).bind fun p10 =>
  (tagged_ParseDump.F n p10.1).bind fun p11 =>
  bif p10.2 != 0 then C else (bif p11.2.2.2 != 0 then C else (bif p11.2.2.1 != 0 then C else ((midrangebase_SameStorage.F n p11.1 p11.2.1 (bs l) (Bl ts)).bind fun p12 =>
  bif !p12 then C else ((tagged_ParseDump.F n (bs T)).bind fun p13 =>
  bif p13.2.2.2 != 0 then some true else ((midrangebase_OwnStorage.F n p13.1 p13.2.1).bind fun p14 =>
  (tagged_Dump.F n p14.1 p14.2).bind fun p15 =>
  bif p15.2 == 0 then (some (p15.1.toList == (bs T).toList)) else (some false))))))) = some true := by
  have hck := check_ok (by omega) hl ht hok
  have hdl := Df_length hl ht ts.length 0 (by omega)
  have hlen : (dump l ts).length ≤ 6000 := by unfold dump; omega
  have hP : P n ((dump l ts).length + 1) 0 (dump l ts) [] [] false = .ok l ts := by
    have := P_dump (n := n) hl ht hok ts.length 0 ((dump l ts).length + 1) 0 false (by omega) (by omega) (by unfold dump; omega) (fun h => by cases h)
    simpa [dump] using this
  rw [own_eq n (bs l) ts (by omega)]
  simp only [Option.bind_some]
  rw [dump_eq (by omega) hl ht hck rfl]
  simp only [Option.bind_some]
  rw [parseDump_eq (by omega), if_neg (by omega), hP]
  simp only [res, Option.bind_some, bne_self_eq_false, cond_false]
  rw [same_eq (bs l) ts (by omega) (by omega)]
  simp only [Option.bind_some, Bool.not_true, cond_false]
  rw [parseDump_eq (by omega), if_neg (by omega)]
  cases hQ : P n (T.length + 1) 0 T [] [] false with
  | err a c =>
    have hc := P_err_ne _ _ _ _ _ _ _ _ hQ
    have : (c != 0) = true := by rw [bne_iff_ne]; exact hc
    simp only [res, Option.bind_some, this, cond_true]
  | ok u vs =>
    obtain ⟨j1, j2, _, _, _, j6, _, j8⟩ := P_back (n := n) (T.length + 1) 0 T [] [] false u vs (by simp) (by simp) (by omega) hQ
    simp only [res, Option.bind_some, bne_self_eq_false, cond_false]
    have hck2 := check_ok (n := n) (by omega) j1 j2 (fun j hj hb => j8 j (by simp) hj hb)
    rw [own_eq n (bs u) vs (by omega)]
    simp only [Option.bind_some]
    rw [dump_eq (by omega) j1 j2 hck2 rfl]
    have hd : dump u vs = T := by unfold dump; exact j6 vs.length (by simp)
    rw [hd]
    simp only [Option.bind_some, BEq.rfl, cond_true]
theorem back_l (hn : 1000002 ≤ n) (hl : l.length = 16 * ts.length) (ht : ts.length ≤ 64) (hok : okT n l ts) (T : List UInt8) (hT : T.length ≤ 6000) {a0 a1 a2 a3 : Int} (hc : tagged_CheckPointer.F n a0 a1 a2 a3 = some 0)
    (hp : tagged_PointerIn.F n (bs (bytesOf a0 a1 a2 a3)) = some (a0, a1, a2, a3, 0)) : ∀ (d i m : Nat) (b0 b1 b2 b3 : Int), i + d = ts.length → d < m →
    (midrangelaw03_TaggedBack.l n m).2.2.1 (bs T) (i : Nat) (bs l) (Bl ts) a0 a1 a2 a3 b0 b1 b2 b3 = some true
  | _, _, 0, _, _, _, _, _, h => absurd h (by omega)
  | 0, i, m + 1, b0, b1, b2, b3, h, _ => by
    show midrangelaw03_TaggedBack.r11 n (midrangelaw03_TaggedBack.l n m).1 (midrangelaw03_TaggedBack.l n m).2.1 (midrangelaw03_TaggedBack.l n m).2.2.1 (midrangelaw03_TaggedBack.l n m).2.2.2.1 (midrangelaw03_TaggedBack.l n m).2.2.2.2 some (bs T) (i : Nat) (bs l) (Bl ts) a0 a1 a2 a3 b0 b1 b2 b3 = _
    unfold midrangelaw03_TaggedBack.r11
    simp only [bl_length]
    rw [cond_f (by omega)]
    exact dumped hn hl ht hok T hT _
  | d + 1, i, m + 1, b0, b1, b2, b3, h, hm => by
    have hi : i < ts.length := by omega
    have e1 : IntKind.i64.wrap ((i : Int) * 16) = ((16 * i : Nat) : Int) := by rw [w64] <;> omega
    obtain ⟨l', ts', h1, h2, h3⟩ := storeLoad_eq hn hl ht hok hc hp i hi
    show midrangelaw03_TaggedBack.r11 n (midrangelaw03_TaggedBack.l n m).1 (midrangelaw03_TaggedBack.l n m).2.1 (midrangelaw03_TaggedBack.l n m).2.2.1 (midrangelaw03_TaggedBack.l n m).2.2.2.1 (midrangelaw03_TaggedBack.l n m).2.2.2.2 some (bs T) (i : Nat) (bs l) (Bl ts) a0 a1 a2 a3 b0 b1 b2 b3 = _
    unfold midrangelaw03_TaggedBack.r11
    simp only [bl_length, e1]
    rw [cond_t (by omega), own_eq n (bs l) ts (by omega)]
    simp only [Option.bind_some]
    rw [h2]
    simp only [Option.bind_some]
    rw [own_eq n (bs l') ts' (by omega)]
    simp only [Option.bind_some]
    rw [h3]
    simp only [Option.bind_some, bne_self_eq_false, cond_false, BEq.rfl, Bool.and_self, Bool.not_true]
    rw [wsucc (by omega)]
    exact back_l hn hl ht hok T hT hc hp d (i + 1) m a0 a1 a2 a3 (by omega) (by omega)
/-- P3.9. -/
theorem back_law (hn : 1000002 ≤ n) (s : ByteArray) (ts : List Bool) (a0 a1 a2 a3 : Int) (T : ByteArray) : midrangelaw03_TaggedBack.F n s (Bl ts) a0 a1 a2 a3 T = some true := by
  obtain ⟨l, rfl⟩ : ∃ l, s = bs l := ⟨s.data.toList, bs_of s⟩
  obtain ⟨T, rfl⟩ : ∃ l, T = bs l := ⟨T.data.toList, bs_of T⟩
  obtain ⟨m, hm⟩ : ∃ m, n = m + 1 := ⟨n - 1, by omega⟩
  have c4 : (midrangelaw03_TaggedBack.l n n).1 () = some true := by rw [hm]; rfl
  unfold midrangelaw03_TaggedBack.F midrangelaw03_TaggedBack.e
  rw [awake_eq hn, few_eq]
  simp only [Option.bind_some, Bool.not_true, cond_false, c4]
  cases hf : (decide ((bs l).size ≤ 1072) && decide (ts.length ≤ 67)) with
  | false => rfl
  | true =>
    simp only [Bool.and_eq_true, decide_eq_true_eq] at hf
    obtain ⟨hs, hl⟩ := hf
    simp only [Bool.not_true, cond_false]
    rw [show (bs T).size = T.length from rfl]
    by_cases h0 : T.length > 6000
    · rw [cond_t (by omega)]
    · rw [cond_f (by omega)]
      obtain ⟨r, r1, r2, r3⟩ := checkS_eq (n := n) (by omega) (bs l) ts hs
      rw [err_eq r2]
      simp only [Option.bind_some]
      cases he : (r.2 != 0) with
      | true => rfl
      | false =>
        have he0 : r.2 = 0 := by simpa using he
        obtain ⟨q1, q2, _, q4⟩ := r3 he0
        have q1 : l.length = 16 * ts.length := q1
        have hok : okT n l ts := okT_of (by omega) q4
        obtain ⟨c, c1, c2, c3⟩ := check_eq (n := n) (by omega) a0 a1 a2 a3
        rw [c2]
        simp only [Option.bind_some, cond_false]
        by_cases hc : c = 0
        · subst hc
          obtain ⟨g0, g1, g2, g3⟩ := c3 rfl
          have hp := pointerIn_bytes (n := n) (by omega) c1 g0 g1 g2 g3
          have hpb : tagged_PointerBytes.F n a0 a1 a2 a3 = some (bs (bytesOf a0 a1 a2 a3), 0) := by
            unfold tagged_PointerBytes.F tagged_PointerBytes.e
            rw [c1, encoded_eq hn]
            rfl
          rw [hpb]
          simp only [BEq.rfl, cond_true, Option.bind_some]
          rw [hp]
          simp only [Option.bind_some, bne_self_eq_false, cond_false, BEq.rfl, Bool.and_self, Bool.not_true]
          exact back_l hn q1 q2 hok T (by omega) c1 hp ts.length 0 n _ _ _ _ (by omega) (by omega)
        · have : (c == 0) = false := by rw [beq_eq_false_iff_ne]; exact hc
          rw [this, cond_false]
          exact dumped hn q1 q2 hok T (by omega) _
end
end Go.Proofs.YtgmpnhfnkhohiaaGreatDoor.Ev
