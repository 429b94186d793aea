/- The types of chapter 25, on: what the reference reads. -/
import Derived.Test.YtmpglmcjoelciaaGreatDoorDTa

namespace Go.Proofs.YtmpglmcjoelciaaGreatDoor.Ev
open Go Go.Proofs Go.Proofs.Ev
set_option linter.unusedVariables false
theorem isDigit_eq (n : Nat) (c : UInt8) : midrangebase_IsDigit.F n ((c.toNat : Nat) : Int) = some (isD c) := by
  unfold midrangebase_IsDigit.F midrangebase_IsDigit.e isD
  by_cases h : 48 ≤ c.toNat
  · rw [cond_t (by omega)]
    have : decide (((c.toNat : Nat) : Int) ≤ 57) = decide (c.toNat ≤ 57) := by rw [decide_eq_decide]; omega
    rw [this]
    simp [h]
  · rw [cond_f (by omega)]
    simp [h]
theorem numberOf_l (n : Nat) (l : List UInt8) (hl : l.length ≤ 15) (b : Bool) : ∀ (d i m v : Nat), i + d = l.length → d < m → v < 10 ^ i →
    (midrangebase_NumberOf.l n m).2.2 (bs l) b (v : Int) i = some (if (l.drop i).all isD then ((if b then -(valA v (l.drop i) : Int) else (valA v (l.drop i) : Int)), true) else (0, false))
  | _, _, 0, _, _, h, _ => absurd h (by omega)
  | 0, i, m + 1, v, h, _, hv => by
    have hp : 10 ^ i ≤ 10 ^ 15 := Nat.pow_le_pow_right (by omega) (by omega)
    show midrangebase_NumberOf.r8 n (midrangebase_NumberOf.l n m).1 (midrangebase_NumberOf.l n m).2.1 (midrangebase_NumberOf.l n m).2.2 some _ _ _ _ = _
    unfold midrangebase_NumberOf.r8
    simp only [bs_size]
    rw [cond_f (by omega), List.drop_of_length_le (by omega)]
    cases b with
    | false => rfl
    | true =>
      rw [cond_true, w64 (by omega) (by omega)]
      simp [valA]
  | d + 1, i, m + 1, v, h, hm, hv => by
    have hi : i < l.length := by omega
    have hp : 10 ^ i ≤ 10 ^ 14 := Nat.pow_le_pow_right (by omega) (by omega)
    show midrangebase_NumberOf.r8 n (midrangebase_NumberOf.l n m).1 (midrangebase_NumberOf.l n m).2.1 (midrangebase_NumberOf.l n m).2.2 some _ _ _ _ = _
    unfold midrangebase_NumberOf.r8
    simp only [bs_size, within_t hi, Int.toNat_natCast, getD_at hi, isDigit_eq, Option.bind_some, cond_true]
    rw [cond_t (by omega), List.drop_eq_getElem_cons hi, List.all_cons, valA_cons]
    cases hd : isD l[i] with
    | false => rfl
    | true =>
      have hdi := (isD_iff _).1 hd
      rw [Bool.not_true, cond_false, Bool.true_and]
      have e1 : IntKind.i64.wrap (IntKind.i64.wrap ((v : Int) * 10) + IntKind.i64.wrap (IntKind.u8.wrap (((l[i].toNat : Nat) : Int) - 48))) = ((v * 10 + (l[i].toNat - 48) : Nat) : Int) := by
        rw [w8]
        have : (((l[i].toNat : Nat) : Int) - 48) % 256 = ((l[i].toNat - 48 : Nat) : Int) := by omega
        rw [this, w64 (x := (v : Int) * 10) (by omega) (by omega), w64 (x := ((l[i].toNat - 48 : Nat) : Int)) (by omega) (by omega), w64 (by omega) (by omega)]
        omega
      rw [e1, wsucc (by omega)]
      exact numberOf_l n l hl b d (i + 1) m _ (by omega) (by omega) (by rw [Nat.pow_succ]; omega)
/-- A text of at most three characters that does not begin with a sign. -/
theorem numberOf_eq {n : Nat} (hn : 100 ≤ n) (l : List UInt8) (hl : l.length ≤ 3) (h45 : l.getD 0 0 ≠ 45) : midrangebase_NumberOf.F n (bs l) = some (if num3 l then ((valD l : Int), true) else (0, false)) := by
  obtain ⟨m, rfl⟩ : ∃ m, n = m + 1 := ⟨n - 1, by omega⟩
  have h4 : (midrangebase_NumberOf.l (m + 1) (m + 1)).1 (bs l) false = some (if num3 l then ((valD l : Int), true) else (0, false)) := by
    show midrangebase_NumberOf.r4 (m + 1) (midrangebase_NumberOf.l (m + 1) m).1 (midrangebase_NumberOf.l (m + 1) m).2.1 (midrangebase_NumberOf.l (m + 1) m).2.2 some _ _ = _
    obtain ⟨m', rfl⟩ : ∃ m', m = m' + 1 := ⟨m - 1, by omega⟩
    have h5 : (midrangebase_NumberOf.l (m' + 1 + 1) (m' + 1)).2.1 () = some (0, false) := rfl
    unfold midrangebase_NumberOf.r4
    simp only [Within_eq, Option.bind_some, bs_size]
    by_cases h0 : l.length = 0
    · have : (!decide (1 ≤ ((l.length : Nat) : Int) ∧ ((l.length : Nat) : Int) ≤ 15)) = true := by simp; omega
      have hnum : num3 l = false := by rw [← Bool.not_eq_true, num3_iff]; rintro ⟨h1, _⟩; omega
      rw [this, cond_true, h5, hnum]
      rfl
    · have : (!decide (1 ≤ ((l.length : Nat) : Int) ∧ ((l.length : Nat) : Int) ≤ 15)) = false := by simp; omega
      have hpos : 0 < l.length := by omega
      have e0 : l.getD 0 0 = l[0] := by simp [List.getD_eq_getElem?_getD, hpos]
      rw [this, cond_false, cond_t (by omega)]
      simp only [getD_at hpos]
      have h8 := numberOf_l (m' + 1 + 1) l (by omega) false l.length 0 (m' + 1) 0 (by omega) (by omega) (by omega)
      rw [List.drop_zero] at h8
      simp only [Bool.false_eq_true, if_false] at h8
      have loop : ¬ (1 < l.length ∧ l.getD 0 0 = 48) → (midrangebase_NumberOf.l (m' + 1 + 1) (m' + 1)).2.2 (bs l) false 0 0 = some (if num3 l then ((valD l : Int), true) else (0, false)) := by
        intro hz
        rw [show (0 : Int) = ((0 : Nat) : Int) from rfl, h8]
        cases hall : l.all isD with
        | true =>
          have : num3 l = true := (num3_iff l).2 ⟨by omega, hl, hall, hz⟩
          rw [this]
          rfl
        | false =>
          have : num3 l = false := by rw [← Bool.not_eq_true, num3_iff, hall]; rintro ⟨_, _, h, _⟩; cases h
          rw [this]
          rfl
      by_cases h48 : l[0].toNat = 48
      · have : ((((l[0].toNat : Nat) : Int)) == 48) = true := by rw [h48]; rfl
        rw [this, cond_true, cond_false]
        by_cases h1 : l.length > 1
        · rw [cond_t (by omega), h5]
          have : num3 l = false := by
            rw [← Bool.not_eq_true, num3_iff]
            rintro ⟨_, _, _, h4⟩
            exact h4 ⟨h1, by rw [e0]; exact UInt8.toNat_inj.1 h48⟩
          rw [this]
          rfl
        · rw [cond_f (by omega)]
          exact loop (fun ⟨h, _⟩ => h1 h)
      · have : ((((l[0].toNat : Nat) : Int)) == 48) = false := by rw [beq_eq_false_iff_ne]; omega
        rw [this, cond_false]
        refine loop fun ⟨_, e⟩ => h48 ?_
        rw [e0] at e
        rw [e]
        rfl
  unfold midrangebase_NumberOf.F midrangebase_NumberOf.e
  simp only [bs_size]
  by_cases h0 : l.length > 0
  · rw [cond_t (by omega), cond_t (by omega)]
    simp only [getD_at h0]
    have e0 : l.getD 0 0 = l[0] := by simp [List.getD_eq_getElem?_getD, h0]
    have : ((((l[0].toNat : Nat) : Int)) == 45) = false := by
      rw [beq_eq_false_iff_ne]
      intro e
      apply h45
      rw [e0]
      apply UInt8.toNat_inj.1
      show l[0].toNat = 45
      omega
    rw [this, cond_false]
    exact h4
  · rw [cond_f (by omega)]
    exact h4
theorem small_eq {n : Nat} (hn : 100 ≤ n) (l : List UInt8) : midrangeref25_small.F n (bs l) = some (if num3 l then ((valD l : Int), true) else (0, false)) := by
  unfold midrangeref25_small.F midrangeref25_small.e
  simp only [bs_size]
  by_cases h3 : l.length > 3
  · rw [cond_t (by omega)]
    have : num3 l = false := by rw [← Bool.not_eq_true, num3_iff]; rintro ⟨_, h, _⟩; omega
    rw [this]
    rfl
  · rw [cond_f (by omega)]
    by_cases h0 : l.length > 0
    · rw [cond_t (by omega), cond_t (by omega)]
      simp only [getD_at h0]
      have e0 : l.getD 0 0 = l[0] := by simp [List.getD_eq_getElem?_getD, h0]
      by_cases h45 : l[0].toNat = 45
      · have : ((((l[0].toNat : Nat) : Int)) == 45) = true := by rw [h45]; rfl
        rw [this, cond_true]
        have : num3 l = false := by
          rw [← Bool.not_eq_true, num3_iff]
          rintro ⟨_, _, h, _⟩
          have := (isD_iff _).1 (List.all_eq_true.1 h l[0] (List.getElem_mem _))
          omega
        rw [this]
        rfl
      · have : ((((l[0].toNat : Nat) : Int)) == 45) = false := by rw [beq_eq_false_iff_ne]; omega
        rw [this, cond_false, numberOf_eq hn l (by omega) (by rw [e0]; intro e; exact h45 (by rw [e]; rfl))]
        rfl
    · rw [cond_f (by omega), numberOf_eq hn l (by omega) (by have : l = [] := List.length_eq_zero_iff.1 (by omega); subst this; decide)]
      rfl
/-- What is read where the first letter is at a place. -/
def formAt (l : List UInt8) (i : Nat) (k : Int) : Int × Int × Int × Bool :=
  let p := if num3 (l.take i) then ((valD (l.take i) : Int), true) else (0, false)
  let q := if num3 (l.drop (i + 1)) then ((valD (l.drop (i + 1)) : Int), true) else (0, false)
  if k = 0 then (if p.2 then (0, p.1, 0, decide (i + 1 = l.length)) else (0, p.1, 0, false))
  else (if p.2 then (k, p.1, q.1, q.2) else (k, p.1, q.1, false))
theorem letter_at (k : Nat) (h : k < 4) : ((((⟨#[65, 80, 83, 66]⟩ : ByteArray).data.getD k 0).toNat : Nat) : Int) = (([65, 80, 83, 66] : List Nat).getD k 0 : Nat) := by
  have : ∀ k : Fin 4, ((((⟨#[65, 80, 83, 66]⟩ : ByteArray).data.getD k.1 0).toNat : Nat) : Int) = (([65, 80, 83, 66] : List Nat).getD k.1 0 : Nat) := by decide +kernel
  exact this ⟨k, h⟩
theorem form_last {n : Nat} (hn : 100 ≤ n) (l : List UInt8) (hl : l.length ≤ 100000) (i : Nat) (hi : i < l.length) (k : Nat) (hk : k < 4) (c2 : ByteArray → Int → Int → Int → Int → Option (Int × Int × Int × Bool))
    (c5 : ByteArray → Int → Int → Int → Int → Int → Option (Int × Int × Int × Bool)) (z4 z5 z6 : Int) :
    midrangeref25_TypeForm.r5 n c2 c5 some (bs l) i k z4 z5 z6 = if l[i].toNat = ([65, 80, 83, 66] : List Nat).getD k 0 then some (formAt l i k) else c5 (bs l) i ((k + 1 : Nat) : Int) z4 z5 z6 := by
  unfold midrangeref25_TypeForm.r5
  have e4 : (decide ((0 : Int) ≤ (k : Int)) && decide ((k : Int) < ((4 : Nat) : Int))) = true := within_t hk
  simp only [bs_size, within_t hi, Int.toNat_natCast, getD_at hi, cond_true, e4, letter_at k hk]
  rw [cond_t (by omega)]
  by_cases hc : l[i].toNat = ([65, 80, 83, 66] : List Nat).getD k 0
  · have : ((((l[i].toNat : Nat) : Int)) != ((([65, 80, 83, 66] : List Nat).getD k 0 : Nat) : Int)) = false := by rw [hc]; simp
    rw [this, cond_false, if_pos hc]
    have ek : midrangeref25_kinds.F n = some [vi 0, vi 1, vi 2, vi 3] := rfl
    rw [ek, Option.bind_some]
    have e5 : (decide ((0 : Int) ≤ (k : Int)) && decide ((k : Int) < (([vi 0, vi 1, vi 2, vi 3].length : Nat) : Int))) = true := within_t hk
    rw [e5, cond_true]
    have e6 : ([vi 0, vi 1, vi 2, vi 3] : List AV).getD k .undef = vi k := by
      have : k = 0 ∨ k = 1 ∨ k = 2 ∨ k = 3 := by omega
      rcases this with rfl | rfl | rfl | rfl <;> rfl
    rw [e6]
    show (bif decide ((0 : Int) ≤ (i : Int)) && decide ((i : Int) ≤ ((l.length : Nat) : Int)) then _ else none) = _
    rw [upto_t (by omega), cond_true, bs_take, small_eq hn, Option.bind_some, wsucc (by omega), Int.toNat_natCast]
    have e7 : (bs l).extract (i + 1) l.length = bs (l.drop (i + 1)) := by
      have := bs_drop l (i + 1)
      rwa [bs_size] at this
    rw [e7, upto_t (by omega), cond_true, small_eq hn, Option.bind_some, w64 (x := ((l.length : Nat) : Int) - 1) (by omega) (by omega)]
    unfold formAt
    have e8 : ((i : Int) == ((l.length : Nat) : Int) - 1) = decide (i + 1 = l.length) := by rw [beq_int, decide_eq_decide]; omega
    simp only [e8, beq_int]
    by_cases h0 : k = 0
    · subst h0
      simp only [show (((0 : Nat) : Int) = 0) = True from by simp, if_true, decide_true, cond_true]
      cases num3 (l.take i) <;> rfl
    · simp only [show (((k : Nat) : Int) = 0) = False from by simp; omega, if_false, decide_false, cond_false]
      cases num3 (l.take i) <;> rfl
  · have : ((((l[i].toNat : Nat) : Int)) != ((([65, 80, 83, 66] : List Nat).getD k 0 : Nat) : Int)) = true := by rw [bne_iff_ne]; omega
    rw [this, cond_true, if_neg hc, wsucc (by omega)]
theorem form_in {n : Nat} (hn : 100 ≤ n) (l : List UInt8) (hl : l.length ≤ 100000) (i : Nat) (hi : i < l.length) (m : Nat) (z4 z5 z6 : Int) :
    (midrangeref25_TypeForm.l n (m + 5)).2 (bs l) i 0 z4 z5 z6 = if kd l[i] < 0 then (midrangeref25_TypeForm.l n m).1 (bs l) ((i + 1 : Nat) : Int) z4 z5 z6 else some (formAt l i (kd l[i])) := by
  have st : ∀ (m k : Nat), k < 4 → (midrangeref25_TypeForm.l n (m + 1)).2 (bs l) i (k : Int) z4 z5 z6 = if l[i].toNat = ([65, 80, 83, 66] : List Nat).getD k 0 then some (formAt l i k) else (midrangeref25_TypeForm.l n m).2 (bs l) i ((k + 1 : Nat) : Int) z4 z5 z6 :=
    fun m k hk => form_last hn l hl i hi k hk _ _ z4 z5 z6
  have en : (midrangeref25_TypeForm.l n (m + 1)).2 (bs l) i ((4 : Nat) : Int) z4 z5 z6 = (midrangeref25_TypeForm.l n m).1 (bs l) ((i + 1 : Nat) : Int) z4 z5 z6 := by
    show midrangeref25_TypeForm.r5 n (midrangeref25_TypeForm.l n m).1 (midrangeref25_TypeForm.l n m).2 some (bs l) i ((4 : Nat) : Int) z4 z5 z6 = _
    unfold midrangeref25_TypeForm.r5
    rw [cond_f (by omega), wsucc (by omega)]
  have h0 := st (m + 4) 0 (by omega)
  have h1 := st (m + 3) 1 (by omega)
  have h2 := st (m + 2) 2 (by omega)
  have h3 := st (m + 1) 3 (by omega)
  simp only [List.getD_cons_zero, List.getD_cons_succ] at h0 h1 h2 h3
  show (midrangeref25_TypeForm.l n (m + 4 + 1)).2 (bs l) i ((0 : Nat) : Int) z4 z5 z6 = _
  rw [h0, h1, h2, h3, en, kd_eq]
  have c65 : l[i].toNat = 65 ↔ l[i] = 65 := ⟨fun h => UInt8.toNat_inj.1 h, fun h => by rw [h]; rfl⟩
  have c80 : l[i].toNat = 80 ↔ l[i] = 80 := ⟨fun h => UInt8.toNat_inj.1 h, fun h => by rw [h]; rfl⟩
  have c83 : l[i].toNat = 83 ↔ l[i] = 83 := ⟨fun h => UInt8.toNat_inj.1 h, fun h => by rw [h]; rfl⟩
  have c66 : l[i].toNat = 66 ↔ l[i] = 66 := ⟨fun h => UInt8.toNat_inj.1 h, fun h => by rw [h]; rfl⟩
  simp only [c65, c80, c83, c66]
  by_cases a0 : l[i] = 65
  · simp only [a0, if_true]; rfl
  · by_cases a1 : l[i] = 80
    · simp only [a1, if_true]; rfl
    · by_cases a2 : l[i] = 83
      · simp only [a2, if_true]; rfl
      · by_cases a3 : l[i] = 66
        · simp only [a3, if_true]; rfl
        · simp only [a0, a1, a2, a3, if_false]; rfl
/-- The place of the first letter among the first four characters. -/
theorem form_l {n : Nat} (hn : 100 ≤ n) (l : List UInt8) (hl : l.length ≤ 100000) (z4 z5 z6 : Int) : ∀ (d i m : Nat), i + d = 4 → (∀ j, (hj : j < l.length) → j < i → kd l[j] < 0) →
    ∃ x, (midrangeref25_TypeForm.l n (m + 6 * d + 1)).1 (bs l) i z4 z5 z6 = some x ∧
      ((∃ j, ∃ hj : j < l.length, j < 4 ∧ 0 ≤ kd l[j] ∧ (∀ q, (hq : q < l.length) → q < j → kd l[q] < 0) ∧ x = formAt l j (kd l[j])) ∨ ((∀ j, (hj : j < l.length) → j < 4 → kd l[j] < 0) ∧ x = (0, 0, 0, false)))
  | 0, i, m, h, hno => by
    refine ⟨(0, 0, 0, false), ?_, .inr ⟨fun j hj h4 => hno j hj (by omega), rfl⟩⟩
    show midrangeref25_TypeForm.r2 n (midrangeref25_TypeForm.l n (m + 6 * 0)).1 (midrangeref25_TypeForm.l n (m + 6 * 0)).2 some _ _ _ _ _ = _
    unfold midrangeref25_TypeForm.r2
    simp only [bs_size]
    by_cases h1 : i < l.length
    · rw [cond_t (by omega), cond_f (by omega)]
    · rw [cond_f (by omega)]
  | d + 1, i, m, h, hno => by
    by_cases h1 : i < l.length
    · have e : (midrangeref25_TypeForm.l n (m + 6 * (d + 1) + 1)).1 (bs l) i z4 z5 z6 = (midrangeref25_TypeForm.l n (m + 6 * d + 1 + 5)).2 (bs l) i 0 z4 z5 z6 := by
        show midrangeref25_TypeForm.r2 n (midrangeref25_TypeForm.l n (m + 6 * (d + 1))).1 (midrangeref25_TypeForm.l n (m + 6 * (d + 1))).2 some _ _ _ _ _ = _
        unfold midrangeref25_TypeForm.r2
        simp only [bs_size]
        rw [cond_t (by omega), cond_t (by omega), show m + 6 * (d + 1) = m + 6 * d + 1 + 5 by omega]
      rw [e, form_in hn l hl i h1]
      by_cases hk : kd l[i] < 0
      · rw [if_pos hk]
        exact form_l hn l hl z4 z5 z6 d (i + 1) m (by omega) (fun j hj hji => by
          by_cases hjj : j = i
          · subst hjj; exact hk
          · exact hno j hj (by omega))
      · rw [if_neg hk]
        exact ⟨_, rfl, .inl ⟨i, h1, by omega, by omega, hno, rfl⟩⟩
    · refine ⟨(0, 0, 0, false), ?_, .inr ⟨fun j hj h4 => hno j hj (by omega), rfl⟩⟩
      show midrangeref25_TypeForm.r2 n (midrangeref25_TypeForm.l n (m + 6 * (d + 1))).1 (midrangeref25_TypeForm.l n (m + 6 * (d + 1))).2 some _ _ _ _ _ = _
      unfold midrangeref25_TypeForm.r2
      simp only [bs_size]
      rw [cond_f (by omega)]
theorem typeForm_eq {n : Nat} (hn : 200000 ≤ n) (l : List UInt8) (hl : l.length ≤ 100000) : ∃ x, midrangeref25_TypeForm.F n (bs l) = some x ∧ x.2.2.2 = (typeP l).isSome ∧ ∀ t, typeP l = some t → x = (t.1, t.2.1, t.2.2, true) := by
  unfold midrangeref25_TypeForm.F midrangeref25_TypeForm.e
  obtain ⟨x, h1, h2⟩ := form_l (n := n) (by omega) l hl 0 0 0 4 0 (n - 25) (by omega) (fun j _ h => absurd h (by omega))
  rw [show n - 25 + 6 * 4 + 1 = n by omega] at h1
  refine ⟨x, h1, ?_⟩
  have hle := lead_le l
  rcases h2 with ⟨j, hj, h4, hk, hbef, rfl⟩ | ⟨hno, rfl⟩
  · -- the first letter is at j
    have hdj : isD l[j] = false := by
      rw [← Bool.not_eq_true]
      intro hd
      rw [kd_digit hd] at hk
      omega
    have hlj : lead l ≤ j := by
      rcases Nat.lt_or_ge j (lead l) with h | h
      · have := lead_dig h; rw [hdj] at this; cases this
      · exact h
    by_cases he : lead l = j
    · have hdrop : l.drop (lead l) = l[j] :: l.drop (j + 1) := by rw [he]; exact List.drop_eq_getElem_cons hj
      have hlen : (l.drop (j + 1) = []) ↔ j + 1 = l.length := by rw [List.drop_eq_nil_iff]; omega
      unfold typeP formAt
      rw [hdrop, he]
      cases hnum : num3 (l.take j) with
      | false =>
        refine ⟨?_, by intro t ht; cases ht⟩
        by_cases h0 : kd l[j] = 0 <;> simp [h0]
      | true =>
        simp only [if_true]
        by_cases h0 : kd l[j] = 0
        · rw [if_pos h0, if_pos h0]
          by_cases hlast : j + 1 = l.length
          · rw [if_pos (hlen.2 hlast)]
            refine ⟨by simp [hlast], fun t ht => ?_⟩
            cases ht
            simp [hlast]
          · rw [if_neg (fun h => hlast (hlen.1 h))]
            exact ⟨by simp [hlast], by intro t ht; cases ht⟩
        · have hk2 : ¬ kd l[j] < 0 := by omega
          simp only [h0, hk2, if_false]
          cases h3 : num3 (l.drop (j + 1)) with
          | false => exact ⟨rfl, by intro t ht; cases ht⟩
          | true => exact ⟨rfl, by intro t ht; cases ht; rfl⟩
    · -- a character before it that is no digit
      have hlt : lead l < j := by omega
      have hbad : num3 (l.take j) = false := by
        rw [← Bool.not_eq_true, num3_iff]
        rintro ⟨_, _, hall, _⟩
        have hm : l[lead l]'(by omega) ∈ l.take j := by rw [List.mem_take_iff_getElem]; exact ⟨lead l, by omega, rfl⟩
        have h5 := lead_end (l := l) (by omega)
        have h6 := List.all_eq_true.1 hall _ hm
        rw [h5] at h6
        cases h6
      have hnone : typeP l = none := by
        unfold typeP
        split
        · rw [List.drop_eq_getElem_cons (show lead l < l.length by omega)]
          have hk' := hbef (lead l) (by omega) hlt
          simp only
          rw [if_neg (by omega), if_pos hk']
        · rfl
      rw [hnone]
      refine ⟨?_, by intro t ht; cases ht⟩
      unfold formAt
      rw [hbad]
      by_cases h0 : kd l[j] = 0 <;> simp [h0]
  · have hnone : typeP l = none := by
      unfold typeP
      split
      · rename_i hnum
        obtain ⟨_, h3, _⟩ := (num3_iff _).1 hnum
        rw [List.length_take, Nat.min_eq_left hle] at h3
        cases hd : l.drop (lead l) with
        | nil => rfl
        | cons c r =>
          have hlt : lead l < l.length := by
            rcases Nat.lt_or_ge (lead l) l.length with h | h
            · exact h
            · rw [List.drop_of_length_le h] at hd; cases hd
          have e := List.drop_eq_getElem_cons hlt
          rw [hd] at e
          injection e with e1 e2
          have := hno (lead l) hlt (by omega)
          rw [← e1] at this
          simp only
          rw [if_neg (by omega), if_pos this]
      · rfl
    rw [hnone]
    exact ⟨rfl, by intro t ht; cases ht⟩
end Go.Proofs.YtmpglmcjoelciaaGreatDoor.Ev

/- P25.1, types: the type with a text and the text of a type are as specified. -/
namespace Go.Proofs.YtmpglmcjoelciaaGreatDoor.Ev
open Go Go.Proofs Go.Proofs.Ev
set_option linter.unusedVariables false
theorem dec1 {k : Nat} (h : k < 10) : Lib.decDigits k = [UInt8.ofNat (48 + k)] := by rw [Lib.decDigits, dif_pos h]
theorem decS {k : Nat} (h : ¬ k < 10) : Lib.decDigits k = Lib.decDigits (k / 10) ++ [UInt8.ofNat (48 + k % 10)] := by rw [Lib.decDigits, dif_neg h]
theorem dec_len : ∀ (m k : Nat), k < 10 ^ (m + 1) → 1 ≤ (Lib.decDigits k).length ∧ (Lib.decDigits k).length ≤ m + 1
  | m, k, h => by
    by_cases h1 : k < 10
    · rw [dec1 h1]; simp
    · rw [decS h1]
      cases m with
      | zero => omega
      | succ m =>
        have := dec_len m (k / 10) (by rw [Nat.pow_succ] at h; omega)
        simp only [List.length_append, List.length_cons, List.length_nil]
        omega
theorem small_digit (k : Nat) (h : k < 10) : strOf [vu (IntKind.u8.wrap (IntKind.i64.wrap (48 + (k : Int))))] = some [UInt8.ofNat (48 + k)] := by
  have : ∀ k : Fin 10, strOf [vu (IntKind.u8.wrap (IntKind.i64.wrap (48 + ((k.1 : Nat) : Int))))] = some [UInt8.ofNat (48 + k.1)] := by decide +kernel
  exact this ⟨k, h⟩
theorem digits_eq {n : Nat} (hn : 20 ≤ n) (k : Nat) (h : k < 10 ^ 18) : midrangebase_Digits.F n k = some (bs (Lib.decDigits k)) := by
  obtain ⟨m, rfl⟩ : ∃ m, n = m + 18 := ⟨n - 18, by omega⟩
  unfold midrangebase_Digits.F
  have : ∀ (q j : Nat) (k : Nat), k < 10 ^ (j + 1) → j ≤ 17 → midrangebase_Digits.D (m + 18) (j + 1 + q) k = some (bs (Lib.decDigits k)) := by
    intro q j
    induction j with
    | zero =>
      intro k hk _
      have hk : k < 10 := by simpa using hk
      rw [show 0 + 1 + q = q + 1 by omega]
      show midrangebase_Digits.e _ _ some _ = _
      unfold midrangebase_Digits.e
      rw [cond_f (by omega), cond_f (by omega), cond_t (by omega)]
      simp only [small_digit k hk]
      rw [dec1 hk]
      rfl
    | succ j ih =>
      intro k hk hj
      have hp : 10 ^ (j + 1 + 1) ≤ 10 ^ 18 := Nat.pow_le_pow_right (by omega) (by omega)
      rw [show j + 1 + 1 + q = (j + 1 + q) + 1 by omega]
      show midrangebase_Digits.e _ (midrangebase_Digits.D (m + 18) (j + 1 + q)) some _ = _
      unfold midrangebase_Digits.e
      rw [cond_f (by omega), cond_f (by omega)]
      by_cases h1 : k < 10
      · rw [cond_t (by omega)]
        simp only [small_digit k h1]
        rw [dec1 h1]
        rfl
      · rw [cond_f (by omega)]
        have e1 : IntKind.i64.wrap (Int.tdiv (k : Int) 10) = ((k / 10 : Nat) : Int) := by rw [Int.tdiv_eq_ediv_of_nonneg (by omega), w64] <;> omega
        have e2 : Int.tmod (k : Int) 10 = ((k % 10 : Nat) : Int) := by rw [Int.tmod_eq_emod_of_nonneg (by omega)]; omega
        have hk' : k / 10 < 10 ^ (j + 1) := by rw [Nat.pow_succ] at hk; omega
        have hl := dec_len j (k / 10) hk'
        simp only [e1, e2, small_digit (k % 10) (by omega)]
        rw [ih (k / 10) hk' (by omega), Option.bind_some]
        simp only [withSome]
        rw [chk_t (by rw [bs_size, bs_size]; simp; omega), bs_append, ← decS h1]
  have h2 := this m 17 k h (by omega)
  rw [show 17 + 1 + m = m + 18 by omega] at h2
  exact h2
theorem itoa_eq (n k : Nat) (h : k < 10 ^ 18) : strconv_Itoa.F n k = some (bs (Lib.decDigits k)) := by
  unfold strconv_Itoa.F
  have : (decide ((-9223372036854775808 : Int) ≤ (k : Int)) && decide ((k : Int) ≤ 9223372036854775807)) = true := by rw [Bool.and_eq_true, decide_eq_true_eq, decide_eq_true_eq]; omega
  rw [this, cond_true, Lib.itoa, if_neg (by omega), Int.toNat_natCast]
/-- The letter of a kind. -/
def ltr (k : Int) : UInt8 := if k = 0 then 65 else if k = 1 then 80 else if k = 2 then 83 else 66
/-- The text of a right type. -/
def tText (k a b : Int) : List UInt8 := Lib.decDigits a.toNat ++ ([ltr k] ++ (if k = 0 then [] else Lib.decDigits b.toNat))
/-- What is right of a type that has a text. -/
theorem chkT_ok {k a b : Int} (h : chkT k a b = 0) (h4 : k ≠ 4) : (k = 0 ∨ k = 1 ∨ k = 2 ∨ k = 3) ∧ 1 ≤ a ∧ a ≤ 256 ∧ 0 ≤ b ∧ b ≤ 15 ∧ (k = 0 → b = 0) := by
  unfold chkT at h
  split at h
  · split at h
    · cases h
    · split at h
      · cases h
      · omega
  · split at h
    · split at h
      · cases h
      · split at h
        · cases h
        · omega
    · split at h
      · split at h
        · cases h
        · split at h
          · cases h
          · omega
      · exact absurd h (by decide)
theorem ltr_ext (k : Int) (h : k = 0 ∨ k = 1 ∨ k = 2 ∨ k = 3) : (decide ((0 : Int) ≤ IntKind.i64.wrap (k + 1)) && decide ((IntKind.i64.wrap (k + 1) : Int) ≤ 4)) = true ∧
    (decide ((0 : Int) ≤ k) && decide (k ≤ IntKind.i64.wrap (k + 1))) = true ∧ (⟨#[65, 80, 83, 66]⟩ : ByteArray).extract k.toNat (IntKind.i64.wrap (k + 1)).toNat = bs [ltr k] := by
  rcases h with rfl | rfl | rfl | rfl <;> exact ⟨by decide, by decide, by rw [show (⟨#[65, 80, 83, 66]⟩ : ByteArray) = bs [65, 80, 83, 66] from rfl, bs_extract]; rfl⟩
theorem dec_small {a : Int} (h0 : 0 ≤ a) (h : a ≤ 256) : ∃ x : Nat, a = x ∧ x ≤ 256 ∧ (Lib.decDigits a.toNat).length ≤ 3 := by
  refine ⟨a.toNat, by omega, by omega, (dec_len 2 a.toNat (by omega)).2⟩
theorem typeText_eq {n : Nat} {k a b : Int} (hk : k = 0 ∨ k = 1 ∨ k = 2 ∨ k = 3) (ha : 0 ≤ a) (ha2 : a ≤ 256) (hb : 0 ≤ b) (hb2 : b ≤ 15) : dds_typeText.F n k a b = some (bs (tText k a b)) := by
  obtain ⟨x, rfl, hx, hxl⟩ := dec_small ha ha2
  obtain ⟨y, rfl, hy, hyl⟩ := dec_small hb (by omega)
  obtain ⟨e1, e2, e3⟩ := ltr_ext k hk
  rw [Int.toNat_natCast] at hxl hyl
  unfold dds_typeText.F dds_typeText.e
  rw [itoa_eq n x (by omega), Option.bind_some, e1, cond_true, e2, cond_true]
  simp only [e3]
  rw [chk_t (by rw [bs_size, bs_size]; simp; omega), bs_append]
  unfold tText
  rw [Int.toNat_natCast, Int.toNat_natCast, beq_int]
  by_cases h0 : k = 0
  · rw [cond_t h0, if_pos h0]; simp
  · rw [cond_f h0, if_neg h0, itoa_eq n y (by omega), Option.bind_some, chk_t (by rw [bs_size, bs_size]; simp; omega), bs_append, List.append_assoc]
/-- What FormatType hands back. -/
theorem formatType_eq {n : Nat} (hn : 1001 ≤ n) (k a b : Int) : dds_FormatType.F n k a b = some (if chkT k a b ≠ 0 then (bs [], chkT k a b) else if k = 4 then (bs [], 17) else (bs (tText k a b), 0)) := by
  unfold dds_FormatType.F dds_FormatType.e
  rw [check_eq hn, Option.bind_some, cond_eq, Option.bind_some, first2 hn, Option.bind_some]
  by_cases hc : chkT k a b = 0
  · by_cases h4 : k = 4
    · subst h4
      simp [hc]
    · obtain ⟨h1, h2, h3, h5, h6, _⟩ := chkT_ok hc h4
      have hb : (k == 4) = false := by rw [beq_int]; simp [h4]
      simp only [hc, hb, ne_eq, not_true_eq_false, if_false, Bool.false_eq_true, h4]
      show (bif (0 : Int) != 0 then _ else _) = _
      rw [show ((0 : Int) != 0) = false from rfl, cond_false, typeText_eq h1 (by omega) h3 h5 h6]
      rfl
  · have : (chkT k a b != 0) = true := by simp [hc]
    simp only [hc, ne_eq, not_false_eq_true, if_true, this, cond_true]
theorem typeTextR_l {n : Nat} (hn : 1001 ≤ n) (k : Nat) (hk : k < 4) {a b : Int} (ha : 0 ≤ a) (ha2 : a ≤ 256) (hb : 0 ≤ b) (hb2 : b ≤ 15) : ∀ (d i m : Nat), i + d = k → d < m →
    midrangeref25_TypeText.l n m i k a b = some (bs (tText k a b))
  | _, _, 0, _, h => absurd h (by omega)
  | d, i, m + 1, h, hm => by
    have ek : midrangeref25_kinds.F n = some [vi 0, vi 1, vi 2, vi 3] := rfl
    have hi : i < 4 := by omega
    have e5 : (decide ((0 : Int) ≤ (i : Int)) && decide ((i : Int) < (([vi 0, vi 1, vi 2, vi 3].length : Nat) : Int))) = true := within_t hi
    have e6 : ([vi 0, vi 1, vi 2, vi 3] : List AV).getD i .undef = vi i := by
      have : i = 0 ∨ i = 1 ∨ i = 2 ∨ i = 3 := by omega
      rcases this with rfl | rfl | rfl | rfl <;> rfl
    show midrangeref25_TypeText.r2 n (midrangeref25_TypeText.l n m) some (i : Int) (k : Int) a b = _
    unfold midrangeref25_TypeText.r2
    rw [cond_t (by omega), ek, Option.bind_some, e5, cond_true, Int.toNat_natCast, e6]
    show (bif ((i : Int) == (k : Int)) then _ else _) = _
    rw [beq_int]
    cases d with
    | zero =>
      have hik : i = k := by omega
      subst hik
      obtain ⟨x, rfl, hx, hxl⟩ := dec_small ha ha2
      obtain ⟨y, rfl, hy, hyl⟩ := dec_small hb (by omega)
      obtain ⟨e1, e2, e3⟩ := ltr_ext (i : Int) (by omega)
      rw [Int.toNat_natCast] at hxl hyl e3
      rw [cond_t rfl, digits_eq (by omega) x (by omega), Option.bind_some, e1, cond_true, e2, cond_true]
      simp only [e3]
      rw [chk_t (by rw [bs_size, bs_size]; simp; omega), bs_append]
      unfold tText
      rw [Int.toNat_natCast, Int.toNat_natCast]
      by_cases h0 : (i : Int) = 0
      · have : ((i : Int) != 0) = false := by simp [h0]
        rw [this, cond_false, if_pos h0]; simp
      · have : ((i : Int) != 0) = true := by simpa using h0
        rw [this, cond_true, if_neg h0, digits_eq (by omega) y (by omega), Option.bind_some, chk_t (by rw [bs_size, bs_size]; simp; omega), bs_append, List.append_assoc]
    | succ d =>
      rw [cond_f (by omega), wsucc (by omega)]
      exact typeTextR_l hn k hk ha ha2 hb hb2 d (i + 1) m (by omega) (by omega)
theorem typeTextR_eq {n : Nat} (hn : 1001 ≤ n) {k a b : Int} (hk : k = 0 ∨ k = 1 ∨ k = 2 ∨ k = 3) (ha : 0 ≤ a) (ha2 : a ≤ 256) (hb : 0 ≤ b) (hb2 : b ≤ 15) : midrangeref25_TypeText.F n k a b = some (bs (tText k a b)) := by
  obtain ⟨x, rfl⟩ := Int.eq_ofNat_of_zero_le (a := k) (by omega)
  unfold midrangeref25_TypeText.F midrangeref25_TypeText.e
  exact typeTextR_l hn x (by omega) ha ha2 hb hb2 x 0 n (by omega) (by omega)
theorem awake_eq (n : Nat) : midrangelaw25_awake.F n = some true := rfl
/-- P25.1: types. -/
theorem types_law {n : Nat} (hn : 1000002 ≤ n) (s : ByteArray) (k a b : Int) : midrangelaw25_DdsTypes.F n s k a b = some true := by
  obtain ⟨m, rfl⟩ : ∃ m, n = m + 2 := ⟨n - 2, by omega⟩
  have h16 : ∀ (q : Nat) (z1 : Int) (t : List UInt8) (z3 : Int), (midrangelaw25_DdsTypes.l (m + 2) (q + 1)).2.2 z1 (bs t) z3 k a b =
      (bif z1 != 0 then (bif z3 == z1 then some (t == []) else some false) else (bif z3 == 0 then ((midrangeref25_TypeText.F (m + 2) k a b).bind fun p13 => some (t == p13.toList)) else some false)) := by
    intro q z1 t z3
    show midrangelaw25_DdsTypes.r16 (m + 2) (midrangelaw25_DdsTypes.l (m + 2) q).1 (midrangelaw25_DdsTypes.l (m + 2) q).2.1 (midrangelaw25_DdsTypes.l (m + 2) q).2.2 some z1 (bs t) z3 k a b = _
    unfold midrangelaw25_DdsTypes.r16
    simp only [bs_toList]
  have h12 : (midrangelaw25_DdsTypes.l (m + 2) (m + 2)).2.1 k a b = some true := by
    show midrangelaw25_DdsTypes.r12 (m + 2) (midrangelaw25_DdsTypes.l (m + 2) (m + 1)).1 (midrangelaw25_DdsTypes.l (m + 2) (m + 1)).2.1 (midrangelaw25_DdsTypes.l (m + 2) (m + 1)).2.2 some k a b = _
    unfold midrangelaw25_DdsTypes.r12
    rw [formatType_eq (by omega), Option.bind_some, typeErr_eq (by omega), Option.bind_some]
    by_cases hc : chkT k a b = 0
    · rw [hc]
      simp only [ne_eq, not_true_eq_false, if_false, beq_self_eq_true, cond_true, beq_int]
      by_cases h4 : k = 4
      · rw [cond_t h4, if_pos h4, h16]
        rfl
      · obtain ⟨h1, h2, h3, h5, h6, _⟩ := chkT_ok hc h4
        rw [cond_f h4, if_neg h4, h16, typeTextR_eq (by omega) h1 (by omega) h3 h5 h6, Option.bind_some]
        simp only [bs_toList]
        simp
    · have : (chkT k a b == 0) = false := by simp [hc]
      rw [this, cond_false, if_pos hc, h16]
      have : (chkT k a b != 0) = true := by simp [hc]
      rw [this, cond_true]
      simp
  obtain ⟨l, rfl⟩ : ∃ l, s = bs l := ⟨s.data.toList, rfl⟩
  unfold midrangelaw25_DdsTypes.F midrangelaw25_DdsTypes.e
  rw [awake_eq, Option.bind_some]
  show (bif false then _ else _) = _
  rw [cond_false]
  simp only [bs_size]
  by_cases h3 : ((l.length : Nat) : Int) > 300
  · rw [cond_t h3]
  · rw [cond_f h3]
    obtain ⟨x, e1, e2, e3⟩ := typeForm_eq (n := m + 2) (by omega) l (by omega)
    rw [checkType_eq (by omega) l (by omega), Option.bind_some, e1, Option.bind_some, h12]
    cases ht : typeP l with
    | none =>
      rw [ht] at e2
      rw [e2]
      rfl
    | some t =>
      have := e3 t ht
      subst this
      simp only [cond_true]
      rw [typeErr_eq (by omega), Option.bind_some]
      by_cases hc : chkT t.1 t.2.1 t.2.2 = 0
      · simp [hc]
      · have h0 : (chkT t.1 t.2.1 t.2.2 != 0) = true := by simp [hc]
        have h1 : (chkT t.1 t.2.1 t.2.2 == 0) = false := by simp [hc]
        simp only [hc, ne_eq, not_false_eq_true, if_true, bne_self_eq_false, cond_false, h0, h1]
        simp
end Go.Proofs.YtmpglmcjoelciaaGreatDoor.Ev
